/- Contract: how many spans a cover needs. -/
import Derived.Test.YtmgpbjpohbpgpaaG
import Derived.Test.YtmgpbjpohbpgpaaHF
import Derived.Test.YtmgpbjpohbpgpaaA
import Derived.Test.YtmgpbjpohbpgpaaPn
set_option linter.unusedSimpArgs false
set_option linter.unusedVariables false
namespace Go.Proofs.Ytmgpbjpohbpgpaa
open Go.RowKit
/-- The first span of what is left. -/
theorem rest_of (L : List Sp) (R : List Sp) (hR : nrm (mi [⟨0, 1440⟩] L) = R) (v : Option Nat) (hv : gap L = v) : (v = none ∧ R = []) ∨ ∃ p s r, v = some p ∧ R = s :: r ∧ s.f = ((p : Nat) : Int) := by
  have h := rest_gap L
  rw [hv, hR] at h
  cases v with
  | none => exact .inl ⟨rfl, h⟩
  | some p => obtain ⟨s, r, h1, h2⟩ := h; exact .inr ⟨p, s, r, rfl, h1, h2⟩
theorem needG_none {S L : List Sp} {k : Nat} {n : Int} (h : gap L = none) : needG S (k + 1) L n = n := by rw [needG, h]
theorem needG_bad {S L : List Sp} {k p : Nat} {n : Int} (h : gap L = some p) (hb : (bestS p ⟨0, 0⟩ S).t = 0) : needG S (k + 1) L n = -1 := by rw [needG, h]; exact if_pos hb
theorem needG_go {S L : List Sp} {k p : Nat} {n : Int} (h : gap L = some p) (hb : (bestS p ⟨0, 0⟩ S).t ≠ 0) : needG S (k + 1) L n = needG S k (L ++ [bestS p ⟨0, 0⟩ S]) (n + 1) := by rw [needG, h]; exact if_neg hb
/-- A step of the outer loop covers a minute more. -/
theorem gap_step {S L : List Sp} {p j : Nat} (h : gap L = some p) (hb : (bestS p ⟨0, 0⟩ S).t ≠ 0) (hj : ∀ m < j, inL L (m : Nat) = true) : j ≤ p ∧ p < 1440 ∧ ∀ m < j + 1, inL (L ++ [bestS p ⟨0, 0⟩ S]) (m : Nat) = true := by
  obtain ⟨h1, h2, h3⟩ := gap_some h
  have hjp : j ≤ p := by
    rcases Nat.lt_or_ge p j with g | g
    · rw [hj p g] at h2; simp at h2
    · exact g
  refine ⟨hjp, h1, fun m hm => ?_⟩
  rw [inL_app]
  rcases Nat.lt_or_ge m p with g | g
  · rw [h3 m g]; rfl
  · have e : m = p := by omega
    subst e
    obtain ⟨b1, -, -⟩ := best_spec m S ⟨0, 0⟩
    rcases b1 with b1 | ⟨-, b2, b3⟩
    · rw [b1] at hb; exact absurd rfl hb
    · simp [inL, inS]; right; exact ⟨b2, b3⟩
theorem best_step {S : List Sp} {p : Int} {b s r : Sp} {k : Nat} (h : S[k]? = some s) (hr : bestS p b (S.drop k) = r) : bestS p (if betS p b s then s else b) (S.drop (k + 1)) = r := by
  obtain ⟨hk, rfl⟩ := List.getElem?_eq_some_iff.1 h
  rw [List.drop_eq_getElem_cons hk] at hr
  exact hr
set_option maxRecDepth 100000 in
set_option maxHeartbeats 3200000 in
theorem need_any (A A2 : Option Addr) (c c2 : Nat) (C S : List Sp) (w : World) (ha : Slc w Sp.cells 2 A C) (hb : Slc w Sp.cells 2 A2 S) (hna : C.length < 10000) (hnb : S.length < 10000) : Calls Try.prog 44 #[.slice A C.length c, .slice A2 S.length c2] w (RetE w (need C S)) := by
  obtain ⟨v, hv⟩ : ∃ v, need C S = v := ⟨_, rfl⟩
  have HV := Lib.hid (show needG S 1441 C 0 = v from hv)
  rw [hv]
  clear hv
  have HS := Lib.hid hb
  have HCl := Lib.hid (cloneS_any A c C.length C w rfl ha (by omega))
  clear ha hb
  go_enter Try.func44, Try.ntmps44
  go_wp2_with fail
  refine HCl.out.mono ?_
  rintro e w1 ⟨A1, c1, rfl, hO, hB⟩
  clear HCl
  have E1 := Lib.hid hB
  go_wp2_with fail
  go_loopw [4, 5] (fun i L W => ∃ (j : Nat) (M : List Sp), j ≤ 1440 ∧ i = .int .i64 j ∧ M.length = C.length + j ∧ needG S (1441 - j) M j = v ∧ (∀ m < j, inL M (m : Nat) = true) ∧ Own W w.heap.size 40 Sp.cells 2 L M ∧ Below w.heap.size w W) (fun i _ _ => 1441 - (intOf i).toNat)
  case atStart => exact ⟨0, C, by omega, rfl, rfl, HV.out, fun m h => absurd h (by omega), hO, hB⟩
  case round =>
    obtain ⟨wo, rfl⟩ : ∃ wo, wo = wr := ⟨_, rfl⟩
    obtain ⟨j, M, hj, rfl, hM, hG, hcov, hO, hB⟩ := hrel
    have HG := Lib.hid hG
    have HC := Lib.hid hcov
    have HM := Lib.hid hM
    have E := Lib.hid hB
    clear hG hcov E1 HV hB
    obtain ⟨R, hR⟩ : ∃ R, nrm (mi [⟨0, 1440⟩] M) = R := ⟨_, rfl⟩
    obtain ⟨g, hg⟩ : ∃ g, gap M = g := ⟨_, rfl⟩
    have HR := Lib.hid (rest_of M R hR g hg)
    have HGp := Lib.hid hg
    have HO := Lib.hid hO
    obtain ⟨A3, c3, rfl, hc3, -, -⟩ := hO.form
    have hS0 := slc_litH wo [(⟨0, 1440⟩ : Sp)] #[.int .i64 0, .int .i64 1440] 40 (enc := Sp.cells) (sz := 2) (fun _ => rfl) rfl wo.heap.size rfl
    have HMi := Lib.hid (minus_any (some ⟨wo.heap.size, 0, none⟩) A3 1 c3 [⟨0, 1440⟩] M _ hS0 ((hO.alloc (.cells #[.int .i64 0, .int .i64 1440] 40)).slc (fun _ => rfl) (by decide)) (by simp) (by omega))
    rw [hR] at HMi
    clear hS0 hR hg hO hM
    go_wp2_with fail
    refine HMi.out.mono ?_
    rintro e w2 ⟨A4, c4, rfl, hsR, hB⟩
    clear HMi
    replace E := Lib.hid (ext_trans (ext_alloc E.out _) hB)
    replace HO := Lib.hid ((HO.out.alloc _).ext hB)
    replace HS := Lib.hid (HS.out.ext E.out)
    clear hB
    rcases HR.out with ⟨rfl, rfl⟩ | ⟨p, s, r, rfl, rfl, hsp⟩
    · clear HR hsR
      have hret := Lib.hid (show (j : Int) = v by rw [← HG.out, show 1441 - j = (1440 - j) + 1 by omega, needG_none HGp.out])
      go_wp2_with fail
      go_ret
      exact ⟨ret_int hret.out, E.out⟩
    · obtain ⟨b1, o1, rfl, hb1, hd⟩ := hsR 0 s rfl
      have d0 := hd 0 _ rfl
      have HSP := Lib.hid hsp
      clear hd HR hsp
      simp only [Nat.zero_mul, Nat.add_zero] at d0
      have hrl : 0 < (s :: r).length := by simp
      have hrl0 : (0 : Int) < ((s :: r).length : Int) := by first | (simp; done) | (simp; omega)
      obtain ⟨rn, hrn⟩ : ∃ n, (s :: r).length = n := ⟨_, rfl⟩
      rw [hrn] at hrl hrl0 ⊢
      clear hrn
      have hr1 : ((rn : Int) == 0) = false := by first | (simp; done) | (simp; omega)
      go_wp2_with fail
      obtain ⟨bst, hbst⟩ : ∃ b, bestS p ⟨0, 0⟩ S = b := ⟨_, rfl⟩
      have HBst := Lib.hid hbst
      have hbx := Blk.newH w2 [.int .i64 0, .int .i64 0] 40 w2.heap.size rfl
      go_loopw [23] (fun i W => ∃ (k : Nat) (b : Sp), k ≤ S.length ∧ i = .int .i64 k ∧ bestS p b (S.drop k) = bst ∧ Blk W w2.heap.size [.int .i64 b.f, .int .i64 b.t] ∧ Below w2.heap.size w2 W) (fun i _ => S.length - (intOf i).toNat)
      case atStart => exact ⟨0, ⟨0, 0⟩, Nat.zero_le _, rfl, hbst, hbx, ext_alloc (ext_refl _) _⟩
      case round =>
        obtain ⟨k, b, hk, rfl, hbs, hBB, hB2⟩ := hrel
        have BB := Lib.hid hBB
        have HB := Lib.hid hbs
        clear hBB hbs hbst hbx
        by_cases hlt : k < S.length
        rotate_left
        · obtain rfl : k = S.length := by omega
          have hb0 := HB.out
          rw [List.drop_length] at hb0
          obtain rfl : b = bst := hb0
          clear HB
          have t0 := BB.out.c 0 _ rfl
          have t1 := BB.out.c 1 _ rfl
          have hb0 := HBst.out
          replace E := Lib.hid (ext_trans E.out hB2)
          replace HO := Lib.hid (HO.out.ext hB2)
          have hMl := HM.out
          by_cases h0 : b.t = 0
          · have hz : (b.t == 0) = true := by simp [h0]
            have hret := Lib.hid (show (-1 : Int) = v by rw [← HG.out, show 1441 - j = (1440 - j) + 1 by omega, needG_bad HGp.out (by rw [hb0]; exact h0)])
            clear h0 hb0
            go_wp2_with fail
            go_ret
            exact ⟨ret_int hret.out, E.out⟩
          · have hz : (b.t == 0) = false := by simp [h0]
            have hgs := gap_step (S := S) HGp.out (by rw [hb0]; exact h0) HC.out
            have hng := needG_go (S := S) (k := 1440 - j) (n := j) HGp.out (by rw [hb0]; exact h0)
            rw [hb0] at hgs hng
            rw [show 1440 - j + 1 = 1441 - j by omega, HG.out] at hng
            obtain ⟨hjp, hp, hcv⟩ := hgs
            have HNg := Lib.hid hng.symm
            have HCv := Lib.hid hcv
            have hj1 : j + 1 ≤ 1440 := by omega
            clear hng hcv h0 hb0 hjp hp
            have hS := slc_litH wr [b] #[.int .i64 b.f, .int .i64 b.t] 40 (enc := Sp.cells) (sz := 2) (fun _ => rfl) rfl wr.heap.size rfl
            obtain ⟨v', w5, hrun, A6, c6, hv6, hO6, hB5, -, -, -⟩ := Own.append_k (w0 := w) I22 46 (HO.out.alloc (.cells #[.int .i64 b.f, .int .i64 b.t] 40)) (ext_alloc E.out _) (ys := [b]) (m := 1) rfl 1 hS (M ++ [b]) rfl _ rfl (by simp; omega) (by unfold maxLen; simp; omega)
            rw [← hv6] at hO6
            have HRUN := Lib.hid hrun
            have HO6 := Lib.hid hO6
            have HB5 := Lib.hid hB5
            clear hrun hO6 hB5 hS hv6
            go_wp2_with (at_builtin; refine wpList_append_run rfl (.tmp 51) (.tmp 53) 46 rfl (.slice A3 M.length c3) (.slice (some ⟨wr.heap.size, 0, none⟩) 1 1) rfl rfl HRUN.out ?_)
            exact ⟨⟨j + 1, M ++ [b], hj1, by go_num, by simp; omega, by rw [show 1441 - (j + 1) = 1440 - j by omega]; exact HNg.out, HCv.out, HO6.out, HB5.out⟩, by simp [intOf]; omega⟩
        · obtain ⟨x, b2, o2, hx, hA2, hb2, hd⟩ := (HS.out.ext hB2).at_ hlt
          have HX := Lib.hid hx
          have e0 := hd 0 _ rfl
          have e1 := hd 1 _ rfl
          simp only [Nat.add_zero] at e0
          clear hd hx
          have hlt' : (k : Int) < S.length := by omega
          have HSt := Lib.hid (best_step HX.out HB.out)
          clear HB
          by_cases g1 : x.f ≤ s.f
          rotate_left
          · have f1 : decide (x.f ≤ s.f) = false := by simp [g1]
            have HN := Lib.hid (show bestS p b (S.drop (k + 1)) = bst by have := HSt.out; rwa [if_neg (by have := HSP.out; simp [betS]; omega)] at this)
            clear g1 HSt
            have Eo := Lib.hid E.out
            clear E
            have E := Lib.hid hB2
            replace BB := Lib.hid (BB.out.alloc (.cells #[.int .i64 x.f, .int .i64 x.t] 40))
            replace E := Lib.hid (ext_alloc E.out (.cells #[.int .i64 x.f, .int .i64 x.t] 40))
            have X := Lib.hid (Blk.newH wr [.int .i64 x.f, .int .i64 x.t] 40 (wr.heap.size) (by first | rfl | simp))
            have Rs := Lib.hid (ext_alloc hB2 (.cells #[.int .i64 x.f, .int .i64 x.t] 40))
            go_wp2_with fail
            have SS := Lib.hid (show ∀ w', Below (wr.alloc (.cells #[.int .i64 x.f, .int .i64 x.t] 40)).heap.size (wr.alloc (.cells #[.int .i64 x.f, .int .i64 x.t] 40)) w' → (fun w' => Below (wr.alloc (.cells #[.int .i64 x.f, .int .i64 x.t] 40)).heap.size (wr.alloc (.cells #[.int .i64 x.f, .int .i64 x.t] 40)) w' ∧ w'.cell? ⟨wr.heap.size, 0, none⟩ = some (.int .i64 x.f) ∧ w'.cell? ⟨wr.heap.size, 1, none⟩ = some (.int .i64 x.t) ∧ w'.cell? ⟨w2.heap.size, 1, none⟩ = some (.int .i64 b.t) ∧ w'.cell? ⟨b1, o1, none⟩ = some (.int .i64 s.f)) w' from fun w' h => ⟨h, (X.out.ext h).c 0 _ rfl, (X.out.ext h).c 1 _ rfl, (BB.out.ext h).c 1 _ rfl, ((ext_trans Rs.out (h : Below _ _ _)).cell (p := ⟨b1, o1, none⟩) hb1).trans d0⟩)
            refine rg_begin (S := (fun w' => Below (wr.alloc (.cells #[.int .i64 x.f, .int .i64 x.t] 40)).heap.size (wr.alloc (.cells #[.int .i64 x.f, .int .i64 x.t] 40)) w' ∧ w'.cell? ⟨wr.heap.size, 0, none⟩ = some (.int .i64 x.f) ∧ w'.cell? ⟨wr.heap.size, 1, none⟩ = some (.int .i64 x.t) ∧ w'.cell? ⟨w2.heap.size, 1, none⟩ = some (.int .i64 b.t) ∧ w'.cell? ⟨b1, o1, none⟩ = some (.int .i64 s.f))) 19 (by kernel_rfl) (by intro d; cases d <;> intro _ _ _ _ h <;> exact h) ?_ (fun Q7 hQ7 hN7 hHeld => ?_)
            · exact SS.out _ (ext_drew (ext_refl _))
            refine rg_take (i := 0) (some 27) (v := ?_) rfl rfl (by kernel_rfl) (by rfl) hQ7 hHeld ?_ ?_
            rotate_left
            · intro w7 hSw; (try dsimp only at hSw); go_simp; all_goals with_reducible rfl
            try simp only [Act.put, List.setIfInBounds_toArray, List.set_cons_zero, List.set_cons_succ]
            refine rg_take (i := 1) (some 28) (v := ?_) rfl rfl (by kernel_rfl) (by rfl) hQ7 hHeld ?_ ?_
            rotate_left
            · intro w7 hSw; (try dsimp only at hSw); go_simp; all_goals with_reducible rfl
            try simp only [Act.put, List.setIfInBounds_toArray, List.set_cons_zero, List.set_cons_succ]
            refine rg_take (i := 2) (some 29) (v := ?_) rfl rfl (by kernel_rfl) (by rfl) hQ7 hHeld ?_ ?_
            rotate_left
            · intro w7 hSw; (try dsimp only at hSw); go_simp; all_goals with_reducible rfl
            try simp only [Act.put, List.setIfInBounds_toArray, List.set_cons_zero, List.set_cons_succ]
            refine rg_take (i := 3) (some 30) (v := ?_) rfl rfl (by kernel_rfl) (by rfl) hQ7 hHeld ?_ ?_
            rotate_left
            · intro w7 hSw; (try dsimp only at hSw); go_simp; all_goals with_reducible rfl
            try simp only [Act.put, List.setIfInBounds_toArray, List.set_cons_zero, List.set_cons_succ]
            refine rg_take (i := 4) (some 31) (v := ?_) rfl rfl (by kernel_rfl) (by rfl) hQ7 hHeld ?_ ?_
            rotate_left
            · intro w7 hSw; (try dsimp only at hSw); go_simp; all_goals with_reducible rfl
            try simp only [Act.put, List.setIfInBounds_toArray, List.set_cons_zero, List.set_cons_succ]
            refine rg_take (i := 5) (some 32) (v := ?_) rfl rfl (by kernel_rfl) (by rfl) hQ7 hHeld ?_ ?_
            rotate_left
            · intro w7 hSw; (try dsimp only at hSw); go_simp; all_goals with_reducible rfl
            try simp only [Act.put, List.setIfInBounds_toArray, List.set_cons_zero, List.set_cons_succ]
            refine rg_take (i := 6) (some 33) (v := ?_) rfl rfl (by kernel_rfl) (by rfl) hQ7 hHeld ?_ ?_
            rotate_left
            · intro w7 hSw; (try dsimp only at hSw); go_simp; all_goals with_reducible rfl
            try simp only [Act.put, List.setIfInBounds_toArray, List.set_cons_zero, List.set_cons_succ]
            refine rg_take (i := 7) (some 34) (v := ?_) rfl rfl (by kernel_rfl) (by rfl) hQ7 hHeld ?_ ?_
            rotate_left
            · intro w7 hSw; (try dsimp only at hSw); go_simp; all_goals with_reducible rfl
            try simp only [Act.put, List.setIfInBounds_toArray, List.set_cons_zero, List.set_cons_succ]
            refine rg_skip (i := 8) (some 35) rfl rfl (by kernel_rfl) (by rfl) hQ7 hHeld ?_
            try simp only [Act.put, List.setIfInBounds_toArray, List.set_cons_zero, List.set_cons_succ]
            refine rg_skip (i := 9) (some 36) rfl rfl (by kernel_rfl) (by rfl) hQ7 hHeld ?_
            try simp only [Act.put, List.setIfInBounds_toArray, List.set_cons_zero, List.set_cons_succ]
            refine rg_skip (i := 10) (some 37) rfl rfl (by kernel_rfl) (by rfl) hQ7 hHeld ?_
            try simp only [Act.put, List.setIfInBounds_toArray, List.set_cons_zero, List.set_cons_succ]
            refine rg_skip (i := 11) (some 38) rfl rfl (by kernel_rfl) (by rfl) hQ7 hHeld ?_
            try simp only [Act.put, List.setIfInBounds_toArray, List.set_cons_zero, List.set_cons_succ]
            refine rg_skip (i := 12) (some 39) rfl rfl (by kernel_rfl) (by rfl) hQ7 hHeld ?_
            try simp only [Act.put, List.setIfInBounds_toArray, List.set_cons_zero, List.set_cons_succ]
            refine rg_skip (i := 13) (some 40) rfl rfl (by kernel_rfl) (by rfl) hQ7 hHeld ?_
            try simp only [Act.put, List.setIfInBounds_toArray, List.set_cons_zero, List.set_cons_succ]
            refine rg_skip (i := 14) (some 41) rfl rfl (by kernel_rfl) (by rfl) hQ7 hHeld ?_
            try simp only [Act.put, List.setIfInBounds_toArray, List.set_cons_zero, List.set_cons_succ]
            refine rg_skip (i := 15) (some 42) rfl rfl (by kernel_rfl) (by rfl) hQ7 hHeld ?_
            try simp only [Act.put, List.setIfInBounds_toArray, List.set_cons_zero, List.set_cons_succ]
            refine rg_skip (i := 16) (some 43) rfl rfl (by kernel_rfl) (by rfl) hQ7 hHeld ?_
            try simp only [Act.put, List.setIfInBounds_toArray, List.set_cons_zero, List.set_cons_succ]
            refine rg_skip (i := 17) (some 44) rfl rfl (by kernel_rfl) (by rfl) hQ7 hHeld ?_
            try simp only [Act.put, List.setIfInBounds_toArray, List.set_cons_zero, List.set_cons_succ]
            refine rg_take (i := 18) (some 45) (v := ?_) rfl rfl (by kernel_rfl) (by rfl) hQ7 hHeld ?_ ?_
            rotate_left
            · intro w7 hSw; (try dsimp only at hSw); go_simp; all_goals with_reducible rfl
            try simp only [Act.put, List.setIfInBounds_toArray, List.set_cons_zero, List.set_cons_succ]
            refine rg_end (by kernel_rfl) (hN7 _ _ ?_) _
            clear hQ7 hN7 Q7
            have BX := hHeld.1
            clear SS
            replace E := Lib.hid (ext_trans E.out BX)
            replace BB := Lib.hid (BB.out.ext BX)
            replace X := Lib.hid (X.out.ext BX)
            clear BX Rs
            go_wp2_with fail
            exact ⟨⟨k + 1, b, hlt, by go_num, HN.out, BB.out, E.out⟩, by simp [intOf]; omega⟩
          · have f1 : decide (x.f ≤ s.f) = true := by simp [g1]
            by_cases g3 : (if s.f < b.t then b.t else s.f) < x.t
            · have HN := Lib.hid (show bestS p x (S.drop (k + 1)) = bst by have := HSt.out; have h9 := HSP.out; rwa [if_pos (by simp only [betS, Bool.and_eq_true, decide_eq_true_eq]; split at g3 <;> omega)] at this)
              have f2 : decide ((if s.f < b.t then b.t else s.f) < x.t) = true := by simp only [g3]; rfl
              clear g3 g1 HSt
              have Eo := Lib.hid E.out
              clear E
              have E := Lib.hid hB2
              replace BB := Lib.hid (BB.out.alloc (.cells #[.int .i64 x.f, .int .i64 x.t] 40))
              replace E := Lib.hid (ext_alloc E.out (.cells #[.int .i64 x.f, .int .i64 x.t] 40))
              have X := Lib.hid (Blk.newH wr [.int .i64 x.f, .int .i64 x.t] 40 (wr.heap.size) (by first | rfl | simp))
              have Rs := Lib.hid (ext_alloc hB2 (.cells #[.int .i64 x.f, .int .i64 x.t] 40))
              go_wp2_with fail
              have SS := Lib.hid (show ∀ w', Below (wr.alloc (.cells #[.int .i64 x.f, .int .i64 x.t] 40)).heap.size (wr.alloc (.cells #[.int .i64 x.f, .int .i64 x.t] 40)) w' → (fun w' => Below (wr.alloc (.cells #[.int .i64 x.f, .int .i64 x.t] 40)).heap.size (wr.alloc (.cells #[.int .i64 x.f, .int .i64 x.t] 40)) w' ∧ w'.cell? ⟨wr.heap.size, 0, none⟩ = some (.int .i64 x.f) ∧ w'.cell? ⟨wr.heap.size, 1, none⟩ = some (.int .i64 x.t) ∧ w'.cell? ⟨w2.heap.size, 1, none⟩ = some (.int .i64 b.t) ∧ w'.cell? ⟨b1, o1, none⟩ = some (.int .i64 s.f)) w' from fun w' h => ⟨h, (X.out.ext h).c 0 _ rfl, (X.out.ext h).c 1 _ rfl, (BB.out.ext h).c 1 _ rfl, ((ext_trans Rs.out (h : Below _ _ _)).cell (p := ⟨b1, o1, none⟩) hb1).trans d0⟩)
              refine rg_begin (S := (fun w' => Below (wr.alloc (.cells #[.int .i64 x.f, .int .i64 x.t] 40)).heap.size (wr.alloc (.cells #[.int .i64 x.f, .int .i64 x.t] 40)) w' ∧ w'.cell? ⟨wr.heap.size, 0, none⟩ = some (.int .i64 x.f) ∧ w'.cell? ⟨wr.heap.size, 1, none⟩ = some (.int .i64 x.t) ∧ w'.cell? ⟨w2.heap.size, 1, none⟩ = some (.int .i64 b.t) ∧ w'.cell? ⟨b1, o1, none⟩ = some (.int .i64 s.f))) 19 (by kernel_rfl) (by intro d; cases d <;> intro _ _ _ _ h <;> exact h) ?_ (fun Q7 hQ7 hN7 hHeld => ?_)
              · exact SS.out _ (ext_drew (ext_refl _))
              refine rg_take (i := 0) (some 27) (v := ?_) rfl rfl (by kernel_rfl) (by rfl) hQ7 hHeld ?_ ?_
              rotate_left
              · intro w7 hSw; (try dsimp only at hSw); go_simp; all_goals with_reducible rfl
              try simp only [Act.put, List.setIfInBounds_toArray, List.set_cons_zero, List.set_cons_succ]
              refine rg_take (i := 1) (some 28) (v := ?_) rfl rfl (by kernel_rfl) (by rfl) hQ7 hHeld ?_ ?_
              rotate_left
              · intro w7 hSw; (try dsimp only at hSw); go_simp; all_goals with_reducible rfl
              try simp only [Act.put, List.setIfInBounds_toArray, List.set_cons_zero, List.set_cons_succ]
              refine rg_take (i := 2) (some 29) (v := ?_) rfl rfl (by kernel_rfl) (by rfl) hQ7 hHeld ?_ ?_
              rotate_left
              · intro w7 hSw; (try dsimp only at hSw); go_simp; all_goals with_reducible rfl
              try simp only [Act.put, List.setIfInBounds_toArray, List.set_cons_zero, List.set_cons_succ]
              refine rg_take (i := 3) (some 30) (v := ?_) rfl rfl (by kernel_rfl) (by rfl) hQ7 hHeld ?_ ?_
              rotate_left
              · intro w7 hSw; (try dsimp only at hSw); go_simp; all_goals with_reducible rfl
              try simp only [Act.put, List.setIfInBounds_toArray, List.set_cons_zero, List.set_cons_succ]
              refine rg_take (i := 4) (some 31) (v := ?_) rfl rfl (by kernel_rfl) (by rfl) hQ7 hHeld ?_ ?_
              rotate_left
              · intro w7 hSw; (try dsimp only at hSw); go_simp; all_goals with_reducible rfl
              try simp only [Act.put, List.setIfInBounds_toArray, List.set_cons_zero, List.set_cons_succ]
              refine rg_take (i := 5) (some 32) (v := ?_) rfl rfl (by kernel_rfl) (by rfl) hQ7 hHeld ?_ ?_
              rotate_left
              · intro w7 hSw; (try dsimp only at hSw); go_simp; all_goals with_reducible rfl
              try simp only [Act.put, List.setIfInBounds_toArray, List.set_cons_zero, List.set_cons_succ]
              refine rg_take (i := 6) (some 33) (v := ?_) rfl rfl (by kernel_rfl) (by rfl) hQ7 hHeld ?_ ?_
              rotate_left
              · intro w7 hSw; (try dsimp only at hSw); go_simp; all_goals with_reducible rfl
              try simp only [Act.put, List.setIfInBounds_toArray, List.set_cons_zero, List.set_cons_succ]
              refine rg_take (i := 7) (some 34) (v := ?_) rfl rfl (by kernel_rfl) (by rfl) hQ7 hHeld ?_ ?_
              rotate_left
              · intro w7 hSw; (try dsimp only at hSw); go_simp; all_goals with_reducible rfl
              try simp only [Act.put, List.setIfInBounds_toArray, List.set_cons_zero, List.set_cons_succ]
              refine rg_take (i := 8) (some 35) (v := ?_) rfl rfl (by kernel_rfl) (by rfl) hQ7 hHeld ?_ ?_
              rotate_left
              · intro w7 hSw; (try dsimp only at hSw); go_simp; all_goals with_reducible rfl
              try simp only [Act.put, List.setIfInBounds_toArray, List.set_cons_zero, List.set_cons_succ]
              refine rg_take (i := 9) (some 36) (v := ?_) rfl rfl (by kernel_rfl) (by rfl) hQ7 hHeld ?_ ?_
              rotate_left
              · intro w7 hSw; (try dsimp only at hSw); go_simp; all_goals with_reducible rfl
              try simp only [Act.put, List.setIfInBounds_toArray, List.set_cons_zero, List.set_cons_succ]
              refine rg_take (i := 10) (some 37) (v := ?_) rfl rfl (by kernel_rfl) (by rfl) hQ7 hHeld ?_ ?_
              rotate_left
              · intro w7 hSw; (try dsimp only at hSw); go_simp; all_goals with_reducible rfl
              try simp only [Act.put, List.setIfInBounds_toArray, List.set_cons_zero, List.set_cons_succ]
              refine rg_take (i := 11) (some 38) (v := ?_) rfl rfl (by kernel_rfl) (by rfl) hQ7 hHeld ?_ ?_
              rotate_left
              · intro w7 hSw; (try dsimp only at hSw); go_simp; all_goals with_reducible rfl
              try simp only [Act.put, List.setIfInBounds_toArray, List.set_cons_zero, List.set_cons_succ]
              refine rg_take (i := 12) (some 39) (v := ?_) rfl rfl (by kernel_rfl) (by rfl) hQ7 hHeld ?_ ?_
              rotate_left
              · intro w7 hSw; (try dsimp only at hSw); go_simp; all_goals with_reducible rfl
              try simp only [Act.put, List.setIfInBounds_toArray, List.set_cons_zero, List.set_cons_succ]
              refine rg_take (i := 13) (some 40) (v := ?_) rfl rfl (by kernel_rfl) (by rfl) hQ7 hHeld ?_ ?_
              rotate_left
              · intro w7 hSw; (try dsimp only at hSw); go_simp; all_goals with_reducible rfl
              try simp only [Act.put, List.setIfInBounds_toArray, List.set_cons_zero, List.set_cons_succ]
              refine rg_take (i := 14) (some 41) (v := ?_) rfl rfl (by kernel_rfl) (by rfl) hQ7 hHeld ?_ ?_
              rotate_left
              · intro w7 hSw; (try dsimp only at hSw); go_simp; all_goals with_reducible rfl
              try simp only [Act.put, List.setIfInBounds_toArray, List.set_cons_zero, List.set_cons_succ]
              refine rg_take (i := 15) (some 42) (v := ?_) rfl rfl (by kernel_rfl) (by rfl) hQ7 hHeld ?_ ?_
              rotate_left
              · intro w7 hSw; (try dsimp only at hSw); go_simp; all_goals with_reducible rfl
              try simp only [Act.put, List.setIfInBounds_toArray, List.set_cons_zero, List.set_cons_succ]
              refine rg_take (i := 16) (some 43) (v := ?_) rfl rfl (by kernel_rfl) (by rfl) hQ7 hHeld ?_ ?_
              rotate_left
              · intro w7 hSw; (try dsimp only at hSw); go_simp; all_goals with_reducible rfl
              try simp only [Act.put, List.setIfInBounds_toArray, List.set_cons_zero, List.set_cons_succ]
              refine rg_take (i := 17) (some 44) (v := ?_) rfl rfl (by kernel_rfl) (by rfl) hQ7 hHeld ?_ ?_
              rotate_left
              · intro w7 hSw; (try dsimp only at hSw); go_simp; all_goals with_reducible rfl
              try simp only [Act.put, List.setIfInBounds_toArray, List.set_cons_zero, List.set_cons_succ]
              refine rg_take (i := 18) (some 45) (v := ?_) rfl rfl (by kernel_rfl) (by rfl) hQ7 hHeld ?_ ?_
              rotate_left
              · intro w7 hSw; (try dsimp only at hSw); go_simp; all_goals with_reducible rfl
              try simp only [Act.put, List.setIfInBounds_toArray, List.set_cons_zero, List.set_cons_succ]
              refine rg_end (by kernel_rfl) (hN7 _ _ ?_) _
              clear hQ7 hN7 Q7
              have BX := hHeld.1
              clear SS
              replace E := Lib.hid (ext_trans E.out BX)
              replace BB := Lib.hid (BB.out.ext BX)
              replace X := Lib.hid (X.out.ext BX)
              clear BX Rs
              obtain ⟨wz, hNwz⟩ : ∃ W0, W0 = (wr.alloc (.cells #[.int .i64 x.f, .int .i64 x.t] 40)).drew := ⟨_, rfl⟩
              rw [← hNwz] at BB E X ⊢
              clear hNwz
              have x0 := X.out.c 0 _ rfl
              have x1 := X.out.c 1 _ rfl
              have xf := X.out.f
              have xl := X.out.lt
              have bb0 := BB.out.c 0 _ rfl
              have bb1 := BB.out.c 1 _ rfl
              have bbf := BB.out.f
              have bbl := BB.out.lt
              go_wp2_with fail
              clear X
              replace BB := Lib.hid (BB.out.put2 (.int .i64 x.f) (.int .i64 x.t))
              replace E := Lib.hid (ext_set2 E.out (w2.heap.size) (.int .i64 x.f) (.int .i64 x.t) (by first | exact Nat.le_refl _ | omega | (simp; done) | (simp; omega)))
              unfold set2 at BB E
              exact ⟨⟨k + 1, x, hlt, by go_num, HN.out, BB.out, E.out⟩, by simp [intOf]; omega⟩
            · have HN := Lib.hid (show bestS p b (S.drop (k + 1)) = bst by have := HSt.out; have h9 := HSP.out; rwa [if_neg (by simp only [betS, Bool.and_eq_true, decide_eq_true_eq]; split at g3 <;> omega)] at this)
              have f2 : decide ((if s.f < b.t then b.t else s.f) < x.t) = false := by simp only [g3]; rfl
              clear g3 g1 HSt
              have Eo := Lib.hid E.out
              clear E
              have E := Lib.hid hB2
              replace BB := Lib.hid (BB.out.alloc (.cells #[.int .i64 x.f, .int .i64 x.t] 40))
              replace E := Lib.hid (ext_alloc E.out (.cells #[.int .i64 x.f, .int .i64 x.t] 40))
              have X := Lib.hid (Blk.newH wr [.int .i64 x.f, .int .i64 x.t] 40 (wr.heap.size) (by first | rfl | simp))
              have Rs := Lib.hid (ext_alloc hB2 (.cells #[.int .i64 x.f, .int .i64 x.t] 40))
              go_wp2_with fail
              have SS := Lib.hid (show ∀ w', Below (wr.alloc (.cells #[.int .i64 x.f, .int .i64 x.t] 40)).heap.size (wr.alloc (.cells #[.int .i64 x.f, .int .i64 x.t] 40)) w' → (fun w' => Below (wr.alloc (.cells #[.int .i64 x.f, .int .i64 x.t] 40)).heap.size (wr.alloc (.cells #[.int .i64 x.f, .int .i64 x.t] 40)) w' ∧ w'.cell? ⟨wr.heap.size, 0, none⟩ = some (.int .i64 x.f) ∧ w'.cell? ⟨wr.heap.size, 1, none⟩ = some (.int .i64 x.t) ∧ w'.cell? ⟨w2.heap.size, 1, none⟩ = some (.int .i64 b.t) ∧ w'.cell? ⟨b1, o1, none⟩ = some (.int .i64 s.f)) w' from fun w' h => ⟨h, (X.out.ext h).c 0 _ rfl, (X.out.ext h).c 1 _ rfl, (BB.out.ext h).c 1 _ rfl, ((ext_trans Rs.out (h : Below _ _ _)).cell (p := ⟨b1, o1, none⟩) hb1).trans d0⟩)
              refine rg_begin (S := (fun w' => Below (wr.alloc (.cells #[.int .i64 x.f, .int .i64 x.t] 40)).heap.size (wr.alloc (.cells #[.int .i64 x.f, .int .i64 x.t] 40)) w' ∧ w'.cell? ⟨wr.heap.size, 0, none⟩ = some (.int .i64 x.f) ∧ w'.cell? ⟨wr.heap.size, 1, none⟩ = some (.int .i64 x.t) ∧ w'.cell? ⟨w2.heap.size, 1, none⟩ = some (.int .i64 b.t) ∧ w'.cell? ⟨b1, o1, none⟩ = some (.int .i64 s.f))) 19 (by kernel_rfl) (by intro d; cases d <;> intro _ _ _ _ h <;> exact h) ?_ (fun Q7 hQ7 hN7 hHeld => ?_)
              · exact SS.out _ (ext_drew (ext_refl _))
              refine rg_take (i := 0) (some 27) (v := ?_) rfl rfl (by kernel_rfl) (by rfl) hQ7 hHeld ?_ ?_
              rotate_left
              · intro w7 hSw; (try dsimp only at hSw); go_simp; all_goals with_reducible rfl
              try simp only [Act.put, List.setIfInBounds_toArray, List.set_cons_zero, List.set_cons_succ]
              refine rg_take (i := 1) (some 28) (v := ?_) rfl rfl (by kernel_rfl) (by rfl) hQ7 hHeld ?_ ?_
              rotate_left
              · intro w7 hSw; (try dsimp only at hSw); go_simp; all_goals with_reducible rfl
              try simp only [Act.put, List.setIfInBounds_toArray, List.set_cons_zero, List.set_cons_succ]
              refine rg_take (i := 2) (some 29) (v := ?_) rfl rfl (by kernel_rfl) (by rfl) hQ7 hHeld ?_ ?_
              rotate_left
              · intro w7 hSw; (try dsimp only at hSw); go_simp; all_goals with_reducible rfl
              try simp only [Act.put, List.setIfInBounds_toArray, List.set_cons_zero, List.set_cons_succ]
              refine rg_take (i := 3) (some 30) (v := ?_) rfl rfl (by kernel_rfl) (by rfl) hQ7 hHeld ?_ ?_
              rotate_left
              · intro w7 hSw; (try dsimp only at hSw); go_simp; all_goals with_reducible rfl
              try simp only [Act.put, List.setIfInBounds_toArray, List.set_cons_zero, List.set_cons_succ]
              refine rg_take (i := 4) (some 31) (v := ?_) rfl rfl (by kernel_rfl) (by rfl) hQ7 hHeld ?_ ?_
              rotate_left
              · intro w7 hSw; (try dsimp only at hSw); go_simp; all_goals with_reducible rfl
              try simp only [Act.put, List.setIfInBounds_toArray, List.set_cons_zero, List.set_cons_succ]
              refine rg_take (i := 5) (some 32) (v := ?_) rfl rfl (by kernel_rfl) (by rfl) hQ7 hHeld ?_ ?_
              rotate_left
              · intro w7 hSw; (try dsimp only at hSw); go_simp; all_goals with_reducible rfl
              try simp only [Act.put, List.setIfInBounds_toArray, List.set_cons_zero, List.set_cons_succ]
              refine rg_take (i := 6) (some 33) (v := ?_) rfl rfl (by kernel_rfl) (by rfl) hQ7 hHeld ?_ ?_
              rotate_left
              · intro w7 hSw; (try dsimp only at hSw); go_simp; all_goals with_reducible rfl
              try simp only [Act.put, List.setIfInBounds_toArray, List.set_cons_zero, List.set_cons_succ]
              refine rg_take (i := 7) (some 34) (v := ?_) rfl rfl (by kernel_rfl) (by rfl) hQ7 hHeld ?_ ?_
              rotate_left
              · intro w7 hSw; (try dsimp only at hSw); go_simp; all_goals with_reducible rfl
              try simp only [Act.put, List.setIfInBounds_toArray, List.set_cons_zero, List.set_cons_succ]
              refine rg_take (i := 8) (some 35) (v := ?_) rfl rfl (by kernel_rfl) (by rfl) hQ7 hHeld ?_ ?_
              rotate_left
              · intro w7 hSw; (try dsimp only at hSw); go_simp; all_goals with_reducible rfl
              try simp only [Act.put, List.setIfInBounds_toArray, List.set_cons_zero, List.set_cons_succ]
              refine rg_take (i := 9) (some 36) (v := ?_) rfl rfl (by kernel_rfl) (by rfl) hQ7 hHeld ?_ ?_
              rotate_left
              · intro w7 hSw; (try dsimp only at hSw); go_simp; all_goals with_reducible rfl
              try simp only [Act.put, List.setIfInBounds_toArray, List.set_cons_zero, List.set_cons_succ]
              refine rg_take (i := 10) (some 37) (v := ?_) rfl rfl (by kernel_rfl) (by rfl) hQ7 hHeld ?_ ?_
              rotate_left
              · intro w7 hSw; (try dsimp only at hSw); go_simp; all_goals with_reducible rfl
              try simp only [Act.put, List.setIfInBounds_toArray, List.set_cons_zero, List.set_cons_succ]
              refine rg_take (i := 11) (some 38) (v := ?_) rfl rfl (by kernel_rfl) (by rfl) hQ7 hHeld ?_ ?_
              rotate_left
              · intro w7 hSw; (try dsimp only at hSw); go_simp; all_goals with_reducible rfl
              try simp only [Act.put, List.setIfInBounds_toArray, List.set_cons_zero, List.set_cons_succ]
              refine rg_take (i := 12) (some 39) (v := ?_) rfl rfl (by kernel_rfl) (by rfl) hQ7 hHeld ?_ ?_
              rotate_left
              · intro w7 hSw; (try dsimp only at hSw); go_simp; all_goals with_reducible rfl
              try simp only [Act.put, List.setIfInBounds_toArray, List.set_cons_zero, List.set_cons_succ]
              refine rg_take (i := 13) (some 40) (v := ?_) rfl rfl (by kernel_rfl) (by rfl) hQ7 hHeld ?_ ?_
              rotate_left
              · intro w7 hSw; (try dsimp only at hSw); go_simp; all_goals with_reducible rfl
              try simp only [Act.put, List.setIfInBounds_toArray, List.set_cons_zero, List.set_cons_succ]
              refine rg_take (i := 14) (some 41) (v := ?_) rfl rfl (by kernel_rfl) (by rfl) hQ7 hHeld ?_ ?_
              rotate_left
              · intro w7 hSw; (try dsimp only at hSw); go_simp; all_goals with_reducible rfl
              try simp only [Act.put, List.setIfInBounds_toArray, List.set_cons_zero, List.set_cons_succ]
              refine rg_take (i := 15) (some 42) (v := ?_) rfl rfl (by kernel_rfl) (by rfl) hQ7 hHeld ?_ ?_
              rotate_left
              · intro w7 hSw; (try dsimp only at hSw); go_simp; all_goals with_reducible rfl
              try simp only [Act.put, List.setIfInBounds_toArray, List.set_cons_zero, List.set_cons_succ]
              refine rg_take (i := 16) (some 43) (v := ?_) rfl rfl (by kernel_rfl) (by rfl) hQ7 hHeld ?_ ?_
              rotate_left
              · intro w7 hSw; (try dsimp only at hSw); go_simp; all_goals with_reducible rfl
              try simp only [Act.put, List.setIfInBounds_toArray, List.set_cons_zero, List.set_cons_succ]
              refine rg_take (i := 17) (some 44) (v := ?_) rfl rfl (by kernel_rfl) (by rfl) hQ7 hHeld ?_ ?_
              rotate_left
              · intro w7 hSw; (try dsimp only at hSw); go_simp; all_goals with_reducible rfl
              try simp only [Act.put, List.setIfInBounds_toArray, List.set_cons_zero, List.set_cons_succ]
              refine rg_take (i := 18) (some 45) (v := ?_) rfl rfl (by kernel_rfl) (by rfl) hQ7 hHeld ?_ ?_
              rotate_left
              · intro w7 hSw; (try dsimp only at hSw); go_simp; all_goals with_reducible rfl
              try simp only [Act.put, List.setIfInBounds_toArray, List.set_cons_zero, List.set_cons_succ]
              refine rg_end (by kernel_rfl) (hN7 _ _ ?_) _
              clear hQ7 hN7 Q7
              have BX := hHeld.1
              clear SS
              replace E := Lib.hid (ext_trans E.out BX)
              replace BB := Lib.hid (BB.out.ext BX)
              replace X := Lib.hid (X.out.ext BX)
              clear BX Rs
              go_wp2_with fail
              exact ⟨⟨k + 1, b, hlt, by go_num, HN.out, BB.out, E.out⟩, by simp [intOf]; omega⟩

end Go.Proofs.Ytmgpbjpohbpgpaa
