/- Contract: the first cover. -/
import Derived.Test.YtmgpbjpohbpgpaaI
import Derived.WalkMore
import Derived.Deep.LoopGhost
set_option linter.unusedSimpArgs false
set_option linter.unusedVariables false
namespace Go.Proofs.Ytmgpbjpohbpgpaa
open Go.RowKit
/-- A slice's tail, as Go lays it. -/
def fromN (A : Option Addr) (c k : Nat) : Option Addr := if c = k then A else A.map (·.add (k * 1))
set_option maxRecDepth 100000 in
theorem slice_fromN (A : Option Addr) (len c k : Nat) (i : Int) (hi : i = k) (h1 : k ≤ len) (h2 : len ≤ c) (w : World) : (Instr.sliceAt 34 (.slice A len c) (some (.int .i64 i)) none none).run Try.prog w = .ok (.slice (fromN A c k) (len - k) (c - k)) w := by
  subst hi
  have hs : (sizeOf (Try.prog.elem 34)).run Try.prog w = .ok 1 w := by kernel_rfl
  rw [run_sliceAt_slice w 34 _ _ _ _ Try.underlying34, run_slice_l w 34 A len c Try.underlying34 _ _ (by omega) (by omega)]
  simp only [hs, Result.andThen, sliced, fromN]
  rfl
theorem needG_le (S : List Sp) : ∀ (k : Nat) (L : List Sp) (n : Int), 0 ≤ n → needG S k L n ≤ n + k ∧ -1 ≤ needG S k L n
  | 0, L, n, h => by simp [needG]; omega
  | k + 1, L, n, h => by
    cases h1 : gap L with
    | none => rw [needG_none h1]; omega
    | some p =>
      by_cases h2 : (bestS p ⟨0, 0⟩ S).t = 0
      · rw [needG_bad h1 h2]; omega
      · rw [needG_go h1 h2]
        have := needG_le S k (L ++ [bestS p ⟨0, 0⟩ S]) (n + 1) (by omega)
        omega
theorem need_le (C S : List Sp) : need C S ≤ 1441 ∧ -1 ≤ need C S := by
  have := needG_le S 1441 C 0 (by omega)
  unfold need; omega
def contG (l : List Ru) (many : Int) (k : Nat) (set : List Nat) (X : Option (List Nat × List Nat)) : List Nat := match X with | some x => coverG l many k x.1 x.2 | none => set
theorem coverG_succ (l : List Ru) (many : Int) (k : Nat) (set S : List Nat) : coverG l many (k + 1) set S = contG l many k set (pickC l many set S) := by
  rw [coverG]; unfold contG; rfl
def CovR (w : World) (R : List Nat) (e : Ending) (w' : World) : Prop := ∃ A c, e = .returned (.slice A R.length c) ∧ Slc w' nc 1 A R ∧ Below w.heap.size w w' ∧ ∀ b o s, A = some ⟨b, o, s⟩ → w.heap.size ≤ b
theorem spans43_at {bl : Nat} {A B : Option Addr} {c n : Nat} (c2 : Nat) {L : List Ru} {T : List Nat} {w : World} (hn : n = T.length) (hbl : Blk w bl [.slice A L.length c]) (hl : Slc w Ru.cells 8 A L) (hT : Slc w nc 1 B T) (hall : ∀ i ∈ T, i < L.length) (hL : L.length < 10000) (hTl : T.length < 10000) :
    Calls Try.prog 43 #[.slice B n c2, .pointer (some ⟨bl, 0, none⟩)] w (RetS w (spI L T)) := by
  subst hn; exact spans43_any bl A B c c2 L T w hbl hl hT hall hL hTl
theorem need_at {A A2 : Option Addr} {n m : Nat} (c c2 : Nat) {C S : List Sp} {w : World} (r : Int) (hr : need C S = r) (hn : n = C.length) (hm : m = S.length) (ha : Slc w Sp.cells 2 A C) (hb : Slc w Sp.cells 2 A2 S) (hna : C.length < 10000) (hnb : S.length < 10000) : Calls Try.prog 44 #[.slice A n c, .slice A2 m c2] w (RetE w r) := by
  subst hn hm hr; exact need_any A A2 c c2 C S w ha hb hna hnb
theorem cloneN_at {A : Option Addr} (c : Nat) {n : Nat} {l : List Nat} {w : World} (hn : n = l.length) (ha : Slc w nc 1 A l) (hl : l.length ≤ 1048576) : Calls Try.prog 45 #[.slice A n c] w (CloneRN w l) := cloneN_any A c n l w hn ha hl
set_option maxRecDepth 100000 in
set_option maxHeartbeats 3200000 in
theorem cover_any (A B : Option Addr) (c c2 : Nat) (L : List Ru) (S0 : List Nat) (w : World) (hl : Slc w Ru.cells 8 A L) (hS : Slc w nc 1 B S0) (hcs : S0.length ≤ c2) (hall : ∀ i ∈ S0, i < L.length) (hL : L.length < 10000) (hSl : S0.length < 1000) :
    Calls Try.prog 29 #[.slice A L.length c, .slice B S0.length c2] w (CovR w (coverL L S0)) := by
  obtain ⟨mn, hmn⟩ : ∃ m, need [] (spI L S0) = m := ⟨_, rfl⟩
  have HMN := Lib.hid hmn
  have HMN0 := Lib.hid hmn
  obtain ⟨R, hR⟩ : ∃ R, coverL L S0 = R := ⟨_, rfl⟩
  have HR := Lib.hid (show (if mn < 0 then [] else coverG L mn mn.toNat [] S0) = R by rw [← hR]; unfold coverL; rw [hmn])
  rw [hR]
  have HAll := Lib.hid hall
  clear hmn hR hall
  have E := Lib.hid (ext_alloc (ext_refl w) (.cells #[.slice A L.length c] 29))
  have HB := Lib.hid (Blk.newH w [.slice A L.length c] 29 w.heap.size rfl)
  have HL := Lib.hid (hl.ext (ext_alloc (ext_refl w) (.cells #[.slice A L.length c] 29)))
  have HS := Lib.hid (hS.ext (ext_alloc (ext_refl w) (.cells #[.slice A L.length c] 29)))
  clear hl hS
  go_enter Try.func29, Try.ntmps29
  go_wp2_with fail
  go_step3
  go_wp2_with fail
  refine (spans43_at c2 rfl HB.out HL.out HS.out HAll.out hL (by omega)).mono ?_
  rintro e v1 ⟨A1, c1, rfl, hs1, B1⟩
  have HS1 := Lib.hid hs1
  replace E := Lib.hid (ext_trans E.out B1)
  replace HB := Lib.hid (HB.out.ext B1)
  replace HL := Lib.hid (HL.out.ext B1)
  replace HS := Lib.hid (HS.out.ext B1)
  clear hs1 B1
  go_wp2_with fail
  refine (need_at 0 c1 mn HMN.out rfl rfl Slc.nil HS1.out (by simp) (by rw [spI_len]; omega)).mono ?_
  rintro e v2 ⟨rfl, B1⟩
  replace E := Lib.hid (ext_trans E.out B1)
  replace HB := Lib.hid (HB.out.ext B1)
  replace HL := Lib.hid (HL.out.ext B1)
  replace HS := Lib.hid (HS.out.ext B1)
  clear B1 HS1
  by_cases hm0 : mn < 0
  · have HR2 := Lib.hid (show ([] : List Nat) = R by rw [← HR.out, if_pos hm0])
    go_wp2_with fail
    go_ret
    exact ⟨none, 0, by rw [← HR2.out]; rfl, by rw [← HR2.out]; exact Slc.nil, E.out, by simp⟩
  · have HR2 := Lib.hid (show coverG L mn mn.toNat [] S0 = R by rw [← HR.out, if_neg hm0])
    clear HR HMN
    have hnl := need_le [] (spI L S0)
    rw [HMN0.out] at hnl
    have E0 := Lib.hid E.out
    go_wp2_with fail
    go_step3
    go_wp2_with fail
    go_loopg [1, 4] mn.toNat (fun g s1 s4 W => ∃ (set S : List Nat) (Am As : Option Addr) (cm cs : Nat), s1 = .slice Am S.length cm ∧ s4 = .slice As set.length cs ∧ S.length ≤ cm ∧ Slc W nc 1 Am S ∧ (∀ i ∈ S, i < L.length) ∧ (∀ i ∈ set, i < L.length) ∧ (∀ b o s, As = some ⟨b, o, s⟩ → w.heap.size ≤ b) ∧ Slc W nc 1 As set ∧ set.length + g = mn.toNat ∧ set.length + S.length ≤ S0.length ∧ coverG L mn g set S = R ∧ Below v2.heap.size v2 W)
    case atStart => exact ⟨[], S0, B, none, c2, 0, rfl, rfl, hcs, HS.out, HAll.out, by simp, by simp, Slc.nil, by simp, by simp, HR2.out, ext_refl _⟩
    case round =>
      obtain ⟨set, S, Am, As, cm, cs, rfl, rfl, hcm, hS, hall, halls, hlow, hset, hfu, hsum, hcov, hB⟩ := hrel
      have HC := Lib.hid hcov
      have HAl := Lib.hid hall
      have HAs := Lib.hid halls
      have HLow := Lib.hid hlow
      clear hcov hall halls hlow HR2 HS HAll
      replace HS := Lib.hid hS
      have HSet := Lib.hid hset
      replace E := Lib.hid (ext_trans E0.out hB)
      replace HB := Lib.hid (HB.out.ext hB)
      replace HL := Lib.hid (HL.out.ext hB)
      clear hS hset
      have hfu' : (set.length : Int) + gk = mn := by omega
      cases gk with
      | zero =>
        have HF : set = R := HC.out
        clear HC
        subst HF
        have hlt : ¬ (set.length : Int) < mn := by omega
        go_wp2_with fail
        try rw [Exit.noGoto_ret]
        go_ret
        exact ⟨As, cs, rfl, HSet.out, E.out, HLow.out⟩
      | succ g =>
        have hlt0 : (set.length : Int) < mn := by omega
        obtain ⟨X, hX⟩ : ∃ X, pickC L mn set S = X := ⟨_, rfl⟩
        have HX := Lib.hid (show contG L mn g set X = R by rw [← HC.out, coverG_succ, hX])
        clear HC
        obtain ⟨wo, rfl⟩ : ∃ wo, wo = wr := ⟨_, rfl⟩
        obtain ⟨ro, hro⟩ : ∃ r, S.length = r := ⟨_, rfl⟩
        have HRo := Lib.hid hro
        rw [hro] at hcm hsum ⊢
        clear hro
        go_wp2_with fail
        go_loopg [1, 4, 24] ro (fun gi s1 s4 i W => ∃ k : Nat, k + gi = S.length ∧ s1 = .slice Am ro cm ∧ s4 = .slice As set.length cs ∧ i = .int .i64 k ∧ pickC L mn set (S.drop k) = X ∧ Below wo.heap.size wo W)
        case atStart => exact ⟨0, by rw [HRo.out]; simp, rfl, rfl, rfl, hX, ext_refl _⟩
        case round =>
          obtain ⟨k, hk, rfl, rfl, rfl, hpk, hB2⟩ := hrel
          have HP := Lib.hid hpk
          clear hpk
          have hro2 := HRo.out
          cases gk with
          | zero =>
            have hkr : ¬ (k : Int) < ro := by omega
            have HF : set = R := (by
              have h1 := HP.out
              rw [List.drop_eq_nil_of_le (by omega)] at h1
              have h2 := HX.out
              rw [← h1] at h2
              exact h2)
            clear HX HP hX hro2
            subst HF
            go_wp2_with fail
            try rw [Exit.noGoto_ret]
            go_ret
            exact ⟨As, cs, rfl, HSet.out.ext hB2, ext_trans E.out hB2, HLow.out⟩
          | succ gi =>
            have hkr : (k : Int) < ro := by omega
            have hlt : k < S.length := by omega
            obtain ⟨i, b1, o1, hi, rfl, hb1, hd⟩ := (HS.out.ext hB2).at_ hlt
            have d0 : wr.cell? ⟨b1, o1 + k, none⟩ = some (.int .i64 i) := by have := hd 0 _ rfl; simpa using this
            clear hd
            have hil : i < L.length := HAl.out i (List.mem_of_getElem? hi)
            have hdr : S.drop k = i :: S.drop (k + 1) := by
              obtain ⟨h1, rfl⟩ := List.getElem?_eq_some_iff.1 hi
              exact List.drop_eq_getElem_cons h1
            have HP2 := Lib.hid (show pickC L mn set (i :: S.drop (k + 1)) = X by rw [← hdr]; exact HP.out)
            clear HP hdr hi hX hro2
            have hll : (set ++ [i]).length = set.length + 1 := by simp
            have hal2 := Lib.hid (show ∀ j ∈ set ++ [i], j < L.length from fun j hj => (List.mem_append.1 hj).elim (HAs.out j) (fun h => by simp at h; exact h ▸ hil))
            have hal3 := Lib.hid (show ∀ j ∈ S.drop (k + 1), j < L.length from fun j hj => HAl.out j (List.mem_of_mem_drop hj))
            have HCl := Lib.hid (cloneN_at (w := wr) cs rfl (HSet.out.ext hB2) (by omega))
            go_wp2_with fail
            refine HCl.out.mono ?_
            rintro e v3 ⟨A3, c3, rfl, hO, B3⟩
            clear HCl
            have hS1 := slc_litH v3 [i] #[.int .i64 i] 3 (enc := nc) (sz := 1) (fun _ => rfl) rfl v3.heap.size rfl
            obtain ⟨v', v4, hrun, A4, c4, hv4, hO4, hB4, -, hc4, -⟩ := Own.append_k (w0 := wr) I34 34 (hO.alloc (.cells #[.int .i64 i] 3)) (ext_alloc B3 _) (ys := [i]) (m := 1) rfl 1 hS1 (set ++ [i]) rfl _ hll (by omega) (by unfold maxLen; omega)
            rw [hv4] at hrun
            have HRUN := Lib.hid hrun
            have HLo4 := Lib.hid (show ∀ b o s, A4 = some ⟨b, o, s⟩ → w.heap.size ≤ b from fun b o s e => by
              obtain ⟨A', c', h1, -, -, h2⟩ := hO4.form
              injection h1 with h1 _ _
              have := (h2 b o s (h1 ▸ e)).1
              have h3 := E.out.size
              have h4 := hB2.size
              omega)
            have HW := Lib.hid (show Slc v4 nc 1 A4 (set ++ [i]) from hO4.slc (fun _ => rfl) (by decide))
            have HB4 := Lib.hid (ext_trans hB2 hB4)
            clear hrun hO4 hB4 hS1 hO B3 hv4
            go_wp2_with (at_builtin; refine wpList_append_run rfl (.tmp 30) (.tmp 32) 34 rfl (.slice A3 set.length c3) (.slice (some ⟨v3.heap.size, 0, none⟩) 1 1) rfl rfl HRUN.out ?_)
            replace HRUN := HRo
            obtain ⟨n1, hn1⟩ : ∃ n, need (spI L (set ++ [i])) (spI L (S.drop (k + 1))) = n := ⟨_, rfl⟩
            have hn1b := need_le (spI L (set ++ [i])) (spI L (S.drop (k + 1)))
            rw [hn1] at hn1b
            have HN1 := Lib.hid hn1
            clear hn1
            have HBq := Lib.hid ((HB.out.ext HB4.out))
            have HLq := Lib.hid ((HL.out.ext HB4.out))
            have HSq := Lib.hid ((HS.out.ext HB4.out))
            have HDr := Lib.hid (show Slc v4 nc 1 (fromN (some ⟨b1, o1, none⟩) cm (k + 1)) (S.drop (k + 1)) from HSq.out.from_ (k + 1) cm (by have := HRo.out; omega))
            have hl1 : ro - (k + 1) = (S.drop (k + 1)).length := by rw [List.length_drop, HRo.out]
            have HL1 := Lib.hid hl1
            have HlD := Lib.hid (show (S.drop (k + 1)).length < 10000 by have := HRo.out; rw [List.length_drop]; omega)
            have HlW := Lib.hid (show (set ++ [i]).length < 10000 by rw [hll]; omega)
            obtain ⟨AF, hAF⟩ : ∃ z, fromN (some ⟨b1, o1, none⟩) cm (k + 1) = z := ⟨_, rfl⟩
            have hs2 := Lib.hid (fun w : World => slice_fromN (some ⟨b1, o1, none⟩) ro cm (k + 1) ((k : Int) + 1) (by simp) (by omega) hcm w)
            rw [hAF] at HDr hs2
            have hwk : IntKind.i64.wrap ((k : Int) + 1) = (k : Int) + 1 := IntWalk.i64_in _ (by omega)
            clear hAF hl1 hil hb1 d0 hll
            have SS := Lib.hid (show ∀ w', Below v4.heap.size v4 w' → (fun w' => Below v4.heap.size v4 w') w' from fun w' h => h)
            refine rg_begin (S := (fun w' => Below v4.heap.size v4 w')) 11 (by kernel_rfl) (by intro d; cases d <;> intro _ _ _ _ h <;> exact h) ?_ (fun Q7 hQ7 hN7 hHeld => ?_)
            · exact SS.out _ (ext_drew (ext_refl _))
            refine rg_take (i := 0) (some 34) (v := ?_) rfl rfl (by kernel_rfl) (by rfl) hQ7 hHeld ?_ ?_
            rotate_left
            · intro w7 hSw; (try dsimp only at hSw); go_simp; all_goals with_reducible rfl
            try simp only [Act.put, List.setIfInBounds_toArray, List.set_cons_zero, List.set_cons_succ]
            refine rg_take (i := 1) (some 35) (v := ?_) rfl rfl (by kernel_rfl) (by rfl) hQ7 hHeld ?_ ?_
            rotate_left
            · intro w7 hSw; (try dsimp only at hSw); go_simp; all_goals with_reducible rfl
            try simp only [Act.put, List.setIfInBounds_toArray, List.set_cons_zero, List.set_cons_succ]
            refine rg_take (i := 3) (some 37) (v := ?_) rfl rfl (by kernel_rfl) (by rfl) hQ7 hHeld ?_ ?_
            rotate_left
            · intro w7 hSw; (try dsimp only at hSw); go_simp; all_goals with_reducible rfl
            try simp only [Act.put, List.setIfInBounds_toArray, List.set_cons_zero, List.set_cons_succ]
            refine rg_take (i := 4) (some 38) (v := ?_) rfl rfl (by kernel_rfl) (by rfl) hQ7 hHeld ?_ ?_
            rotate_left
            · intro w7 hSw; (try dsimp only at hSw); go_simp; all_goals with_reducible rfl
            try simp only [Act.put, List.setIfInBounds_toArray, List.set_cons_zero, List.set_cons_succ]
            refine rg_take (i := 5) (some 39) (v := ?_) rfl rfl (by kernel_rfl) (by rfl) hQ7 hHeld ?_ ?_
            rotate_left
            · intro w7 hSw; (try dsimp only at hSw); go_simp; all_goals with_reducible rfl
            try simp only [Act.put, List.setIfInBounds_toArray, List.set_cons_zero, List.set_cons_succ]
            refine rg_take (i := 6) (some 40) (v := ?_) rfl rfl (by kernel_rfl) (by rfl) hQ7 hHeld ?_ ?_
            rotate_left
            · intro w7 hSw; (try dsimp only at hSw); go_simp; all_goals with_reducible rfl
            try simp only [Act.put, List.setIfInBounds_toArray, List.set_cons_zero, List.set_cons_succ]
            refine rg_take (i := 7) (some 41) (v := .slice AF (ro - (k + 1)) (cm - (k + 1))) rfl rfl (by kernel_rfl) (by rfl) hQ7 hHeld (fun w7 hSw => run_v (hs2.out w7)) ?_
            try simp only [Act.put, List.setIfInBounds_toArray, List.set_cons_zero, List.set_cons_succ]
            refine rg_one (i := 2) (by kernel_rfl) (rg_step rfl (by rfl) (fun K hK => ?_))
            go_simp
            refine (spans43_at c4 (by simp) (HBq.out.ext hHeld) (HLq.out.ext hHeld) (HW.out.ext hHeld) hal2.out hL HlW.out).mono ?_
            rintro e u1 ⟨AX, cX, rfl, hsX, BX2⟩
            go_wp2_with fail
            refine hK.out _ _ ?_ (fun hHeld2 => ?_)
            · exact SS.out _ (ext_trans hHeld BX2)
            clear hHeld
            have hHeld := hHeld2
            clear hHeld2
            clear hK K
            try simp only [Act.put, List.setIfInBounds_toArray, List.set_cons_zero, List.set_cons_succ]
            refine rg_one (i := 8) (by kernel_rfl) (rg_step rfl (by rfl) (fun K hK => ?_))
            go_simp
            refine (spans43_at (cm - (k + 1)) HL1.out (HBq.out.ext hHeld) (HLq.out.ext hHeld) (HDr.out.ext hHeld) hal3.out hL HlD.out).mono ?_
            rintro e u2 ⟨AY, cY, rfl, hsY, BY⟩
            go_wp2_with fail
            refine hK.out _ _ ?_ (fun hHeld2 => ?_)
            · exact SS.out _ (ext_trans hHeld BY)
            clear hHeld
            have hHeld := hHeld2
            clear hHeld2
            clear hK K
            try simp only [Act.put, List.setIfInBounds_toArray, List.set_cons_zero, List.set_cons_succ]
            refine rg_one (i := 9) (by kernel_rfl) (rg_step rfl (by rfl) (fun K hK => ?_))
            go_simp
            refine (need_at cX cY n1 HN1.out rfl rfl (hsX.ext BY) (hsY) (by rw [spI_len]; exact HlW.out) (by rw [spI_len]; exact HlD.out)).mono ?_
            rintro e u3 ⟨rfl, B3⟩
            go_wp2_with fail
            refine hK.out _ _ ?_ (fun hHeld2 => ?_)
            · exact SS.out _ (ext_trans hHeld B3)
            clear hHeld
            have hHeld := hHeld2
            clear hHeld2
            clear hK K
            try simp only [Act.put, List.setIfInBounds_toArray, List.set_cons_zero, List.set_cons_succ]
            refine rg_take (i := 10) (some 10) (v := ?_) rfl rfl (by kernel_rfl) (by rfl) hQ7 hHeld ?_ ?_
            rotate_left
            · intro w7 hSw; (try dsimp only at hSw); go_simp; all_goals with_reducible rfl
            try simp only [Act.put, List.setIfInBounds_toArray, List.set_cons_zero, List.set_cons_succ]
            refine rg_end (by kernel_rfl) (hN7 _ _ ?_) _
            clear hQ7 hN7 Q7
            have BX := hHeld
            clear SS
            have HWf := Lib.hid (HW.out.ext BX)
            have HDf := Lib.hid (HDr.out.ext BX)
            have HBo := Lib.hid (ext_trans HB4.out BX)
            clear hHeld hsX hsY BY BX2 B3 BX HBq HLq HSq HW HDr
            by_cases g1 : 0 ≤ n1
            rotate_left
            · have f1 : decide (0 ≤ n1) = false := by simp [g1]
              have HP3 := Lib.hid (show pickC L mn set (S.drop (k + 1)) = X by rw [← HP2.out, pickC, if_neg (by rw [HN1.out]; simp; omega)])
              clear g1
              go_wp2_with fail
              go_roundg gi
              case measure => omega
              case rel => exact ⟨k + 1, by omega, rfl, rfl, by go_num, HP3.out, HBo.out⟩
            by_cases g2 : n1 ≤ mn - ((set.length : Int) + 1)
            rotate_left
            · have f1 : decide (0 ≤ n1) = true := by simp [g1]
              have f2 : decide (n1 ≤ mn - ((set.length : Int) + 1)) = false := by simp [g2]
              have HP3 := Lib.hid (show pickC L mn set (S.drop (k + 1)) = X by rw [← HP2.out, pickC, if_neg (by rw [HN1.out]; simp; omega)])
              clear g1
              go_wp2_with fail
              go_roundg gi
              case measure => omega
              case rel => exact ⟨k + 1, by omega, rfl, rfl, by go_num, HP3.out, HBo.out⟩
            · have f1 : decide (0 ≤ n1) = true := by simp [g1]
              have f2 : decide (n1 ≤ mn - ((set.length : Int) + 1)) = true := by simp [g2]
              have HC2 := Lib.hid (show coverG L mn g (set ++ [i]) (S.drop (k + 1)) = R by
                have h1 := HP2.out
                rw [pickC, if_pos (by rw [HN1.out]; simp; omega)] at h1
                have h2 := HX.out
                rw [← h1] at h2
                exact h2)
              clear g1 g2 HX
              go_wp2_with fail
              have SS := Lib.hid (show ∀ w', Below u3.heap.size u3 w' → (fun w' => Below u3.heap.size u3 w') w' from fun w' h => h)
              refine rg_begin (S := (fun w' => Below u3.heap.size u3 w')) 7 (by kernel_rfl) (by intro d; cases d <;> intro _ _ _ _ h <;> exact h) ?_ (fun Q7 hQ7 hN7 hHeld => ?_)
              · exact SS.out _ (ext_drew (ext_refl _))
              refine rg_take (i := 0) (some 54) (v := ?_) rfl rfl (by kernel_rfl) (by rfl) hQ7 hHeld ?_ ?_
              rotate_left
              · intro w7 hSw; (try dsimp only at hSw); go_simp; all_goals with_reducible rfl
              try simp only [Act.put, List.setIfInBounds_toArray, List.set_cons_zero, List.set_cons_succ]
              refine rg_take (i := 1) (some 55) (v := ?_) rfl rfl (by kernel_rfl) (by rfl) hQ7 hHeld ?_ ?_
              rotate_left
              · intro w7 hSw; (try dsimp only at hSw); go_simp; all_goals with_reducible rfl
              try simp only [Act.put, List.setIfInBounds_toArray, List.set_cons_zero, List.set_cons_succ]
              refine rg_take (i := 2) (some 56) (v := ?_) rfl rfl (by kernel_rfl) (by rfl) hQ7 hHeld ?_ ?_
              rotate_left
              · intro w7 hSw; (try dsimp only at hSw); go_simp; all_goals with_reducible rfl
              try simp only [Act.put, List.setIfInBounds_toArray, List.set_cons_zero, List.set_cons_succ]
              refine rg_take (i := 3) (some 57) (v := ?_) rfl rfl (by kernel_rfl) (by rfl) hQ7 hHeld ?_ ?_
              rotate_left
              · intro w7 hSw; (try dsimp only at hSw); go_simp; all_goals with_reducible rfl
              try simp only [Act.put, List.setIfInBounds_toArray, List.set_cons_zero, List.set_cons_succ]
              refine rg_take (i := 4) (some 58) (v := .slice AF (ro - (k + 1)) (cm - (k + 1))) rfl rfl (by kernel_rfl) (by rfl) hQ7 hHeld (fun w7 hSw => run_v (hs2.out w7)) ?_
              try simp only [Act.put, List.setIfInBounds_toArray, List.set_cons_zero, List.set_cons_succ]
              refine rg_take (i := 5) (some 4) (v := ?_) rfl rfl (by kernel_rfl) (by rfl) hQ7 hHeld ?_ ?_
              rotate_left
              · intro w7 hSw; (try dsimp only at hSw); go_simp; all_goals with_reducible rfl
              try simp only [Act.put, List.setIfInBounds_toArray, List.set_cons_zero, List.set_cons_succ]
              refine rg_take (i := 6) (some 1) (v := ?_) rfl rfl (by kernel_rfl) (by rfl) hQ7 hHeld ?_ ?_
              rotate_left
              · intro w7 hSw; (try dsimp only at hSw); go_simp; all_goals with_reducible rfl
              try simp only [Act.put, List.setIfInBounds_toArray, List.set_cons_zero, List.set_cons_succ]
              refine rg_end (by kernel_rfl) (hN7 _ _ ?_) _
              clear hQ7 hN7 Q7
              have BX := hHeld
              clear SS
              have HBz := Lib.hid (ext_trans HBo.out BX)
              have HWz := Lib.hid (HWf.out.ext BX)
              have HDz := Lib.hid (HDf.out.ext BX)
              clear BX hHeld
              go_wp2_with fail
              go_roundg g
              case measure => omega
              case rel => exact ⟨set ++ [i], S.drop (k + 1), AF, A4, cm - (k + 1), c4, by rw [HL1.out], by simp, by rw [← HL1.out]; omega, HDz.out, hal3.out, hal2.out, HLo4.out, HWz.out, by simp; omega, by have := HRo.out; simp; omega, HC2.out, ext_trans hB HBz.out⟩
end Go.Proofs.Ytmgpbjpohbpgpaa
