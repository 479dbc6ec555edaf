/- capacity.Sector; the reference's. -/
import Derived.Test.YtilocjliplmmpaaN
set_option linter.unusedSimpArgs false
set_option linter.unusedVariables false
namespace Go.Proofs.Ytilocjliplmmpaa
open Go.RowKit
theorem cin_at {A : Option Addr} {n c : Nat} {l : List Chg} {m : Int} {w : World} (r : Option Chg) (hr : inS l m = r) (hn : n = l.length) (ha : Slc w Chg.cells 3 A l) (hl : l.length ≤ maxLen) : Calls Try.prog 11 #[.agg #[.slice A n c], .int .i64 m] w (InR w r) := by
  subst hr hn; exact in_c A c l m w ha hl
set_option maxHeartbeats 2000000 in
theorem sector_any (t : Tab) (A : Option Addr) (c : Nat) (l : List Chg) (v m : Int) (w : World) (ht : Tab.ok w t) (ha : Slc w Chg.cells 3 A l) (hl : l.length ≤ maxLen) :
    Calls Try.prog 13 #[t.v, .agg #[.slice A l.length c], .int .i64 v, .int .i64 m] w (SecR w (secR t l v m)) := by
  obtain ⟨W, hW⟩ : ∃ W, (w.alloc (.cells #[.int .i64 t.n, .slice t.ss.A t.ss.l.length t.ss.c, .slice t.cs.A t.cs.l.length t.cs.c, .slice t.ws.A t.ws.l.length t.ws.c, .slice t.ms.A t.ms.l.length t.ms.c, .slice t.ks.A t.ks.l.length t.ks.c] 28)).alloc (.cells #[.slice A l.length c] 31) = W := ⟨_, rfl⟩
  have HB : Hid (Blk W w.heap.size t.cells) := by rw [← hW]; exact (Blk.newH w t.cells 28 w.heap.size rfl).alloc _
  have HB2 : Hid (Blk W (w.heap.size + 1) [.slice A l.length c]) := by rw [← hW]; exact Blk.newH (w.alloc _) [.slice A l.length c] 31 (w.heap.size + 1) (by simp)
  have HE : Hid (Below w.heap.size w W) := by rw [← hW]; exact ext_alloc (ext_alloc (ext_refl w) _) _
  have HA := Lib.hid (ha.ext HE.out)
  have HT := Lib.hid (ht.ext HE.out)
  have b0 := HB2.out.c 0 _ rfl
  have bl := HB2.out.lt
  clear ha ht
  go_enter Try.func13, Try.ntmps13
  go_wp2_with fail
  cases hr : inS l m with
  | none =>
    have HR : Hid (secR t l v m = none) := by simp [Hid, secR, hr]
    refine (cin_at none hr rfl HA.out hl).mono ?_
    rintro e w1 ⟨rfl, B⟩
    clear hr
    simp only [Option.isSome_none]
    go_wp2_with fail
    go_ret2
    rw [HR.out]
    exact ⟨rfl, ext_alloc (ext_trans HE.out B) _⟩
  | some x =>
    have HR : Hid (secR t l v m = secIn t x.cfg v) := by simp [Hid, secR, hr]
    refine (cin_at (some x) hr rfl HA.out hl).mono ?_
    rintro e w1 ⟨rfl, B⟩
    clear hr hW b0 bl
    simp only [Option.isSome_some, Option.getD_some]
    have b0 := (HB.out.ext B).c 0 _ rfl
    have b1 := (HB.out.ext B).c 1 _ rfl
    have b2 := (HB.out.ext B).c 2 _ rfl
    have b3 := (HB.out.ext B).c 3 _ rfl
    have b4 := (HB.out.ext B).c 4 _ rfl
    have b5 := (HB.out.ext B).c 5 _ rfl
    have bl := (HB.out.ext B).lt
    have HT1 := Lib.hid ((HT.out.ext B).ext (ext_alloc (ext_refl w1) (.cells #[.int .i64 x.f, .int .i64 x.cfg, .slice x.ms.A x.ms.l.length x.ms.c] 37)))
    have HE1 := Lib.hid (ext_alloc (ext_trans HE.out B) (.cells #[.int .i64 x.f, .int .i64 x.cfg, .slice x.ms.A x.ms.l.length x.ms.c] 37))
    go_wp2_with fail
    refine (asec_any t x.cfg v _ HT1.out).mono ?_
    rintro e w2 ⟨rfl, B2⟩
    clear b0 b1 b2 b3 b4 b5
    go_wp2_with fail
    go_ret2
    rw [HR.out]
    exact ⟨rfl, ext_trans HE1.out B2⟩
set_option maxRecDepth 100000 in
set_option maxHeartbeats 16000000 in
theorem rcsec_any (A : Option Addr) (n c : Nat) (sA : Option Addr) (sc : Nat) (l : List Sec) (cA : Option Addr) (cc : Nat) (cs : List Cfg) (q v : Int) (w : World) (hs : Slc w Sec.cells 5 sA l) (hsl : l.length ≤ maxLen) (hk : ∀ x ∈ l, Sec.ok w x) (hc : Slc w Cfg.cells 3 cA cs) (hcl : cs.length ≤ maxLen) (hck : ∀ x ∈ cs, Cfg.ok w x) :
    Calls Try.prog 59 #[aspV A n c sA l.length sc cA cs.length cc, .int .i64 q, .int .i64 v] w (SecR w (secAtC l cs q v)) := by
  obtain ⟨W, hW⟩ : ∃ W, w.alloc (.cells #[.slice A n c, .slice sA l.length sc, .slice cA cs.length cc, .slice none 0 0, .slice none 0 0, .slice none 0 0, .slice none 0 0, .slice none 0 0] 93) = W := ⟨_, rfl⟩
  have HB : Hid (Blk W w.heap.size [.slice A n c, .slice sA l.length sc, .slice cA cs.length cc, .slice none 0 0, .slice none 0 0, .slice none 0 0, .slice none 0 0, .slice none 0 0]) := by rw [← hW]; exact Blk.newH w [.slice A n c, .slice sA l.length sc, .slice cA cs.length cc, .slice none 0 0, .slice none 0 0, .slice none 0 0, .slice none 0 0, .slice none 0 0] 93 w.heap.size rfl
  have HE : Hid (Below w.heap.size w W) := by rw [← hW]; exact ext_alloc (ext_refl w) _
  have HS := Lib.hid (hs.ext HE.out)
  have HC := Lib.hid (hc.ext HE.out)
  have HSO : Hid (∀ x ∈ l, Sec.ok W x) := fun x hx => (hk x hx).ext HE.out
  have HCO : Hid (∀ x ∈ cs, Cfg.ok W x) := fun x hx => (hck x hx).ext HE.out
  have b1 := HB.out.c 1 _ rfl
  have b2 := HB.out.c 2 _ rfl
  have bl := HB.out.lt
  clear hs hc hk hck
  unfold maxLen at hsl hcl
  go_enter Try.func59, Try.ntmps59
  by_cases h1 : q < 0
  · have e1 : decide (q < 0) = true := decide_eq_true h1
    have HR : Hid (secAtC l cs q v = none) := if_neg (by omega)
    go_wp2_with fail
    go_ret2
    rw [HR.out]
    exact ⟨rfl, HE.out⟩
  have e1 : decide (q < 0) = false := decide_eq_false h1
  by_cases h2 : (cs.length : Int) ≤ q
  · have e2 : decide (q ≥ (cs.length : Int)) = true := decide_eq_true h2
    have HR : Hid (secAtC l cs q v = none) := if_neg (by omega)
    go_wp2_with fail
    go_ret2
    rw [HR.out]
    exact ⟨rfl, HE.out⟩
  have e2 : decide (q ≥ (cs.length : Int)) = false := decide_eq_false h2
  have hq1 : q < (cs.length : Int) := by omega
  have hq2 : q.toNat < cs.length := by omega
  obtain ⟨g, g1, o1, hg, hA, hgb, hcg⟩ := HC.out.at_ hq2
  have g2 := hcg 2 _ rfl
  have HGO := Lib.hid (HCO.out g (List.mem_of_getElem? hg))
  have HD : Hid (secAtC l cs q v = secOf l v g.ss.l) := by simp only [Hid, secAtC]; rw [if_pos (by omega), hg]
  have hgl := HGO.out.2.2.len
  unfold maxLen at hgl
  subst hA
  clear hcg hg
  go_wp2_with fail
  clear hW b2 g2 e1 e2
  go_loopw [9] (fun i wr => ∃ j : Nat, j ≤ g.ss.l.length ∧ i = .int .i64 j ∧ Hid (secAtC l cs q v = secOf l v (g.ss.l.drop j)) ∧ Hid (Below W.heap.size W wr)) (fun i _ => g.ss.l.length - (intOf i).toNat)
  case atStart => exact ⟨0, Nat.zero_le _, rfl, HD.out, ext_refl _⟩
  clear b1 bl HD
  case round =>
    obtain ⟨j, hj, rfl, HQ, HR⟩ := hrel
    have b1 := (HB.out.ext HR.out).c 1 _ rfl
    have bl := (HB.out.ext HR.out).lt
    by_cases hlt : j < g.ss.l.length
    · have hlt' : (j : Int) < g.ss.l.length := by omega
      obtain ⟨s, p1, o2, hx, hA2, hp1, hcx⟩ := (HGO.out.2.2.slc.ext HR.out).at_ hlt
      have HX := Lib.hid hx
      have d0 := hcx 0 _ rfl
      simp only [Nat.mul_one, Nat.add_zero] at d0
      clear hcx hx
      by_cases k0 : 0 ≤ s
      rotate_left
      · have f0 : decide (s ≥ 0) = false := decide_eq_false k0
        have HN := Lib.hid (secOf_step (l := l) (v := v) HX.out (fun z => k0 z.1))
        go_wp2_with fail
        have SS := Lib.hid (show ∀ w', Below wr.heap.size wr w' → (fun w' => Below wr.heap.size wr w' ∧ w'.cell? ⟨w.heap.size, 1, none⟩ = some (.slice sA l.length sc) ∧ w'.cell? ⟨p1, o2 + j, none⟩ = some (.int .i64 s)) w' from fun w' h => ⟨h, ((HB.out.ext HR.out).ext h).c 1 _ rfl, (h.cell (p := ⟨p1, o2 + j, none⟩) hp1).trans d0⟩)
        refine rg_begin (S := (fun w' => Below wr.heap.size wr w' ∧ w'.cell? ⟨w.heap.size, 1, none⟩ = some (.slice sA l.length sc) ∧ w'.cell? ⟨p1, o2 + j, none⟩ = some (.int .i64 s))) 28 (by kernel_rfl) (by intro d; cases d <;> intro _ _ _ _ h <;> exact h) ?_ (fun Q7 hQ7 hN7 hHeld => ?_)
        · exact SS.out _ (ext_drew (ext_refl _))
        refine rg_take (i := 0) (some 31) (v := ?_) rfl rfl (by kernel_rfl) (by rfl) hQ7 hHeld ?_ ?_
        rotate_left
        · intro w7 hSw; (try dsimp only at hSw); go_simp; all_goals with_reducible rfl
        try simp only [Act.put, List.setIfInBounds_toArray, List.set_cons_zero, List.set_cons_succ]
        refine rg_take (i := 1) (some 32) (v := ?_) rfl rfl (by kernel_rfl) (by rfl) hQ7 hHeld ?_ ?_
        rotate_left
        · intro w7 hSw; (try dsimp only at hSw); go_simp; all_goals with_reducible rfl
        try simp only [Act.put, List.setIfInBounds_toArray, List.set_cons_zero, List.set_cons_succ]
        refine rg_take (i := 2) (some 33) (v := ?_) rfl rfl (by kernel_rfl) (by rfl) hQ7 hHeld ?_ ?_
        rotate_left
        · intro w7 hSw; (try dsimp only at hSw); go_simp; all_goals with_reducible rfl
        try simp only [Act.put, List.setIfInBounds_toArray, List.set_cons_zero, List.set_cons_succ]
        refine rg_take (i := 3) (some 34) (v := ?_) rfl rfl (by kernel_rfl) (by rfl) hQ7 hHeld ?_ ?_
        rotate_left
        · intro w7 hSw; (try dsimp only at hSw); go_simp; all_goals with_reducible rfl
        try simp only [Act.put, List.setIfInBounds_toArray, List.set_cons_zero, List.set_cons_succ]
        refine rg_take (i := 4) (some 35) (v := ?_) rfl rfl (by kernel_rfl) (by rfl) hQ7 hHeld ?_ ?_
        rotate_left
        · intro w7 hSw; (try dsimp only at hSw); go_simp; all_goals with_reducible rfl
        try simp only [Act.put, List.setIfInBounds_toArray, List.set_cons_zero, List.set_cons_succ]
        refine rg_take (i := 5) (some 36) (v := ?_) rfl rfl (by kernel_rfl) (by rfl) hQ7 hHeld ?_ ?_
        rotate_left
        · intro w7 hSw; (try dsimp only at hSw); go_simp; all_goals with_reducible rfl
        try simp only [Act.put, List.setIfInBounds_toArray, List.set_cons_zero, List.set_cons_succ]
        refine rg_skip (i := 6) (some 37) rfl rfl (by kernel_rfl) (by rfl) hQ7 hHeld ?_
        try simp only [Act.put, List.setIfInBounds_toArray, List.set_cons_zero, List.set_cons_succ]
        refine rg_skip (i := 7) (some 38) rfl rfl (by kernel_rfl) (by rfl) hQ7 hHeld ?_
        try simp only [Act.put, List.setIfInBounds_toArray, List.set_cons_zero, List.set_cons_succ]
        refine rg_skip (i := 8) (some 39) rfl rfl (by kernel_rfl) (by rfl) hQ7 hHeld ?_
        try simp only [Act.put, List.setIfInBounds_toArray, List.set_cons_zero, List.set_cons_succ]
        refine rg_skip (i := 9) (some 40) rfl rfl (by kernel_rfl) (by rfl) hQ7 hHeld ?_
        try simp only [Act.put, List.setIfInBounds_toArray, List.set_cons_zero, List.set_cons_succ]
        refine rg_skip (i := 10) (some 41) rfl rfl (by kernel_rfl) (by rfl) hQ7 hHeld ?_
        try simp only [Act.put, List.setIfInBounds_toArray, List.set_cons_zero, List.set_cons_succ]
        refine rg_skip (i := 11) (some 42) rfl rfl (by kernel_rfl) (by rfl) hQ7 hHeld ?_
        try simp only [Act.put, List.setIfInBounds_toArray, List.set_cons_zero, List.set_cons_succ]
        refine rg_skip (i := 12) (some 43) rfl rfl (by kernel_rfl) (by rfl) hQ7 hHeld ?_
        try simp only [Act.put, List.setIfInBounds_toArray, List.set_cons_zero, List.set_cons_succ]
        refine rg_skip (i := 13) (some 44) rfl rfl (by kernel_rfl) (by rfl) hQ7 hHeld ?_
        try simp only [Act.put, List.setIfInBounds_toArray, List.set_cons_zero, List.set_cons_succ]
        refine rg_take (i := 14) (some 45) (v := ?_) rfl rfl (by kernel_rfl) (by rfl) hQ7 hHeld ?_ ?_
        rotate_left
        · intro w7 hSw; (try dsimp only at hSw); go_simp; all_goals with_reducible rfl
        try simp only [Act.put, List.setIfInBounds_toArray, List.set_cons_zero, List.set_cons_succ]
        refine rg_take (i := 15) (some 46) (v := ?_) rfl rfl (by kernel_rfl) (by rfl) hQ7 hHeld ?_ ?_
        rotate_left
        · intro w7 hSw; (try dsimp only at hSw); go_simp; all_goals with_reducible rfl
        try simp only [Act.put, List.setIfInBounds_toArray, List.set_cons_zero, List.set_cons_succ]
        refine rg_skip (i := 16) (some 47) rfl rfl (by kernel_rfl) (by rfl) hQ7 hHeld ?_
        try simp only [Act.put, List.setIfInBounds_toArray, List.set_cons_zero, List.set_cons_succ]
        refine rg_skip (i := 17) (some 48) rfl rfl (by kernel_rfl) (by rfl) hQ7 hHeld ?_
        try simp only [Act.put, List.setIfInBounds_toArray, List.set_cons_zero, List.set_cons_succ]
        refine rg_skip (i := 18) (some 49) rfl rfl (by kernel_rfl) (by rfl) hQ7 hHeld ?_
        try simp only [Act.put, List.setIfInBounds_toArray, List.set_cons_zero, List.set_cons_succ]
        refine rg_skip (i := 19) (some 50) rfl rfl (by kernel_rfl) (by rfl) hQ7 hHeld ?_
        try simp only [Act.put, List.setIfInBounds_toArray, List.set_cons_zero, List.set_cons_succ]
        refine rg_skip (i := 20) (some 51) rfl rfl (by kernel_rfl) (by rfl) hQ7 hHeld ?_
        try simp only [Act.put, List.setIfInBounds_toArray, List.set_cons_zero, List.set_cons_succ]
        refine rg_skip (i := 21) (some 52) rfl rfl (by kernel_rfl) (by rfl) hQ7 hHeld ?_
        try simp only [Act.put, List.setIfInBounds_toArray, List.set_cons_zero, List.set_cons_succ]
        refine rg_skip (i := 22) (some 53) rfl rfl (by kernel_rfl) (by rfl) hQ7 hHeld ?_
        try simp only [Act.put, List.setIfInBounds_toArray, List.set_cons_zero, List.set_cons_succ]
        refine rg_skip (i := 23) (some 54) rfl rfl (by kernel_rfl) (by rfl) hQ7 hHeld ?_
        try simp only [Act.put, List.setIfInBounds_toArray, List.set_cons_zero, List.set_cons_succ]
        refine rg_skip (i := 24) (some 55) rfl rfl (by kernel_rfl) (by rfl) hQ7 hHeld ?_
        try simp only [Act.put, List.setIfInBounds_toArray, List.set_cons_zero, List.set_cons_succ]
        refine rg_skip (i := 25) (some 56) rfl rfl (by kernel_rfl) (by rfl) hQ7 hHeld ?_
        try simp only [Act.put, List.setIfInBounds_toArray, List.set_cons_zero, List.set_cons_succ]
        refine rg_skip (i := 26) (some 57) rfl rfl (by kernel_rfl) (by rfl) hQ7 hHeld ?_
        try simp only [Act.put, List.setIfInBounds_toArray, List.set_cons_zero, List.set_cons_succ]
        refine rg_take (i := 27) (some 58) (v := ?_) rfl rfl (by kernel_rfl) (by rfl) hQ7 hHeld ?_ ?_
        rotate_left
        · intro w7 hSw; (try dsimp only at hSw); go_simp; all_goals with_reducible rfl
        try simp only [Act.put, List.setIfInBounds_toArray, List.set_cons_zero, List.set_cons_succ]
        refine rg_end (by kernel_rfl) (hN7 _ _ ?_) _
        clear hQ7 hN7 Q7
        have BX := hHeld.1
        clear SS
        have HR1 := Lib.hid (ext_trans HR.out BX)
        clear b1 bl d0 BX
        try rw [← hA2]
        clear hA2
        go_wp2_with fail
        first | exact ⟨⟨j + 1, by omega, by go_num, HQ.out.trans HN.out, HR1.out⟩, by simp [intOf] <;> omega⟩ | (go_roundw; all_goals first | exact ⟨j + 1, by omega, by go_num, HQ.out.trans HN.out, HR1.out⟩ | (simp [intOf] <;> omega))
      have f0 : decide (s ≥ 0) = true := decide_eq_true k0
      by_cases k1 : s < (l.length : Int)
      rotate_left
      · have f1 : decide (s < (l.length : Int)) = false := decide_eq_false k1
        have HN := Lib.hid (secOf_step (l := l) (v := v) HX.out (fun z => k1 z.2.1))
        go_wp2_with fail
        have SS := Lib.hid (show ∀ w', Below wr.heap.size wr w' → (fun w' => Below wr.heap.size wr w' ∧ w'.cell? ⟨w.heap.size, 1, none⟩ = some (.slice sA l.length sc) ∧ w'.cell? ⟨p1, o2 + j, none⟩ = some (.int .i64 s)) w' from fun w' h => ⟨h, ((HB.out.ext HR.out).ext h).c 1 _ rfl, (h.cell (p := ⟨p1, o2 + j, none⟩) hp1).trans d0⟩)
        refine rg_begin (S := (fun w' => Below wr.heap.size wr w' ∧ w'.cell? ⟨w.heap.size, 1, none⟩ = some (.slice sA l.length sc) ∧ w'.cell? ⟨p1, o2 + j, none⟩ = some (.int .i64 s))) 28 (by kernel_rfl) (by intro d; cases d <;> intro _ _ _ _ h <;> exact h) ?_ (fun Q7 hQ7 hN7 hHeld => ?_)
        · exact SS.out _ (ext_drew (ext_refl _))
        refine rg_take (i := 0) (some 31) (v := ?_) rfl rfl (by kernel_rfl) (by rfl) hQ7 hHeld ?_ ?_
        rotate_left
        · intro w7 hSw; (try dsimp only at hSw); go_simp; all_goals with_reducible rfl
        try simp only [Act.put, List.setIfInBounds_toArray, List.set_cons_zero, List.set_cons_succ]
        refine rg_take (i := 1) (some 32) (v := ?_) rfl rfl (by kernel_rfl) (by rfl) hQ7 hHeld ?_ ?_
        rotate_left
        · intro w7 hSw; (try dsimp only at hSw); go_simp; all_goals with_reducible rfl
        try simp only [Act.put, List.setIfInBounds_toArray, List.set_cons_zero, List.set_cons_succ]
        refine rg_take (i := 2) (some 33) (v := ?_) rfl rfl (by kernel_rfl) (by rfl) hQ7 hHeld ?_ ?_
        rotate_left
        · intro w7 hSw; (try dsimp only at hSw); go_simp; all_goals with_reducible rfl
        try simp only [Act.put, List.setIfInBounds_toArray, List.set_cons_zero, List.set_cons_succ]
        refine rg_take (i := 3) (some 34) (v := ?_) rfl rfl (by kernel_rfl) (by rfl) hQ7 hHeld ?_ ?_
        rotate_left
        · intro w7 hSw; (try dsimp only at hSw); go_simp; all_goals with_reducible rfl
        try simp only [Act.put, List.setIfInBounds_toArray, List.set_cons_zero, List.set_cons_succ]
        refine rg_take (i := 4) (some 35) (v := ?_) rfl rfl (by kernel_rfl) (by rfl) hQ7 hHeld ?_ ?_
        rotate_left
        · intro w7 hSw; (try dsimp only at hSw); go_simp; all_goals with_reducible rfl
        try simp only [Act.put, List.setIfInBounds_toArray, List.set_cons_zero, List.set_cons_succ]
        refine rg_take (i := 5) (some 36) (v := ?_) rfl rfl (by kernel_rfl) (by rfl) hQ7 hHeld ?_ ?_
        rotate_left
        · intro w7 hSw; (try dsimp only at hSw); go_simp; all_goals with_reducible rfl
        try simp only [Act.put, List.setIfInBounds_toArray, List.set_cons_zero, List.set_cons_succ]
        refine rg_take (i := 6) (some 37) (v := ?_) rfl rfl (by kernel_rfl) (by rfl) hQ7 hHeld ?_ ?_
        rotate_left
        · intro w7 hSw; (try dsimp only at hSw); go_simp; all_goals with_reducible rfl
        try simp only [Act.put, List.setIfInBounds_toArray, List.set_cons_zero, List.set_cons_succ]
        refine rg_take (i := 7) (some 38) (v := ?_) rfl rfl (by kernel_rfl) (by rfl) hQ7 hHeld ?_ ?_
        rotate_left
        · intro w7 hSw; (try dsimp only at hSw); go_simp; all_goals with_reducible rfl
        try simp only [Act.put, List.setIfInBounds_toArray, List.set_cons_zero, List.set_cons_succ]
        refine rg_take (i := 8) (some 39) (v := ?_) rfl rfl (by kernel_rfl) (by rfl) hQ7 hHeld ?_ ?_
        rotate_left
        · intro w7 hSw; (try dsimp only at hSw); go_simp; all_goals with_reducible rfl
        try simp only [Act.put, List.setIfInBounds_toArray, List.set_cons_zero, List.set_cons_succ]
        refine rg_take (i := 9) (some 40) (v := ?_) rfl rfl (by kernel_rfl) (by rfl) hQ7 hHeld ?_ ?_
        rotate_left
        · intro w7 hSw; (try dsimp only at hSw); go_simp; all_goals with_reducible rfl
        try simp only [Act.put, List.setIfInBounds_toArray, List.set_cons_zero, List.set_cons_succ]
        refine rg_take (i := 10) (some 41) (v := ?_) rfl rfl (by kernel_rfl) (by rfl) hQ7 hHeld ?_ ?_
        rotate_left
        · intro w7 hSw; (try dsimp only at hSw); go_simp; all_goals with_reducible rfl
        try simp only [Act.put, List.setIfInBounds_toArray, List.set_cons_zero, List.set_cons_succ]
        refine rg_take (i := 11) (some 42) (v := ?_) rfl rfl (by kernel_rfl) (by rfl) hQ7 hHeld ?_ ?_
        rotate_left
        · intro w7 hSw; (try dsimp only at hSw); go_simp; all_goals with_reducible rfl
        try simp only [Act.put, List.setIfInBounds_toArray, List.set_cons_zero, List.set_cons_succ]
        refine rg_take (i := 12) (some 43) (v := ?_) rfl rfl (by kernel_rfl) (by rfl) hQ7 hHeld ?_ ?_
        rotate_left
        · intro w7 hSw; (try dsimp only at hSw); go_simp; all_goals with_reducible rfl
        try simp only [Act.put, List.setIfInBounds_toArray, List.set_cons_zero, List.set_cons_succ]
        refine rg_take (i := 13) (some 44) (v := ?_) rfl rfl (by kernel_rfl) (by rfl) hQ7 hHeld ?_ ?_
        rotate_left
        · intro w7 hSw; (try dsimp only at hSw); go_simp; all_goals with_reducible rfl
        try simp only [Act.put, List.setIfInBounds_toArray, List.set_cons_zero, List.set_cons_succ]
        refine rg_take (i := 14) (some 45) (v := ?_) rfl rfl (by kernel_rfl) (by rfl) hQ7 hHeld ?_ ?_
        rotate_left
        · intro w7 hSw; (try dsimp only at hSw); go_simp; all_goals with_reducible rfl
        try simp only [Act.put, List.setIfInBounds_toArray, List.set_cons_zero, List.set_cons_succ]
        refine rg_take (i := 15) (some 46) (v := ?_) rfl rfl (by kernel_rfl) (by rfl) hQ7 hHeld ?_ ?_
        rotate_left
        · intro w7 hSw; (try dsimp only at hSw); go_simp; all_goals with_reducible rfl
        try simp only [Act.put, List.setIfInBounds_toArray, List.set_cons_zero, List.set_cons_succ]
        refine rg_skip (i := 16) (some 47) rfl rfl (by kernel_rfl) (by rfl) hQ7 hHeld ?_
        try simp only [Act.put, List.setIfInBounds_toArray, List.set_cons_zero, List.set_cons_succ]
        refine rg_skip (i := 17) (some 48) rfl rfl (by kernel_rfl) (by rfl) hQ7 hHeld ?_
        try simp only [Act.put, List.setIfInBounds_toArray, List.set_cons_zero, List.set_cons_succ]
        refine rg_skip (i := 18) (some 49) rfl rfl (by kernel_rfl) (by rfl) hQ7 hHeld ?_
        try simp only [Act.put, List.setIfInBounds_toArray, List.set_cons_zero, List.set_cons_succ]
        refine rg_skip (i := 19) (some 50) rfl rfl (by kernel_rfl) (by rfl) hQ7 hHeld ?_
        try simp only [Act.put, List.setIfInBounds_toArray, List.set_cons_zero, List.set_cons_succ]
        refine rg_skip (i := 20) (some 51) rfl rfl (by kernel_rfl) (by rfl) hQ7 hHeld ?_
        try simp only [Act.put, List.setIfInBounds_toArray, List.set_cons_zero, List.set_cons_succ]
        refine rg_skip (i := 21) (some 52) rfl rfl (by kernel_rfl) (by rfl) hQ7 hHeld ?_
        try simp only [Act.put, List.setIfInBounds_toArray, List.set_cons_zero, List.set_cons_succ]
        refine rg_skip (i := 22) (some 53) rfl rfl (by kernel_rfl) (by rfl) hQ7 hHeld ?_
        try simp only [Act.put, List.setIfInBounds_toArray, List.set_cons_zero, List.set_cons_succ]
        refine rg_skip (i := 23) (some 54) rfl rfl (by kernel_rfl) (by rfl) hQ7 hHeld ?_
        try simp only [Act.put, List.setIfInBounds_toArray, List.set_cons_zero, List.set_cons_succ]
        refine rg_skip (i := 24) (some 55) rfl rfl (by kernel_rfl) (by rfl) hQ7 hHeld ?_
        try simp only [Act.put, List.setIfInBounds_toArray, List.set_cons_zero, List.set_cons_succ]
        refine rg_skip (i := 25) (some 56) rfl rfl (by kernel_rfl) (by rfl) hQ7 hHeld ?_
        try simp only [Act.put, List.setIfInBounds_toArray, List.set_cons_zero, List.set_cons_succ]
        refine rg_skip (i := 26) (some 57) rfl rfl (by kernel_rfl) (by rfl) hQ7 hHeld ?_
        try simp only [Act.put, List.setIfInBounds_toArray, List.set_cons_zero, List.set_cons_succ]
        refine rg_take (i := 27) (some 58) (v := ?_) rfl rfl (by kernel_rfl) (by rfl) hQ7 hHeld ?_ ?_
        rotate_left
        · intro w7 hSw; (try dsimp only at hSw); go_simp; all_goals with_reducible rfl
        try simp only [Act.put, List.setIfInBounds_toArray, List.set_cons_zero, List.set_cons_succ]
        refine rg_end (by kernel_rfl) (hN7 _ _ ?_) _
        clear hQ7 hN7 Q7
        have BX := hHeld.1
        clear SS
        have HR1 := Lib.hid (ext_trans HR.out BX)
        clear b1 bl d0 BX
        try rw [← hA2]
        clear hA2
        go_wp2_with fail
        first | exact ⟨⟨j + 1, by omega, by go_num, HQ.out.trans HN.out, HR1.out⟩, by simp [intOf] <;> omega⟩ | (go_roundw; all_goals first | exact ⟨j + 1, by omega, by go_num, HQ.out.trans HN.out, HR1.out⟩ | (simp [intOf] <;> omega))
      have f1 : decide (s < (l.length : Int)) = true := decide_eq_true k1
      obtain ⟨x, x1, o3, hx, hA3, hxb, hcx⟩ := (HS.out.ext HR.out).at_ (k := s.toNat) (by omega)
      have x2 := hcx 2 _ rfl
      have HXO := Lib.hid ((HSO.out x (List.mem_of_getElem? hx)).ext HR.out)
      have HV := Lib.hid (volsAt_of hx)
      subst hA3
      clear hcx hx
      obtain ⟨r, hr⟩ : ∃ r, x.vs.l.any (· == v) = r := ⟨_, rfl⟩
      have HC := Lib.hid hr
      clear hr
      go_wp2_with fail
      have SS := Lib.hid (show ∀ w', Below wr.heap.size wr w' → (fun w' => Below wr.heap.size wr w' ∧ w'.cell? ⟨w.heap.size, 1, none⟩ = some (.slice (some ⟨x1, o3, none⟩) l.length sc) ∧ w'.cell? ⟨p1, o2 + j, none⟩ = some (.int .i64 s) ∧ w'.cell? ⟨x1, o3 + s.toNat * 5 + 2, none⟩ = some (.slice x.vs.A x.vs.l.length x.vs.c)) w' from fun w' h => ⟨h, ((HB.out.ext HR.out).ext h).c 1 _ rfl, (h.cell (p := ⟨p1, o2 + j, none⟩) hp1).trans d0, (h.cell (p := ⟨x1, o3 + s.toNat * 5 + 2, none⟩) hxb).trans x2⟩)
      refine rg_begin (S := (fun w' => Below wr.heap.size wr w' ∧ w'.cell? ⟨w.heap.size, 1, none⟩ = some (.slice (some ⟨x1, o3, none⟩) l.length sc) ∧ w'.cell? ⟨p1, o2 + j, none⟩ = some (.int .i64 s) ∧ w'.cell? ⟨x1, o3 + s.toNat * 5 + 2, none⟩ = some (.slice x.vs.A x.vs.l.length x.vs.c))) 28 (by kernel_rfl) (by intro d; cases d <;> intro _ _ _ _ h <;> exact h) ?_ (fun Q7 hQ7 hN7 hHeld => ?_)
      · exact SS.out _ (ext_drew (ext_refl _))
      refine rg_take (i := 0) (some 31) (v := ?_) rfl rfl (by kernel_rfl) (by rfl) hQ7 hHeld ?_ ?_
      rotate_left
      · intro w7 hSw; (try dsimp only at hSw); go_simp; all_goals with_reducible rfl
      try simp only [Act.put, List.setIfInBounds_toArray, List.set_cons_zero, List.set_cons_succ]
      refine rg_take (i := 1) (some 32) (v := ?_) rfl rfl (by kernel_rfl) (by rfl) hQ7 hHeld ?_ ?_
      rotate_left
      · intro w7 hSw; (try dsimp only at hSw); go_simp; all_goals with_reducible rfl
      try simp only [Act.put, List.setIfInBounds_toArray, List.set_cons_zero, List.set_cons_succ]
      refine rg_take (i := 2) (some 33) (v := ?_) rfl rfl (by kernel_rfl) (by rfl) hQ7 hHeld ?_ ?_
      rotate_left
      · intro w7 hSw; (try dsimp only at hSw); go_simp; all_goals with_reducible rfl
      try simp only [Act.put, List.setIfInBounds_toArray, List.set_cons_zero, List.set_cons_succ]
      refine rg_take (i := 3) (some 34) (v := ?_) rfl rfl (by kernel_rfl) (by rfl) hQ7 hHeld ?_ ?_
      rotate_left
      · intro w7 hSw; (try dsimp only at hSw); go_simp; all_goals with_reducible rfl
      try simp only [Act.put, List.setIfInBounds_toArray, List.set_cons_zero, List.set_cons_succ]
      refine rg_take (i := 4) (some 35) (v := ?_) rfl rfl (by kernel_rfl) (by rfl) hQ7 hHeld ?_ ?_
      rotate_left
      · intro w7 hSw; (try dsimp only at hSw); go_simp; all_goals with_reducible rfl
      try simp only [Act.put, List.setIfInBounds_toArray, List.set_cons_zero, List.set_cons_succ]
      refine rg_take (i := 5) (some 36) (v := ?_) rfl rfl (by kernel_rfl) (by rfl) hQ7 hHeld ?_ ?_
      rotate_left
      · intro w7 hSw; (try dsimp only at hSw); go_simp; all_goals with_reducible rfl
      try simp only [Act.put, List.setIfInBounds_toArray, List.set_cons_zero, List.set_cons_succ]
      refine rg_take (i := 6) (some 37) (v := ?_) rfl rfl (by kernel_rfl) (by rfl) hQ7 hHeld ?_ ?_
      rotate_left
      · intro w7 hSw; (try dsimp only at hSw); go_simp; all_goals with_reducible rfl
      try simp only [Act.put, List.setIfInBounds_toArray, List.set_cons_zero, List.set_cons_succ]
      refine rg_take (i := 7) (some 38) (v := ?_) rfl rfl (by kernel_rfl) (by rfl) hQ7 hHeld ?_ ?_
      rotate_left
      · intro w7 hSw; (try dsimp only at hSw); go_simp; all_goals with_reducible rfl
      try simp only [Act.put, List.setIfInBounds_toArray, List.set_cons_zero, List.set_cons_succ]
      refine rg_take (i := 8) (some 39) (v := ?_) rfl rfl (by kernel_rfl) (by rfl) hQ7 hHeld ?_ ?_
      rotate_left
      · intro w7 hSw; (try dsimp only at hSw); go_simp; all_goals with_reducible rfl
      try simp only [Act.put, List.setIfInBounds_toArray, List.set_cons_zero, List.set_cons_succ]
      refine rg_take (i := 9) (some 40) (v := ?_) rfl rfl (by kernel_rfl) (by rfl) hQ7 hHeld ?_ ?_
      rotate_left
      · intro w7 hSw; (try dsimp only at hSw); go_simp; all_goals with_reducible rfl
      try simp only [Act.put, List.setIfInBounds_toArray, List.set_cons_zero, List.set_cons_succ]
      refine rg_take (i := 10) (some 41) (v := ?_) rfl rfl (by kernel_rfl) (by rfl) hQ7 hHeld ?_ ?_
      rotate_left
      · intro w7 hSw; (try dsimp only at hSw); go_simp; all_goals with_reducible rfl
      try simp only [Act.put, List.setIfInBounds_toArray, List.set_cons_zero, List.set_cons_succ]
      refine rg_take (i := 11) (some 42) (v := ?_) rfl rfl (by kernel_rfl) (by rfl) hQ7 hHeld ?_ ?_
      rotate_left
      · intro w7 hSw; (try dsimp only at hSw); go_simp; all_goals with_reducible rfl
      try simp only [Act.put, List.setIfInBounds_toArray, List.set_cons_zero, List.set_cons_succ]
      refine rg_take (i := 12) (some 43) (v := ?_) rfl rfl (by kernel_rfl) (by rfl) hQ7 hHeld ?_ ?_
      rotate_left
      · intro w7 hSw; (try dsimp only at hSw); go_simp; all_goals with_reducible rfl
      try simp only [Act.put, List.setIfInBounds_toArray, List.set_cons_zero, List.set_cons_succ]
      refine rg_take (i := 13) (some 44) (v := ?_) rfl rfl (by kernel_rfl) (by rfl) hQ7 hHeld ?_ ?_
      rotate_left
      · intro w7 hSw; (try dsimp only at hSw); go_simp; all_goals with_reducible rfl
      try simp only [Act.put, List.setIfInBounds_toArray, List.set_cons_zero, List.set_cons_succ]
      refine rg_take (i := 14) (some 45) (v := ?_) rfl rfl (by kernel_rfl) (by rfl) hQ7 hHeld ?_ ?_
      rotate_left
      · intro w7 hSw; (try dsimp only at hSw); go_simp; all_goals with_reducible rfl
      try simp only [Act.put, List.setIfInBounds_toArray, List.set_cons_zero, List.set_cons_succ]
      refine rg_take (i := 15) (some 46) (v := ?_) rfl rfl (by kernel_rfl) (by rfl) hQ7 hHeld ?_ ?_
      rotate_left
      · intro w7 hSw; (try dsimp only at hSw); go_simp; all_goals with_reducible rfl
      try simp only [Act.put, List.setIfInBounds_toArray, List.set_cons_zero, List.set_cons_succ]
      refine rg_take (i := 16) (some 47) (v := ?_) rfl rfl (by kernel_rfl) (by rfl) hQ7 hHeld ?_ ?_
      rotate_left
      · intro w7 hSw; (try dsimp only at hSw); go_simp; all_goals with_reducible rfl
      try simp only [Act.put, List.setIfInBounds_toArray, List.set_cons_zero, List.set_cons_succ]
      refine rg_take (i := 17) (some 48) (v := ?_) rfl rfl (by kernel_rfl) (by rfl) hQ7 hHeld ?_ ?_
      rotate_left
      · intro w7 hSw; (try dsimp only at hSw); go_simp; all_goals with_reducible rfl
      try simp only [Act.put, List.setIfInBounds_toArray, List.set_cons_zero, List.set_cons_succ]
      refine rg_take (i := 18) (some 49) (v := ?_) rfl rfl (by kernel_rfl) (by rfl) hQ7 hHeld ?_ ?_
      rotate_left
      · intro w7 hSw; (try dsimp only at hSw); go_simp; all_goals with_reducible rfl
      try simp only [Act.put, List.setIfInBounds_toArray, List.set_cons_zero, List.set_cons_succ]
      refine rg_take (i := 19) (some 50) (v := ?_) rfl rfl (by kernel_rfl) (by rfl) hQ7 hHeld ?_ ?_
      rotate_left
      · intro w7 hSw; (try dsimp only at hSw); go_simp; all_goals with_reducible rfl
      try simp only [Act.put, List.setIfInBounds_toArray, List.set_cons_zero, List.set_cons_succ]
      refine rg_take (i := 20) (some 51) (v := ?_) rfl rfl (by kernel_rfl) (by rfl) hQ7 hHeld ?_ ?_
      rotate_left
      · intro w7 hSw; (try dsimp only at hSw); go_simp; all_goals with_reducible rfl
      try simp only [Act.put, List.setIfInBounds_toArray, List.set_cons_zero, List.set_cons_succ]
      refine rg_take (i := 21) (some 52) (v := ?_) rfl rfl (by kernel_rfl) (by rfl) hQ7 hHeld ?_ ?_
      rotate_left
      · intro w7 hSw; (try dsimp only at hSw); go_simp; all_goals with_reducible rfl
      try simp only [Act.put, List.setIfInBounds_toArray, List.set_cons_zero, List.set_cons_succ]
      refine rg_take (i := 22) (some 53) (v := ?_) rfl rfl (by kernel_rfl) (by rfl) hQ7 hHeld ?_ ?_
      rotate_left
      · intro w7 hSw; (try dsimp only at hSw); go_simp; all_goals with_reducible rfl
      try simp only [Act.put, List.setIfInBounds_toArray, List.set_cons_zero, List.set_cons_succ]
      refine rg_take (i := 23) (some 54) (v := ?_) rfl rfl (by kernel_rfl) (by rfl) hQ7 hHeld ?_ ?_
      rotate_left
      · intro w7 hSw; (try dsimp only at hSw); go_simp; all_goals with_reducible rfl
      try simp only [Act.put, List.setIfInBounds_toArray, List.set_cons_zero, List.set_cons_succ]
      refine rg_take (i := 24) (some 55) (v := ?_) rfl rfl (by kernel_rfl) (by rfl) hQ7 hHeld ?_ ?_
      rotate_left
      · intro w7 hSw; (try dsimp only at hSw); go_simp; all_goals with_reducible rfl
      try simp only [Act.put, List.setIfInBounds_toArray, List.set_cons_zero, List.set_cons_succ]
      refine rg_take (i := 25) (some 56) (v := ?_) rfl rfl (by kernel_rfl) (by rfl) hQ7 hHeld ?_ ?_
      rotate_left
      · intro w7 hSw; (try dsimp only at hSw); go_simp; all_goals with_reducible rfl
      try simp only [Act.put, List.setIfInBounds_toArray, List.set_cons_zero, List.set_cons_succ]
      refine rg_one (i := 26) (by kernel_rfl) (rg_step rfl (by rfl) (fun K hK => ?_))
      go_simp
      refine (has_at r HC.out rfl (HXO.out.2.2.slc.ext hHeld.1) HXO.out.2.2.len).mono ?_
      rintro e u1 ⟨rfl, B1⟩
      go_wp2_with fail
      refine hK.out _ _ ?_ (fun hHeld2 => ?_)
      · exact SS.out _ (ext_trans hHeld.1 B1)
      clear hHeld
      have hHeld := hHeld2
      clear hHeld2
      clear hK K
      try simp only [Act.put, List.setIfInBounds_toArray, List.set_cons_zero, List.set_cons_succ]
      refine rg_take (i := 27) (some 58) (v := ?_) rfl rfl (by kernel_rfl) (by rfl) hQ7 hHeld ?_ ?_
      rotate_left
      · intro w7 hSw; (try dsimp only at hSw); go_simp; all_goals with_reducible rfl
      try simp only [Act.put, List.setIfInBounds_toArray, List.set_cons_zero, List.set_cons_succ]
      refine rg_end (by kernel_rfl) (hN7 _ _ ?_) _
      clear hQ7 hN7 Q7
      have BX := hHeld.1
      clear SS
      have HR1 := Lib.hid (ext_trans HR.out BX)
      have D9 := Lib.hid ((BX.cell (p := ⟨p1, o2 + j, none⟩) hp1).trans d0)
      clear b1 bl d0 x2
      cases r
      · have HN := Lib.hid (secOf_step (l := l) (v := v) HX.out (fun z => by have := z.2.2; rw [HV.out, HC.out] at this; cases this))
        clear BX
        try rw [← hA2]
        clear hA2
        go_wp2_with fail
        first | exact ⟨⟨j + 1, by omega, by go_num, HQ.out.trans HN.out, HR1.out⟩, by simp [intOf] <;> omega⟩ | (go_roundw; all_goals first | exact ⟨j + 1, by omega, by go_num, HQ.out.trans HN.out, HR1.out⟩ | (simp [intOf] <;> omega))
      · have HN := Lib.hid (secOf_hit (l := l) (v := v) HX.out ⟨k0, k1, by rw [HV.out]; exact HC.out⟩)
        have d0 := D9.out
        clear BX
        go_wp2_with fail
        go_ret2
        rw [HQ.out, HN.out]
        exact ⟨rfl, ext_trans HE.out HR1.out⟩
    · have hlt' : decide ((j : Int) < g.ss.l.length) = false := decide_eq_false (by omega)
      have hd : g.ss.l.drop j = [] := List.drop_eq_nil_of_le (by omega)
      rw [hd] at HQ
      clear hd
      go_wp2_with fail
      go_ret2
      rw [HQ.out]
      exact ⟨rfl, ext_trans HE.out HR.out⟩
set_option maxHeartbeats 1000000 in
theorem rasec_any (t : Tab) (q v : Int) (w : World) (ht : Tab.ok w t) : Calls Try.prog 26 #[t.v, .int .i64 q, .int .i64 v] w (SecR w (secIn t q v)) := by
  have E := ext_alloc (ext_refl w) (.cells #[.int .i64 t.n, .slice t.ss.A t.ss.l.length t.ss.c, .slice t.cs.A t.cs.l.length t.cs.c, .slice t.ws.A t.ws.l.length t.ws.c, .slice t.ms.A t.ms.l.length t.ms.c, .slice t.ks.A t.ks.l.length t.ks.c] 28)
  have HT := Lib.hid (ht.ext E)
  have HE := Lib.hid E
  clear ht E
  go_enter Try.func26, Try.ntmps26
  go_wp2_with fail
  refine (rcsec_any none 0 0 t.ss.A t.ss.c t.ss.l t.cs.A t.cs.c t.cs.l q v _ HT.out.1.slc HT.out.1.len (fun x hx => HT.out.1.all hx) HT.out.2.1.slc HT.out.2.1.len (fun x hx => HT.out.2.1.all hx)).mono ?_
  rintro e w1 ⟨rfl, B⟩
  go_wp2_with fail
  go_ret2
  exact ⟨rfl, ext_trans HE.out B⟩
end Go.Proofs.Ytilocjliplmmpaa
/- The reference's In and Sector. -/
set_option linter.unusedSimpArgs false
set_option linter.unusedVariables false
namespace Go.Proofs.Ytilocjliplmmpaa
open Go.RowKit
/-- The best number so far. -/
def Best (l : List Chg) (o : Option Chg) (b : Int) : Prop := match o with | none => b = -1 | some x => ∃ k : Nat, b = k ∧ l[k]? = some x
set_option maxRecDepth 100000 in
set_option maxHeartbeats 16000000 in
theorem rin_any (A : Option Addr) (c : Nat) (l : List Chg) (m : Int) (w : World) (ha : Slc w Chg.cells 3 A l) (hl : l.length ≤ maxLen) : Calls Try.prog 12 #[.agg #[.slice A l.length c], .int .i64 m] w (InR w (inS l m)) := by
  obtain ⟨W, hW⟩ : ∃ W, (w.alloc (.cells #[.slice A l.length c] 31)).alloc (.cells #[.int .i64 0, .int .i64 0, .slice none 0 0] 37) = W := ⟨_, rfl⟩
  have hz : W.heap.size = w.heap.size + 2 := by rw [← hW]; simp
  have HB0 : Hid (Blk W w.heap.size [.slice A l.length c]) := by
    rw [← hW]; exact (Blk.newH w [.slice A l.length c] 31 w.heap.size rfl).alloc _
  have HB1 : Hid (Blk W (w.heap.size + 1) noChg.cells) := by
    rw [← hW]; exact Blk.newH (w.alloc (.cells #[.slice A l.length c] 31)) noChg.cells 37 (w.heap.size + 1) (by simp)
  have HE : Hid (Below w.heap.size w W) := by
    rw [← hW]; exact ext_alloc (ext_alloc (ext_refl w) _) _
  have HA := Lib.hid (ha.ext HE.out)
  clear ha
  have b0 := HB0.out.c 0 _ rfl
  have bl := HB0.out.lt
  unfold maxLen at hl
  go_enter Try.func12, Try.ntmps12
  go_wp2_with fail
  clear hW
  go_loopw [6, 7] (fun z i wr => ∃ (k : Nat) (o : Option Chg) (b : Int), k ≤ l.length ∧ i = .int .i64 k ∧ z = .int .i64 b ∧ Hid (Best l o b) ∧ Hid (inS l m = inGo m o (l.drop k)) ∧ Hid (Below W.heap.size W wr)) (fun _ i _ => l.length - (intOf i).toNat)
  case atStart => exact ⟨0, none, -1, Nat.zero_le _, rfl, rfl, rfl, rfl, ext_refl _⟩
  clear b0 bl
  case round =>
    obtain ⟨k, o, b, hk, rfl, rfl, HO, HQ, HR⟩ := hrel
    have b0 := (HB0.out.ext HR.out).c 0 _ rfl
    have bl := (HB0.out.ext HR.out).lt
    by_cases hlt : k < l.length
    · have hlt' : (k : Int) < l.length := by omega
      obtain ⟨x, q1, o1, hx, rfl, hb1, hc⟩ := (HA.out.ext HR.out).at_ hlt
      have HX := Lib.hid hx
      have c0 := hc 0 _ rfl
      simp only [Nat.add_zero] at c0
      clear hc hx
      by_cases h1 : x.f ≤ m
      rotate_left
      · have e1 : decide (x.f ≤ m) = false := decide_eq_false h1
        have HN : Hid (inGo m o (l.drop k) = inGo m o (l.drop (k + 1))) := by
          cases o with
          | none => exact (inGo_none (m := m) HX.out).trans (if_neg h1)
          | some y => exact (inGo_some (m := m) (c := y) HX.out).trans (if_neg (fun q => h1 q.1))
        go_wp2_with fail
        have SS := Lib.hid (show ∀ w', Below wr.heap.size wr w' → (fun w' => Below wr.heap.size wr w' ∧ w'.cell? ⟨w.heap.size, 0, none⟩ = some (.slice (some ⟨q1, o1, none⟩) l.length c) ∧ w'.cell? ⟨q1, o1 + k * 3, none⟩ = some (.int .i64 x.f)) w' from fun w' h => ⟨h, ((HB0.out.ext HR.out).ext h).c 0 _ rfl, (h.cell (p := ⟨q1, o1 + k * 3, none⟩) hb1).trans c0⟩)
        refine rg_begin (S := (fun w' => Below wr.heap.size wr w' ∧ w'.cell? ⟨w.heap.size, 0, none⟩ = some (.slice (some ⟨q1, o1, none⟩) l.length c) ∧ w'.cell? ⟨q1, o1 + k * 3, none⟩ = some (.int .i64 x.f))) 27 (by kernel_rfl) (by intro d; cases d <;> intro _ _ _ _ h <;> exact h) ?_ (fun Q7 hQ7 hN7 hHeld => ?_)
        · exact SS.out _ (ext_drew (ext_refl _))
        refine rg_take (i := 0) (some 15) (v := ?_) rfl rfl (by kernel_rfl) (by rfl) hQ7 hHeld ?_ ?_
        rotate_left
        · intro w7 hSw; (try dsimp only at hSw); go_simp; all_goals with_reducible rfl
        try simp only [Act.put, List.setIfInBounds_toArray, List.set_cons_zero, List.set_cons_succ]
        refine rg_take (i := 1) (some 16) (v := ?_) rfl rfl (by kernel_rfl) (by rfl) hQ7 hHeld ?_ ?_
        rotate_left
        · intro w7 hSw; (try dsimp only at hSw); go_simp; all_goals with_reducible rfl
        try simp only [Act.put, List.setIfInBounds_toArray, List.set_cons_zero, List.set_cons_succ]
        refine rg_take (i := 2) (some 17) (v := ?_) rfl rfl (by kernel_rfl) (by rfl) hQ7 hHeld ?_ ?_
        rotate_left
        · intro w7 hSw; (try dsimp only at hSw); go_simp; all_goals with_reducible rfl
        try simp only [Act.put, List.setIfInBounds_toArray, List.set_cons_zero, List.set_cons_succ]
        refine rg_take (i := 3) (some 18) (v := ?_) rfl rfl (by kernel_rfl) (by rfl) hQ7 hHeld ?_ ?_
        rotate_left
        · intro w7 hSw; (try dsimp only at hSw); go_simp; all_goals with_reducible rfl
        try simp only [Act.put, List.setIfInBounds_toArray, List.set_cons_zero, List.set_cons_succ]
        refine rg_take (i := 4) (some 19) (v := ?_) rfl rfl (by kernel_rfl) (by rfl) hQ7 hHeld ?_ ?_
        rotate_left
        · intro w7 hSw; (try dsimp only at hSw); go_simp; all_goals with_reducible rfl
        try simp only [Act.put, List.setIfInBounds_toArray, List.set_cons_zero, List.set_cons_succ]
        refine rg_take (i := 5) (some 20) (v := ?_) rfl rfl (by kernel_rfl) (by rfl) hQ7 hHeld ?_ ?_
        rotate_left
        · intro w7 hSw; (try dsimp only at hSw); go_simp; all_goals with_reducible rfl
        try simp only [Act.put, List.setIfInBounds_toArray, List.set_cons_zero, List.set_cons_succ]
        refine rg_take (i := 6) (some 21) (v := ?_) rfl rfl (by kernel_rfl) (by rfl) hQ7 hHeld ?_ ?_
        rotate_left
        · intro w7 hSw; (try dsimp only at hSw); go_simp; all_goals with_reducible rfl
        try simp only [Act.put, List.setIfInBounds_toArray, List.set_cons_zero, List.set_cons_succ]
        refine rg_take (i := 7) (some 22) (v := ?_) rfl rfl (by kernel_rfl) (by rfl) hQ7 hHeld ?_ ?_
        rotate_left
        · intro w7 hSw; (try dsimp only at hSw); go_simp; all_goals with_reducible rfl
        try simp only [Act.put, List.setIfInBounds_toArray, List.set_cons_zero, List.set_cons_succ]
        refine rg_take (i := 8) (some 23) (v := ?_) rfl rfl (by kernel_rfl) (by rfl) hQ7 hHeld ?_ ?_
        rotate_left
        · intro w7 hSw; (try dsimp only at hSw); go_simp; all_goals with_reducible rfl
        try simp only [Act.put, List.setIfInBounds_toArray, List.set_cons_zero, List.set_cons_succ]
        refine rg_skip (i := 9) (some 24) rfl rfl (by kernel_rfl) (by rfl) hQ7 hHeld ?_
        try simp only [Act.put, List.setIfInBounds_toArray, List.set_cons_zero, List.set_cons_succ]
        refine rg_skip (i := 10) (some 25) rfl rfl (by kernel_rfl) (by rfl) hQ7 hHeld ?_
        try simp only [Act.put, List.setIfInBounds_toArray, List.set_cons_zero, List.set_cons_succ]
        refine rg_skip (i := 11) (some 26) rfl rfl (by kernel_rfl) (by rfl) hQ7 hHeld ?_
        try simp only [Act.put, List.setIfInBounds_toArray, List.set_cons_zero, List.set_cons_succ]
        refine rg_skip (i := 12) (some 27) rfl rfl (by kernel_rfl) (by rfl) hQ7 hHeld ?_
        try simp only [Act.put, List.setIfInBounds_toArray, List.set_cons_zero, List.set_cons_succ]
        refine rg_skip (i := 13) (some 28) rfl rfl (by kernel_rfl) (by rfl) hQ7 hHeld ?_
        try simp only [Act.put, List.setIfInBounds_toArray, List.set_cons_zero, List.set_cons_succ]
        refine rg_skip (i := 14) (some 29) rfl rfl (by kernel_rfl) (by rfl) hQ7 hHeld ?_
        try simp only [Act.put, List.setIfInBounds_toArray, List.set_cons_zero, List.set_cons_succ]
        refine rg_skip (i := 15) (some 30) rfl rfl (by kernel_rfl) (by rfl) hQ7 hHeld ?_
        try simp only [Act.put, List.setIfInBounds_toArray, List.set_cons_zero, List.set_cons_succ]
        refine rg_skip (i := 16) (some 31) rfl rfl (by kernel_rfl) (by rfl) hQ7 hHeld ?_
        try simp only [Act.put, List.setIfInBounds_toArray, List.set_cons_zero, List.set_cons_succ]
        refine rg_skip (i := 17) (some 32) rfl rfl (by kernel_rfl) (by rfl) hQ7 hHeld ?_
        try simp only [Act.put, List.setIfInBounds_toArray, List.set_cons_zero, List.set_cons_succ]
        refine rg_skip (i := 18) (some 33) rfl rfl (by kernel_rfl) (by rfl) hQ7 hHeld ?_
        try simp only [Act.put, List.setIfInBounds_toArray, List.set_cons_zero, List.set_cons_succ]
        refine rg_skip (i := 19) (some 34) rfl rfl (by kernel_rfl) (by rfl) hQ7 hHeld ?_
        try simp only [Act.put, List.setIfInBounds_toArray, List.set_cons_zero, List.set_cons_succ]
        refine rg_skip (i := 20) (some 35) rfl rfl (by kernel_rfl) (by rfl) hQ7 hHeld ?_
        try simp only [Act.put, List.setIfInBounds_toArray, List.set_cons_zero, List.set_cons_succ]
        refine rg_skip (i := 21) (some 36) rfl rfl (by kernel_rfl) (by rfl) hQ7 hHeld ?_
        try simp only [Act.put, List.setIfInBounds_toArray, List.set_cons_zero, List.set_cons_succ]
        refine rg_skip (i := 22) (some 37) rfl rfl (by kernel_rfl) (by rfl) hQ7 hHeld ?_
        try simp only [Act.put, List.setIfInBounds_toArray, List.set_cons_zero, List.set_cons_succ]
        refine rg_skip (i := 23) (some 38) rfl rfl (by kernel_rfl) (by rfl) hQ7 hHeld ?_
        try simp only [Act.put, List.setIfInBounds_toArray, List.set_cons_zero, List.set_cons_succ]
        refine rg_skip (i := 24) (some 39) rfl rfl (by kernel_rfl) (by rfl) hQ7 hHeld ?_
        try simp only [Act.put, List.setIfInBounds_toArray, List.set_cons_zero, List.set_cons_succ]
        refine rg_skip (i := 25) (some 40) rfl rfl (by kernel_rfl) (by rfl) hQ7 hHeld ?_
        try simp only [Act.put, List.setIfInBounds_toArray, List.set_cons_zero, List.set_cons_succ]
        refine rg_take (i := 26) (some 41) (v := ?_) rfl rfl (by kernel_rfl) (by rfl) hQ7 hHeld ?_ ?_
        rotate_left
        · intro w7 hSw; (try dsimp only at hSw); go_simp; all_goals with_reducible rfl
        try simp only [Act.put, List.setIfInBounds_toArray, List.set_cons_zero, List.set_cons_succ]
        refine rg_end (by kernel_rfl) (hN7 _ _ ?_) _
        clear hQ7 hN7 Q7
        have BX := hHeld.1
        clear SS
        have HR1 := Lib.hid (ext_trans HR.out BX)
        clear b0 bl c0 BX
        go_wp2_with fail
        first | exact ⟨⟨k + 1, o, b, by omega, by go_num, by first | rfl | trivial | go_num, HO.out, HQ.out.trans HN.out, HR1.out⟩, by simp [intOf] <;> omega⟩ | (go_roundw; all_goals first | exact ⟨k + 1, o, b, by omega, by go_num, by first | rfl | trivial | go_num, HO.out, HQ.out.trans HN.out, HR1.out⟩ | (simp [intOf] <;> omega))
      have e1 : decide (x.f ≤ m) = true := decide_eq_true h1
      cases o with
      | none =>
        have hb : b = -1 := HO.out
        subst hb
        have HN := Lib.hid ((inGo_none (m := m) HX.out).trans (if_pos h1))
        go_wp2_with fail
        have SS := Lib.hid (show ∀ w', Below wr.heap.size wr w' → (fun w' => Below wr.heap.size wr w' ∧ w'.cell? ⟨w.heap.size, 0, none⟩ = some (.slice (some ⟨q1, o1, none⟩) l.length c) ∧ w'.cell? ⟨q1, o1 + k * 3, none⟩ = some (.int .i64 x.f)) w' from fun w' h => ⟨h, ((HB0.out.ext HR.out).ext h).c 0 _ rfl, (h.cell (p := ⟨q1, o1 + k * 3, none⟩) hb1).trans c0⟩)
        refine rg_begin (S := (fun w' => Below wr.heap.size wr w' ∧ w'.cell? ⟨w.heap.size, 0, none⟩ = some (.slice (some ⟨q1, o1, none⟩) l.length c) ∧ w'.cell? ⟨q1, o1 + k * 3, none⟩ = some (.int .i64 x.f))) 27 (by kernel_rfl) (by intro d; cases d <;> intro _ _ _ _ h <;> exact h) ?_ (fun Q7 hQ7 hN7 hHeld => ?_)
        · exact SS.out _ (ext_drew (ext_refl _))
        refine rg_take (i := 0) (some 15) (v := ?_) rfl rfl (by kernel_rfl) (by rfl) hQ7 hHeld ?_ ?_
        rotate_left
        · intro w7 hSw; (try dsimp only at hSw); go_simp; all_goals with_reducible rfl
        try simp only [Act.put, List.setIfInBounds_toArray, List.set_cons_zero, List.set_cons_succ]
        refine rg_take (i := 1) (some 16) (v := ?_) rfl rfl (by kernel_rfl) (by rfl) hQ7 hHeld ?_ ?_
        rotate_left
        · intro w7 hSw; (try dsimp only at hSw); go_simp; all_goals with_reducible rfl
        try simp only [Act.put, List.setIfInBounds_toArray, List.set_cons_zero, List.set_cons_succ]
        refine rg_take (i := 2) (some 17) (v := ?_) rfl rfl (by kernel_rfl) (by rfl) hQ7 hHeld ?_ ?_
        rotate_left
        · intro w7 hSw; (try dsimp only at hSw); go_simp; all_goals with_reducible rfl
        try simp only [Act.put, List.setIfInBounds_toArray, List.set_cons_zero, List.set_cons_succ]
        refine rg_take (i := 3) (some 18) (v := ?_) rfl rfl (by kernel_rfl) (by rfl) hQ7 hHeld ?_ ?_
        rotate_left
        · intro w7 hSw; (try dsimp only at hSw); go_simp; all_goals with_reducible rfl
        try simp only [Act.put, List.setIfInBounds_toArray, List.set_cons_zero, List.set_cons_succ]
        refine rg_take (i := 4) (some 19) (v := ?_) rfl rfl (by kernel_rfl) (by rfl) hQ7 hHeld ?_ ?_
        rotate_left
        · intro w7 hSw; (try dsimp only at hSw); go_simp; all_goals with_reducible rfl
        try simp only [Act.put, List.setIfInBounds_toArray, List.set_cons_zero, List.set_cons_succ]
        refine rg_take (i := 5) (some 20) (v := ?_) rfl rfl (by kernel_rfl) (by rfl) hQ7 hHeld ?_ ?_
        rotate_left
        · intro w7 hSw; (try dsimp only at hSw); go_simp; all_goals with_reducible rfl
        try simp only [Act.put, List.setIfInBounds_toArray, List.set_cons_zero, List.set_cons_succ]
        refine rg_take (i := 6) (some 21) (v := ?_) rfl rfl (by kernel_rfl) (by rfl) hQ7 hHeld ?_ ?_
        rotate_left
        · intro w7 hSw; (try dsimp only at hSw); go_simp; all_goals with_reducible rfl
        try simp only [Act.put, List.setIfInBounds_toArray, List.set_cons_zero, List.set_cons_succ]
        refine rg_take (i := 7) (some 22) (v := ?_) rfl rfl (by kernel_rfl) (by rfl) hQ7 hHeld ?_ ?_
        rotate_left
        · intro w7 hSw; (try dsimp only at hSw); go_simp; all_goals with_reducible rfl
        try simp only [Act.put, List.setIfInBounds_toArray, List.set_cons_zero, List.set_cons_succ]
        refine rg_take (i := 8) (some 23) (v := ?_) rfl rfl (by kernel_rfl) (by rfl) hQ7 hHeld ?_ ?_
        rotate_left
        · intro w7 hSw; (try dsimp only at hSw); go_simp; all_goals with_reducible rfl
        try simp only [Act.put, List.setIfInBounds_toArray, List.set_cons_zero, List.set_cons_succ]
        refine rg_take (i := 9) (some 24) (v := ?_) rfl rfl (by kernel_rfl) (by rfl) hQ7 hHeld ?_ ?_
        rotate_left
        · intro w7 hSw; (try dsimp only at hSw); go_simp; all_goals with_reducible rfl
        try simp only [Act.put, List.setIfInBounds_toArray, List.set_cons_zero, List.set_cons_succ]
        refine rg_take (i := 10) (some 25) (v := ?_) rfl rfl (by kernel_rfl) (by rfl) hQ7 hHeld ?_ ?_
        rotate_left
        · intro w7 hSw; (try dsimp only at hSw); go_simp; all_goals with_reducible rfl
        try simp only [Act.put, List.setIfInBounds_toArray, List.set_cons_zero, List.set_cons_succ]
        refine rg_take (i := 11) (some 26) (v := ?_) rfl rfl (by kernel_rfl) (by rfl) hQ7 hHeld ?_ ?_
        rotate_left
        · intro w7 hSw; (try dsimp only at hSw); go_simp; all_goals with_reducible rfl
        try simp only [Act.put, List.setIfInBounds_toArray, List.set_cons_zero, List.set_cons_succ]
        refine rg_skip (i := 12) (some 27) rfl rfl (by kernel_rfl) (by rfl) hQ7 hHeld ?_
        try simp only [Act.put, List.setIfInBounds_toArray, List.set_cons_zero, List.set_cons_succ]
        refine rg_skip (i := 13) (some 28) rfl rfl (by kernel_rfl) (by rfl) hQ7 hHeld ?_
        try simp only [Act.put, List.setIfInBounds_toArray, List.set_cons_zero, List.set_cons_succ]
        refine rg_skip (i := 14) (some 29) rfl rfl (by kernel_rfl) (by rfl) hQ7 hHeld ?_
        try simp only [Act.put, List.setIfInBounds_toArray, List.set_cons_zero, List.set_cons_succ]
        refine rg_skip (i := 15) (some 30) rfl rfl (by kernel_rfl) (by rfl) hQ7 hHeld ?_
        try simp only [Act.put, List.setIfInBounds_toArray, List.set_cons_zero, List.set_cons_succ]
        refine rg_skip (i := 16) (some 31) rfl rfl (by kernel_rfl) (by rfl) hQ7 hHeld ?_
        try simp only [Act.put, List.setIfInBounds_toArray, List.set_cons_zero, List.set_cons_succ]
        refine rg_skip (i := 17) (some 32) rfl rfl (by kernel_rfl) (by rfl) hQ7 hHeld ?_
        try simp only [Act.put, List.setIfInBounds_toArray, List.set_cons_zero, List.set_cons_succ]
        refine rg_skip (i := 18) (some 33) rfl rfl (by kernel_rfl) (by rfl) hQ7 hHeld ?_
        try simp only [Act.put, List.setIfInBounds_toArray, List.set_cons_zero, List.set_cons_succ]
        refine rg_skip (i := 19) (some 34) rfl rfl (by kernel_rfl) (by rfl) hQ7 hHeld ?_
        try simp only [Act.put, List.setIfInBounds_toArray, List.set_cons_zero, List.set_cons_succ]
        refine rg_skip (i := 20) (some 35) rfl rfl (by kernel_rfl) (by rfl) hQ7 hHeld ?_
        try simp only [Act.put, List.setIfInBounds_toArray, List.set_cons_zero, List.set_cons_succ]
        refine rg_skip (i := 21) (some 36) rfl rfl (by kernel_rfl) (by rfl) hQ7 hHeld ?_
        try simp only [Act.put, List.setIfInBounds_toArray, List.set_cons_zero, List.set_cons_succ]
        refine rg_skip (i := 22) (some 37) rfl rfl (by kernel_rfl) (by rfl) hQ7 hHeld ?_
        try simp only [Act.put, List.setIfInBounds_toArray, List.set_cons_zero, List.set_cons_succ]
        refine rg_skip (i := 23) (some 38) rfl rfl (by kernel_rfl) (by rfl) hQ7 hHeld ?_
        try simp only [Act.put, List.setIfInBounds_toArray, List.set_cons_zero, List.set_cons_succ]
        refine rg_skip (i := 24) (some 39) rfl rfl (by kernel_rfl) (by rfl) hQ7 hHeld ?_
        try simp only [Act.put, List.setIfInBounds_toArray, List.set_cons_zero, List.set_cons_succ]
        refine rg_take (i := 25) (some 40) (v := ?_) rfl rfl (by kernel_rfl) (by rfl) hQ7 hHeld ?_ ?_
        rotate_left
        · intro w7 hSw; (try dsimp only at hSw); go_simp; all_goals with_reducible rfl
        try simp only [Act.put, List.setIfInBounds_toArray, List.set_cons_zero, List.set_cons_succ]
        refine rg_take (i := 26) (some 41) (v := ?_) rfl rfl (by kernel_rfl) (by rfl) hQ7 hHeld ?_ ?_
        rotate_left
        · intro w7 hSw; (try dsimp only at hSw); go_simp; all_goals with_reducible rfl
        try simp only [Act.put, List.setIfInBounds_toArray, List.set_cons_zero, List.set_cons_succ]
        refine rg_end (by kernel_rfl) (hN7 _ _ ?_) _
        clear hQ7 hN7 Q7
        have BX := hHeld.1
        clear SS
        have HR1 := Lib.hid (ext_trans HR.out BX)
        clear b0 bl c0 BX
        go_wp2_with fail
        first | exact ⟨⟨k + 1, some x, k, by omega, by go_num, by first | rfl | trivial | go_num, ⟨k, rfl, HX.out⟩, HQ.out.trans HN.out, HR1.out⟩, by simp [intOf] <;> omega⟩ | (go_roundw; all_goals first | exact ⟨k + 1, some x, k, by omega, by go_num, by first | rfl | trivial | go_num, ⟨k, rfl, HX.out⟩, HQ.out.trans HN.out, HR1.out⟩ | (simp [intOf] <;> omega))
      | some y =>
        obtain ⟨kb, rfl, hy⟩ := HO.out
        have hkb := (List.getElem?_eq_some_iff.1 hy).1
        have hkb' : (kb : Int) < l.length := by omega
        have hkb2 : decide ((kb : Int) < 0) = false := decide_eq_false (by omega)
        obtain ⟨y2, q2, o2, hy2, e2, hb2, hc2⟩ := (HA.out.ext HR.out).at_ hkb
        cases e2
        cases hy.symm.trans hy2
        have d0 := hc2 0 _ rfl
        simp only [Nat.add_zero] at d0
        clear hc2 hy hy2
        obtain ⟨r, hr⟩ : ∃ r, decide (x.f ≥ y.f) = r := ⟨_, rfl⟩
        have HC := Lib.hid hr
        go_wp2_with fail
        have SS := Lib.hid (show ∀ w', Below wr.heap.size wr w' → (fun w' => Below wr.heap.size wr w' ∧ w'.cell? ⟨w.heap.size, 0, none⟩ = some (.slice (some ⟨q1, o1, none⟩) l.length c) ∧ w'.cell? ⟨q1, o1 + k * 3, none⟩ = some (.int .i64 x.f) ∧ w'.cell? ⟨q1, o1 + kb * 3, none⟩ = some (.int .i64 y.f)) w' from fun w' h => ⟨h, ((HB0.out.ext HR.out).ext h).c 0 _ rfl, (h.cell (p := ⟨q1, o1 + k * 3, none⟩) hb1).trans c0, (h.cell (p := ⟨q1, o1 + kb * 3, none⟩) hb1).trans d0⟩)
        refine rg_begin (S := (fun w' => Below wr.heap.size wr w' ∧ w'.cell? ⟨w.heap.size, 0, none⟩ = some (.slice (some ⟨q1, o1, none⟩) l.length c) ∧ w'.cell? ⟨q1, o1 + k * 3, none⟩ = some (.int .i64 x.f) ∧ w'.cell? ⟨q1, o1 + kb * 3, none⟩ = some (.int .i64 y.f))) 27 (by kernel_rfl) (by intro d; cases d <;> intro _ _ _ _ h <;> exact h) ?_ (fun Q7 hQ7 hN7 hHeld => ?_)
        · exact SS.out _ (ext_drew (ext_refl _))
        refine rg_take (i := 0) (some 15) (v := ?_) rfl rfl (by kernel_rfl) (by rfl) hQ7 hHeld ?_ ?_
        rotate_left
        · intro w7 hSw; (try dsimp only at hSw); go_simp; all_goals with_reducible rfl
        try simp only [Act.put, List.setIfInBounds_toArray, List.set_cons_zero, List.set_cons_succ]
        refine rg_take (i := 1) (some 16) (v := ?_) rfl rfl (by kernel_rfl) (by rfl) hQ7 hHeld ?_ ?_
        rotate_left
        · intro w7 hSw; (try dsimp only at hSw); go_simp; all_goals with_reducible rfl
        try simp only [Act.put, List.setIfInBounds_toArray, List.set_cons_zero, List.set_cons_succ]
        refine rg_take (i := 2) (some 17) (v := ?_) rfl rfl (by kernel_rfl) (by rfl) hQ7 hHeld ?_ ?_
        rotate_left
        · intro w7 hSw; (try dsimp only at hSw); go_simp; all_goals with_reducible rfl
        try simp only [Act.put, List.setIfInBounds_toArray, List.set_cons_zero, List.set_cons_succ]
        refine rg_take (i := 3) (some 18) (v := ?_) rfl rfl (by kernel_rfl) (by rfl) hQ7 hHeld ?_ ?_
        rotate_left
        · intro w7 hSw; (try dsimp only at hSw); go_simp; all_goals with_reducible rfl
        try simp only [Act.put, List.setIfInBounds_toArray, List.set_cons_zero, List.set_cons_succ]
        refine rg_take (i := 4) (some 19) (v := ?_) rfl rfl (by kernel_rfl) (by rfl) hQ7 hHeld ?_ ?_
        rotate_left
        · intro w7 hSw; (try dsimp only at hSw); go_simp; all_goals with_reducible rfl
        try simp only [Act.put, List.setIfInBounds_toArray, List.set_cons_zero, List.set_cons_succ]
        refine rg_take (i := 5) (some 20) (v := ?_) rfl rfl (by kernel_rfl) (by rfl) hQ7 hHeld ?_ ?_
        rotate_left
        · intro w7 hSw; (try dsimp only at hSw); go_simp; all_goals with_reducible rfl
        try simp only [Act.put, List.setIfInBounds_toArray, List.set_cons_zero, List.set_cons_succ]
        refine rg_take (i := 6) (some 21) (v := ?_) rfl rfl (by kernel_rfl) (by rfl) hQ7 hHeld ?_ ?_
        rotate_left
        · intro w7 hSw; (try dsimp only at hSw); go_simp; all_goals with_reducible rfl
        try simp only [Act.put, List.setIfInBounds_toArray, List.set_cons_zero, List.set_cons_succ]
        refine rg_take (i := 7) (some 22) (v := ?_) rfl rfl (by kernel_rfl) (by rfl) hQ7 hHeld ?_ ?_
        rotate_left
        · intro w7 hSw; (try dsimp only at hSw); go_simp; all_goals with_reducible rfl
        try simp only [Act.put, List.setIfInBounds_toArray, List.set_cons_zero, List.set_cons_succ]
        refine rg_take (i := 8) (some 23) (v := ?_) rfl rfl (by kernel_rfl) (by rfl) hQ7 hHeld ?_ ?_
        rotate_left
        · intro w7 hSw; (try dsimp only at hSw); go_simp; all_goals with_reducible rfl
        try simp only [Act.put, List.setIfInBounds_toArray, List.set_cons_zero, List.set_cons_succ]
        refine rg_take (i := 9) (some 24) (v := ?_) rfl rfl (by kernel_rfl) (by rfl) hQ7 hHeld ?_ ?_
        rotate_left
        · intro w7 hSw; (try dsimp only at hSw); go_simp; all_goals with_reducible rfl
        try simp only [Act.put, List.setIfInBounds_toArray, List.set_cons_zero, List.set_cons_succ]
        refine rg_take (i := 10) (some 25) (v := ?_) rfl rfl (by kernel_rfl) (by rfl) hQ7 hHeld ?_ ?_
        rotate_left
        · intro w7 hSw; (try dsimp only at hSw); go_simp; all_goals with_reducible rfl
        try simp only [Act.put, List.setIfInBounds_toArray, List.set_cons_zero, List.set_cons_succ]
        refine rg_take (i := 11) (some 26) (v := ?_) rfl rfl (by kernel_rfl) (by rfl) hQ7 hHeld ?_ ?_
        rotate_left
        · intro w7 hSw; (try dsimp only at hSw); go_simp; all_goals with_reducible rfl
        try simp only [Act.put, List.setIfInBounds_toArray, List.set_cons_zero, List.set_cons_succ]
        refine rg_take (i := 12) (some 27) (v := ?_) rfl rfl (by kernel_rfl) (by rfl) hQ7 hHeld ?_ ?_
        rotate_left
        · intro w7 hSw; (try dsimp only at hSw); go_simp; all_goals with_reducible rfl
        try simp only [Act.put, List.setIfInBounds_toArray, List.set_cons_zero, List.set_cons_succ]
        refine rg_take (i := 13) (some 28) (v := ?_) rfl rfl (by kernel_rfl) (by rfl) hQ7 hHeld ?_ ?_
        rotate_left
        · intro w7 hSw; (try dsimp only at hSw); go_simp; all_goals with_reducible rfl
        try simp only [Act.put, List.setIfInBounds_toArray, List.set_cons_zero, List.set_cons_succ]
        refine rg_take (i := 14) (some 29) (v := ?_) rfl rfl (by kernel_rfl) (by rfl) hQ7 hHeld ?_ ?_
        rotate_left
        · intro w7 hSw; (try dsimp only at hSw); go_simp; all_goals with_reducible rfl
        try simp only [Act.put, List.setIfInBounds_toArray, List.set_cons_zero, List.set_cons_succ]
        refine rg_take (i := 15) (some 30) (v := ?_) rfl rfl (by kernel_rfl) (by rfl) hQ7 hHeld ?_ ?_
        rotate_left
        · intro w7 hSw; (try dsimp only at hSw); go_simp; all_goals with_reducible rfl
        try simp only [Act.put, List.setIfInBounds_toArray, List.set_cons_zero, List.set_cons_succ]
        refine rg_take (i := 16) (some 31) (v := ?_) rfl rfl (by kernel_rfl) (by rfl) hQ7 hHeld ?_ ?_
        rotate_left
        · intro w7 hSw; (try dsimp only at hSw); go_simp; all_goals with_reducible rfl
        try simp only [Act.put, List.setIfInBounds_toArray, List.set_cons_zero, List.set_cons_succ]
        refine rg_take (i := 17) (some 32) (v := ?_) rfl rfl (by kernel_rfl) (by rfl) hQ7 hHeld ?_ ?_
        rotate_left
        · intro w7 hSw; (try dsimp only at hSw); go_simp; all_goals with_reducible rfl
        try simp only [Act.put, List.setIfInBounds_toArray, List.set_cons_zero, List.set_cons_succ]
        refine rg_take (i := 18) (some 33) (v := ?_) rfl rfl (by kernel_rfl) (by rfl) hQ7 hHeld ?_ ?_
        rotate_left
        · intro w7 hSw; (try dsimp only at hSw); go_simp; all_goals with_reducible rfl
        try simp only [Act.put, List.setIfInBounds_toArray, List.set_cons_zero, List.set_cons_succ]
        refine rg_take (i := 19) (some 34) (v := ?_) rfl rfl (by kernel_rfl) (by rfl) hQ7 hHeld ?_ ?_
        rotate_left
        · intro w7 hSw; (try dsimp only at hSw); go_simp; all_goals with_reducible rfl
        try simp only [Act.put, List.setIfInBounds_toArray, List.set_cons_zero, List.set_cons_succ]
        refine rg_take (i := 20) (some 35) (v := ?_) rfl rfl (by kernel_rfl) (by rfl) hQ7 hHeld ?_ ?_
        rotate_left
        · intro w7 hSw; (try dsimp only at hSw); go_simp; all_goals with_reducible rfl
        try simp only [Act.put, List.setIfInBounds_toArray, List.set_cons_zero, List.set_cons_succ]
        refine rg_take (i := 21) (some 36) (v := ?_) rfl rfl (by kernel_rfl) (by rfl) hQ7 hHeld ?_ ?_
        rotate_left
        · intro w7 hSw; (try dsimp only at hSw); go_simp; all_goals with_reducible rfl
        try simp only [Act.put, List.setIfInBounds_toArray, List.set_cons_zero, List.set_cons_succ]
        refine rg_take (i := 22) (some 37) (v := ?_) rfl rfl (by kernel_rfl) (by rfl) hQ7 hHeld ?_ ?_
        rotate_left
        · intro w7 hSw; (try dsimp only at hSw); go_simp; all_goals with_reducible rfl
        try simp only [Act.put, List.setIfInBounds_toArray, List.set_cons_zero, List.set_cons_succ]
        refine rg_take (i := 23) (some 38) (v := ?_) rfl rfl (by kernel_rfl) (by rfl) hQ7 hHeld ?_ ?_
        rotate_left
        · intro w7 hSw; (try dsimp only at hSw); go_simp; all_goals with_reducible rfl
        try simp only [Act.put, List.setIfInBounds_toArray, List.set_cons_zero, List.set_cons_succ]
        refine rg_take (i := 24) (some 39) (v := ?_) rfl rfl (by kernel_rfl) (by rfl) hQ7 hHeld ?_ ?_
        rotate_left
        · intro w7 hSw; (try dsimp only at hSw); go_simp; all_goals with_reducible rfl
        try simp only [Act.put, List.setIfInBounds_toArray, List.set_cons_zero, List.set_cons_succ]
        refine rg_take (i := 25) (some 40) (v := ?_) rfl rfl (by kernel_rfl) (by rfl) hQ7 hHeld ?_ ?_
        rotate_left
        · intro w7 hSw; (try dsimp only at hSw); go_simp; all_goals with_reducible rfl
        try simp only [Act.put, List.setIfInBounds_toArray, List.set_cons_zero, List.set_cons_succ]
        refine rg_take (i := 26) (some 41) (v := ?_) rfl rfl (by kernel_rfl) (by rfl) hQ7 hHeld ?_ ?_
        rotate_left
        · intro w7 hSw; (try dsimp only at hSw); go_simp; all_goals with_reducible rfl
        try simp only [Act.put, List.setIfInBounds_toArray, List.set_cons_zero, List.set_cons_succ]
        refine rg_end (by kernel_rfl) (hN7 _ _ ?_) _
        clear hQ7 hN7 Q7
        have BX := hHeld.1
        clear SS
        have HR1 := Lib.hid (ext_trans HR.out BX)
        clear b0 bl c0 d0 BX
        cases r
        · have HN := Lib.hid ((inGo_some (m := m) (c := y) HX.out).trans (if_neg (fun q => (of_decide_eq_false HC.out) q.2)))
          go_wp2_with fail
          first | exact ⟨⟨k + 1, some y, kb, by omega, by go_num, by first | rfl | trivial | go_num, HO.out, HQ.out.trans HN.out, HR1.out⟩, by simp [intOf] <;> omega⟩ | (go_roundw; all_goals first | exact ⟨k + 1, some y, kb, by omega, by go_num, by first | rfl | trivial | go_num, HO.out, HQ.out.trans HN.out, HR1.out⟩ | (simp [intOf] <;> omega))
        · have HN := Lib.hid ((inGo_some (m := m) (c := y) HX.out).trans (if_pos ⟨h1, of_decide_eq_true HC.out⟩))
          go_wp2_with fail
          first | exact ⟨⟨k + 1, some x, k, by omega, by go_num, by first | rfl | trivial | go_num, ⟨k, rfl, HX.out⟩, HQ.out.trans HN.out, HR1.out⟩, by simp [intOf] <;> omega⟩ | (go_roundw; all_goals first | exact ⟨k + 1, some x, k, by omega, by go_num, by first | rfl | trivial | go_num, ⟨k, rfl, HX.out⟩, HQ.out.trans HN.out, HR1.out⟩ | (simp [intOf] <;> omega))
    · have hlt' : decide ((k : Int) < l.length) = false := decide_eq_false (by omega)
      have HN := Lib.hid (HQ.out.trans (inGo_end m o (by omega)))
      have HBr := Lib.hid (HB1.out.ext HR.out)
      have y0 := HBr.out.c 0 _ rfl
      have y1 := HBr.out.c 1 _ rfl
      have y2 := HBr.out.c 2 _ rfl
      have yf := HBr.out.f
      have yl := HBr.out.lt
      have HER := Lib.hid (ext_trans HE.out HR.out)
      cases o with
      | none =>
        have hb : b = -1 := HO.out
        subst hb
        have HP := HBr.out.put3 (.int .i64 0) (.int .i64 0) (.slice none 0 0)
        have HPE := Lib.hid (ext_set3 HER.out (w.heap.size + 1) (.int .i64 0) (.int .i64 0) (.slice none 0 0) (by omega))
        unfold set3 at HP HPE
        have p0 := HP.c 0 _ rfl
        have p1 := HP.c 1 _ rfl
        have p2 := HP.c 2 _ rfl
        clear HP
        go_wp2_with fail
        refine bodyPost_ret (v := .tuple #[noChg.v, .bool false]) (by simp [results, Try.results12, go_sem, p0, p1, p2, noChg]) rfl ?_
        rw [HN.out]
        exact ⟨rfl, HPE.out⟩
      | some y =>
        obtain ⟨kb, rfl, hy⟩ := HO.out
        have hkb := (List.getElem?_eq_some_iff.1 hy).1
        have hkb' : (kb : Int) < l.length := by omega
        have hkb2 : decide ((kb : Int) < 0) = false := decide_eq_false (by omega)
        obtain ⟨y9, q2, o2, hy2, rfl, hb2, hc2⟩ := (HA.out.ext HR.out).at_ hkb
        cases hy.symm.trans hy2
        have d0 := hc2 0 _ rfl
        have d1 := hc2 1 _ rfl
        have d2 := hc2 2 _ rfl
        simp only [Nat.add_zero] at d0
        clear hc2 hy hy2
        have HP := HBr.out.put3 (.int .i64 y.f) (.int .i64 y.cfg) (.slice y.ms.A y.ms.l.length y.ms.c)
        have HPE := Lib.hid (ext_set3 HER.out (w.heap.size + 1) (.int .i64 y.f) (.int .i64 y.cfg) (.slice y.ms.A y.ms.l.length y.ms.c) (by omega))
        unfold set3 at HP HPE
        have p0 := HP.c 0 _ rfl
        have p1 := HP.c 1 _ rfl
        have p2 := HP.c 2 _ rfl
        clear HP
        go_wp2_with fail
        refine bodyPost_ret (v := .tuple #[y.v, .bool true]) (by simp [results, Try.results12, go_sem, p0, p1, p2]) rfl ?_
        rw [HN.out]
        exact ⟨rfl, HPE.out⟩
theorem rin_at {A : Option Addr} {n c : Nat} {l : List Chg} {m : Int} {w : World} (r : Option Chg) (hr : inS l m = r) (hn : n = l.length) (ha : Slc w Chg.cells 3 A l) (hl : l.length ≤ maxLen) : Calls Try.prog 12 #[.agg #[.slice A n c], .int .i64 m] w (InR w r) := by
  subst hr hn; exact rin_any A c l m w ha hl
set_option maxHeartbeats 2000000 in
theorem rsector_any (t : Tab) (A : Option Addr) (c : Nat) (l : List Chg) (v m : Int) (w : World) (ht : Tab.ok w t) (ha : Slc w Chg.cells 3 A l) (hl : l.length ≤ maxLen) :
    Calls Try.prog 14 #[t.v, .agg #[.slice A l.length c], .int .i64 v, .int .i64 m] w (SecR w (secR t l v m)) := by
  obtain ⟨W, hW⟩ : ∃ W, (w.alloc (.cells #[.int .i64 t.n, .slice t.ss.A t.ss.l.length t.ss.c, .slice t.cs.A t.cs.l.length t.cs.c, .slice t.ws.A t.ws.l.length t.ws.c, .slice t.ms.A t.ms.l.length t.ms.c, .slice t.ks.A t.ks.l.length t.ks.c] 28)).alloc (.cells #[.slice A l.length c] 31) = W := ⟨_, rfl⟩
  have HB : Hid (Blk W w.heap.size t.cells) := by rw [← hW]; exact (Blk.newH w t.cells 28 w.heap.size rfl).alloc _
  have HB2 : Hid (Blk W (w.heap.size + 1) [.slice A l.length c]) := by rw [← hW]; exact Blk.newH (w.alloc _) [.slice A l.length c] 31 (w.heap.size + 1) (by simp)
  have HE : Hid (Below w.heap.size w W) := by rw [← hW]; exact ext_alloc (ext_alloc (ext_refl w) _) _
  have HA := Lib.hid (ha.ext HE.out)
  have HT := Lib.hid (ht.ext HE.out)
  have b0 := HB2.out.c 0 _ rfl
  have bl := HB2.out.lt
  clear ha ht
  go_enter Try.func14, Try.ntmps14
  go_wp2_with fail
  cases hr : inS l m with
  | none =>
    have HR : Hid (secR t l v m = none) := by simp [Hid, secR, hr]
    refine (rin_at none hr rfl HA.out hl).mono ?_
    rintro e w1 ⟨rfl, B⟩
    clear hr
    simp only [Option.isSome_none]
    go_wp2_with fail
    go_ret2
    rw [HR.out]
    exact ⟨rfl, ext_alloc (ext_trans HE.out B) _⟩
  | some x =>
    have HR : Hid (secR t l v m = secIn t x.cfg v) := by simp [Hid, secR, hr]
    refine (rin_at (some x) hr rfl HA.out hl).mono ?_
    rintro e w1 ⟨rfl, B⟩
    clear hr hW b0 bl
    simp only [Option.isSome_some, Option.getD_some]
    have b0 := (HB.out.ext B).c 0 _ rfl
    have b1 := (HB.out.ext B).c 1 _ rfl
    have b2 := (HB.out.ext B).c 2 _ rfl
    have b3 := (HB.out.ext B).c 3 _ rfl
    have b4 := (HB.out.ext B).c 4 _ rfl
    have b5 := (HB.out.ext B).c 5 _ rfl
    have bl := (HB.out.ext B).lt
    have HT1 := Lib.hid ((HT.out.ext B).ext (ext_alloc (ext_refl w1) (.cells #[.int .i64 x.f, .int .i64 x.cfg, .slice x.ms.A x.ms.l.length x.ms.c] 37)))
    have HE1 := Lib.hid (ext_alloc (ext_trans HE.out B) (.cells #[.int .i64 x.f, .int .i64 x.cfg, .slice x.ms.A x.ms.l.length x.ms.c] 37))
    go_wp2_with fail
    refine (rasec_any t x.cfg v _ HT1.out).mono ?_
    rintro e w2 ⟨rfl, B2⟩
    clear b0 b1 b2 b3 b4 b5
    go_wp2_with fail
    go_ret2
    rw [HR.out]
    exact ⟨rfl, ext_trans HE1.out B2⟩
end Go.Proofs.Ytilocjliplmmpaa
