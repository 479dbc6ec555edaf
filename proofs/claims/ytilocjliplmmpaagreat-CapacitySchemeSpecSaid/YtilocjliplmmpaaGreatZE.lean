/- The reference's change, Valid, Check. -/
import Derived.Test.YtilocjliplmmpaaGreatZD
import Derived.Test.YtilocjliplmmpaaGreatS
set_option linter.unusedSimpArgs false
set_option linter.unusedVariables false
namespace Go.Proofs.YtilocjliplmmpaaGreat
open Go.RowKit
set_option maxRecDepth 100000 in
set_option maxHeartbeats 16000000 in
theorem rfits_any (t : Tab) (c : Chg) (w : World) (ht : Tab.ok w t) (hc : Chg.ok w c) : Calls Tryz.prog 31 #[t.v, c.v] w (RetB w (fitsB t c)) := by
  obtain ⟨W, hW⟩ : ∃ W, (w.alloc (.cells #[.int .i64 t.n, .slice t.ss.A t.ss.l.length t.ss.c, .slice t.cs.A t.cs.l.length t.cs.c, .slice t.ws.A t.ws.l.length t.ws.c, .slice t.ms.A t.ms.l.length t.ms.c, .slice t.ks.A t.ks.l.length t.ks.c] 28)).alloc (.cells #[.int .i64 c.f, .int .i64 c.cfg, .slice c.ms.A c.ms.l.length c.ms.c] 34) = W := ⟨_, rfl⟩
  have HB : Hid (Blk W w.heap.size t.cells) := by rw [← hW]; exact (Blk.newH w t.cells 28 w.heap.size rfl).alloc _
  have HC : Hid (Blk W (w.heap.size + 1) c.cells) := by rw [← hW]; exact Blk.newH (w.alloc _) c.cells 34 (w.heap.size + 1) (by simp)
  have HE : Hid (Below w.heap.size w W) := by rw [← hW]; exact ext_alloc (ext_alloc (ext_refl w) _) _
  have HT := Lib.hid (ht.ext HE.out)
  have HCO := Lib.hid (hc.ext HE.out)
  have b2 := HB.out.c 2 _ rfl
  have b4 := HB.out.c 4 _ rfl
  have c0 := HC.out.c 0 _ rfl
  have c1 := HC.out.c 1 _ rfl
  have c2 := HC.out.c 2 _ rfl
  have bl := HC.out.lt
  have hlm := HT.out.2.2.2.1.len
  have hlc := HCO.out.len
  unfold maxLen at hlm hlc
  have HD : Hid (fitsB t c = (decide (0 ≤ c.f) && decide (c.f < 1440) && decide (0 ≤ c.cfg) && decide (c.cfg < t.cs.l.length) && decide (c.ms.l.length = t.ms.l.length) && (List.zip c.ms.l t.ms.l).all pfit)) := rfl
  clear ht hc
  go_enter Tryz.func31, Tryz.ntmps31
  by_cases h1 : c.f < 0
  · have e0 : decide (c.f < 0) = true := decide_eq_true h1
    have HR : Hid (fitsB t c = false) := by rw [HD.out]; simp [Hid]; omega
    clear HD
    go_wp2_with fail
    go_ret
    rw [HR.out]
    exact ⟨rfl, HE.out⟩
  have e0 : decide (c.f < 0) = false := decide_eq_false h1
  by_cases h2 : 1440 ≤ c.f
  · have e1 : decide (c.f ≥ 1440) = true := decide_eq_true h2
    have HR : Hid (fitsB t c = false) := by rw [HD.out]; simp [Hid]; omega
    clear HD
    go_wp2_with fail
    go_ret
    rw [HR.out]
    exact ⟨rfl, HE.out⟩
  have e1 : decide (c.f ≥ 1440) = false := decide_eq_false h2
  by_cases h3 : c.cfg < 0
  · have e2 : decide (c.cfg < 0) = true := decide_eq_true h3
    have HR : Hid (fitsB t c = false) := by rw [HD.out]; simp [Hid]; omega
    clear HD
    go_wp2_with fail
    go_ret
    rw [HR.out]
    exact ⟨rfl, HE.out⟩
  have e2 : decide (c.cfg < 0) = false := decide_eq_false h3
  by_cases h4 : (t.cs.l.length : Int) ≤ c.cfg
  · have e3 : decide (c.cfg ≥ (t.cs.l.length : Int)) = true := decide_eq_true h4
    have HR : Hid (fitsB t c = false) := by rw [HD.out]; simp [Hid]; omega
    clear HD
    go_wp2_with fail
    go_ret
    rw [HR.out]
    exact ⟨rfl, HE.out⟩
  have e3 : decide (c.cfg ≥ (t.cs.l.length : Int)) = false := decide_eq_false h4
  by_cases h5 : c.ms.l.length = t.ms.l.length
  rotate_left
  · have e5 : ((c.ms.l.length : Int) != t.ms.l.length) = true := by simp; omega
    have HR : Hid (fitsB t c = false) := by rw [HD.out]; simp [Hid, h5]
    clear HD
    go_wp2_with fail
    go_ret
    rw [HR.out]
    exact ⟨rfl, HE.out⟩
  have e5 : ((c.ms.l.length : Int) != t.ms.l.length) = false := by simp; omega
  have HL := Lib.hid h5
  clear h5
  have HZ : Hid (fitsB t c = (List.zip c.ms.l t.ms.l).all pfit) := by
    rw [HD.out, decide_eq_true (show 0 ≤ c.f by omega), decide_eq_true (show c.f < 1440 by omega), decide_eq_true (show 0 ≤ c.cfg by omega), decide_eq_true (show c.cfg < t.cs.l.length by omega), decide_eq_true HL.out]
    rfl
  go_wp2_with fail
  clear hW h1 h2 h3 h4 HD
  clear b2 b4 c0 c1 c2 bl e1 e2 e3 e0 e5
  go_loopw [5] (fun i wr => ∃ k : Nat, k ≤ c.ms.l.length ∧ i = .int .i64 k ∧ Hid (fitsB t c = ((List.zip c.ms.l t.ms.l).drop k).all pfit) ∧ Hid (Below W.heap.size W wr)) (fun i _ => c.ms.l.length - (intOf i).toNat)
  case atStart => exact ⟨0, Nat.zero_le _, rfl, HZ.out, ext_refl _⟩
  case round =>
    obtain ⟨k, hk, rfl, HQ, HR⟩ := hrel
    have c2 := (HC.out.ext HR.out).c 2 _ rfl
    have bl := (HC.out.ext HR.out).lt
    by_cases hlt : k < c.ms.l.length
    · obtain ⟨x, q1, o1, hx, hA, hb1, hcx⟩ := (HCO.out.slc.ext HR.out).at_ hlt
      obtain ⟨y, q2, o2, hy, hB, hb2, hcy⟩ := (HT.out.2.2.2.1.slc.ext HR.out).at_ (k := k) (by have := HL.out; omega)
      have HX : Hid ((List.zip c.ms.l t.ms.l)[k]? = some (x, y)) := by
        simp only [Hid, List.getElem?_zip_eq_some]; exact ⟨hx, hy⟩
      have x0 := hcx 0 _ rfl
      have y0 := hcy 0 _ rfl
      simp only [Nat.mul_one, Nat.add_zero] at x0 y0
      have hlt' : (k : Int) < c.ms.l.length := by omega
      have hlt2 : (k : Int) < t.ms.l.length := by have := HL.out; omega
      rw [hA] at c2
      have bt := (HB.out.ext HR.out).lt
      clear hcx hcy hx hy
      by_cases g0 : x < 0
      · have e6 : decide (x < 0) = true := decide_eq_true g0
        have HN := Lib.hid (all_noD (p := pfit) HX.out (by simp [pfit]; omega))
        go_wp2_with fail
        have SS := Lib.hid (show ∀ w', Below wr.heap.size wr w' → (fun w' => Below wr.heap.size wr w' ∧ w'.cell? ⟨w.heap.size + 1, 2, none⟩ = some (.slice (some ⟨q1, o1, none⟩) c.ms.l.length c.ms.c) ∧ w'.cell? ⟨w.heap.size, 4, none⟩ = some (.slice (some ⟨q2, o2, none⟩) t.ms.l.length t.ms.c) ∧ w'.cell? ⟨q1, o1 + k, none⟩ = some (.int .i64 x) ∧ w'.cell? ⟨q2, o2 + k, none⟩ = some (.slice y.A y.l.length y.c)) w' from fun w' h => ⟨h, ((HC.out.ext HR.out).ext h).c 2 _ (by rw [← hA]; rfl), ((HB.out.ext HR.out).ext h).c 4 _ (by rw [← hB]; rfl), (h.cell (p := ⟨q1, o1 + k, none⟩) hb1).trans x0, (h.cell (p := ⟨q2, o2 + k, none⟩) hb2).trans y0⟩)
        refine rg_begin (S := (fun w' => Below wr.heap.size wr w' ∧ w'.cell? ⟨w.heap.size + 1, 2, none⟩ = some (.slice (some ⟨q1, o1, none⟩) c.ms.l.length c.ms.c) ∧ w'.cell? ⟨w.heap.size, 4, none⟩ = some (.slice (some ⟨q2, o2, none⟩) t.ms.l.length t.ms.c) ∧ w'.cell? ⟨q1, o1 + k, none⟩ = some (.int .i64 x) ∧ w'.cell? ⟨q2, o2 + k, none⟩ = some (.slice y.A y.l.length y.c))) 20 (by kernel_rfl) (by intro d; cases d <;> intro _ _ _ _ h <;> exact h) ?_ (fun Q7 hQ7 hN7 hHeld => ?_)
        · exact SS.out _ (ext_drew (ext_refl _))
        refine rg_take (i := 0) (some 43) (v := ?_) rfl rfl (by kernel_rfl) (by rfl) hQ7 hHeld ?_ ?_
        rotate_left
        · intro w7 hSw; (try dsimp only at hSw); go_simp; all_goals with_reducible rfl
        try simp only [Act.put, List.setIfInBounds_toArray, List.set_cons_zero, List.set_cons_succ]
        refine rg_take (i := 1) (some 44) (v := ?_) rfl rfl (by kernel_rfl) (by rfl) hQ7 hHeld ?_ ?_
        rotate_left
        · intro w7 hSw; (try dsimp only at hSw); go_simp; all_goals with_reducible rfl
        try simp only [Act.put, List.setIfInBounds_toArray, List.set_cons_zero, List.set_cons_succ]
        refine rg_take (i := 2) (some 45) (v := ?_) rfl rfl (by kernel_rfl) (by rfl) hQ7 hHeld ?_ ?_
        rotate_left
        · intro w7 hSw; (try dsimp only at hSw); go_simp; all_goals with_reducible rfl
        try simp only [Act.put, List.setIfInBounds_toArray, List.set_cons_zero, List.set_cons_succ]
        refine rg_take (i := 3) (some 46) (v := ?_) rfl rfl (by kernel_rfl) (by rfl) hQ7 hHeld ?_ ?_
        rotate_left
        · intro w7 hSw; (try dsimp only at hSw); go_simp; all_goals with_reducible rfl
        try simp only [Act.put, List.setIfInBounds_toArray, List.set_cons_zero, List.set_cons_succ]
        refine rg_take (i := 4) (some 47) (v := ?_) rfl rfl (by kernel_rfl) (by rfl) hQ7 hHeld ?_ ?_
        rotate_left
        · intro w7 hSw; (try dsimp only at hSw); go_simp; all_goals with_reducible rfl
        try simp only [Act.put, List.setIfInBounds_toArray, List.set_cons_zero, List.set_cons_succ]
        refine rg_take (i := 5) (some 48) (v := ?_) rfl rfl (by kernel_rfl) (by rfl) hQ7 hHeld ?_ ?_
        rotate_left
        · intro w7 hSw; (try dsimp only at hSw); go_simp; all_goals with_reducible rfl
        try simp only [Act.put, List.setIfInBounds_toArray, List.set_cons_zero, List.set_cons_succ]
        refine rg_take (i := 6) (some 49) (v := ?_) rfl rfl (by kernel_rfl) (by rfl) hQ7 hHeld ?_ ?_
        rotate_left
        · intro w7 hSw; (try dsimp only at hSw); go_simp; all_goals with_reducible rfl
        try simp only [Act.put, List.setIfInBounds_toArray, List.set_cons_zero, List.set_cons_succ]
        refine rg_skip (i := 7) (some 50) rfl rfl (by kernel_rfl) (by rfl) hQ7 hHeld ?_
        try simp only [Act.put, List.setIfInBounds_toArray, List.set_cons_zero, List.set_cons_succ]
        refine rg_skip (i := 8) (some 51) rfl rfl (by kernel_rfl) (by rfl) hQ7 hHeld ?_
        try simp only [Act.put, List.setIfInBounds_toArray, List.set_cons_zero, List.set_cons_succ]
        refine rg_skip (i := 9) (some 52) rfl rfl (by kernel_rfl) (by rfl) hQ7 hHeld ?_
        try simp only [Act.put, List.setIfInBounds_toArray, List.set_cons_zero, List.set_cons_succ]
        refine rg_skip (i := 10) (some 53) rfl rfl (by kernel_rfl) (by rfl) hQ7 hHeld ?_
        try simp only [Act.put, List.setIfInBounds_toArray, List.set_cons_zero, List.set_cons_succ]
        refine rg_skip (i := 11) (some 54) rfl rfl (by kernel_rfl) (by rfl) hQ7 hHeld ?_
        try simp only [Act.put, List.setIfInBounds_toArray, List.set_cons_zero, List.set_cons_succ]
        refine rg_skip (i := 12) (some 55) rfl rfl (by kernel_rfl) (by rfl) hQ7 hHeld ?_
        try simp only [Act.put, List.setIfInBounds_toArray, List.set_cons_zero, List.set_cons_succ]
        refine rg_skip (i := 13) (some 56) rfl rfl (by kernel_rfl) (by rfl) hQ7 hHeld ?_
        try simp only [Act.put, List.setIfInBounds_toArray, List.set_cons_zero, List.set_cons_succ]
        refine rg_skip (i := 14) (some 57) rfl rfl (by kernel_rfl) (by rfl) hQ7 hHeld ?_
        try simp only [Act.put, List.setIfInBounds_toArray, List.set_cons_zero, List.set_cons_succ]
        refine rg_skip (i := 15) (some 58) rfl rfl (by kernel_rfl) (by rfl) hQ7 hHeld ?_
        try simp only [Act.put, List.setIfInBounds_toArray, List.set_cons_zero, List.set_cons_succ]
        refine rg_skip (i := 16) (some 59) rfl rfl (by kernel_rfl) (by rfl) hQ7 hHeld ?_
        try simp only [Act.put, List.setIfInBounds_toArray, List.set_cons_zero, List.set_cons_succ]
        refine rg_skip (i := 17) (some 60) rfl rfl (by kernel_rfl) (by rfl) hQ7 hHeld ?_
        try simp only [Act.put, List.setIfInBounds_toArray, List.set_cons_zero, List.set_cons_succ]
        refine rg_skip (i := 18) (some 61) rfl rfl (by kernel_rfl) (by rfl) hQ7 hHeld ?_
        try simp only [Act.put, List.setIfInBounds_toArray, List.set_cons_zero, List.set_cons_succ]
        refine rg_take (i := 19) (some 62) (v := ?_) rfl rfl (by kernel_rfl) (by rfl) hQ7 hHeld ?_ ?_
        rotate_left
        · intro w7 hSw; (try dsimp only at hSw); go_simp; all_goals with_reducible rfl
        try simp only [Act.put, List.setIfInBounds_toArray, List.set_cons_zero, List.set_cons_succ]
        refine rg_end (by kernel_rfl) (hN7 _ _ ?_) _
        clear hQ7 hN7 Q7
        have BX := hHeld.1
        clear SS
        have HR1 := Lib.hid (ext_trans HR.out BX)
        clear BX x0 y0 c2 bl bt
        go_wp2_with fail
        go_ret
        exact ⟨ret_bool (HQ.out.trans HN.out).symm, ext_trans HE.out HR1.out⟩
      have e6 : decide (x < 0) = false := decide_eq_false g0
      by_cases g1 : (y.l.length : Int) ≤ x
      · have e7 : decide (x ≥ (y.l.length : Int)) = true := decide_eq_true g1
        have HN := Lib.hid (all_noD (p := pfit) HX.out (by simp [pfit]; omega))
        go_wp2_with fail
        have SS := Lib.hid (show ∀ w', Below wr.heap.size wr w' → (fun w' => Below wr.heap.size wr w' ∧ w'.cell? ⟨w.heap.size + 1, 2, none⟩ = some (.slice (some ⟨q1, o1, none⟩) c.ms.l.length c.ms.c) ∧ w'.cell? ⟨w.heap.size, 4, none⟩ = some (.slice (some ⟨q2, o2, none⟩) t.ms.l.length t.ms.c) ∧ w'.cell? ⟨q1, o1 + k, none⟩ = some (.int .i64 x) ∧ w'.cell? ⟨q2, o2 + k, none⟩ = some (.slice y.A y.l.length y.c)) w' from fun w' h => ⟨h, ((HC.out.ext HR.out).ext h).c 2 _ (by rw [← hA]; rfl), ((HB.out.ext HR.out).ext h).c 4 _ (by rw [← hB]; rfl), (h.cell (p := ⟨q1, o1 + k, none⟩) hb1).trans x0, (h.cell (p := ⟨q2, o2 + k, none⟩) hb2).trans y0⟩)
        refine rg_begin (S := (fun w' => Below wr.heap.size wr w' ∧ w'.cell? ⟨w.heap.size + 1, 2, none⟩ = some (.slice (some ⟨q1, o1, none⟩) c.ms.l.length c.ms.c) ∧ w'.cell? ⟨w.heap.size, 4, none⟩ = some (.slice (some ⟨q2, o2, none⟩) t.ms.l.length t.ms.c) ∧ w'.cell? ⟨q1, o1 + k, none⟩ = some (.int .i64 x) ∧ w'.cell? ⟨q2, o2 + k, none⟩ = some (.slice y.A y.l.length y.c))) 20 (by kernel_rfl) (by intro d; cases d <;> intro _ _ _ _ h <;> exact h) ?_ (fun Q7 hQ7 hN7 hHeld => ?_)
        · exact SS.out _ (ext_drew (ext_refl _))
        refine rg_take (i := 0) (some 43) (v := ?_) rfl rfl (by kernel_rfl) (by rfl) hQ7 hHeld ?_ ?_
        rotate_left
        · intro w7 hSw; (try dsimp only at hSw); go_simp; all_goals with_reducible rfl
        try simp only [Act.put, List.setIfInBounds_toArray, List.set_cons_zero, List.set_cons_succ]
        refine rg_take (i := 1) (some 44) (v := ?_) rfl rfl (by kernel_rfl) (by rfl) hQ7 hHeld ?_ ?_
        rotate_left
        · intro w7 hSw; (try dsimp only at hSw); go_simp; all_goals with_reducible rfl
        try simp only [Act.put, List.setIfInBounds_toArray, List.set_cons_zero, List.set_cons_succ]
        refine rg_take (i := 2) (some 45) (v := ?_) rfl rfl (by kernel_rfl) (by rfl) hQ7 hHeld ?_ ?_
        rotate_left
        · intro w7 hSw; (try dsimp only at hSw); go_simp; all_goals with_reducible rfl
        try simp only [Act.put, List.setIfInBounds_toArray, List.set_cons_zero, List.set_cons_succ]
        refine rg_take (i := 3) (some 46) (v := ?_) rfl rfl (by kernel_rfl) (by rfl) hQ7 hHeld ?_ ?_
        rotate_left
        · intro w7 hSw; (try dsimp only at hSw); go_simp; all_goals with_reducible rfl
        try simp only [Act.put, List.setIfInBounds_toArray, List.set_cons_zero, List.set_cons_succ]
        refine rg_take (i := 4) (some 47) (v := ?_) rfl rfl (by kernel_rfl) (by rfl) hQ7 hHeld ?_ ?_
        rotate_left
        · intro w7 hSw; (try dsimp only at hSw); go_simp; all_goals with_reducible rfl
        try simp only [Act.put, List.setIfInBounds_toArray, List.set_cons_zero, List.set_cons_succ]
        refine rg_take (i := 5) (some 48) (v := ?_) rfl rfl (by kernel_rfl) (by rfl) hQ7 hHeld ?_ ?_
        rotate_left
        · intro w7 hSw; (try dsimp only at hSw); go_simp; all_goals with_reducible rfl
        try simp only [Act.put, List.setIfInBounds_toArray, List.set_cons_zero, List.set_cons_succ]
        refine rg_take (i := 6) (some 49) (v := ?_) rfl rfl (by kernel_rfl) (by rfl) hQ7 hHeld ?_ ?_
        rotate_left
        · intro w7 hSw; (try dsimp only at hSw); go_simp; all_goals with_reducible rfl
        try simp only [Act.put, List.setIfInBounds_toArray, List.set_cons_zero, List.set_cons_succ]
        refine rg_take (i := 7) (some 50) (v := ?_) rfl rfl (by kernel_rfl) (by rfl) hQ7 hHeld ?_ ?_
        rotate_left
        · intro w7 hSw; (try dsimp only at hSw); go_simp; all_goals with_reducible rfl
        try simp only [Act.put, List.setIfInBounds_toArray, List.set_cons_zero, List.set_cons_succ]
        refine rg_take (i := 8) (some 51) (v := ?_) rfl rfl (by kernel_rfl) (by rfl) hQ7 hHeld ?_ ?_
        rotate_left
        · intro w7 hSw; (try dsimp only at hSw); go_simp; all_goals with_reducible rfl
        try simp only [Act.put, List.setIfInBounds_toArray, List.set_cons_zero, List.set_cons_succ]
        refine rg_take (i := 9) (some 52) (v := ?_) rfl rfl (by kernel_rfl) (by rfl) hQ7 hHeld ?_ ?_
        rotate_left
        · intro w7 hSw; (try dsimp only at hSw); go_simp; all_goals with_reducible rfl
        try simp only [Act.put, List.setIfInBounds_toArray, List.set_cons_zero, List.set_cons_succ]
        refine rg_take (i := 10) (some 53) (v := ?_) rfl rfl (by kernel_rfl) (by rfl) hQ7 hHeld ?_ ?_
        rotate_left
        · intro w7 hSw; (try dsimp only at hSw); go_simp; all_goals with_reducible rfl
        try simp only [Act.put, List.setIfInBounds_toArray, List.set_cons_zero, List.set_cons_succ]
        refine rg_take (i := 11) (some 54) (v := ?_) rfl rfl (by kernel_rfl) (by rfl) hQ7 hHeld ?_ ?_
        rotate_left
        · intro w7 hSw; (try dsimp only at hSw); go_simp; all_goals with_reducible rfl
        try simp only [Act.put, List.setIfInBounds_toArray, List.set_cons_zero, List.set_cons_succ]
        refine rg_take (i := 12) (some 55) (v := ?_) rfl rfl (by kernel_rfl) (by rfl) hQ7 hHeld ?_ ?_
        rotate_left
        · intro w7 hSw; (try dsimp only at hSw); go_simp; all_goals with_reducible rfl
        try simp only [Act.put, List.setIfInBounds_toArray, List.set_cons_zero, List.set_cons_succ]
        refine rg_take (i := 13) (some 56) (v := ?_) rfl rfl (by kernel_rfl) (by rfl) hQ7 hHeld ?_ ?_
        rotate_left
        · intro w7 hSw; (try dsimp only at hSw); go_simp; all_goals with_reducible rfl
        try simp only [Act.put, List.setIfInBounds_toArray, List.set_cons_zero, List.set_cons_succ]
        refine rg_take (i := 14) (some 57) (v := ?_) rfl rfl (by kernel_rfl) (by rfl) hQ7 hHeld ?_ ?_
        rotate_left
        · intro w7 hSw; (try dsimp only at hSw); go_simp; all_goals with_reducible rfl
        try simp only [Act.put, List.setIfInBounds_toArray, List.set_cons_zero, List.set_cons_succ]
        refine rg_take (i := 15) (some 58) (v := ?_) rfl rfl (by kernel_rfl) (by rfl) hQ7 hHeld ?_ ?_
        rotate_left
        · intro w7 hSw; (try dsimp only at hSw); go_simp; all_goals with_reducible rfl
        try simp only [Act.put, List.setIfInBounds_toArray, List.set_cons_zero, List.set_cons_succ]
        refine rg_take (i := 16) (some 59) (v := ?_) rfl rfl (by kernel_rfl) (by rfl) hQ7 hHeld ?_ ?_
        rotate_left
        · intro w7 hSw; (try dsimp only at hSw); go_simp; all_goals with_reducible rfl
        try simp only [Act.put, List.setIfInBounds_toArray, List.set_cons_zero, List.set_cons_succ]
        refine rg_take (i := 17) (some 60) (v := ?_) rfl rfl (by kernel_rfl) (by rfl) hQ7 hHeld ?_ ?_
        rotate_left
        · intro w7 hSw; (try dsimp only at hSw); go_simp; all_goals with_reducible rfl
        try simp only [Act.put, List.setIfInBounds_toArray, List.set_cons_zero, List.set_cons_succ]
        refine rg_take (i := 18) (some 61) (v := ?_) rfl rfl (by kernel_rfl) (by rfl) hQ7 hHeld ?_ ?_
        rotate_left
        · intro w7 hSw; (try dsimp only at hSw); go_simp; all_goals with_reducible rfl
        try simp only [Act.put, List.setIfInBounds_toArray, List.set_cons_zero, List.set_cons_succ]
        refine rg_take (i := 19) (some 62) (v := ?_) rfl rfl (by kernel_rfl) (by rfl) hQ7 hHeld ?_ ?_
        rotate_left
        · intro w7 hSw; (try dsimp only at hSw); go_simp; all_goals with_reducible rfl
        try simp only [Act.put, List.setIfInBounds_toArray, List.set_cons_zero, List.set_cons_succ]
        refine rg_end (by kernel_rfl) (hN7 _ _ ?_) _
        clear hQ7 hN7 Q7
        have BX := hHeld.1
        clear SS
        have HR1 := Lib.hid (ext_trans HR.out BX)
        clear BX x0 y0 c2 bl bt
        go_wp2_with fail
        go_ret
        exact ⟨ret_bool (HQ.out.trans HN.out).symm, ext_trans HE.out HR1.out⟩
      · have e7 : decide (x ≥ (y.l.length : Int)) = false := decide_eq_false g1
        have HN := Lib.hid (all_stepD (p := pfit) HX.out (by simp [pfit]; omega))
        go_wp2_with fail
        have SS := Lib.hid (show ∀ w', Below wr.heap.size wr w' → (fun w' => Below wr.heap.size wr w' ∧ w'.cell? ⟨w.heap.size + 1, 2, none⟩ = some (.slice (some ⟨q1, o1, none⟩) c.ms.l.length c.ms.c) ∧ w'.cell? ⟨w.heap.size, 4, none⟩ = some (.slice (some ⟨q2, o2, none⟩) t.ms.l.length t.ms.c) ∧ w'.cell? ⟨q1, o1 + k, none⟩ = some (.int .i64 x) ∧ w'.cell? ⟨q2, o2 + k, none⟩ = some (.slice y.A y.l.length y.c)) w' from fun w' h => ⟨h, ((HC.out.ext HR.out).ext h).c 2 _ (by rw [← hA]; rfl), ((HB.out.ext HR.out).ext h).c 4 _ (by rw [← hB]; rfl), (h.cell (p := ⟨q1, o1 + k, none⟩) hb1).trans x0, (h.cell (p := ⟨q2, o2 + k, none⟩) hb2).trans y0⟩)
        refine rg_begin (S := (fun w' => Below wr.heap.size wr w' ∧ w'.cell? ⟨w.heap.size + 1, 2, none⟩ = some (.slice (some ⟨q1, o1, none⟩) c.ms.l.length c.ms.c) ∧ w'.cell? ⟨w.heap.size, 4, none⟩ = some (.slice (some ⟨q2, o2, none⟩) t.ms.l.length t.ms.c) ∧ w'.cell? ⟨q1, o1 + k, none⟩ = some (.int .i64 x) ∧ w'.cell? ⟨q2, o2 + k, none⟩ = some (.slice y.A y.l.length y.c))) 20 (by kernel_rfl) (by intro d; cases d <;> intro _ _ _ _ h <;> exact h) ?_ (fun Q7 hQ7 hN7 hHeld => ?_)
        · exact SS.out _ (ext_drew (ext_refl _))
        refine rg_take (i := 0) (some 43) (v := ?_) rfl rfl (by kernel_rfl) (by rfl) hQ7 hHeld ?_ ?_
        rotate_left
        · intro w7 hSw; (try dsimp only at hSw); go_simp; all_goals with_reducible rfl
        try simp only [Act.put, List.setIfInBounds_toArray, List.set_cons_zero, List.set_cons_succ]
        refine rg_take (i := 1) (some 44) (v := ?_) rfl rfl (by kernel_rfl) (by rfl) hQ7 hHeld ?_ ?_
        rotate_left
        · intro w7 hSw; (try dsimp only at hSw); go_simp; all_goals with_reducible rfl
        try simp only [Act.put, List.setIfInBounds_toArray, List.set_cons_zero, List.set_cons_succ]
        refine rg_take (i := 2) (some 45) (v := ?_) rfl rfl (by kernel_rfl) (by rfl) hQ7 hHeld ?_ ?_
        rotate_left
        · intro w7 hSw; (try dsimp only at hSw); go_simp; all_goals with_reducible rfl
        try simp only [Act.put, List.setIfInBounds_toArray, List.set_cons_zero, List.set_cons_succ]
        refine rg_take (i := 3) (some 46) (v := ?_) rfl rfl (by kernel_rfl) (by rfl) hQ7 hHeld ?_ ?_
        rotate_left
        · intro w7 hSw; (try dsimp only at hSw); go_simp; all_goals with_reducible rfl
        try simp only [Act.put, List.setIfInBounds_toArray, List.set_cons_zero, List.set_cons_succ]
        refine rg_take (i := 4) (some 47) (v := ?_) rfl rfl (by kernel_rfl) (by rfl) hQ7 hHeld ?_ ?_
        rotate_left
        · intro w7 hSw; (try dsimp only at hSw); go_simp; all_goals with_reducible rfl
        try simp only [Act.put, List.setIfInBounds_toArray, List.set_cons_zero, List.set_cons_succ]
        refine rg_take (i := 5) (some 48) (v := ?_) rfl rfl (by kernel_rfl) (by rfl) hQ7 hHeld ?_ ?_
        rotate_left
        · intro w7 hSw; (try dsimp only at hSw); go_simp; all_goals with_reducible rfl
        try simp only [Act.put, List.setIfInBounds_toArray, List.set_cons_zero, List.set_cons_succ]
        refine rg_take (i := 6) (some 49) (v := ?_) rfl rfl (by kernel_rfl) (by rfl) hQ7 hHeld ?_ ?_
        rotate_left
        · intro w7 hSw; (try dsimp only at hSw); go_simp; all_goals with_reducible rfl
        try simp only [Act.put, List.setIfInBounds_toArray, List.set_cons_zero, List.set_cons_succ]
        refine rg_take (i := 7) (some 50) (v := ?_) rfl rfl (by kernel_rfl) (by rfl) hQ7 hHeld ?_ ?_
        rotate_left
        · intro w7 hSw; (try dsimp only at hSw); go_simp; all_goals with_reducible rfl
        try simp only [Act.put, List.setIfInBounds_toArray, List.set_cons_zero, List.set_cons_succ]
        refine rg_take (i := 8) (some 51) (v := ?_) rfl rfl (by kernel_rfl) (by rfl) hQ7 hHeld ?_ ?_
        rotate_left
        · intro w7 hSw; (try dsimp only at hSw); go_simp; all_goals with_reducible rfl
        try simp only [Act.put, List.setIfInBounds_toArray, List.set_cons_zero, List.set_cons_succ]
        refine rg_take (i := 9) (some 52) (v := ?_) rfl rfl (by kernel_rfl) (by rfl) hQ7 hHeld ?_ ?_
        rotate_left
        · intro w7 hSw; (try dsimp only at hSw); go_simp; all_goals with_reducible rfl
        try simp only [Act.put, List.setIfInBounds_toArray, List.set_cons_zero, List.set_cons_succ]
        refine rg_take (i := 10) (some 53) (v := ?_) rfl rfl (by kernel_rfl) (by rfl) hQ7 hHeld ?_ ?_
        rotate_left
        · intro w7 hSw; (try dsimp only at hSw); go_simp; all_goals with_reducible rfl
        try simp only [Act.put, List.setIfInBounds_toArray, List.set_cons_zero, List.set_cons_succ]
        refine rg_take (i := 11) (some 54) (v := ?_) rfl rfl (by kernel_rfl) (by rfl) hQ7 hHeld ?_ ?_
        rotate_left
        · intro w7 hSw; (try dsimp only at hSw); go_simp; all_goals with_reducible rfl
        try simp only [Act.put, List.setIfInBounds_toArray, List.set_cons_zero, List.set_cons_succ]
        refine rg_take (i := 12) (some 55) (v := ?_) rfl rfl (by kernel_rfl) (by rfl) hQ7 hHeld ?_ ?_
        rotate_left
        · intro w7 hSw; (try dsimp only at hSw); go_simp; all_goals with_reducible rfl
        try simp only [Act.put, List.setIfInBounds_toArray, List.set_cons_zero, List.set_cons_succ]
        refine rg_take (i := 13) (some 56) (v := ?_) rfl rfl (by kernel_rfl) (by rfl) hQ7 hHeld ?_ ?_
        rotate_left
        · intro w7 hSw; (try dsimp only at hSw); go_simp; all_goals with_reducible rfl
        try simp only [Act.put, List.setIfInBounds_toArray, List.set_cons_zero, List.set_cons_succ]
        refine rg_take (i := 14) (some 57) (v := ?_) rfl rfl (by kernel_rfl) (by rfl) hQ7 hHeld ?_ ?_
        rotate_left
        · intro w7 hSw; (try dsimp only at hSw); go_simp; all_goals with_reducible rfl
        try simp only [Act.put, List.setIfInBounds_toArray, List.set_cons_zero, List.set_cons_succ]
        refine rg_take (i := 15) (some 58) (v := ?_) rfl rfl (by kernel_rfl) (by rfl) hQ7 hHeld ?_ ?_
        rotate_left
        · intro w7 hSw; (try dsimp only at hSw); go_simp; all_goals with_reducible rfl
        try simp only [Act.put, List.setIfInBounds_toArray, List.set_cons_zero, List.set_cons_succ]
        refine rg_take (i := 16) (some 59) (v := ?_) rfl rfl (by kernel_rfl) (by rfl) hQ7 hHeld ?_ ?_
        rotate_left
        · intro w7 hSw; (try dsimp only at hSw); go_simp; all_goals with_reducible rfl
        try simp only [Act.put, List.setIfInBounds_toArray, List.set_cons_zero, List.set_cons_succ]
        refine rg_take (i := 17) (some 60) (v := ?_) rfl rfl (by kernel_rfl) (by rfl) hQ7 hHeld ?_ ?_
        rotate_left
        · intro w7 hSw; (try dsimp only at hSw); go_simp; all_goals with_reducible rfl
        try simp only [Act.put, List.setIfInBounds_toArray, List.set_cons_zero, List.set_cons_succ]
        refine rg_take (i := 18) (some 61) (v := ?_) rfl rfl (by kernel_rfl) (by rfl) hQ7 hHeld ?_ ?_
        rotate_left
        · intro w7 hSw; (try dsimp only at hSw); go_simp; all_goals with_reducible rfl
        try simp only [Act.put, List.setIfInBounds_toArray, List.set_cons_zero, List.set_cons_succ]
        refine rg_take (i := 19) (some 62) (v := ?_) rfl rfl (by kernel_rfl) (by rfl) hQ7 hHeld ?_ ?_
        rotate_left
        · intro w7 hSw; (try dsimp only at hSw); go_simp; all_goals with_reducible rfl
        try simp only [Act.put, List.setIfInBounds_toArray, List.set_cons_zero, List.set_cons_succ]
        refine rg_end (by kernel_rfl) (hN7 _ _ ?_) _
        clear hQ7 hN7 Q7
        have BX := hHeld.1
        clear SS
        have HR1 := Lib.hid (ext_trans HR.out BX)
        clear BX x0 y0 c2 bl bt
        try rw [← hA]
        try rw [← hB]
        clear hA hB
        go_wp2_with fail
        first | exact ⟨⟨k + 1, by omega, by go_num, HQ.out.trans HN.out, HR1.out⟩, by simp [intOf] <;> omega⟩ | (go_roundw; all_goals first | exact ⟨k + 1, by omega, by go_num, HQ.out.trans HN.out, HR1.out⟩ | (simp [intOf] <;> omega))
    · have hlt' : decide ((k : Int) < c.ms.l.length) = false := decide_eq_false (by omega)
      have hd : (List.zip c.ms.l t.ms.l).drop k = [] := List.drop_eq_nil_of_le (by rw [List.length_zip]; omega)
      rw [hd] at HQ
      clear hd
      go_wp2_with fail
      go_ret
      exact ⟨ret_bool HQ.out.symm, ext_trans HE.out HR.out⟩
theorem rfits_at {t : Tab} {c : Chg} {w : World} (r : Bool) (hr : fitsB t c = r) (ht : Tab.ok w t) (hc : Chg.ok w c) : Calls Tryz.prog 31 #[t.v, c.v] w (RetB w r) := by
  subst hr; exact rfits_any t c w ht hc
set_option maxRecDepth 100000 in
set_option maxHeartbeats 16000000 in
theorem rvalid_s (t : Tab) (A : Option Addr) (c : Nat) (l : List Chg) (w : World) (ht : Tab.ok w t) (ha : Slc w Chg.cells 3 A l) (hl : l.length ≤ maxLen) (hao : ∀ x ∈ l, Chg.ok w x) : Calls Tryz.prog 30 #[t.v, .agg #[.slice A l.length c]] w (RetB w (vldS t l)) := by
  obtain ⟨W, hW⟩ : ∃ W, (w.alloc (.cells #[.int .i64 t.n, .slice t.ss.A t.ss.l.length t.ss.c, .slice t.cs.A t.cs.l.length t.cs.c, .slice t.ws.A t.ws.l.length t.ws.c, .slice t.ms.A t.ms.l.length t.ms.c, .slice t.ks.A t.ks.l.length t.ks.c] 28)).alloc (.cells #[.slice A l.length c] 31) = W := ⟨_, rfl⟩
  have HB : Hid (Blk W w.heap.size t.cells) := by rw [← hW]; exact (Blk.newH w t.cells 28 w.heap.size rfl).alloc _
  have HC : Hid (Blk W (w.heap.size + 1) [.slice A l.length c]) := by rw [← hW]; exact Blk.newH (w.alloc _) [.slice A l.length c] 31 (w.heap.size + 1) (by simp)
  have HE : Hid (Below w.heap.size w W) := by rw [← hW]; exact ext_alloc (ext_alloc (ext_refl w) _) _
  have HT := Lib.hid (ht.ext HE.out)
  have HA := Lib.hid (ha.ext HE.out)
  have HAO : Hid (∀ x ∈ l, Chg.ok W x) := fun x hx => (hao x hx).ext HE.out
  have c0 := HC.out.c 0 _ rfl
  have bl := HC.out.lt
  unfold maxLen at hl
  clear ht ha hao
  go_enter Tryz.func30, Tryz.ntmps30
  by_cases h1 : l.length = 0
  · have e1 : ((l.length : Int) == 0) = true := by simp; exact List.eq_nil_of_length_eq_zero h1
    have HR : Hid (vldS t l = false) := by rw [List.eq_nil_of_length_eq_zero h1]; rfl
    clear h1
    go_wp2_with fail
    go_ret
    rw [HR.out]
    exact ⟨rfl, HE.out⟩
  have e1 : ((l.length : Int) == 0) = false := by simp; intro q; exact h1 (by simp [q])
  obtain ⟨a, qa, oa, ha0, rfl, hba, hca⟩ := HA.out.at_ (k := 0) (by omega)
  have a0 := hca 0 _ rfl
  simp only [Nat.zero_mul, Nat.add_zero] at a0
  have HA0 := Lib.hid ha0
  have hl0 : (0 : Int) < l.length := by omega
  clear hca ha0
  by_cases h2 : a.f = 0
  rotate_left
  · have e2 : (a.f != 0) = true := by simpa using h2
    have HR : Hid (vldS t l = false) := vld_false fun h => by
      obtain ⟨b, r, e, hb⟩ := h.hd
      have := HA0.out
      rw [e] at this
      simp at this
      subst this
      exact h2 hb
    clear h2
    go_wp2_with fail
    go_ret
    rw [HR.out]
    exact ⟨rfl, HE.out⟩
  have e2 : (a.f != 0) = false := by simpa using h2
  have H2 := Lib.hid h2
  clear h2
  go_wp2_with fail
  clear hW a0 e1 e2
  go_loopw [5] (fun i wr => ∃ k : Nat, k ≤ l.length ∧ i = .int .i64 k ∧ Hid (Upto t l k) ∧ Hid (Below W.heap.size W wr)) (fun i _ => l.length - (intOf i).toNat)
  case atStart => exact ⟨0, Nat.zero_le _, rfl, ⟨fun i x h => by omega, fun i x y h => by omega⟩, ext_refl _⟩
  clear c0 bl
  case round =>
    obtain ⟨k, hk, rfl, HU, HR⟩ := hrel
    have c0 := (HC.out.ext HR.out).c 0 _ rfl
    have bl := (HC.out.ext HR.out).lt
    have bt := (HB.out.ext HR.out).lt
    by_cases hlt : k < l.length
    · have hlt' : (k : Int) < l.length := by omega
      obtain ⟨x, q1, o1, hx, hA, hb1, hcx⟩ := (HA.out.ext HR.out).at_ hlt
      cases hA
      have HX := Lib.hid hx
      have d0 := hcx 0 _ rfl
      have d1 := hcx 1 _ rfl
      have d2 := hcx 2 _ rfl
      simp only [Nat.add_zero] at d0
      have HXO := Lib.hid ((HAO.out x (List.mem_of_getElem? hx)).ext HR.out)
      clear hx
      obtain ⟨r, hr⟩ : ∃ r, fitsB t x = r := ⟨_, rfl⟩
      have HF := Lib.hid hr
      clear hr
      go_wp2_with fail
      cases r
      · have HV : Hid (vldS t l = false) := vld_false fun h => by
          have := h.fit x (List.mem_of_getElem? HX.out)
          rw [HF.out] at this
          cases this
        have SS := Lib.hid (show ∀ w', Below wr.heap.size wr w' → (fun w' => Below wr.heap.size wr w' ∧ w'.cell? ⟨w.heap.size, 0, none⟩ = some (.int .i64 t.n) ∧ w'.cell? ⟨w.heap.size, 1, none⟩ = some (.slice t.ss.A t.ss.l.length t.ss.c) ∧ w'.cell? ⟨w.heap.size, 2, none⟩ = some (.slice t.cs.A t.cs.l.length t.cs.c) ∧ w'.cell? ⟨w.heap.size, 3, none⟩ = some (.slice t.ws.A t.ws.l.length t.ws.c) ∧ w'.cell? ⟨w.heap.size, 4, none⟩ = some (.slice t.ms.A t.ms.l.length t.ms.c) ∧ w'.cell? ⟨w.heap.size, 5, none⟩ = some (.slice t.ks.A t.ks.l.length t.ks.c) ∧ w'.cell? ⟨w.heap.size + 1, 0, none⟩ = some (.slice (some ⟨qa, oa, none⟩) l.length c) ∧ w'.cell? ⟨qa, oa + k * 3, none⟩ = some (.int .i64 x.f) ∧ w'.cell? ⟨qa, oa + k * 3 + 1, none⟩ = some (.int .i64 x.cfg) ∧ w'.cell? ⟨qa, oa + k * 3 + 2, none⟩ = some (.slice x.ms.A x.ms.l.length x.ms.c)) w' from fun w' h => ⟨h, ((HB.out.ext HR.out).ext h).c 0 _ rfl, ((HB.out.ext HR.out).ext h).c 1 _ rfl, ((HB.out.ext HR.out).ext h).c 2 _ rfl, ((HB.out.ext HR.out).ext h).c 3 _ rfl, ((HB.out.ext HR.out).ext h).c 4 _ rfl, ((HB.out.ext HR.out).ext h).c 5 _ rfl, ((HC.out.ext HR.out).ext h).c 0 _ rfl, (h.cell (p := ⟨qa, oa + k * 3, none⟩) hb1).trans d0, (h.cell (p := ⟨qa, oa + k * 3 + 1, none⟩) hb1).trans d1, (h.cell (p := ⟨qa, oa + k * 3 + 2, none⟩) hb1).trans d2⟩)
        refine rg_begin (S := (fun w' => Below wr.heap.size wr w' ∧ w'.cell? ⟨w.heap.size, 0, none⟩ = some (.int .i64 t.n) ∧ w'.cell? ⟨w.heap.size, 1, none⟩ = some (.slice t.ss.A t.ss.l.length t.ss.c) ∧ w'.cell? ⟨w.heap.size, 2, none⟩ = some (.slice t.cs.A t.cs.l.length t.cs.c) ∧ w'.cell? ⟨w.heap.size, 3, none⟩ = some (.slice t.ws.A t.ws.l.length t.ws.c) ∧ w'.cell? ⟨w.heap.size, 4, none⟩ = some (.slice t.ms.A t.ms.l.length t.ms.c) ∧ w'.cell? ⟨w.heap.size, 5, none⟩ = some (.slice t.ks.A t.ks.l.length t.ks.c) ∧ w'.cell? ⟨w.heap.size + 1, 0, none⟩ = some (.slice (some ⟨qa, oa, none⟩) l.length c) ∧ w'.cell? ⟨qa, oa + k * 3, none⟩ = some (.int .i64 x.f) ∧ w'.cell? ⟨qa, oa + k * 3 + 1, none⟩ = some (.int .i64 x.cfg) ∧ w'.cell? ⟨qa, oa + k * 3 + 2, none⟩ = some (.slice x.ms.A x.ms.l.length x.ms.c))) 28 (by kernel_rfl) (by intro d; cases d <;> intro _ _ _ _ h <;> exact h) ?_ (fun Q7 hQ7 hN7 hHeld => ?_)
        · exact SS.out _ (ext_drew (ext_refl _))
        refine rg_take (i := 0) (some 25) (v := ?_) rfl rfl (by kernel_rfl) (by rfl) hQ7 hHeld ?_ ?_
        rotate_left
        · intro w7 hSw; (try dsimp only at hSw); go_simp; all_goals with_reducible rfl
        try simp only [Act.put, List.setIfInBounds_toArray, List.set_cons_zero, List.set_cons_succ]
        refine rg_take (i := 1) (some 26) (v := ?_) rfl rfl (by kernel_rfl) (by rfl) hQ7 hHeld ?_ ?_
        rotate_left
        · intro w7 hSw; (try dsimp only at hSw); go_simp; all_goals with_reducible rfl
        try simp only [Act.put, List.setIfInBounds_toArray, List.set_cons_zero, List.set_cons_succ]
        refine rg_take (i := 2) (some 27) (v := ?_) rfl rfl (by kernel_rfl) (by rfl) hQ7 hHeld ?_ ?_
        rotate_left
        · intro w7 hSw; (try dsimp only at hSw); go_simp; all_goals with_reducible rfl
        try simp only [Act.put, List.setIfInBounds_toArray, List.set_cons_zero, List.set_cons_succ]
        refine rg_take (i := 3) (some 28) (v := ?_) rfl rfl (by kernel_rfl) (by rfl) hQ7 hHeld ?_ ?_
        rotate_left
        · intro w7 hSw; (try dsimp only at hSw); go_simp; all_goals with_reducible rfl
        try simp only [Act.put, List.setIfInBounds_toArray, List.set_cons_zero, List.set_cons_succ]
        refine rg_take (i := 4) (some 29) (v := ?_) rfl rfl (by kernel_rfl) (by rfl) hQ7 hHeld ?_ ?_
        rotate_left
        · intro w7 hSw; (try dsimp only at hSw); go_simp; all_goals with_reducible rfl
        try simp only [Act.put, List.setIfInBounds_toArray, List.set_cons_zero, List.set_cons_succ]
        refine rg_take (i := 5) (some 30) (v := ?_) rfl rfl (by kernel_rfl) (by rfl) hQ7 hHeld ?_ ?_
        rotate_left
        · intro w7 hSw; (try dsimp only at hSw); go_simp; all_goals with_reducible rfl
        try simp only [Act.put, List.setIfInBounds_toArray, List.set_cons_zero, List.set_cons_succ]
        refine rg_one (i := 6) (by kernel_rfl) (rg_step rfl (by rfl) (fun K hK => ?_))
        go_simp
        refine (rfits_at (t := t) (c := x) false HF.out ((HT.out.ext HR.out).ext hHeld.1) (HXO.out.ext hHeld.1)).mono ?_
        rintro e u1 ⟨rfl, B1⟩
        go_wp2_with fail
        refine hK.out _ _ ?_ (fun hHeld2 => ?_)
        · exact SS.out _ (ext_trans hHeld.1 B1)
        clear hHeld
        have hHeld := hHeld2
        clear hHeld2
        clear hK K
        try simp only [Act.put, List.setIfInBounds_toArray, List.set_cons_zero, List.set_cons_succ]
        refine rg_take (i := 7) (some 32) (v := ?_) rfl rfl (by kernel_rfl) (by rfl) hQ7 hHeld ?_ ?_
        rotate_left
        · intro w7 hSw; (try dsimp only at hSw); go_simp; all_goals with_reducible rfl
        try simp only [Act.put, List.setIfInBounds_toArray, List.set_cons_zero, List.set_cons_succ]
        refine rg_take (i := 8) (some 33) (v := ?_) rfl rfl (by kernel_rfl) (by rfl) hQ7 hHeld ?_ ?_
        rotate_left
        · intro w7 hSw; (try dsimp only at hSw); go_simp; all_goals with_reducible rfl
        try simp only [Act.put, List.setIfInBounds_toArray, List.set_cons_zero, List.set_cons_succ]
        refine rg_skip (i := 9) (some 34) rfl rfl (by kernel_rfl) (by rfl) hQ7 hHeld ?_
        try simp only [Act.put, List.setIfInBounds_toArray, List.set_cons_zero, List.set_cons_succ]
        refine rg_skip (i := 10) (some 35) rfl rfl (by kernel_rfl) (by rfl) hQ7 hHeld ?_
        try simp only [Act.put, List.setIfInBounds_toArray, List.set_cons_zero, List.set_cons_succ]
        refine rg_skip (i := 11) (some 36) rfl rfl (by kernel_rfl) (by rfl) hQ7 hHeld ?_
        try simp only [Act.put, List.setIfInBounds_toArray, List.set_cons_zero, List.set_cons_succ]
        refine rg_skip (i := 12) (some 37) rfl rfl (by kernel_rfl) (by rfl) hQ7 hHeld ?_
        try simp only [Act.put, List.setIfInBounds_toArray, List.set_cons_zero, List.set_cons_succ]
        refine rg_skip (i := 13) (some 38) rfl rfl (by kernel_rfl) (by rfl) hQ7 hHeld ?_
        try simp only [Act.put, List.setIfInBounds_toArray, List.set_cons_zero, List.set_cons_succ]
        refine rg_skip (i := 14) (some 39) rfl rfl (by kernel_rfl) (by rfl) hQ7 hHeld ?_
        try simp only [Act.put, List.setIfInBounds_toArray, List.set_cons_zero, List.set_cons_succ]
        refine rg_skip (i := 15) (some 40) rfl rfl (by kernel_rfl) (by rfl) hQ7 hHeld ?_
        try simp only [Act.put, List.setIfInBounds_toArray, List.set_cons_zero, List.set_cons_succ]
        refine rg_skip (i := 16) (some 41) rfl rfl (by kernel_rfl) (by rfl) hQ7 hHeld ?_
        try simp only [Act.put, List.setIfInBounds_toArray, List.set_cons_zero, List.set_cons_succ]
        refine rg_skip (i := 17) (some 42) rfl rfl (by kernel_rfl) (by rfl) hQ7 hHeld ?_
        try simp only [Act.put, List.setIfInBounds_toArray, List.set_cons_zero, List.set_cons_succ]
        refine rg_skip (i := 18) (some 43) rfl rfl (by kernel_rfl) (by rfl) hQ7 hHeld ?_
        try simp only [Act.put, List.setIfInBounds_toArray, List.set_cons_zero, List.set_cons_succ]
        refine rg_skip (i := 19) (some 44) rfl rfl (by kernel_rfl) (by rfl) hQ7 hHeld ?_
        try simp only [Act.put, List.setIfInBounds_toArray, List.set_cons_zero, List.set_cons_succ]
        refine rg_skip (i := 20) (some 45) rfl rfl (by kernel_rfl) (by rfl) hQ7 hHeld ?_
        try simp only [Act.put, List.setIfInBounds_toArray, List.set_cons_zero, List.set_cons_succ]
        refine rg_skip (i := 21) (some 46) rfl rfl (by kernel_rfl) (by rfl) hQ7 hHeld ?_
        try simp only [Act.put, List.setIfInBounds_toArray, List.set_cons_zero, List.set_cons_succ]
        refine rg_skip (i := 22) (some 47) rfl rfl (by kernel_rfl) (by rfl) hQ7 hHeld ?_
        try simp only [Act.put, List.setIfInBounds_toArray, List.set_cons_zero, List.set_cons_succ]
        refine rg_skip (i := 23) (some 48) rfl rfl (by kernel_rfl) (by rfl) hQ7 hHeld ?_
        try simp only [Act.put, List.setIfInBounds_toArray, List.set_cons_zero, List.set_cons_succ]
        refine rg_skip (i := 24) (some 49) rfl rfl (by kernel_rfl) (by rfl) hQ7 hHeld ?_
        try simp only [Act.put, List.setIfInBounds_toArray, List.set_cons_zero, List.set_cons_succ]
        refine rg_skip (i := 25) (some 50) rfl rfl (by kernel_rfl) (by rfl) hQ7 hHeld ?_
        try simp only [Act.put, List.setIfInBounds_toArray, List.set_cons_zero, List.set_cons_succ]
        refine rg_skip (i := 26) (some 51) rfl rfl (by kernel_rfl) (by rfl) hQ7 hHeld ?_
        try simp only [Act.put, List.setIfInBounds_toArray, List.set_cons_zero, List.set_cons_succ]
        refine rg_take (i := 27) (some 52) (v := ?_) rfl rfl (by kernel_rfl) (by rfl) hQ7 hHeld ?_ ?_
        rotate_left
        · intro w7 hSw; (try dsimp only at hSw); go_simp; all_goals with_reducible rfl
        try simp only [Act.put, List.setIfInBounds_toArray, List.set_cons_zero, List.set_cons_succ]
        refine rg_end (by kernel_rfl) (hN7 _ _ ?_) _
        clear hQ7 hN7 Q7
        have BX := hHeld.1
        clear SS
        have HR1 := Lib.hid (ext_trans HR.out BX)
        clear BX d0 d1 d2 c0 bl bt
        go_wp2_with fail
        go_ret
        rw [HV.out]
        exact ⟨rfl, ext_trans HE.out HR1.out⟩
      by_cases hk0 : k = 0
      · have HU2 : Hid (Upto t l (k + 1)) := HU.out.step HX.out HF.out (fun i y e => by omega)
        subst hk0
        simp only [Nat.zero_mul, Nat.add_zero, Nat.zero_add] at d0 d1 d2
        have SS := Lib.hid (show ∀ w', Below wr.heap.size wr w' → (fun w' => Below wr.heap.size wr w' ∧ w'.cell? ⟨w.heap.size, 0, none⟩ = some (.int .i64 t.n) ∧ w'.cell? ⟨w.heap.size, 1, none⟩ = some (.slice t.ss.A t.ss.l.length t.ss.c) ∧ w'.cell? ⟨w.heap.size, 2, none⟩ = some (.slice t.cs.A t.cs.l.length t.cs.c) ∧ w'.cell? ⟨w.heap.size, 3, none⟩ = some (.slice t.ws.A t.ws.l.length t.ws.c) ∧ w'.cell? ⟨w.heap.size, 4, none⟩ = some (.slice t.ms.A t.ms.l.length t.ms.c) ∧ w'.cell? ⟨w.heap.size, 5, none⟩ = some (.slice t.ks.A t.ks.l.length t.ks.c) ∧ w'.cell? ⟨w.heap.size + 1, 0, none⟩ = some (.slice (some ⟨qa, oa, none⟩) l.length c) ∧ w'.cell? ⟨qa, oa, none⟩ = some (.int .i64 x.f) ∧ w'.cell? ⟨qa, oa + 1, none⟩ = some (.int .i64 x.cfg) ∧ w'.cell? ⟨qa, oa + 2, none⟩ = some (.slice x.ms.A x.ms.l.length x.ms.c)) w' from fun w' h => ⟨h, ((HB.out.ext HR.out).ext h).c 0 _ rfl, ((HB.out.ext HR.out).ext h).c 1 _ rfl, ((HB.out.ext HR.out).ext h).c 2 _ rfl, ((HB.out.ext HR.out).ext h).c 3 _ rfl, ((HB.out.ext HR.out).ext h).c 4 _ rfl, ((HB.out.ext HR.out).ext h).c 5 _ rfl, ((HC.out.ext HR.out).ext h).c 0 _ rfl, (h.cell (p := ⟨qa, oa, none⟩) hb1).trans d0, (h.cell (p := ⟨qa, oa + 1, none⟩) hb1).trans d1, (h.cell (p := ⟨qa, oa + 2, none⟩) hb1).trans d2⟩)
        refine rg_begin (S := (fun w' => Below wr.heap.size wr w' ∧ w'.cell? ⟨w.heap.size, 0, none⟩ = some (.int .i64 t.n) ∧ w'.cell? ⟨w.heap.size, 1, none⟩ = some (.slice t.ss.A t.ss.l.length t.ss.c) ∧ w'.cell? ⟨w.heap.size, 2, none⟩ = some (.slice t.cs.A t.cs.l.length t.cs.c) ∧ w'.cell? ⟨w.heap.size, 3, none⟩ = some (.slice t.ws.A t.ws.l.length t.ws.c) ∧ w'.cell? ⟨w.heap.size, 4, none⟩ = some (.slice t.ms.A t.ms.l.length t.ms.c) ∧ w'.cell? ⟨w.heap.size, 5, none⟩ = some (.slice t.ks.A t.ks.l.length t.ks.c) ∧ w'.cell? ⟨w.heap.size + 1, 0, none⟩ = some (.slice (some ⟨qa, oa, none⟩) l.length c) ∧ w'.cell? ⟨qa, oa, none⟩ = some (.int .i64 x.f) ∧ w'.cell? ⟨qa, oa + 1, none⟩ = some (.int .i64 x.cfg) ∧ w'.cell? ⟨qa, oa + 2, none⟩ = some (.slice x.ms.A x.ms.l.length x.ms.c))) 28 (by kernel_rfl) (by intro d; cases d <;> intro _ _ _ _ h <;> exact h) ?_ (fun Q7 hQ7 hN7 hHeld => ?_)
        · exact SS.out _ (ext_drew (ext_refl _))
        refine rg_take (i := 0) (some 25) (v := ?_) rfl rfl (by kernel_rfl) (by rfl) hQ7 hHeld ?_ ?_
        rotate_left
        · intro w7 hSw; (try dsimp only at hSw); go_simp; all_goals with_reducible rfl
        try simp only [Act.put, List.setIfInBounds_toArray, List.set_cons_zero, List.set_cons_succ]
        refine rg_take (i := 1) (some 26) (v := ?_) rfl rfl (by kernel_rfl) (by rfl) hQ7 hHeld ?_ ?_
        rotate_left
        · intro w7 hSw; (try dsimp only at hSw); go_simp; all_goals with_reducible rfl
        try simp only [Act.put, List.setIfInBounds_toArray, List.set_cons_zero, List.set_cons_succ]
        refine rg_take (i := 2) (some 27) (v := ?_) rfl rfl (by kernel_rfl) (by rfl) hQ7 hHeld ?_ ?_
        rotate_left
        · intro w7 hSw; (try dsimp only at hSw); go_simp; all_goals with_reducible rfl
        try simp only [Act.put, List.setIfInBounds_toArray, List.set_cons_zero, List.set_cons_succ]
        refine rg_take (i := 3) (some 28) (v := ?_) rfl rfl (by kernel_rfl) (by rfl) hQ7 hHeld ?_ ?_
        rotate_left
        · intro w7 hSw; (try dsimp only at hSw); go_simp; all_goals with_reducible rfl
        try simp only [Act.put, List.setIfInBounds_toArray, List.set_cons_zero, List.set_cons_succ]
        refine rg_take (i := 4) (some 29) (v := ?_) rfl rfl (by kernel_rfl) (by rfl) hQ7 hHeld ?_ ?_
        rotate_left
        · intro w7 hSw; (try dsimp only at hSw); go_simp; all_goals with_reducible rfl
        try simp only [Act.put, List.setIfInBounds_toArray, List.set_cons_zero, List.set_cons_succ]
        refine rg_take (i := 5) (some 30) (v := ?_) rfl rfl (by kernel_rfl) (by rfl) hQ7 hHeld ?_ ?_
        rotate_left
        · intro w7 hSw; (try dsimp only at hSw); go_simp; all_goals with_reducible rfl
        try simp only [Act.put, List.setIfInBounds_toArray, List.set_cons_zero, List.set_cons_succ]
        refine rg_one (i := 6) (by kernel_rfl) (rg_step rfl (by rfl) (fun K hK => ?_))
        go_simp
        refine (rfits_at (t := t) (c := x) true HF.out ((HT.out.ext HR.out).ext hHeld.1) (HXO.out.ext hHeld.1)).mono ?_
        rintro e u1 ⟨rfl, B1⟩
        go_wp2_with fail
        refine hK.out _ _ ?_ (fun hHeld2 => ?_)
        · exact SS.out _ (ext_trans hHeld.1 B1)
        clear hHeld
        have hHeld := hHeld2
        clear hHeld2
        clear hK K
        try simp only [Act.put, List.setIfInBounds_toArray, List.set_cons_zero, List.set_cons_succ]
        refine rg_take (i := 7) (some 32) (v := ?_) rfl rfl (by kernel_rfl) (by rfl) hQ7 hHeld ?_ ?_
        rotate_left
        · intro w7 hSw; (try dsimp only at hSw); go_simp; all_goals with_reducible rfl
        try simp only [Act.put, List.setIfInBounds_toArray, List.set_cons_zero, List.set_cons_succ]
        refine rg_take (i := 8) (some 33) (v := ?_) rfl rfl (by kernel_rfl) (by rfl) hQ7 hHeld ?_ ?_
        rotate_left
        · intro w7 hSw; (try dsimp only at hSw); go_simp; all_goals with_reducible rfl
        try simp only [Act.put, List.setIfInBounds_toArray, List.set_cons_zero, List.set_cons_succ]
        refine rg_take (i := 9) (some 34) (v := ?_) rfl rfl (by kernel_rfl) (by rfl) hQ7 hHeld ?_ ?_
        rotate_left
        · intro w7 hSw; (try dsimp only at hSw); go_simp; all_goals with_reducible rfl
        try simp only [Act.put, List.setIfInBounds_toArray, List.set_cons_zero, List.set_cons_succ]
        refine rg_take (i := 10) (some 35) (v := ?_) rfl rfl (by kernel_rfl) (by rfl) hQ7 hHeld ?_ ?_
        rotate_left
        · intro w7 hSw; (try dsimp only at hSw); go_simp; all_goals with_reducible rfl
        try simp only [Act.put, List.setIfInBounds_toArray, List.set_cons_zero, List.set_cons_succ]
        refine rg_take (i := 11) (some 36) (v := ?_) rfl rfl (by kernel_rfl) (by rfl) hQ7 hHeld ?_ ?_
        rotate_left
        · intro w7 hSw; (try dsimp only at hSw); go_simp; all_goals with_reducible rfl
        try simp only [Act.put, List.setIfInBounds_toArray, List.set_cons_zero, List.set_cons_succ]
        refine rg_skip (i := 12) (some 37) rfl rfl (by kernel_rfl) (by rfl) hQ7 hHeld ?_
        try simp only [Act.put, List.setIfInBounds_toArray, List.set_cons_zero, List.set_cons_succ]
        refine rg_skip (i := 13) (some 38) rfl rfl (by kernel_rfl) (by rfl) hQ7 hHeld ?_
        try simp only [Act.put, List.setIfInBounds_toArray, List.set_cons_zero, List.set_cons_succ]
        refine rg_skip (i := 14) (some 39) rfl rfl (by kernel_rfl) (by rfl) hQ7 hHeld ?_
        try simp only [Act.put, List.setIfInBounds_toArray, List.set_cons_zero, List.set_cons_succ]
        refine rg_skip (i := 15) (some 40) rfl rfl (by kernel_rfl) (by rfl) hQ7 hHeld ?_
        try simp only [Act.put, List.setIfInBounds_toArray, List.set_cons_zero, List.set_cons_succ]
        refine rg_skip (i := 16) (some 41) rfl rfl (by kernel_rfl) (by rfl) hQ7 hHeld ?_
        try simp only [Act.put, List.setIfInBounds_toArray, List.set_cons_zero, List.set_cons_succ]
        refine rg_skip (i := 17) (some 42) rfl rfl (by kernel_rfl) (by rfl) hQ7 hHeld ?_
        try simp only [Act.put, List.setIfInBounds_toArray, List.set_cons_zero, List.set_cons_succ]
        refine rg_skip (i := 18) (some 43) rfl rfl (by kernel_rfl) (by rfl) hQ7 hHeld ?_
        try simp only [Act.put, List.setIfInBounds_toArray, List.set_cons_zero, List.set_cons_succ]
        refine rg_skip (i := 19) (some 44) rfl rfl (by kernel_rfl) (by rfl) hQ7 hHeld ?_
        try simp only [Act.put, List.setIfInBounds_toArray, List.set_cons_zero, List.set_cons_succ]
        refine rg_skip (i := 20) (some 45) rfl rfl (by kernel_rfl) (by rfl) hQ7 hHeld ?_
        try simp only [Act.put, List.setIfInBounds_toArray, List.set_cons_zero, List.set_cons_succ]
        refine rg_skip (i := 21) (some 46) rfl rfl (by kernel_rfl) (by rfl) hQ7 hHeld ?_
        try simp only [Act.put, List.setIfInBounds_toArray, List.set_cons_zero, List.set_cons_succ]
        refine rg_skip (i := 22) (some 47) rfl rfl (by kernel_rfl) (by rfl) hQ7 hHeld ?_
        try simp only [Act.put, List.setIfInBounds_toArray, List.set_cons_zero, List.set_cons_succ]
        refine rg_skip (i := 23) (some 48) rfl rfl (by kernel_rfl) (by rfl) hQ7 hHeld ?_
        try simp only [Act.put, List.setIfInBounds_toArray, List.set_cons_zero, List.set_cons_succ]
        refine rg_skip (i := 24) (some 49) rfl rfl (by kernel_rfl) (by rfl) hQ7 hHeld ?_
        try simp only [Act.put, List.setIfInBounds_toArray, List.set_cons_zero, List.set_cons_succ]
        refine rg_skip (i := 25) (some 50) rfl rfl (by kernel_rfl) (by rfl) hQ7 hHeld ?_
        try simp only [Act.put, List.setIfInBounds_toArray, List.set_cons_zero, List.set_cons_succ]
        refine rg_take (i := 26) (some 51) (v := ?_) rfl rfl (by kernel_rfl) (by rfl) hQ7 hHeld ?_ ?_
        rotate_left
        · intro w7 hSw; (try dsimp only at hSw); go_simp; all_goals with_reducible rfl
        try simp only [Act.put, List.setIfInBounds_toArray, List.set_cons_zero, List.set_cons_succ]
        refine rg_take (i := 27) (some 52) (v := ?_) rfl rfl (by kernel_rfl) (by rfl) hQ7 hHeld ?_ ?_
        rotate_left
        · intro w7 hSw; (try dsimp only at hSw); go_simp; all_goals with_reducible rfl
        try simp only [Act.put, List.setIfInBounds_toArray, List.set_cons_zero, List.set_cons_succ]
        refine rg_end (by kernel_rfl) (hN7 _ _ ?_) _
        clear hQ7 hN7 Q7
        have BX := hHeld.1
        clear SS
        have HR1 := Lib.hid (ext_trans HR.out BX)
        clear BX d0 d1 d2 c0 bl bt
        go_wp2_with fail
        first | exact ⟨⟨0 + 1, by omega, by go_num, HU2.out, HR1.out⟩, by simp [intOf] <;> omega⟩ | (go_roundw; all_goals first | exact ⟨0 + 1, by omega, by go_num, HU2.out, HR1.out⟩ | (simp [intOf] <;> omega))
      · have hk2 : 0 < k := by omega
        have hw1 : IntKind.i64.wrap ((k : Int) - 1) = ((k - 1 : Nat) : Int) := by rw [IntWalk.i64_in _ (by omega)]; omega
        have hi1 : ((k - 1 : Nat) : Int) < l.length := by omega
        obtain ⟨y, q2, o2, hy, hA2, hb2, hcy⟩ := (HA.out.ext HR.out).at_ (k := k - 1) (by omega)
        cases hA2
        have HY := Lib.hid hy
        have f0 := hcy 0 _ rfl
        simp only [Nat.add_zero] at f0
        obtain ⟨s, hs⟩ : ∃ s, decide (y.f ≥ x.f) = s := ⟨_, rfl⟩
        have HG := Lib.hid hs
        clear hcy hy
        obtain ⟨k1, hkk⟩ : ∃ k1, k - 1 = k1 := ⟨_, rfl⟩
        rw [hkk] at hw1 hi1 f0 HY
        have HKK := Lib.hid hkk
        clear hkk
        have SS := Lib.hid (show ∀ w', Below wr.heap.size wr w' → (fun w' => Below wr.heap.size wr w' ∧ w'.cell? ⟨w.heap.size, 0, none⟩ = some (.int .i64 t.n) ∧ w'.cell? ⟨w.heap.size, 1, none⟩ = some (.slice t.ss.A t.ss.l.length t.ss.c) ∧ w'.cell? ⟨w.heap.size, 2, none⟩ = some (.slice t.cs.A t.cs.l.length t.cs.c) ∧ w'.cell? ⟨w.heap.size, 3, none⟩ = some (.slice t.ws.A t.ws.l.length t.ws.c) ∧ w'.cell? ⟨w.heap.size, 4, none⟩ = some (.slice t.ms.A t.ms.l.length t.ms.c) ∧ w'.cell? ⟨w.heap.size, 5, none⟩ = some (.slice t.ks.A t.ks.l.length t.ks.c) ∧ w'.cell? ⟨w.heap.size + 1, 0, none⟩ = some (.slice (some ⟨qa, oa, none⟩) l.length c) ∧ w'.cell? ⟨qa, oa + k * 3, none⟩ = some (.int .i64 x.f) ∧ w'.cell? ⟨qa, oa + k * 3 + 1, none⟩ = some (.int .i64 x.cfg) ∧ w'.cell? ⟨qa, oa + k * 3 + 2, none⟩ = some (.slice x.ms.A x.ms.l.length x.ms.c) ∧ w'.cell? ⟨qa, oa + k1 * 3, none⟩ = some (.int .i64 y.f)) w' from fun w' h => ⟨h, ((HB.out.ext HR.out).ext h).c 0 _ rfl, ((HB.out.ext HR.out).ext h).c 1 _ rfl, ((HB.out.ext HR.out).ext h).c 2 _ rfl, ((HB.out.ext HR.out).ext h).c 3 _ rfl, ((HB.out.ext HR.out).ext h).c 4 _ rfl, ((HB.out.ext HR.out).ext h).c 5 _ rfl, ((HC.out.ext HR.out).ext h).c 0 _ rfl, (h.cell (p := ⟨qa, oa + k * 3, none⟩) hb1).trans d0, (h.cell (p := ⟨qa, oa + k * 3 + 1, none⟩) hb1).trans d1, (h.cell (p := ⟨qa, oa + k * 3 + 2, none⟩) hb1).trans d2, (h.cell (p := ⟨qa, oa + k1 * 3, none⟩) hb1).trans f0⟩)
        refine rg_begin (S := (fun w' => Below wr.heap.size wr w' ∧ w'.cell? ⟨w.heap.size, 0, none⟩ = some (.int .i64 t.n) ∧ w'.cell? ⟨w.heap.size, 1, none⟩ = some (.slice t.ss.A t.ss.l.length t.ss.c) ∧ w'.cell? ⟨w.heap.size, 2, none⟩ = some (.slice t.cs.A t.cs.l.length t.cs.c) ∧ w'.cell? ⟨w.heap.size, 3, none⟩ = some (.slice t.ws.A t.ws.l.length t.ws.c) ∧ w'.cell? ⟨w.heap.size, 4, none⟩ = some (.slice t.ms.A t.ms.l.length t.ms.c) ∧ w'.cell? ⟨w.heap.size, 5, none⟩ = some (.slice t.ks.A t.ks.l.length t.ks.c) ∧ w'.cell? ⟨w.heap.size + 1, 0, none⟩ = some (.slice (some ⟨qa, oa, none⟩) l.length c) ∧ w'.cell? ⟨qa, oa + k * 3, none⟩ = some (.int .i64 x.f) ∧ w'.cell? ⟨qa, oa + k * 3 + 1, none⟩ = some (.int .i64 x.cfg) ∧ w'.cell? ⟨qa, oa + k * 3 + 2, none⟩ = some (.slice x.ms.A x.ms.l.length x.ms.c) ∧ w'.cell? ⟨qa, oa + k1 * 3, none⟩ = some (.int .i64 y.f))) 28 (by kernel_rfl) (by intro d; cases d <;> intro _ _ _ _ h <;> exact h) ?_ (fun Q7 hQ7 hN7 hHeld => ?_)
        · exact SS.out _ (ext_drew (ext_refl _))
        refine rg_take (i := 0) (some 25) (v := ?_) rfl rfl (by kernel_rfl) (by rfl) hQ7 hHeld ?_ ?_
        rotate_left
        · intro w7 hSw; (try dsimp only at hSw); go_simp; all_goals with_reducible rfl
        try simp only [Act.put, List.setIfInBounds_toArray, List.set_cons_zero, List.set_cons_succ]
        refine rg_take (i := 1) (some 26) (v := ?_) rfl rfl (by kernel_rfl) (by rfl) hQ7 hHeld ?_ ?_
        rotate_left
        · intro w7 hSw; (try dsimp only at hSw); go_simp; all_goals with_reducible rfl
        try simp only [Act.put, List.setIfInBounds_toArray, List.set_cons_zero, List.set_cons_succ]
        refine rg_take (i := 2) (some 27) (v := ?_) rfl rfl (by kernel_rfl) (by rfl) hQ7 hHeld ?_ ?_
        rotate_left
        · intro w7 hSw; (try dsimp only at hSw); go_simp; all_goals with_reducible rfl
        try simp only [Act.put, List.setIfInBounds_toArray, List.set_cons_zero, List.set_cons_succ]
        refine rg_take (i := 3) (some 28) (v := ?_) rfl rfl (by kernel_rfl) (by rfl) hQ7 hHeld ?_ ?_
        rotate_left
        · intro w7 hSw; (try dsimp only at hSw); go_simp; all_goals with_reducible rfl
        try simp only [Act.put, List.setIfInBounds_toArray, List.set_cons_zero, List.set_cons_succ]
        refine rg_take (i := 4) (some 29) (v := ?_) rfl rfl (by kernel_rfl) (by rfl) hQ7 hHeld ?_ ?_
        rotate_left
        · intro w7 hSw; (try dsimp only at hSw); go_simp; all_goals with_reducible rfl
        try simp only [Act.put, List.setIfInBounds_toArray, List.set_cons_zero, List.set_cons_succ]
        refine rg_take (i := 5) (some 30) (v := ?_) rfl rfl (by kernel_rfl) (by rfl) hQ7 hHeld ?_ ?_
        rotate_left
        · intro w7 hSw; (try dsimp only at hSw); go_simp; all_goals with_reducible rfl
        try simp only [Act.put, List.setIfInBounds_toArray, List.set_cons_zero, List.set_cons_succ]
        refine rg_one (i := 6) (by kernel_rfl) (rg_step rfl (by rfl) (fun K hK => ?_))
        go_simp
        refine (rfits_at (t := t) (c := x) true HF.out ((HT.out.ext HR.out).ext hHeld.1) (HXO.out.ext hHeld.1)).mono ?_
        rintro e u1 ⟨rfl, B1⟩
        go_wp2_with fail
        refine hK.out _ _ ?_ (fun hHeld2 => ?_)
        · exact SS.out _ (ext_trans hHeld.1 B1)
        clear hHeld
        have hHeld := hHeld2
        clear hHeld2
        clear hK K
        try simp only [Act.put, List.setIfInBounds_toArray, List.set_cons_zero, List.set_cons_succ]
        refine rg_take (i := 7) (some 32) (v := ?_) rfl rfl (by kernel_rfl) (by rfl) hQ7 hHeld ?_ ?_
        rotate_left
        · intro w7 hSw; (try dsimp only at hSw); go_simp; all_goals with_reducible rfl
        try simp only [Act.put, List.setIfInBounds_toArray, List.set_cons_zero, List.set_cons_succ]
        refine rg_take (i := 8) (some 33) (v := ?_) rfl rfl (by kernel_rfl) (by rfl) hQ7 hHeld ?_ ?_
        rotate_left
        · intro w7 hSw; (try dsimp only at hSw); go_simp; all_goals with_reducible rfl
        try simp only [Act.put, List.setIfInBounds_toArray, List.set_cons_zero, List.set_cons_succ]
        refine rg_take (i := 9) (some 34) (v := ?_) rfl rfl (by kernel_rfl) (by rfl) hQ7 hHeld ?_ ?_
        rotate_left
        · intro w7 hSw; (try dsimp only at hSw); go_simp; all_goals with_reducible rfl
        try simp only [Act.put, List.setIfInBounds_toArray, List.set_cons_zero, List.set_cons_succ]
        refine rg_take (i := 10) (some 35) (v := ?_) rfl rfl (by kernel_rfl) (by rfl) hQ7 hHeld ?_ ?_
        rotate_left
        · intro w7 hSw; (try dsimp only at hSw); go_simp; all_goals with_reducible rfl
        try simp only [Act.put, List.setIfInBounds_toArray, List.set_cons_zero, List.set_cons_succ]
        refine rg_take (i := 11) (some 36) (v := ?_) rfl rfl (by kernel_rfl) (by rfl) hQ7 hHeld ?_ ?_
        rotate_left
        · intro w7 hSw; (try dsimp only at hSw); go_simp; all_goals with_reducible rfl
        try simp only [Act.put, List.setIfInBounds_toArray, List.set_cons_zero, List.set_cons_succ]
        refine rg_take (i := 12) (some 37) (v := ?_) rfl rfl (by kernel_rfl) (by rfl) hQ7 hHeld ?_ ?_
        rotate_left
        · intro w7 hSw; (try dsimp only at hSw); go_simp; all_goals with_reducible rfl
        try simp only [Act.put, List.setIfInBounds_toArray, List.set_cons_zero, List.set_cons_succ]
        refine rg_take (i := 13) (some 38) (v := ?_) rfl rfl (by kernel_rfl) (by rfl) hQ7 hHeld ?_ ?_
        rotate_left
        · intro w7 hSw; (try dsimp only at hSw); go_simp; all_goals with_reducible rfl
        try simp only [Act.put, List.setIfInBounds_toArray, List.set_cons_zero, List.set_cons_succ]
        refine rg_take (i := 14) (some 39) (v := ?_) rfl rfl (by kernel_rfl) (by rfl) hQ7 hHeld ?_ ?_
        rotate_left
        · intro w7 hSw; (try dsimp only at hSw); go_simp; all_goals with_reducible rfl
        try simp only [Act.put, List.setIfInBounds_toArray, List.set_cons_zero, List.set_cons_succ]
        refine rg_take (i := 15) (some 40) (v := ?_) rfl rfl (by kernel_rfl) (by rfl) hQ7 hHeld ?_ ?_
        rotate_left
        · intro w7 hSw; (try dsimp only at hSw); go_simp; all_goals with_reducible rfl
        try simp only [Act.put, List.setIfInBounds_toArray, List.set_cons_zero, List.set_cons_succ]
        refine rg_take (i := 16) (some 41) (v := ?_) rfl rfl (by kernel_rfl) (by rfl) hQ7 hHeld ?_ ?_
        rotate_left
        · intro w7 hSw; (try dsimp only at hSw); go_simp; all_goals with_reducible rfl
        try simp only [Act.put, List.setIfInBounds_toArray, List.set_cons_zero, List.set_cons_succ]
        refine rg_take (i := 17) (some 42) (v := ?_) rfl rfl (by kernel_rfl) (by rfl) hQ7 hHeld ?_ ?_
        rotate_left
        · intro w7 hSw; (try dsimp only at hSw); go_simp; all_goals with_reducible rfl
        try simp only [Act.put, List.setIfInBounds_toArray, List.set_cons_zero, List.set_cons_succ]
        refine rg_take (i := 18) (some 43) (v := ?_) rfl rfl (by kernel_rfl) (by rfl) hQ7 hHeld ?_ ?_
        rotate_left
        · intro w7 hSw; (try dsimp only at hSw); go_simp; all_goals with_reducible rfl
        try simp only [Act.put, List.setIfInBounds_toArray, List.set_cons_zero, List.set_cons_succ]
        refine rg_take (i := 19) (some 44) (v := ?_) rfl rfl (by kernel_rfl) (by rfl) hQ7 hHeld ?_ ?_
        rotate_left
        · intro w7 hSw; (try dsimp only at hSw); go_simp; all_goals with_reducible rfl
        try simp only [Act.put, List.setIfInBounds_toArray, List.set_cons_zero, List.set_cons_succ]
        refine rg_take (i := 20) (some 45) (v := ?_) rfl rfl (by kernel_rfl) (by rfl) hQ7 hHeld ?_ ?_
        rotate_left
        · intro w7 hSw; (try dsimp only at hSw); go_simp; all_goals with_reducible rfl
        try simp only [Act.put, List.setIfInBounds_toArray, List.set_cons_zero, List.set_cons_succ]
        refine rg_take (i := 21) (some 46) (v := ?_) rfl rfl (by kernel_rfl) (by rfl) hQ7 hHeld ?_ ?_
        rotate_left
        · intro w7 hSw; (try dsimp only at hSw); go_simp; all_goals with_reducible rfl
        try simp only [Act.put, List.setIfInBounds_toArray, List.set_cons_zero, List.set_cons_succ]
        refine rg_take (i := 22) (some 47) (v := ?_) rfl rfl (by kernel_rfl) (by rfl) hQ7 hHeld ?_ ?_
        rotate_left
        · intro w7 hSw; (try dsimp only at hSw); go_simp; all_goals with_reducible rfl
        try simp only [Act.put, List.setIfInBounds_toArray, List.set_cons_zero, List.set_cons_succ]
        refine rg_take (i := 23) (some 48) (v := ?_) rfl rfl (by kernel_rfl) (by rfl) hQ7 hHeld ?_ ?_
        rotate_left
        · intro w7 hSw; (try dsimp only at hSw); go_simp; all_goals with_reducible rfl
        try simp only [Act.put, List.setIfInBounds_toArray, List.set_cons_zero, List.set_cons_succ]
        refine rg_take (i := 24) (some 49) (v := ?_) rfl rfl (by kernel_rfl) (by rfl) hQ7 hHeld ?_ ?_
        rotate_left
        · intro w7 hSw; (try dsimp only at hSw); go_simp; all_goals with_reducible rfl
        try simp only [Act.put, List.setIfInBounds_toArray, List.set_cons_zero, List.set_cons_succ]
        refine rg_take (i := 25) (some 50) (v := ?_) rfl rfl (by kernel_rfl) (by rfl) hQ7 hHeld ?_ ?_
        rotate_left
        · intro w7 hSw; (try dsimp only at hSw); go_simp; all_goals with_reducible rfl
        try simp only [Act.put, List.setIfInBounds_toArray, List.set_cons_zero, List.set_cons_succ]
        refine rg_take (i := 26) (some 51) (v := ?_) rfl rfl (by kernel_rfl) (by rfl) hQ7 hHeld ?_ ?_
        rotate_left
        · intro w7 hSw; (try dsimp only at hSw); go_simp; all_goals with_reducible rfl
        try simp only [Act.put, List.setIfInBounds_toArray, List.set_cons_zero, List.set_cons_succ]
        refine rg_take (i := 27) (some 52) (v := ?_) rfl rfl (by kernel_rfl) (by rfl) hQ7 hHeld ?_ ?_
        rotate_left
        · intro w7 hSw; (try dsimp only at hSw); go_simp; all_goals with_reducible rfl
        try simp only [Act.put, List.setIfInBounds_toArray, List.set_cons_zero, List.set_cons_succ]
        refine rg_end (by kernel_rfl) (hN7 _ _ ?_) _
        clear hQ7 hN7 Q7
        have BX := hHeld.1
        clear SS
        have HR1 := Lib.hid (ext_trans HR.out BX)
        clear BX f0 d0 d1 d2 c0 bl bt
        cases s
        · have HU2 : Hid (Upto t l (k + 1)) := HU.out.step HX.out HF.out (fun i z e hz => by
            have := HKK.out
            have : i = k1 := by omega
            subst this
            cases HY.out.symm.trans hz
            have := HG.out
            simp at this
            exact this)
          go_wp2_with fail
          first | exact ⟨⟨k + 1, by omega, by go_num, HU2.out, HR1.out⟩, by simp [intOf] <;> omega⟩ | (go_roundw; all_goals first | exact ⟨k + 1, by omega, by go_num, HU2.out, HR1.out⟩ | (simp [intOf] <;> omega))
        · have HV : Hid (vldS t l = false) := vld_false fun h => by
            have e1 := HKK.out
            have := vs_next h HY.out (show l[k1 + 1]? = some x by rw [show k1 + 1 = k by omega]; exact HX.out)
            have h2 := HG.out
            simp at h2
            omega
          go_wp2_with fail
          go_ret
          rw [HV.out]
          exact ⟨rfl, ext_trans HE.out HR1.out⟩
    · have hlt' : decide ((k : Int) < l.length) = false := decide_eq_false (by omega)
      have HV : Hid (vldS t l = true) := HU.out.all (by omega) HA0.out H2.out
      go_wp2_with fail
      go_ret
      rw [HV.out]
      exact ⟨rfl, ext_trans HE.out HR.out⟩
theorem rvalid_at {t : Tab} {A : Option Addr} {n c : Nat} {l : List Chg} {w : World} (r : Bool) (hr : vldS t l = r) (hn : n = l.length) (ht : Tab.ok w t) (ha : Slc w Chg.cells 3 A l) (hl : l.length ≤ maxLen) (hao : ∀ x ∈ l, Chg.ok w x) : Calls Tryz.prog 30 #[t.v, .agg #[.slice A n c]] w (RetB w r) := by
  subst hr hn; exact rvalid_s t A c l w ht ha hl hao
set_option maxHeartbeats 4000000 in
theorem rcheck_s (t : Tab) (A : Option Addr) (c : Nat) (l : List Chg) (w : World) (ht : Tab.ok w t) (ha : Slc w Chg.cells 3 A l) (hl : l.length ≤ maxLen) (hao : ∀ x ∈ l, Chg.ok w x) : Calls Tryz.prog 11 #[t.v, .agg #[.slice A l.length c]] w (RetE w (chkS t l)) := by
  obtain ⟨W, hW⟩ : ∃ W, (w.alloc (.cells #[.int .i64 t.n, .slice t.ss.A t.ss.l.length t.ss.c, .slice t.cs.A t.cs.l.length t.cs.c, .slice t.ws.A t.ws.l.length t.ws.c, .slice t.ms.A t.ms.l.length t.ms.c, .slice t.ks.A t.ks.l.length t.ks.c] 28)).alloc (.cells #[.slice A l.length c] 31) = W := ⟨_, rfl⟩
  have HB : Hid (Blk W w.heap.size t.cells) := by rw [← hW]; exact (Blk.newH w t.cells 28 w.heap.size rfl).alloc _
  have HC : Hid (Blk W (w.heap.size + 1) [.slice A l.length c]) := by rw [← hW]; exact Blk.newH (w.alloc _) [.slice A l.length c] 31 (w.heap.size + 1) (by simp)
  have HE : Hid (Below w.heap.size w W) := by rw [← hW]; exact ext_alloc (ext_alloc (ext_refl w) _) _
  have HT := Lib.hid (ht.ext HE.out)
  have HA := Lib.hid (ha.ext HE.out)
  have HAO : Hid (∀ x ∈ l, Chg.ok W x) := fun x hx => (hao x hx).ext HE.out
  have HD : Hid (chkS t l = if chkT t ≠ 0 then chkT t else if vldS t l then 0 else 190) := rfl
  clear ht ha hao
  have b0 := HB.out.c 0 _ rfl
  have b1 := HB.out.c 1 _ rfl
  have b2 := HB.out.c 2 _ rfl
  have b3 := HB.out.c 3 _ rfl
  have b4 := HB.out.c 4 _ rfl
  have b5 := HB.out.c 5 _ rfl
  have bl := HC.out.lt
  go_enter Tryz.func11, Tryz.ntmps11
  go_wp2_with fail
  clear hW b0 b1 b2 b3 b4 b5 bl
  obtain ⟨v, hv⟩ : ∃ v, chkT t = v := ⟨_, rfl⟩
  rw [hv] at HD
  refine (rchk_at v hv HT.out).mono ?_
  rintro e w1 ⟨rfl, B⟩
  by_cases h1 : v = 0
  rotate_left
  · have e1 : (v != 0) = true := by simpa using h1
    rw [if_pos h1] at HD
    clear h1 hv
    go_wp2_with fail
    go_ret
    rw [HD.out]
    exact ⟨rfl, ext_trans HE.out B⟩
  subst h1
  rw [if_neg (by simp)] at HD
  clear hv
  have b0 := (HB.out.ext B).c 0 _ rfl
  have b1 := (HB.out.ext B).c 1 _ rfl
  have b2 := (HB.out.ext B).c 2 _ rfl
  have b3 := (HB.out.ext B).c 3 _ rfl
  have b4 := (HB.out.ext B).c 4 _ rfl
  have b5 := (HB.out.ext B).c 5 _ rfl
  have c0 := (HC.out.ext B).c 0 _ rfl
  have bl := (HC.out.ext B).lt
  go_wp2_with fail
  cases hr : vldS t l
  · refine (rvalid_at false hr rfl (HT.out.ext B) (HA.out.ext B) hl (fun x hx => (HAO.out x hx).ext B)).mono ?_
    rintro e w2 ⟨rfl, B2⟩
    rw [hr] at HD
    go_wp2_with fail
    go_ret
    rw [HD.out]
    exact ⟨rfl, ext_trans HE.out (ext_trans B B2)⟩
  · refine (rvalid_at true hr rfl (HT.out.ext B) (HA.out.ext B) hl (fun x hx => (HAO.out x hx).ext B)).mono ?_
    rintro e w2 ⟨rfl, B2⟩
    rw [hr] at HD
    go_wp2_with fail
    go_ret
    rw [HD.out]
    exact ⟨rfl, ext_trans HE.out (ext_trans B B2)⟩
theorem rcheck_sat {t : Tab} {A : Option Addr} {n c : Nat} {l : List Chg} {w : World} (r : Int) (hr : chkS t l = r) (hn : n = l.length) (ht : Tab.ok w t) (ha : Slc w Chg.cells 3 A l) (hl : l.length ≤ maxLen) (hao : ∀ x ∈ l, Chg.ok w x) : Calls Tryz.prog 11 #[t.v, .agg #[.slice A n c]] w (RetE w r) := by
  subst hr hn; exact rcheck_s t A c l w ht ha hl hao
end Go.Proofs.YtilocjliplmmpaaGreat
