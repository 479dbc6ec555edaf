/- Contracts: a place in a sorted list of credits. -/
import Derived.Test.YtafglcalimcdcaaC
set_option linter.unusedSimpArgs false
set_option linter.unusedVariables false
namespace Go.Proofs.Ytafglcalimcdcaa
open Go.RowKit
def bsR (l : List Cr) (a : Cr) (w : World) (e : Ending) (w' : World) : Prop := ∃ (k : Nat) (r : Bool), e = .returned (.tuple #[.int .i64 k, .bool r]) ∧ CutAt (fun x => bef x a) l k ∧ (r = true ↔ ∃ x, l[k]? = some x ∧ bef a x = false) ∧ Below w.heap.size w w'
set_option maxHeartbeats 1600000 in
theorem bsearch_any (a : Cr) (A : Option Addr) (c : Nat) (l : List Cr) (w : World) (ha : Slc w Cr.cells 3 A l) (hn : l.length ≤ 1048576) (hl : OkC l) :
    Calls Try.prog 19 #[.slice A l.length c, a.v, .func (.func 20) #[] #[]] w (bsR l a w) := by
  have HL := Lib.hid hl
  have X := Lib.hid (Blk.new w [.int .i64 a.a, .int .i64 a.m, .int .i64 a.u] 24)
  have E := Lib.hid (ext_alloc (ext_refl w) (.cells #[.int .i64 a.a, .int .i64 a.m, .int .i64 a.u] 24))
  clear hl
  go_enter Try.func19, Try.ntmps19
  go_wp2_with fail
  go_loopw [9, 10] (fun i j wr => ∃ p q : Nat, p ≤ q ∧ q ≤ l.length ∧ i = .int .i64 p ∧ j = .int .i64 q ∧ Hid (∀ z x, z < p → l[z]? = some x → bef x a = true) ∧ Hid (∀ z x, q ≤ z → l[z]? = some x → bef x a = false) ∧ Hid (Blk wr w.heap.size [.int .i64 a.a, .int .i64 a.m, .int .i64 a.u]) ∧ Hid (Below w.heap.size w wr)) (fun i j _ => ((intOf j) - (intOf i)).toNat)
  case atStart => exact ⟨0, l.length, Nat.zero_le _, Nat.le_refl _, rfl, rfl, (fun z x h => by omega), (fun z x h hx => by have := (List.getElem?_eq_some_iff.1 hx).1; omega), X.out, E.out⟩
  clear X E
  case round =>
    obtain ⟨p, q, hpq, hql, rfl, rfl, HP, HQ, X, E⟩ := hrel
    by_cases hlt : p < q
    · obtain ⟨m, hm⟩ : ∃ m, (p + q) / 2 = m := ⟨_, rfl⟩
      have hm1 : p ≤ m ∧ m < q := by omega
      obtain ⟨hm1, hm2⟩ := hm1
      have HM := Lib.hid (show ((p : Int) + q) / 2 = (m : Int) by omega)
      have hlt' : (p : Int) < q := by omega
      obtain ⟨x, b1, o1, hx, rfl, hb1, hc⟩ := (ha.ext E.out).at_ (k := m) (by omega)
      have c0 := hc 0 _ rfl
      have c1 := hc 1 _ rfl
      have c2 := hc 2 _ rfl
      simp only [Nat.add_zero] at c0
      have HX := Lib.hid hx
      have hml : (m : Int) < l.length := by omega
      obtain ⟨cv, hcv⟩ : ∃ v, cmpC x a = v := ⟨_, rfl⟩
      have HCV := Lib.hid hcv
      clear hc hx
      clear hm
      have hcb := cmpC_neg x a
      rw [hcv] at hcb
      clear hcv
      by_cases hxa : bef x a = true
      · have hz : decide (cv < 0) = true := by simp; exact hcb.2 hxa
        have HXA := Lib.hid hxa
        clear hxa hcb
        go_wp2_with fail
        rw [HM.out]
        have SS := Lib.hid (show ∀ w', Below wr.heap.size wr w' → (fun w' => Below wr.heap.size wr w' ∧ w'.cell? ⟨w.heap.size, 0, none⟩ = some (.int .i64 a.a) ∧ w'.cell? ⟨w.heap.size, 1, none⟩ = some (.int .i64 a.m) ∧ w'.cell? ⟨w.heap.size, 2, none⟩ = some (.int .i64 a.u) ∧ w'.cell? ⟨b1, o1 + m * 3, none⟩ = some (.int .i64 x.a) ∧ w'.cell? ⟨b1, o1 + m * 3 + 1, none⟩ = some (.int .i64 x.m) ∧ w'.cell? ⟨b1, o1 + m * 3 + 2, none⟩ = some (.int .i64 x.u)) w' from fun w' h => ⟨h, (X.out.ext h).c 0 _ rfl, (X.out.ext h).c 1 _ rfl, (X.out.ext h).c 2 _ rfl, (h.cell (p := ⟨b1, o1 + m * 3, none⟩) hb1).trans c0, (h.cell (p := ⟨b1, o1 + m * 3 + 1, none⟩) hb1).trans c1, (h.cell (p := ⟨b1, o1 + m * 3 + 2, none⟩) hb1).trans c2⟩)
        refine rg_begin (S := (fun w' => Below wr.heap.size wr w' ∧ w'.cell? ⟨w.heap.size, 0, none⟩ = some (.int .i64 a.a) ∧ w'.cell? ⟨w.heap.size, 1, none⟩ = some (.int .i64 a.m) ∧ w'.cell? ⟨w.heap.size, 2, none⟩ = some (.int .i64 a.u) ∧ w'.cell? ⟨b1, o1 + m * 3, none⟩ = some (.int .i64 x.a) ∧ w'.cell? ⟨b1, o1 + m * 3 + 1, none⟩ = some (.int .i64 x.m) ∧ w'.cell? ⟨b1, o1 + m * 3 + 2, none⟩ = some (.int .i64 x.u))) 8 (by kernel_rfl) (by intro d; cases d <;> intro _ _ _ _ h <;> exact h) ?_ (fun Q7 hQ7 hN7 hHeld => ?_)
        · exact SS.out _ (ext_drew (ext_refl _))
        refine rg_take (i := 0) (some 24) (v := ?_) rfl rfl (by kernel_rfl) (by rfl) hQ7 hHeld ?_ ?_
        rotate_left
        · intro w7 hSw; (try dsimp only at hSw); go_simp; all_goals with_reducible rfl
        try simp only [Act.put, List.setIfInBounds_toArray, List.set_cons_zero, List.set_cons_succ]
        refine rg_take (i := 1) (some 25) (v := ?_) rfl rfl (by kernel_rfl) (by rfl) hQ7 hHeld ?_ ?_
        rotate_left
        · intro w7 hSw; (try dsimp only at hSw); go_simp; all_goals with_reducible rfl
        try simp only [Act.put, List.setIfInBounds_toArray, List.set_cons_zero, List.set_cons_succ]
        refine rg_take (i := 2) (some 26) (v := ?_) rfl rfl (by kernel_rfl) (by rfl) hQ7 hHeld ?_ ?_
        rotate_left
        · intro w7 hSw; (try dsimp only at hSw); go_simp; all_goals with_reducible rfl
        try simp only [Act.put, List.setIfInBounds_toArray, List.set_cons_zero, List.set_cons_succ]
        refine rg_take (i := 3) (some 27) (v := ?_) rfl rfl (by kernel_rfl) (by rfl) hQ7 hHeld ?_ ?_
        rotate_left
        · intro w7 hSw; (try dsimp only at hSw); go_simp; all_goals with_reducible rfl
        try simp only [Act.put, List.setIfInBounds_toArray, List.set_cons_zero, List.set_cons_succ]
        refine rg_take (i := 4) (some 28) (v := ?_) rfl rfl (by kernel_rfl) (by rfl) hQ7 hHeld ?_ ?_
        rotate_left
        · intro w7 hSw; (try dsimp only at hSw); go_simp; all_goals with_reducible rfl
        try simp only [Act.put, List.setIfInBounds_toArray, List.set_cons_zero, List.set_cons_succ]
        refine rg_take (i := 5) (some 29) (v := ?_) rfl rfl (by kernel_rfl) (by rfl) hQ7 hHeld ?_ ?_
        rotate_left
        · intro w7 hSw; (try dsimp only at hSw); go_simp; all_goals with_reducible rfl
        try simp only [Act.put, List.setIfInBounds_toArray, List.set_cons_zero, List.set_cons_succ]
        refine rg_one (i := 6) (by kernel_rfl) (rg_step rfl (by rfl) (fun K hK => ?_))
        go_simp
        refine (compare_at (x := x) (y := a) cv HCV.out).mono ?_
        rintro e w1 ⟨rfl, B1⟩
        go_wp2_with fail
        refine hK.out _ _ ?_ (fun hHeld2 => ?_)
        · exact SS.out _ (ext_trans hHeld.1 B1)
        clear hHeld
        have hHeld := hHeld2
        clear hHeld2
        clear hK K
        try simp only [Act.put, List.setIfInBounds_toArray, List.set_cons_zero, List.set_cons_succ]
        refine rg_take (i := 7) (some 31) (v := ?_) rfl rfl (by kernel_rfl) (by rfl) hQ7 hHeld ?_ ?_
        rotate_left
        · intro w7 hSw; (try dsimp only at hSw); go_simp; all_goals with_reducible rfl
        try simp only [Act.put, List.setIfInBounds_toArray, List.set_cons_zero, List.set_cons_succ]
        refine rg_end (by kernel_rfl) (hN7 _ _ ?_) _
        clear hQ7 hN7 Q7
        have BX := hHeld.1
        clear SS
        replace X := Lib.hid (X.out.ext BX)
        replace E := Lib.hid (ext_trans E.out BX)
        clear BX
        go_wp2_with fail
        go_roundw
        case rel => exact ⟨m + 1, q, by omega, hql, by go_num, rfl, (fun z y hz hy => by
          by_cases h : z = m
          · subst h; rw [HX.out] at hy; cases hy; exact HXA.out
          · exact bef_trans (mono_of HL.out (show z < m by omega) hy HX.out) HXA.out), HQ, X, E⟩
        case measure => simp [intOf]; omega
      · have hz : decide (cv < 0) = false := by simp; rw [← Int.not_lt]; exact fun h => hxa (hcb.1 h)
        have HXA := Lib.hid (show bef x a = false by simpa using hxa)
        clear hxa hcb
        go_wp2_with fail
        rw [HM.out]
        have SS := Lib.hid (show ∀ w', Below wr.heap.size wr w' → (fun w' => Below wr.heap.size wr w' ∧ w'.cell? ⟨w.heap.size, 0, none⟩ = some (.int .i64 a.a) ∧ w'.cell? ⟨w.heap.size, 1, none⟩ = some (.int .i64 a.m) ∧ w'.cell? ⟨w.heap.size, 2, none⟩ = some (.int .i64 a.u) ∧ w'.cell? ⟨b1, o1 + m * 3, none⟩ = some (.int .i64 x.a) ∧ w'.cell? ⟨b1, o1 + m * 3 + 1, none⟩ = some (.int .i64 x.m) ∧ w'.cell? ⟨b1, o1 + m * 3 + 2, none⟩ = some (.int .i64 x.u)) w' from fun w' h => ⟨h, (X.out.ext h).c 0 _ rfl, (X.out.ext h).c 1 _ rfl, (X.out.ext h).c 2 _ rfl, (h.cell (p := ⟨b1, o1 + m * 3, none⟩) hb1).trans c0, (h.cell (p := ⟨b1, o1 + m * 3 + 1, none⟩) hb1).trans c1, (h.cell (p := ⟨b1, o1 + m * 3 + 2, none⟩) hb1).trans c2⟩)
        refine rg_begin (S := (fun w' => Below wr.heap.size wr w' ∧ w'.cell? ⟨w.heap.size, 0, none⟩ = some (.int .i64 a.a) ∧ w'.cell? ⟨w.heap.size, 1, none⟩ = some (.int .i64 a.m) ∧ w'.cell? ⟨w.heap.size, 2, none⟩ = some (.int .i64 a.u) ∧ w'.cell? ⟨b1, o1 + m * 3, none⟩ = some (.int .i64 x.a) ∧ w'.cell? ⟨b1, o1 + m * 3 + 1, none⟩ = some (.int .i64 x.m) ∧ w'.cell? ⟨b1, o1 + m * 3 + 2, none⟩ = some (.int .i64 x.u))) 8 (by kernel_rfl) (by intro d; cases d <;> intro _ _ _ _ h <;> exact h) ?_ (fun Q7 hQ7 hN7 hHeld => ?_)
        · exact SS.out _ (ext_drew (ext_refl _))
        refine rg_take (i := 0) (some 24) (v := ?_) rfl rfl (by kernel_rfl) (by rfl) hQ7 hHeld ?_ ?_
        rotate_left
        · intro w7 hSw; (try dsimp only at hSw); go_simp; all_goals with_reducible rfl
        try simp only [Act.put, List.setIfInBounds_toArray, List.set_cons_zero, List.set_cons_succ]
        refine rg_take (i := 1) (some 25) (v := ?_) rfl rfl (by kernel_rfl) (by rfl) hQ7 hHeld ?_ ?_
        rotate_left
        · intro w7 hSw; (try dsimp only at hSw); go_simp; all_goals with_reducible rfl
        try simp only [Act.put, List.setIfInBounds_toArray, List.set_cons_zero, List.set_cons_succ]
        refine rg_take (i := 2) (some 26) (v := ?_) rfl rfl (by kernel_rfl) (by rfl) hQ7 hHeld ?_ ?_
        rotate_left
        · intro w7 hSw; (try dsimp only at hSw); go_simp; all_goals with_reducible rfl
        try simp only [Act.put, List.setIfInBounds_toArray, List.set_cons_zero, List.set_cons_succ]
        refine rg_take (i := 3) (some 27) (v := ?_) rfl rfl (by kernel_rfl) (by rfl) hQ7 hHeld ?_ ?_
        rotate_left
        · intro w7 hSw; (try dsimp only at hSw); go_simp; all_goals with_reducible rfl
        try simp only [Act.put, List.setIfInBounds_toArray, List.set_cons_zero, List.set_cons_succ]
        refine rg_take (i := 4) (some 28) (v := ?_) rfl rfl (by kernel_rfl) (by rfl) hQ7 hHeld ?_ ?_
        rotate_left
        · intro w7 hSw; (try dsimp only at hSw); go_simp; all_goals with_reducible rfl
        try simp only [Act.put, List.setIfInBounds_toArray, List.set_cons_zero, List.set_cons_succ]
        refine rg_take (i := 5) (some 29) (v := ?_) rfl rfl (by kernel_rfl) (by rfl) hQ7 hHeld ?_ ?_
        rotate_left
        · intro w7 hSw; (try dsimp only at hSw); go_simp; all_goals with_reducible rfl
        try simp only [Act.put, List.setIfInBounds_toArray, List.set_cons_zero, List.set_cons_succ]
        refine rg_one (i := 6) (by kernel_rfl) (rg_step rfl (by rfl) (fun K hK => ?_))
        go_simp
        refine (compare_at (x := x) (y := a) cv HCV.out).mono ?_
        rintro e w1 ⟨rfl, B1⟩
        go_wp2_with fail
        refine hK.out _ _ ?_ (fun hHeld2 => ?_)
        · exact SS.out _ (ext_trans hHeld.1 B1)
        clear hHeld
        have hHeld := hHeld2
        clear hHeld2
        clear hK K
        try simp only [Act.put, List.setIfInBounds_toArray, List.set_cons_zero, List.set_cons_succ]
        refine rg_take (i := 7) (some 31) (v := ?_) rfl rfl (by kernel_rfl) (by rfl) hQ7 hHeld ?_ ?_
        rotate_left
        · intro w7 hSw; (try dsimp only at hSw); go_simp; all_goals with_reducible rfl
        try simp only [Act.put, List.setIfInBounds_toArray, List.set_cons_zero, List.set_cons_succ]
        refine rg_end (by kernel_rfl) (hN7 _ _ ?_) _
        clear hQ7 hN7 Q7
        have BX := hHeld.1
        clear SS
        replace X := Lib.hid (X.out.ext BX)
        replace E := Lib.hid (ext_trans E.out BX)
        clear BX
        go_wp2_with fail
        go_roundw
        case rel => exact ⟨p, m, by omega, by omega, rfl, rfl, HP, (fun z y hz hy => by
          by_cases h : z = m
          · subst h; rw [HX.out] at hy; cases hy; exact HXA.out
          · have h1 := mono_of HL.out (show m < z by omega) HX.out hy
            have h2 := HXA.out
            cases h3 : bef y a with
            | false => rfl
            | true => rw [bef_trans h1 h3] at h2; cases h2), X, E⟩
        case measure => simp [intOf]; omega
    · obtain rfl : p = q := by omega
      have hlt' : ¬ (p : Int) < p := by omega
      have HC := Lib.hid (show CutAt (fun x => bef x a) l p from ⟨hql, HP.out, HQ.out⟩)
      clear hlt
      by_cases hpl : p < l.length
      · obtain ⟨x, b1, o1, hx, rfl, hb1, hc⟩ := (ha.ext E.out).at_ (k := p) (by omega)
        have c0 := hc 0 _ rfl
        have c1 := hc 1 _ rfl
        have c2 := hc 2 _ rfl
        simp only [Nat.add_zero] at c0
        have HX := Lib.hid hx
        have hml : (p : Int) < l.length := by omega
        obtain ⟨cv, hcv⟩ : ∃ v, cmpC x a = v := ⟨_, rfl⟩
        have HCV := Lib.hid hcv
        clear hc hx
        go_wp2_with fail
        have SS := Lib.hid (show ∀ w', Below wr.heap.size wr w' → (fun w' => Below wr.heap.size wr w' ∧ w'.cell? ⟨w.heap.size, 0, none⟩ = some (.int .i64 a.a) ∧ w'.cell? ⟨w.heap.size, 1, none⟩ = some (.int .i64 a.m) ∧ w'.cell? ⟨w.heap.size, 2, none⟩ = some (.int .i64 a.u) ∧ w'.cell? ⟨b1, o1 + p * 3, none⟩ = some (.int .i64 x.a) ∧ w'.cell? ⟨b1, o1 + p * 3 + 1, none⟩ = some (.int .i64 x.m) ∧ w'.cell? ⟨b1, o1 + p * 3 + 2, none⟩ = some (.int .i64 x.u)) w' from fun w' h => ⟨h, (X.out.ext h).c 0 _ rfl, (X.out.ext h).c 1 _ rfl, (X.out.ext h).c 2 _ rfl, (h.cell (p := ⟨b1, o1 + p * 3, none⟩) hb1).trans c0, (h.cell (p := ⟨b1, o1 + p * 3 + 1, none⟩) hb1).trans c1, (h.cell (p := ⟨b1, o1 + p * 3 + 2, none⟩) hb1).trans c2⟩)
        refine rg_begin (S := (fun w' => Below wr.heap.size wr w' ∧ w'.cell? ⟨w.heap.size, 0, none⟩ = some (.int .i64 a.a) ∧ w'.cell? ⟨w.heap.size, 1, none⟩ = some (.int .i64 a.m) ∧ w'.cell? ⟨w.heap.size, 2, none⟩ = some (.int .i64 a.u) ∧ w'.cell? ⟨b1, o1 + p * 3, none⟩ = some (.int .i64 x.a) ∧ w'.cell? ⟨b1, o1 + p * 3 + 1, none⟩ = some (.int .i64 x.m) ∧ w'.cell? ⟨b1, o1 + p * 3 + 2, none⟩ = some (.int .i64 x.u))) 16 (by kernel_rfl) (by intro d; cases d <;> intro _ _ _ _ h <;> exact h) ?_ (fun Q7 hQ7 hN7 hHeld => ?_)
        · exact SS.out _ (ext_drew (ext_refl _))
        refine rg_take (i := 0) (some 35) (v := ?_) rfl rfl (by kernel_rfl) (by rfl) hQ7 hHeld ?_ ?_
        rotate_left
        · intro w7 hSw; (try dsimp only at hSw); go_simp; all_goals with_reducible rfl
        try simp only [Act.put, List.setIfInBounds_toArray, List.set_cons_zero, List.set_cons_succ]
        refine rg_take (i := 1) (some 36) (v := ?_) rfl rfl (by kernel_rfl) (by rfl) hQ7 hHeld ?_ ?_
        rotate_left
        · intro w7 hSw; (try dsimp only at hSw); go_simp; all_goals with_reducible rfl
        try simp only [Act.put, List.setIfInBounds_toArray, List.set_cons_zero, List.set_cons_succ]
        refine rg_take (i := 2) (some 37) (v := ?_) rfl rfl (by kernel_rfl) (by rfl) hQ7 hHeld ?_ ?_
        rotate_left
        · intro w7 hSw; (try dsimp only at hSw); go_simp; all_goals with_reducible rfl
        try simp only [Act.put, List.setIfInBounds_toArray, List.set_cons_zero, List.set_cons_succ]
        refine rg_take (i := 3) (some 38) (v := ?_) rfl rfl (by kernel_rfl) (by rfl) hQ7 hHeld ?_ ?_
        rotate_left
        · intro w7 hSw; (try dsimp only at hSw); go_simp; all_goals with_reducible rfl
        try simp only [Act.put, List.setIfInBounds_toArray, List.set_cons_zero, List.set_cons_succ]
        refine rg_take (i := 4) (some 39) (v := ?_) rfl rfl (by kernel_rfl) (by rfl) hQ7 hHeld ?_ ?_
        rotate_left
        · intro w7 hSw; (try dsimp only at hSw); go_simp; all_goals with_reducible rfl
        try simp only [Act.put, List.setIfInBounds_toArray, List.set_cons_zero, List.set_cons_succ]
        refine rg_take (i := 5) (some 40) (v := ?_) rfl rfl (by kernel_rfl) (by rfl) hQ7 hHeld ?_ ?_
        rotate_left
        · intro w7 hSw; (try dsimp only at hSw); go_simp; all_goals with_reducible rfl
        try simp only [Act.put, List.setIfInBounds_toArray, List.set_cons_zero, List.set_cons_succ]
        refine rg_take (i := 6) (some 41) (v := ?_) rfl rfl (by kernel_rfl) (by rfl) hQ7 hHeld ?_ ?_
        rotate_left
        · intro w7 hSw; (try dsimp only at hSw); go_simp; all_goals with_reducible rfl
        try simp only [Act.put, List.setIfInBounds_toArray, List.set_cons_zero, List.set_cons_succ]
        refine rg_take (i := 7) (some 42) (v := ?_) rfl rfl (by kernel_rfl) (by rfl) hQ7 hHeld ?_ ?_
        rotate_left
        · intro w7 hSw; (try dsimp only at hSw); go_simp; all_goals with_reducible rfl
        try simp only [Act.put, List.setIfInBounds_toArray, List.set_cons_zero, List.set_cons_succ]
        refine rg_take (i := 8) (some 43) (v := ?_) rfl rfl (by kernel_rfl) (by rfl) hQ7 hHeld ?_ ?_
        rotate_left
        · intro w7 hSw; (try dsimp only at hSw); go_simp; all_goals with_reducible rfl
        try simp only [Act.put, List.setIfInBounds_toArray, List.set_cons_zero, List.set_cons_succ]
        refine rg_take (i := 9) (some 44) (v := ?_) rfl rfl (by kernel_rfl) (by rfl) hQ7 hHeld ?_ ?_
        rotate_left
        · intro w7 hSw; (try dsimp only at hSw); go_simp; all_goals with_reducible rfl
        try simp only [Act.put, List.setIfInBounds_toArray, List.set_cons_zero, List.set_cons_succ]
        refine rg_take (i := 10) (some 45) (v := ?_) rfl rfl (by kernel_rfl) (by rfl) hQ7 hHeld ?_ ?_
        rotate_left
        · intro w7 hSw; (try dsimp only at hSw); go_simp; all_goals with_reducible rfl
        try simp only [Act.put, List.setIfInBounds_toArray, List.set_cons_zero, List.set_cons_succ]
        refine rg_one (i := 11) (by kernel_rfl) (rg_step rfl (by rfl) (fun K hK => ?_))
        go_simp
        refine (compare_at (x := x) (y := a) cv HCV.out).mono ?_
        rintro e w1 ⟨rfl, B1⟩
        go_wp2_with fail
        refine hK.out _ _ ?_ (fun hHeld2 => ?_)
        · exact SS.out _ (ext_trans hHeld.1 B1)
        clear hHeld
        have hHeld := hHeld2
        clear hHeld2
        clear hK K
        try simp only [Act.put, List.setIfInBounds_toArray, List.set_cons_zero, List.set_cons_succ]
        refine rg_take (i := 12) (some 47) (v := ?_) rfl rfl (by kernel_rfl) (by rfl) hQ7 hHeld ?_ ?_
        rotate_left
        · intro w7 hSw; (try dsimp only at hSw); go_simp; all_goals with_reducible rfl
        try simp only [Act.put, List.setIfInBounds_toArray, List.set_cons_zero, List.set_cons_succ]
        refine rg_take (i := 13) (some 48) (v := ?_) rfl rfl (by kernel_rfl) (by rfl) hQ7 hHeld ?_ ?_
        rotate_left
        · intro w7 hSw; (try dsimp only at hSw); go_simp; all_goals with_reducible rfl
        try simp only [Act.put, List.setIfInBounds_toArray, List.set_cons_zero, List.set_cons_succ]
        refine rg_take (i := 14) (some 6) (v := ?_) rfl rfl (by kernel_rfl) (by rfl) hQ7 hHeld ?_ ?_
        rotate_left
        · intro w7 hSw; (try dsimp only at hSw); go_simp; all_goals with_reducible rfl
        try simp only [Act.put, List.setIfInBounds_toArray, List.set_cons_zero, List.set_cons_succ]
        refine rg_take (i := 15) (some 7) (v := ?_) rfl rfl (by kernel_rfl) (by rfl) hQ7 hHeld ?_ ?_
        rotate_left
        · intro w7 hSw; (try dsimp only at hSw); go_simp; all_goals with_reducible rfl
        try simp only [Act.put, List.setIfInBounds_toArray, List.set_cons_zero, List.set_cons_succ]
        refine rg_end (by kernel_rfl) (hN7 _ _ ?_) _
        clear hQ7 hN7 Q7
        have BX := hHeld.1
        clear SS
        replace X := Lib.hid (X.out.ext BX)
        replace E := Lib.hid (ext_trans E.out BX)
        clear BX
        go_wp2_with fail
        refine bodyPost_ret (v := .tuple #[.int .i64 p, .bool (cv == 0)]) (by simp [results, Try.results19, go_sem, *]) rfl ?_
        refine ⟨p, _, rfl, HC.out, ?_, E.out⟩
        have h0 : bef x a = false := HC.out.2.2 p x (Nat.le_refl _) HX.out
        have h1 := cmpC_zero x a
        rw [HCV.out] at h1
        constructor
        · intro h
          have h2 := h1.1 (by simpa using h)
          exact ⟨x, HX.out, by rw [bef_false]; omega⟩
        · rintro ⟨x', hx', hb⟩
          rw [HX.out] at hx'
          obtain rfl := Option.some.inj hx'
          simpa using h1.2 (bef_same h0 hb)
      · have hml : ¬ (p : Int) < l.length := by omega
        go_wp2_with fail
        have SS := Lib.hid (show ∀ w', Below wr.heap.size wr w' → (fun w' => Below wr.heap.size wr w') w' from fun w' h => h)
        refine rg_begin (S := (fun w' => Below wr.heap.size wr w')) 16 (by kernel_rfl) (by intro d; cases d <;> intro _ _ _ _ h <;> exact h) ?_ (fun Q7 hQ7 hN7 hHeld => ?_)
        · exact SS.out _ (ext_drew (ext_refl _))
        refine rg_take (i := 0) (some 35) (v := ?_) rfl rfl (by kernel_rfl) (by rfl) hQ7 hHeld ?_ ?_
        rotate_left
        · intro w7 hSw; (try dsimp only at hSw); go_simp; all_goals with_reducible rfl
        try simp only [Act.put, List.setIfInBounds_toArray, List.set_cons_zero, List.set_cons_succ]
        refine rg_take (i := 1) (some 36) (v := ?_) rfl rfl (by kernel_rfl) (by rfl) hQ7 hHeld ?_ ?_
        rotate_left
        · intro w7 hSw; (try dsimp only at hSw); go_simp; all_goals with_reducible rfl
        try simp only [Act.put, List.setIfInBounds_toArray, List.set_cons_zero, List.set_cons_succ]
        refine rg_take (i := 2) (some 37) (v := ?_) rfl rfl (by kernel_rfl) (by rfl) hQ7 hHeld ?_ ?_
        rotate_left
        · intro w7 hSw; (try dsimp only at hSw); go_simp; all_goals with_reducible rfl
        try simp only [Act.put, List.setIfInBounds_toArray, List.set_cons_zero, List.set_cons_succ]
        refine rg_take (i := 3) (some 38) (v := ?_) rfl rfl (by kernel_rfl) (by rfl) hQ7 hHeld ?_ ?_
        rotate_left
        · intro w7 hSw; (try dsimp only at hSw); go_simp; all_goals with_reducible rfl
        try simp only [Act.put, List.setIfInBounds_toArray, List.set_cons_zero, List.set_cons_succ]
        refine rg_take (i := 4) (some 39) (v := ?_) rfl rfl (by kernel_rfl) (by rfl) hQ7 hHeld ?_ ?_
        rotate_left
        · intro w7 hSw; (try dsimp only at hSw); go_simp; all_goals with_reducible rfl
        try simp only [Act.put, List.setIfInBounds_toArray, List.set_cons_zero, List.set_cons_succ]
        refine rg_skip (i := 5) (some 40) rfl rfl (by kernel_rfl) (by rfl) hQ7 hHeld ?_
        try simp only [Act.put, List.setIfInBounds_toArray, List.set_cons_zero, List.set_cons_succ]
        refine rg_skip (i := 6) (some 41) rfl rfl (by kernel_rfl) (by rfl) hQ7 hHeld ?_
        try simp only [Act.put, List.setIfInBounds_toArray, List.set_cons_zero, List.set_cons_succ]
        refine rg_skip (i := 7) (some 42) rfl rfl (by kernel_rfl) (by rfl) hQ7 hHeld ?_
        try simp only [Act.put, List.setIfInBounds_toArray, List.set_cons_zero, List.set_cons_succ]
        refine rg_skip (i := 8) (some 43) rfl rfl (by kernel_rfl) (by rfl) hQ7 hHeld ?_
        try simp only [Act.put, List.setIfInBounds_toArray, List.set_cons_zero, List.set_cons_succ]
        refine rg_skip (i := 9) (some 44) rfl rfl (by kernel_rfl) (by rfl) hQ7 hHeld ?_
        try simp only [Act.put, List.setIfInBounds_toArray, List.set_cons_zero, List.set_cons_succ]
        refine rg_skip (i := 10) (some 45) rfl rfl (by kernel_rfl) (by rfl) hQ7 hHeld ?_
        try simp only [Act.put, List.setIfInBounds_toArray, List.set_cons_zero, List.set_cons_succ]
        refine rg_skip (i := 11) (some 46) rfl rfl (by kernel_rfl) (by rfl) hQ7 hHeld ?_
        try simp only [Act.put, List.setIfInBounds_toArray, List.set_cons_zero, List.set_cons_succ]
        refine rg_skip (i := 12) (some 47) rfl rfl (by kernel_rfl) (by rfl) hQ7 hHeld ?_
        try simp only [Act.put, List.setIfInBounds_toArray, List.set_cons_zero, List.set_cons_succ]
        refine rg_take (i := 13) (some 48) (v := ?_) rfl rfl (by kernel_rfl) (by rfl) hQ7 hHeld ?_ ?_
        rotate_left
        · intro w7 hSw; (try dsimp only at hSw); go_simp; all_goals with_reducible rfl
        try simp only [Act.put, List.setIfInBounds_toArray, List.set_cons_zero, List.set_cons_succ]
        refine rg_take (i := 14) (some 6) (v := ?_) rfl rfl (by kernel_rfl) (by rfl) hQ7 hHeld ?_ ?_
        rotate_left
        · intro w7 hSw; (try dsimp only at hSw); go_simp; all_goals with_reducible rfl
        try simp only [Act.put, List.setIfInBounds_toArray, List.set_cons_zero, List.set_cons_succ]
        refine rg_take (i := 15) (some 7) (v := ?_) rfl rfl (by kernel_rfl) (by rfl) hQ7 hHeld ?_ ?_
        rotate_left
        · intro w7 hSw; (try dsimp only at hSw); go_simp; all_goals with_reducible rfl
        try simp only [Act.put, List.setIfInBounds_toArray, List.set_cons_zero, List.set_cons_succ]
        refine rg_end (by kernel_rfl) (hN7 _ _ ?_) _
        clear hQ7 hN7 Q7
        have BX := hHeld
        clear SS
        replace X := Lib.hid (X.out.ext BX)
        replace E := Lib.hid (ext_trans E.out BX)
        clear BX
        go_wp2_with fail
        refine bodyPost_ret (v := .tuple #[.int .i64 p, .bool false]) (by simp [results, Try.results19, go_sem, *]) rfl ?_
        refine ⟨p, _, rfl, HC.out, ⟨fun h => (by cases h), fun ⟨x, hx, _⟩ => ?_⟩, E.out⟩
        exact absurd (List.getElem?_eq_some_iff.1 hx).1 hpl
theorem bsearch_at {a : Cr} {A : Option Addr} {c n : Nat} {l : List Cr} {w : World} (hl : n = l.length) (ha : Slc w Cr.cells 3 A l) (hn : l.length ≤ 1048576) (ho : OkC l) :
    Calls Try.prog 19 #[.slice A n c, .agg #[.int .i64 a.a, .int .i64 a.m, .int .i64 a.u], .func (.func 20) #[] #[]] w (bsR l a w) := by
  subst hl; exact bsearch_any a A c l w ha hn ho
end Go.Proofs.Ytafglcalimcdcaa
