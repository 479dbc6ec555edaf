/- Vectors: sums, budgets. -/
import Derived.Test.YtjiojpoiocdnmaaGreatU3
import Derived.Test.YtjiojpoiocdnmaaGreatU4
import Derived.Test.YtjiojpoiocdnmaaGreatA
set_option linter.unusedSimpArgs false
set_option linter.unusedVariables false
namespace Go.Proofs.YtjiojpoiocdnmaaGreat
open Go.RowKit
def V4.cells (x : V4) : List Value := [.int .i64 x.a, .int .i64 x.b, .int .i64 x.c, .int .i64 x.d]
def V4.get (x : V4) : Nat → Int
  | 0 => x.a
  | 1 => x.b
  | 2 => x.c
  | _ => x.d
def V4.set (x : V4) (k : Nat) (v : Int) : V4 := match k with
  | 0 => { x with a := v }
  | 1 => { x with b := v }
  | 2 => { x with c := v }
  | _ => { x with d := v }
theorem V4.at_ (x : V4) {k : Nat} (h : k < 4) : x.cells[k]? = some (.int .i64 (x.get k)) := by
  match k, h with
  | 0, _ => rfl
  | 1, _ => rfl
  | 2, _ => rfl
  | 3, _ => rfl
theorem V4.set_ (x : V4) {k : Nat} (v : Int) (h : k < 4) : x.cells.set k (.int .i64 v) = (x.set k v).cells := by
  match k, h with
  | 0, _ => rfl
  | 1, _ => rfl
  | 2, _ => rfl
  | 3, _ => rfl
def V4.plus (x y : V4) : V4 := ⟨x.a + y.a, x.b + y.b, x.c + y.c, x.d + y.d⟩
def V4.leB (x y : V4) : Bool := decide (x.a ≤ y.a) && decide (x.b ≤ y.b) && decide (x.c ≤ y.c) && decide (x.d ≤ y.d)
/-- All numbers lie between 0 and N. -/
def V4.In (N : Int) (x : V4) : Prop := 0 ≤ x.a ∧ x.a ≤ N ∧ 0 ≤ x.b ∧ x.b ≤ N ∧ 0 ≤ x.c ∧ x.c ≤ N ∧ 0 ≤ x.d ∧ x.d ≤ N
theorem V4.In.get {N : Int} {x : V4} (h : x.In N) (k : Nat) : 0 ≤ x.get k ∧ x.get k ≤ N := by
  obtain ⟨h0, h1, h2, h3, h4, h5, h6, h7⟩ := h
  match k with
  | 0 => exact ⟨h0, h1⟩
  | 1 => exact ⟨h2, h3⟩
  | 2 => exact ⟨h4, h5⟩
  | _ + 3 => exact ⟨h6, h7⟩
theorem V4.In.mono {N M : Int} {x : V4} (h : x.In N) (hm : N ≤ M) : x.In M := by unfold V4.In at h ⊢; omega
theorem V4.In.plus {N M : Int} {x y : V4} (h : x.In N) (k : y.In M) : (x.plus y).In (N + M) := by unfold V4.In V4.plus at *; simp only; omega
/-- The first k of a sum are done. -/
def V4.mix (x y : V4) (k : Nat) : V4 := ⟨if 0 < k then x.a + y.a else x.a, if 1 < k then x.b + y.b else x.b, if 2 < k then x.c + y.c else x.c, if 3 < k then x.d + y.d else x.d⟩
theorem V4.mix_four (x y : V4) : x.mix y 4 = x.plus y := rfl
theorem V4.mix_get (x y : V4) {k : Nat} (h : k < 4) : (x.mix y k).get k = x.get k := by
  match k, h with
  | 0, _ => rfl
  | 1, _ => rfl
  | 2, _ => rfl
  | 3, _ => rfl
theorem V4.mix_succ (x y : V4) {k : Nat} (h : k < 4) : (x.mix y k).set k (x.get k + y.get k) = x.mix y (k + 1) := by
  match k, h with
  | 0, _ => rfl
  | 1, _ => rfl
  | 2, _ => rfl
  | 3, _ => rfl
/-- The first k keep the budget. -/
def V4.leK (x y : V4) (k : Nat) : Bool := (!decide (0 < k) || decide (x.a ≤ y.a)) && (!decide (1 < k) || decide (x.b ≤ y.b)) && (!decide (2 < k) || decide (x.c ≤ y.c)) && (!decide (3 < k) || decide (x.d ≤ y.d))
theorem V4.leK_zero (x y : V4) : x.leK y 0 = true := rfl
theorem V4.leK_four (x y : V4) : x.leK y 4 = x.leB y := by simp [V4.leK, V4.leB]
theorem V4.leK_succ {x y : V4} {k : Nat} (h : k < 4) (hk : x.leK y k = true) (hl : x.get k ≤ y.get k) : x.leK y (k + 1) = true := by
  match k, h with
  | 0, _ => simp [V4.leK, V4.get] at *; omega
  | 1, _ => simp [V4.leK, V4.get] at *; omega
  | 2, _ => simp [V4.leK, V4.get] at *; omega
  | 3, _ => simp [V4.leK, V4.get] at *; omega
theorem V4.le_no {x y : V4} {k : Nat} (h : k < 4) (hl : ¬ x.get k ≤ y.get k) : x.leB y = false := by
  match k, h with
  | 0, _ => simp [V4.leB, V4.get] at *; omega
  | 1, _ => simp [V4.leB, V4.get] at *; omega
  | 2, _ => simp [V4.leB, V4.get] at *; omega
  | 3, _ => simp [V4.leB, V4.get] at *; omega
set_option maxRecDepth 100000 in
set_option maxHeartbeats 2000000 in
theorem vplus_any (x y : V4) (w : World) (hx : x.In 100000) (hy : y.In 100000) : Calls Tryz.prog 29 #[x.v, y.v] w fun e w' => e = .returned (x.plus y).v ∧ Below w.heap.size w w' := by
  have HX := Lib.hid hx
  have HY := Lib.hid hy
  obtain ⟨z, hz⟩ : ∃ z, x.plus y = z := ⟨_, rfl⟩
  rw [hz]
  have HZ := Lib.hid hz
  clear hx hy hz
  obtain ⟨W0, hW0⟩ : ∃ W0, ((w.alloc (.cells #[.int .i64 x.a, .int .i64 x.b, .int .i64 x.c, .int .i64 x.d] 76)).alloc (.cells #[.int .i64 y.a, .int .i64 y.b, .int .i64 y.c, .int .i64 y.d] 76)).alloc (.cells #[.int .i64 0, .int .i64 0, .int .i64 0, .int .i64 0] 76) = W0 := ⟨_, rfl⟩
  have E0 : Hid (Below w.heap.size w W0) := by rw [← hW0]; exact ext_alloc (ext_alloc (ext_alloc (ext_refl w) _) _) _
  have BX : Hid (Blk W0 w.heap.size x.cells) := by rw [← hW0]; exact ((Blk.newH w x.cells 76 w.heap.size rfl).alloc _).alloc _
  have BY : Hid (Blk W0 (w.heap.size + 1) y.cells) := by rw [← hW0]; exact (Blk.newH (w.alloc _) y.cells 76 (w.heap.size + 1) (by simp)).alloc _
  have BZ : Hid (Blk W0 (w.heap.size + 1 + 1) [.int .i64 0, .int .i64 0, .int .i64 0, .int .i64 0]) := by rw [← hW0]; exact Blk.newH ((w.alloc _).alloc _) [.int .i64 0, .int .i64 0, .int .i64 0, .int .i64 0] 76 (w.heap.size + 1 + 1) (by simp)
  go_enter Tryz.func29, Tryz.ntmps29
  go_wp2_with fail
  clear hW0
  go_loopw [6] (fun i wr => ∃ k : Nat, k ≤ 4 ∧ i = .int .i64 k ∧ Hid (Below w.heap.size w wr) ∧ Hid (Blk wr w.heap.size (x.mix y k).cells) ∧ Hid (Blk wr (w.heap.size + 1) y.cells) ∧ Hid (Blk wr (w.heap.size + 1 + 1) [.int .i64 0, .int .i64 0, .int .i64 0, .int .i64 0])) (fun i _ => 4 - (intOf i).toNat)
  case atStart => exact ⟨0, by omega, rfl, E0, BX, BY, BZ⟩
  case round =>
    obtain ⟨k, hk, rfl, E1, BX1, BY1, BZ1⟩ := hrel
    clear E0 BX BY BZ
    obtain ⟨wo, rfl⟩ : ∃ wo, wo = wr := ⟨_, rfl⟩
    by_cases hlt : k < 4
    · have hlt' : (k : Int) < 4 := by omega
      have hc1 : wo.cell? ⟨w.heap.size, k, none⟩ = some (.int .i64 (x.get k)) := by rw [← V4.mix_get x y hlt]; exact BX1.out.c k _ ((x.mix y k).at_ hlt)
      have hc2 : wo.cell? ⟨w.heap.size + 1, k, none⟩ = some (.int .i64 (y.get k)) := BY1.out.c k _ (y.at_ hlt)
      have hgx := HX.out.get k
      have hgy := HY.out.get k
      obtain ⟨a, ha⟩ : ∃ a, x.get k = a := ⟨_, rfl⟩
      obtain ⟨b, hb⟩ : ∃ b, y.get k = b := ⟨_, rfl⟩
      rw [ha] at hc1 hgx
      rw [hb] at hc2 hgy
      have hw : IntKind.i64.wrap (a + b) = a + b := IntWalk.i64_in _ (by omega)
      have HXS := Lib.hid (show Blk (wo.setCell ⟨w.heap.size, k, none⟩ (.int .i64 (a + b))) w.heap.size (x.mix y (k + 1)).cells by
        rw [← V4.mix_succ x y hlt, ha, hb, ← V4.set_ _ _ hlt]
        exact BX1.out.set (j := k) (by simpa [V4.cells] using hlt) _)
      have HYS := Lib.hid (BY1.out.other (p := ⟨w.heap.size, k, none⟩) (.int .i64 (a + b)) (by simp))
      have HZS := Lib.hid (BZ1.out.other (p := ⟨w.heap.size, k, none⟩) (.int .i64 (a + b)) (by simp; omega))
      have HES := Lib.hid (ext_set E1.out ⟨w.heap.size, k, none⟩ (.int .i64 (a + b)) (Nat.le_refl _))
      have hfz : wo.frozen? ⟨w.heap.size, k, none⟩ = false := BX1.out.f k
      have hbl := BX1.out.lt
      have HC1 := Lib.hid hc1
      have HC2 := Lib.hid hc2
      clear hgx hgy ha hb hc1 hc2
      go_wp2_with fail
      refine rg_begin (S := (fun w' => w'.cell? ⟨w.heap.size, k, none⟩ = some (.int .i64 a) ∧ w'.cell? ⟨w.heap.size + 1, k, none⟩ = some (.int .i64 b))) 8 (by kernel_rfl) (by intro d; cases d <;> intro _ _ _ _ h <;> exact h) ?_ (fun Q7 hQ7 hN7 hHeld => ?_)
      · exact ⟨HC1.out, HC2.out⟩
      refine rg_take (i := 0) (some 9) (v := ?_) rfl rfl (by kernel_rfl) (by rfl) hQ7 hHeld ?_ ?_
      rotate_left
      · intro w7 hSw; (try dsimp only at hSw); go_simp; all_goals with_reducible rfl
      try simp only [Act.put, List.setIfInBounds_toArray, List.set_cons_zero, List.set_cons_succ]
      refine rg_take (i := 1) (some 10) (v := ?_) rfl rfl (by kernel_rfl) (by rfl) hQ7 hHeld ?_ ?_
      rotate_left
      · intro w7 hSw; (try dsimp only at hSw); go_simp; all_goals with_reducible rfl
      try simp only [Act.put, List.setIfInBounds_toArray, List.set_cons_zero, List.set_cons_succ]
      refine rg_take (i := 2) (some 11) (v := ?_) rfl rfl (by kernel_rfl) (by rfl) hQ7 hHeld ?_ ?_
      rotate_left
      · intro w7 hSw; (try dsimp only at hSw); go_simp; all_goals with_reducible rfl
      try simp only [Act.put, List.setIfInBounds_toArray, List.set_cons_zero, List.set_cons_succ]
      refine rg_take (i := 3) (some 12) (v := ?_) rfl rfl (by kernel_rfl) (by rfl) hQ7 hHeld ?_ ?_
      rotate_left
      · intro w7 hSw; (try dsimp only at hSw); go_simp; all_goals with_reducible rfl
      try simp only [Act.put, List.setIfInBounds_toArray, List.set_cons_zero, List.set_cons_succ]
      refine rg_take (i := 4) (some 13) (v := ?_) rfl rfl (by kernel_rfl) (by rfl) hQ7 hHeld ?_ ?_
      rotate_left
      · intro w7 hSw; (try dsimp only at hSw); go_simp; all_goals with_reducible rfl
      try simp only [Act.put, List.setIfInBounds_toArray, List.set_cons_zero, List.set_cons_succ]
      refine rg_take (i := 5) (some 14) (v := ?_) rfl rfl (by kernel_rfl) (by rfl) hQ7 hHeld ?_ ?_
      rotate_left
      · intro w7 hSw; (try dsimp only at hSw); go_simp; all_goals with_reducible rfl
      try simp only [Act.put, List.setIfInBounds_toArray, List.set_cons_zero, List.set_cons_succ]
      refine rg_take (i := 6) (some 15) (v := ?_) rfl rfl (by kernel_rfl) (by rfl) hQ7 hHeld ?_ ?_
      rotate_left
      · intro w7 hSw; (try dsimp only at hSw); go_simp; all_goals with_reducible rfl
      try simp only [Act.put, List.setIfInBounds_toArray, List.set_cons_zero, List.set_cons_succ]
      refine rg_take (i := 7) (some 16) (v := ?_) rfl rfl (by kernel_rfl) (by rfl) hQ7 hHeld ?_ ?_
      rotate_left
      · intro w7 hSw; (try dsimp only at hSw); go_simp; all_goals with_reducible rfl
      try simp only [Act.put, List.setIfInBounds_toArray, List.set_cons_zero, List.set_cons_succ]
      refine rg_one (i := 8) (by kernel_rfl) (rg_late rfl (by rfl) (by kernel_rfl) (fun K hK => ?_))
      go_simp
      refine hK.out _ _ ?_
      clear hK K
      try simp only [Act.put, List.setIfInBounds_toArray, List.set_cons_zero, List.set_cons_succ]
      refine rg_end (by kernel_rfl) (hN7 _ _ ?_) _
      clear hQ7 hN7 Q7
      clear hHeld
      go_wp2_with fail
      go_roundw
      case rel => exact ⟨k + 1, hlt, by go_num, HES.out.drew, HXS.out.drew, HYS.out.drew, HZS.out.drew⟩
      case measure => simp [intOf]; omega
    · obtain rfl : k = 4 := by omega
      rw [V4.mix_four, HZ.out] at BX1
      have d0 := BX1.out.c 0 _ rfl
      have d1 := BX1.out.c 1 _ rfl
      have d2 := BX1.out.c 2 _ rfl
      have d3 := BX1.out.c 3 _ rfl
      have z0 := BZ1.out.c 0 _ rfl
      have z1 := BZ1.out.c 1 _ rfl
      have z2 := BZ1.out.c 2 _ rfl
      have z3 := BZ1.out.c 3 _ rfl
      have zf := BZ1.out.f
      have zl := BZ1.out.lt
      have HZ4 := Lib.hid (BZ1.out.put4 (.int .i64 z.a) (.int .i64 z.b) (.int .i64 z.c) (.int .i64 z.d))
      have HE4 := Lib.hid (ext_set4 E1.out (w.heap.size + 1 + 1) (.int .i64 z.a) (.int .i64 z.b) (.int .i64 z.c) (.int .i64 z.d) (by omega))
      unfold set4 at HZ4 HE4
      clear BX1 BY1 BZ1 E1
      go_wp2_with fail
      clear z0 z1 z2 z3 zf zl d0 d1 d2 d3
      have r0 := HZ4.out.c 0 _ rfl
      have r1 := HZ4.out.c 1 _ rfl
      have r2 := HZ4.out.c 2 _ rfl
      have r3 := HZ4.out.c 3 _ rfl
      refine bodyPost_ret (v := z.v) (by simp [results, Tryz.results29, go_sem, *]) rfl ?_
      exact ⟨rfl, HE4.out⟩
set_option maxRecDepth 100000 in
set_option maxHeartbeats 2000000 in
theorem vin_any (x y : V4) (w : World) : Calls Tryz.prog 30 #[x.v, y.v] w (RetB w (x.leB y)) := by
  obtain ⟨R, hR⟩ : ∃ R, x.leB y = R := ⟨_, rfl⟩
  rw [hR]
  have HR := Lib.hid hR
  clear hR
  obtain ⟨W0, hW0⟩ : ∃ W0, (w.alloc (.cells #[.int .i64 x.a, .int .i64 x.b, .int .i64 x.c, .int .i64 x.d] 76)).alloc (.cells #[.int .i64 y.a, .int .i64 y.b, .int .i64 y.c, .int .i64 y.d] 76) = W0 := ⟨_, rfl⟩
  have E0 : Hid (Below w.heap.size w W0) := by rw [← hW0]; exact ext_alloc (ext_alloc (ext_refl w) _) _
  have BX : Hid (Blk W0 w.heap.size x.cells) := by rw [← hW0]; exact (Blk.newH w x.cells 76 w.heap.size rfl).alloc _
  have BY : Hid (Blk W0 (w.heap.size + 1) y.cells) := by rw [← hW0]; exact Blk.newH (w.alloc _) y.cells 76 (w.heap.size + 1) (by simp)
  go_enter Tryz.func30, Tryz.ntmps30
  go_wp2_with fail
  clear hW0
  go_loopw [6] (fun i wr => ∃ k : Nat, k ≤ 4 ∧ i = .int .i64 k ∧ Hid (Below w.heap.size w wr) ∧ Hid (Blk wr w.heap.size x.cells) ∧ Hid (Blk wr (w.heap.size + 1) y.cells) ∧ Hid (x.leK y k = true)) (fun i _ => 4 - (intOf i).toNat)
  case atStart => exact ⟨0, by omega, rfl, E0, BX, BY, V4.leK_zero x y⟩
  case round =>
    obtain ⟨k, hk, rfl, E1, BX1, BY1, HK⟩ := hrel
    clear E0 BX BY
    obtain ⟨wo, rfl⟩ : ∃ wo, wo = wr := ⟨_, rfl⟩
    by_cases hlt : k < 4
    · have hlt' : (k : Int) < 4 := by omega
      have hc1 : wo.cell? ⟨w.heap.size, k, none⟩ = some (.int .i64 (x.get k)) := BX1.out.c k _ (x.at_ hlt)
      have hc2 : wo.cell? ⟨w.heap.size + 1, k, none⟩ = some (.int .i64 (y.get k)) := BY1.out.c k _ (y.at_ hlt)
      obtain ⟨a, ha⟩ : ∃ a, x.get k = a := ⟨_, rfl⟩
      obtain ⟨b, hb⟩ : ∃ b, y.get k = b := ⟨_, rfl⟩
      rw [ha] at hc1
      rw [hb] at hc2
      have HC1 := Lib.hid hc1
      have HC2 := Lib.hid hc2
      by_cases hab : a ≤ b
      · have hd : decide (b < a) = false := decide_eq_false (by omega)
        have HK2 := Lib.hid (V4.leK_succ hlt HK.out (by rw [ha, hb]; exact hab))
        clear hc1 hc2 ha hb
        have hab' : ¬ b < a := by omega
        go_wp2_with fail
        refine rg_begin (S := (fun w' => w'.cell? ⟨w.heap.size, k, none⟩ = some (.int .i64 a) ∧ w'.cell? ⟨w.heap.size + 1, k, none⟩ = some (.int .i64 b))) 7 (by kernel_rfl) (by intro d; cases d <;> intro _ _ _ _ h <;> exact h) ?_ (fun Q7 hQ7 hN7 hHeld => ?_)
        · exact ⟨HC1.out, HC2.out⟩
        refine rg_take (i := 0) (some 9) (v := ?_) rfl rfl (by kernel_rfl) (by rfl) hQ7 hHeld ?_ ?_
        rotate_left
        · intro w7 hSw; (try dsimp only at hSw); go_simp; all_goals with_reducible rfl
        try simp only [Act.put, List.setIfInBounds_toArray, List.set_cons_zero, List.set_cons_succ]
        refine rg_take (i := 1) (some 10) (v := ?_) rfl rfl (by kernel_rfl) (by rfl) hQ7 hHeld ?_ ?_
        rotate_left
        · intro w7 hSw; (try dsimp only at hSw); go_simp; all_goals with_reducible rfl
        try simp only [Act.put, List.setIfInBounds_toArray, List.set_cons_zero, List.set_cons_succ]
        refine rg_take (i := 2) (some 11) (v := ?_) rfl rfl (by kernel_rfl) (by rfl) hQ7 hHeld ?_ ?_
        rotate_left
        · intro w7 hSw; (try dsimp only at hSw); go_simp; all_goals with_reducible rfl
        try simp only [Act.put, List.setIfInBounds_toArray, List.set_cons_zero, List.set_cons_succ]
        refine rg_take (i := 3) (some 12) (v := ?_) rfl rfl (by kernel_rfl) (by rfl) hQ7 hHeld ?_ ?_
        rotate_left
        · intro w7 hSw; (try dsimp only at hSw); go_simp; all_goals with_reducible rfl
        try simp only [Act.put, List.setIfInBounds_toArray, List.set_cons_zero, List.set_cons_succ]
        refine rg_take (i := 4) (some 13) (v := ?_) rfl rfl (by kernel_rfl) (by rfl) hQ7 hHeld ?_ ?_
        rotate_left
        · intro w7 hSw; (try dsimp only at hSw); go_simp; all_goals with_reducible rfl
        try simp only [Act.put, List.setIfInBounds_toArray, List.set_cons_zero, List.set_cons_succ]
        refine rg_take (i := 5) (some 14) (v := ?_) rfl rfl (by kernel_rfl) (by rfl) hQ7 hHeld ?_ ?_
        rotate_left
        · intro w7 hSw; (try dsimp only at hSw); go_simp; all_goals with_reducible rfl
        try simp only [Act.put, List.setIfInBounds_toArray, List.set_cons_zero, List.set_cons_succ]
        refine rg_take (i := 6) (some 15) (v := ?_) rfl rfl (by kernel_rfl) (by rfl) hQ7 hHeld ?_ ?_
        rotate_left
        · intro w7 hSw; (try dsimp only at hSw); go_simp; all_goals with_reducible rfl
        try simp only [Act.put, List.setIfInBounds_toArray, List.set_cons_zero, List.set_cons_succ]
        refine rg_end (by kernel_rfl) (hN7 _ _ ?_) _
        clear hQ7 hN7 Q7
        clear hHeld
        go_wp2_with fail
        go_roundw
        case rel => exact ⟨k + 1, hlt, by go_num, E1.out.drew, BX1.out.drew, BY1.out.drew, HK2⟩
        case measure => simp [intOf]; omega
      · have HF : Hid (R = false) := HR.out.symm.trans (V4.le_no hlt (by rw [ha, hb]; exact hab))
        have hd : decide (b < a) = true := decide_eq_true (by omega)
        have hab' : b < a := by omega
        clear hc1 hc2 ha hb
        go_wp2_with fail
        refine rg_begin (S := (fun w' => w'.cell? ⟨w.heap.size, k, none⟩ = some (.int .i64 a) ∧ w'.cell? ⟨w.heap.size + 1, k, none⟩ = some (.int .i64 b))) 7 (by kernel_rfl) (by intro d; cases d <;> intro _ _ _ _ h <;> exact h) ?_ (fun Q7 hQ7 hN7 hHeld => ?_)
        · exact ⟨HC1.out, HC2.out⟩
        refine rg_take (i := 0) (some 9) (v := ?_) rfl rfl (by kernel_rfl) (by rfl) hQ7 hHeld ?_ ?_
        rotate_left
        · intro w7 hSw; (try dsimp only at hSw); go_simp; all_goals with_reducible rfl
        try simp only [Act.put, List.setIfInBounds_toArray, List.set_cons_zero, List.set_cons_succ]
        refine rg_take (i := 1) (some 10) (v := ?_) rfl rfl (by kernel_rfl) (by rfl) hQ7 hHeld ?_ ?_
        rotate_left
        · intro w7 hSw; (try dsimp only at hSw); go_simp; all_goals with_reducible rfl
        try simp only [Act.put, List.setIfInBounds_toArray, List.set_cons_zero, List.set_cons_succ]
        refine rg_take (i := 2) (some 11) (v := ?_) rfl rfl (by kernel_rfl) (by rfl) hQ7 hHeld ?_ ?_
        rotate_left
        · intro w7 hSw; (try dsimp only at hSw); go_simp; all_goals with_reducible rfl
        try simp only [Act.put, List.setIfInBounds_toArray, List.set_cons_zero, List.set_cons_succ]
        refine rg_take (i := 3) (some 12) (v := ?_) rfl rfl (by kernel_rfl) (by rfl) hQ7 hHeld ?_ ?_
        rotate_left
        · intro w7 hSw; (try dsimp only at hSw); go_simp; all_goals with_reducible rfl
        try simp only [Act.put, List.setIfInBounds_toArray, List.set_cons_zero, List.set_cons_succ]
        refine rg_take (i := 4) (some 13) (v := ?_) rfl rfl (by kernel_rfl) (by rfl) hQ7 hHeld ?_ ?_
        rotate_left
        · intro w7 hSw; (try dsimp only at hSw); go_simp; all_goals with_reducible rfl
        try simp only [Act.put, List.setIfInBounds_toArray, List.set_cons_zero, List.set_cons_succ]
        refine rg_take (i := 5) (some 14) (v := ?_) rfl rfl (by kernel_rfl) (by rfl) hQ7 hHeld ?_ ?_
        rotate_left
        · intro w7 hSw; (try dsimp only at hSw); go_simp; all_goals with_reducible rfl
        try simp only [Act.put, List.setIfInBounds_toArray, List.set_cons_zero, List.set_cons_succ]
        refine rg_take (i := 6) (some 15) (v := ?_) rfl rfl (by kernel_rfl) (by rfl) hQ7 hHeld ?_ ?_
        rotate_left
        · intro w7 hSw; (try dsimp only at hSw); go_simp; all_goals with_reducible rfl
        try simp only [Act.put, List.setIfInBounds_toArray, List.set_cons_zero, List.set_cons_succ]
        refine rg_end (by kernel_rfl) (hN7 _ _ ?_) _
        clear hQ7 hN7 Q7
        clear hHeld
        go_wp2_with fail
        go_ret
        rw [HF.out]
        exact ⟨rfl, E1.out.drew⟩
    · obtain rfl : k = 4 := by omega
      have HF : Hid (R = true) := by unfold Hid; rw [← HR.out, ← V4.leK_four]; exact HK.out
      go_wp2_with fail
      go_ret
      rw [HF.out]
      exact ⟨rfl, E1.out⟩
theorem vin_at {x y : V4} {w : World} (r : Bool) (hr : x.leB y = r) : Calls Tryz.prog 30 #[x.v, y.v] w (RetB w r) := by
  subst hr; exact vin_any x y w
end Go.Proofs.YtjiojpoiocdnmaaGreat
