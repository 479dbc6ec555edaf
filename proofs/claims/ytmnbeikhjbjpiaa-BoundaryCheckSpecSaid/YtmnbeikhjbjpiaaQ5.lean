/- BoundaryCheckSpec, walked. -/
import Derived.Test.YtmnbeikhjbjpiaaQ0
set_option linter.unusedSimpArgs false
set_option linter.unusedVariables false
namespace Go.Proofs.Ytmnbeikhjbjpiaa
open Go.RowKit
set_option maxHeartbeats 3200000 in
set_option maxRecDepth 100000 in
theorem law5 (b : Bd) (own ot mi : Int) (w : World) (hb : BOk w b) : Calls Try.prog 5 #[b.v, .int .i64 own, .int .i64 ot, .int .i64 mi] w (Tru w) := by
  obtain ⟨fw, hfw⟩ : ∃ v, fewB b.bl = v := ⟨_, rfl⟩
  have HF := Lib.hid hfw
  clear hfw
  obtain ⟨X0, hX0⟩ : ∃ x, Bl.new own ot = x := ⟨_, rfl⟩
  obtain ⟨E0, hE0⟩ : ∃ x, newE own ot = x := ⟨_, rfl⟩
  obtain ⟨o, ho⟩ : ∃ x, rateL b.ag.l own ot mi = x := ⟨_, rfl⟩
  obtain ⟨ck, hck⟩ : ∃ x, b.bl.chk = x := ⟨_, rfl⟩
  obtain ⟨os, hos⟩ : ∃ x, o.isSome = x := ⟨_, rfl⟩
  have HX0 := Lib.hid hX0
  have HE0 := Lib.hid hE0
  have HO := Lib.hid ho
  have HCK := Lib.hid hck
  have HOS := Lib.hid hos
  have L0 := Lib.hid (show LenS 31 X0 by rw [← hX0]; unfold Bl.new; split <;> exact ⟨Nat.zero_le _, Nat.zero_le _⟩)
  clear hX0 hE0 ho hck hos
  cases fw
  · have E := Lib.hid (ext_refl w)
    have HB := Lib.hid (hb)
    clear hb
    replace E := Lib.hid (ext_alloc E.out (.cells #[.int .i64 b.own, .int .i64 b.ot, .slice b.ag.A b.ag.l.length b.ag.c, .slice b.op.A b.op.l.length b.op.c] 24))
    replace HB := Lib.hid (HB.out.alloc (.cells #[.int .i64 b.own, .int .i64 b.ot, .slice b.ag.A b.ag.l.length b.ag.c, .slice b.op.A b.op.l.length b.op.c] 24))
    have BB := Lib.hid (Blk.newH w [.int .i64 b.own, .int .i64 b.ot, .slice b.ag.A b.ag.l.length b.ag.c, .slice b.op.A b.op.l.length b.op.c] 24 (w.heap.size) (by first | rfl | simp))
    go_enter Try.func5, Try.ntmps5
    go_wp2_with fail
    refine (sane_any _).mono ?_
    rintro e v1 ⟨rfl, B⟩
    replace E := Lib.hid (ext_trans E.out B)
    replace HB := Lib.hid (HB.out.ext B)
    replace BB := Lib.hid (BB.out.ext B)
    clear B
    have c0 := BB.out.c 0 _ rfl
    have c1 := BB.out.c 1 _ rfl
    have c2 := BB.out.c 2 _ rfl
    have c3 := BB.out.c 3 _ rfl
    go_wp2_with fail
    refine (few_at false HF.out).mono ?_
    rintro e v2 ⟨rfl, B⟩
    clear c0 c1 c2 c3
    replace E := Lib.hid (ext_trans E.out B)
    replace HB := Lib.hid (HB.out.ext B)
    replace BB := Lib.hid (BB.out.ext B)
    clear B
    go_wp2_with fail
    go_ret
    exact ⟨rfl, E.out⟩
  have E := Lib.hid (ext_refl w)
  have HB := Lib.hid (hb)
  clear hb
  replace E := Lib.hid (ext_alloc E.out (.cells #[.int .i64 b.own, .int .i64 b.ot, .slice b.ag.A b.ag.l.length b.ag.c, .slice b.op.A b.op.l.length b.op.c] 24))
  replace HB := Lib.hid (HB.out.alloc (.cells #[.int .i64 b.own, .int .i64 b.ot, .slice b.ag.A b.ag.l.length b.ag.c, .slice b.op.A b.op.l.length b.op.c] 24))
  have BB := Lib.hid (Blk.newH w [.int .i64 b.own, .int .i64 b.ot, .slice b.ag.A b.ag.l.length b.ag.c, .slice b.op.A b.op.l.length b.op.c] 24 (w.heap.size) (by first | rfl | simp))
  go_enter Try.func5, Try.ntmps5
  go_wp2_with fail
  refine (sane_any _).mono ?_
  rintro e v1 ⟨rfl, B⟩
  replace E := Lib.hid (ext_trans E.out B)
  replace HB := Lib.hid (HB.out.ext B)
  replace BB := Lib.hid (BB.out.ext B)
  clear B
  have c0 := BB.out.c 0 _ rfl
  have c1 := BB.out.c 1 _ rfl
  have c2 := BB.out.c 2 _ rfl
  have c3 := BB.out.c 3 _ rfl
  go_wp2_with fail
  refine (few_at true HF.out).mono ?_
  rintro e v2 ⟨rfl, B⟩
  clear c0 c1 c2 c3
  replace E := Lib.hid (ext_trans E.out B)
  replace HB := Lib.hid (HB.out.ext B)
  replace BB := Lib.hid (BB.out.ext B)
  clear B
  go_wp2_with fail
  refine (new_at (own := own) (ot := ot) (fun _ => True) X0 E0 HX0.out HE0.out).mono ?_
  rintro e v3 ⟨m1, rfl, hm, hk, B, -⟩
  replace E := Lib.hid (ext_trans E.out B)
  replace HB := Lib.hid (HB.out.ext B)
  replace BB := Lib.hid (BB.out.ext B)
  clear B
  have Hm1 := Lib.hid hm
  clear hm
  have Nm1 := Lib.hid hk
  clear hk
  replace E := Lib.hid (ext_alloc E.out (.cells #[.int .i64 m1.own, .int .i64 m1.ot, .slice m1.ag.A m1.ag.l.length m1.ag.c, .slice m1.op.A m1.op.l.length m1.op.c] 24))
  replace HB := Lib.hid (HB.out.alloc (.cells #[.int .i64 m1.own, .int .i64 m1.ot, .slice m1.ag.A m1.ag.l.length m1.ag.c, .slice m1.op.A m1.op.l.length m1.op.c] 24))
  replace BB := Lib.hid (BB.out.alloc (.cells #[.int .i64 m1.own, .int .i64 m1.ot, .slice m1.ag.A m1.ag.l.length m1.ag.c, .slice m1.op.A m1.op.l.length m1.op.c] 24))
  replace Nm1 := Lib.hid (Nm1.out.alloc (.cells #[.int .i64 m1.own, .int .i64 m1.ot, .slice m1.ag.A m1.ag.l.length m1.ag.c, .slice m1.op.A m1.op.l.length m1.op.c] 24))
  have X1b := Lib.hid (Blk.newH v3 [.int .i64 m1.own, .int .i64 m1.ot, .slice m1.ag.A m1.ag.l.length m1.ag.c, .slice m1.op.A m1.op.l.length m1.op.c] 24 (v3.heap.size) (by first | rfl | simp))
  go_wp2_with fail
  refine (rnew_at (own := own) (ot := ot) (fun _ => True) X0 E0 HX0.out HE0.out).mono ?_
  rintro e v4 ⟨m2, rfl, hm, hk, B, -⟩
  replace E := Lib.hid (ext_trans E.out B)
  replace HB := Lib.hid (HB.out.ext B)
  replace BB := Lib.hid (BB.out.ext B)
  replace Nm1 := Lib.hid (Nm1.out.ext B)
  replace X1b := Lib.hid (X1b.out.ext B)
  clear B
  have Hm2 := Lib.hid hm
  clear hm
  have Nm2 := Lib.hid hk
  clear hk
  replace E := Lib.hid (ext_alloc E.out (.cells #[.int .i64 m2.own, .int .i64 m2.ot, .slice m2.ag.A m2.ag.l.length m2.ag.c, .slice m2.op.A m2.op.l.length m2.op.c] 24))
  replace HB := Lib.hid (HB.out.alloc (.cells #[.int .i64 m2.own, .int .i64 m2.ot, .slice m2.ag.A m2.ag.l.length m2.ag.c, .slice m2.op.A m2.op.l.length m2.op.c] 24))
  replace BB := Lib.hid (BB.out.alloc (.cells #[.int .i64 m2.own, .int .i64 m2.ot, .slice m2.ag.A m2.ag.l.length m2.ag.c, .slice m2.op.A m2.op.l.length m2.op.c] 24))
  replace Nm1 := Lib.hid (Nm1.out.alloc (.cells #[.int .i64 m2.own, .int .i64 m2.ot, .slice m2.ag.A m2.ag.l.length m2.ag.c, .slice m2.op.A m2.op.l.length m2.op.c] 24))
  replace X1b := Lib.hid (X1b.out.alloc (.cells #[.int .i64 m2.own, .int .i64 m2.ot, .slice m2.ag.A m2.ag.l.length m2.ag.c, .slice m2.op.A m2.op.l.length m2.op.c] 24))
  replace Nm2 := Lib.hid (Nm2.out.alloc (.cells #[.int .i64 m2.own, .int .i64 m2.ot, .slice m2.ag.A m2.ag.l.length m2.ag.c, .slice m2.op.A m2.op.l.length m2.op.c] 24))
  have X2b := Lib.hid (Blk.newH v4 [.int .i64 m2.own, .int .i64 m2.ot, .slice m2.ag.A m2.ag.l.length m2.ag.c, .slice m2.op.A m2.op.l.length m2.op.c] 24 (v4.heap.size) (by first | rfl | simp))
  have c0 := BB.out.c 0 _ rfl
  have c1 := BB.out.c 1 _ rfl
  have c2 := BB.out.c 2 _ rfl
  have c3 := BB.out.c 3 _ rfl
  go_wp2_with fail
  refine (rate_at (b := b) (f := own) (t := ot) (m := mi) o HO.out HB.out.ag (maxLen_of HB.out.agl HB.out.agc)).mono ?_
  rintro e v5 ⟨he, B⟩
  clear c0 c1 c2 c3
  replace E := Lib.hid (ext_trans E.out B)
  replace HB := Lib.hid (HB.out.ext B)
  replace BB := Lib.hid (BB.out.ext B)
  replace Nm1 := Lib.hid (Nm1.out.ext B)
  replace X1b := Lib.hid (X1b.out.ext B)
  replace Nm2 := Lib.hid (Nm2.out.ext B)
  replace X2b := Lib.hid (X2b.out.ext B)
  clear B
  rw [HOS.out] at he
  subst he
  have c0 := BB.out.c 0 _ rfl
  have c1 := BB.out.c 1 _ rfl
  have c2 := BB.out.c 2 _ rfl
  have c3 := BB.out.c 3 _ rfl
  go_wp2_with fail
  refine (rrate_at (b := b) (f := own) (t := ot) (m := mi) o HO.out HB.out.ag (maxLen_of HB.out.agl HB.out.agc)).mono ?_
  rintro e v6 ⟨he, B⟩
  clear c0 c1 c2 c3
  replace E := Lib.hid (ext_trans E.out B)
  replace HB := Lib.hid (HB.out.ext B)
  replace BB := Lib.hid (BB.out.ext B)
  replace Nm1 := Lib.hid (Nm1.out.ext B)
  replace X1b := Lib.hid (X1b.out.ext B)
  replace Nm2 := Lib.hid (Nm2.out.ext B)
  replace X2b := Lib.hid (X2b.out.ext B)
  clear B
  rw [HOS.out] at he
  subst he
  go_wp2_with fail
  have SS := Lib.hid (show ∀ w', Below v6.heap.size v6 w' → (fun w' => Below v6.heap.size v6 w' ∧ w'.cell? ⟨v3.heap.size, 0, none⟩ = some (.int .i64 m1.own) ∧ w'.cell? ⟨v3.heap.size, 1, none⟩ = some (.int .i64 m1.ot) ∧ w'.cell? ⟨v3.heap.size, 2, none⟩ = some (.slice m1.ag.A m1.ag.l.length m1.ag.c) ∧ w'.cell? ⟨v3.heap.size, 3, none⟩ = some (.slice m1.op.A m1.op.l.length m1.op.c) ∧ w'.cell? ⟨v4.heap.size, 0, none⟩ = some (.int .i64 m2.own) ∧ w'.cell? ⟨v4.heap.size, 1, none⟩ = some (.int .i64 m2.ot) ∧ w'.cell? ⟨v4.heap.size, 2, none⟩ = some (.slice m2.ag.A m2.ag.l.length m2.ag.c) ∧ w'.cell? ⟨v4.heap.size, 3, none⟩ = some (.slice m2.op.A m2.op.l.length m2.op.c) ∧ w'.cell? ⟨w.heap.size, 0, none⟩ = some (.int .i64 b.own) ∧ w'.cell? ⟨w.heap.size, 1, none⟩ = some (.int .i64 b.ot) ∧ w'.cell? ⟨w.heap.size, 2, none⟩ = some (.slice b.ag.A b.ag.l.length b.ag.c) ∧ w'.cell? ⟨w.heap.size, 3, none⟩ = some (.slice b.op.A b.op.l.length b.op.c)) w' from fun w' h => ⟨h, (X1b.out.ext h).c 0 _ rfl, (X1b.out.ext h).c 1 _ rfl, (X1b.out.ext h).c 2 _ rfl, (X1b.out.ext h).c 3 _ rfl, (X2b.out.ext h).c 0 _ rfl, (X2b.out.ext h).c 1 _ rfl, (X2b.out.ext h).c 2 _ rfl, (X2b.out.ext h).c 3 _ rfl, (BB.out.ext h).c 0 _ rfl, (BB.out.ext h).c 1 _ rfl, (BB.out.ext h).c 2 _ rfl, (BB.out.ext h).c 3 _ rfl⟩)
  refine rg_begin (S := (fun w' => Below v6.heap.size v6 w' ∧ w'.cell? ⟨v3.heap.size, 0, none⟩ = some (.int .i64 m1.own) ∧ w'.cell? ⟨v3.heap.size, 1, none⟩ = some (.int .i64 m1.ot) ∧ w'.cell? ⟨v3.heap.size, 2, none⟩ = some (.slice m1.ag.A m1.ag.l.length m1.ag.c) ∧ w'.cell? ⟨v3.heap.size, 3, none⟩ = some (.slice m1.op.A m1.op.l.length m1.op.c) ∧ w'.cell? ⟨v4.heap.size, 0, none⟩ = some (.int .i64 m2.own) ∧ w'.cell? ⟨v4.heap.size, 1, none⟩ = some (.int .i64 m2.ot) ∧ w'.cell? ⟨v4.heap.size, 2, none⟩ = some (.slice m2.ag.A m2.ag.l.length m2.ag.c) ∧ w'.cell? ⟨v4.heap.size, 3, none⟩ = some (.slice m2.op.A m2.op.l.length m2.op.c) ∧ w'.cell? ⟨w.heap.size, 0, none⟩ = some (.int .i64 b.own) ∧ w'.cell? ⟨w.heap.size, 1, none⟩ = some (.int .i64 b.ot) ∧ w'.cell? ⟨w.heap.size, 2, none⟩ = some (.slice b.ag.A b.ag.l.length b.ag.c) ∧ w'.cell? ⟨w.heap.size, 3, none⟩ = some (.slice b.op.A b.op.l.length b.op.c))) 26 (by kernel_rfl) (by intro d; cases d <;> intro _ _ _ _ h <;> exact h) ?_ (fun Q7 hQ7 hN7 hHeld => ?_)
  · exact SS.out _ (ext_drew (ext_refl _))
  refine rg_take (i := 0) (some 50) (v := ?_) rfl rfl (by kernel_rfl) (by rfl) hQ7 hHeld ?_ ?_
  rotate_left
  · intro w7 hSw; (try dsimp only at hSw); go_simp; all_goals with_reducible rfl
  try simp only [Act.put, List.setIfInBounds_toArray, List.set_cons_zero, List.set_cons_succ]
  refine rg_take (i := 1) (some 51) (v := ?_) rfl rfl (by kernel_rfl) (by rfl) hQ7 hHeld ?_ ?_
  rotate_left
  · intro w7 hSw; (try dsimp only at hSw); go_simp; all_goals with_reducible rfl
  try simp only [Act.put, List.setIfInBounds_toArray, List.set_cons_zero, List.set_cons_succ]
  refine rg_one (i := 2) (by kernel_rfl) (rg_step rfl (by rfl) (fun K hK => ?_))
  go_simp
  refine (sameB_at (a := m1) (b := m2) true (by rw [Hm1.out, Hm2.out]; simp) (Nm1.out.ext hHeld.1) (Nm2.out.ext hHeld.1) (by have := L0.out; rw [← Hm1.out] at this; exact ⟨by have := this.1; show m1.ag.l.length < _; simp only [Bd.bl] at this; omega, by have := this.2; show m1.op.l.length < _; simp only [Bd.bl] at this; omega⟩)).mono ?_
  rintro e u1 ⟨rfl, B1⟩
  go_wp2_with fail
  refine hK.out _ _ ?_ (fun hHeld2 => ?_)
  · exact SS.out _ (ext_trans hHeld.1 B1)
  clear hHeld
  have hHeld := hHeld2
  clear hHeld2
  clear hK K
  try simp only [Act.put, List.setIfInBounds_toArray, List.set_cons_zero, List.set_cons_succ]
  refine rg_take (i := 3) (some 53) (v := ?_) rfl rfl (by kernel_rfl) (by rfl) hQ7 hHeld ?_ ?_
  rotate_left
  · intro w7 hSw; (try dsimp only at hSw); go_simp; all_goals with_reducible rfl
  try simp only [Act.put, List.setIfInBounds_toArray, List.set_cons_zero, List.set_cons_succ]
  refine rg_take (i := 4) (some 54) (v := ?_) rfl rfl (by kernel_rfl) (by rfl) hQ7 hHeld ?_ ?_
  rotate_left
  · intro w7 hSw; (try dsimp only at hSw); go_simp; all_goals with_reducible rfl
  try simp only [Act.put, List.setIfInBounds_toArray, List.set_cons_zero, List.set_cons_succ]
  refine rg_take (i := 5) (some 55) (v := ?_) rfl rfl (by kernel_rfl) (by rfl) hQ7 hHeld ?_ ?_
  rotate_left
  · intro w7 hSw; (try dsimp only at hSw); go_simp; all_goals with_reducible rfl
  try simp only [Act.put, List.setIfInBounds_toArray, List.set_cons_zero, List.set_cons_succ]
  refine rg_take (i := 6) (some 56) (v := ?_) rfl rfl (by kernel_rfl) (by rfl) hQ7 hHeld ?_ ?_
  rotate_left
  · intro w7 hSw; (try dsimp only at hSw); go_simp; all_goals with_reducible rfl
  try simp only [Act.put, List.setIfInBounds_toArray, List.set_cons_zero, List.set_cons_succ]
  refine rg_take (i := 7) (some 57) (v := ?_) rfl rfl (by kernel_rfl) (by rfl) hQ7 hHeld ?_ ?_
  rotate_left
  · intro w7 hSw; (try dsimp only at hSw); go_simp; all_goals with_reducible rfl
  try simp only [Act.put, List.setIfInBounds_toArray, List.set_cons_zero, List.set_cons_succ]
  refine rg_take (i := 8) (some 58) (v := ?_) rfl rfl (by kernel_rfl) (by rfl) hQ7 hHeld ?_ ?_
  rotate_left
  · intro w7 hSw; (try dsimp only at hSw); go_simp; all_goals with_reducible rfl
  try simp only [Act.put, List.setIfInBounds_toArray, List.set_cons_zero, List.set_cons_succ]
  refine rg_take (i := 9) (some 59) (v := ?_) rfl rfl (by kernel_rfl) (by rfl) hQ7 hHeld ?_ ?_
  rotate_left
  · intro w7 hSw; (try dsimp only at hSw); go_simp; all_goals with_reducible rfl
  try simp only [Act.put, List.setIfInBounds_toArray, List.set_cons_zero, List.set_cons_succ]
  refine rg_take (i := 10) (some 60) (v := ?_) rfl rfl (by kernel_rfl) (by rfl) hQ7 hHeld ?_ ?_
  rotate_left
  · intro w7 hSw; (try dsimp only at hSw); go_simp; all_goals with_reducible rfl
  try simp only [Act.put, List.setIfInBounds_toArray, List.set_cons_zero, List.set_cons_succ]
  refine rg_take (i := 11) (some 61) (v := ?_) rfl rfl (by kernel_rfl) (by rfl) hQ7 hHeld ?_ ?_
  rotate_left
  · intro w7 hSw; (try dsimp only at hSw); go_simp; all_goals with_reducible rfl
  try simp only [Act.put, List.setIfInBounds_toArray, List.set_cons_zero, List.set_cons_succ]
  refine rg_take (i := 12) (some 62) (v := ?_) rfl rfl (by kernel_rfl) (by rfl) hQ7 hHeld ?_ ?_
  rotate_left
  · intro w7 hSw; (try dsimp only at hSw); go_simp; all_goals with_reducible rfl
  try simp only [Act.put, List.setIfInBounds_toArray, List.set_cons_zero, List.set_cons_succ]
  refine rg_take (i := 13) (some 63) (v := ?_) rfl rfl (by kernel_rfl) (by rfl) hQ7 hHeld ?_ ?_
  rotate_left
  · intro w7 hSw; (try dsimp only at hSw); go_simp; all_goals with_reducible rfl
  try simp only [Act.put, List.setIfInBounds_toArray, List.set_cons_zero, List.set_cons_succ]
  refine rg_take (i := 14) (some 64) (v := ?_) rfl rfl (by kernel_rfl) (by rfl) hQ7 hHeld ?_ ?_
  rotate_left
  · intro w7 hSw; (try dsimp only at hSw); go_simp; all_goals with_reducible rfl
  try simp only [Act.put, List.setIfInBounds_toArray, List.set_cons_zero, List.set_cons_succ]
  refine rg_take (i := 15) (some 65) (v := ?_) rfl rfl (by kernel_rfl) (by rfl) hQ7 hHeld ?_ ?_
  rotate_left
  · intro w7 hSw; (try dsimp only at hSw); go_simp; all_goals with_reducible rfl
  try simp only [Act.put, List.setIfInBounds_toArray, List.set_cons_zero, List.set_cons_succ]
  refine rg_take (i := 16) (some 66) (v := ?_) rfl rfl (by kernel_rfl) (by rfl) hQ7 hHeld ?_ ?_
  rotate_left
  · intro w7 hSw; (try dsimp only at hSw); go_simp; all_goals with_reducible rfl
  try simp only [Act.put, List.setIfInBounds_toArray, List.set_cons_zero, List.set_cons_succ]
  refine rg_take (i := 17) (some 67) (v := ?_) rfl rfl (by kernel_rfl) (by rfl) hQ7 hHeld ?_ ?_
  rotate_left
  · intro w7 hSw; (try dsimp only at hSw); go_simp; all_goals with_reducible rfl
  try simp only [Act.put, List.setIfInBounds_toArray, List.set_cons_zero, List.set_cons_succ]
  refine rg_take (i := 18) (some 68) (v := ?_) rfl rfl (by kernel_rfl) (by rfl) hQ7 hHeld ?_ ?_
  rotate_left
  · intro w7 hSw; (try dsimp only at hSw); go_simp; all_goals with_reducible rfl
  try simp only [Act.put, List.setIfInBounds_toArray, List.set_cons_zero, List.set_cons_succ]
  refine rg_take (i := 19) (some 69) (v := ?_) rfl rfl (by kernel_rfl) (by rfl) hQ7 hHeld ?_ ?_
  rotate_left
  · intro w7 hSw; (try dsimp only at hSw); go_simp; all_goals with_reducible rfl
  try simp only [Act.put, List.setIfInBounds_toArray, List.set_cons_zero, List.set_cons_succ]
  refine rg_take (i := 21) (some 71) (v := ?_) rfl rfl (by kernel_rfl) (by rfl) hQ7 hHeld ?_ ?_
  rotate_left
  · intro w7 hSw; (try dsimp only at hSw); go_simp; all_goals with_reducible rfl
  try simp only [Act.put, List.setIfInBounds_toArray, List.set_cons_zero, List.set_cons_succ]
  refine rg_one (i := 20) (by kernel_rfl) (rg_step rfl (by rfl) (fun K hK => ?_))
  go_simp
  refine (check_at ck HCK.out (HB.out.ext hHeld.1)).mono ?_
  rintro e u2 ⟨rfl, B2⟩
  go_wp2_with fail
  refine hK.out _ _ ?_ (fun hHeld2 => ?_)
  · exact SS.out _ (ext_trans hHeld.1 B2)
  clear hHeld
  have hHeld := hHeld2
  clear hHeld2
  clear hK K
  try simp only [Act.put, List.setIfInBounds_toArray, List.set_cons_zero, List.set_cons_succ]
  refine rg_one (i := 22) (by kernel_rfl) (rg_step rfl (by rfl) (fun K hK => ?_))
  go_simp
  refine (rcheck_at ck HCK.out (HB.out.ext hHeld.1)).mono ?_
  rintro e u3 ⟨rfl, B3⟩
  go_wp2_with fail
  refine hK.out _ _ ?_ (fun hHeld2 => ?_)
  · exact SS.out _ (ext_trans hHeld.1 B3)
  clear hHeld
  have hHeld := hHeld2
  clear hHeld2
  clear hK K
  try simp only [Act.put, List.setIfInBounds_toArray, List.set_cons_zero, List.set_cons_succ]
  refine rg_take (i := 23) (some 73) (v := ?_) rfl rfl (by kernel_rfl) (by rfl) hQ7 hHeld ?_ ?_
  rotate_left
  · intro w7 hSw; (try dsimp only at hSw); go_simp; all_goals with_reducible rfl
  try simp only [Act.put, List.setIfInBounds_toArray, List.set_cons_zero, List.set_cons_succ]
  refine rg_take (i := 24) (some 74) (v := ?_) rfl rfl (by kernel_rfl) (by rfl) hQ7 hHeld ?_ ?_
  rotate_left
  · intro w7 hSw; (try dsimp only at hSw); go_simp; all_goals with_reducible rfl
  try simp only [Act.put, List.setIfInBounds_toArray, List.set_cons_zero, List.set_cons_succ]
  refine rg_take (i := 25) (some 8) (v := ?_) rfl rfl (by kernel_rfl) (by rfl) hQ7 hHeld ?_ ?_
  rotate_left
  · intro w7 hSw; (try dsimp only at hSw); go_simp; all_goals with_reducible rfl
  try simp only [Act.put, List.setIfInBounds_toArray, List.set_cons_zero, List.set_cons_succ]
  refine rg_end (by kernel_rfl) (hN7 _ _ ?_) _
  clear hQ7 hN7 Q7
  have BX := hHeld.1
  clear SS
  go_wp2_with fail
  go_ret
  exact ⟨rfl, ext_trans E.out BX⟩
end Go.Proofs.Ytmnbeikhjbjpiaa
