/- Contracts: the order of credits; whether they are valid. -/
import Derived.Test.YtafglcalimcdcaaB
set_option linter.unusedSimpArgs false
set_option linter.unusedVariables false
namespace Go.Proofs.Ytafglcalimcdcaa
open Go.RowKit
theorem compare_any (x y : Cr) (w : World) : Calls Try.prog 20 #[x.v, y.v] w (RetE w (cmpC x y)) := by
  obtain ⟨p, hp⟩ : ∃ v, cmpI x.a y.a = v := ⟨_, rfl⟩
  obtain ⟨q, hq⟩ : ∃ v, cmpI x.u y.u = v := ⟨_, rfl⟩
  have HP := Lib.hid hp
  have HQ := Lib.hid hq
  obtain ⟨r, hr⟩ : ∃ v, cmpC x y = v := ⟨_, rfl⟩
  have HR := Lib.hid (show (if p = 0 then q else p) = r by rw [← hr]; unfold cmpC; rw [hp, hq])
  rw [hr]
  clear hp hq hr
  have E := Lib.hid (ext_refl w)
  replace E := Lib.hid (ext_alloc E.out (.cells #[.int .i64 x.a, .int .i64 x.m, .int .i64 x.u] 24))
  have X := Lib.hid (Blk.newH w [.int .i64 x.a, .int .i64 x.m, .int .i64 x.u] 24 (w.heap.size) (by first | rfl | simp))
  replace E := Lib.hid (ext_alloc E.out (.cells #[.int .i64 y.a, .int .i64 y.m, .int .i64 y.u] 24))
  replace X := Lib.hid (X.out.alloc (.cells #[.int .i64 y.a, .int .i64 y.m, .int .i64 y.u] 24))
  have Y := Lib.hid (Blk.newH (w.alloc (.cells #[.int .i64 x.a, .int .i64 x.m, .int .i64 x.u] 24)) [.int .i64 y.a, .int .i64 y.m, .int .i64 y.u] 24 (w.heap.size + 1) (by first | rfl | simp))
  go_enter Try.func20, Try.ntmps20
  go_wp2_with fail
  have SS := Lib.hid (show ∀ w', Below ((w.alloc (.cells #[.int .i64 x.a, .int .i64 x.m, .int .i64 x.u] 24)).alloc (.cells #[.int .i64 y.a, .int .i64 y.m, .int .i64 y.u] 24)).heap.size ((w.alloc (.cells #[.int .i64 x.a, .int .i64 x.m, .int .i64 x.u] 24)).alloc (.cells #[.int .i64 y.a, .int .i64 y.m, .int .i64 y.u] 24)) w' → (fun w' => Below ((w.alloc (.cells #[.int .i64 x.a, .int .i64 x.m, .int .i64 x.u] 24)).alloc (.cells #[.int .i64 y.a, .int .i64 y.m, .int .i64 y.u] 24)).heap.size ((w.alloc (.cells #[.int .i64 x.a, .int .i64 x.m, .int .i64 x.u] 24)).alloc (.cells #[.int .i64 y.a, .int .i64 y.m, .int .i64 y.u] 24)) w' ∧ w'.cell? ⟨w.heap.size, 0, none⟩ = some (.int .i64 x.a) ∧ w'.cell? ⟨w.heap.size, 1, none⟩ = some (.int .i64 x.m) ∧ w'.cell? ⟨w.heap.size, 2, none⟩ = some (.int .i64 x.u) ∧ w'.cell? ⟨w.heap.size + 1, 0, none⟩ = some (.int .i64 y.a) ∧ w'.cell? ⟨w.heap.size + 1, 1, none⟩ = some (.int .i64 y.m) ∧ w'.cell? ⟨w.heap.size + 1, 2, none⟩ = some (.int .i64 y.u)) w' from fun w' h => ⟨h, (X.out.ext h).c 0 _ rfl, (X.out.ext h).c 1 _ rfl, (X.out.ext h).c 2 _ rfl, (Y.out.ext h).c 0 _ rfl, (Y.out.ext h).c 1 _ rfl, (Y.out.ext h).c 2 _ rfl⟩)
  refine rg_begin (S := (fun w' => Below ((w.alloc (.cells #[.int .i64 x.a, .int .i64 x.m, .int .i64 x.u] 24)).alloc (.cells #[.int .i64 y.a, .int .i64 y.m, .int .i64 y.u] 24)).heap.size ((w.alloc (.cells #[.int .i64 x.a, .int .i64 x.m, .int .i64 x.u] 24)).alloc (.cells #[.int .i64 y.a, .int .i64 y.m, .int .i64 y.u] 24)) w' ∧ w'.cell? ⟨w.heap.size, 0, none⟩ = some (.int .i64 x.a) ∧ w'.cell? ⟨w.heap.size, 1, none⟩ = some (.int .i64 x.m) ∧ w'.cell? ⟨w.heap.size, 2, none⟩ = some (.int .i64 x.u) ∧ w'.cell? ⟨w.heap.size + 1, 0, none⟩ = some (.int .i64 y.a) ∧ w'.cell? ⟨w.heap.size + 1, 1, none⟩ = some (.int .i64 y.m) ∧ w'.cell? ⟨w.heap.size + 1, 2, none⟩ = some (.int .i64 y.u))) 13 (by kernel_rfl) (by intro d; cases d <;> intro _ _ _ _ h <;> exact h) ?_ (fun Q7 hQ7 hN7 hHeld => ?_)
  · exact SS.out _ (ext_drew (ext_refl _))
  refine rg_take (i := 0) (some 5) (v := ?_) rfl rfl (by kernel_rfl) (by rfl) hQ7 hHeld ?_ ?_
  rotate_left
  · intro w7 hSw; (try dsimp only at hSw); go_simp; all_goals with_reducible rfl
  try simp only [Act.put, List.setIfInBounds_toArray, List.set_cons_zero, List.set_cons_succ]
  refine rg_take (i := 1) (some 6) (v := ?_) rfl rfl (by kernel_rfl) (by rfl) hQ7 hHeld ?_ ?_
  rotate_left
  · intro w7 hSw; (try dsimp only at hSw); go_simp; all_goals with_reducible rfl
  try simp only [Act.put, List.setIfInBounds_toArray, List.set_cons_zero, List.set_cons_succ]
  refine rg_take (i := 2) (some 7) (v := ?_) rfl rfl (by kernel_rfl) (by rfl) hQ7 hHeld ?_ ?_
  rotate_left
  · intro w7 hSw; (try dsimp only at hSw); go_simp; all_goals with_reducible rfl
  try simp only [Act.put, List.setIfInBounds_toArray, List.set_cons_zero, List.set_cons_succ]
  refine rg_take (i := 3) (some 8) (v := ?_) rfl rfl (by kernel_rfl) (by rfl) hQ7 hHeld ?_ ?_
  rotate_left
  · intro w7 hSw; (try dsimp only at hSw); go_simp; all_goals with_reducible rfl
  try simp only [Act.put, List.setIfInBounds_toArray, List.set_cons_zero, List.set_cons_succ]
  refine rg_take (i := 5) (some 10) (v := ?_) rfl rfl (by kernel_rfl) (by rfl) hQ7 hHeld ?_ ?_
  rotate_left
  · intro w7 hSw; (try dsimp only at hSw); go_simp; all_goals with_reducible rfl
  try simp only [Act.put, List.setIfInBounds_toArray, List.set_cons_zero, List.set_cons_succ]
  refine rg_take (i := 6) (some 11) (v := ?_) rfl rfl (by kernel_rfl) (by rfl) hQ7 hHeld ?_ ?_
  rotate_left
  · intro w7 hSw; (try dsimp only at hSw); go_simp; all_goals with_reducible rfl
  try simp only [Act.put, List.setIfInBounds_toArray, List.set_cons_zero, List.set_cons_succ]
  refine rg_take (i := 7) (some 12) (v := ?_) rfl rfl (by kernel_rfl) (by rfl) hQ7 hHeld ?_ ?_
  rotate_left
  · intro w7 hSw; (try dsimp only at hSw); go_simp; all_goals with_reducible rfl
  try simp only [Act.put, List.setIfInBounds_toArray, List.set_cons_zero, List.set_cons_succ]
  refine rg_take (i := 8) (some 13) (v := ?_) rfl rfl (by kernel_rfl) (by rfl) hQ7 hHeld ?_ ?_
  rotate_left
  · intro w7 hSw; (try dsimp only at hSw); go_simp; all_goals with_reducible rfl
  try simp only [Act.put, List.setIfInBounds_toArray, List.set_cons_zero, List.set_cons_succ]
  refine rg_one (i := 4) (by kernel_rfl) (rg_step rfl (by rfl) (fun K hK => ?_))
  go_simp
  refine (cmpi_at p HP.out).mono ?_
  rintro e u1 ⟨rfl, B1⟩
  go_wp2_with fail
  refine hK.out _ _ ?_ (fun hHeld2 => ?_)
  · exact SS.out _ (ext_trans hHeld.1 B1)
  clear hHeld
  have hHeld := hHeld2
  clear hHeld2
  clear hK K
  try simp only [Act.put, List.setIfInBounds_toArray, List.set_cons_zero, List.set_cons_succ]
  refine rg_one (i := 9) (by kernel_rfl) (rg_step rfl (by rfl) (fun K hK => ?_))
  go_simp
  refine (cmpi_at q HQ.out).mono ?_
  rintro e u2 ⟨rfl, B2⟩
  go_wp2_with fail
  refine hK.out _ _ ?_ (fun hHeld2 => ?_)
  · exact SS.out _ (ext_trans hHeld.1 B2)
  clear hHeld
  have hHeld := hHeld2
  clear hHeld2
  clear hK K
  try simp only [Act.put, List.setIfInBounds_toArray, List.set_cons_zero, List.set_cons_succ]
  refine rg_one (i := 10) (by kernel_rfl) (rg_step rfl (by rfl) (fun K hK => ?_))
  go_simp
  refine hK.out _ _ ?_ (fun hHeld2 => ?_)
  · exact SS.out _ (ext_alloc hHeld.1 _)
  clear hHeld
  have hHeld := hHeld2
  clear hHeld2
  clear hK K
  try simp only [Act.put, List.setIfInBounds_toArray, List.set_cons_zero, List.set_cons_succ]
  refine rg_one (i := 11) (by kernel_rfl) (rg_step rfl (by rfl) (fun K hK => ?_))
  go_simp
  refine (or_at r HR.out (slc_litH u2 [p, q] _ 3 (enc := ic) (sz := 1) (fun _ => rfl) rfl u2.heap.size rfl)).mono ?_
  rintro e u3 ⟨rfl, B3⟩
  go_wp2_with fail
  refine hK.out _ _ ?_ (fun hHeld2 => ?_)
  · exact SS.out _ (ext_trans hHeld.1 B3)
  clear hHeld
  have hHeld := hHeld2
  clear hHeld2
  clear hK K
  try simp only [Act.put, List.setIfInBounds_toArray, List.set_cons_zero, List.set_cons_succ]
  refine rg_take (i := 12) (some 4) (v := ?_) rfl rfl (by kernel_rfl) (by rfl) hQ7 hHeld ?_ ?_
  rotate_left
  · intro w7 hSw; (try dsimp only at hSw); go_simp; all_goals with_reducible rfl
  try simp only [Act.put, List.setIfInBounds_toArray, List.set_cons_zero, List.set_cons_succ]
  refine rg_end (by kernel_rfl) (hN7 _ _ ?_) _
  clear hQ7 hN7 Q7
  have BX := hHeld.1
  clear SS
  replace E := Lib.hid (ext_trans E.out BX)
  replace X := Lib.hid (X.out.ext BX)
  replace Y := Lib.hid (Y.out.ext BX)
  clear BX
  go_wp2_with fail
  go_ret
  exact ⟨rfl, E.out⟩
theorem compare_at {x y : Cr} {w : World} (r : Int) (hr : cmpC x y = r) : Calls Try.prog 20 #[.agg #[.int .i64 x.a, .int .i64 x.m, .int .i64 x.u], .agg #[.int .i64 y.a, .int .i64 y.m, .int .i64 y.u]] w (RetE w r) := by
  subst hr; exact compare_any x y w
set_option maxHeartbeats 800000 in
theorem fits_any (x : Cr) (w : World) : Calls Try.prog 17 #[x.v] w (RetB w (fitC x)) := by
  obtain ⟨p, hp⟩ : ∃ v, wi x.a 0 7 = v := ⟨_, rfl⟩
  obtain ⟨q, hq⟩ : ∃ v, wi x.m 1 1440 = v := ⟨_, rfl⟩
  obtain ⟨r, hr⟩ : ∃ v, wi x.u 1 1440 = v := ⟨_, rfl⟩
  have HP := Lib.hid hp
  have HQ := Lib.hid hq
  have HR := Lib.hid hr
  have HF := Lib.hid (show fitC x = (p && q && r) by unfold fitC; rw [hp, hq, hr])
  clear hp hq hr
  cases p
  · have E := Lib.hid (ext_refl w)
    replace E := Lib.hid (ext_alloc E.out (.cells #[.int .i64 x.a, .int .i64 x.m, .int .i64 x.u] 24))
    have X := Lib.hid (Blk.newH w [.int .i64 x.a, .int .i64 x.m, .int .i64 x.u] 24 (w.heap.size) (by first | rfl | simp))
    go_enter Try.func17, Try.ntmps17
    have c0 := X.out.c 0 _ rfl
    go_wp2_with fail
    refine (within_at _ HP.out).mono ?_
    rintro e v1 ⟨rfl, B⟩
    clear c0
    replace E := Lib.hid (ext_trans E.out B)
    replace X := Lib.hid (X.out.ext B)
    clear B
    go_wp2_with fail
    go_ret
    exact ⟨ret_bool HF.out.symm, E.out⟩
  cases q
  · have E := Lib.hid (ext_refl w)
    replace E := Lib.hid (ext_alloc E.out (.cells #[.int .i64 x.a, .int .i64 x.m, .int .i64 x.u] 24))
    have X := Lib.hid (Blk.newH w [.int .i64 x.a, .int .i64 x.m, .int .i64 x.u] 24 (w.heap.size) (by first | rfl | simp))
    go_enter Try.func17, Try.ntmps17
    have c0 := X.out.c 0 _ rfl
    go_wp2_with fail
    refine (within_at _ HP.out).mono ?_
    rintro e v1 ⟨rfl, B⟩
    clear c0
    replace E := Lib.hid (ext_trans E.out B)
    replace X := Lib.hid (X.out.ext B)
    clear B
    have c0 := X.out.c 1 _ rfl
    go_wp2_with fail
    refine (within_at _ HQ.out).mono ?_
    rintro e v2 ⟨rfl, B⟩
    clear c0
    replace E := Lib.hid (ext_trans E.out B)
    replace X := Lib.hid (X.out.ext B)
    clear B
    go_wp2_with fail
    go_ret
    exact ⟨ret_bool HF.out.symm, E.out⟩
  cases r
  · have E := Lib.hid (ext_refl w)
    replace E := Lib.hid (ext_alloc E.out (.cells #[.int .i64 x.a, .int .i64 x.m, .int .i64 x.u] 24))
    have X := Lib.hid (Blk.newH w [.int .i64 x.a, .int .i64 x.m, .int .i64 x.u] 24 (w.heap.size) (by first | rfl | simp))
    go_enter Try.func17, Try.ntmps17
    have c0 := X.out.c 0 _ rfl
    go_wp2_with fail
    refine (within_at _ HP.out).mono ?_
    rintro e v1 ⟨rfl, B⟩
    clear c0
    replace E := Lib.hid (ext_trans E.out B)
    replace X := Lib.hid (X.out.ext B)
    clear B
    have c0 := X.out.c 1 _ rfl
    go_wp2_with fail
    refine (within_at _ HQ.out).mono ?_
    rintro e v2 ⟨rfl, B⟩
    clear c0
    replace E := Lib.hid (ext_trans E.out B)
    replace X := Lib.hid (X.out.ext B)
    clear B
    have c0 := X.out.c 2 _ rfl
    go_wp2_with fail
    refine (within_at _ HR.out).mono ?_
    rintro e v3 ⟨rfl, B⟩
    clear c0
    replace E := Lib.hid (ext_trans E.out B)
    replace X := Lib.hid (X.out.ext B)
    clear B
    go_wp2_with fail
    go_ret
    exact ⟨ret_bool HF.out.symm, E.out⟩
  · have E := Lib.hid (ext_refl w)
    replace E := Lib.hid (ext_alloc E.out (.cells #[.int .i64 x.a, .int .i64 x.m, .int .i64 x.u] 24))
    have X := Lib.hid (Blk.newH w [.int .i64 x.a, .int .i64 x.m, .int .i64 x.u] 24 (w.heap.size) (by first | rfl | simp))
    go_enter Try.func17, Try.ntmps17
    have c0 := X.out.c 0 _ rfl
    go_wp2_with fail
    refine (within_at _ HP.out).mono ?_
    rintro e v1 ⟨rfl, B⟩
    clear c0
    replace E := Lib.hid (ext_trans E.out B)
    replace X := Lib.hid (X.out.ext B)
    clear B
    have c0 := X.out.c 1 _ rfl
    go_wp2_with fail
    refine (within_at _ HQ.out).mono ?_
    rintro e v2 ⟨rfl, B⟩
    clear c0
    replace E := Lib.hid (ext_trans E.out B)
    replace X := Lib.hid (X.out.ext B)
    clear B
    have c0 := X.out.c 2 _ rfl
    go_wp2_with fail
    refine (within_at _ HR.out).mono ?_
    rintro e v3 ⟨rfl, B⟩
    clear c0
    replace E := Lib.hid (ext_trans E.out B)
    replace X := Lib.hid (X.out.ext B)
    clear B
    go_wp2_with fail
    go_ret
    exact ⟨ret_bool HF.out.symm, E.out⟩
theorem fits_at {x : Cr} {w : World} (r : Bool) (hr : fitC x = r) : Calls Try.prog 17 #[.agg #[.int .i64 x.a, .int .i64 x.m, .int .i64 x.u]] w (RetB w r) := by
  subst hr; exact fits_any x w
set_option maxHeartbeats 1600000 in
theorem valid_any (x : Cr) (w : World) : Calls Try.prog 22 #[x.v] w (RetB w (fitC x)) := by
  have HF := Lib.hid (@fit_iff x)
  go_enter Try.func22, Try.ntmps22
  go_wp2_with fail
  all_goals
    go_ret
    refine ⟨ret_bool ?_, ext_alloc (ext_refl w) _⟩
    rw [Bool.eq_iff_iff, HF.out]
    simp only [decide_eq_true_eq, Bool.false_eq_true, false_iff]
    omega
theorem valid_at {x : Cr} {w : World} (r : Bool) (hr : fitC x = r) : Calls Try.prog 22 #[.agg #[.int .i64 x.a, .int .i64 x.m, .int .i64 x.u]] w (RetB w r) := by
  subst hr; exact valid_any x w
set_option maxHeartbeats 1600000 in
theorem before_any (x y : Cr) (w : World) : Calls Try.prog 23 #[x.v, y.v] w (RetB w (bef x y)) := by
  have HF := Lib.hid (@bef_iff x y)
  go_enter Try.func23, Try.ntmps23
  go_wp2_with fail
  all_goals
    go_ret
    refine ⟨ret_bool ?_, ext_alloc (ext_alloc (ext_refl w) _) _⟩
    rw [Bool.eq_iff_iff, HF.out]
    simp only [decide_eq_true_eq, Bool.false_eq_true, false_iff, true_iff]
    omega
theorem before_at {x y : Cr} {w : World} (r : Bool) (hr : bef x y = r) : Calls Try.prog 23 #[.agg #[.int .i64 x.a, .int .i64 x.m, .int .i64 x.u], .agg #[.int .i64 y.a, .int .i64 y.m, .int .i64 y.u]] w (RetB w r) := by
  subst hr; exact before_any x y w
end Go.Proofs.Ytafglcalimcdcaa
