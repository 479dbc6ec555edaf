/- Contracts: whether rules are wrong. -/
import Derived.Test.YtmgpbjpohbpgpaaB
import Derived.Laws.EntriesVeiled
set_option linter.unusedSimpArgs false
set_option linter.unusedVariables false
namespace Go.Proofs.Ytmgpbjpohbpgpaa
open Go.RowKit
theorem tabv {g : Nat} {args : Array Value} {w : World} {x v : Bool} (h : Calls Try.prog g args w (RetB w x)) (e : x = v) : Calls Try.prog g args w (RetB w v) := e ▸ h
theorem table_any (w : World) : Calls Try.prog 37 #[] w fun e w' => e = .returned (.agg #[.func (.func 54) #[] #[], .func (.func 55) #[] #[], .func (.func 57) #[] #[], .func (.func 59) #[] #[], .func (.func 60) #[] #[]]) ∧ Below w.heap.size w w' := by
  go_enter Try.func37, Try.ntmps37
  go_wp2_with fail
  refine bodyPost_ret (v := .agg #[.func (.func 54) #[] #[], .func (.func 55) #[] #[], .func (.func 57) #[] #[], .func (.func 59) #[] #[], .func (.func 60) #[] #[]]) (by simp [results, Try.results37, go_sem, *]) rfl ?_
  exact ⟨rfl, ext_alloc (ext_refl w) _⟩
set_option maxHeartbeats 3200000 in
set_option maxRecDepth 100000 in
theorem wrong_any (r : Ru) (a : As) (ba bk : Nat) (w : World) (hA : Blk w ba [.slice a.s0.A a.s0.n a.s0.c, .slice a.s1.A a.s1.n a.s1.c, .slice a.s2.A a.s2.n a.s2.c, .slice a.s3.A a.s3.n a.s3.c, .slice a.s4.A a.s4.n a.s4.c, .slice a.aps.A a.aps.n a.aps.c, .slice a.cls.A a.cls.n a.cls.c, .slice a.rs.A a.rs.l.length a.rs.c]) (hK : Blk w bk [.func (.func 54) #[] #[], .func (.func 55) #[] #[], .func (.func 57) #[] #[], .func (.func 59) #[] #[], .func (.func 60) #[] #[]]) : Calls Try.prog 38 #[r.v, .pointer (some ⟨ba, 0, none⟩), .pointer (some ⟨bk, 0, none⟩)] w (RetB w (wrong a.cls.n a.aps.n r)) := by
  obtain ⟨k, sc, sa, cl, ap, n, f, t⟩ := r
  by_cases h1 : k < 0
  · have E := Lib.hid (ext_refl w)
    have HA := Lib.hid (hA)
    have HK := Lib.hid (hK)
    clear hA hK
    have HW := Lib.hid (show wrong a.cls.n a.aps.n (⟨k, sc, sa, cl, ap, n, f, t⟩ : Ru) = true by unfold wrong; simp [h1])
    have f1 : decide (k < 0) = true := by simpa using h1
    clear h1
    replace E := Lib.hid (ext_alloc E.out (.cells #[.int .i64 k, .string sc, .string sa, .int .i64 cl, .int .i64 ap, .int .i64 n, .int .i64 f, .int .i64 t] 42))
    replace HA := Lib.hid (HA.out.alloc (.cells #[.int .i64 k, .string sc, .string sa, .int .i64 cl, .int .i64 ap, .int .i64 n, .int .i64 f, .int .i64 t] 42))
    replace HK := Lib.hid (HK.out.alloc (.cells #[.int .i64 k, .string sc, .string sa, .int .i64 cl, .int .i64 ap, .int .i64 n, .int .i64 f, .int .i64 t] 42))
    have Y := Lib.hid (Blk.newH w [.int .i64 k, .string sc, .string sa, .int .i64 cl, .int .i64 ap, .int .i64 n, .int .i64 f, .int .i64 t] 42 (w.heap.size) (by first | rfl | simp))
    go_enter Try.func38, Try.ntmps38
    go_wp2_with fail
    have SS := Lib.hid (show ∀ w', Below (w.alloc (.cells #[.int .i64 k, .string sc, .string sa, .int .i64 cl, .int .i64 ap, .int .i64 n, .int .i64 f, .int .i64 t] 42)).heap.size (w.alloc (.cells #[.int .i64 k, .string sc, .string sa, .int .i64 cl, .int .i64 ap, .int .i64 n, .int .i64 f, .int .i64 t] 42)) w' → (fun w' => Below (w.alloc (.cells #[.int .i64 k, .string sc, .string sa, .int .i64 cl, .int .i64 ap, .int .i64 n, .int .i64 f, .int .i64 t] 42)).heap.size (w.alloc (.cells #[.int .i64 k, .string sc, .string sa, .int .i64 cl, .int .i64 ap, .int .i64 n, .int .i64 f, .int .i64 t] 42)) w' ∧ w'.cell? ⟨w.heap.size, 0, none⟩ = some (.int .i64 k) ∧ w'.cell? ⟨w.heap.size, 1, none⟩ = some (.string sc) ∧ w'.cell? ⟨w.heap.size, 2, none⟩ = some (.string sa) ∧ w'.cell? ⟨w.heap.size, 3, none⟩ = some (.int .i64 cl) ∧ w'.cell? ⟨w.heap.size, 4, none⟩ = some (.int .i64 ap) ∧ w'.cell? ⟨w.heap.size, 5, none⟩ = some (.int .i64 n) ∧ w'.cell? ⟨w.heap.size, 6, none⟩ = some (.int .i64 f) ∧ w'.cell? ⟨w.heap.size, 7, none⟩ = some (.int .i64 t) ∧ w'.cell? ⟨ba, 0, none⟩ = some (.slice a.s0.A a.s0.n a.s0.c) ∧ w'.cell? ⟨ba, 1, none⟩ = some (.slice a.s1.A a.s1.n a.s1.c) ∧ w'.cell? ⟨ba, 2, none⟩ = some (.slice a.s2.A a.s2.n a.s2.c) ∧ w'.cell? ⟨ba, 3, none⟩ = some (.slice a.s3.A a.s3.n a.s3.c) ∧ w'.cell? ⟨ba, 4, none⟩ = some (.slice a.s4.A a.s4.n a.s4.c) ∧ w'.cell? ⟨ba, 5, none⟩ = some (.slice a.aps.A a.aps.n a.aps.c) ∧ w'.cell? ⟨ba, 6, none⟩ = some (.slice a.cls.A a.cls.n a.cls.c) ∧ w'.cell? ⟨ba, 7, none⟩ = some (.slice a.rs.A a.rs.l.length a.rs.c) ∧ w'.cell? ⟨bk, 0, none⟩ = some (.func (.func 54) #[] #[]) ∧ w'.cell? ⟨bk, 1, none⟩ = some (.func (.func 55) #[] #[]) ∧ w'.cell? ⟨bk, 2, none⟩ = some (.func (.func 57) #[] #[]) ∧ w'.cell? ⟨bk, 3, none⟩ = some (.func (.func 59) #[] #[]) ∧ w'.cell? ⟨bk, 4, none⟩ = some (.func (.func 60) #[] #[])) w' from fun w' h => ⟨h, (Y.out.ext h).c 0 _ rfl, (Y.out.ext h).c 1 _ rfl, (Y.out.ext h).c 2 _ rfl, (Y.out.ext h).c 3 _ rfl, (Y.out.ext h).c 4 _ rfl, (Y.out.ext h).c 5 _ rfl, (Y.out.ext h).c 6 _ rfl, (Y.out.ext h).c 7 _ rfl, (HA.out.ext h).c 0 _ rfl, (HA.out.ext h).c 1 _ rfl, (HA.out.ext h).c 2 _ rfl, (HA.out.ext h).c 3 _ rfl, (HA.out.ext h).c 4 _ rfl, (HA.out.ext h).c 5 _ rfl, (HA.out.ext h).c 6 _ rfl, (HA.out.ext h).c 7 _ rfl, (HK.out.ext h).c 0 _ rfl, (HK.out.ext h).c 1 _ rfl, (HK.out.ext h).c 2 _ rfl, (HK.out.ext h).c 3 _ rfl, (HK.out.ext h).c 4 _ rfl⟩)
    refine rg_begin (S := (fun w' => Below (w.alloc (.cells #[.int .i64 k, .string sc, .string sa, .int .i64 cl, .int .i64 ap, .int .i64 n, .int .i64 f, .int .i64 t] 42)).heap.size (w.alloc (.cells #[.int .i64 k, .string sc, .string sa, .int .i64 cl, .int .i64 ap, .int .i64 n, .int .i64 f, .int .i64 t] 42)) w' ∧ w'.cell? ⟨w.heap.size, 0, none⟩ = some (.int .i64 k) ∧ w'.cell? ⟨w.heap.size, 1, none⟩ = some (.string sc) ∧ w'.cell? ⟨w.heap.size, 2, none⟩ = some (.string sa) ∧ w'.cell? ⟨w.heap.size, 3, none⟩ = some (.int .i64 cl) ∧ w'.cell? ⟨w.heap.size, 4, none⟩ = some (.int .i64 ap) ∧ w'.cell? ⟨w.heap.size, 5, none⟩ = some (.int .i64 n) ∧ w'.cell? ⟨w.heap.size, 6, none⟩ = some (.int .i64 f) ∧ w'.cell? ⟨w.heap.size, 7, none⟩ = some (.int .i64 t) ∧ w'.cell? ⟨ba, 0, none⟩ = some (.slice a.s0.A a.s0.n a.s0.c) ∧ w'.cell? ⟨ba, 1, none⟩ = some (.slice a.s1.A a.s1.n a.s1.c) ∧ w'.cell? ⟨ba, 2, none⟩ = some (.slice a.s2.A a.s2.n a.s2.c) ∧ w'.cell? ⟨ba, 3, none⟩ = some (.slice a.s3.A a.s3.n a.s3.c) ∧ w'.cell? ⟨ba, 4, none⟩ = some (.slice a.s4.A a.s4.n a.s4.c) ∧ w'.cell? ⟨ba, 5, none⟩ = some (.slice a.aps.A a.aps.n a.aps.c) ∧ w'.cell? ⟨ba, 6, none⟩ = some (.slice a.cls.A a.cls.n a.cls.c) ∧ w'.cell? ⟨ba, 7, none⟩ = some (.slice a.rs.A a.rs.l.length a.rs.c) ∧ w'.cell? ⟨bk, 0, none⟩ = some (.func (.func 54) #[] #[]) ∧ w'.cell? ⟨bk, 1, none⟩ = some (.func (.func 55) #[] #[]) ∧ w'.cell? ⟨bk, 2, none⟩ = some (.func (.func 57) #[] #[]) ∧ w'.cell? ⟨bk, 3, none⟩ = some (.func (.func 59) #[] #[]) ∧ w'.cell? ⟨bk, 4, none⟩ = some (.func (.func 60) #[] #[]))) 33 (by kernel_rfl) (by intro d; cases d <;> intro _ _ _ _ h <;> exact h) ?_ (fun Q7 hQ7 hN7 hHeld => ?_)
    · exact SS.out _ (ext_drew (ext_refl _))
    refine rg_take (i := 0) (some 5) (v := ?_) rfl rfl (by kernel_rfl) (by rfl) hQ7 hHeld ?_ ?_
    rotate_left
    · intro w7 hSw; (try dsimp only at hSw); go_simp; all_goals with_reducible rfl
    try simp only [Act.put, List.setIfInBounds_toArray, List.set_cons_zero, List.set_cons_succ]
    refine rg_take (i := 1) (some 6) (v := ?_) rfl rfl (by kernel_rfl) (by rfl) hQ7 hHeld ?_ ?_
    rotate_left
    · intro w7 hSw; (try dsimp only at hSw); go_simp; all_goals with_reducible rfl
    try simp only [Act.put, List.setIfInBounds_toArray, List.set_cons_zero, List.set_cons_succ]
    refine rg_take (i := 2) (some 7) (v := ?_) rfl rfl (by kernel_rfl) (by rfl) hQ7 hHeld ?_ ?_
    rotate_left
    · intro w7 hSw; (try dsimp only at hSw); go_simp; all_goals with_reducible rfl
    try simp only [Act.put, List.setIfInBounds_toArray, List.set_cons_zero, List.set_cons_succ]
    refine rg_take (i := 3) (some 8) (v := ?_) rfl rfl (by kernel_rfl) (by rfl) hQ7 hHeld ?_ ?_
    rotate_left
    · intro w7 hSw; (try dsimp only at hSw); go_simp; all_goals with_reducible rfl
    try simp only [Act.put, List.setIfInBounds_toArray, List.set_cons_zero, List.set_cons_succ]
    refine rg_skip (i := 4) (some 9) rfl rfl (by kernel_rfl) (by rfl) hQ7 hHeld ?_
    try simp only [Act.put, List.setIfInBounds_toArray, List.set_cons_zero, List.set_cons_succ]
    refine rg_skip (i := 5) (some 10) rfl rfl (by kernel_rfl) (by rfl) hQ7 hHeld ?_
    try simp only [Act.put, List.setIfInBounds_toArray, List.set_cons_zero, List.set_cons_succ]
    refine rg_skip (i := 6) (some 11) rfl rfl (by kernel_rfl) (by rfl) hQ7 hHeld ?_
    try simp only [Act.put, List.setIfInBounds_toArray, List.set_cons_zero, List.set_cons_succ]
    refine rg_take (i := 7) (some 12) (v := ?_) rfl rfl (by kernel_rfl) (by rfl) hQ7 hHeld ?_ ?_
    rotate_left
    · intro w7 hSw; (try dsimp only at hSw); go_simp; all_goals with_reducible rfl
    try simp only [Act.put, List.setIfInBounds_toArray, List.set_cons_zero, List.set_cons_succ]
    refine rg_take (i := 8) (some 13) (v := ?_) rfl rfl (by kernel_rfl) (by rfl) hQ7 hHeld ?_ ?_
    rotate_left
    · intro w7 hSw; (try dsimp only at hSw); go_simp; all_goals with_reducible rfl
    try simp only [Act.put, List.setIfInBounds_toArray, List.set_cons_zero, List.set_cons_succ]
    refine rg_skip (i := 9) (some 14) rfl rfl (by kernel_rfl) (by rfl) hQ7 hHeld ?_
    try simp only [Act.put, List.setIfInBounds_toArray, List.set_cons_zero, List.set_cons_succ]
    refine rg_skip (i := 10) (some 15) rfl rfl (by kernel_rfl) (by rfl) hQ7 hHeld ?_
    try simp only [Act.put, List.setIfInBounds_toArray, List.set_cons_zero, List.set_cons_succ]
    refine rg_skip (i := 11) (some 16) rfl rfl (by kernel_rfl) (by rfl) hQ7 hHeld ?_
    try simp only [Act.put, List.setIfInBounds_toArray, List.set_cons_zero, List.set_cons_succ]
    refine rg_take (i := 12) (some 17) (v := ?_) rfl rfl (by kernel_rfl) (by rfl) hQ7 hHeld ?_ ?_
    rotate_left
    · intro w7 hSw; (try dsimp only at hSw); go_simp; all_goals with_reducible rfl
    try simp only [Act.put, List.setIfInBounds_toArray, List.set_cons_zero, List.set_cons_succ]
    refine rg_take (i := 13) (some 18) (v := ?_) rfl rfl (by kernel_rfl) (by rfl) hQ7 hHeld ?_ ?_
    rotate_left
    · intro w7 hSw; (try dsimp only at hSw); go_simp; all_goals with_reducible rfl
    try simp only [Act.put, List.setIfInBounds_toArray, List.set_cons_zero, List.set_cons_succ]
    refine rg_skip (i := 14) (some 19) rfl rfl (by kernel_rfl) (by rfl) hQ7 hHeld ?_
    try simp only [Act.put, List.setIfInBounds_toArray, List.set_cons_zero, List.set_cons_succ]
    refine rg_skip (i := 15) (some 20) rfl rfl (by kernel_rfl) (by rfl) hQ7 hHeld ?_
    try simp only [Act.put, List.setIfInBounds_toArray, List.set_cons_zero, List.set_cons_succ]
    refine rg_skip (i := 16) (some 21) rfl rfl (by kernel_rfl) (by rfl) hQ7 hHeld ?_
    try simp only [Act.put, List.setIfInBounds_toArray, List.set_cons_zero, List.set_cons_succ]
    refine rg_skip (i := 17) (some 22) rfl rfl (by kernel_rfl) (by rfl) hQ7 hHeld ?_
    try simp only [Act.put, List.setIfInBounds_toArray, List.set_cons_zero, List.set_cons_succ]
    refine rg_skip (i := 18) (some 23) rfl rfl (by kernel_rfl) (by rfl) hQ7 hHeld ?_
    try simp only [Act.put, List.setIfInBounds_toArray, List.set_cons_zero, List.set_cons_succ]
    refine rg_skip (i := 19) (some 24) rfl rfl (by kernel_rfl) (by rfl) hQ7 hHeld ?_
    try simp only [Act.put, List.setIfInBounds_toArray, List.set_cons_zero, List.set_cons_succ]
    refine rg_take (i := 20) (some 25) (v := ?_) rfl rfl (by kernel_rfl) (by rfl) hQ7 hHeld ?_ ?_
    rotate_left
    · intro w7 hSw; (try dsimp only at hSw); go_simp; all_goals with_reducible rfl
    try simp only [Act.put, List.setIfInBounds_toArray, List.set_cons_zero, List.set_cons_succ]
    refine rg_take (i := 21) (some 26) (v := ?_) rfl rfl (by kernel_rfl) (by rfl) hQ7 hHeld ?_ ?_
    rotate_left
    · intro w7 hSw; (try dsimp only at hSw); go_simp; all_goals with_reducible rfl
    try simp only [Act.put, List.setIfInBounds_toArray, List.set_cons_zero, List.set_cons_succ]
    refine rg_skip (i := 22) (some 27) rfl rfl (by kernel_rfl) (by rfl) hQ7 hHeld ?_
    try simp only [Act.put, List.setIfInBounds_toArray, List.set_cons_zero, List.set_cons_succ]
    refine rg_skip (i := 23) (some 28) rfl rfl (by kernel_rfl) (by rfl) hQ7 hHeld ?_
    try simp only [Act.put, List.setIfInBounds_toArray, List.set_cons_zero, List.set_cons_succ]
    refine rg_skip (i := 24) (some 29) rfl rfl (by kernel_rfl) (by rfl) hQ7 hHeld ?_
    try simp only [Act.put, List.setIfInBounds_toArray, List.set_cons_zero, List.set_cons_succ]
    refine rg_skip (i := 25) (some 30) rfl rfl (by kernel_rfl) (by rfl) hQ7 hHeld ?_
    try simp only [Act.put, List.setIfInBounds_toArray, List.set_cons_zero, List.set_cons_succ]
    refine rg_skip (i := 26) (some 31) rfl rfl (by kernel_rfl) (by rfl) hQ7 hHeld ?_
    try simp only [Act.put, List.setIfInBounds_toArray, List.set_cons_zero, List.set_cons_succ]
    refine rg_skip (i := 27) (some 32) rfl rfl (by kernel_rfl) (by rfl) hQ7 hHeld ?_
    try simp only [Act.put, List.setIfInBounds_toArray, List.set_cons_zero, List.set_cons_succ]
    refine rg_skip (i := 28) (some 33) rfl rfl (by kernel_rfl) (by rfl) hQ7 hHeld ?_
    try simp only [Act.put, List.setIfInBounds_toArray, List.set_cons_zero, List.set_cons_succ]
    refine rg_skip (i := 29) (some 34) rfl rfl (by kernel_rfl) (by rfl) hQ7 hHeld ?_
    try simp only [Act.put, List.setIfInBounds_toArray, List.set_cons_zero, List.set_cons_succ]
    refine rg_skip (i := 30) (some 35) rfl rfl (by kernel_rfl) (by rfl) hQ7 hHeld ?_
    try simp only [Act.put, List.setIfInBounds_toArray, List.set_cons_zero, List.set_cons_succ]
    refine rg_take (i := 31) (some 36) (v := ?_) rfl rfl (by kernel_rfl) (by rfl) hQ7 hHeld ?_ ?_
    rotate_left
    · intro w7 hSw; (try dsimp only at hSw); go_simp; all_goals with_reducible rfl
    try simp only [Act.put, List.setIfInBounds_toArray, List.set_cons_zero, List.set_cons_succ]
    refine rg_take (i := 32) (some 4) (v := ?_) rfl rfl (by kernel_rfl) (by rfl) hQ7 hHeld ?_ ?_
    rotate_left
    · intro w7 hSw; (try dsimp only at hSw); go_simp; all_goals with_reducible rfl
    try simp only [Act.put, List.setIfInBounds_toArray, List.set_cons_zero, List.set_cons_succ]
    refine rg_end (by kernel_rfl) (hN7 _ _ ?_) _
    clear hQ7 hN7 Q7
    have BX := hHeld.1
    clear SS
    replace E := Lib.hid (ext_trans E.out BX)
    replace HA := Lib.hid (HA.out.ext BX)
    replace HK := Lib.hid (HK.out.ext BX)
    replace Y := Lib.hid (Y.out.ext BX)
    clear BX
    go_wp2_with fail
    go_ret
    exact ⟨ret_bool (HW.out.symm), E.out⟩
  by_cases h2 : 5 ≤ k
  · have E := Lib.hid (ext_refl w)
    have HA := Lib.hid (hA)
    have HK := Lib.hid (hK)
    clear hA hK
    have HW := Lib.hid (show wrong a.cls.n a.aps.n (⟨k, sc, sa, cl, ap, n, f, t⟩ : Ru) = true by unfold wrong; simp [h2])
    have f1 : decide (k < 0) = false := by simpa using h1
    have f2 : decide (5 ≤ k) = true := by simpa using h2
    clear h1 h2
    replace E := Lib.hid (ext_alloc E.out (.cells #[.int .i64 k, .string sc, .string sa, .int .i64 cl, .int .i64 ap, .int .i64 n, .int .i64 f, .int .i64 t] 42))
    replace HA := Lib.hid (HA.out.alloc (.cells #[.int .i64 k, .string sc, .string sa, .int .i64 cl, .int .i64 ap, .int .i64 n, .int .i64 f, .int .i64 t] 42))
    replace HK := Lib.hid (HK.out.alloc (.cells #[.int .i64 k, .string sc, .string sa, .int .i64 cl, .int .i64 ap, .int .i64 n, .int .i64 f, .int .i64 t] 42))
    have Y := Lib.hid (Blk.newH w [.int .i64 k, .string sc, .string sa, .int .i64 cl, .int .i64 ap, .int .i64 n, .int .i64 f, .int .i64 t] 42 (w.heap.size) (by first | rfl | simp))
    go_enter Try.func38, Try.ntmps38
    go_wp2_with fail
    have SS := Lib.hid (show ∀ w', Below (w.alloc (.cells #[.int .i64 k, .string sc, .string sa, .int .i64 cl, .int .i64 ap, .int .i64 n, .int .i64 f, .int .i64 t] 42)).heap.size (w.alloc (.cells #[.int .i64 k, .string sc, .string sa, .int .i64 cl, .int .i64 ap, .int .i64 n, .int .i64 f, .int .i64 t] 42)) w' → (fun w' => Below (w.alloc (.cells #[.int .i64 k, .string sc, .string sa, .int .i64 cl, .int .i64 ap, .int .i64 n, .int .i64 f, .int .i64 t] 42)).heap.size (w.alloc (.cells #[.int .i64 k, .string sc, .string sa, .int .i64 cl, .int .i64 ap, .int .i64 n, .int .i64 f, .int .i64 t] 42)) w' ∧ w'.cell? ⟨w.heap.size, 0, none⟩ = some (.int .i64 k) ∧ w'.cell? ⟨w.heap.size, 1, none⟩ = some (.string sc) ∧ w'.cell? ⟨w.heap.size, 2, none⟩ = some (.string sa) ∧ w'.cell? ⟨w.heap.size, 3, none⟩ = some (.int .i64 cl) ∧ w'.cell? ⟨w.heap.size, 4, none⟩ = some (.int .i64 ap) ∧ w'.cell? ⟨w.heap.size, 5, none⟩ = some (.int .i64 n) ∧ w'.cell? ⟨w.heap.size, 6, none⟩ = some (.int .i64 f) ∧ w'.cell? ⟨w.heap.size, 7, none⟩ = some (.int .i64 t) ∧ w'.cell? ⟨ba, 0, none⟩ = some (.slice a.s0.A a.s0.n a.s0.c) ∧ w'.cell? ⟨ba, 1, none⟩ = some (.slice a.s1.A a.s1.n a.s1.c) ∧ w'.cell? ⟨ba, 2, none⟩ = some (.slice a.s2.A a.s2.n a.s2.c) ∧ w'.cell? ⟨ba, 3, none⟩ = some (.slice a.s3.A a.s3.n a.s3.c) ∧ w'.cell? ⟨ba, 4, none⟩ = some (.slice a.s4.A a.s4.n a.s4.c) ∧ w'.cell? ⟨ba, 5, none⟩ = some (.slice a.aps.A a.aps.n a.aps.c) ∧ w'.cell? ⟨ba, 6, none⟩ = some (.slice a.cls.A a.cls.n a.cls.c) ∧ w'.cell? ⟨ba, 7, none⟩ = some (.slice a.rs.A a.rs.l.length a.rs.c) ∧ w'.cell? ⟨bk, 0, none⟩ = some (.func (.func 54) #[] #[]) ∧ w'.cell? ⟨bk, 1, none⟩ = some (.func (.func 55) #[] #[]) ∧ w'.cell? ⟨bk, 2, none⟩ = some (.func (.func 57) #[] #[]) ∧ w'.cell? ⟨bk, 3, none⟩ = some (.func (.func 59) #[] #[]) ∧ w'.cell? ⟨bk, 4, none⟩ = some (.func (.func 60) #[] #[])) w' from fun w' h => ⟨h, (Y.out.ext h).c 0 _ rfl, (Y.out.ext h).c 1 _ rfl, (Y.out.ext h).c 2 _ rfl, (Y.out.ext h).c 3 _ rfl, (Y.out.ext h).c 4 _ rfl, (Y.out.ext h).c 5 _ rfl, (Y.out.ext h).c 6 _ rfl, (Y.out.ext h).c 7 _ rfl, (HA.out.ext h).c 0 _ rfl, (HA.out.ext h).c 1 _ rfl, (HA.out.ext h).c 2 _ rfl, (HA.out.ext h).c 3 _ rfl, (HA.out.ext h).c 4 _ rfl, (HA.out.ext h).c 5 _ rfl, (HA.out.ext h).c 6 _ rfl, (HA.out.ext h).c 7 _ rfl, (HK.out.ext h).c 0 _ rfl, (HK.out.ext h).c 1 _ rfl, (HK.out.ext h).c 2 _ rfl, (HK.out.ext h).c 3 _ rfl, (HK.out.ext h).c 4 _ rfl⟩)
    refine rg_begin (S := (fun w' => Below (w.alloc (.cells #[.int .i64 k, .string sc, .string sa, .int .i64 cl, .int .i64 ap, .int .i64 n, .int .i64 f, .int .i64 t] 42)).heap.size (w.alloc (.cells #[.int .i64 k, .string sc, .string sa, .int .i64 cl, .int .i64 ap, .int .i64 n, .int .i64 f, .int .i64 t] 42)) w' ∧ w'.cell? ⟨w.heap.size, 0, none⟩ = some (.int .i64 k) ∧ w'.cell? ⟨w.heap.size, 1, none⟩ = some (.string sc) ∧ w'.cell? ⟨w.heap.size, 2, none⟩ = some (.string sa) ∧ w'.cell? ⟨w.heap.size, 3, none⟩ = some (.int .i64 cl) ∧ w'.cell? ⟨w.heap.size, 4, none⟩ = some (.int .i64 ap) ∧ w'.cell? ⟨w.heap.size, 5, none⟩ = some (.int .i64 n) ∧ w'.cell? ⟨w.heap.size, 6, none⟩ = some (.int .i64 f) ∧ w'.cell? ⟨w.heap.size, 7, none⟩ = some (.int .i64 t) ∧ w'.cell? ⟨ba, 0, none⟩ = some (.slice a.s0.A a.s0.n a.s0.c) ∧ w'.cell? ⟨ba, 1, none⟩ = some (.slice a.s1.A a.s1.n a.s1.c) ∧ w'.cell? ⟨ba, 2, none⟩ = some (.slice a.s2.A a.s2.n a.s2.c) ∧ w'.cell? ⟨ba, 3, none⟩ = some (.slice a.s3.A a.s3.n a.s3.c) ∧ w'.cell? ⟨ba, 4, none⟩ = some (.slice a.s4.A a.s4.n a.s4.c) ∧ w'.cell? ⟨ba, 5, none⟩ = some (.slice a.aps.A a.aps.n a.aps.c) ∧ w'.cell? ⟨ba, 6, none⟩ = some (.slice a.cls.A a.cls.n a.cls.c) ∧ w'.cell? ⟨ba, 7, none⟩ = some (.slice a.rs.A a.rs.l.length a.rs.c) ∧ w'.cell? ⟨bk, 0, none⟩ = some (.func (.func 54) #[] #[]) ∧ w'.cell? ⟨bk, 1, none⟩ = some (.func (.func 55) #[] #[]) ∧ w'.cell? ⟨bk, 2, none⟩ = some (.func (.func 57) #[] #[]) ∧ w'.cell? ⟨bk, 3, none⟩ = some (.func (.func 59) #[] #[]) ∧ w'.cell? ⟨bk, 4, none⟩ = some (.func (.func 60) #[] #[]))) 33 (by kernel_rfl) (by intro d; cases d <;> intro _ _ _ _ h <;> exact h) ?_ (fun Q7 hQ7 hN7 hHeld => ?_)
    · exact SS.out _ (ext_drew (ext_refl _))
    refine rg_take (i := 0) (some 5) (v := ?_) rfl rfl (by kernel_rfl) (by rfl) hQ7 hHeld ?_ ?_
    rotate_left
    · intro w7 hSw; (try dsimp only at hSw); go_simp; all_goals with_reducible rfl
    try simp only [Act.put, List.setIfInBounds_toArray, List.set_cons_zero, List.set_cons_succ]
    refine rg_take (i := 1) (some 6) (v := ?_) rfl rfl (by kernel_rfl) (by rfl) hQ7 hHeld ?_ ?_
    rotate_left
    · intro w7 hSw; (try dsimp only at hSw); go_simp; all_goals with_reducible rfl
    try simp only [Act.put, List.setIfInBounds_toArray, List.set_cons_zero, List.set_cons_succ]
    refine rg_take (i := 2) (some 7) (v := ?_) rfl rfl (by kernel_rfl) (by rfl) hQ7 hHeld ?_ ?_
    rotate_left
    · intro w7 hSw; (try dsimp only at hSw); go_simp; all_goals with_reducible rfl
    try simp only [Act.put, List.setIfInBounds_toArray, List.set_cons_zero, List.set_cons_succ]
    refine rg_take (i := 3) (some 8) (v := ?_) rfl rfl (by kernel_rfl) (by rfl) hQ7 hHeld ?_ ?_
    rotate_left
    · intro w7 hSw; (try dsimp only at hSw); go_simp; all_goals with_reducible rfl
    try simp only [Act.put, List.setIfInBounds_toArray, List.set_cons_zero, List.set_cons_succ]
    refine rg_take (i := 4) (some 9) (v := ?_) rfl rfl (by kernel_rfl) (by rfl) hQ7 hHeld ?_ ?_
    rotate_left
    · intro w7 hSw; (try dsimp only at hSw); go_simp; all_goals with_reducible rfl
    try simp only [Act.put, List.setIfInBounds_toArray, List.set_cons_zero, List.set_cons_succ]
    refine rg_take (i := 5) (some 10) (v := ?_) rfl rfl (by kernel_rfl) (by rfl) hQ7 hHeld ?_ ?_
    rotate_left
    · intro w7 hSw; (try dsimp only at hSw); go_simp; all_goals with_reducible rfl
    try simp only [Act.put, List.setIfInBounds_toArray, List.set_cons_zero, List.set_cons_succ]
    refine rg_take (i := 6) (some 11) (v := ?_) rfl rfl (by kernel_rfl) (by rfl) hQ7 hHeld ?_ ?_
    rotate_left
    · intro w7 hSw; (try dsimp only at hSw); go_simp; all_goals with_reducible rfl
    try simp only [Act.put, List.setIfInBounds_toArray, List.set_cons_zero, List.set_cons_succ]
    refine rg_take (i := 7) (some 12) (v := ?_) rfl rfl (by kernel_rfl) (by rfl) hQ7 hHeld ?_ ?_
    rotate_left
    · intro w7 hSw; (try dsimp only at hSw); go_simp; all_goals with_reducible rfl
    try simp only [Act.put, List.setIfInBounds_toArray, List.set_cons_zero, List.set_cons_succ]
    refine rg_take (i := 8) (some 13) (v := ?_) rfl rfl (by kernel_rfl) (by rfl) hQ7 hHeld ?_ ?_
    rotate_left
    · intro w7 hSw; (try dsimp only at hSw); go_simp; all_goals with_reducible rfl
    try simp only [Act.put, List.setIfInBounds_toArray, List.set_cons_zero, List.set_cons_succ]
    refine rg_skip (i := 9) (some 14) rfl rfl (by kernel_rfl) (by rfl) hQ7 hHeld ?_
    try simp only [Act.put, List.setIfInBounds_toArray, List.set_cons_zero, List.set_cons_succ]
    refine rg_skip (i := 10) (some 15) rfl rfl (by kernel_rfl) (by rfl) hQ7 hHeld ?_
    try simp only [Act.put, List.setIfInBounds_toArray, List.set_cons_zero, List.set_cons_succ]
    refine rg_skip (i := 11) (some 16) rfl rfl (by kernel_rfl) (by rfl) hQ7 hHeld ?_
    try simp only [Act.put, List.setIfInBounds_toArray, List.set_cons_zero, List.set_cons_succ]
    refine rg_take (i := 12) (some 17) (v := ?_) rfl rfl (by kernel_rfl) (by rfl) hQ7 hHeld ?_ ?_
    rotate_left
    · intro w7 hSw; (try dsimp only at hSw); go_simp; all_goals with_reducible rfl
    try simp only [Act.put, List.setIfInBounds_toArray, List.set_cons_zero, List.set_cons_succ]
    refine rg_take (i := 13) (some 18) (v := ?_) rfl rfl (by kernel_rfl) (by rfl) hQ7 hHeld ?_ ?_
    rotate_left
    · intro w7 hSw; (try dsimp only at hSw); go_simp; all_goals with_reducible rfl
    try simp only [Act.put, List.setIfInBounds_toArray, List.set_cons_zero, List.set_cons_succ]
    refine rg_skip (i := 14) (some 19) rfl rfl (by kernel_rfl) (by rfl) hQ7 hHeld ?_
    try simp only [Act.put, List.setIfInBounds_toArray, List.set_cons_zero, List.set_cons_succ]
    refine rg_skip (i := 15) (some 20) rfl rfl (by kernel_rfl) (by rfl) hQ7 hHeld ?_
    try simp only [Act.put, List.setIfInBounds_toArray, List.set_cons_zero, List.set_cons_succ]
    refine rg_skip (i := 16) (some 21) rfl rfl (by kernel_rfl) (by rfl) hQ7 hHeld ?_
    try simp only [Act.put, List.setIfInBounds_toArray, List.set_cons_zero, List.set_cons_succ]
    refine rg_skip (i := 17) (some 22) rfl rfl (by kernel_rfl) (by rfl) hQ7 hHeld ?_
    try simp only [Act.put, List.setIfInBounds_toArray, List.set_cons_zero, List.set_cons_succ]
    refine rg_skip (i := 18) (some 23) rfl rfl (by kernel_rfl) (by rfl) hQ7 hHeld ?_
    try simp only [Act.put, List.setIfInBounds_toArray, List.set_cons_zero, List.set_cons_succ]
    refine rg_skip (i := 19) (some 24) rfl rfl (by kernel_rfl) (by rfl) hQ7 hHeld ?_
    try simp only [Act.put, List.setIfInBounds_toArray, List.set_cons_zero, List.set_cons_succ]
    refine rg_take (i := 20) (some 25) (v := ?_) rfl rfl (by kernel_rfl) (by rfl) hQ7 hHeld ?_ ?_
    rotate_left
    · intro w7 hSw; (try dsimp only at hSw); go_simp; all_goals with_reducible rfl
    try simp only [Act.put, List.setIfInBounds_toArray, List.set_cons_zero, List.set_cons_succ]
    refine rg_take (i := 21) (some 26) (v := ?_) rfl rfl (by kernel_rfl) (by rfl) hQ7 hHeld ?_ ?_
    rotate_left
    · intro w7 hSw; (try dsimp only at hSw); go_simp; all_goals with_reducible rfl
    try simp only [Act.put, List.setIfInBounds_toArray, List.set_cons_zero, List.set_cons_succ]
    refine rg_skip (i := 22) (some 27) rfl rfl (by kernel_rfl) (by rfl) hQ7 hHeld ?_
    try simp only [Act.put, List.setIfInBounds_toArray, List.set_cons_zero, List.set_cons_succ]
    refine rg_skip (i := 23) (some 28) rfl rfl (by kernel_rfl) (by rfl) hQ7 hHeld ?_
    try simp only [Act.put, List.setIfInBounds_toArray, List.set_cons_zero, List.set_cons_succ]
    refine rg_skip (i := 24) (some 29) rfl rfl (by kernel_rfl) (by rfl) hQ7 hHeld ?_
    try simp only [Act.put, List.setIfInBounds_toArray, List.set_cons_zero, List.set_cons_succ]
    refine rg_skip (i := 25) (some 30) rfl rfl (by kernel_rfl) (by rfl) hQ7 hHeld ?_
    try simp only [Act.put, List.setIfInBounds_toArray, List.set_cons_zero, List.set_cons_succ]
    refine rg_skip (i := 26) (some 31) rfl rfl (by kernel_rfl) (by rfl) hQ7 hHeld ?_
    try simp only [Act.put, List.setIfInBounds_toArray, List.set_cons_zero, List.set_cons_succ]
    refine rg_skip (i := 27) (some 32) rfl rfl (by kernel_rfl) (by rfl) hQ7 hHeld ?_
    try simp only [Act.put, List.setIfInBounds_toArray, List.set_cons_zero, List.set_cons_succ]
    refine rg_skip (i := 28) (some 33) rfl rfl (by kernel_rfl) (by rfl) hQ7 hHeld ?_
    try simp only [Act.put, List.setIfInBounds_toArray, List.set_cons_zero, List.set_cons_succ]
    refine rg_skip (i := 29) (some 34) rfl rfl (by kernel_rfl) (by rfl) hQ7 hHeld ?_
    try simp only [Act.put, List.setIfInBounds_toArray, List.set_cons_zero, List.set_cons_succ]
    refine rg_skip (i := 30) (some 35) rfl rfl (by kernel_rfl) (by rfl) hQ7 hHeld ?_
    try simp only [Act.put, List.setIfInBounds_toArray, List.set_cons_zero, List.set_cons_succ]
    refine rg_take (i := 31) (some 36) (v := ?_) rfl rfl (by kernel_rfl) (by rfl) hQ7 hHeld ?_ ?_
    rotate_left
    · intro w7 hSw; (try dsimp only at hSw); go_simp; all_goals with_reducible rfl
    try simp only [Act.put, List.setIfInBounds_toArray, List.set_cons_zero, List.set_cons_succ]
    refine rg_take (i := 32) (some 4) (v := ?_) rfl rfl (by kernel_rfl) (by rfl) hQ7 hHeld ?_ ?_
    rotate_left
    · intro w7 hSw; (try dsimp only at hSw); go_simp; all_goals with_reducible rfl
    try simp only [Act.put, List.setIfInBounds_toArray, List.set_cons_zero, List.set_cons_succ]
    refine rg_end (by kernel_rfl) (hN7 _ _ ?_) _
    clear hQ7 hN7 Q7
    have BX := hHeld.1
    clear SS
    replace E := Lib.hid (ext_trans E.out BX)
    replace HA := Lib.hid (HA.out.ext BX)
    replace HK := Lib.hid (HK.out.ext BX)
    replace Y := Lib.hid (Y.out.ext BX)
    clear BX
    go_wp2_with fail
    go_ret
    exact ⟨ret_bool (HW.out.symm), E.out⟩
  by_cases h3 : cl < 0
  · have E := Lib.hid (ext_refl w)
    have HA := Lib.hid (hA)
    have HK := Lib.hid (hK)
    clear hA hK
    have HW := Lib.hid (show wrong a.cls.n a.aps.n (⟨k, sc, sa, cl, ap, n, f, t⟩ : Ru) = true by unfold wrong; simp [h3])
    have f1 : decide (k < 0) = false := by simpa using h1
    have f2 : decide (5 ≤ k) = false := by simpa using h2
    have f3 : decide (cl < 0) = true := by simpa using h3
    clear h1 h3 h2
    replace E := Lib.hid (ext_alloc E.out (.cells #[.int .i64 k, .string sc, .string sa, .int .i64 cl, .int .i64 ap, .int .i64 n, .int .i64 f, .int .i64 t] 42))
    replace HA := Lib.hid (HA.out.alloc (.cells #[.int .i64 k, .string sc, .string sa, .int .i64 cl, .int .i64 ap, .int .i64 n, .int .i64 f, .int .i64 t] 42))
    replace HK := Lib.hid (HK.out.alloc (.cells #[.int .i64 k, .string sc, .string sa, .int .i64 cl, .int .i64 ap, .int .i64 n, .int .i64 f, .int .i64 t] 42))
    have Y := Lib.hid (Blk.newH w [.int .i64 k, .string sc, .string sa, .int .i64 cl, .int .i64 ap, .int .i64 n, .int .i64 f, .int .i64 t] 42 (w.heap.size) (by first | rfl | simp))
    go_enter Try.func38, Try.ntmps38
    go_wp2_with fail
    have SS := Lib.hid (show ∀ w', Below (w.alloc (.cells #[.int .i64 k, .string sc, .string sa, .int .i64 cl, .int .i64 ap, .int .i64 n, .int .i64 f, .int .i64 t] 42)).heap.size (w.alloc (.cells #[.int .i64 k, .string sc, .string sa, .int .i64 cl, .int .i64 ap, .int .i64 n, .int .i64 f, .int .i64 t] 42)) w' → (fun w' => Below (w.alloc (.cells #[.int .i64 k, .string sc, .string sa, .int .i64 cl, .int .i64 ap, .int .i64 n, .int .i64 f, .int .i64 t] 42)).heap.size (w.alloc (.cells #[.int .i64 k, .string sc, .string sa, .int .i64 cl, .int .i64 ap, .int .i64 n, .int .i64 f, .int .i64 t] 42)) w' ∧ w'.cell? ⟨w.heap.size, 0, none⟩ = some (.int .i64 k) ∧ w'.cell? ⟨w.heap.size, 1, none⟩ = some (.string sc) ∧ w'.cell? ⟨w.heap.size, 2, none⟩ = some (.string sa) ∧ w'.cell? ⟨w.heap.size, 3, none⟩ = some (.int .i64 cl) ∧ w'.cell? ⟨w.heap.size, 4, none⟩ = some (.int .i64 ap) ∧ w'.cell? ⟨w.heap.size, 5, none⟩ = some (.int .i64 n) ∧ w'.cell? ⟨w.heap.size, 6, none⟩ = some (.int .i64 f) ∧ w'.cell? ⟨w.heap.size, 7, none⟩ = some (.int .i64 t) ∧ w'.cell? ⟨ba, 0, none⟩ = some (.slice a.s0.A a.s0.n a.s0.c) ∧ w'.cell? ⟨ba, 1, none⟩ = some (.slice a.s1.A a.s1.n a.s1.c) ∧ w'.cell? ⟨ba, 2, none⟩ = some (.slice a.s2.A a.s2.n a.s2.c) ∧ w'.cell? ⟨ba, 3, none⟩ = some (.slice a.s3.A a.s3.n a.s3.c) ∧ w'.cell? ⟨ba, 4, none⟩ = some (.slice a.s4.A a.s4.n a.s4.c) ∧ w'.cell? ⟨ba, 5, none⟩ = some (.slice a.aps.A a.aps.n a.aps.c) ∧ w'.cell? ⟨ba, 6, none⟩ = some (.slice a.cls.A a.cls.n a.cls.c) ∧ w'.cell? ⟨ba, 7, none⟩ = some (.slice a.rs.A a.rs.l.length a.rs.c) ∧ w'.cell? ⟨bk, 0, none⟩ = some (.func (.func 54) #[] #[]) ∧ w'.cell? ⟨bk, 1, none⟩ = some (.func (.func 55) #[] #[]) ∧ w'.cell? ⟨bk, 2, none⟩ = some (.func (.func 57) #[] #[]) ∧ w'.cell? ⟨bk, 3, none⟩ = some (.func (.func 59) #[] #[]) ∧ w'.cell? ⟨bk, 4, none⟩ = some (.func (.func 60) #[] #[])) w' from fun w' h => ⟨h, (Y.out.ext h).c 0 _ rfl, (Y.out.ext h).c 1 _ rfl, (Y.out.ext h).c 2 _ rfl, (Y.out.ext h).c 3 _ rfl, (Y.out.ext h).c 4 _ rfl, (Y.out.ext h).c 5 _ rfl, (Y.out.ext h).c 6 _ rfl, (Y.out.ext h).c 7 _ rfl, (HA.out.ext h).c 0 _ rfl, (HA.out.ext h).c 1 _ rfl, (HA.out.ext h).c 2 _ rfl, (HA.out.ext h).c 3 _ rfl, (HA.out.ext h).c 4 _ rfl, (HA.out.ext h).c 5 _ rfl, (HA.out.ext h).c 6 _ rfl, (HA.out.ext h).c 7 _ rfl, (HK.out.ext h).c 0 _ rfl, (HK.out.ext h).c 1 _ rfl, (HK.out.ext h).c 2 _ rfl, (HK.out.ext h).c 3 _ rfl, (HK.out.ext h).c 4 _ rfl⟩)
    refine rg_begin (S := (fun w' => Below (w.alloc (.cells #[.int .i64 k, .string sc, .string sa, .int .i64 cl, .int .i64 ap, .int .i64 n, .int .i64 f, .int .i64 t] 42)).heap.size (w.alloc (.cells #[.int .i64 k, .string sc, .string sa, .int .i64 cl, .int .i64 ap, .int .i64 n, .int .i64 f, .int .i64 t] 42)) w' ∧ w'.cell? ⟨w.heap.size, 0, none⟩ = some (.int .i64 k) ∧ w'.cell? ⟨w.heap.size, 1, none⟩ = some (.string sc) ∧ w'.cell? ⟨w.heap.size, 2, none⟩ = some (.string sa) ∧ w'.cell? ⟨w.heap.size, 3, none⟩ = some (.int .i64 cl) ∧ w'.cell? ⟨w.heap.size, 4, none⟩ = some (.int .i64 ap) ∧ w'.cell? ⟨w.heap.size, 5, none⟩ = some (.int .i64 n) ∧ w'.cell? ⟨w.heap.size, 6, none⟩ = some (.int .i64 f) ∧ w'.cell? ⟨w.heap.size, 7, none⟩ = some (.int .i64 t) ∧ w'.cell? ⟨ba, 0, none⟩ = some (.slice a.s0.A a.s0.n a.s0.c) ∧ w'.cell? ⟨ba, 1, none⟩ = some (.slice a.s1.A a.s1.n a.s1.c) ∧ w'.cell? ⟨ba, 2, none⟩ = some (.slice a.s2.A a.s2.n a.s2.c) ∧ w'.cell? ⟨ba, 3, none⟩ = some (.slice a.s3.A a.s3.n a.s3.c) ∧ w'.cell? ⟨ba, 4, none⟩ = some (.slice a.s4.A a.s4.n a.s4.c) ∧ w'.cell? ⟨ba, 5, none⟩ = some (.slice a.aps.A a.aps.n a.aps.c) ∧ w'.cell? ⟨ba, 6, none⟩ = some (.slice a.cls.A a.cls.n a.cls.c) ∧ w'.cell? ⟨ba, 7, none⟩ = some (.slice a.rs.A a.rs.l.length a.rs.c) ∧ w'.cell? ⟨bk, 0, none⟩ = some (.func (.func 54) #[] #[]) ∧ w'.cell? ⟨bk, 1, none⟩ = some (.func (.func 55) #[] #[]) ∧ w'.cell? ⟨bk, 2, none⟩ = some (.func (.func 57) #[] #[]) ∧ w'.cell? ⟨bk, 3, none⟩ = some (.func (.func 59) #[] #[]) ∧ w'.cell? ⟨bk, 4, none⟩ = some (.func (.func 60) #[] #[]))) 33 (by kernel_rfl) (by intro d; cases d <;> intro _ _ _ _ h <;> exact h) ?_ (fun Q7 hQ7 hN7 hHeld => ?_)
    · exact SS.out _ (ext_drew (ext_refl _))
    refine rg_take (i := 0) (some 5) (v := ?_) rfl rfl (by kernel_rfl) (by rfl) hQ7 hHeld ?_ ?_
    rotate_left
    · intro w7 hSw; (try dsimp only at hSw); go_simp; all_goals with_reducible rfl
    try simp only [Act.put, List.setIfInBounds_toArray, List.set_cons_zero, List.set_cons_succ]
    refine rg_take (i := 1) (some 6) (v := ?_) rfl rfl (by kernel_rfl) (by rfl) hQ7 hHeld ?_ ?_
    rotate_left
    · intro w7 hSw; (try dsimp only at hSw); go_simp; all_goals with_reducible rfl
    try simp only [Act.put, List.setIfInBounds_toArray, List.set_cons_zero, List.set_cons_succ]
    refine rg_take (i := 2) (some 7) (v := ?_) rfl rfl (by kernel_rfl) (by rfl) hQ7 hHeld ?_ ?_
    rotate_left
    · intro w7 hSw; (try dsimp only at hSw); go_simp; all_goals with_reducible rfl
    try simp only [Act.put, List.setIfInBounds_toArray, List.set_cons_zero, List.set_cons_succ]
    refine rg_take (i := 3) (some 8) (v := ?_) rfl rfl (by kernel_rfl) (by rfl) hQ7 hHeld ?_ ?_
    rotate_left
    · intro w7 hSw; (try dsimp only at hSw); go_simp; all_goals with_reducible rfl
    try simp only [Act.put, List.setIfInBounds_toArray, List.set_cons_zero, List.set_cons_succ]
    refine rg_take (i := 4) (some 9) (v := ?_) rfl rfl (by kernel_rfl) (by rfl) hQ7 hHeld ?_ ?_
    rotate_left
    · intro w7 hSw; (try dsimp only at hSw); go_simp; all_goals with_reducible rfl
    try simp only [Act.put, List.setIfInBounds_toArray, List.set_cons_zero, List.set_cons_succ]
    refine rg_take (i := 5) (some 10) (v := ?_) rfl rfl (by kernel_rfl) (by rfl) hQ7 hHeld ?_ ?_
    rotate_left
    · intro w7 hSw; (try dsimp only at hSw); go_simp; all_goals with_reducible rfl
    try simp only [Act.put, List.setIfInBounds_toArray, List.set_cons_zero, List.set_cons_succ]
    refine rg_take (i := 6) (some 11) (v := ?_) rfl rfl (by kernel_rfl) (by rfl) hQ7 hHeld ?_ ?_
    rotate_left
    · intro w7 hSw; (try dsimp only at hSw); go_simp; all_goals with_reducible rfl
    try simp only [Act.put, List.setIfInBounds_toArray, List.set_cons_zero, List.set_cons_succ]
    refine rg_take (i := 7) (some 12) (v := ?_) rfl rfl (by kernel_rfl) (by rfl) hQ7 hHeld ?_ ?_
    rotate_left
    · intro w7 hSw; (try dsimp only at hSw); go_simp; all_goals with_reducible rfl
    try simp only [Act.put, List.setIfInBounds_toArray, List.set_cons_zero, List.set_cons_succ]
    refine rg_take (i := 8) (some 13) (v := ?_) rfl rfl (by kernel_rfl) (by rfl) hQ7 hHeld ?_ ?_
    rotate_left
    · intro w7 hSw; (try dsimp only at hSw); go_simp; all_goals with_reducible rfl
    try simp only [Act.put, List.setIfInBounds_toArray, List.set_cons_zero, List.set_cons_succ]
    refine rg_take (i := 9) (some 14) (v := ?_) rfl rfl (by kernel_rfl) (by rfl) hQ7 hHeld ?_ ?_
    rotate_left
    · intro w7 hSw; (try dsimp only at hSw); go_simp; all_goals with_reducible rfl
    try simp only [Act.put, List.setIfInBounds_toArray, List.set_cons_zero, List.set_cons_succ]
    refine rg_take (i := 10) (some 15) (v := ?_) rfl rfl (by kernel_rfl) (by rfl) hQ7 hHeld ?_ ?_
    rotate_left
    · intro w7 hSw; (try dsimp only at hSw); go_simp; all_goals with_reducible rfl
    try simp only [Act.put, List.setIfInBounds_toArray, List.set_cons_zero, List.set_cons_succ]
    refine rg_take (i := 11) (some 16) (v := ?_) rfl rfl (by kernel_rfl) (by rfl) hQ7 hHeld ?_ ?_
    rotate_left
    · intro w7 hSw; (try dsimp only at hSw); go_simp; all_goals with_reducible rfl
    try simp only [Act.put, List.setIfInBounds_toArray, List.set_cons_zero, List.set_cons_succ]
    refine rg_take (i := 12) (some 17) (v := ?_) rfl rfl (by kernel_rfl) (by rfl) hQ7 hHeld ?_ ?_
    rotate_left
    · intro w7 hSw; (try dsimp only at hSw); go_simp; all_goals with_reducible rfl
    try simp only [Act.put, List.setIfInBounds_toArray, List.set_cons_zero, List.set_cons_succ]
    refine rg_take (i := 13) (some 18) (v := ?_) rfl rfl (by kernel_rfl) (by rfl) hQ7 hHeld ?_ ?_
    rotate_left
    · intro w7 hSw; (try dsimp only at hSw); go_simp; all_goals with_reducible rfl
    try simp only [Act.put, List.setIfInBounds_toArray, List.set_cons_zero, List.set_cons_succ]
    refine rg_skip (i := 14) (some 19) rfl rfl (by kernel_rfl) (by rfl) hQ7 hHeld ?_
    try simp only [Act.put, List.setIfInBounds_toArray, List.set_cons_zero, List.set_cons_succ]
    refine rg_skip (i := 15) (some 20) rfl rfl (by kernel_rfl) (by rfl) hQ7 hHeld ?_
    try simp only [Act.put, List.setIfInBounds_toArray, List.set_cons_zero, List.set_cons_succ]
    refine rg_skip (i := 16) (some 21) rfl rfl (by kernel_rfl) (by rfl) hQ7 hHeld ?_
    try simp only [Act.put, List.setIfInBounds_toArray, List.set_cons_zero, List.set_cons_succ]
    refine rg_skip (i := 17) (some 22) rfl rfl (by kernel_rfl) (by rfl) hQ7 hHeld ?_
    try simp only [Act.put, List.setIfInBounds_toArray, List.set_cons_zero, List.set_cons_succ]
    refine rg_skip (i := 18) (some 23) rfl rfl (by kernel_rfl) (by rfl) hQ7 hHeld ?_
    try simp only [Act.put, List.setIfInBounds_toArray, List.set_cons_zero, List.set_cons_succ]
    refine rg_skip (i := 19) (some 24) rfl rfl (by kernel_rfl) (by rfl) hQ7 hHeld ?_
    try simp only [Act.put, List.setIfInBounds_toArray, List.set_cons_zero, List.set_cons_succ]
    refine rg_take (i := 20) (some 25) (v := ?_) rfl rfl (by kernel_rfl) (by rfl) hQ7 hHeld ?_ ?_
    rotate_left
    · intro w7 hSw; (try dsimp only at hSw); go_simp; all_goals with_reducible rfl
    try simp only [Act.put, List.setIfInBounds_toArray, List.set_cons_zero, List.set_cons_succ]
    refine rg_take (i := 21) (some 26) (v := ?_) rfl rfl (by kernel_rfl) (by rfl) hQ7 hHeld ?_ ?_
    rotate_left
    · intro w7 hSw; (try dsimp only at hSw); go_simp; all_goals with_reducible rfl
    try simp only [Act.put, List.setIfInBounds_toArray, List.set_cons_zero, List.set_cons_succ]
    refine rg_skip (i := 22) (some 27) rfl rfl (by kernel_rfl) (by rfl) hQ7 hHeld ?_
    try simp only [Act.put, List.setIfInBounds_toArray, List.set_cons_zero, List.set_cons_succ]
    refine rg_skip (i := 23) (some 28) rfl rfl (by kernel_rfl) (by rfl) hQ7 hHeld ?_
    try simp only [Act.put, List.setIfInBounds_toArray, List.set_cons_zero, List.set_cons_succ]
    refine rg_skip (i := 24) (some 29) rfl rfl (by kernel_rfl) (by rfl) hQ7 hHeld ?_
    try simp only [Act.put, List.setIfInBounds_toArray, List.set_cons_zero, List.set_cons_succ]
    refine rg_skip (i := 25) (some 30) rfl rfl (by kernel_rfl) (by rfl) hQ7 hHeld ?_
    try simp only [Act.put, List.setIfInBounds_toArray, List.set_cons_zero, List.set_cons_succ]
    refine rg_skip (i := 26) (some 31) rfl rfl (by kernel_rfl) (by rfl) hQ7 hHeld ?_
    try simp only [Act.put, List.setIfInBounds_toArray, List.set_cons_zero, List.set_cons_succ]
    refine rg_skip (i := 27) (some 32) rfl rfl (by kernel_rfl) (by rfl) hQ7 hHeld ?_
    try simp only [Act.put, List.setIfInBounds_toArray, List.set_cons_zero, List.set_cons_succ]
    refine rg_skip (i := 28) (some 33) rfl rfl (by kernel_rfl) (by rfl) hQ7 hHeld ?_
    try simp only [Act.put, List.setIfInBounds_toArray, List.set_cons_zero, List.set_cons_succ]
    refine rg_skip (i := 29) (some 34) rfl rfl (by kernel_rfl) (by rfl) hQ7 hHeld ?_
    try simp only [Act.put, List.setIfInBounds_toArray, List.set_cons_zero, List.set_cons_succ]
    refine rg_skip (i := 30) (some 35) rfl rfl (by kernel_rfl) (by rfl) hQ7 hHeld ?_
    try simp only [Act.put, List.setIfInBounds_toArray, List.set_cons_zero, List.set_cons_succ]
    refine rg_take (i := 31) (some 36) (v := ?_) rfl rfl (by kernel_rfl) (by rfl) hQ7 hHeld ?_ ?_
    rotate_left
    · intro w7 hSw; (try dsimp only at hSw); go_simp; all_goals with_reducible rfl
    try simp only [Act.put, List.setIfInBounds_toArray, List.set_cons_zero, List.set_cons_succ]
    refine rg_take (i := 32) (some 4) (v := ?_) rfl rfl (by kernel_rfl) (by rfl) hQ7 hHeld ?_ ?_
    rotate_left
    · intro w7 hSw; (try dsimp only at hSw); go_simp; all_goals with_reducible rfl
    try simp only [Act.put, List.setIfInBounds_toArray, List.set_cons_zero, List.set_cons_succ]
    refine rg_end (by kernel_rfl) (hN7 _ _ ?_) _
    clear hQ7 hN7 Q7
    have BX := hHeld.1
    clear SS
    replace E := Lib.hid (ext_trans E.out BX)
    replace HA := Lib.hid (HA.out.ext BX)
    replace HK := Lib.hid (HK.out.ext BX)
    replace Y := Lib.hid (Y.out.ext BX)
    clear BX
    go_wp2_with fail
    go_ret
    exact ⟨ret_bool (HW.out.symm), E.out⟩
  by_cases h4 : (a.cls.n : Int) ≤ cl
  · have E := Lib.hid (ext_refl w)
    have HA := Lib.hid (hA)
    have HK := Lib.hid (hK)
    clear hA hK
    have HW := Lib.hid (show wrong a.cls.n a.aps.n (⟨k, sc, sa, cl, ap, n, f, t⟩ : Ru) = true by unfold wrong; simp [h4])
    have f1 : decide (k < 0) = false := by simpa using h1
    have f2 : decide (5 ≤ k) = false := by simpa using h2
    have f4 : decide ((a.cls.n : Int) ≤ cl) = true := by simpa using h4
    clear h4 h2
    have f3 : decide (cl < 0) = false := by simpa using h3
    clear h1 h3
    replace E := Lib.hid (ext_alloc E.out (.cells #[.int .i64 k, .string sc, .string sa, .int .i64 cl, .int .i64 ap, .int .i64 n, .int .i64 f, .int .i64 t] 42))
    replace HA := Lib.hid (HA.out.alloc (.cells #[.int .i64 k, .string sc, .string sa, .int .i64 cl, .int .i64 ap, .int .i64 n, .int .i64 f, .int .i64 t] 42))
    replace HK := Lib.hid (HK.out.alloc (.cells #[.int .i64 k, .string sc, .string sa, .int .i64 cl, .int .i64 ap, .int .i64 n, .int .i64 f, .int .i64 t] 42))
    have Y := Lib.hid (Blk.newH w [.int .i64 k, .string sc, .string sa, .int .i64 cl, .int .i64 ap, .int .i64 n, .int .i64 f, .int .i64 t] 42 (w.heap.size) (by first | rfl | simp))
    go_enter Try.func38, Try.ntmps38
    go_wp2_with fail
    have SS := Lib.hid (show ∀ w', Below (w.alloc (.cells #[.int .i64 k, .string sc, .string sa, .int .i64 cl, .int .i64 ap, .int .i64 n, .int .i64 f, .int .i64 t] 42)).heap.size (w.alloc (.cells #[.int .i64 k, .string sc, .string sa, .int .i64 cl, .int .i64 ap, .int .i64 n, .int .i64 f, .int .i64 t] 42)) w' → (fun w' => Below (w.alloc (.cells #[.int .i64 k, .string sc, .string sa, .int .i64 cl, .int .i64 ap, .int .i64 n, .int .i64 f, .int .i64 t] 42)).heap.size (w.alloc (.cells #[.int .i64 k, .string sc, .string sa, .int .i64 cl, .int .i64 ap, .int .i64 n, .int .i64 f, .int .i64 t] 42)) w' ∧ w'.cell? ⟨w.heap.size, 0, none⟩ = some (.int .i64 k) ∧ w'.cell? ⟨w.heap.size, 1, none⟩ = some (.string sc) ∧ w'.cell? ⟨w.heap.size, 2, none⟩ = some (.string sa) ∧ w'.cell? ⟨w.heap.size, 3, none⟩ = some (.int .i64 cl) ∧ w'.cell? ⟨w.heap.size, 4, none⟩ = some (.int .i64 ap) ∧ w'.cell? ⟨w.heap.size, 5, none⟩ = some (.int .i64 n) ∧ w'.cell? ⟨w.heap.size, 6, none⟩ = some (.int .i64 f) ∧ w'.cell? ⟨w.heap.size, 7, none⟩ = some (.int .i64 t) ∧ w'.cell? ⟨ba, 0, none⟩ = some (.slice a.s0.A a.s0.n a.s0.c) ∧ w'.cell? ⟨ba, 1, none⟩ = some (.slice a.s1.A a.s1.n a.s1.c) ∧ w'.cell? ⟨ba, 2, none⟩ = some (.slice a.s2.A a.s2.n a.s2.c) ∧ w'.cell? ⟨ba, 3, none⟩ = some (.slice a.s3.A a.s3.n a.s3.c) ∧ w'.cell? ⟨ba, 4, none⟩ = some (.slice a.s4.A a.s4.n a.s4.c) ∧ w'.cell? ⟨ba, 5, none⟩ = some (.slice a.aps.A a.aps.n a.aps.c) ∧ w'.cell? ⟨ba, 6, none⟩ = some (.slice a.cls.A a.cls.n a.cls.c) ∧ w'.cell? ⟨ba, 7, none⟩ = some (.slice a.rs.A a.rs.l.length a.rs.c) ∧ w'.cell? ⟨bk, 0, none⟩ = some (.func (.func 54) #[] #[]) ∧ w'.cell? ⟨bk, 1, none⟩ = some (.func (.func 55) #[] #[]) ∧ w'.cell? ⟨bk, 2, none⟩ = some (.func (.func 57) #[] #[]) ∧ w'.cell? ⟨bk, 3, none⟩ = some (.func (.func 59) #[] #[]) ∧ w'.cell? ⟨bk, 4, none⟩ = some (.func (.func 60) #[] #[])) w' from fun w' h => ⟨h, (Y.out.ext h).c 0 _ rfl, (Y.out.ext h).c 1 _ rfl, (Y.out.ext h).c 2 _ rfl, (Y.out.ext h).c 3 _ rfl, (Y.out.ext h).c 4 _ rfl, (Y.out.ext h).c 5 _ rfl, (Y.out.ext h).c 6 _ rfl, (Y.out.ext h).c 7 _ rfl, (HA.out.ext h).c 0 _ rfl, (HA.out.ext h).c 1 _ rfl, (HA.out.ext h).c 2 _ rfl, (HA.out.ext h).c 3 _ rfl, (HA.out.ext h).c 4 _ rfl, (HA.out.ext h).c 5 _ rfl, (HA.out.ext h).c 6 _ rfl, (HA.out.ext h).c 7 _ rfl, (HK.out.ext h).c 0 _ rfl, (HK.out.ext h).c 1 _ rfl, (HK.out.ext h).c 2 _ rfl, (HK.out.ext h).c 3 _ rfl, (HK.out.ext h).c 4 _ rfl⟩)
    refine rg_begin (S := (fun w' => Below (w.alloc (.cells #[.int .i64 k, .string sc, .string sa, .int .i64 cl, .int .i64 ap, .int .i64 n, .int .i64 f, .int .i64 t] 42)).heap.size (w.alloc (.cells #[.int .i64 k, .string sc, .string sa, .int .i64 cl, .int .i64 ap, .int .i64 n, .int .i64 f, .int .i64 t] 42)) w' ∧ w'.cell? ⟨w.heap.size, 0, none⟩ = some (.int .i64 k) ∧ w'.cell? ⟨w.heap.size, 1, none⟩ = some (.string sc) ∧ w'.cell? ⟨w.heap.size, 2, none⟩ = some (.string sa) ∧ w'.cell? ⟨w.heap.size, 3, none⟩ = some (.int .i64 cl) ∧ w'.cell? ⟨w.heap.size, 4, none⟩ = some (.int .i64 ap) ∧ w'.cell? ⟨w.heap.size, 5, none⟩ = some (.int .i64 n) ∧ w'.cell? ⟨w.heap.size, 6, none⟩ = some (.int .i64 f) ∧ w'.cell? ⟨w.heap.size, 7, none⟩ = some (.int .i64 t) ∧ w'.cell? ⟨ba, 0, none⟩ = some (.slice a.s0.A a.s0.n a.s0.c) ∧ w'.cell? ⟨ba, 1, none⟩ = some (.slice a.s1.A a.s1.n a.s1.c) ∧ w'.cell? ⟨ba, 2, none⟩ = some (.slice a.s2.A a.s2.n a.s2.c) ∧ w'.cell? ⟨ba, 3, none⟩ = some (.slice a.s3.A a.s3.n a.s3.c) ∧ w'.cell? ⟨ba, 4, none⟩ = some (.slice a.s4.A a.s4.n a.s4.c) ∧ w'.cell? ⟨ba, 5, none⟩ = some (.slice a.aps.A a.aps.n a.aps.c) ∧ w'.cell? ⟨ba, 6, none⟩ = some (.slice a.cls.A a.cls.n a.cls.c) ∧ w'.cell? ⟨ba, 7, none⟩ = some (.slice a.rs.A a.rs.l.length a.rs.c) ∧ w'.cell? ⟨bk, 0, none⟩ = some (.func (.func 54) #[] #[]) ∧ w'.cell? ⟨bk, 1, none⟩ = some (.func (.func 55) #[] #[]) ∧ w'.cell? ⟨bk, 2, none⟩ = some (.func (.func 57) #[] #[]) ∧ w'.cell? ⟨bk, 3, none⟩ = some (.func (.func 59) #[] #[]) ∧ w'.cell? ⟨bk, 4, none⟩ = some (.func (.func 60) #[] #[]))) 33 (by kernel_rfl) (by intro d; cases d <;> intro _ _ _ _ h <;> exact h) ?_ (fun Q7 hQ7 hN7 hHeld => ?_)
    · exact SS.out _ (ext_drew (ext_refl _))
    refine rg_take (i := 0) (some 5) (v := ?_) rfl rfl (by kernel_rfl) (by rfl) hQ7 hHeld ?_ ?_
    rotate_left
    · intro w7 hSw; (try dsimp only at hSw); go_simp; all_goals with_reducible rfl
    try simp only [Act.put, List.setIfInBounds_toArray, List.set_cons_zero, List.set_cons_succ]
    refine rg_take (i := 1) (some 6) (v := ?_) rfl rfl (by kernel_rfl) (by rfl) hQ7 hHeld ?_ ?_
    rotate_left
    · intro w7 hSw; (try dsimp only at hSw); go_simp; all_goals with_reducible rfl
    try simp only [Act.put, List.setIfInBounds_toArray, List.set_cons_zero, List.set_cons_succ]
    refine rg_take (i := 2) (some 7) (v := ?_) rfl rfl (by kernel_rfl) (by rfl) hQ7 hHeld ?_ ?_
    rotate_left
    · intro w7 hSw; (try dsimp only at hSw); go_simp; all_goals with_reducible rfl
    try simp only [Act.put, List.setIfInBounds_toArray, List.set_cons_zero, List.set_cons_succ]
    refine rg_take (i := 3) (some 8) (v := ?_) rfl rfl (by kernel_rfl) (by rfl) hQ7 hHeld ?_ ?_
    rotate_left
    · intro w7 hSw; (try dsimp only at hSw); go_simp; all_goals with_reducible rfl
    try simp only [Act.put, List.setIfInBounds_toArray, List.set_cons_zero, List.set_cons_succ]
    refine rg_take (i := 4) (some 9) (v := ?_) rfl rfl (by kernel_rfl) (by rfl) hQ7 hHeld ?_ ?_
    rotate_left
    · intro w7 hSw; (try dsimp only at hSw); go_simp; all_goals with_reducible rfl
    try simp only [Act.put, List.setIfInBounds_toArray, List.set_cons_zero, List.set_cons_succ]
    refine rg_take (i := 5) (some 10) (v := ?_) rfl rfl (by kernel_rfl) (by rfl) hQ7 hHeld ?_ ?_
    rotate_left
    · intro w7 hSw; (try dsimp only at hSw); go_simp; all_goals with_reducible rfl
    try simp only [Act.put, List.setIfInBounds_toArray, List.set_cons_zero, List.set_cons_succ]
    refine rg_take (i := 6) (some 11) (v := ?_) rfl rfl (by kernel_rfl) (by rfl) hQ7 hHeld ?_ ?_
    rotate_left
    · intro w7 hSw; (try dsimp only at hSw); go_simp; all_goals with_reducible rfl
    try simp only [Act.put, List.setIfInBounds_toArray, List.set_cons_zero, List.set_cons_succ]
    refine rg_take (i := 7) (some 12) (v := ?_) rfl rfl (by kernel_rfl) (by rfl) hQ7 hHeld ?_ ?_
    rotate_left
    · intro w7 hSw; (try dsimp only at hSw); go_simp; all_goals with_reducible rfl
    try simp only [Act.put, List.setIfInBounds_toArray, List.set_cons_zero, List.set_cons_succ]
    refine rg_take (i := 8) (some 13) (v := ?_) rfl rfl (by kernel_rfl) (by rfl) hQ7 hHeld ?_ ?_
    rotate_left
    · intro w7 hSw; (try dsimp only at hSw); go_simp; all_goals with_reducible rfl
    try simp only [Act.put, List.setIfInBounds_toArray, List.set_cons_zero, List.set_cons_succ]
    refine rg_take (i := 9) (some 14) (v := ?_) rfl rfl (by kernel_rfl) (by rfl) hQ7 hHeld ?_ ?_
    rotate_left
    · intro w7 hSw; (try dsimp only at hSw); go_simp; all_goals with_reducible rfl
    try simp only [Act.put, List.setIfInBounds_toArray, List.set_cons_zero, List.set_cons_succ]
    refine rg_take (i := 10) (some 15) (v := ?_) rfl rfl (by kernel_rfl) (by rfl) hQ7 hHeld ?_ ?_
    rotate_left
    · intro w7 hSw; (try dsimp only at hSw); go_simp; all_goals with_reducible rfl
    try simp only [Act.put, List.setIfInBounds_toArray, List.set_cons_zero, List.set_cons_succ]
    refine rg_take (i := 11) (some 16) (v := ?_) rfl rfl (by kernel_rfl) (by rfl) hQ7 hHeld ?_ ?_
    rotate_left
    · intro w7 hSw; (try dsimp only at hSw); go_simp; all_goals with_reducible rfl
    try simp only [Act.put, List.setIfInBounds_toArray, List.set_cons_zero, List.set_cons_succ]
    refine rg_take (i := 12) (some 17) (v := ?_) rfl rfl (by kernel_rfl) (by rfl) hQ7 hHeld ?_ ?_
    rotate_left
    · intro w7 hSw; (try dsimp only at hSw); go_simp; all_goals with_reducible rfl
    try simp only [Act.put, List.setIfInBounds_toArray, List.set_cons_zero, List.set_cons_succ]
    refine rg_take (i := 13) (some 18) (v := ?_) rfl rfl (by kernel_rfl) (by rfl) hQ7 hHeld ?_ ?_
    rotate_left
    · intro w7 hSw; (try dsimp only at hSw); go_simp; all_goals with_reducible rfl
    try simp only [Act.put, List.setIfInBounds_toArray, List.set_cons_zero, List.set_cons_succ]
    refine rg_take (i := 14) (some 19) (v := ?_) rfl rfl (by kernel_rfl) (by rfl) hQ7 hHeld ?_ ?_
    rotate_left
    · intro w7 hSw; (try dsimp only at hSw); go_simp; all_goals with_reducible rfl
    try simp only [Act.put, List.setIfInBounds_toArray, List.set_cons_zero, List.set_cons_succ]
    refine rg_take (i := 15) (some 20) (v := ?_) rfl rfl (by kernel_rfl) (by rfl) hQ7 hHeld ?_ ?_
    rotate_left
    · intro w7 hSw; (try dsimp only at hSw); go_simp; all_goals with_reducible rfl
    try simp only [Act.put, List.setIfInBounds_toArray, List.set_cons_zero, List.set_cons_succ]
    refine rg_take (i := 16) (some 21) (v := ?_) rfl rfl (by kernel_rfl) (by rfl) hQ7 hHeld ?_ ?_
    rotate_left
    · intro w7 hSw; (try dsimp only at hSw); go_simp; all_goals with_reducible rfl
    try simp only [Act.put, List.setIfInBounds_toArray, List.set_cons_zero, List.set_cons_succ]
    refine rg_take (i := 17) (some 22) (v := ?_) rfl rfl (by kernel_rfl) (by rfl) hQ7 hHeld ?_ ?_
    rotate_left
    · intro w7 hSw; (try dsimp only at hSw); go_simp; all_goals with_reducible rfl
    try simp only [Act.put, List.setIfInBounds_toArray, List.set_cons_zero, List.set_cons_succ]
    refine rg_take (i := 18) (some 23) (v := ?_) rfl rfl (by kernel_rfl) (by rfl) hQ7 hHeld ?_ ?_
    rotate_left
    · intro w7 hSw; (try dsimp only at hSw); go_simp; all_goals with_reducible rfl
    try simp only [Act.put, List.setIfInBounds_toArray, List.set_cons_zero, List.set_cons_succ]
    refine rg_take (i := 19) (some 24) (v := ?_) rfl rfl (by kernel_rfl) (by rfl) hQ7 hHeld ?_ ?_
    rotate_left
    · intro w7 hSw; (try dsimp only at hSw); go_simp; all_goals with_reducible rfl
    try simp only [Act.put, List.setIfInBounds_toArray, List.set_cons_zero, List.set_cons_succ]
    refine rg_take (i := 20) (some 25) (v := ?_) rfl rfl (by kernel_rfl) (by rfl) hQ7 hHeld ?_ ?_
    rotate_left
    · intro w7 hSw; (try dsimp only at hSw); go_simp; all_goals with_reducible rfl
    try simp only [Act.put, List.setIfInBounds_toArray, List.set_cons_zero, List.set_cons_succ]
    refine rg_take (i := 21) (some 26) (v := ?_) rfl rfl (by kernel_rfl) (by rfl) hQ7 hHeld ?_ ?_
    rotate_left
    · intro w7 hSw; (try dsimp only at hSw); go_simp; all_goals with_reducible rfl
    try simp only [Act.put, List.setIfInBounds_toArray, List.set_cons_zero, List.set_cons_succ]
    refine rg_skip (i := 22) (some 27) rfl rfl (by kernel_rfl) (by rfl) hQ7 hHeld ?_
    try simp only [Act.put, List.setIfInBounds_toArray, List.set_cons_zero, List.set_cons_succ]
    refine rg_skip (i := 23) (some 28) rfl rfl (by kernel_rfl) (by rfl) hQ7 hHeld ?_
    try simp only [Act.put, List.setIfInBounds_toArray, List.set_cons_zero, List.set_cons_succ]
    refine rg_skip (i := 24) (some 29) rfl rfl (by kernel_rfl) (by rfl) hQ7 hHeld ?_
    try simp only [Act.put, List.setIfInBounds_toArray, List.set_cons_zero, List.set_cons_succ]
    refine rg_skip (i := 25) (some 30) rfl rfl (by kernel_rfl) (by rfl) hQ7 hHeld ?_
    try simp only [Act.put, List.setIfInBounds_toArray, List.set_cons_zero, List.set_cons_succ]
    refine rg_skip (i := 26) (some 31) rfl rfl (by kernel_rfl) (by rfl) hQ7 hHeld ?_
    try simp only [Act.put, List.setIfInBounds_toArray, List.set_cons_zero, List.set_cons_succ]
    refine rg_skip (i := 27) (some 32) rfl rfl (by kernel_rfl) (by rfl) hQ7 hHeld ?_
    try simp only [Act.put, List.setIfInBounds_toArray, List.set_cons_zero, List.set_cons_succ]
    refine rg_skip (i := 28) (some 33) rfl rfl (by kernel_rfl) (by rfl) hQ7 hHeld ?_
    try simp only [Act.put, List.setIfInBounds_toArray, List.set_cons_zero, List.set_cons_succ]
    refine rg_skip (i := 29) (some 34) rfl rfl (by kernel_rfl) (by rfl) hQ7 hHeld ?_
    try simp only [Act.put, List.setIfInBounds_toArray, List.set_cons_zero, List.set_cons_succ]
    refine rg_skip (i := 30) (some 35) rfl rfl (by kernel_rfl) (by rfl) hQ7 hHeld ?_
    try simp only [Act.put, List.setIfInBounds_toArray, List.set_cons_zero, List.set_cons_succ]
    refine rg_take (i := 31) (some 36) (v := ?_) rfl rfl (by kernel_rfl) (by rfl) hQ7 hHeld ?_ ?_
    rotate_left
    · intro w7 hSw; (try dsimp only at hSw); go_simp; all_goals with_reducible rfl
    try simp only [Act.put, List.setIfInBounds_toArray, List.set_cons_zero, List.set_cons_succ]
    refine rg_take (i := 32) (some 4) (v := ?_) rfl rfl (by kernel_rfl) (by rfl) hQ7 hHeld ?_ ?_
    rotate_left
    · intro w7 hSw; (try dsimp only at hSw); go_simp; all_goals with_reducible rfl
    try simp only [Act.put, List.setIfInBounds_toArray, List.set_cons_zero, List.set_cons_succ]
    refine rg_end (by kernel_rfl) (hN7 _ _ ?_) _
    clear hQ7 hN7 Q7
    have BX := hHeld.1
    clear SS
    replace E := Lib.hid (ext_trans E.out BX)
    replace HA := Lib.hid (HA.out.ext BX)
    replace HK := Lib.hid (HK.out.ext BX)
    replace Y := Lib.hid (Y.out.ext BX)
    clear BX
    go_wp2_with fail
    go_ret
    exact ⟨ret_bool (HW.out.symm), E.out⟩
  have hk : k = 0 ∨ k = 1 ∨ k = 2 ∨ k = 3 ∨ k = 4 := by omega
  rcases hk with rfl | rfl | rfl | rfl | rfl
  · have E := Lib.hid (ext_refl w)
    have HA := Lib.hid (hA)
    have HK := Lib.hid (hK)
    clear hA hK
    obtain ⟨v, hv⟩ : ∃ v, false = v := ⟨_, rfl⟩
    have HV := Lib.hid hv
    have HW := Lib.hid (show wrong a.cls.n a.aps.n (⟨0, sc, sa, cl, ap, n, f, t⟩ : Ru) = !v by rw [← hv]; unfold wrong valK; simp; try omega)
    have f3 : decide (cl < 0) = false := by simpa using h3
    have f4 : decide ((a.cls.n : Int) ≤ cl) = false := by simpa using h4
    clear h1 h2 h3 h4 hv
    replace E := Lib.hid (ext_alloc E.out (.cells #[.int .i64 0, .string sc, .string sa, .int .i64 cl, .int .i64 ap, .int .i64 n, .int .i64 f, .int .i64 t] 42))
    replace HA := Lib.hid (HA.out.alloc (.cells #[.int .i64 0, .string sc, .string sa, .int .i64 cl, .int .i64 ap, .int .i64 n, .int .i64 f, .int .i64 t] 42))
    replace HK := Lib.hid (HK.out.alloc (.cells #[.int .i64 0, .string sc, .string sa, .int .i64 cl, .int .i64 ap, .int .i64 n, .int .i64 f, .int .i64 t] 42))
    have Y := Lib.hid (Blk.newH w [.int .i64 0, .string sc, .string sa, .int .i64 cl, .int .i64 ap, .int .i64 n, .int .i64 f, .int .i64 t] 42 (w.heap.size) (by first | rfl | simp))
    go_enter Try.func38, Try.ntmps38
    go_wp2_with fail
    have SS := Lib.hid (show ∀ w', Below (w.alloc (.cells #[.int .i64 0, .string sc, .string sa, .int .i64 cl, .int .i64 ap, .int .i64 n, .int .i64 f, .int .i64 t] 42)).heap.size (w.alloc (.cells #[.int .i64 0, .string sc, .string sa, .int .i64 cl, .int .i64 ap, .int .i64 n, .int .i64 f, .int .i64 t] 42)) w' → (fun w' => Below (w.alloc (.cells #[.int .i64 0, .string sc, .string sa, .int .i64 cl, .int .i64 ap, .int .i64 n, .int .i64 f, .int .i64 t] 42)).heap.size (w.alloc (.cells #[.int .i64 0, .string sc, .string sa, .int .i64 cl, .int .i64 ap, .int .i64 n, .int .i64 f, .int .i64 t] 42)) w' ∧ w'.cell? ⟨w.heap.size, 0, none⟩ = some (.int .i64 0) ∧ w'.cell? ⟨w.heap.size, 1, none⟩ = some (.string sc) ∧ w'.cell? ⟨w.heap.size, 2, none⟩ = some (.string sa) ∧ w'.cell? ⟨w.heap.size, 3, none⟩ = some (.int .i64 cl) ∧ w'.cell? ⟨w.heap.size, 4, none⟩ = some (.int .i64 ap) ∧ w'.cell? ⟨w.heap.size, 5, none⟩ = some (.int .i64 n) ∧ w'.cell? ⟨w.heap.size, 6, none⟩ = some (.int .i64 f) ∧ w'.cell? ⟨w.heap.size, 7, none⟩ = some (.int .i64 t) ∧ w'.cell? ⟨ba, 0, none⟩ = some (.slice a.s0.A a.s0.n a.s0.c) ∧ w'.cell? ⟨ba, 1, none⟩ = some (.slice a.s1.A a.s1.n a.s1.c) ∧ w'.cell? ⟨ba, 2, none⟩ = some (.slice a.s2.A a.s2.n a.s2.c) ∧ w'.cell? ⟨ba, 3, none⟩ = some (.slice a.s3.A a.s3.n a.s3.c) ∧ w'.cell? ⟨ba, 4, none⟩ = some (.slice a.s4.A a.s4.n a.s4.c) ∧ w'.cell? ⟨ba, 5, none⟩ = some (.slice a.aps.A a.aps.n a.aps.c) ∧ w'.cell? ⟨ba, 6, none⟩ = some (.slice a.cls.A a.cls.n a.cls.c) ∧ w'.cell? ⟨ba, 7, none⟩ = some (.slice a.rs.A a.rs.l.length a.rs.c) ∧ w'.cell? ⟨bk, 0, none⟩ = some (.func (.func 54) #[] #[]) ∧ w'.cell? ⟨bk, 1, none⟩ = some (.func (.func 55) #[] #[]) ∧ w'.cell? ⟨bk, 2, none⟩ = some (.func (.func 57) #[] #[]) ∧ w'.cell? ⟨bk, 3, none⟩ = some (.func (.func 59) #[] #[]) ∧ w'.cell? ⟨bk, 4, none⟩ = some (.func (.func 60) #[] #[])) w' from fun w' h => ⟨h, (Y.out.ext h).c 0 _ rfl, (Y.out.ext h).c 1 _ rfl, (Y.out.ext h).c 2 _ rfl, (Y.out.ext h).c 3 _ rfl, (Y.out.ext h).c 4 _ rfl, (Y.out.ext h).c 5 _ rfl, (Y.out.ext h).c 6 _ rfl, (Y.out.ext h).c 7 _ rfl, (HA.out.ext h).c 0 _ rfl, (HA.out.ext h).c 1 _ rfl, (HA.out.ext h).c 2 _ rfl, (HA.out.ext h).c 3 _ rfl, (HA.out.ext h).c 4 _ rfl, (HA.out.ext h).c 5 _ rfl, (HA.out.ext h).c 6 _ rfl, (HA.out.ext h).c 7 _ rfl, (HK.out.ext h).c 0 _ rfl, (HK.out.ext h).c 1 _ rfl, (HK.out.ext h).c 2 _ rfl, (HK.out.ext h).c 3 _ rfl, (HK.out.ext h).c 4 _ rfl⟩)
    refine rg_begin (S := (fun w' => Below (w.alloc (.cells #[.int .i64 0, .string sc, .string sa, .int .i64 cl, .int .i64 ap, .int .i64 n, .int .i64 f, .int .i64 t] 42)).heap.size (w.alloc (.cells #[.int .i64 0, .string sc, .string sa, .int .i64 cl, .int .i64 ap, .int .i64 n, .int .i64 f, .int .i64 t] 42)) w' ∧ w'.cell? ⟨w.heap.size, 0, none⟩ = some (.int .i64 0) ∧ w'.cell? ⟨w.heap.size, 1, none⟩ = some (.string sc) ∧ w'.cell? ⟨w.heap.size, 2, none⟩ = some (.string sa) ∧ w'.cell? ⟨w.heap.size, 3, none⟩ = some (.int .i64 cl) ∧ w'.cell? ⟨w.heap.size, 4, none⟩ = some (.int .i64 ap) ∧ w'.cell? ⟨w.heap.size, 5, none⟩ = some (.int .i64 n) ∧ w'.cell? ⟨w.heap.size, 6, none⟩ = some (.int .i64 f) ∧ w'.cell? ⟨w.heap.size, 7, none⟩ = some (.int .i64 t) ∧ w'.cell? ⟨ba, 0, none⟩ = some (.slice a.s0.A a.s0.n a.s0.c) ∧ w'.cell? ⟨ba, 1, none⟩ = some (.slice a.s1.A a.s1.n a.s1.c) ∧ w'.cell? ⟨ba, 2, none⟩ = some (.slice a.s2.A a.s2.n a.s2.c) ∧ w'.cell? ⟨ba, 3, none⟩ = some (.slice a.s3.A a.s3.n a.s3.c) ∧ w'.cell? ⟨ba, 4, none⟩ = some (.slice a.s4.A a.s4.n a.s4.c) ∧ w'.cell? ⟨ba, 5, none⟩ = some (.slice a.aps.A a.aps.n a.aps.c) ∧ w'.cell? ⟨ba, 6, none⟩ = some (.slice a.cls.A a.cls.n a.cls.c) ∧ w'.cell? ⟨ba, 7, none⟩ = some (.slice a.rs.A a.rs.l.length a.rs.c) ∧ w'.cell? ⟨bk, 0, none⟩ = some (.func (.func 54) #[] #[]) ∧ w'.cell? ⟨bk, 1, none⟩ = some (.func (.func 55) #[] #[]) ∧ w'.cell? ⟨bk, 2, none⟩ = some (.func (.func 57) #[] #[]) ∧ w'.cell? ⟨bk, 3, none⟩ = some (.func (.func 59) #[] #[]) ∧ w'.cell? ⟨bk, 4, none⟩ = some (.func (.func 60) #[] #[]))) 33 (by kernel_rfl) (by intro d; cases d <;> intro _ _ _ _ h <;> exact h) ?_ (fun Q7 hQ7 hN7 hHeld => ?_)
    · exact SS.out _ (ext_drew (ext_refl _))
    refine rg_take (i := 0) (some 5) (v := ?_) rfl rfl (by kernel_rfl) (by rfl) hQ7 hHeld ?_ ?_
    rotate_left
    · intro w7 hSw; (try dsimp only at hSw); go_simp; all_goals with_reducible rfl
    try simp only [Act.put, List.setIfInBounds_toArray, List.set_cons_zero, List.set_cons_succ]
    refine rg_take (i := 1) (some 6) (v := ?_) rfl rfl (by kernel_rfl) (by rfl) hQ7 hHeld ?_ ?_
    rotate_left
    · intro w7 hSw; (try dsimp only at hSw); go_simp; all_goals with_reducible rfl
    try simp only [Act.put, List.setIfInBounds_toArray, List.set_cons_zero, List.set_cons_succ]
    refine rg_take (i := 2) (some 7) (v := ?_) rfl rfl (by kernel_rfl) (by rfl) hQ7 hHeld ?_ ?_
    rotate_left
    · intro w7 hSw; (try dsimp only at hSw); go_simp; all_goals with_reducible rfl
    try simp only [Act.put, List.setIfInBounds_toArray, List.set_cons_zero, List.set_cons_succ]
    refine rg_take (i := 3) (some 8) (v := ?_) rfl rfl (by kernel_rfl) (by rfl) hQ7 hHeld ?_ ?_
    rotate_left
    · intro w7 hSw; (try dsimp only at hSw); go_simp; all_goals with_reducible rfl
    try simp only [Act.put, List.setIfInBounds_toArray, List.set_cons_zero, List.set_cons_succ]
    refine rg_take (i := 4) (some 9) (v := ?_) rfl rfl (by kernel_rfl) (by rfl) hQ7 hHeld ?_ ?_
    rotate_left
    · intro w7 hSw; (try dsimp only at hSw); go_simp; all_goals with_reducible rfl
    try simp only [Act.put, List.setIfInBounds_toArray, List.set_cons_zero, List.set_cons_succ]
    refine rg_take (i := 5) (some 10) (v := ?_) rfl rfl (by kernel_rfl) (by rfl) hQ7 hHeld ?_ ?_
    rotate_left
    · intro w7 hSw; (try dsimp only at hSw); go_simp; all_goals with_reducible rfl
    try simp only [Act.put, List.setIfInBounds_toArray, List.set_cons_zero, List.set_cons_succ]
    refine rg_take (i := 6) (some 11) (v := ?_) rfl rfl (by kernel_rfl) (by rfl) hQ7 hHeld ?_ ?_
    rotate_left
    · intro w7 hSw; (try dsimp only at hSw); go_simp; all_goals with_reducible rfl
    try simp only [Act.put, List.setIfInBounds_toArray, List.set_cons_zero, List.set_cons_succ]
    refine rg_take (i := 7) (some 12) (v := ?_) rfl rfl (by kernel_rfl) (by rfl) hQ7 hHeld ?_ ?_
    rotate_left
    · intro w7 hSw; (try dsimp only at hSw); go_simp; all_goals with_reducible rfl
    try simp only [Act.put, List.setIfInBounds_toArray, List.set_cons_zero, List.set_cons_succ]
    refine rg_take (i := 8) (some 13) (v := ?_) rfl rfl (by kernel_rfl) (by rfl) hQ7 hHeld ?_ ?_
    rotate_left
    · intro w7 hSw; (try dsimp only at hSw); go_simp; all_goals with_reducible rfl
    try simp only [Act.put, List.setIfInBounds_toArray, List.set_cons_zero, List.set_cons_succ]
    refine rg_take (i := 9) (some 14) (v := ?_) rfl rfl (by kernel_rfl) (by rfl) hQ7 hHeld ?_ ?_
    rotate_left
    · intro w7 hSw; (try dsimp only at hSw); go_simp; all_goals with_reducible rfl
    try simp only [Act.put, List.setIfInBounds_toArray, List.set_cons_zero, List.set_cons_succ]
    refine rg_take (i := 10) (some 15) (v := ?_) rfl rfl (by kernel_rfl) (by rfl) hQ7 hHeld ?_ ?_
    rotate_left
    · intro w7 hSw; (try dsimp only at hSw); go_simp; all_goals with_reducible rfl
    try simp only [Act.put, List.setIfInBounds_toArray, List.set_cons_zero, List.set_cons_succ]
    refine rg_take (i := 11) (some 16) (v := ?_) rfl rfl (by kernel_rfl) (by rfl) hQ7 hHeld ?_ ?_
    rotate_left
    · intro w7 hSw; (try dsimp only at hSw); go_simp; all_goals with_reducible rfl
    try simp only [Act.put, List.setIfInBounds_toArray, List.set_cons_zero, List.set_cons_succ]
    refine rg_take (i := 12) (some 17) (v := ?_) rfl rfl (by kernel_rfl) (by rfl) hQ7 hHeld ?_ ?_
    rotate_left
    · intro w7 hSw; (try dsimp only at hSw); go_simp; all_goals with_reducible rfl
    try simp only [Act.put, List.setIfInBounds_toArray, List.set_cons_zero, List.set_cons_succ]
    refine rg_take (i := 13) (some 18) (v := ?_) rfl rfl (by kernel_rfl) (by rfl) hQ7 hHeld ?_ ?_
    rotate_left
    · intro w7 hSw; (try dsimp only at hSw); go_simp; all_goals with_reducible rfl
    try simp only [Act.put, List.setIfInBounds_toArray, List.set_cons_zero, List.set_cons_succ]
    refine rg_take (i := 14) (some 19) (v := ?_) rfl rfl (by kernel_rfl) (by rfl) hQ7 hHeld ?_ ?_
    rotate_left
    · intro w7 hSw; (try dsimp only at hSw); go_simp; all_goals with_reducible rfl
    try simp only [Act.put, List.setIfInBounds_toArray, List.set_cons_zero, List.set_cons_succ]
    refine rg_take (i := 15) (some 20) (v := ?_) rfl rfl (by kernel_rfl) (by rfl) hQ7 hHeld ?_ ?_
    rotate_left
    · intro w7 hSw; (try dsimp only at hSw); go_simp; all_goals with_reducible rfl
    try simp only [Act.put, List.setIfInBounds_toArray, List.set_cons_zero, List.set_cons_succ]
    refine rg_take (i := 16) (some 21) (v := ?_) rfl rfl (by kernel_rfl) (by rfl) hQ7 hHeld ?_ ?_
    rotate_left
    · intro w7 hSw; (try dsimp only at hSw); go_simp; all_goals with_reducible rfl
    try simp only [Act.put, List.setIfInBounds_toArray, List.set_cons_zero, List.set_cons_succ]
    refine rg_take (i := 17) (some 22) (v := ?_) rfl rfl (by kernel_rfl) (by rfl) hQ7 hHeld ?_ ?_
    rotate_left
    · intro w7 hSw; (try dsimp only at hSw); go_simp; all_goals with_reducible rfl
    try simp only [Act.put, List.setIfInBounds_toArray, List.set_cons_zero, List.set_cons_succ]
    refine rg_take (i := 18) (some 23) (v := ?_) rfl rfl (by kernel_rfl) (by rfl) hQ7 hHeld ?_ ?_
    rotate_left
    · intro w7 hSw; (try dsimp only at hSw); go_simp; all_goals with_reducible rfl
    try simp only [Act.put, List.setIfInBounds_toArray, List.set_cons_zero, List.set_cons_succ]
    refine rg_take (i := 19) (some 24) (v := ?_) rfl rfl (by kernel_rfl) (by rfl) hQ7 hHeld ?_ ?_
    rotate_left
    · intro w7 hSw; (try dsimp only at hSw); go_simp; all_goals with_reducible rfl
    try simp only [Act.put, List.setIfInBounds_toArray, List.set_cons_zero, List.set_cons_succ]
    refine rg_take (i := 20) (some 25) (v := ?_) rfl rfl (by kernel_rfl) (by rfl) hQ7 hHeld ?_ ?_
    rotate_left
    · intro w7 hSw; (try dsimp only at hSw); go_simp; all_goals with_reducible rfl
    try simp only [Act.put, List.setIfInBounds_toArray, List.set_cons_zero, List.set_cons_succ]
    refine rg_take (i := 21) (some 26) (v := ?_) rfl rfl (by kernel_rfl) (by rfl) hQ7 hHeld ?_ ?_
    rotate_left
    · intro w7 hSw; (try dsimp only at hSw); go_simp; all_goals with_reducible rfl
    try simp only [Act.put, List.setIfInBounds_toArray, List.set_cons_zero, List.set_cons_succ]
    refine rg_take (i := 22) (some 27) (v := ?_) rfl rfl (by kernel_rfl) (by rfl) hQ7 hHeld ?_ ?_
    rotate_left
    · intro w7 hSw; (try dsimp only at hSw); go_simp; all_goals with_reducible rfl
    try simp only [Act.put, List.setIfInBounds_toArray, List.set_cons_zero, List.set_cons_succ]
    refine rg_take (i := 23) (some 28) (v := ?_) rfl rfl (by kernel_rfl) (by rfl) hQ7 hHeld ?_ ?_
    rotate_left
    · intro w7 hSw; (try dsimp only at hSw); go_simp; all_goals with_reducible rfl
    try simp only [Act.put, List.setIfInBounds_toArray, List.set_cons_zero, List.set_cons_succ]
    refine rg_take (i := 24) (some 29) (v := ?_) rfl rfl (by kernel_rfl) (by rfl) hQ7 hHeld ?_ ?_
    rotate_left
    · intro w7 hSw; (try dsimp only at hSw); go_simp; all_goals with_reducible rfl
    try simp only [Act.put, List.setIfInBounds_toArray, List.set_cons_zero, List.set_cons_succ]
    refine rg_take (i := 25) (some 30) (v := ?_) rfl rfl (by kernel_rfl) (by rfl) hQ7 hHeld ?_ ?_
    rotate_left
    · intro w7 hSw; (try dsimp only at hSw); go_simp; all_goals with_reducible rfl
    try simp only [Act.put, List.setIfInBounds_toArray, List.set_cons_zero, List.set_cons_succ]
    refine rg_take (i := 26) (some 31) (v := ?_) rfl rfl (by kernel_rfl) (by rfl) hQ7 hHeld ?_ ?_
    rotate_left
    · intro w7 hSw; (try dsimp only at hSw); go_simp; all_goals with_reducible rfl
    try simp only [Act.put, List.setIfInBounds_toArray, List.set_cons_zero, List.set_cons_succ]
    refine rg_take (i := 27) (some 32) (v := ?_) rfl rfl (by kernel_rfl) (by rfl) hQ7 hHeld ?_ ?_
    rotate_left
    · intro w7 hSw; (try dsimp only at hSw); go_simp; all_goals with_reducible rfl
    try simp only [Act.put, List.setIfInBounds_toArray, List.set_cons_zero, List.set_cons_succ]
    refine rg_take (i := 28) (some 33) (v := ?_) rfl rfl (by kernel_rfl) (by rfl) hQ7 hHeld ?_ ?_
    rotate_left
    · intro w7 hSw; (try dsimp only at hSw); go_simp; all_goals with_reducible rfl
    try simp only [Act.put, List.setIfInBounds_toArray, List.set_cons_zero, List.set_cons_succ]
    refine rg_one (i := 29) (by kernel_rfl) (rg_step rfl (by rfl) (fun K hK => ?_))
    go_simp
    refine (tabv (tab0_any a (⟨0, sc, sa, cl, ap, n, f, t⟩ : Ru) _) HV.out).mono ?_
    rintro e u1 ⟨rfl, B1⟩
    go_wp2_with fail
    refine hK.out _ _ ?_ (fun hHeld2 => ?_)
    · exact SS.out _ (ext_trans hHeld.1 B1)
    clear hHeld
    have hHeld := hHeld2
    clear hHeld2
    clear hK K
    try simp only [Act.put, List.setIfInBounds_toArray, List.set_cons_zero, List.set_cons_succ]
    refine rg_take (i := 30) (some 35) (v := ?_) rfl rfl (by kernel_rfl) (by rfl) hQ7 hHeld ?_ ?_
    rotate_left
    · intro w7 hSw; (try dsimp only at hSw); go_simp; all_goals with_reducible rfl
    try simp only [Act.put, List.setIfInBounds_toArray, List.set_cons_zero, List.set_cons_succ]
    refine rg_take (i := 31) (some 36) (v := ?_) rfl rfl (by kernel_rfl) (by rfl) hQ7 hHeld ?_ ?_
    rotate_left
    · intro w7 hSw; (try dsimp only at hSw); go_simp; all_goals with_reducible rfl
    try simp only [Act.put, List.setIfInBounds_toArray, List.set_cons_zero, List.set_cons_succ]
    refine rg_take (i := 32) (some 4) (v := ?_) rfl rfl (by kernel_rfl) (by rfl) hQ7 hHeld ?_ ?_
    rotate_left
    · intro w7 hSw; (try dsimp only at hSw); go_simp; all_goals with_reducible rfl
    try simp only [Act.put, List.setIfInBounds_toArray, List.set_cons_zero, List.set_cons_succ]
    refine rg_end (by kernel_rfl) (hN7 _ _ ?_) _
    clear hQ7 hN7 Q7
    have BX := hHeld.1
    clear SS
    replace E := Lib.hid (ext_trans E.out BX)
    replace HA := Lib.hid (HA.out.ext BX)
    replace HK := Lib.hid (HK.out.ext BX)
    replace Y := Lib.hid (Y.out.ext BX)
    clear BX
    go_wp2_with fail
    go_ret
    exact ⟨ret_bool (HW.out.symm), E.out⟩
  · have E := Lib.hid (ext_refl w)
    have HA := Lib.hid (hA)
    have HK := Lib.hid (hK)
    clear hA hK
    obtain ⟨v, hv⟩ : ∃ v, val1 a.aps.n (⟨1, sc, sa, cl, ap, n, f, t⟩ : Ru) = v := ⟨_, rfl⟩
    have HV := Lib.hid hv
    have HW := Lib.hid (show wrong a.cls.n a.aps.n (⟨1, sc, sa, cl, ap, n, f, t⟩ : Ru) = !v by rw [← hv]; unfold wrong valK; simp; try omega)
    have f3 : decide (cl < 0) = false := by simpa using h3
    have f4 : decide ((a.cls.n : Int) ≤ cl) = false := by simpa using h4
    clear h1 h2 h3 h4 hv
    replace E := Lib.hid (ext_alloc E.out (.cells #[.int .i64 1, .string sc, .string sa, .int .i64 cl, .int .i64 ap, .int .i64 n, .int .i64 f, .int .i64 t] 42))
    replace HA := Lib.hid (HA.out.alloc (.cells #[.int .i64 1, .string sc, .string sa, .int .i64 cl, .int .i64 ap, .int .i64 n, .int .i64 f, .int .i64 t] 42))
    replace HK := Lib.hid (HK.out.alloc (.cells #[.int .i64 1, .string sc, .string sa, .int .i64 cl, .int .i64 ap, .int .i64 n, .int .i64 f, .int .i64 t] 42))
    have Y := Lib.hid (Blk.newH w [.int .i64 1, .string sc, .string sa, .int .i64 cl, .int .i64 ap, .int .i64 n, .int .i64 f, .int .i64 t] 42 (w.heap.size) (by first | rfl | simp))
    go_enter Try.func38, Try.ntmps38
    go_wp2_with fail
    have SS := Lib.hid (show ∀ w', Below (w.alloc (.cells #[.int .i64 1, .string sc, .string sa, .int .i64 cl, .int .i64 ap, .int .i64 n, .int .i64 f, .int .i64 t] 42)).heap.size (w.alloc (.cells #[.int .i64 1, .string sc, .string sa, .int .i64 cl, .int .i64 ap, .int .i64 n, .int .i64 f, .int .i64 t] 42)) w' → (fun w' => Below (w.alloc (.cells #[.int .i64 1, .string sc, .string sa, .int .i64 cl, .int .i64 ap, .int .i64 n, .int .i64 f, .int .i64 t] 42)).heap.size (w.alloc (.cells #[.int .i64 1, .string sc, .string sa, .int .i64 cl, .int .i64 ap, .int .i64 n, .int .i64 f, .int .i64 t] 42)) w' ∧ w'.cell? ⟨w.heap.size, 0, none⟩ = some (.int .i64 1) ∧ w'.cell? ⟨w.heap.size, 1, none⟩ = some (.string sc) ∧ w'.cell? ⟨w.heap.size, 2, none⟩ = some (.string sa) ∧ w'.cell? ⟨w.heap.size, 3, none⟩ = some (.int .i64 cl) ∧ w'.cell? ⟨w.heap.size, 4, none⟩ = some (.int .i64 ap) ∧ w'.cell? ⟨w.heap.size, 5, none⟩ = some (.int .i64 n) ∧ w'.cell? ⟨w.heap.size, 6, none⟩ = some (.int .i64 f) ∧ w'.cell? ⟨w.heap.size, 7, none⟩ = some (.int .i64 t) ∧ w'.cell? ⟨ba, 0, none⟩ = some (.slice a.s0.A a.s0.n a.s0.c) ∧ w'.cell? ⟨ba, 1, none⟩ = some (.slice a.s1.A a.s1.n a.s1.c) ∧ w'.cell? ⟨ba, 2, none⟩ = some (.slice a.s2.A a.s2.n a.s2.c) ∧ w'.cell? ⟨ba, 3, none⟩ = some (.slice a.s3.A a.s3.n a.s3.c) ∧ w'.cell? ⟨ba, 4, none⟩ = some (.slice a.s4.A a.s4.n a.s4.c) ∧ w'.cell? ⟨ba, 5, none⟩ = some (.slice a.aps.A a.aps.n a.aps.c) ∧ w'.cell? ⟨ba, 6, none⟩ = some (.slice a.cls.A a.cls.n a.cls.c) ∧ w'.cell? ⟨ba, 7, none⟩ = some (.slice a.rs.A a.rs.l.length a.rs.c) ∧ w'.cell? ⟨bk, 0, none⟩ = some (.func (.func 54) #[] #[]) ∧ w'.cell? ⟨bk, 1, none⟩ = some (.func (.func 55) #[] #[]) ∧ w'.cell? ⟨bk, 2, none⟩ = some (.func (.func 57) #[] #[]) ∧ w'.cell? ⟨bk, 3, none⟩ = some (.func (.func 59) #[] #[]) ∧ w'.cell? ⟨bk, 4, none⟩ = some (.func (.func 60) #[] #[])) w' from fun w' h => ⟨h, (Y.out.ext h).c 0 _ rfl, (Y.out.ext h).c 1 _ rfl, (Y.out.ext h).c 2 _ rfl, (Y.out.ext h).c 3 _ rfl, (Y.out.ext h).c 4 _ rfl, (Y.out.ext h).c 5 _ rfl, (Y.out.ext h).c 6 _ rfl, (Y.out.ext h).c 7 _ rfl, (HA.out.ext h).c 0 _ rfl, (HA.out.ext h).c 1 _ rfl, (HA.out.ext h).c 2 _ rfl, (HA.out.ext h).c 3 _ rfl, (HA.out.ext h).c 4 _ rfl, (HA.out.ext h).c 5 _ rfl, (HA.out.ext h).c 6 _ rfl, (HA.out.ext h).c 7 _ rfl, (HK.out.ext h).c 0 _ rfl, (HK.out.ext h).c 1 _ rfl, (HK.out.ext h).c 2 _ rfl, (HK.out.ext h).c 3 _ rfl, (HK.out.ext h).c 4 _ rfl⟩)
    refine rg_begin (S := (fun w' => Below (w.alloc (.cells #[.int .i64 1, .string sc, .string sa, .int .i64 cl, .int .i64 ap, .int .i64 n, .int .i64 f, .int .i64 t] 42)).heap.size (w.alloc (.cells #[.int .i64 1, .string sc, .string sa, .int .i64 cl, .int .i64 ap, .int .i64 n, .int .i64 f, .int .i64 t] 42)) w' ∧ w'.cell? ⟨w.heap.size, 0, none⟩ = some (.int .i64 1) ∧ w'.cell? ⟨w.heap.size, 1, none⟩ = some (.string sc) ∧ w'.cell? ⟨w.heap.size, 2, none⟩ = some (.string sa) ∧ w'.cell? ⟨w.heap.size, 3, none⟩ = some (.int .i64 cl) ∧ w'.cell? ⟨w.heap.size, 4, none⟩ = some (.int .i64 ap) ∧ w'.cell? ⟨w.heap.size, 5, none⟩ = some (.int .i64 n) ∧ w'.cell? ⟨w.heap.size, 6, none⟩ = some (.int .i64 f) ∧ w'.cell? ⟨w.heap.size, 7, none⟩ = some (.int .i64 t) ∧ w'.cell? ⟨ba, 0, none⟩ = some (.slice a.s0.A a.s0.n a.s0.c) ∧ w'.cell? ⟨ba, 1, none⟩ = some (.slice a.s1.A a.s1.n a.s1.c) ∧ w'.cell? ⟨ba, 2, none⟩ = some (.slice a.s2.A a.s2.n a.s2.c) ∧ w'.cell? ⟨ba, 3, none⟩ = some (.slice a.s3.A a.s3.n a.s3.c) ∧ w'.cell? ⟨ba, 4, none⟩ = some (.slice a.s4.A a.s4.n a.s4.c) ∧ w'.cell? ⟨ba, 5, none⟩ = some (.slice a.aps.A a.aps.n a.aps.c) ∧ w'.cell? ⟨ba, 6, none⟩ = some (.slice a.cls.A a.cls.n a.cls.c) ∧ w'.cell? ⟨ba, 7, none⟩ = some (.slice a.rs.A a.rs.l.length a.rs.c) ∧ w'.cell? ⟨bk, 0, none⟩ = some (.func (.func 54) #[] #[]) ∧ w'.cell? ⟨bk, 1, none⟩ = some (.func (.func 55) #[] #[]) ∧ w'.cell? ⟨bk, 2, none⟩ = some (.func (.func 57) #[] #[]) ∧ w'.cell? ⟨bk, 3, none⟩ = some (.func (.func 59) #[] #[]) ∧ w'.cell? ⟨bk, 4, none⟩ = some (.func (.func 60) #[] #[]))) 33 (by kernel_rfl) (by intro d; cases d <;> intro _ _ _ _ h <;> exact h) ?_ (fun Q7 hQ7 hN7 hHeld => ?_)
    · exact SS.out _ (ext_drew (ext_refl _))
    refine rg_take (i := 0) (some 5) (v := ?_) rfl rfl (by kernel_rfl) (by rfl) hQ7 hHeld ?_ ?_
    rotate_left
    · intro w7 hSw; (try dsimp only at hSw); go_simp; all_goals with_reducible rfl
    try simp only [Act.put, List.setIfInBounds_toArray, List.set_cons_zero, List.set_cons_succ]
    refine rg_take (i := 1) (some 6) (v := ?_) rfl rfl (by kernel_rfl) (by rfl) hQ7 hHeld ?_ ?_
    rotate_left
    · intro w7 hSw; (try dsimp only at hSw); go_simp; all_goals with_reducible rfl
    try simp only [Act.put, List.setIfInBounds_toArray, List.set_cons_zero, List.set_cons_succ]
    refine rg_take (i := 2) (some 7) (v := ?_) rfl rfl (by kernel_rfl) (by rfl) hQ7 hHeld ?_ ?_
    rotate_left
    · intro w7 hSw; (try dsimp only at hSw); go_simp; all_goals with_reducible rfl
    try simp only [Act.put, List.setIfInBounds_toArray, List.set_cons_zero, List.set_cons_succ]
    refine rg_take (i := 3) (some 8) (v := ?_) rfl rfl (by kernel_rfl) (by rfl) hQ7 hHeld ?_ ?_
    rotate_left
    · intro w7 hSw; (try dsimp only at hSw); go_simp; all_goals with_reducible rfl
    try simp only [Act.put, List.setIfInBounds_toArray, List.set_cons_zero, List.set_cons_succ]
    refine rg_take (i := 4) (some 9) (v := ?_) rfl rfl (by kernel_rfl) (by rfl) hQ7 hHeld ?_ ?_
    rotate_left
    · intro w7 hSw; (try dsimp only at hSw); go_simp; all_goals with_reducible rfl
    try simp only [Act.put, List.setIfInBounds_toArray, List.set_cons_zero, List.set_cons_succ]
    refine rg_take (i := 5) (some 10) (v := ?_) rfl rfl (by kernel_rfl) (by rfl) hQ7 hHeld ?_ ?_
    rotate_left
    · intro w7 hSw; (try dsimp only at hSw); go_simp; all_goals with_reducible rfl
    try simp only [Act.put, List.setIfInBounds_toArray, List.set_cons_zero, List.set_cons_succ]
    refine rg_take (i := 6) (some 11) (v := ?_) rfl rfl (by kernel_rfl) (by rfl) hQ7 hHeld ?_ ?_
    rotate_left
    · intro w7 hSw; (try dsimp only at hSw); go_simp; all_goals with_reducible rfl
    try simp only [Act.put, List.setIfInBounds_toArray, List.set_cons_zero, List.set_cons_succ]
    refine rg_take (i := 7) (some 12) (v := ?_) rfl rfl (by kernel_rfl) (by rfl) hQ7 hHeld ?_ ?_
    rotate_left
    · intro w7 hSw; (try dsimp only at hSw); go_simp; all_goals with_reducible rfl
    try simp only [Act.put, List.setIfInBounds_toArray, List.set_cons_zero, List.set_cons_succ]
    refine rg_take (i := 8) (some 13) (v := ?_) rfl rfl (by kernel_rfl) (by rfl) hQ7 hHeld ?_ ?_
    rotate_left
    · intro w7 hSw; (try dsimp only at hSw); go_simp; all_goals with_reducible rfl
    try simp only [Act.put, List.setIfInBounds_toArray, List.set_cons_zero, List.set_cons_succ]
    refine rg_take (i := 9) (some 14) (v := ?_) rfl rfl (by kernel_rfl) (by rfl) hQ7 hHeld ?_ ?_
    rotate_left
    · intro w7 hSw; (try dsimp only at hSw); go_simp; all_goals with_reducible rfl
    try simp only [Act.put, List.setIfInBounds_toArray, List.set_cons_zero, List.set_cons_succ]
    refine rg_take (i := 10) (some 15) (v := ?_) rfl rfl (by kernel_rfl) (by rfl) hQ7 hHeld ?_ ?_
    rotate_left
    · intro w7 hSw; (try dsimp only at hSw); go_simp; all_goals with_reducible rfl
    try simp only [Act.put, List.setIfInBounds_toArray, List.set_cons_zero, List.set_cons_succ]
    refine rg_take (i := 11) (some 16) (v := ?_) rfl rfl (by kernel_rfl) (by rfl) hQ7 hHeld ?_ ?_
    rotate_left
    · intro w7 hSw; (try dsimp only at hSw); go_simp; all_goals with_reducible rfl
    try simp only [Act.put, List.setIfInBounds_toArray, List.set_cons_zero, List.set_cons_succ]
    refine rg_take (i := 12) (some 17) (v := ?_) rfl rfl (by kernel_rfl) (by rfl) hQ7 hHeld ?_ ?_
    rotate_left
    · intro w7 hSw; (try dsimp only at hSw); go_simp; all_goals with_reducible rfl
    try simp only [Act.put, List.setIfInBounds_toArray, List.set_cons_zero, List.set_cons_succ]
    refine rg_take (i := 13) (some 18) (v := ?_) rfl rfl (by kernel_rfl) (by rfl) hQ7 hHeld ?_ ?_
    rotate_left
    · intro w7 hSw; (try dsimp only at hSw); go_simp; all_goals with_reducible rfl
    try simp only [Act.put, List.setIfInBounds_toArray, List.set_cons_zero, List.set_cons_succ]
    refine rg_take (i := 14) (some 19) (v := ?_) rfl rfl (by kernel_rfl) (by rfl) hQ7 hHeld ?_ ?_
    rotate_left
    · intro w7 hSw; (try dsimp only at hSw); go_simp; all_goals with_reducible rfl
    try simp only [Act.put, List.setIfInBounds_toArray, List.set_cons_zero, List.set_cons_succ]
    refine rg_take (i := 15) (some 20) (v := ?_) rfl rfl (by kernel_rfl) (by rfl) hQ7 hHeld ?_ ?_
    rotate_left
    · intro w7 hSw; (try dsimp only at hSw); go_simp; all_goals with_reducible rfl
    try simp only [Act.put, List.setIfInBounds_toArray, List.set_cons_zero, List.set_cons_succ]
    refine rg_take (i := 16) (some 21) (v := ?_) rfl rfl (by kernel_rfl) (by rfl) hQ7 hHeld ?_ ?_
    rotate_left
    · intro w7 hSw; (try dsimp only at hSw); go_simp; all_goals with_reducible rfl
    try simp only [Act.put, List.setIfInBounds_toArray, List.set_cons_zero, List.set_cons_succ]
    refine rg_take (i := 17) (some 22) (v := ?_) rfl rfl (by kernel_rfl) (by rfl) hQ7 hHeld ?_ ?_
    rotate_left
    · intro w7 hSw; (try dsimp only at hSw); go_simp; all_goals with_reducible rfl
    try simp only [Act.put, List.setIfInBounds_toArray, List.set_cons_zero, List.set_cons_succ]
    refine rg_take (i := 18) (some 23) (v := ?_) rfl rfl (by kernel_rfl) (by rfl) hQ7 hHeld ?_ ?_
    rotate_left
    · intro w7 hSw; (try dsimp only at hSw); go_simp; all_goals with_reducible rfl
    try simp only [Act.put, List.setIfInBounds_toArray, List.set_cons_zero, List.set_cons_succ]
    refine rg_take (i := 19) (some 24) (v := ?_) rfl rfl (by kernel_rfl) (by rfl) hQ7 hHeld ?_ ?_
    rotate_left
    · intro w7 hSw; (try dsimp only at hSw); go_simp; all_goals with_reducible rfl
    try simp only [Act.put, List.setIfInBounds_toArray, List.set_cons_zero, List.set_cons_succ]
    refine rg_take (i := 20) (some 25) (v := ?_) rfl rfl (by kernel_rfl) (by rfl) hQ7 hHeld ?_ ?_
    rotate_left
    · intro w7 hSw; (try dsimp only at hSw); go_simp; all_goals with_reducible rfl
    try simp only [Act.put, List.setIfInBounds_toArray, List.set_cons_zero, List.set_cons_succ]
    refine rg_take (i := 21) (some 26) (v := ?_) rfl rfl (by kernel_rfl) (by rfl) hQ7 hHeld ?_ ?_
    rotate_left
    · intro w7 hSw; (try dsimp only at hSw); go_simp; all_goals with_reducible rfl
    try simp only [Act.put, List.setIfInBounds_toArray, List.set_cons_zero, List.set_cons_succ]
    refine rg_take (i := 22) (some 27) (v := ?_) rfl rfl (by kernel_rfl) (by rfl) hQ7 hHeld ?_ ?_
    rotate_left
    · intro w7 hSw; (try dsimp only at hSw); go_simp; all_goals with_reducible rfl
    try simp only [Act.put, List.setIfInBounds_toArray, List.set_cons_zero, List.set_cons_succ]
    refine rg_take (i := 23) (some 28) (v := ?_) rfl rfl (by kernel_rfl) (by rfl) hQ7 hHeld ?_ ?_
    rotate_left
    · intro w7 hSw; (try dsimp only at hSw); go_simp; all_goals with_reducible rfl
    try simp only [Act.put, List.setIfInBounds_toArray, List.set_cons_zero, List.set_cons_succ]
    refine rg_take (i := 24) (some 29) (v := ?_) rfl rfl (by kernel_rfl) (by rfl) hQ7 hHeld ?_ ?_
    rotate_left
    · intro w7 hSw; (try dsimp only at hSw); go_simp; all_goals with_reducible rfl
    try simp only [Act.put, List.setIfInBounds_toArray, List.set_cons_zero, List.set_cons_succ]
    refine rg_take (i := 25) (some 30) (v := ?_) rfl rfl (by kernel_rfl) (by rfl) hQ7 hHeld ?_ ?_
    rotate_left
    · intro w7 hSw; (try dsimp only at hSw); go_simp; all_goals with_reducible rfl
    try simp only [Act.put, List.setIfInBounds_toArray, List.set_cons_zero, List.set_cons_succ]
    refine rg_take (i := 26) (some 31) (v := ?_) rfl rfl (by kernel_rfl) (by rfl) hQ7 hHeld ?_ ?_
    rotate_left
    · intro w7 hSw; (try dsimp only at hSw); go_simp; all_goals with_reducible rfl
    try simp only [Act.put, List.setIfInBounds_toArray, List.set_cons_zero, List.set_cons_succ]
    refine rg_take (i := 27) (some 32) (v := ?_) rfl rfl (by kernel_rfl) (by rfl) hQ7 hHeld ?_ ?_
    rotate_left
    · intro w7 hSw; (try dsimp only at hSw); go_simp; all_goals with_reducible rfl
    try simp only [Act.put, List.setIfInBounds_toArray, List.set_cons_zero, List.set_cons_succ]
    refine rg_take (i := 28) (some 33) (v := ?_) rfl rfl (by kernel_rfl) (by rfl) hQ7 hHeld ?_ ?_
    rotate_left
    · intro w7 hSw; (try dsimp only at hSw); go_simp; all_goals with_reducible rfl
    try simp only [Act.put, List.setIfInBounds_toArray, List.set_cons_zero, List.set_cons_succ]
    refine rg_one (i := 29) (by kernel_rfl) (rg_step rfl (by rfl) (fun K hK => ?_))
    go_simp
    refine (tabv (tab1_any a (⟨1, sc, sa, cl, ap, n, f, t⟩ : Ru) _) HV.out).mono ?_
    rintro e u1 ⟨rfl, B1⟩
    go_wp2_with fail
    refine hK.out _ _ ?_ (fun hHeld2 => ?_)
    · exact SS.out _ (ext_trans hHeld.1 B1)
    clear hHeld
    have hHeld := hHeld2
    clear hHeld2
    clear hK K
    try simp only [Act.put, List.setIfInBounds_toArray, List.set_cons_zero, List.set_cons_succ]
    refine rg_take (i := 30) (some 35) (v := ?_) rfl rfl (by kernel_rfl) (by rfl) hQ7 hHeld ?_ ?_
    rotate_left
    · intro w7 hSw; (try dsimp only at hSw); go_simp; all_goals with_reducible rfl
    try simp only [Act.put, List.setIfInBounds_toArray, List.set_cons_zero, List.set_cons_succ]
    refine rg_take (i := 31) (some 36) (v := ?_) rfl rfl (by kernel_rfl) (by rfl) hQ7 hHeld ?_ ?_
    rotate_left
    · intro w7 hSw; (try dsimp only at hSw); go_simp; all_goals with_reducible rfl
    try simp only [Act.put, List.setIfInBounds_toArray, List.set_cons_zero, List.set_cons_succ]
    refine rg_take (i := 32) (some 4) (v := ?_) rfl rfl (by kernel_rfl) (by rfl) hQ7 hHeld ?_ ?_
    rotate_left
    · intro w7 hSw; (try dsimp only at hSw); go_simp; all_goals with_reducible rfl
    try simp only [Act.put, List.setIfInBounds_toArray, List.set_cons_zero, List.set_cons_succ]
    refine rg_end (by kernel_rfl) (hN7 _ _ ?_) _
    clear hQ7 hN7 Q7
    have BX := hHeld.1
    clear SS
    replace E := Lib.hid (ext_trans E.out BX)
    replace HA := Lib.hid (HA.out.ext BX)
    replace HK := Lib.hid (HK.out.ext BX)
    replace Y := Lib.hid (Y.out.ext BX)
    clear BX
    go_wp2_with fail
    go_ret
    exact ⟨ret_bool (HW.out.symm), E.out⟩
  · have E := Lib.hid (ext_refl w)
    have HA := Lib.hid (hA)
    have HK := Lib.hid (hK)
    clear hA hK
    obtain ⟨v, hv⟩ : ∃ v, val2 (⟨2, sc, sa, cl, ap, n, f, t⟩ : Ru) = v := ⟨_, rfl⟩
    have HV := Lib.hid hv
    have HW := Lib.hid (show wrong a.cls.n a.aps.n (⟨2, sc, sa, cl, ap, n, f, t⟩ : Ru) = !v by rw [← hv]; unfold wrong valK; simp; try omega)
    have f3 : decide (cl < 0) = false := by simpa using h3
    have f4 : decide ((a.cls.n : Int) ≤ cl) = false := by simpa using h4
    clear h1 h2 h3 h4 hv
    replace E := Lib.hid (ext_alloc E.out (.cells #[.int .i64 2, .string sc, .string sa, .int .i64 cl, .int .i64 ap, .int .i64 n, .int .i64 f, .int .i64 t] 42))
    replace HA := Lib.hid (HA.out.alloc (.cells #[.int .i64 2, .string sc, .string sa, .int .i64 cl, .int .i64 ap, .int .i64 n, .int .i64 f, .int .i64 t] 42))
    replace HK := Lib.hid (HK.out.alloc (.cells #[.int .i64 2, .string sc, .string sa, .int .i64 cl, .int .i64 ap, .int .i64 n, .int .i64 f, .int .i64 t] 42))
    have Y := Lib.hid (Blk.newH w [.int .i64 2, .string sc, .string sa, .int .i64 cl, .int .i64 ap, .int .i64 n, .int .i64 f, .int .i64 t] 42 (w.heap.size) (by first | rfl | simp))
    go_enter Try.func38, Try.ntmps38
    go_wp2_with fail
    have SS := Lib.hid (show ∀ w', Below (w.alloc (.cells #[.int .i64 2, .string sc, .string sa, .int .i64 cl, .int .i64 ap, .int .i64 n, .int .i64 f, .int .i64 t] 42)).heap.size (w.alloc (.cells #[.int .i64 2, .string sc, .string sa, .int .i64 cl, .int .i64 ap, .int .i64 n, .int .i64 f, .int .i64 t] 42)) w' → (fun w' => Below (w.alloc (.cells #[.int .i64 2, .string sc, .string sa, .int .i64 cl, .int .i64 ap, .int .i64 n, .int .i64 f, .int .i64 t] 42)).heap.size (w.alloc (.cells #[.int .i64 2, .string sc, .string sa, .int .i64 cl, .int .i64 ap, .int .i64 n, .int .i64 f, .int .i64 t] 42)) w' ∧ w'.cell? ⟨w.heap.size, 0, none⟩ = some (.int .i64 2) ∧ w'.cell? ⟨w.heap.size, 1, none⟩ = some (.string sc) ∧ w'.cell? ⟨w.heap.size, 2, none⟩ = some (.string sa) ∧ w'.cell? ⟨w.heap.size, 3, none⟩ = some (.int .i64 cl) ∧ w'.cell? ⟨w.heap.size, 4, none⟩ = some (.int .i64 ap) ∧ w'.cell? ⟨w.heap.size, 5, none⟩ = some (.int .i64 n) ∧ w'.cell? ⟨w.heap.size, 6, none⟩ = some (.int .i64 f) ∧ w'.cell? ⟨w.heap.size, 7, none⟩ = some (.int .i64 t) ∧ w'.cell? ⟨ba, 0, none⟩ = some (.slice a.s0.A a.s0.n a.s0.c) ∧ w'.cell? ⟨ba, 1, none⟩ = some (.slice a.s1.A a.s1.n a.s1.c) ∧ w'.cell? ⟨ba, 2, none⟩ = some (.slice a.s2.A a.s2.n a.s2.c) ∧ w'.cell? ⟨ba, 3, none⟩ = some (.slice a.s3.A a.s3.n a.s3.c) ∧ w'.cell? ⟨ba, 4, none⟩ = some (.slice a.s4.A a.s4.n a.s4.c) ∧ w'.cell? ⟨ba, 5, none⟩ = some (.slice a.aps.A a.aps.n a.aps.c) ∧ w'.cell? ⟨ba, 6, none⟩ = some (.slice a.cls.A a.cls.n a.cls.c) ∧ w'.cell? ⟨ba, 7, none⟩ = some (.slice a.rs.A a.rs.l.length a.rs.c) ∧ w'.cell? ⟨bk, 0, none⟩ = some (.func (.func 54) #[] #[]) ∧ w'.cell? ⟨bk, 1, none⟩ = some (.func (.func 55) #[] #[]) ∧ w'.cell? ⟨bk, 2, none⟩ = some (.func (.func 57) #[] #[]) ∧ w'.cell? ⟨bk, 3, none⟩ = some (.func (.func 59) #[] #[]) ∧ w'.cell? ⟨bk, 4, none⟩ = some (.func (.func 60) #[] #[])) w' from fun w' h => ⟨h, (Y.out.ext h).c 0 _ rfl, (Y.out.ext h).c 1 _ rfl, (Y.out.ext h).c 2 _ rfl, (Y.out.ext h).c 3 _ rfl, (Y.out.ext h).c 4 _ rfl, (Y.out.ext h).c 5 _ rfl, (Y.out.ext h).c 6 _ rfl, (Y.out.ext h).c 7 _ rfl, (HA.out.ext h).c 0 _ rfl, (HA.out.ext h).c 1 _ rfl, (HA.out.ext h).c 2 _ rfl, (HA.out.ext h).c 3 _ rfl, (HA.out.ext h).c 4 _ rfl, (HA.out.ext h).c 5 _ rfl, (HA.out.ext h).c 6 _ rfl, (HA.out.ext h).c 7 _ rfl, (HK.out.ext h).c 0 _ rfl, (HK.out.ext h).c 1 _ rfl, (HK.out.ext h).c 2 _ rfl, (HK.out.ext h).c 3 _ rfl, (HK.out.ext h).c 4 _ rfl⟩)
    refine rg_begin (S := (fun w' => Below (w.alloc (.cells #[.int .i64 2, .string sc, .string sa, .int .i64 cl, .int .i64 ap, .int .i64 n, .int .i64 f, .int .i64 t] 42)).heap.size (w.alloc (.cells #[.int .i64 2, .string sc, .string sa, .int .i64 cl, .int .i64 ap, .int .i64 n, .int .i64 f, .int .i64 t] 42)) w' ∧ w'.cell? ⟨w.heap.size, 0, none⟩ = some (.int .i64 2) ∧ w'.cell? ⟨w.heap.size, 1, none⟩ = some (.string sc) ∧ w'.cell? ⟨w.heap.size, 2, none⟩ = some (.string sa) ∧ w'.cell? ⟨w.heap.size, 3, none⟩ = some (.int .i64 cl) ∧ w'.cell? ⟨w.heap.size, 4, none⟩ = some (.int .i64 ap) ∧ w'.cell? ⟨w.heap.size, 5, none⟩ = some (.int .i64 n) ∧ w'.cell? ⟨w.heap.size, 6, none⟩ = some (.int .i64 f) ∧ w'.cell? ⟨w.heap.size, 7, none⟩ = some (.int .i64 t) ∧ w'.cell? ⟨ba, 0, none⟩ = some (.slice a.s0.A a.s0.n a.s0.c) ∧ w'.cell? ⟨ba, 1, none⟩ = some (.slice a.s1.A a.s1.n a.s1.c) ∧ w'.cell? ⟨ba, 2, none⟩ = some (.slice a.s2.A a.s2.n a.s2.c) ∧ w'.cell? ⟨ba, 3, none⟩ = some (.slice a.s3.A a.s3.n a.s3.c) ∧ w'.cell? ⟨ba, 4, none⟩ = some (.slice a.s4.A a.s4.n a.s4.c) ∧ w'.cell? ⟨ba, 5, none⟩ = some (.slice a.aps.A a.aps.n a.aps.c) ∧ w'.cell? ⟨ba, 6, none⟩ = some (.slice a.cls.A a.cls.n a.cls.c) ∧ w'.cell? ⟨ba, 7, none⟩ = some (.slice a.rs.A a.rs.l.length a.rs.c) ∧ w'.cell? ⟨bk, 0, none⟩ = some (.func (.func 54) #[] #[]) ∧ w'.cell? ⟨bk, 1, none⟩ = some (.func (.func 55) #[] #[]) ∧ w'.cell? ⟨bk, 2, none⟩ = some (.func (.func 57) #[] #[]) ∧ w'.cell? ⟨bk, 3, none⟩ = some (.func (.func 59) #[] #[]) ∧ w'.cell? ⟨bk, 4, none⟩ = some (.func (.func 60) #[] #[]))) 33 (by kernel_rfl) (by intro d; cases d <;> intro _ _ _ _ h <;> exact h) ?_ (fun Q7 hQ7 hN7 hHeld => ?_)
    · exact SS.out _ (ext_drew (ext_refl _))
    refine rg_take (i := 0) (some 5) (v := ?_) rfl rfl (by kernel_rfl) (by rfl) hQ7 hHeld ?_ ?_
    rotate_left
    · intro w7 hSw; (try dsimp only at hSw); go_simp; all_goals with_reducible rfl
    try simp only [Act.put, List.setIfInBounds_toArray, List.set_cons_zero, List.set_cons_succ]
    refine rg_take (i := 1) (some 6) (v := ?_) rfl rfl (by kernel_rfl) (by rfl) hQ7 hHeld ?_ ?_
    rotate_left
    · intro w7 hSw; (try dsimp only at hSw); go_simp; all_goals with_reducible rfl
    try simp only [Act.put, List.setIfInBounds_toArray, List.set_cons_zero, List.set_cons_succ]
    refine rg_take (i := 2) (some 7) (v := ?_) rfl rfl (by kernel_rfl) (by rfl) hQ7 hHeld ?_ ?_
    rotate_left
    · intro w7 hSw; (try dsimp only at hSw); go_simp; all_goals with_reducible rfl
    try simp only [Act.put, List.setIfInBounds_toArray, List.set_cons_zero, List.set_cons_succ]
    refine rg_take (i := 3) (some 8) (v := ?_) rfl rfl (by kernel_rfl) (by rfl) hQ7 hHeld ?_ ?_
    rotate_left
    · intro w7 hSw; (try dsimp only at hSw); go_simp; all_goals with_reducible rfl
    try simp only [Act.put, List.setIfInBounds_toArray, List.set_cons_zero, List.set_cons_succ]
    refine rg_take (i := 4) (some 9) (v := ?_) rfl rfl (by kernel_rfl) (by rfl) hQ7 hHeld ?_ ?_
    rotate_left
    · intro w7 hSw; (try dsimp only at hSw); go_simp; all_goals with_reducible rfl
    try simp only [Act.put, List.setIfInBounds_toArray, List.set_cons_zero, List.set_cons_succ]
    refine rg_take (i := 5) (some 10) (v := ?_) rfl rfl (by kernel_rfl) (by rfl) hQ7 hHeld ?_ ?_
    rotate_left
    · intro w7 hSw; (try dsimp only at hSw); go_simp; all_goals with_reducible rfl
    try simp only [Act.put, List.setIfInBounds_toArray, List.set_cons_zero, List.set_cons_succ]
    refine rg_take (i := 6) (some 11) (v := ?_) rfl rfl (by kernel_rfl) (by rfl) hQ7 hHeld ?_ ?_
    rotate_left
    · intro w7 hSw; (try dsimp only at hSw); go_simp; all_goals with_reducible rfl
    try simp only [Act.put, List.setIfInBounds_toArray, List.set_cons_zero, List.set_cons_succ]
    refine rg_take (i := 7) (some 12) (v := ?_) rfl rfl (by kernel_rfl) (by rfl) hQ7 hHeld ?_ ?_
    rotate_left
    · intro w7 hSw; (try dsimp only at hSw); go_simp; all_goals with_reducible rfl
    try simp only [Act.put, List.setIfInBounds_toArray, List.set_cons_zero, List.set_cons_succ]
    refine rg_take (i := 8) (some 13) (v := ?_) rfl rfl (by kernel_rfl) (by rfl) hQ7 hHeld ?_ ?_
    rotate_left
    · intro w7 hSw; (try dsimp only at hSw); go_simp; all_goals with_reducible rfl
    try simp only [Act.put, List.setIfInBounds_toArray, List.set_cons_zero, List.set_cons_succ]
    refine rg_take (i := 9) (some 14) (v := ?_) rfl rfl (by kernel_rfl) (by rfl) hQ7 hHeld ?_ ?_
    rotate_left
    · intro w7 hSw; (try dsimp only at hSw); go_simp; all_goals with_reducible rfl
    try simp only [Act.put, List.setIfInBounds_toArray, List.set_cons_zero, List.set_cons_succ]
    refine rg_take (i := 10) (some 15) (v := ?_) rfl rfl (by kernel_rfl) (by rfl) hQ7 hHeld ?_ ?_
    rotate_left
    · intro w7 hSw; (try dsimp only at hSw); go_simp; all_goals with_reducible rfl
    try simp only [Act.put, List.setIfInBounds_toArray, List.set_cons_zero, List.set_cons_succ]
    refine rg_take (i := 11) (some 16) (v := ?_) rfl rfl (by kernel_rfl) (by rfl) hQ7 hHeld ?_ ?_
    rotate_left
    · intro w7 hSw; (try dsimp only at hSw); go_simp; all_goals with_reducible rfl
    try simp only [Act.put, List.setIfInBounds_toArray, List.set_cons_zero, List.set_cons_succ]
    refine rg_take (i := 12) (some 17) (v := ?_) rfl rfl (by kernel_rfl) (by rfl) hQ7 hHeld ?_ ?_
    rotate_left
    · intro w7 hSw; (try dsimp only at hSw); go_simp; all_goals with_reducible rfl
    try simp only [Act.put, List.setIfInBounds_toArray, List.set_cons_zero, List.set_cons_succ]
    refine rg_take (i := 13) (some 18) (v := ?_) rfl rfl (by kernel_rfl) (by rfl) hQ7 hHeld ?_ ?_
    rotate_left
    · intro w7 hSw; (try dsimp only at hSw); go_simp; all_goals with_reducible rfl
    try simp only [Act.put, List.setIfInBounds_toArray, List.set_cons_zero, List.set_cons_succ]
    refine rg_take (i := 14) (some 19) (v := ?_) rfl rfl (by kernel_rfl) (by rfl) hQ7 hHeld ?_ ?_
    rotate_left
    · intro w7 hSw; (try dsimp only at hSw); go_simp; all_goals with_reducible rfl
    try simp only [Act.put, List.setIfInBounds_toArray, List.set_cons_zero, List.set_cons_succ]
    refine rg_take (i := 15) (some 20) (v := ?_) rfl rfl (by kernel_rfl) (by rfl) hQ7 hHeld ?_ ?_
    rotate_left
    · intro w7 hSw; (try dsimp only at hSw); go_simp; all_goals with_reducible rfl
    try simp only [Act.put, List.setIfInBounds_toArray, List.set_cons_zero, List.set_cons_succ]
    refine rg_take (i := 16) (some 21) (v := ?_) rfl rfl (by kernel_rfl) (by rfl) hQ7 hHeld ?_ ?_
    rotate_left
    · intro w7 hSw; (try dsimp only at hSw); go_simp; all_goals with_reducible rfl
    try simp only [Act.put, List.setIfInBounds_toArray, List.set_cons_zero, List.set_cons_succ]
    refine rg_take (i := 17) (some 22) (v := ?_) rfl rfl (by kernel_rfl) (by rfl) hQ7 hHeld ?_ ?_
    rotate_left
    · intro w7 hSw; (try dsimp only at hSw); go_simp; all_goals with_reducible rfl
    try simp only [Act.put, List.setIfInBounds_toArray, List.set_cons_zero, List.set_cons_succ]
    refine rg_take (i := 18) (some 23) (v := ?_) rfl rfl (by kernel_rfl) (by rfl) hQ7 hHeld ?_ ?_
    rotate_left
    · intro w7 hSw; (try dsimp only at hSw); go_simp; all_goals with_reducible rfl
    try simp only [Act.put, List.setIfInBounds_toArray, List.set_cons_zero, List.set_cons_succ]
    refine rg_take (i := 19) (some 24) (v := ?_) rfl rfl (by kernel_rfl) (by rfl) hQ7 hHeld ?_ ?_
    rotate_left
    · intro w7 hSw; (try dsimp only at hSw); go_simp; all_goals with_reducible rfl
    try simp only [Act.put, List.setIfInBounds_toArray, List.set_cons_zero, List.set_cons_succ]
    refine rg_take (i := 20) (some 25) (v := ?_) rfl rfl (by kernel_rfl) (by rfl) hQ7 hHeld ?_ ?_
    rotate_left
    · intro w7 hSw; (try dsimp only at hSw); go_simp; all_goals with_reducible rfl
    try simp only [Act.put, List.setIfInBounds_toArray, List.set_cons_zero, List.set_cons_succ]
    refine rg_take (i := 21) (some 26) (v := ?_) rfl rfl (by kernel_rfl) (by rfl) hQ7 hHeld ?_ ?_
    rotate_left
    · intro w7 hSw; (try dsimp only at hSw); go_simp; all_goals with_reducible rfl
    try simp only [Act.put, List.setIfInBounds_toArray, List.set_cons_zero, List.set_cons_succ]
    refine rg_take (i := 22) (some 27) (v := ?_) rfl rfl (by kernel_rfl) (by rfl) hQ7 hHeld ?_ ?_
    rotate_left
    · intro w7 hSw; (try dsimp only at hSw); go_simp; all_goals with_reducible rfl
    try simp only [Act.put, List.setIfInBounds_toArray, List.set_cons_zero, List.set_cons_succ]
    refine rg_take (i := 23) (some 28) (v := ?_) rfl rfl (by kernel_rfl) (by rfl) hQ7 hHeld ?_ ?_
    rotate_left
    · intro w7 hSw; (try dsimp only at hSw); go_simp; all_goals with_reducible rfl
    try simp only [Act.put, List.setIfInBounds_toArray, List.set_cons_zero, List.set_cons_succ]
    refine rg_take (i := 24) (some 29) (v := ?_) rfl rfl (by kernel_rfl) (by rfl) hQ7 hHeld ?_ ?_
    rotate_left
    · intro w7 hSw; (try dsimp only at hSw); go_simp; all_goals with_reducible rfl
    try simp only [Act.put, List.setIfInBounds_toArray, List.set_cons_zero, List.set_cons_succ]
    refine rg_take (i := 25) (some 30) (v := ?_) rfl rfl (by kernel_rfl) (by rfl) hQ7 hHeld ?_ ?_
    rotate_left
    · intro w7 hSw; (try dsimp only at hSw); go_simp; all_goals with_reducible rfl
    try simp only [Act.put, List.setIfInBounds_toArray, List.set_cons_zero, List.set_cons_succ]
    refine rg_take (i := 26) (some 31) (v := ?_) rfl rfl (by kernel_rfl) (by rfl) hQ7 hHeld ?_ ?_
    rotate_left
    · intro w7 hSw; (try dsimp only at hSw); go_simp; all_goals with_reducible rfl
    try simp only [Act.put, List.setIfInBounds_toArray, List.set_cons_zero, List.set_cons_succ]
    refine rg_take (i := 27) (some 32) (v := ?_) rfl rfl (by kernel_rfl) (by rfl) hQ7 hHeld ?_ ?_
    rotate_left
    · intro w7 hSw; (try dsimp only at hSw); go_simp; all_goals with_reducible rfl
    try simp only [Act.put, List.setIfInBounds_toArray, List.set_cons_zero, List.set_cons_succ]
    refine rg_take (i := 28) (some 33) (v := ?_) rfl rfl (by kernel_rfl) (by rfl) hQ7 hHeld ?_ ?_
    rotate_left
    · intro w7 hSw; (try dsimp only at hSw); go_simp; all_goals with_reducible rfl
    try simp only [Act.put, List.setIfInBounds_toArray, List.set_cons_zero, List.set_cons_succ]
    refine rg_one (i := 29) (by kernel_rfl) (rg_step rfl (by rfl) (fun K hK => ?_))
    go_simp
    refine (tabv (tab2_any a (⟨2, sc, sa, cl, ap, n, f, t⟩ : Ru) _) HV.out).mono ?_
    rintro e u1 ⟨rfl, B1⟩
    go_wp2_with fail
    refine hK.out _ _ ?_ (fun hHeld2 => ?_)
    · exact SS.out _ (ext_trans hHeld.1 B1)
    clear hHeld
    have hHeld := hHeld2
    clear hHeld2
    clear hK K
    try simp only [Act.put, List.setIfInBounds_toArray, List.set_cons_zero, List.set_cons_succ]
    refine rg_take (i := 30) (some 35) (v := ?_) rfl rfl (by kernel_rfl) (by rfl) hQ7 hHeld ?_ ?_
    rotate_left
    · intro w7 hSw; (try dsimp only at hSw); go_simp; all_goals with_reducible rfl
    try simp only [Act.put, List.setIfInBounds_toArray, List.set_cons_zero, List.set_cons_succ]
    refine rg_take (i := 31) (some 36) (v := ?_) rfl rfl (by kernel_rfl) (by rfl) hQ7 hHeld ?_ ?_
    rotate_left
    · intro w7 hSw; (try dsimp only at hSw); go_simp; all_goals with_reducible rfl
    try simp only [Act.put, List.setIfInBounds_toArray, List.set_cons_zero, List.set_cons_succ]
    refine rg_take (i := 32) (some 4) (v := ?_) rfl rfl (by kernel_rfl) (by rfl) hQ7 hHeld ?_ ?_
    rotate_left
    · intro w7 hSw; (try dsimp only at hSw); go_simp; all_goals with_reducible rfl
    try simp only [Act.put, List.setIfInBounds_toArray, List.set_cons_zero, List.set_cons_succ]
    refine rg_end (by kernel_rfl) (hN7 _ _ ?_) _
    clear hQ7 hN7 Q7
    have BX := hHeld.1
    clear SS
    replace E := Lib.hid (ext_trans E.out BX)
    replace HA := Lib.hid (HA.out.ext BX)
    replace HK := Lib.hid (HK.out.ext BX)
    replace Y := Lib.hid (Y.out.ext BX)
    clear BX
    go_wp2_with fail
    go_ret
    exact ⟨ret_bool (HW.out.symm), E.out⟩
  · have E := Lib.hid (ext_refl w)
    have HA := Lib.hid (hA)
    have HK := Lib.hid (hK)
    clear hA hK
    obtain ⟨v, hv⟩ : ∃ v, val3 (⟨3, sc, sa, cl, ap, n, f, t⟩ : Ru) = v := ⟨_, rfl⟩
    have HV := Lib.hid hv
    have HW := Lib.hid (show wrong a.cls.n a.aps.n (⟨3, sc, sa, cl, ap, n, f, t⟩ : Ru) = !v by rw [← hv]; unfold wrong valK; simp; try omega)
    have f3 : decide (cl < 0) = false := by simpa using h3
    have f4 : decide ((a.cls.n : Int) ≤ cl) = false := by simpa using h4
    clear h1 h2 h3 h4 hv
    replace E := Lib.hid (ext_alloc E.out (.cells #[.int .i64 3, .string sc, .string sa, .int .i64 cl, .int .i64 ap, .int .i64 n, .int .i64 f, .int .i64 t] 42))
    replace HA := Lib.hid (HA.out.alloc (.cells #[.int .i64 3, .string sc, .string sa, .int .i64 cl, .int .i64 ap, .int .i64 n, .int .i64 f, .int .i64 t] 42))
    replace HK := Lib.hid (HK.out.alloc (.cells #[.int .i64 3, .string sc, .string sa, .int .i64 cl, .int .i64 ap, .int .i64 n, .int .i64 f, .int .i64 t] 42))
    have Y := Lib.hid (Blk.newH w [.int .i64 3, .string sc, .string sa, .int .i64 cl, .int .i64 ap, .int .i64 n, .int .i64 f, .int .i64 t] 42 (w.heap.size) (by first | rfl | simp))
    go_enter Try.func38, Try.ntmps38
    go_wp2_with fail
    have SS := Lib.hid (show ∀ w', Below (w.alloc (.cells #[.int .i64 3, .string sc, .string sa, .int .i64 cl, .int .i64 ap, .int .i64 n, .int .i64 f, .int .i64 t] 42)).heap.size (w.alloc (.cells #[.int .i64 3, .string sc, .string sa, .int .i64 cl, .int .i64 ap, .int .i64 n, .int .i64 f, .int .i64 t] 42)) w' → (fun w' => Below (w.alloc (.cells #[.int .i64 3, .string sc, .string sa, .int .i64 cl, .int .i64 ap, .int .i64 n, .int .i64 f, .int .i64 t] 42)).heap.size (w.alloc (.cells #[.int .i64 3, .string sc, .string sa, .int .i64 cl, .int .i64 ap, .int .i64 n, .int .i64 f, .int .i64 t] 42)) w' ∧ w'.cell? ⟨w.heap.size, 0, none⟩ = some (.int .i64 3) ∧ w'.cell? ⟨w.heap.size, 1, none⟩ = some (.string sc) ∧ w'.cell? ⟨w.heap.size, 2, none⟩ = some (.string sa) ∧ w'.cell? ⟨w.heap.size, 3, none⟩ = some (.int .i64 cl) ∧ w'.cell? ⟨w.heap.size, 4, none⟩ = some (.int .i64 ap) ∧ w'.cell? ⟨w.heap.size, 5, none⟩ = some (.int .i64 n) ∧ w'.cell? ⟨w.heap.size, 6, none⟩ = some (.int .i64 f) ∧ w'.cell? ⟨w.heap.size, 7, none⟩ = some (.int .i64 t) ∧ w'.cell? ⟨ba, 0, none⟩ = some (.slice a.s0.A a.s0.n a.s0.c) ∧ w'.cell? ⟨ba, 1, none⟩ = some (.slice a.s1.A a.s1.n a.s1.c) ∧ w'.cell? ⟨ba, 2, none⟩ = some (.slice a.s2.A a.s2.n a.s2.c) ∧ w'.cell? ⟨ba, 3, none⟩ = some (.slice a.s3.A a.s3.n a.s3.c) ∧ w'.cell? ⟨ba, 4, none⟩ = some (.slice a.s4.A a.s4.n a.s4.c) ∧ w'.cell? ⟨ba, 5, none⟩ = some (.slice a.aps.A a.aps.n a.aps.c) ∧ w'.cell? ⟨ba, 6, none⟩ = some (.slice a.cls.A a.cls.n a.cls.c) ∧ w'.cell? ⟨ba, 7, none⟩ = some (.slice a.rs.A a.rs.l.length a.rs.c) ∧ w'.cell? ⟨bk, 0, none⟩ = some (.func (.func 54) #[] #[]) ∧ w'.cell? ⟨bk, 1, none⟩ = some (.func (.func 55) #[] #[]) ∧ w'.cell? ⟨bk, 2, none⟩ = some (.func (.func 57) #[] #[]) ∧ w'.cell? ⟨bk, 3, none⟩ = some (.func (.func 59) #[] #[]) ∧ w'.cell? ⟨bk, 4, none⟩ = some (.func (.func 60) #[] #[])) w' from fun w' h => ⟨h, (Y.out.ext h).c 0 _ rfl, (Y.out.ext h).c 1 _ rfl, (Y.out.ext h).c 2 _ rfl, (Y.out.ext h).c 3 _ rfl, (Y.out.ext h).c 4 _ rfl, (Y.out.ext h).c 5 _ rfl, (Y.out.ext h).c 6 _ rfl, (Y.out.ext h).c 7 _ rfl, (HA.out.ext h).c 0 _ rfl, (HA.out.ext h).c 1 _ rfl, (HA.out.ext h).c 2 _ rfl, (HA.out.ext h).c 3 _ rfl, (HA.out.ext h).c 4 _ rfl, (HA.out.ext h).c 5 _ rfl, (HA.out.ext h).c 6 _ rfl, (HA.out.ext h).c 7 _ rfl, (HK.out.ext h).c 0 _ rfl, (HK.out.ext h).c 1 _ rfl, (HK.out.ext h).c 2 _ rfl, (HK.out.ext h).c 3 _ rfl, (HK.out.ext h).c 4 _ rfl⟩)
    refine rg_begin (S := (fun w' => Below (w.alloc (.cells #[.int .i64 3, .string sc, .string sa, .int .i64 cl, .int .i64 ap, .int .i64 n, .int .i64 f, .int .i64 t] 42)).heap.size (w.alloc (.cells #[.int .i64 3, .string sc, .string sa, .int .i64 cl, .int .i64 ap, .int .i64 n, .int .i64 f, .int .i64 t] 42)) w' ∧ w'.cell? ⟨w.heap.size, 0, none⟩ = some (.int .i64 3) ∧ w'.cell? ⟨w.heap.size, 1, none⟩ = some (.string sc) ∧ w'.cell? ⟨w.heap.size, 2, none⟩ = some (.string sa) ∧ w'.cell? ⟨w.heap.size, 3, none⟩ = some (.int .i64 cl) ∧ w'.cell? ⟨w.heap.size, 4, none⟩ = some (.int .i64 ap) ∧ w'.cell? ⟨w.heap.size, 5, none⟩ = some (.int .i64 n) ∧ w'.cell? ⟨w.heap.size, 6, none⟩ = some (.int .i64 f) ∧ w'.cell? ⟨w.heap.size, 7, none⟩ = some (.int .i64 t) ∧ w'.cell? ⟨ba, 0, none⟩ = some (.slice a.s0.A a.s0.n a.s0.c) ∧ w'.cell? ⟨ba, 1, none⟩ = some (.slice a.s1.A a.s1.n a.s1.c) ∧ w'.cell? ⟨ba, 2, none⟩ = some (.slice a.s2.A a.s2.n a.s2.c) ∧ w'.cell? ⟨ba, 3, none⟩ = some (.slice a.s3.A a.s3.n a.s3.c) ∧ w'.cell? ⟨ba, 4, none⟩ = some (.slice a.s4.A a.s4.n a.s4.c) ∧ w'.cell? ⟨ba, 5, none⟩ = some (.slice a.aps.A a.aps.n a.aps.c) ∧ w'.cell? ⟨ba, 6, none⟩ = some (.slice a.cls.A a.cls.n a.cls.c) ∧ w'.cell? ⟨ba, 7, none⟩ = some (.slice a.rs.A a.rs.l.length a.rs.c) ∧ w'.cell? ⟨bk, 0, none⟩ = some (.func (.func 54) #[] #[]) ∧ w'.cell? ⟨bk, 1, none⟩ = some (.func (.func 55) #[] #[]) ∧ w'.cell? ⟨bk, 2, none⟩ = some (.func (.func 57) #[] #[]) ∧ w'.cell? ⟨bk, 3, none⟩ = some (.func (.func 59) #[] #[]) ∧ w'.cell? ⟨bk, 4, none⟩ = some (.func (.func 60) #[] #[]))) 33 (by kernel_rfl) (by intro d; cases d <;> intro _ _ _ _ h <;> exact h) ?_ (fun Q7 hQ7 hN7 hHeld => ?_)
    · exact SS.out _ (ext_drew (ext_refl _))
    refine rg_take (i := 0) (some 5) (v := ?_) rfl rfl (by kernel_rfl) (by rfl) hQ7 hHeld ?_ ?_
    rotate_left
    · intro w7 hSw; (try dsimp only at hSw); go_simp; all_goals with_reducible rfl
    try simp only [Act.put, List.setIfInBounds_toArray, List.set_cons_zero, List.set_cons_succ]
    refine rg_take (i := 1) (some 6) (v := ?_) rfl rfl (by kernel_rfl) (by rfl) hQ7 hHeld ?_ ?_
    rotate_left
    · intro w7 hSw; (try dsimp only at hSw); go_simp; all_goals with_reducible rfl
    try simp only [Act.put, List.setIfInBounds_toArray, List.set_cons_zero, List.set_cons_succ]
    refine rg_take (i := 2) (some 7) (v := ?_) rfl rfl (by kernel_rfl) (by rfl) hQ7 hHeld ?_ ?_
    rotate_left
    · intro w7 hSw; (try dsimp only at hSw); go_simp; all_goals with_reducible rfl
    try simp only [Act.put, List.setIfInBounds_toArray, List.set_cons_zero, List.set_cons_succ]
    refine rg_take (i := 3) (some 8) (v := ?_) rfl rfl (by kernel_rfl) (by rfl) hQ7 hHeld ?_ ?_
    rotate_left
    · intro w7 hSw; (try dsimp only at hSw); go_simp; all_goals with_reducible rfl
    try simp only [Act.put, List.setIfInBounds_toArray, List.set_cons_zero, List.set_cons_succ]
    refine rg_take (i := 4) (some 9) (v := ?_) rfl rfl (by kernel_rfl) (by rfl) hQ7 hHeld ?_ ?_
    rotate_left
    · intro w7 hSw; (try dsimp only at hSw); go_simp; all_goals with_reducible rfl
    try simp only [Act.put, List.setIfInBounds_toArray, List.set_cons_zero, List.set_cons_succ]
    refine rg_take (i := 5) (some 10) (v := ?_) rfl rfl (by kernel_rfl) (by rfl) hQ7 hHeld ?_ ?_
    rotate_left
    · intro w7 hSw; (try dsimp only at hSw); go_simp; all_goals with_reducible rfl
    try simp only [Act.put, List.setIfInBounds_toArray, List.set_cons_zero, List.set_cons_succ]
    refine rg_take (i := 6) (some 11) (v := ?_) rfl rfl (by kernel_rfl) (by rfl) hQ7 hHeld ?_ ?_
    rotate_left
    · intro w7 hSw; (try dsimp only at hSw); go_simp; all_goals with_reducible rfl
    try simp only [Act.put, List.setIfInBounds_toArray, List.set_cons_zero, List.set_cons_succ]
    refine rg_take (i := 7) (some 12) (v := ?_) rfl rfl (by kernel_rfl) (by rfl) hQ7 hHeld ?_ ?_
    rotate_left
    · intro w7 hSw; (try dsimp only at hSw); go_simp; all_goals with_reducible rfl
    try simp only [Act.put, List.setIfInBounds_toArray, List.set_cons_zero, List.set_cons_succ]
    refine rg_take (i := 8) (some 13) (v := ?_) rfl rfl (by kernel_rfl) (by rfl) hQ7 hHeld ?_ ?_
    rotate_left
    · intro w7 hSw; (try dsimp only at hSw); go_simp; all_goals with_reducible rfl
    try simp only [Act.put, List.setIfInBounds_toArray, List.set_cons_zero, List.set_cons_succ]
    refine rg_take (i := 9) (some 14) (v := ?_) rfl rfl (by kernel_rfl) (by rfl) hQ7 hHeld ?_ ?_
    rotate_left
    · intro w7 hSw; (try dsimp only at hSw); go_simp; all_goals with_reducible rfl
    try simp only [Act.put, List.setIfInBounds_toArray, List.set_cons_zero, List.set_cons_succ]
    refine rg_take (i := 10) (some 15) (v := ?_) rfl rfl (by kernel_rfl) (by rfl) hQ7 hHeld ?_ ?_
    rotate_left
    · intro w7 hSw; (try dsimp only at hSw); go_simp; all_goals with_reducible rfl
    try simp only [Act.put, List.setIfInBounds_toArray, List.set_cons_zero, List.set_cons_succ]
    refine rg_take (i := 11) (some 16) (v := ?_) rfl rfl (by kernel_rfl) (by rfl) hQ7 hHeld ?_ ?_
    rotate_left
    · intro w7 hSw; (try dsimp only at hSw); go_simp; all_goals with_reducible rfl
    try simp only [Act.put, List.setIfInBounds_toArray, List.set_cons_zero, List.set_cons_succ]
    refine rg_take (i := 12) (some 17) (v := ?_) rfl rfl (by kernel_rfl) (by rfl) hQ7 hHeld ?_ ?_
    rotate_left
    · intro w7 hSw; (try dsimp only at hSw); go_simp; all_goals with_reducible rfl
    try simp only [Act.put, List.setIfInBounds_toArray, List.set_cons_zero, List.set_cons_succ]
    refine rg_take (i := 13) (some 18) (v := ?_) rfl rfl (by kernel_rfl) (by rfl) hQ7 hHeld ?_ ?_
    rotate_left
    · intro w7 hSw; (try dsimp only at hSw); go_simp; all_goals with_reducible rfl
    try simp only [Act.put, List.setIfInBounds_toArray, List.set_cons_zero, List.set_cons_succ]
    refine rg_take (i := 14) (some 19) (v := ?_) rfl rfl (by kernel_rfl) (by rfl) hQ7 hHeld ?_ ?_
    rotate_left
    · intro w7 hSw; (try dsimp only at hSw); go_simp; all_goals with_reducible rfl
    try simp only [Act.put, List.setIfInBounds_toArray, List.set_cons_zero, List.set_cons_succ]
    refine rg_take (i := 15) (some 20) (v := ?_) rfl rfl (by kernel_rfl) (by rfl) hQ7 hHeld ?_ ?_
    rotate_left
    · intro w7 hSw; (try dsimp only at hSw); go_simp; all_goals with_reducible rfl
    try simp only [Act.put, List.setIfInBounds_toArray, List.set_cons_zero, List.set_cons_succ]
    refine rg_take (i := 16) (some 21) (v := ?_) rfl rfl (by kernel_rfl) (by rfl) hQ7 hHeld ?_ ?_
    rotate_left
    · intro w7 hSw; (try dsimp only at hSw); go_simp; all_goals with_reducible rfl
    try simp only [Act.put, List.setIfInBounds_toArray, List.set_cons_zero, List.set_cons_succ]
    refine rg_take (i := 17) (some 22) (v := ?_) rfl rfl (by kernel_rfl) (by rfl) hQ7 hHeld ?_ ?_
    rotate_left
    · intro w7 hSw; (try dsimp only at hSw); go_simp; all_goals with_reducible rfl
    try simp only [Act.put, List.setIfInBounds_toArray, List.set_cons_zero, List.set_cons_succ]
    refine rg_take (i := 18) (some 23) (v := ?_) rfl rfl (by kernel_rfl) (by rfl) hQ7 hHeld ?_ ?_
    rotate_left
    · intro w7 hSw; (try dsimp only at hSw); go_simp; all_goals with_reducible rfl
    try simp only [Act.put, List.setIfInBounds_toArray, List.set_cons_zero, List.set_cons_succ]
    refine rg_take (i := 19) (some 24) (v := ?_) rfl rfl (by kernel_rfl) (by rfl) hQ7 hHeld ?_ ?_
    rotate_left
    · intro w7 hSw; (try dsimp only at hSw); go_simp; all_goals with_reducible rfl
    try simp only [Act.put, List.setIfInBounds_toArray, List.set_cons_zero, List.set_cons_succ]
    refine rg_take (i := 20) (some 25) (v := ?_) rfl rfl (by kernel_rfl) (by rfl) hQ7 hHeld ?_ ?_
    rotate_left
    · intro w7 hSw; (try dsimp only at hSw); go_simp; all_goals with_reducible rfl
    try simp only [Act.put, List.setIfInBounds_toArray, List.set_cons_zero, List.set_cons_succ]
    refine rg_take (i := 21) (some 26) (v := ?_) rfl rfl (by kernel_rfl) (by rfl) hQ7 hHeld ?_ ?_
    rotate_left
    · intro w7 hSw; (try dsimp only at hSw); go_simp; all_goals with_reducible rfl
    try simp only [Act.put, List.setIfInBounds_toArray, List.set_cons_zero, List.set_cons_succ]
    refine rg_take (i := 22) (some 27) (v := ?_) rfl rfl (by kernel_rfl) (by rfl) hQ7 hHeld ?_ ?_
    rotate_left
    · intro w7 hSw; (try dsimp only at hSw); go_simp; all_goals with_reducible rfl
    try simp only [Act.put, List.setIfInBounds_toArray, List.set_cons_zero, List.set_cons_succ]
    refine rg_take (i := 23) (some 28) (v := ?_) rfl rfl (by kernel_rfl) (by rfl) hQ7 hHeld ?_ ?_
    rotate_left
    · intro w7 hSw; (try dsimp only at hSw); go_simp; all_goals with_reducible rfl
    try simp only [Act.put, List.setIfInBounds_toArray, List.set_cons_zero, List.set_cons_succ]
    refine rg_take (i := 24) (some 29) (v := ?_) rfl rfl (by kernel_rfl) (by rfl) hQ7 hHeld ?_ ?_
    rotate_left
    · intro w7 hSw; (try dsimp only at hSw); go_simp; all_goals with_reducible rfl
    try simp only [Act.put, List.setIfInBounds_toArray, List.set_cons_zero, List.set_cons_succ]
    refine rg_take (i := 25) (some 30) (v := ?_) rfl rfl (by kernel_rfl) (by rfl) hQ7 hHeld ?_ ?_
    rotate_left
    · intro w7 hSw; (try dsimp only at hSw); go_simp; all_goals with_reducible rfl
    try simp only [Act.put, List.setIfInBounds_toArray, List.set_cons_zero, List.set_cons_succ]
    refine rg_take (i := 26) (some 31) (v := ?_) rfl rfl (by kernel_rfl) (by rfl) hQ7 hHeld ?_ ?_
    rotate_left
    · intro w7 hSw; (try dsimp only at hSw); go_simp; all_goals with_reducible rfl
    try simp only [Act.put, List.setIfInBounds_toArray, List.set_cons_zero, List.set_cons_succ]
    refine rg_take (i := 27) (some 32) (v := ?_) rfl rfl (by kernel_rfl) (by rfl) hQ7 hHeld ?_ ?_
    rotate_left
    · intro w7 hSw; (try dsimp only at hSw); go_simp; all_goals with_reducible rfl
    try simp only [Act.put, List.setIfInBounds_toArray, List.set_cons_zero, List.set_cons_succ]
    refine rg_take (i := 28) (some 33) (v := ?_) rfl rfl (by kernel_rfl) (by rfl) hQ7 hHeld ?_ ?_
    rotate_left
    · intro w7 hSw; (try dsimp only at hSw); go_simp; all_goals with_reducible rfl
    try simp only [Act.put, List.setIfInBounds_toArray, List.set_cons_zero, List.set_cons_succ]
    refine rg_one (i := 29) (by kernel_rfl) (rg_step rfl (by rfl) (fun K hK => ?_))
    go_simp
    refine (tabv (tab3_any a (⟨3, sc, sa, cl, ap, n, f, t⟩ : Ru) _) HV.out).mono ?_
    rintro e u1 ⟨rfl, B1⟩
    go_wp2_with fail
    refine hK.out _ _ ?_ (fun hHeld2 => ?_)
    · exact SS.out _ (ext_trans hHeld.1 B1)
    clear hHeld
    have hHeld := hHeld2
    clear hHeld2
    clear hK K
    try simp only [Act.put, List.setIfInBounds_toArray, List.set_cons_zero, List.set_cons_succ]
    refine rg_take (i := 30) (some 35) (v := ?_) rfl rfl (by kernel_rfl) (by rfl) hQ7 hHeld ?_ ?_
    rotate_left
    · intro w7 hSw; (try dsimp only at hSw); go_simp; all_goals with_reducible rfl
    try simp only [Act.put, List.setIfInBounds_toArray, List.set_cons_zero, List.set_cons_succ]
    refine rg_take (i := 31) (some 36) (v := ?_) rfl rfl (by kernel_rfl) (by rfl) hQ7 hHeld ?_ ?_
    rotate_left
    · intro w7 hSw; (try dsimp only at hSw); go_simp; all_goals with_reducible rfl
    try simp only [Act.put, List.setIfInBounds_toArray, List.set_cons_zero, List.set_cons_succ]
    refine rg_take (i := 32) (some 4) (v := ?_) rfl rfl (by kernel_rfl) (by rfl) hQ7 hHeld ?_ ?_
    rotate_left
    · intro w7 hSw; (try dsimp only at hSw); go_simp; all_goals with_reducible rfl
    try simp only [Act.put, List.setIfInBounds_toArray, List.set_cons_zero, List.set_cons_succ]
    refine rg_end (by kernel_rfl) (hN7 _ _ ?_) _
    clear hQ7 hN7 Q7
    have BX := hHeld.1
    clear SS
    replace E := Lib.hid (ext_trans E.out BX)
    replace HA := Lib.hid (HA.out.ext BX)
    replace HK := Lib.hid (HK.out.ext BX)
    replace Y := Lib.hid (Y.out.ext BX)
    clear BX
    go_wp2_with fail
    go_ret
    exact ⟨ret_bool (HW.out.symm), E.out⟩
  · have E := Lib.hid (ext_refl w)
    have HA := Lib.hid (hA)
    have HK := Lib.hid (hK)
    clear hA hK
    obtain ⟨v, hv⟩ : ∃ v, val4 (⟨4, sc, sa, cl, ap, n, f, t⟩ : Ru) = v := ⟨_, rfl⟩
    have HV := Lib.hid hv
    have HW := Lib.hid (show wrong a.cls.n a.aps.n (⟨4, sc, sa, cl, ap, n, f, t⟩ : Ru) = !v by rw [← hv]; unfold wrong valK; simp; try omega)
    have f3 : decide (cl < 0) = false := by simpa using h3
    have f4 : decide ((a.cls.n : Int) ≤ cl) = false := by simpa using h4
    clear h1 h2 h3 h4 hv
    replace E := Lib.hid (ext_alloc E.out (.cells #[.int .i64 4, .string sc, .string sa, .int .i64 cl, .int .i64 ap, .int .i64 n, .int .i64 f, .int .i64 t] 42))
    replace HA := Lib.hid (HA.out.alloc (.cells #[.int .i64 4, .string sc, .string sa, .int .i64 cl, .int .i64 ap, .int .i64 n, .int .i64 f, .int .i64 t] 42))
    replace HK := Lib.hid (HK.out.alloc (.cells #[.int .i64 4, .string sc, .string sa, .int .i64 cl, .int .i64 ap, .int .i64 n, .int .i64 f, .int .i64 t] 42))
    have Y := Lib.hid (Blk.newH w [.int .i64 4, .string sc, .string sa, .int .i64 cl, .int .i64 ap, .int .i64 n, .int .i64 f, .int .i64 t] 42 (w.heap.size) (by first | rfl | simp))
    go_enter Try.func38, Try.ntmps38
    go_wp2_with fail
    have SS := Lib.hid (show ∀ w', Below (w.alloc (.cells #[.int .i64 4, .string sc, .string sa, .int .i64 cl, .int .i64 ap, .int .i64 n, .int .i64 f, .int .i64 t] 42)).heap.size (w.alloc (.cells #[.int .i64 4, .string sc, .string sa, .int .i64 cl, .int .i64 ap, .int .i64 n, .int .i64 f, .int .i64 t] 42)) w' → (fun w' => Below (w.alloc (.cells #[.int .i64 4, .string sc, .string sa, .int .i64 cl, .int .i64 ap, .int .i64 n, .int .i64 f, .int .i64 t] 42)).heap.size (w.alloc (.cells #[.int .i64 4, .string sc, .string sa, .int .i64 cl, .int .i64 ap, .int .i64 n, .int .i64 f, .int .i64 t] 42)) w' ∧ w'.cell? ⟨w.heap.size, 0, none⟩ = some (.int .i64 4) ∧ w'.cell? ⟨w.heap.size, 1, none⟩ = some (.string sc) ∧ w'.cell? ⟨w.heap.size, 2, none⟩ = some (.string sa) ∧ w'.cell? ⟨w.heap.size, 3, none⟩ = some (.int .i64 cl) ∧ w'.cell? ⟨w.heap.size, 4, none⟩ = some (.int .i64 ap) ∧ w'.cell? ⟨w.heap.size, 5, none⟩ = some (.int .i64 n) ∧ w'.cell? ⟨w.heap.size, 6, none⟩ = some (.int .i64 f) ∧ w'.cell? ⟨w.heap.size, 7, none⟩ = some (.int .i64 t) ∧ w'.cell? ⟨ba, 0, none⟩ = some (.slice a.s0.A a.s0.n a.s0.c) ∧ w'.cell? ⟨ba, 1, none⟩ = some (.slice a.s1.A a.s1.n a.s1.c) ∧ w'.cell? ⟨ba, 2, none⟩ = some (.slice a.s2.A a.s2.n a.s2.c) ∧ w'.cell? ⟨ba, 3, none⟩ = some (.slice a.s3.A a.s3.n a.s3.c) ∧ w'.cell? ⟨ba, 4, none⟩ = some (.slice a.s4.A a.s4.n a.s4.c) ∧ w'.cell? ⟨ba, 5, none⟩ = some (.slice a.aps.A a.aps.n a.aps.c) ∧ w'.cell? ⟨ba, 6, none⟩ = some (.slice a.cls.A a.cls.n a.cls.c) ∧ w'.cell? ⟨ba, 7, none⟩ = some (.slice a.rs.A a.rs.l.length a.rs.c) ∧ w'.cell? ⟨bk, 0, none⟩ = some (.func (.func 54) #[] #[]) ∧ w'.cell? ⟨bk, 1, none⟩ = some (.func (.func 55) #[] #[]) ∧ w'.cell? ⟨bk, 2, none⟩ = some (.func (.func 57) #[] #[]) ∧ w'.cell? ⟨bk, 3, none⟩ = some (.func (.func 59) #[] #[]) ∧ w'.cell? ⟨bk, 4, none⟩ = some (.func (.func 60) #[] #[])) w' from fun w' h => ⟨h, (Y.out.ext h).c 0 _ rfl, (Y.out.ext h).c 1 _ rfl, (Y.out.ext h).c 2 _ rfl, (Y.out.ext h).c 3 _ rfl, (Y.out.ext h).c 4 _ rfl, (Y.out.ext h).c 5 _ rfl, (Y.out.ext h).c 6 _ rfl, (Y.out.ext h).c 7 _ rfl, (HA.out.ext h).c 0 _ rfl, (HA.out.ext h).c 1 _ rfl, (HA.out.ext h).c 2 _ rfl, (HA.out.ext h).c 3 _ rfl, (HA.out.ext h).c 4 _ rfl, (HA.out.ext h).c 5 _ rfl, (HA.out.ext h).c 6 _ rfl, (HA.out.ext h).c 7 _ rfl, (HK.out.ext h).c 0 _ rfl, (HK.out.ext h).c 1 _ rfl, (HK.out.ext h).c 2 _ rfl, (HK.out.ext h).c 3 _ rfl, (HK.out.ext h).c 4 _ rfl⟩)
    refine rg_begin (S := (fun w' => Below (w.alloc (.cells #[.int .i64 4, .string sc, .string sa, .int .i64 cl, .int .i64 ap, .int .i64 n, .int .i64 f, .int .i64 t] 42)).heap.size (w.alloc (.cells #[.int .i64 4, .string sc, .string sa, .int .i64 cl, .int .i64 ap, .int .i64 n, .int .i64 f, .int .i64 t] 42)) w' ∧ w'.cell? ⟨w.heap.size, 0, none⟩ = some (.int .i64 4) ∧ w'.cell? ⟨w.heap.size, 1, none⟩ = some (.string sc) ∧ w'.cell? ⟨w.heap.size, 2, none⟩ = some (.string sa) ∧ w'.cell? ⟨w.heap.size, 3, none⟩ = some (.int .i64 cl) ∧ w'.cell? ⟨w.heap.size, 4, none⟩ = some (.int .i64 ap) ∧ w'.cell? ⟨w.heap.size, 5, none⟩ = some (.int .i64 n) ∧ w'.cell? ⟨w.heap.size, 6, none⟩ = some (.int .i64 f) ∧ w'.cell? ⟨w.heap.size, 7, none⟩ = some (.int .i64 t) ∧ w'.cell? ⟨ba, 0, none⟩ = some (.slice a.s0.A a.s0.n a.s0.c) ∧ w'.cell? ⟨ba, 1, none⟩ = some (.slice a.s1.A a.s1.n a.s1.c) ∧ w'.cell? ⟨ba, 2, none⟩ = some (.slice a.s2.A a.s2.n a.s2.c) ∧ w'.cell? ⟨ba, 3, none⟩ = some (.slice a.s3.A a.s3.n a.s3.c) ∧ w'.cell? ⟨ba, 4, none⟩ = some (.slice a.s4.A a.s4.n a.s4.c) ∧ w'.cell? ⟨ba, 5, none⟩ = some (.slice a.aps.A a.aps.n a.aps.c) ∧ w'.cell? ⟨ba, 6, none⟩ = some (.slice a.cls.A a.cls.n a.cls.c) ∧ w'.cell? ⟨ba, 7, none⟩ = some (.slice a.rs.A a.rs.l.length a.rs.c) ∧ w'.cell? ⟨bk, 0, none⟩ = some (.func (.func 54) #[] #[]) ∧ w'.cell? ⟨bk, 1, none⟩ = some (.func (.func 55) #[] #[]) ∧ w'.cell? ⟨bk, 2, none⟩ = some (.func (.func 57) #[] #[]) ∧ w'.cell? ⟨bk, 3, none⟩ = some (.func (.func 59) #[] #[]) ∧ w'.cell? ⟨bk, 4, none⟩ = some (.func (.func 60) #[] #[]))) 33 (by kernel_rfl) (by intro d; cases d <;> intro _ _ _ _ h <;> exact h) ?_ (fun Q7 hQ7 hN7 hHeld => ?_)
    · exact SS.out _ (ext_drew (ext_refl _))
    refine rg_take (i := 0) (some 5) (v := ?_) rfl rfl (by kernel_rfl) (by rfl) hQ7 hHeld ?_ ?_
    rotate_left
    · intro w7 hSw; (try dsimp only at hSw); go_simp; all_goals with_reducible rfl
    try simp only [Act.put, List.setIfInBounds_toArray, List.set_cons_zero, List.set_cons_succ]
    refine rg_take (i := 1) (some 6) (v := ?_) rfl rfl (by kernel_rfl) (by rfl) hQ7 hHeld ?_ ?_
    rotate_left
    · intro w7 hSw; (try dsimp only at hSw); go_simp; all_goals with_reducible rfl
    try simp only [Act.put, List.setIfInBounds_toArray, List.set_cons_zero, List.set_cons_succ]
    refine rg_take (i := 2) (some 7) (v := ?_) rfl rfl (by kernel_rfl) (by rfl) hQ7 hHeld ?_ ?_
    rotate_left
    · intro w7 hSw; (try dsimp only at hSw); go_simp; all_goals with_reducible rfl
    try simp only [Act.put, List.setIfInBounds_toArray, List.set_cons_zero, List.set_cons_succ]
    refine rg_take (i := 3) (some 8) (v := ?_) rfl rfl (by kernel_rfl) (by rfl) hQ7 hHeld ?_ ?_
    rotate_left
    · intro w7 hSw; (try dsimp only at hSw); go_simp; all_goals with_reducible rfl
    try simp only [Act.put, List.setIfInBounds_toArray, List.set_cons_zero, List.set_cons_succ]
    refine rg_take (i := 4) (some 9) (v := ?_) rfl rfl (by kernel_rfl) (by rfl) hQ7 hHeld ?_ ?_
    rotate_left
    · intro w7 hSw; (try dsimp only at hSw); go_simp; all_goals with_reducible rfl
    try simp only [Act.put, List.setIfInBounds_toArray, List.set_cons_zero, List.set_cons_succ]
    refine rg_take (i := 5) (some 10) (v := ?_) rfl rfl (by kernel_rfl) (by rfl) hQ7 hHeld ?_ ?_
    rotate_left
    · intro w7 hSw; (try dsimp only at hSw); go_simp; all_goals with_reducible rfl
    try simp only [Act.put, List.setIfInBounds_toArray, List.set_cons_zero, List.set_cons_succ]
    refine rg_take (i := 6) (some 11) (v := ?_) rfl rfl (by kernel_rfl) (by rfl) hQ7 hHeld ?_ ?_
    rotate_left
    · intro w7 hSw; (try dsimp only at hSw); go_simp; all_goals with_reducible rfl
    try simp only [Act.put, List.setIfInBounds_toArray, List.set_cons_zero, List.set_cons_succ]
    refine rg_take (i := 7) (some 12) (v := ?_) rfl rfl (by kernel_rfl) (by rfl) hQ7 hHeld ?_ ?_
    rotate_left
    · intro w7 hSw; (try dsimp only at hSw); go_simp; all_goals with_reducible rfl
    try simp only [Act.put, List.setIfInBounds_toArray, List.set_cons_zero, List.set_cons_succ]
    refine rg_take (i := 8) (some 13) (v := ?_) rfl rfl (by kernel_rfl) (by rfl) hQ7 hHeld ?_ ?_
    rotate_left
    · intro w7 hSw; (try dsimp only at hSw); go_simp; all_goals with_reducible rfl
    try simp only [Act.put, List.setIfInBounds_toArray, List.set_cons_zero, List.set_cons_succ]
    refine rg_take (i := 9) (some 14) (v := ?_) rfl rfl (by kernel_rfl) (by rfl) hQ7 hHeld ?_ ?_
    rotate_left
    · intro w7 hSw; (try dsimp only at hSw); go_simp; all_goals with_reducible rfl
    try simp only [Act.put, List.setIfInBounds_toArray, List.set_cons_zero, List.set_cons_succ]
    refine rg_take (i := 10) (some 15) (v := ?_) rfl rfl (by kernel_rfl) (by rfl) hQ7 hHeld ?_ ?_
    rotate_left
    · intro w7 hSw; (try dsimp only at hSw); go_simp; all_goals with_reducible rfl
    try simp only [Act.put, List.setIfInBounds_toArray, List.set_cons_zero, List.set_cons_succ]
    refine rg_take (i := 11) (some 16) (v := ?_) rfl rfl (by kernel_rfl) (by rfl) hQ7 hHeld ?_ ?_
    rotate_left
    · intro w7 hSw; (try dsimp only at hSw); go_simp; all_goals with_reducible rfl
    try simp only [Act.put, List.setIfInBounds_toArray, List.set_cons_zero, List.set_cons_succ]
    refine rg_take (i := 12) (some 17) (v := ?_) rfl rfl (by kernel_rfl) (by rfl) hQ7 hHeld ?_ ?_
    rotate_left
    · intro w7 hSw; (try dsimp only at hSw); go_simp; all_goals with_reducible rfl
    try simp only [Act.put, List.setIfInBounds_toArray, List.set_cons_zero, List.set_cons_succ]
    refine rg_take (i := 13) (some 18) (v := ?_) rfl rfl (by kernel_rfl) (by rfl) hQ7 hHeld ?_ ?_
    rotate_left
    · intro w7 hSw; (try dsimp only at hSw); go_simp; all_goals with_reducible rfl
    try simp only [Act.put, List.setIfInBounds_toArray, List.set_cons_zero, List.set_cons_succ]
    refine rg_take (i := 14) (some 19) (v := ?_) rfl rfl (by kernel_rfl) (by rfl) hQ7 hHeld ?_ ?_
    rotate_left
    · intro w7 hSw; (try dsimp only at hSw); go_simp; all_goals with_reducible rfl
    try simp only [Act.put, List.setIfInBounds_toArray, List.set_cons_zero, List.set_cons_succ]
    refine rg_take (i := 15) (some 20) (v := ?_) rfl rfl (by kernel_rfl) (by rfl) hQ7 hHeld ?_ ?_
    rotate_left
    · intro w7 hSw; (try dsimp only at hSw); go_simp; all_goals with_reducible rfl
    try simp only [Act.put, List.setIfInBounds_toArray, List.set_cons_zero, List.set_cons_succ]
    refine rg_take (i := 16) (some 21) (v := ?_) rfl rfl (by kernel_rfl) (by rfl) hQ7 hHeld ?_ ?_
    rotate_left
    · intro w7 hSw; (try dsimp only at hSw); go_simp; all_goals with_reducible rfl
    try simp only [Act.put, List.setIfInBounds_toArray, List.set_cons_zero, List.set_cons_succ]
    refine rg_take (i := 17) (some 22) (v := ?_) rfl rfl (by kernel_rfl) (by rfl) hQ7 hHeld ?_ ?_
    rotate_left
    · intro w7 hSw; (try dsimp only at hSw); go_simp; all_goals with_reducible rfl
    try simp only [Act.put, List.setIfInBounds_toArray, List.set_cons_zero, List.set_cons_succ]
    refine rg_take (i := 18) (some 23) (v := ?_) rfl rfl (by kernel_rfl) (by rfl) hQ7 hHeld ?_ ?_
    rotate_left
    · intro w7 hSw; (try dsimp only at hSw); go_simp; all_goals with_reducible rfl
    try simp only [Act.put, List.setIfInBounds_toArray, List.set_cons_zero, List.set_cons_succ]
    refine rg_take (i := 19) (some 24) (v := ?_) rfl rfl (by kernel_rfl) (by rfl) hQ7 hHeld ?_ ?_
    rotate_left
    · intro w7 hSw; (try dsimp only at hSw); go_simp; all_goals with_reducible rfl
    try simp only [Act.put, List.setIfInBounds_toArray, List.set_cons_zero, List.set_cons_succ]
    refine rg_take (i := 20) (some 25) (v := ?_) rfl rfl (by kernel_rfl) (by rfl) hQ7 hHeld ?_ ?_
    rotate_left
    · intro w7 hSw; (try dsimp only at hSw); go_simp; all_goals with_reducible rfl
    try simp only [Act.put, List.setIfInBounds_toArray, List.set_cons_zero, List.set_cons_succ]
    refine rg_take (i := 21) (some 26) (v := ?_) rfl rfl (by kernel_rfl) (by rfl) hQ7 hHeld ?_ ?_
    rotate_left
    · intro w7 hSw; (try dsimp only at hSw); go_simp; all_goals with_reducible rfl
    try simp only [Act.put, List.setIfInBounds_toArray, List.set_cons_zero, List.set_cons_succ]
    refine rg_take (i := 22) (some 27) (v := ?_) rfl rfl (by kernel_rfl) (by rfl) hQ7 hHeld ?_ ?_
    rotate_left
    · intro w7 hSw; (try dsimp only at hSw); go_simp; all_goals with_reducible rfl
    try simp only [Act.put, List.setIfInBounds_toArray, List.set_cons_zero, List.set_cons_succ]
    refine rg_take (i := 23) (some 28) (v := ?_) rfl rfl (by kernel_rfl) (by rfl) hQ7 hHeld ?_ ?_
    rotate_left
    · intro w7 hSw; (try dsimp only at hSw); go_simp; all_goals with_reducible rfl
    try simp only [Act.put, List.setIfInBounds_toArray, List.set_cons_zero, List.set_cons_succ]
    refine rg_take (i := 24) (some 29) (v := ?_) rfl rfl (by kernel_rfl) (by rfl) hQ7 hHeld ?_ ?_
    rotate_left
    · intro w7 hSw; (try dsimp only at hSw); go_simp; all_goals with_reducible rfl
    try simp only [Act.put, List.setIfInBounds_toArray, List.set_cons_zero, List.set_cons_succ]
    refine rg_take (i := 25) (some 30) (v := ?_) rfl rfl (by kernel_rfl) (by rfl) hQ7 hHeld ?_ ?_
    rotate_left
    · intro w7 hSw; (try dsimp only at hSw); go_simp; all_goals with_reducible rfl
    try simp only [Act.put, List.setIfInBounds_toArray, List.set_cons_zero, List.set_cons_succ]
    refine rg_take (i := 26) (some 31) (v := ?_) rfl rfl (by kernel_rfl) (by rfl) hQ7 hHeld ?_ ?_
    rotate_left
    · intro w7 hSw; (try dsimp only at hSw); go_simp; all_goals with_reducible rfl
    try simp only [Act.put, List.setIfInBounds_toArray, List.set_cons_zero, List.set_cons_succ]
    refine rg_take (i := 27) (some 32) (v := ?_) rfl rfl (by kernel_rfl) (by rfl) hQ7 hHeld ?_ ?_
    rotate_left
    · intro w7 hSw; (try dsimp only at hSw); go_simp; all_goals with_reducible rfl
    try simp only [Act.put, List.setIfInBounds_toArray, List.set_cons_zero, List.set_cons_succ]
    refine rg_take (i := 28) (some 33) (v := ?_) rfl rfl (by kernel_rfl) (by rfl) hQ7 hHeld ?_ ?_
    rotate_left
    · intro w7 hSw; (try dsimp only at hSw); go_simp; all_goals with_reducible rfl
    try simp only [Act.put, List.setIfInBounds_toArray, List.set_cons_zero, List.set_cons_succ]
    refine rg_one (i := 29) (by kernel_rfl) (rg_step rfl (by rfl) (fun K hK => ?_))
    go_simp
    refine (tabv (tab4_any a (⟨4, sc, sa, cl, ap, n, f, t⟩ : Ru) _) HV.out).mono ?_
    rintro e u1 ⟨rfl, B1⟩
    go_wp2_with fail
    refine hK.out _ _ ?_ (fun hHeld2 => ?_)
    · exact SS.out _ (ext_trans hHeld.1 B1)
    clear hHeld
    have hHeld := hHeld2
    clear hHeld2
    clear hK K
    try simp only [Act.put, List.setIfInBounds_toArray, List.set_cons_zero, List.set_cons_succ]
    refine rg_take (i := 30) (some 35) (v := ?_) rfl rfl (by kernel_rfl) (by rfl) hQ7 hHeld ?_ ?_
    rotate_left
    · intro w7 hSw; (try dsimp only at hSw); go_simp; all_goals with_reducible rfl
    try simp only [Act.put, List.setIfInBounds_toArray, List.set_cons_zero, List.set_cons_succ]
    refine rg_take (i := 31) (some 36) (v := ?_) rfl rfl (by kernel_rfl) (by rfl) hQ7 hHeld ?_ ?_
    rotate_left
    · intro w7 hSw; (try dsimp only at hSw); go_simp; all_goals with_reducible rfl
    try simp only [Act.put, List.setIfInBounds_toArray, List.set_cons_zero, List.set_cons_succ]
    refine rg_take (i := 32) (some 4) (v := ?_) rfl rfl (by kernel_rfl) (by rfl) hQ7 hHeld ?_ ?_
    rotate_left
    · intro w7 hSw; (try dsimp only at hSw); go_simp; all_goals with_reducible rfl
    try simp only [Act.put, List.setIfInBounds_toArray, List.set_cons_zero, List.set_cons_succ]
    refine rg_end (by kernel_rfl) (hN7 _ _ ?_) _
    clear hQ7 hN7 Q7
    have BX := hHeld.1
    clear SS
    replace E := Lib.hid (ext_trans E.out BX)
    replace HA := Lib.hid (HA.out.ext BX)
    replace HK := Lib.hid (HK.out.ext BX)
    replace Y := Lib.hid (Y.out.ext BX)
    clear BX
    go_wp2_with fail
    go_ret
    exact ⟨ret_bool (HW.out.symm), E.out⟩
end Go.Proofs.Ytmgpbjpohbpgpaa
