/- Contracts: whether rules are valid. -/
import Derived.Test.YtmgpbjpohbpgpaaA
set_option linter.unusedSimpArgs false
set_option linter.unusedVariables false
namespace Go.Proofs.Ytmgpbjpohbpgpaa
open Go.RowKit
theorem plain_any (r : Ru) (w : World) : Calls Try.prog 58 #[r.v] w (RetB w (plainR r)) := by
  by_cases h : r.ap = 0
  · have h0 : (r.ap == 0) = true := by simp [h]
    have HF := Lib.hid (show (decide (r.f = 0) && decide (r.t = 0)) = plainR r by unfold plainR; simp [h])
    clear h
    go_enter Try.func58, Try.ntmps58
    go_wp2_with fail
    all_goals
      go_ret
      exact ⟨ret_bool (by first | exact HF.out | (rw [← HF.out]; simp_all; done)), ext_alloc (ext_refl w) _⟩
  · have h0 : (r.ap == 0) = false := by simp [h]
    have HF := Lib.hid (show false = plainR r by unfold plainR; simp [h])
    clear h
    go_enter Try.func58, Try.ntmps58
    go_wp2_with fail
    all_goals
      go_ret
      exact ⟨ret_bool (by first | exact HF.out | (rw [← HF.out]; simp_all; done)), ext_alloc (ext_refl w) _⟩
theorem plain_at {r : Ru} {w : World} (v : Bool) (hv : plainR r = v) : Calls Try.prog 58 #[.agg #[.int .i64 r.k, .string r.sc, .string r.sa, .int .i64 r.cl, .int .i64 r.ap, .int .i64 r.n, .int .i64 r.f, .int .i64 r.t]] w (RetB w v) := by
  subst hv; exact plain_any r w
theorem tab0_any (a : As) (r : Ru) (w : World) : Calls Try.prog 54 #[a.v, r.v] w (RetB w false) := by
  go_enter Try.func54, Try.ntmps54
  go_wp2_with fail
  all_goals
    go_ret
    exact ⟨rfl, ext_alloc (ext_alloc (ext_refl w) _) _⟩
set_option maxHeartbeats 1600000 in
theorem tab2_any (a : As) (r : Ru) (w : World) : Calls Try.prog 57 #[a.v, r.v] w (RetB w (val2 r)) := by
  obtain ⟨p, hp⟩ : ∃ v, plainR r = v := ⟨_, rfl⟩
  have HP := Lib.hid hp
  clear hp
  cases p
  · have E := Lib.hid (ext_refl w)
    replace E := Lib.hid (ext_alloc E.out (.cells #[.slice a.s0.A a.s0.n a.s0.c, .slice a.s1.A a.s1.n a.s1.c, .slice a.s2.A a.s2.n a.s2.c, .slice a.s3.A a.s3.n a.s3.c, .slice a.s4.A a.s4.n a.s4.c, .slice a.aps.A a.aps.n a.aps.c, .slice a.cls.A a.cls.n a.cls.c, .slice a.rs.A a.rs.l.length a.rs.c] 31))
    have X := Lib.hid (Blk.newH w [.slice a.s0.A a.s0.n a.s0.c, .slice a.s1.A a.s1.n a.s1.c, .slice a.s2.A a.s2.n a.s2.c, .slice a.s3.A a.s3.n a.s3.c, .slice a.s4.A a.s4.n a.s4.c, .slice a.aps.A a.aps.n a.aps.c, .slice a.cls.A a.cls.n a.cls.c, .slice a.rs.A a.rs.l.length a.rs.c] 31 (w.heap.size) (by first | rfl | simp))
    replace E := Lib.hid (ext_alloc E.out (.cells #[.int .i64 r.k, .string r.sc, .string r.sa, .int .i64 r.cl, .int .i64 r.ap, .int .i64 r.n, .int .i64 r.f, .int .i64 r.t] 42))
    replace X := Lib.hid (X.out.alloc (.cells #[.int .i64 r.k, .string r.sc, .string r.sa, .int .i64 r.cl, .int .i64 r.ap, .int .i64 r.n, .int .i64 r.f, .int .i64 r.t] 42))
    have Y := Lib.hid (Blk.newH (w.alloc (.cells #[.slice a.s0.A a.s0.n a.s0.c, .slice a.s1.A a.s1.n a.s1.c, .slice a.s2.A a.s2.n a.s2.c, .slice a.s3.A a.s3.n a.s3.c, .slice a.s4.A a.s4.n a.s4.c, .slice a.aps.A a.aps.n a.aps.c, .slice a.cls.A a.cls.n a.cls.c, .slice a.rs.A a.rs.l.length a.rs.c] 31)) [.int .i64 r.k, .string r.sc, .string r.sa, .int .i64 r.cl, .int .i64 r.ap, .int .i64 r.n, .int .i64 r.f, .int .i64 r.t] 42 (w.heap.size + 1) (by first | rfl | simp))
    go_enter Try.func57, Try.ntmps57
    have c0 := Y.out.c 0 _ rfl
    have c1 := Y.out.c 1 _ rfl
    have c2 := Y.out.c 2 _ rfl
    have c3 := Y.out.c 3 _ rfl
    have c4 := Y.out.c 4 _ rfl
    have c5 := Y.out.c 5 _ rfl
    have c6 := Y.out.c 6 _ rfl
    have c7 := Y.out.c 7 _ rfl
    go_wp2_with fail
    refine (plain_at false HP.out).mono ?_
    rintro e v1 ⟨rfl, B⟩
    clear c0 c1 c2 c3 c4 c5 c6 c7
    replace E := Lib.hid (ext_trans E.out B)
    replace X := Lib.hid (X.out.ext B)
    replace Y := Lib.hid (Y.out.ext B)
    clear B
    go_wp2_with fail
    all_goals
      go_ret
      refine ⟨ret_bool ?_, E.out⟩
      unfold val2
      rw [HP.out]
      first | rfl | (simp; done) | (simp; omega) | (simp_all; done) | (simp_all; omega) | (rw [Int.tmod_eq_emod_of_nonneg (by assumption)]; simp_all; done) | (rw [Int.tmod_eq_emod_of_nonneg (by assumption)]; simp_all; rfl)
  · have E := Lib.hid (ext_refl w)
    replace E := Lib.hid (ext_alloc E.out (.cells #[.slice a.s0.A a.s0.n a.s0.c, .slice a.s1.A a.s1.n a.s1.c, .slice a.s2.A a.s2.n a.s2.c, .slice a.s3.A a.s3.n a.s3.c, .slice a.s4.A a.s4.n a.s4.c, .slice a.aps.A a.aps.n a.aps.c, .slice a.cls.A a.cls.n a.cls.c, .slice a.rs.A a.rs.l.length a.rs.c] 31))
    have X := Lib.hid (Blk.newH w [.slice a.s0.A a.s0.n a.s0.c, .slice a.s1.A a.s1.n a.s1.c, .slice a.s2.A a.s2.n a.s2.c, .slice a.s3.A a.s3.n a.s3.c, .slice a.s4.A a.s4.n a.s4.c, .slice a.aps.A a.aps.n a.aps.c, .slice a.cls.A a.cls.n a.cls.c, .slice a.rs.A a.rs.l.length a.rs.c] 31 (w.heap.size) (by first | rfl | simp))
    replace E := Lib.hid (ext_alloc E.out (.cells #[.int .i64 r.k, .string r.sc, .string r.sa, .int .i64 r.cl, .int .i64 r.ap, .int .i64 r.n, .int .i64 r.f, .int .i64 r.t] 42))
    replace X := Lib.hid (X.out.alloc (.cells #[.int .i64 r.k, .string r.sc, .string r.sa, .int .i64 r.cl, .int .i64 r.ap, .int .i64 r.n, .int .i64 r.f, .int .i64 r.t] 42))
    have Y := Lib.hid (Blk.newH (w.alloc (.cells #[.slice a.s0.A a.s0.n a.s0.c, .slice a.s1.A a.s1.n a.s1.c, .slice a.s2.A a.s2.n a.s2.c, .slice a.s3.A a.s3.n a.s3.c, .slice a.s4.A a.s4.n a.s4.c, .slice a.aps.A a.aps.n a.aps.c, .slice a.cls.A a.cls.n a.cls.c, .slice a.rs.A a.rs.l.length a.rs.c] 31)) [.int .i64 r.k, .string r.sc, .string r.sa, .int .i64 r.cl, .int .i64 r.ap, .int .i64 r.n, .int .i64 r.f, .int .i64 r.t] 42 (w.heap.size + 1) (by first | rfl | simp))
    go_enter Try.func57, Try.ntmps57
    have c0 := Y.out.c 0 _ rfl
    have c1 := Y.out.c 1 _ rfl
    have c2 := Y.out.c 2 _ rfl
    have c3 := Y.out.c 3 _ rfl
    have c4 := Y.out.c 4 _ rfl
    have c5 := Y.out.c 5 _ rfl
    have c6 := Y.out.c 6 _ rfl
    have c7 := Y.out.c 7 _ rfl
    go_wp2_with fail
    refine (plain_at true HP.out).mono ?_
    rintro e v1 ⟨rfl, B⟩
    clear c0 c1 c2 c3 c4 c5 c6 c7
    replace E := Lib.hid (ext_trans E.out B)
    replace X := Lib.hid (X.out.ext B)
    replace Y := Lib.hid (Y.out.ext B)
    clear B
    have c0 := Y.out.c 5 _ rfl
    go_wp2_with fail
    all_goals
      go_ret
      refine ⟨ret_bool ?_, E.out⟩
      unfold val2
      rw [HP.out]
      first | rfl | (simp; done) | (simp; omega) | (simp_all; done) | (simp_all; omega) | (rw [Int.tmod_eq_emod_of_nonneg (by assumption)]; simp_all; done) | (rw [Int.tmod_eq_emod_of_nonneg (by assumption)]; simp_all; rfl)
set_option maxHeartbeats 1600000 in
theorem tab3_any (a : As) (r : Ru) (w : World) : Calls Try.prog 59 #[a.v, r.v] w (RetB w (val3 r)) := by
  obtain ⟨p, hp⟩ : ∃ v, plainR r = v := ⟨_, rfl⟩
  have HP := Lib.hid hp
  clear hp
  cases p
  · have E := Lib.hid (ext_refl w)
    replace E := Lib.hid (ext_alloc E.out (.cells #[.slice a.s0.A a.s0.n a.s0.c, .slice a.s1.A a.s1.n a.s1.c, .slice a.s2.A a.s2.n a.s2.c, .slice a.s3.A a.s3.n a.s3.c, .slice a.s4.A a.s4.n a.s4.c, .slice a.aps.A a.aps.n a.aps.c, .slice a.cls.A a.cls.n a.cls.c, .slice a.rs.A a.rs.l.length a.rs.c] 31))
    have X := Lib.hid (Blk.newH w [.slice a.s0.A a.s0.n a.s0.c, .slice a.s1.A a.s1.n a.s1.c, .slice a.s2.A a.s2.n a.s2.c, .slice a.s3.A a.s3.n a.s3.c, .slice a.s4.A a.s4.n a.s4.c, .slice a.aps.A a.aps.n a.aps.c, .slice a.cls.A a.cls.n a.cls.c, .slice a.rs.A a.rs.l.length a.rs.c] 31 (w.heap.size) (by first | rfl | simp))
    replace E := Lib.hid (ext_alloc E.out (.cells #[.int .i64 r.k, .string r.sc, .string r.sa, .int .i64 r.cl, .int .i64 r.ap, .int .i64 r.n, .int .i64 r.f, .int .i64 r.t] 42))
    replace X := Lib.hid (X.out.alloc (.cells #[.int .i64 r.k, .string r.sc, .string r.sa, .int .i64 r.cl, .int .i64 r.ap, .int .i64 r.n, .int .i64 r.f, .int .i64 r.t] 42))
    have Y := Lib.hid (Blk.newH (w.alloc (.cells #[.slice a.s0.A a.s0.n a.s0.c, .slice a.s1.A a.s1.n a.s1.c, .slice a.s2.A a.s2.n a.s2.c, .slice a.s3.A a.s3.n a.s3.c, .slice a.s4.A a.s4.n a.s4.c, .slice a.aps.A a.aps.n a.aps.c, .slice a.cls.A a.cls.n a.cls.c, .slice a.rs.A a.rs.l.length a.rs.c] 31)) [.int .i64 r.k, .string r.sc, .string r.sa, .int .i64 r.cl, .int .i64 r.ap, .int .i64 r.n, .int .i64 r.f, .int .i64 r.t] 42 (w.heap.size + 1) (by first | rfl | simp))
    go_enter Try.func59, Try.ntmps59
    have c0 := Y.out.c 0 _ rfl
    have c1 := Y.out.c 1 _ rfl
    have c2 := Y.out.c 2 _ rfl
    have c3 := Y.out.c 3 _ rfl
    have c4 := Y.out.c 4 _ rfl
    have c5 := Y.out.c 5 _ rfl
    have c6 := Y.out.c 6 _ rfl
    have c7 := Y.out.c 7 _ rfl
    go_wp2_with fail
    refine (plain_at false HP.out).mono ?_
    rintro e v1 ⟨rfl, B⟩
    clear c0 c1 c2 c3 c4 c5 c6 c7
    replace E := Lib.hid (ext_trans E.out B)
    replace X := Lib.hid (X.out.ext B)
    replace Y := Lib.hid (Y.out.ext B)
    clear B
    go_wp2_with fail
    all_goals
      go_ret
      refine ⟨ret_bool ?_, E.out⟩
      unfold val3
      rw [HP.out]
      first | rfl | (simp; done) | (simp; omega) | (simp_all; done) | (simp_all; omega) | (rw [Int.tmod_eq_emod_of_nonneg (by assumption)]; simp_all; done) | (rw [Int.tmod_eq_emod_of_nonneg (by assumption)]; simp_all; rfl)
  · have E := Lib.hid (ext_refl w)
    replace E := Lib.hid (ext_alloc E.out (.cells #[.slice a.s0.A a.s0.n a.s0.c, .slice a.s1.A a.s1.n a.s1.c, .slice a.s2.A a.s2.n a.s2.c, .slice a.s3.A a.s3.n a.s3.c, .slice a.s4.A a.s4.n a.s4.c, .slice a.aps.A a.aps.n a.aps.c, .slice a.cls.A a.cls.n a.cls.c, .slice a.rs.A a.rs.l.length a.rs.c] 31))
    have X := Lib.hid (Blk.newH w [.slice a.s0.A a.s0.n a.s0.c, .slice a.s1.A a.s1.n a.s1.c, .slice a.s2.A a.s2.n a.s2.c, .slice a.s3.A a.s3.n a.s3.c, .slice a.s4.A a.s4.n a.s4.c, .slice a.aps.A a.aps.n a.aps.c, .slice a.cls.A a.cls.n a.cls.c, .slice a.rs.A a.rs.l.length a.rs.c] 31 (w.heap.size) (by first | rfl | simp))
    replace E := Lib.hid (ext_alloc E.out (.cells #[.int .i64 r.k, .string r.sc, .string r.sa, .int .i64 r.cl, .int .i64 r.ap, .int .i64 r.n, .int .i64 r.f, .int .i64 r.t] 42))
    replace X := Lib.hid (X.out.alloc (.cells #[.int .i64 r.k, .string r.sc, .string r.sa, .int .i64 r.cl, .int .i64 r.ap, .int .i64 r.n, .int .i64 r.f, .int .i64 r.t] 42))
    have Y := Lib.hid (Blk.newH (w.alloc (.cells #[.slice a.s0.A a.s0.n a.s0.c, .slice a.s1.A a.s1.n a.s1.c, .slice a.s2.A a.s2.n a.s2.c, .slice a.s3.A a.s3.n a.s3.c, .slice a.s4.A a.s4.n a.s4.c, .slice a.aps.A a.aps.n a.aps.c, .slice a.cls.A a.cls.n a.cls.c, .slice a.rs.A a.rs.l.length a.rs.c] 31)) [.int .i64 r.k, .string r.sc, .string r.sa, .int .i64 r.cl, .int .i64 r.ap, .int .i64 r.n, .int .i64 r.f, .int .i64 r.t] 42 (w.heap.size + 1) (by first | rfl | simp))
    go_enter Try.func59, Try.ntmps59
    have c0 := Y.out.c 0 _ rfl
    have c1 := Y.out.c 1 _ rfl
    have c2 := Y.out.c 2 _ rfl
    have c3 := Y.out.c 3 _ rfl
    have c4 := Y.out.c 4 _ rfl
    have c5 := Y.out.c 5 _ rfl
    have c6 := Y.out.c 6 _ rfl
    have c7 := Y.out.c 7 _ rfl
    go_wp2_with fail
    refine (plain_at true HP.out).mono ?_
    rintro e v1 ⟨rfl, B⟩
    clear c0 c1 c2 c3 c4 c5 c6 c7
    replace E := Lib.hid (ext_trans E.out B)
    replace X := Lib.hid (X.out.ext B)
    replace Y := Lib.hid (Y.out.ext B)
    clear B
    have c0 := Y.out.c 5 _ rfl
    go_wp2_with fail
    all_goals
      go_ret
      refine ⟨ret_bool ?_, E.out⟩
      unfold val3
      rw [HP.out]
      first | rfl | (simp; done) | (simp; omega) | (simp_all; done) | (simp_all; omega) | (rw [Int.tmod_eq_emod_of_nonneg (by assumption)]; simp_all; done) | (rw [Int.tmod_eq_emod_of_nonneg (by assumption)]; simp_all; rfl)
set_option maxHeartbeats 1600000 in
theorem tab4_any (a : As) (r : Ru) (w : World) : Calls Try.prog 60 #[a.v, r.v] w (RetB w (val4 r)) := by
  obtain ⟨p, hp⟩ : ∃ v, plainR r = v := ⟨_, rfl⟩
  have HP := Lib.hid hp
  clear hp
  cases p
  · have E := Lib.hid (ext_refl w)
    replace E := Lib.hid (ext_alloc E.out (.cells #[.slice a.s0.A a.s0.n a.s0.c, .slice a.s1.A a.s1.n a.s1.c, .slice a.s2.A a.s2.n a.s2.c, .slice a.s3.A a.s3.n a.s3.c, .slice a.s4.A a.s4.n a.s4.c, .slice a.aps.A a.aps.n a.aps.c, .slice a.cls.A a.cls.n a.cls.c, .slice a.rs.A a.rs.l.length a.rs.c] 31))
    have X := Lib.hid (Blk.newH w [.slice a.s0.A a.s0.n a.s0.c, .slice a.s1.A a.s1.n a.s1.c, .slice a.s2.A a.s2.n a.s2.c, .slice a.s3.A a.s3.n a.s3.c, .slice a.s4.A a.s4.n a.s4.c, .slice a.aps.A a.aps.n a.aps.c, .slice a.cls.A a.cls.n a.cls.c, .slice a.rs.A a.rs.l.length a.rs.c] 31 (w.heap.size) (by first | rfl | simp))
    replace E := Lib.hid (ext_alloc E.out (.cells #[.int .i64 r.k, .string r.sc, .string r.sa, .int .i64 r.cl, .int .i64 r.ap, .int .i64 r.n, .int .i64 r.f, .int .i64 r.t] 42))
    replace X := Lib.hid (X.out.alloc (.cells #[.int .i64 r.k, .string r.sc, .string r.sa, .int .i64 r.cl, .int .i64 r.ap, .int .i64 r.n, .int .i64 r.f, .int .i64 r.t] 42))
    have Y := Lib.hid (Blk.newH (w.alloc (.cells #[.slice a.s0.A a.s0.n a.s0.c, .slice a.s1.A a.s1.n a.s1.c, .slice a.s2.A a.s2.n a.s2.c, .slice a.s3.A a.s3.n a.s3.c, .slice a.s4.A a.s4.n a.s4.c, .slice a.aps.A a.aps.n a.aps.c, .slice a.cls.A a.cls.n a.cls.c, .slice a.rs.A a.rs.l.length a.rs.c] 31)) [.int .i64 r.k, .string r.sc, .string r.sa, .int .i64 r.cl, .int .i64 r.ap, .int .i64 r.n, .int .i64 r.f, .int .i64 r.t] 42 (w.heap.size + 1) (by first | rfl | simp))
    go_enter Try.func60, Try.ntmps60
    have c0 := Y.out.c 0 _ rfl
    have c1 := Y.out.c 1 _ rfl
    have c2 := Y.out.c 2 _ rfl
    have c3 := Y.out.c 3 _ rfl
    have c4 := Y.out.c 4 _ rfl
    have c5 := Y.out.c 5 _ rfl
    have c6 := Y.out.c 6 _ rfl
    have c7 := Y.out.c 7 _ rfl
    go_wp2_with fail
    refine (plain_at false HP.out).mono ?_
    rintro e v1 ⟨rfl, B⟩
    clear c0 c1 c2 c3 c4 c5 c6 c7
    replace E := Lib.hid (ext_trans E.out B)
    replace X := Lib.hid (X.out.ext B)
    replace Y := Lib.hid (Y.out.ext B)
    clear B
    go_wp2_with fail
    all_goals
      go_ret
      refine ⟨ret_bool ?_, E.out⟩
      unfold val4
      rw [HP.out]
      first | rfl | (simp; done) | (simp; omega) | (simp_all; done) | (simp_all; omega) | (rw [Int.tmod_eq_emod_of_nonneg (by assumption)]; simp_all; done) | (rw [Int.tmod_eq_emod_of_nonneg (by assumption)]; simp_all; rfl)
  · have E := Lib.hid (ext_refl w)
    replace E := Lib.hid (ext_alloc E.out (.cells #[.slice a.s0.A a.s0.n a.s0.c, .slice a.s1.A a.s1.n a.s1.c, .slice a.s2.A a.s2.n a.s2.c, .slice a.s3.A a.s3.n a.s3.c, .slice a.s4.A a.s4.n a.s4.c, .slice a.aps.A a.aps.n a.aps.c, .slice a.cls.A a.cls.n a.cls.c, .slice a.rs.A a.rs.l.length a.rs.c] 31))
    have X := Lib.hid (Blk.newH w [.slice a.s0.A a.s0.n a.s0.c, .slice a.s1.A a.s1.n a.s1.c, .slice a.s2.A a.s2.n a.s2.c, .slice a.s3.A a.s3.n a.s3.c, .slice a.s4.A a.s4.n a.s4.c, .slice a.aps.A a.aps.n a.aps.c, .slice a.cls.A a.cls.n a.cls.c, .slice a.rs.A a.rs.l.length a.rs.c] 31 (w.heap.size) (by first | rfl | simp))
    replace E := Lib.hid (ext_alloc E.out (.cells #[.int .i64 r.k, .string r.sc, .string r.sa, .int .i64 r.cl, .int .i64 r.ap, .int .i64 r.n, .int .i64 r.f, .int .i64 r.t] 42))
    replace X := Lib.hid (X.out.alloc (.cells #[.int .i64 r.k, .string r.sc, .string r.sa, .int .i64 r.cl, .int .i64 r.ap, .int .i64 r.n, .int .i64 r.f, .int .i64 r.t] 42))
    have Y := Lib.hid (Blk.newH (w.alloc (.cells #[.slice a.s0.A a.s0.n a.s0.c, .slice a.s1.A a.s1.n a.s1.c, .slice a.s2.A a.s2.n a.s2.c, .slice a.s3.A a.s3.n a.s3.c, .slice a.s4.A a.s4.n a.s4.c, .slice a.aps.A a.aps.n a.aps.c, .slice a.cls.A a.cls.n a.cls.c, .slice a.rs.A a.rs.l.length a.rs.c] 31)) [.int .i64 r.k, .string r.sc, .string r.sa, .int .i64 r.cl, .int .i64 r.ap, .int .i64 r.n, .int .i64 r.f, .int .i64 r.t] 42 (w.heap.size + 1) (by first | rfl | simp))
    go_enter Try.func60, Try.ntmps60
    have c0 := Y.out.c 0 _ rfl
    have c1 := Y.out.c 1 _ rfl
    have c2 := Y.out.c 2 _ rfl
    have c3 := Y.out.c 3 _ rfl
    have c4 := Y.out.c 4 _ rfl
    have c5 := Y.out.c 5 _ rfl
    have c6 := Y.out.c 6 _ rfl
    have c7 := Y.out.c 7 _ rfl
    go_wp2_with fail
    refine (plain_at true HP.out).mono ?_
    rintro e v1 ⟨rfl, B⟩
    clear c0 c1 c2 c3 c4 c5 c6 c7
    replace E := Lib.hid (ext_trans E.out B)
    replace X := Lib.hid (X.out.ext B)
    replace Y := Lib.hid (Y.out.ext B)
    clear B
    have c0 := Y.out.c 5 _ rfl
    go_wp2_with fail
    all_goals
      go_ret
      refine ⟨ret_bool ?_, E.out⟩
      unfold val4
      rw [HP.out]
      first | rfl | (simp; done) | (simp; omega) | (simp_all; done) | (simp_all; omega) | (rw [Int.tmod_eq_emod_of_nonneg (by assumption)]; simp_all; done) | (rw [Int.tmod_eq_emod_of_nonneg (by assumption)]; simp_all; rfl)
set_option maxHeartbeats 1600000 in
theorem tab1_any (a : As) (r : Ru) (w : World) : Calls Try.prog 55 #[a.v, r.v] w (RetB w (val1 a.aps.n r)) := by
  obtain ⟨p, hp⟩ : ∃ v, badS r.h = v := ⟨_, rfl⟩
  have HP := Lib.hid hp
  have HC := Lib.hid (show chkE [r.h] = if p then 50 else 0 by unfold chkE; rw [← hp]; simp)
  clear hp
  by_cases h1 : r.n = 0
  rotate_left
  · have E := Lib.hid (ext_refl w)
    have f1 : (r.n == 0) = false := by simp [h1]
    have H1 := Lib.hid h1
    clear h1
    replace E := Lib.hid (ext_alloc E.out (.cells #[.slice a.s0.A a.s0.n a.s0.c, .slice a.s1.A a.s1.n a.s1.c, .slice a.s2.A a.s2.n a.s2.c, .slice a.s3.A a.s3.n a.s3.c, .slice a.s4.A a.s4.n a.s4.c, .slice a.aps.A a.aps.n a.aps.c, .slice a.cls.A a.cls.n a.cls.c, .slice a.rs.A a.rs.l.length a.rs.c] 31))
    have X := Lib.hid (Blk.newH w [.slice a.s0.A a.s0.n a.s0.c, .slice a.s1.A a.s1.n a.s1.c, .slice a.s2.A a.s2.n a.s2.c, .slice a.s3.A a.s3.n a.s3.c, .slice a.s4.A a.s4.n a.s4.c, .slice a.aps.A a.aps.n a.aps.c, .slice a.cls.A a.cls.n a.cls.c, .slice a.rs.A a.rs.l.length a.rs.c] 31 (w.heap.size) (by first | rfl | simp))
    replace E := Lib.hid (ext_alloc E.out (.cells #[.int .i64 r.k, .string r.sc, .string r.sa, .int .i64 r.cl, .int .i64 r.ap, .int .i64 r.n, .int .i64 r.f, .int .i64 r.t] 42))
    replace X := Lib.hid (X.out.alloc (.cells #[.int .i64 r.k, .string r.sc, .string r.sa, .int .i64 r.cl, .int .i64 r.ap, .int .i64 r.n, .int .i64 r.f, .int .i64 r.t] 42))
    have Y := Lib.hid (Blk.newH (w.alloc (.cells #[.slice a.s0.A a.s0.n a.s0.c, .slice a.s1.A a.s1.n a.s1.c, .slice a.s2.A a.s2.n a.s2.c, .slice a.s3.A a.s3.n a.s3.c, .slice a.s4.A a.s4.n a.s4.c, .slice a.aps.A a.aps.n a.aps.c, .slice a.cls.A a.cls.n a.cls.c, .slice a.rs.A a.rs.l.length a.rs.c] 31)) [.int .i64 r.k, .string r.sc, .string r.sa, .int .i64 r.cl, .int .i64 r.ap, .int .i64 r.n, .int .i64 r.f, .int .i64 r.t] 42 (w.heap.size + 1) (by first | rfl | simp))
    go_enter Try.func55, Try.ntmps55
    have c0 := Y.out.c 5 _ rfl
    have c1 := Y.out.c 4 _ rfl
    have c2 := X.out.c 5 _ rfl
    have c3 := Y.out.c 6 _ rfl
    have c4 := Y.out.c 7 _ rfl
    go_wp2_with fail
    all_goals
      go_ret
      exact ⟨ret_bool (by have hh := H1.out; unfold val1; first | (simp_all; done) | (simp_all; omega) | (simp_all; intro _; omega) | (simp_all; intro _ _; omega)), E.out⟩
  by_cases h2 : 0 ≤ r.ap
  rotate_left
  · have E := Lib.hid (ext_refl w)
    have f1 : (r.n == 0) = true := by simp [h1]
    have H1 := Lib.hid h1
    clear h1
    replace E := Lib.hid (ext_alloc E.out (.cells #[.slice a.s0.A a.s0.n a.s0.c, .slice a.s1.A a.s1.n a.s1.c, .slice a.s2.A a.s2.n a.s2.c, .slice a.s3.A a.s3.n a.s3.c, .slice a.s4.A a.s4.n a.s4.c, .slice a.aps.A a.aps.n a.aps.c, .slice a.cls.A a.cls.n a.cls.c, .slice a.rs.A a.rs.l.length a.rs.c] 31))
    have X := Lib.hid (Blk.newH w [.slice a.s0.A a.s0.n a.s0.c, .slice a.s1.A a.s1.n a.s1.c, .slice a.s2.A a.s2.n a.s2.c, .slice a.s3.A a.s3.n a.s3.c, .slice a.s4.A a.s4.n a.s4.c, .slice a.aps.A a.aps.n a.aps.c, .slice a.cls.A a.cls.n a.cls.c, .slice a.rs.A a.rs.l.length a.rs.c] 31 (w.heap.size) (by first | rfl | simp))
    replace E := Lib.hid (ext_alloc E.out (.cells #[.int .i64 r.k, .string r.sc, .string r.sa, .int .i64 r.cl, .int .i64 r.ap, .int .i64 r.n, .int .i64 r.f, .int .i64 r.t] 42))
    replace X := Lib.hid (X.out.alloc (.cells #[.int .i64 r.k, .string r.sc, .string r.sa, .int .i64 r.cl, .int .i64 r.ap, .int .i64 r.n, .int .i64 r.f, .int .i64 r.t] 42))
    have Y := Lib.hid (Blk.newH (w.alloc (.cells #[.slice a.s0.A a.s0.n a.s0.c, .slice a.s1.A a.s1.n a.s1.c, .slice a.s2.A a.s2.n a.s2.c, .slice a.s3.A a.s3.n a.s3.c, .slice a.s4.A a.s4.n a.s4.c, .slice a.aps.A a.aps.n a.aps.c, .slice a.cls.A a.cls.n a.cls.c, .slice a.rs.A a.rs.l.length a.rs.c] 31)) [.int .i64 r.k, .string r.sc, .string r.sa, .int .i64 r.cl, .int .i64 r.ap, .int .i64 r.n, .int .i64 r.f, .int .i64 r.t] 42 (w.heap.size + 1) (by first | rfl | simp))
    go_enter Try.func55, Try.ntmps55
    have c0 := Y.out.c 5 _ rfl
    have c1 := Y.out.c 4 _ rfl
    have c2 := X.out.c 5 _ rfl
    have c3 := Y.out.c 6 _ rfl
    have c4 := Y.out.c 7 _ rfl
    go_wp2_with fail
    all_goals
      go_ret
      exact ⟨ret_bool (by have hh := H1.out; unfold val1; first | (simp_all; done) | (simp_all; omega) | (simp_all; intro _; omega) | (simp_all; intro _ _; omega)), E.out⟩
  by_cases h3 : r.ap < (a.aps.n : Int)
  rotate_left
  · have E := Lib.hid (ext_refl w)
    have f1 : (r.n == 0) = true := by simp [h1]
    have H1 := Lib.hid h1
    clear h1
    replace E := Lib.hid (ext_alloc E.out (.cells #[.slice a.s0.A a.s0.n a.s0.c, .slice a.s1.A a.s1.n a.s1.c, .slice a.s2.A a.s2.n a.s2.c, .slice a.s3.A a.s3.n a.s3.c, .slice a.s4.A a.s4.n a.s4.c, .slice a.aps.A a.aps.n a.aps.c, .slice a.cls.A a.cls.n a.cls.c, .slice a.rs.A a.rs.l.length a.rs.c] 31))
    have X := Lib.hid (Blk.newH w [.slice a.s0.A a.s0.n a.s0.c, .slice a.s1.A a.s1.n a.s1.c, .slice a.s2.A a.s2.n a.s2.c, .slice a.s3.A a.s3.n a.s3.c, .slice a.s4.A a.s4.n a.s4.c, .slice a.aps.A a.aps.n a.aps.c, .slice a.cls.A a.cls.n a.cls.c, .slice a.rs.A a.rs.l.length a.rs.c] 31 (w.heap.size) (by first | rfl | simp))
    replace E := Lib.hid (ext_alloc E.out (.cells #[.int .i64 r.k, .string r.sc, .string r.sa, .int .i64 r.cl, .int .i64 r.ap, .int .i64 r.n, .int .i64 r.f, .int .i64 r.t] 42))
    replace X := Lib.hid (X.out.alloc (.cells #[.int .i64 r.k, .string r.sc, .string r.sa, .int .i64 r.cl, .int .i64 r.ap, .int .i64 r.n, .int .i64 r.f, .int .i64 r.t] 42))
    have Y := Lib.hid (Blk.newH (w.alloc (.cells #[.slice a.s0.A a.s0.n a.s0.c, .slice a.s1.A a.s1.n a.s1.c, .slice a.s2.A a.s2.n a.s2.c, .slice a.s3.A a.s3.n a.s3.c, .slice a.s4.A a.s4.n a.s4.c, .slice a.aps.A a.aps.n a.aps.c, .slice a.cls.A a.cls.n a.cls.c, .slice a.rs.A a.rs.l.length a.rs.c] 31)) [.int .i64 r.k, .string r.sc, .string r.sa, .int .i64 r.cl, .int .i64 r.ap, .int .i64 r.n, .int .i64 r.f, .int .i64 r.t] 42 (w.heap.size + 1) (by first | rfl | simp))
    go_enter Try.func55, Try.ntmps55
    have c0 := Y.out.c 5 _ rfl
    have c1 := Y.out.c 4 _ rfl
    have c2 := X.out.c 5 _ rfl
    have c3 := Y.out.c 6 _ rfl
    have c4 := Y.out.c 7 _ rfl
    go_wp2_with fail
    all_goals
      go_ret
      exact ⟨ret_bool (by have hh := H1.out; unfold val1; first | (simp_all; done) | (simp_all; omega) | (simp_all; intro _; omega) | (simp_all; intro _ _; omega)), E.out⟩
  · have E := Lib.hid (ext_refl w)
    have f1 : (r.n == 0) = true := by simp [h1]
    have H1 := Lib.hid h1
    clear h1
    replace E := Lib.hid (ext_alloc E.out (.cells #[.slice a.s0.A a.s0.n a.s0.c, .slice a.s1.A a.s1.n a.s1.c, .slice a.s2.A a.s2.n a.s2.c, .slice a.s3.A a.s3.n a.s3.c, .slice a.s4.A a.s4.n a.s4.c, .slice a.aps.A a.aps.n a.aps.c, .slice a.cls.A a.cls.n a.cls.c, .slice a.rs.A a.rs.l.length a.rs.c] 31))
    have X := Lib.hid (Blk.newH w [.slice a.s0.A a.s0.n a.s0.c, .slice a.s1.A a.s1.n a.s1.c, .slice a.s2.A a.s2.n a.s2.c, .slice a.s3.A a.s3.n a.s3.c, .slice a.s4.A a.s4.n a.s4.c, .slice a.aps.A a.aps.n a.aps.c, .slice a.cls.A a.cls.n a.cls.c, .slice a.rs.A a.rs.l.length a.rs.c] 31 (w.heap.size) (by first | rfl | simp))
    replace E := Lib.hid (ext_alloc E.out (.cells #[.int .i64 r.k, .string r.sc, .string r.sa, .int .i64 r.cl, .int .i64 r.ap, .int .i64 r.n, .int .i64 r.f, .int .i64 r.t] 42))
    replace X := Lib.hid (X.out.alloc (.cells #[.int .i64 r.k, .string r.sc, .string r.sa, .int .i64 r.cl, .int .i64 r.ap, .int .i64 r.n, .int .i64 r.f, .int .i64 r.t] 42))
    have Y := Lib.hid (Blk.newH (w.alloc (.cells #[.slice a.s0.A a.s0.n a.s0.c, .slice a.s1.A a.s1.n a.s1.c, .slice a.s2.A a.s2.n a.s2.c, .slice a.s3.A a.s3.n a.s3.c, .slice a.s4.A a.s4.n a.s4.c, .slice a.aps.A a.aps.n a.aps.c, .slice a.cls.A a.cls.n a.cls.c, .slice a.rs.A a.rs.l.length a.rs.c] 31)) [.int .i64 r.k, .string r.sc, .string r.sa, .int .i64 r.cl, .int .i64 r.ap, .int .i64 r.n, .int .i64 r.f, .int .i64 r.t] 42 (w.heap.size + 1) (by first | rfl | simp))
    go_enter Try.func55, Try.ntmps55
    have c0 := Y.out.c 5 _ rfl
    have c1 := Y.out.c 4 _ rfl
    have c2 := X.out.c 5 _ rfl
    have c3 := Y.out.c 6 _ rfl
    have c4 := Y.out.c 7 _ rfl
    go_wp2_with fail
    refine (check_any (some ⟨w.heap.size + 1 + 1, 0, none⟩) 1 [r.h] _ (slc_litH _ [r.h] #[.int .i64 r.f, .int .i64 r.t] 40 (enc := Sp.cells) (sz := 2) (fun _ => rfl) rfl (w.heap.size + 1 + 1) (by first | rfl | simp)) (by show 1 < 1000000; decide)).mono ?_
    rintro e w5 ⟨rfl, B⟩
    rw [HC.out]
    replace E := Lib.hid (ext_trans (ext_alloc E.out _) B)
    clear B
    cases p
    all_goals
      go_wp2_with fail
      go_ret
      exact ⟨ret_bool (by have hh := H1.out; unfold val1; rw [HP.out]; simp_all), E.out⟩
end Go.Proofs.Ytmgpbjpohbpgpaa
