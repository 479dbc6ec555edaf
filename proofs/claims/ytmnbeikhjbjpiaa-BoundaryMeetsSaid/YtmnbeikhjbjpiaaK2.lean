/- Contracts: the rate at a minute, the reference's. -/
import Derived.Test.YtmnbeikhjbjpiaaC
import Derived.Test.YtmnbeikhjbjpiaaL0
set_option linter.unusedSimpArgs false
set_option linter.unusedVariables false
namespace Go.Proofs.Ytmnbeikhjbjpiaa
open Go.RowKit
theorem cnt_eq24 (f t m : Int) (a : Ag) : cnt f t m a = (decide (a.f = f) && decide (a.t = t) && decide (a.m ≤ m)) := rfl
set_option maxHeartbeats 800000 in
theorem rrate_any (b : Bd) (f t m : Int) (w : World) (hb : Slc w Ag.cells 5 b.ag.A b.ag.l) (hn : b.ag.l.length ≤ maxLen) : Calls Try.prog 24 #[b.v, .int .i64 f, .int .i64 t, .int .i64 m] w fun e w' => e = .returned (.tuple #[.int .i64 (rateV (rateL b.ag.l f t m)), .bool (rateL b.ag.l f t m).isSome]) ∧ Below w.heap.size w w' := by
  unfold maxLen at hn
  obtain ⟨R, hR⟩ : ∃ R, rateL b.ag.l f t m = R := ⟨_, rfl⟩
  have HR := Lib.hid hR
  rw [hR]
  clear hR
  have E := Lib.hid (ext_refl w)
  have HOF := Lib.hid (hb.rowOff (b := w.heap.size + 1) (by omega))
  have SL := Lib.hid (hb)
  clear hb
  replace E := Lib.hid (ext_alloc E.out (.cells #[.int .i64 b.own, .int .i64 b.ot, .slice b.ag.A b.ag.l.length b.ag.c, .slice b.op.A b.op.l.length b.op.c] 24))
  replace SL := Lib.hid (SL.out.alloc (.cells #[.int .i64 b.own, .int .i64 b.ot, .slice b.ag.A b.ag.l.length b.ag.c, .slice b.op.A b.op.l.length b.op.c] 24))
  have BB := Lib.hid (Blk.newH w [.int .i64 b.own, .int .i64 b.ot, .slice b.ag.A b.ag.l.length b.ag.c, .slice b.op.A b.op.l.length b.op.c] 24 (w.heap.size) (by first | rfl | simp))
  replace E := Lib.hid (ext_alloc E.out (.cells #[.int .i64 0, .int .i64 0, .int .i64 0, .int .i64 0, .int .i64 0] 26))
  replace SL := Lib.hid (SL.out.alloc (.cells #[.int .i64 0, .int .i64 0, .int .i64 0, .int .i64 0, .int .i64 0] 26))
  replace BB := Lib.hid (BB.out.alloc (.cells #[.int .i64 0, .int .i64 0, .int .i64 0, .int .i64 0, .int .i64 0] 26))
  have X := Lib.hid (Blk.newH (w.alloc (.cells #[.int .i64 b.own, .int .i64 b.ot, .slice b.ag.A b.ag.l.length b.ag.c, .slice b.op.A b.op.l.length b.op.c] 24)) [.int .i64 0, .int .i64 0, .int .i64 0, .int .i64 0, .int .i64 0] 26 (w.heap.size + 1) (by first | rfl | simp))
  go_enter Try.func24, Try.ntmps24
  go_wp2_with fail
  obtain ⟨W0, hNW0⟩ : ∃ W0, W0 = ((w.alloc (.cells #[.int .i64 b.own, .int .i64 b.ot, .slice b.ag.A b.ag.l.length b.ag.c, .slice b.op.A b.op.l.length b.op.c] 24)).alloc (.cells #[.int .i64 0, .int .i64 0, .int .i64 0, .int .i64 0, .int .i64 0] 26)) := ⟨_, rfl⟩
  have hzW0 : W0.heap.size = w.heap.size + 1 + 1 := by rw [hNW0]; simp
  have ZW0 := Lib.hid hzW0
  rw [← hNW0] at E SL BB X ⊢
  clear hNW0 hzW0
  have c2 := BB.out.c 2 _ rfl
  go_loopw [11, 12] (fun v i wr => ∃ k : Nat, k ≤ b.ag.l.length ∧ i = .int .i64 k ∧ v = .bool (rateL (b.ag.l.take k) f t m).isSome ∧ Hid (Blk wr w.heap.size [.int .i64 b.own, .int .i64 b.ot, .slice b.ag.A b.ag.l.length b.ag.c, .slice b.op.A b.op.l.length b.op.c]) ∧ Hid (Blk wr (w.heap.size + 1) (Ag.cells ((rateL (b.ag.l.take k) f t m).getD zeroA))) ∧ Hid (Slc wr Ag.cells 5 b.ag.A b.ag.l) ∧ Hid (Below w.heap.size w wr)) (fun v i _ => b.ag.l.length - (intOf i).toNat)
  case atStart => exact ⟨0, Nat.zero_le _, rfl, rfl, BB.out, X.out, SL.out, E.out⟩
  clear E SL X BB c2
  case round =>
    obtain ⟨k, hk, rfl, rfl, BB, X, SL, E⟩ := hrel
    obtain ⟨o, ho⟩ : ∃ o, rateL (b.ag.l.take k) f t m = o := ⟨_, rfl⟩
    have HO := Lib.hid ho
    rw [ho] at X
    simp only [ho]
    clear ho
    have hXl := X.out.lt
    have q2 := BB.out.c 2 _ rfl
    by_cases hlt : k < b.ag.l.length
    rotate_left
    · have hge : ¬ (k : Int) < b.ag.l.length := by omega
      have HZ := Lib.hid (show o = R by rw [← HO.out, List.take_of_length_le (by omega)]; exact HR.out)
      have x4 := X.out.c 4 _ rfl
      go_wp2_with fail
      refine bodyPost_ret (v := .tuple #[.int .i64 (o.getD zeroA).r, .bool o.isSome]) (by simp [results, Try.results24, go_sem, *]) rfl ?_
      refine ⟨?_, E.out⟩
      rw [← HZ.out]
      cases o <;> rfl
    obtain ⟨x, b1, o1, hx, hA, hb1, hc⟩ := SL.out.at_ hlt
    have c0 := hc 0 _ rfl
    have c1 := hc 1 _ rfl
    have c3 := hc 2 _ rfl
    have c4 := hc 3 _ rfl
    have c5 := hc 4 _ rfl
    simp only [Nat.add_zero] at c0
    have hlt' : (k : Int) < b.ag.l.length := by omega
    have HT := Lib.hid (rate_take (f := f) (t := t) (m := m) hx)
    rw [HO.out] at HT
    obtain ⟨sA, hsA⟩ : ∃ sA, b.ag.A = sA := ⟨_, rfl⟩
    have HSA := Lib.hid hsA
    rw [hsA] at hA
    subst hA
    simp only [hsA] at *
    clear hc hx
    rename_i K2 a2
    clear a2
    have HC := Lib.hid (cnt_eq24 f t m x)
    by_cases h1 : x.f = f
    rotate_left
    · have e1 : (x.f != f) = true := by simpa using h1
      have HZ := Lib.hid (show rateL (b.ag.l.take (k + 1)) f t m = o by rw [HT.out]; unfold rStep; rw [HC.out, decide_eq_false h1]; simp)
      clear h1
      go_wp2_with fail
      go_roundw
      case rel => exact ⟨k + 1, hlt, by go_num, (by first | (rw [HZ.out]; rfl) | rw [HZ.out]), BB.out.alloc _, (by rw [HZ.out]; exact X.out.alloc _), SL.out.alloc _, ext_alloc E.out _⟩
      case measure => simp [intOf]; omega
    have e1 : (x.f != f) = false := by simpa using h1
    by_cases h2 : x.t = t
    rotate_left
    · have e2 : (x.t != t) = true := by simpa using h2
      have HZ := Lib.hid (show rateL (b.ag.l.take (k + 1)) f t m = o by rw [HT.out]; unfold rStep; rw [HC.out, decide_eq_false h2]; simp)
      clear h2
      go_wp2_with fail
      go_roundw
      case rel => exact ⟨k + 1, hlt, by go_num, (by first | (rw [HZ.out]; rfl) | rw [HZ.out]), BB.out.alloc _, (by rw [HZ.out]; exact X.out.alloc _), SL.out.alloc _, ext_alloc E.out _⟩
      case measure => simp [intOf]; omega
    have e2 : (x.t != t) = false := by simpa using h2
    by_cases h3 : x.m ≤ m
    rotate_left
    · have e3 : decide (m < x.m) = true := by simp; omega
      have HZ := Lib.hid (show rateL (b.ag.l.take (k + 1)) f t m = o by rw [HT.out]; unfold rStep; rw [HC.out, decide_eq_false h3]; simp)
      clear h3
      go_wp2_with fail
      go_roundw
      case rel => exact ⟨k + 1, hlt, by go_num, (by first | (rw [HZ.out]; rfl) | rw [HZ.out]), BB.out.alloc _, (by rw [HZ.out]; exact X.out.alloc _), SL.out.alloc _, ext_alloc E.out _⟩
      case measure => simp [intOf]; omega
    have e3 : decide (m < x.m) = false := by simp; omega
    have HCT := Lib.hid (show cnt f t m x = true by rw [HC.out, decide_eq_true h1, decide_eq_true h2, decide_eq_true h3]; rfl)
    clear h1 h2 h3
    have x0 := X.out.c 0 _ rfl
    have x1 := X.out.c 1 _ rfl
    have x2 := X.out.c 2 _ rfl
    have x3 := X.out.c 3 _ rfl
    have x4 := X.out.c 4 _ rfl
    have xf := X.out.f
    cases o with
    | none =>
      have HZ := Lib.hid (show rateL (b.ag.l.take (k + 1)) f t m = some x by rw [HT.out]; unfold rStep; rw [HCT.out]; rfl)
      simp only [Option.isSome_none, Option.getD_none]
      have XN := Lib.hid ((X.out.put5 (.int .i64 x.no) (.int .i64 x.f) (.int .i64 x.t) (.int .i64 x.m) (.int .i64 x.r)).alloc (.cells #[.int .i64 x.no, .int .i64 x.f, .int .i64 x.t, .int .i64 x.m, .int .i64 x.r] 26))
      have SN := Lib.hid ((SL.out.far5 (.int .i64 x.no) (.int .i64 x.f) (.int .i64 x.t) (.int .i64 x.m) (.int .i64 x.r) HOF.out).alloc (.cells #[.int .i64 x.no, .int .i64 x.f, .int .i64 x.t, .int .i64 x.m, .int .i64 x.r] 26))
      have EN := Lib.hid (ext_alloc (ext_set5 E.out (w.heap.size + 1) (.int .i64 x.no) (.int .i64 x.f) (.int .i64 x.t) (.int .i64 x.m) (.int .i64 x.r) (by omega)) (.cells #[.int .i64 x.no, .int .i64 x.f, .int .i64 x.t, .int .i64 x.m, .int .i64 x.r] 26))
      have BN := Lib.hid ((BB.out.off5 (c := w.heap.size + 1) (.int .i64 x.no) (.int .i64 x.f) (.int .i64 x.t) (.int .i64 x.m) (.int .i64 x.r) (by omega)).alloc (.cells #[.int .i64 x.no, .int .i64 x.f, .int .i64 x.t, .int .i64 x.m, .int .i64 x.r] 26))
      unfold set5 at XN SN EN BN
      go_wp2_with fail
      go_roundw
      case rel => exact ⟨k + 1, hlt, by go_num, by rw [HZ.out]; rfl, BN.out, (by rw [HZ.out]; exact XN.out), SN.out, EN.out⟩
      case measure => simp [intOf]; omega
    | some y =>
      simp only [Option.getD_some] at x0 x1 x2 x3 x4 X
      simp only [Option.isSome_some]
      by_cases g1 : y.m < x.m
      · have f1 : decide (y.m < x.m) = true := by simpa using g1
        have HZ := Lib.hid (show rateL (b.ag.l.take (k + 1)) f t m = some x by rw [HT.out]; unfold rStep; rw [HCT.out]; simp only [if_true]; rw [if_pos (by simp [later]; omega)])
        clear g1
        have XN := Lib.hid ((X.out.put5 (.int .i64 x.no) (.int .i64 x.f) (.int .i64 x.t) (.int .i64 x.m) (.int .i64 x.r)).alloc (.cells #[.int .i64 x.no, .int .i64 x.f, .int .i64 x.t, .int .i64 x.m, .int .i64 x.r] 26))
        have SN := Lib.hid ((SL.out.far5 (.int .i64 x.no) (.int .i64 x.f) (.int .i64 x.t) (.int .i64 x.m) (.int .i64 x.r) HOF.out).alloc (.cells #[.int .i64 x.no, .int .i64 x.f, .int .i64 x.t, .int .i64 x.m, .int .i64 x.r] 26))
        have EN := Lib.hid (ext_alloc (ext_set5 E.out (w.heap.size + 1) (.int .i64 x.no) (.int .i64 x.f) (.int .i64 x.t) (.int .i64 x.m) (.int .i64 x.r) (by omega)) (.cells #[.int .i64 x.no, .int .i64 x.f, .int .i64 x.t, .int .i64 x.m, .int .i64 x.r] 26))
        have BN := Lib.hid ((BB.out.off5 (c := w.heap.size + 1) (.int .i64 x.no) (.int .i64 x.f) (.int .i64 x.t) (.int .i64 x.m) (.int .i64 x.r) (by omega)).alloc (.cells #[.int .i64 x.no, .int .i64 x.f, .int .i64 x.t, .int .i64 x.m, .int .i64 x.r] 26))
        unfold set5 at XN SN EN BN
        go_wp2_with fail
        go_roundw
        case rel => exact ⟨k + 1, hlt, by go_num, by rw [HZ.out]; rfl, BN.out, (by rw [HZ.out]; exact XN.out), SN.out, EN.out⟩
        case measure => simp [intOf]; omega
      have f1 : decide (y.m < x.m) = false := by simpa using g1
      by_cases g2 : x.m = y.m
      rotate_left
      · have f2 : (x.m == y.m) = false := by simpa using g2
        have HZ := Lib.hid (show rateL (b.ag.l.take (k + 1)) f t m = some y by rw [HT.out]; unfold rStep; rw [HCT.out]; simp only [if_true]; rw [if_neg (by simp [later]; omega)])
        clear g1 g2
        go_wp2_with fail
        go_roundw
        case rel => exact ⟨k + 1, hlt, by go_num, (by first | (rw [HZ.out]; rfl) | rw [HZ.out]), BB.out.alloc _, (by rw [HZ.out]; exact X.out.alloc _), SL.out.alloc _, ext_alloc E.out _⟩
        case measure => simp [intOf]; omega
      have f2 : (x.m == y.m) = true := by simpa using g2
      by_cases g3 : y.no ≤ x.no
      · have f3 : decide (y.no ≤ x.no) = true := by simpa using g3
        have HZ := Lib.hid (show rateL (b.ag.l.take (k + 1)) f t m = some x by rw [HT.out]; unfold rStep; rw [HCT.out]; simp only [if_true]; rw [if_pos (by simp [later]; omega)])
        clear g1 g2 g3
        have XN := Lib.hid ((X.out.put5 (.int .i64 x.no) (.int .i64 x.f) (.int .i64 x.t) (.int .i64 x.m) (.int .i64 x.r)).alloc (.cells #[.int .i64 x.no, .int .i64 x.f, .int .i64 x.t, .int .i64 x.m, .int .i64 x.r] 26))
        have SN := Lib.hid ((SL.out.far5 (.int .i64 x.no) (.int .i64 x.f) (.int .i64 x.t) (.int .i64 x.m) (.int .i64 x.r) HOF.out).alloc (.cells #[.int .i64 x.no, .int .i64 x.f, .int .i64 x.t, .int .i64 x.m, .int .i64 x.r] 26))
        have EN := Lib.hid (ext_alloc (ext_set5 E.out (w.heap.size + 1) (.int .i64 x.no) (.int .i64 x.f) (.int .i64 x.t) (.int .i64 x.m) (.int .i64 x.r) (by omega)) (.cells #[.int .i64 x.no, .int .i64 x.f, .int .i64 x.t, .int .i64 x.m, .int .i64 x.r] 26))
        have BN := Lib.hid ((BB.out.off5 (c := w.heap.size + 1) (.int .i64 x.no) (.int .i64 x.f) (.int .i64 x.t) (.int .i64 x.m) (.int .i64 x.r) (by omega)).alloc (.cells #[.int .i64 x.no, .int .i64 x.f, .int .i64 x.t, .int .i64 x.m, .int .i64 x.r] 26))
        unfold set5 at XN SN EN BN
        go_wp2_with fail
        go_roundw
        case rel => exact ⟨k + 1, hlt, by go_num, by rw [HZ.out]; rfl, BN.out, (by rw [HZ.out]; exact XN.out), SN.out, EN.out⟩
        case measure => simp [intOf]; omega
      · have f3 : decide (y.no ≤ x.no) = false := by simpa using g3
        have HZ := Lib.hid (show rateL (b.ag.l.take (k + 1)) f t m = some y by rw [HT.out]; unfold rStep; rw [HCT.out]; simp only [if_true]; rw [if_neg (by simp [later]; omega)])
        clear g1 g2 g3
        go_wp2_with fail
        go_roundw
        case rel => exact ⟨k + 1, hlt, by go_num, (by first | (rw [HZ.out]; rfl) | rw [HZ.out]), BB.out.alloc _, (by rw [HZ.out]; exact X.out.alloc _), SL.out.alloc _, ext_alloc E.out _⟩
        case measure => simp [intOf]; omega
theorem rrate_at {b : Bd} {f t m : Int} {w : World} (o : Option Ag) (ho : rateL b.ag.l f t m = o) (hb : Slc w Ag.cells 5 b.ag.A b.ag.l) (hn : b.ag.l.length ≤ maxLen) : Calls Try.prog 24 #[.agg #[.int .i64 b.own, .int .i64 b.ot, .slice b.ag.A b.ag.l.length b.ag.c, .slice b.op.A b.op.l.length b.op.c], .int .i64 f, .int .i64 t, .int .i64 m] w fun e w' => e = .returned (.tuple #[.int .i64 (rateV o), .bool o.isSome]) ∧ Below w.heap.size w w' := by
  subst ho; exact rrate_any b f t m w hb hn
end Go.Proofs.Ytmnbeikhjbjpiaa
