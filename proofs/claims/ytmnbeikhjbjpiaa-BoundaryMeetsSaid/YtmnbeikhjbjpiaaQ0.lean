/- How long the lists become. -/
import Derived.Test.YtmnbeikhjbjpiaaS
set_option linter.unusedSimpArgs false
set_option linter.unusedVariables false
namespace Go.Proofs.Ytmnbeikhjbjpiaa
open Go.RowKit
def LenS (n : Nat) (x : Bl) : Prop := x.ag.length ≤ n ∧ x.op.length ≤ n
theorem LenS.up {n m : Nat} {x : Bl} (h : LenS n x) (hm : n ≤ m) : LenS m x := ⟨Nat.le_trans h.1 hm, Nat.le_trans h.2 hm⟩
theorem LenS.zero (n : Nat) : LenS n zeroB := ⟨Nat.zero_le _, Nat.zero_le _⟩
theorem LenS.offB {n : Nat} {b : Bl} (h : LenS n b) (f t m r : Int) : LenS (n + 1) (b.offB f t m r) := by
  unfold Bl.offB; split
  · exact ⟨Nat.le_succ_of_le h.1, by rw [put_len]; exact Nat.succ_le_succ h.2⟩
  · exact LenS.zero _
theorem LenS.heaB {n : Nat} {b : Bl} (h : LenS n b) (a : Ag) : LenS (n + 1) (b.heaB a) := by
  unfold Bl.heaB; split
  · split
    · exact h.up (Nat.le_succ _)
    · exact ⟨Nat.le_succ_of_le h.1, by rw [put_len]; exact Nat.succ_le_succ h.2⟩
  · exact LenS.zero _
theorem LenS.agree {n : Nat} {b : Bl} (h : LenS n b) (a : Ag) : LenS (n + 1) (b.agree a) := ⟨by unfold Bl.agree; rw [put_len]; exact Nat.succ_le_succ h.1, by unfold Bl.agree delL; exact Nat.le_trans (List.length_filter_le _ _) (Nat.le_succ_of_le h.2)⟩
theorem LenS.accB {n : Nat} {b : Bl} (h : LenS n b) (no : Int) : LenS (n + 1) (b.accB no) := by
  unfold Bl.accB; split
  · split
    · exact h.up (Nat.le_succ _)
    · exact h.agree _
  · exact LenS.zero _
theorem LenS.conB {n : Nat} {b : Bl} (h : LenS n b) (a : Ag) : LenS (n + 1) (b.conB a) := by
  unfold Bl.conB; split
  · split
    · exact h.up (Nat.le_succ _)
    · exact h.agree _
  · exact LenS.zero _
theorem LenS.few {b : Bl} (h : fewB b = true) : LenS 30 b := by unfold fewB at h; unfold LenS; simpa using h
theorem LenS.lens {n : Nat} {m : Bd} (h : LenS n m.bl) (hn : n ≤ 1000) : Lens m := ⟨Nat.le_trans h.1 hn, Nat.le_trans h.2 hn⟩
theorem eq26_self (a : Ag) (w : World) : (binOp .eql 26 (.agg #[.int .i64 a.no, .int .i64 a.f, .int .i64 a.t, .int .i64 a.m, .int .i64 a.r]) (.agg #[.int .i64 a.no, .int .i64 a.f, .int .i64 a.t, .int .i64 a.m, .int .i64 a.r])).run Try.prog w = .ok (.bool true) w := by
  have := run_eql26 a a w; simpa using this
theorem neq26_self (a : Ag) (w : World) : (binOp .neq 26 (.agg #[.int .i64 a.no, .int .i64 a.f, .int .i64 a.t, .int .i64 a.m, .int .i64 a.r]) (.agg #[.int .i64 a.no, .int .i64 a.f, .int .i64 a.t, .int .i64 a.m, .int .i64 a.r])).run Try.prog w = .ok (.bool false) w := by
  have := run_neq26 a a w; simpa using this
end Go.Proofs.Ytmnbeikhjbjpiaa
