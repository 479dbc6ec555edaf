/- Contracts: valid agreements (the reference's), lists of them. -/
import Derived.Test.YtmnbeikhjbjpiaaC
set_option linter.unusedSimpArgs false
set_option linter.unusedVariables false
namespace Go.Proofs.Ytmnbeikhjbjpiaa
open Go.RowKit
set_option maxHeartbeats 1600000 in
theorem valid_any (x : Ag) (own ot : Int) (w : World) : Calls Try.prog 39 #[x.v, .int .i64 own, .int .i64 ot] w (RetB w (fits own ot x)) := by
  have HF := Lib.hid (@fits_iff own ot x)
  go_enter Try.func39, Try.ntmps39
  go_wp2_with fail
  all_goals
    go_ret
    refine ⟨ret_bool ?_, ext_alloc (ext_refl w) _⟩
    rw [Bool.eq_iff_iff, HF.out]
    simp only [decide_eq_true_eq, Bool.false_eq_true, false_iff]
    omega
theorem valid_at {x : Ag} {own ot : Int} {w : World} (r : Bool) (hr : fits own ot x = r) : Calls Try.prog 39 #[.agg #[.int .i64 x.no, .int .i64 x.f, .int .i64 x.t, .int .i64 x.m, .int .i64 x.r], .int .i64 own, .int .i64 ot] w (RetB w r) := by
  subst hr; exact valid_any x own ot w
theorem order_at {x y : Ag} {w : World} (hx : 1 ≤ x.no ∧ x.no ≤ 1048576) (hy : 1 ≤ y.no ∧ y.no ≤ 1048576) : Calls Try.prog 56 #[.agg #[.int .i64 x.no, .int .i64 x.f, .int .i64 x.t, .int .i64 x.m, .int .i64 x.r], .agg #[.int .i64 y.no, .int .i64 y.f, .int .i64 y.t, .int .i64 y.m, .int .i64 y.r]] w (RetE w (x.no - y.no)) := order_any x y w hx hy
theorem okL_take {own ot : Int} {l : List Ag} {k : Nat} (h : okL own ot l = false) (hk : l.length ≤ k) : okL own ot (l.take k) = false := by rw [List.take_of_length_le hk]; exact h
theorem fits_take {own ot : Int} {l : List Ag} {k j : Nat} {y : Ag} (h : okL own ot (l.take k) = true) (hy : l[j]? = some y) (hj : j < k) : fits own ot y = true := by
  refine (okL_iff.1 h).1 y ?_
  have : (l.take k)[j]? = some y := by rw [List.getElem?_take, if_pos hj]; exact hy
  exact List.mem_of_getElem? this
end Go.Proofs.Ytmnbeikhjbjpiaa
