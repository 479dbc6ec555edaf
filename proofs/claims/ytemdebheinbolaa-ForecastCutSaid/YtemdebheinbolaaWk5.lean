/- The law of the cut in the form in which the row takes it. -/
import Derived.Test.YtemdebheinbolaaQ10
import Derived.Test.YtemdebheinbolaaRd2
namespace Go.Proofs.Ytemdebheinbolaa
open Go.RowKit
theorem walk10 (s : SliceOf Nd) (node : Int) (cu : Cut) (leaf : Int) (b : Bool) (i m : Int) (W : World) (h : OkT W s) (_ : True) : Calls Try.prog 10 #[.slice s.A s.l.length s.c, .int .i64 node, .agg cu.cells.toArray, .int .i64 leaf, .bool b, .int .i64 i, .int .i64 m] W fun e W' => e = .returned (.bool true) ∧ Below W.heap.size W W' := law10 s.A s.c s.l node cu leaf b i m W h.t
end Go.Proofs.Ytemdebheinbolaa
