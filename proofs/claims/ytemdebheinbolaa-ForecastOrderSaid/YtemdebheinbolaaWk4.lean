/- Further laws in the form in which the rows take them. -/
import Derived.Test.YtemdebheinbolaaQ7
import Derived.Test.YtemdebheinbolaaQ8
import Derived.Test.YtemdebheinbolaaQ9
import Derived.Test.YtemdebheinbolaaRd2
namespace Go.Proofs.Ytemdebheinbolaa
open Go.RowKit
theorem walk7 (s : SliceOf Nd) (t : SliceOf Int) (W : World) (h : OkT W s) (k : OkI W t) : Calls Try.prog 7 #[.slice s.A s.l.length s.c, .slice t.A t.l.length t.c] W fun e W' => e = .returned (.bool true) ∧ Below W.heap.size W W' := law7 s.A s.c s.l t.A t.c t.l W h.t k.1 k.len
theorem walk8 (s : SliceOf Nd) (a : Int) (W : World) (h : OkT W s) : Calls Try.prog 8 #[.slice s.A s.l.length s.c, .int .i64 a] W fun e W' => e = .returned (.bool true) ∧ Below W.heap.size W W' := law8 s.A s.c s.l a W h.t
theorem walk9 (s : SliceOf Nd) (t : SliceOf Int) (W : World) (h : OkT W s) (k : OkI W t) : Calls Try.prog 9 #[.slice s.A s.l.length s.c, .slice t.A t.l.length t.c] W fun e W' => e = .returned (.bool true) ∧ Below W.heap.size W W' := law9 s.A s.c s.l t.A t.c t.l W h.t k.1 k.len
end Go.Proofs.Ytemdebheinbolaa
