/- The laws in the form in which the rows take them. -/
import Derived.Test.YtemdebheinbolaaQ3
import Derived.Test.YtemdebheinbolaaRd2
namespace Go.Proofs.Ytemdebheinbolaa
open Go.RowKit
theorem walk3 (s : SliceOf Nd) (W : World) (h : OkT W s) : Calls Try.prog 3 #[.slice s.A s.l.length s.c] W fun e W' => e = .returned (.bool true) ∧ Below W.heap.size W W' := law3 s.A s.c s.l W h.t
theorem walk4 (s : SliceOf Nd) (a b : Int) (t : SliceOf Int) (W : World) (h : OkT W s) (k : OkI W t) : Calls Try.prog 4 #[.slice s.A s.l.length s.c, .int .i64 a, .int .i64 b, .slice t.A t.l.length t.c] W fun e W' => e = .returned (.bool true) ∧ Below W.heap.size W W' := law4 s.A s.c s.l a b t.A t.c t.l W h.t k.1 k.len
theorem walk5 (s : SliceOf Nd) (a : Int) (b : Bool) (i m : Int) (W : World) (h : OkT W s) : Calls Try.prog 5 #[.slice s.A s.l.length s.c, .int .i64 a, .bool b, .int .i64 i, .int .i64 m] W fun e W' => e = .returned (.bool true) ∧ Below W.heap.size W W' := law5 s.A s.c s.l a b i m W h.t
theorem walk6 (s : SliceOf Nd) (a b m e : Int) (air : Bool) (i : Int) (W : World) (h : OkT W s) : Calls Try.prog 6 #[.slice s.A s.l.length s.c, .int .i64 a, .int .i64 b, .int .i64 m, .int .i64 e, .bool air, .int .i64 i] W fun e W' => e = .returned (.bool true) ∧ Below W.heap.size W W' := law6 s.A s.c s.l a b m e air i W h.t
end Go.Proofs.Ytemdebheinbolaa
