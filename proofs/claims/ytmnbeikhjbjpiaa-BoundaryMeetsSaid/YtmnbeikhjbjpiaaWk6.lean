/- The walk of BoundaryMeets, as the row asks it. -/
import Derived.Test.YtmnbeikhjbjpiaaQ6
import Derived.Test.YtmnbeikhjbjpiaaRd6
set_option linter.unusedSimpArgs false
set_option linter.unusedVariables false
namespace Go.Proofs.Ytmnbeikhjbjpiaa
open Go.RowKit
theorem walk6 (lo hi : Int) (s : SliceOf Sp) (W : World) (hs : SliceOf.ok Sp.cells 6 (fun _ s => s.ok) W s) : Calls Try.prog 6 #[.int .i64 lo, .int .i64 hi, .slice s.A s.l.length s.c] W (Tru W) :=
  law6 lo hi s.A s.c s.l W hs.1 (Nat.le_trans hs.2.1 hs.2.2.1) hs.2.2.2.2
end Go.Proofs.Ytmnbeikhjbjpiaa
