/- The walk of BoundaryRate, as the row asks it. -/
import Derived.Test.YtmnbeikhjbjpiaaQ9
import Derived.Test.YtmnbeikhjbjpiaaRd2
set_option linter.unusedSimpArgs false
set_option linter.unusedVariables false
namespace Go.Proofs.Ytmnbeikhjbjpiaa
open Go.RowKit
theorem walk9 (b : Bd) (x y z : Int) (W : World) (hb : BOk W b) : Calls Try.prog 9 #[.agg (Bd.cells b).toArray, .int .i64 x, .int .i64 y, .int .i64 z] W (Tru W) := law9 b x y z W hb
end Go.Proofs.Ytmnbeikhjbjpiaa
