/- The walk of BoundaryCheckSpec, as the row asks it. -/
import Derived.Test.YtmnbeikhjbjpiaaQ5
import Derived.Test.YtmnbeikhjbjpiaaRd2
set_option linter.unusedSimpArgs false
set_option linter.unusedVariables false
namespace Go.Proofs.Ytmnbeikhjbjpiaa
open Go.RowKit
theorem walk5 (b : Bd) (x y z : Int) (W : World) (hb : BOk W b) : Calls Try.prog 5 #[.agg (Bd.cells b).toArray, .int .i64 x, .int .i64 y, .int .i64 z] W (Tru W) := law5 b x y z W hb
end Go.Proofs.Ytmnbeikhjbjpiaa
