/- The walk of BoundaryAcceptSpec, as the row asks it. -/
import Derived.Test.YtmnbeikhjbjpiaaQ4
import Derived.Test.YtmnbeikhjbjpiaaRd2
set_option linter.unusedSimpArgs false
set_option linter.unusedVariables false
namespace Go.Proofs.Ytmnbeikhjbjpiaa
open Go.RowKit
theorem walk4 (b : Bd) (no : Int) (a : Ag) (W : World) (hb : BOk W b) (_ : True) : Calls Try.prog 4 #[.agg (Bd.cells b).toArray, .int .i64 no, .agg (Ag.cells a).toArray] W (Tru W) := law4 b no a W hb
end Go.Proofs.Ytmnbeikhjbjpiaa
