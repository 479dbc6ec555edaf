/- The walk of BoundaryValid, as the row asks it. -/
import Derived.Test.YtmnbeikhjbjpiaaQ7
import Derived.Test.YtmnbeikhjbjpiaaRd2
set_option linter.unusedSimpArgs false
set_option linter.unusedVariables false
namespace Go.Proofs.Ytmnbeikhjbjpiaa
open Go.RowKit
theorem walk7 (b : Bd) (no : Int) (a : Ag) (W : World) (hb : BOk W b) (_ : True) : Calls Try.prog 7 #[.agg (Bd.cells b).toArray, .int .i64 no, .agg (Ag.cells a).toArray] W (Tru W) := law7 b no a W hb
end Go.Proofs.Ytmnbeikhjbjpiaa
