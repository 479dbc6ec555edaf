/- The walk of BoundaryLast, as the row asks it. -/
import Derived.Test.YtmnbeikhjbjpiaaQ8
import Derived.Test.YtmnbeikhjbjpiaaRd2
set_option linter.unusedSimpArgs false
set_option linter.unusedVariables false
namespace Go.Proofs.Ytmnbeikhjbjpiaa
open Go.RowKit
theorem walk8 (b : Bd) (no : Int) (a : Ag) (mi : Int) (W : World) (hb : BOk W b) (_ : True) : Calls Try.prog 8 #[.agg (Bd.cells b).toArray, .int .i64 no, .agg (Ag.cells a).toArray, .int .i64 mi] W (Tru W) := law8 b no a mi W hb
end Go.Proofs.Ytmnbeikhjbjpiaa
