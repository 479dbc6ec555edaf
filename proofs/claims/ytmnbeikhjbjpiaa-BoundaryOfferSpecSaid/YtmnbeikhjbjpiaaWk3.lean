/- The walk of BoundaryOfferSpec, as the row asks it. -/
import Derived.Test.YtmnbeikhjbjpiaaQ3
import Derived.Test.YtmnbeikhjbjpiaaRd2
set_option linter.unusedSimpArgs false
set_option linter.unusedVariables false
namespace Go.Proofs.Ytmnbeikhjbjpiaa
open Go.RowKit
theorem walk3 (b : Bd) (a : Ag) (W : World) (hb : BOk W b) (_ : True) : Calls Try.prog 3 #[.agg (Bd.cells b).toArray, .agg (Ag.cells a).toArray] W (Tru W) := law3 b a W hb
end Go.Proofs.Ytmnbeikhjbjpiaa
