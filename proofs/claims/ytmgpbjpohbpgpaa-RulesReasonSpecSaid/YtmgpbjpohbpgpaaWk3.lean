/- Law 3 as its row asks. -/
import Derived.Test.YtmgpbjpohbpgpaaQ3
set_option linter.unusedSimpArgs false
set_option linter.unusedVariables false
namespace Go.Proofs.Ytmgpbjpohbpgpaa
open Go.RowKit
theorem walk3 (a : As) (w : World) (ha : AOk w a) : Calls Try.prog 3 #[.agg a.cells.toArray] w (Tru w) := law3 a w ha
end Go.Proofs.Ytmgpbjpohbpgpaa
