/- Law 6 as its row asks. -/
import Derived.Test.YtmgpbjpohbpgpaaQ6
set_option linter.unusedSimpArgs false
set_option linter.unusedVariables false
namespace Go.Proofs.Ytmgpbjpohbpgpaa
open Go.RowKit
theorem walk6 (a : As) (w : World) (ha : AOk w a) : Calls Try.prog 6 #[.agg a.cells.toArray] w (Tru w) := law6 a w ha
end Go.Proofs.Ytmgpbjpohbpgpaa
