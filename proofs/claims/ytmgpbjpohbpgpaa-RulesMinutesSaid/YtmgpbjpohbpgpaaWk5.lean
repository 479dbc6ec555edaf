/- Law 5 as its row asks. -/
import Derived.Test.YtmgpbjpohbpgpaaQ3
set_option linter.unusedSimpArgs false
set_option linter.unusedVariables false
namespace Go.Proofs.Ytmgpbjpohbpgpaa
open Go.RowKit
theorem walk5 (a : As) (cl ap mi : Int) (w : World) (ha : AOk w a) : Calls Try.prog 5 #[.agg a.cells.toArray, .int .i64 cl, .int .i64 ap, .int .i64 mi] w (Tru w) := law5 a cl ap mi w ha
end Go.Proofs.Ytmgpbjpohbpgpaa
