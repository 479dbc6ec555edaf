/- Law 4 as its row asks. -/
import Derived.Test.YtmgpbjpohbpgpaaQ4
set_option linter.unusedSimpArgs false
set_option linter.unusedVariables false
namespace Go.Proofs.Ytmgpbjpohbpgpaa
open Go.RowKit
theorem walk4 (a : As) (x : Ru) (cl : Int) (w : World) (ha : AOk w a) (_ : True) : Calls Try.prog 4 #[.agg a.cells.toArray, .agg x.cells.toArray, .int .i64 cl] w (Tru w) := law4 a x cl w ha
end Go.Proofs.Ytmgpbjpohbpgpaa
