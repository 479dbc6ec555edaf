/- The walk of CreditsExpireSpec, as the row asks it. -/
import Derived.Test.YtafglcalimcdcaaQ4
import Derived.Test.YtafglcalimcdcaaRd2
set_option linter.unusedSimpArgs false
set_option linter.unusedVariables false
namespace Go.Proofs.Ytafglcalimcdcaa
open Go.RowKit
theorem walk4 (s : SliceOf Cr) (now : Int) (W : World) (hs : SliceOf.ok Cr.cells 3 (fun _ _ => True) W s) : Calls Try.prog 4 #[.slice s.A s.l.length s.c, .int .i64 now] W (Tru W) := law4 s.A s.c s.l now W hs.1 (Nat.le_trans hs.2.1 hs.2.2.1)
end Go.Proofs.Ytafglcalimcdcaa
