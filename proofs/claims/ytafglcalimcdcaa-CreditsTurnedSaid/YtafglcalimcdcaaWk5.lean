/- The walk of CreditsTurned, as the row asks it. -/
import Derived.Test.YtafglcalimcdcaaQ5
import Derived.Test.YtafglcalimcdcaaRd2
set_option linter.unusedSimpArgs false
set_option linter.unusedVariables false
namespace Go.Proofs.Ytafglcalimcdcaa
open Go.RowKit
theorem walk5 (s : SliceOf Cr) (a b : Cr) (W : World) (hs : SliceOf.ok Cr.cells 3 (fun _ _ => True) W s) (_ : True) (_ : True) : Calls Try.prog 5 #[.slice s.A s.l.length s.c, .agg (Cr.cells a).toArray, .agg (Cr.cells b).toArray] W (Tru W) := law5 s.A s.c s.l a b W hs.1 (Nat.le_trans hs.2.1 hs.2.2.1)
end Go.Proofs.Ytafglcalimcdcaa
