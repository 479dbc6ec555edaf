/- The walk of CreditsEarnSpec, as the row asks it. -/
import Derived.Test.YtafglcalimcdcaaQ3
import Derived.Test.YtafglcalimcdcaaRd2
set_option linter.unusedSimpArgs false
set_option linter.unusedVariables false
namespace Go.Proofs.Ytafglcalimcdcaa
open Go.RowKit
theorem walk3 (s : SliceOf Cr) (a : Cr) (W : World) (hs : SliceOf.ok Cr.cells 3 (fun _ _ => True) W s) (_ : True) : Calls Try.prog 3 #[.slice s.A s.l.length s.c, .agg (Cr.cells a).toArray] W (Tru W) := law3 s.A s.c s.l a W hs.1 (Nat.le_trans hs.2.1 hs.2.2.1) hs.2.1
end Go.Proofs.Ytafglcalimcdcaa
