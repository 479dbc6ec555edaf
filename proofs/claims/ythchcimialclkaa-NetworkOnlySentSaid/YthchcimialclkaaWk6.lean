/- The walk of NetworkOnlySent, as the row asks it. -/
import Derived.Test.YthchcimialclkaaQ6
import Derived.Test.YthchcimialclkaaRd2
set_option linter.unusedSimpArgs false
set_option linter.unusedVariables false
namespace Go.Proofs.Ythchcimialclkaa
open Go.RowKit
theorem walk6 (s : SliceOf Mv) (W : World) (hs : SliceOf.ok Mv.cells 5 (fun _ m => m.ok) W s) : Calls Try.prog 6 #[.slice s.A s.l.length s.c] W (Tru W) :=
  law6 s.A s.c s.l W hs.1 hs.2.2.2.2 (Nat.le_trans hs.2.1 hs.2.2.1)
end Go.Proofs.Ythchcimialclkaa
