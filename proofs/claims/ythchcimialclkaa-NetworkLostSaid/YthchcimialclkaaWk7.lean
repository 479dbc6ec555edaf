/- The walk of NetworkLost, as the row asks it. -/
import Derived.Test.YthchcimialclkaaQ7
import Derived.Test.YthchcimialclkaaRd2
namespace Go.Proofs.Ythchcimialclkaa
open Go.RowKit
theorem walk7 (n : Nt) (a : Int) (W : World) (hn : NOk W n) (hw : (Lit.int .u64 a).wf = true) : Calls Try.prog 7 #[.agg (Nt.cells n).toArray, .int .u64 a] W (Tru W) := law7 n a W hn hw
end Go.Proofs.Ythchcimialclkaa
