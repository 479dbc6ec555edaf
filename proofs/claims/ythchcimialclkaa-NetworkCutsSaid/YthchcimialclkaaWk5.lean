/- The walk of NetworkCuts, as the row asks it. -/
import Derived.Test.YthchcimialclkaaQ5
import Derived.Test.YthchcimialclkaaRd2
namespace Go.Proofs.Ythchcimialclkaa
open Go.RowKit
theorem walk5 (n : Nt) (a b c : Int) (W : World) (hn : NOk W n) (hw : (Lit.int .u64 c).wf = true) : Calls Try.prog 5 #[.agg (Nt.cells n).toArray, .int .i64 a, .int .i64 b, .int .u64 c] W (Tru W) := law5 n a b c W hn hw
end Go.Proofs.Ythchcimialclkaa
