/- The walk of NetworkSpec, as the row asks it. -/
import Derived.Test.YthchcimialclkaaQ3
import Derived.Test.YthchcimialclkaaRd2
namespace Go.Proofs.Ythchcimialclkaa
open Go.RowKit
theorem walk3 (n : Nt) (p : Pk) (W : World) (hn : NOk W n) (hp : PkOk W p) : Calls Try.prog 3 #[.agg (Nt.cells n).toArray, .agg (Pk.cells p).toArray] W (Tru W) := law3 n p W hn hp.1 hp.2
end Go.Proofs.Ythchcimialclkaa
