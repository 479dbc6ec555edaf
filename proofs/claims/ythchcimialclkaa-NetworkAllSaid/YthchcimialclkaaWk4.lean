/- The walk of NetworkAll, as the row asks it. -/
import Derived.Test.YthchcimialclkaaQ4
import Derived.Test.YthchcimialclkaaRd2
namespace Go.Proofs.Ythchcimialclkaa
open Go.RowKit
theorem walk4 (s : SliceOf Pk) (o : SliceOf Int) (W : World) (hs : SliceOf.ok Pk.cells 3 PkOk W s) (ho : SliceOf.ok bc 1 (fun _ n => (Lit.int .u8 n).wf = true) W o) : Calls Try.prog 4 #[.slice s.A s.l.length s.c, .slice o.A o.l.length o.c] W (Tru W) :=
  law4 s.A s.c s.l o.A o.c o.l W hs.1 (fun p hp => hs.2.2.2.2 p hp) (Nat.le_trans hs.2.1 hs.2.2.1) ho.1 (Nat.le_trans ho.2.1 ho.2.2.1) ho.2.2.2.2
end Go.Proofs.Ythchcimialclkaa
