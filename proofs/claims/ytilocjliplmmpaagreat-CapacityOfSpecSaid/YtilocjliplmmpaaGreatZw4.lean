/- Law 4 of the great seat as its row asks. -/
import Derived.Test.YtilocjliplmmpaaGreatZ4
import Derived.Test.YtilocjliplmmpaaGreatRd2
set_option linter.unusedSimpArgs false
set_option linter.unusedVariables false
namespace Go.Proofs.YtilocjliplmmpaaGreat
open Go.RowKit Go.ChangeShapes Go.WideShapes Go.Deep
set_option maxRecDepth 100000 in
theorem reads_Nds : Reads Tryz.prog 44 (SliceOf.enc (α := Nd)) (SliceOf.ok Nd.cells 3 Nd.ok) :=
  reads_slice Tryz.underlying44 reads_Nd (by kernel_rfl) (by decide) (fun _ => rfl)
theorem tok_of {w : World} {x : SliceOf Nd} (h : SliceOf.ok Nd.cells 3 Nd.ok w x) : TOk w x.A x.l := ⟨h.slc, fun n hn => (h.all hn).slc, h.len, fun n hn => (h.all hn).len⟩
theorem walk4 (t : Tab) (tr : SliceOf Nd) (leaf : Int) (s : Sch) (sn : SliceOf Bool) (z : Cel) (w : World) (ht : Tab.ok w t) (htr : SliceOf.ok Nd.cells 3 Nd.ok w tr) (hs : Sch.ok w s) (hsn : SliceOf.ok bc 1 (fun _ _ => True) w sn) (_ : Cel.ok w z) :
    Calls Tryz.prog 4 #[.agg t.cells.toArray, .slice tr.A tr.l.length tr.c, .int .i64 leaf, .agg s.cells.toArray, .slice sn.A sn.l.length sn.c, .agg z.cells.toArray] w (Tru w) :=
  law4 t tr.A tr.c tr.l leaf s.ch.A s.ch.c s.ch.l sn.A sn.c sn.l z w ht (tok_of htr) ⟨hs.slc, hs.len, fun y hy => hs.all hy⟩ hsn.slc hsn.len
end Go.Proofs.YtilocjliplmmpaaGreat
