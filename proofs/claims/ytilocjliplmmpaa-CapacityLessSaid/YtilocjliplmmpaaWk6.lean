/- Law 6 as its row asks. -/
import Derived.Test.YtilocjliplmmpaaQ6
set_option linter.unusedSimpArgs false
set_option linter.unusedVariables false
namespace Go.Proofs.Ytilocjliplmmpaa
open Go.RowKit Go.ChangeShapes Go.WideShapes Go.Deep
theorem u64_in {n : Int} (h : (Lit.int .u64 n).wf = true) : 0 ≤ n ∧ n < 18446744073709551616 := by
  simp [Lit.wf, IntKind.min, IntKind.max, IntKind.signed, IntKind.bits] at h
  omega
set_option maxRecDepth 100000 in
theorem reads_Nds : Reads Try.prog 56 (SliceOf.enc (α := Nd)) (SliceOf.ok Nd.cells 3 Nd.ok) :=
  reads_slice Try.underlying56 reads_Nd (by kernel_rfl) (by decide) (fun _ => rfl)
theorem tok_of {w : World} {x : SliceOf Nd} (h : SliceOf.ok Nd.cells 3 Nd.ok w x) : TOk w x.A x.l := ⟨h.slc, fun n hn => (h.all hn).slc, h.len, fun n hn => (h.all hn).len⟩
theorem walk6 (t : Tab) (tr : SliceOf Nd) (leaf : Int) (s : Sch) (sn : SliceOf Bool) (z : Cel) (mo : Int) (w : World) (ht : Tab.ok w t) (htr : SliceOf.ok Nd.cells 3 Nd.ok w tr) (hs : Sch.ok w s) (hsn : SliceOf.ok bc 1 (fun _ _ => True) w sn) (_ : Cel.ok w z) (hm : (Lit.int .u64 mo).wf = true) :
    Calls Try.prog 6 #[.agg t.cells.toArray, .slice tr.A tr.l.length tr.c, .int .i64 leaf, .agg s.cells.toArray, .slice sn.A sn.l.length sn.c, .agg z.cells.toArray, .int .u64 mo] w (Tru w) :=
  law6 t tr.A tr.c tr.l leaf s.ch.A s.ch.c s.ch.l sn.A sn.c sn.l z mo w ht (tok_of htr) ⟨hs.slc, hs.len, fun y hy => hs.all hy⟩ hsn.slc hsn.len (u64_in hm).1 (u64_in hm).2
end Go.Proofs.Ytilocjliplmmpaa
