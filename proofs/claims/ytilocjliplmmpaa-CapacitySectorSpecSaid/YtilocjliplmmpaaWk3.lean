/- Law 3 as its row asks. -/
import Derived.Test.YtilocjliplmmpaaQ3
set_option linter.unusedSimpArgs false
set_option linter.unusedVariables false
namespace Go.Proofs.Ytilocjliplmmpaa
open Go.RowKit
theorem walk3 (t : Tab) (s : Sch) (v m : Int) (w : World) (ht : Tab.ok w t) (hs : Sch.ok w s) : Calls Try.prog 3 #[.agg t.cells.toArray, .agg s.cells.toArray, .int .i64 v, .int .i64 m] w (Tru w) :=
  law3 t s.ch.A s.ch.c s.ch.l v m w ht ⟨hs.slc, hs.len, fun y hy => hs.all hy⟩
end Go.Proofs.Ytilocjliplmmpaa
