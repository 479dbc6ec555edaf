/- Law 4 as its row asks. -/
import Derived.Test.YtilocjliplmmpaaQ4
set_option linter.unusedSimpArgs false
set_option linter.unusedVariables false
namespace Go.Proofs.Ytilocjliplmmpaa
open Go.RowKit
theorem walk4 (t : Tab) (s : Sch) (x : Chg) (m : Int) (w : World) (ht : Tab.ok w t) (hs : Sch.ok w s) (hx : Chg.ok w x) : Calls Try.prog 4 #[.agg t.cells.toArray, .agg s.cells.toArray, .agg x.cells.toArray, .int .i64 m] w (Tru w) :=
  law4 t s.ch.A s.ch.c s.ch.l x m w ht ⟨hs.slc, hs.len, fun y hy => hs.all hy⟩ hx
end Go.Proofs.Ytilocjliplmmpaa
