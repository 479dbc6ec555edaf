/- Law 3 as its row asks. -/
import Derived.Test.YtjiojpoiocdnmaaGreatQH
import Derived.Test.YtjiojpoiocdnmaaGreatU3
set_option linter.unusedSimpArgs false
set_option linter.unusedVariables false
namespace Go.Proofs.YtjiojpoiocdnmaaGreat
open Go.RowKit
theorem u8_bounds {a : Int} (h : (Lit.int .u8 a).wf = true) : 0 ≤ a ∧ a ≤ 255 := by
  simp [Lit.wf, IntKind.min, IntKind.max, IntKind.signed, IntKind.bits] at h; omega
theorem walk3 (t : Tab) (s : SliceOf Stn) (r : SliceOf Rep) (l : SliceOf Trk) (a b : Int) (w : World) (ht : Tab.ok w t) (hs : SliceOf.ok Stn.cells 3 Stn.ok w s) (hr : SliceOf.ok Rep.cells 6 Rep.ok w r) (hl : SliceOf.ok Trk.cells 14 Trk.ok w l) (ha : (Lit.int .u8 a).wf = true) (hb : (Lit.int .u8 b).wf = true) :
    Calls Tryz.prog 3 #[.agg t.cells.toArray, .slice s.A s.l.length s.c, .slice r.A r.l.length r.c, .slice l.A l.l.length l.c, .int .u8 a, .int .u8 b] w (Tru w) :=
  law3 t s.A s.c s.l r.A r.c r.l l.A l.c l.l a b (u8_bounds ha).1 (u8_bounds ha).2 (u8_bounds hb).1 (u8_bounds hb).2 w ht hs hr hl
end Go.Proofs.YtjiojpoiocdnmaaGreat
