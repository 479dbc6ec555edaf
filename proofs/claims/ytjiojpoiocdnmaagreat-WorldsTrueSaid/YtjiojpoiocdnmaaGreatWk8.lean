/- Law 8 as its row asks. -/
import Derived.Test.YtjiojpoiocdnmaaGreatTU
import Derived.Test.YtjiojpoiocdnmaaGreatU15
set_option linter.unusedSimpArgs false
set_option linter.unusedVariables false
namespace Go.Proofs.YtjiojpoiocdnmaaGreat
open Go.RowKit
theorem walk8 (t : Tab) (s : SliceOf Stn) (l : SliceOf Trk) (us cs : SliceOf Int) (xs : SliceOf Plt) (turn : Bool) (w : World) (ht : Tab.ok w t) (hs : SliceOf.ok Stn.cells 3 Stn.ok w s) (hl : SliceOf.ok Trk.cells 14 Trk.ok w l) (hu : SliceOf.ok bcs 1 (fun _ n => isB n) w us) (hc : SliceOf.ok bcs 1 (fun _ n => isB n) w cs) (hx : SliceOf.ok Plt.cells 10 Plt.ok w xs) :
    Calls Tryz.prog 8 #[.agg t.cells.toArray, .slice s.A s.l.length s.c, .slice l.A l.l.length l.c, .slice us.A us.l.length us.c, .slice cs.A cs.l.length cs.c, .slice xs.A xs.l.length xs.c, .bool turn] w (Tru w) :=
  law8 t s.A s.c s.l l.A l.c l.l us.A us.c us.l cs.A cs.c cs.l xs.A xs.c xs.l turn w ht hs hl hu hc hx
end Go.Proofs.YtjiojpoiocdnmaaGreat
