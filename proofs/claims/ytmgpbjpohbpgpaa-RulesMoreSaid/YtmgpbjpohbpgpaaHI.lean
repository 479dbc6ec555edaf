/- The reference's sets. -/
import Derived.Test.YtmgpbjpohbpgpaaHH
set_option linter.unusedSimpArgs false
set_option linter.unusedVariables false
namespace Go.Proofs.Ytmgpbjpohbpgpaa
open Go.RowKit Go.Shelf
theorem rnormal_any (A1 : Option Addr) (c1 : Nat) (a : List Sp) (w : World) (ha : Slc w Sp.cells 2 A1 a) (hna : a.length < 1000000) :
    Calls Try.prog 69 #[.slice A1 a.length c1] w (RetS w (nor a)) := by
  go_enter Try.func69, Try.ntmps69
  go_wp2_with fail
  refine (minutes_any A1 c1 a w ha hna).mono ?_
  rintro e w1 ⟨⟨b1, rfl, hb1, ar1⟩, B1⟩
  go_wp2_with fail
  refine (rspans_any b1 _ w1 ar1).mono ?_
  rintro e w2 ⟨A, c, rfl, hs, hB⟩
  go_wp2_with fail
  go_ret
  exact ⟨A, c, rfl, hs, ext_trans B1 hB⟩
end Go.Proofs.Ytmgpbjpohbpgpaa
