/- Law 7 as its row asks. -/
import Derived.Test.YtmgpbjpohbpgpaaQ7
set_option linter.unusedSimpArgs false
set_option linter.unusedVariables false
namespace Go.Proofs.Ytmgpbjpohbpgpaa
open Go.RowKit
theorem u8_in {n : Int} (h : (Lit.int .u8 n).wf = true) : 0 ≤ n ∧ n ≤ 255 := by
  simp [Lit.wf, IntKind.min, IntKind.max, IntKind.signed, IntKind.bits] at h
  omega
theorem walk7 (a : As) (tn cl ap : Int) (w : World) (ha : AOk w a) (ht : (Lit.int .u8 tn).wf = true) : Calls Try.prog 7 #[.agg a.cells.toArray, .int .u8 tn, .int .i64 cl, .int .i64 ap] w (Tru w) := law7 a tn cl ap w ha (u8_in ht).1 (u8_in ht).2
end Go.Proofs.Ytmgpbjpohbpgpaa
