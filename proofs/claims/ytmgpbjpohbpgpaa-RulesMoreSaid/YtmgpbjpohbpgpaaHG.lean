/- Covers. -/
import Derived.Test.YtmgpbjpohbpgpaaHF
set_option linter.unusedSimpArgs false
set_option linter.unusedVariables false
namespace Go.Proofs.Ytmgpbjpohbpgpaa
open Go.RowKit Go.Shelf
theorem covers_any (A1 : Option Addr) (c1 : Nat) (l : List Sp) (s : Sp) (w : World) (ha : Slc w Sp.cells 2 A1 l) (hna : l.length < 1000000) :
    Calls Try.prog 19 #[.slice A1 l.length c1, s.v] w fun e w' => e = .returned (.bool (cov l s)) ∧ Below w.heap.size w w' := by
  go_enter Try.func19, Try.ntmps19
  by_cases h0 : s.t ≤ s.f
  · go_wp2_with fail
    go_ret
    exact ⟨ret_bool (by simp [cov, h0]), ext_alloc (ext_refl _) _⟩
  · by_cases h1 : 0 ≤ s.f
    · by_cases h2 : s.t ≤ 1440
      · have hS := slc_litH (w.alloc (.cells #[.int .i64 s.f, .int .i64 s.t] 40)) [s] #[.int .i64 s.f, .int .i64 s.t] 40 (enc := Sp.cells) (sz := 2) (fun _ => rfl) rfl (w.heap.size + 1) (by simp)
        have hL := (ha.alloc (.cells #[.int .i64 s.f, .int .i64 s.t] 40)).alloc (.cells #[.int .i64 s.f, .int .i64 s.t] 40)
        have HC : Hid (cov l s = decide ((nrm (mi [s] l)).length = 0)) := by simp [Hid, cov, h1, h2]; omega
        go_wp2_with fail
        refine (minus_any _ A1 1 c1 [s] l _ hS hL (by simp) hna).mono ?_
        rintro e w1 ⟨A, c, rfl, hs, hB⟩
        have hB' := ext_trans (ext_alloc (ext_alloc (ext_refl w) _) _) hB
        cases hz : decide ((nrm (mi [s] l)).length = 0)
        all_goals
          rw [hz] at HC
          simp only [decide_eq_false_iff_not, decide_eq_true_eq] at hz
          go_wp2_with fail
          go_ret
          exact ⟨ret_bool (by first | (rw [HC.out]; done) | (rw [HC.out]; first | exact beq_eq_false_iff_ne.2 (by omega) | exact beq_iff_eq.2 (by omega) | simp)), hB'⟩
      · go_wp2_with fail
        go_ret
        exact ⟨ret_bool (by simp [cov]; omega), ext_alloc (ext_refl _) _⟩
    · go_wp2_with fail
      go_ret
      exact ⟨ret_bool (by simp [cov]; omega), ext_alloc (ext_refl _) _⟩
end Go.Proofs.Ytmgpbjpohbpgpaa
