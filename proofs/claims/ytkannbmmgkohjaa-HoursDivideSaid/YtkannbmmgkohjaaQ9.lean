/- The law of what is covered. -/
import Derived.Test.YtkannbmmgkohjaaQ5
namespace Go.Proofs.Ytkannbmmgkohjaa
open Go.RowKit Go.Shelf
set_option maxHeartbeats 8000000 in
set_option maxRecDepth 100000 in
theorem law9 (Al : Option Addr) (cl : Nat) (l : List Sp) (f t c : Int) (w : World) (hl : Slc w Sp.cells 2 Al l) (ll : l.length ≤ maxLen) (f0 : 0 ≤ f) (f1 : f ≤ 65535) (t0 : 0 ≤ t) (t1 : t ≤ 65535) (c0 : 0 ≤ c) (c1 : c ≤ 65535) :
    Calls Try.prog 9 #[.slice Al l.length cl, .int .u16 f, .int .u16 t, .int .u16 c] w (Tru w) := by
  by_cases fl : l.length ≤ 40
  rotate_left
  · go_enter Try.func9, Try.ntmps9
    go_wp2_with fail
    refine (sane_any _).mono ?_
    rintro e w1 ⟨rfl, B⟩
    have X : Below w.heap.size w w1 := by first | exact B | exact ext_trans (ext_alloc (ext_refl _) _) B | exact ext_trans (ext_alloc (ext_alloc (ext_refl _) _) _) B | exact ext_trans (ext_alloc (ext_alloc (ext_alloc (ext_refl _) _) _) _) B | exact ext_trans (ext_alloc (ext_alloc (ext_alloc (ext_alloc (ext_refl _) _) _) _) _) B
    have Ew1 := ext_trans (ext_refl w) X
    clear X B
    go_wp2_with fail
    refine (few_at (a := l) false (by simpa using fl) rfl ll).mono ?_
    rintro e w2 ⟨rfl, B⟩
    have X : Below w1.heap.size w1 w2 := by first | exact B | exact ext_trans (ext_alloc (ext_refl _) _) B | exact ext_trans (ext_alloc (ext_alloc (ext_refl _) _) _) B | exact ext_trans (ext_alloc (ext_alloc (ext_alloc (ext_refl _) _) _) _) B | exact ext_trans (ext_alloc (ext_alloc (ext_alloc (ext_alloc (ext_refl _) _) _) _) _) B
    have Ew2 := ext_trans Ew1 X
    clear X B Ew1
    go_wp2_with fail
    go_ret
    exact ⟨rfl, Ew2⟩
  have nl : l.length < 1000000 := by omega
  have a0 : 0 ≤ f % 1441 := by omega
  have a1 : f % 1441 ≤ 1440 := by omega
  have b0 : 0 ≤ t % 1441 := by omega
  have b1 : t % 1441 ≤ 1440 := by omega
  by_cases hab : t % 1441 ≤ f % 1441
  · go_enter Try.func9, Try.ntmps9
    go_wp2_with fail
    refine (sane_any _).mono ?_
    rintro e w1 ⟨rfl, B⟩
    have X : Below w.heap.size w w1 := by first | exact B | exact ext_trans (ext_alloc (ext_refl _) _) B | exact ext_trans (ext_alloc (ext_alloc (ext_refl _) _) _) B | exact ext_trans (ext_alloc (ext_alloc (ext_alloc (ext_refl _) _) _) _) B | exact ext_trans (ext_alloc (ext_alloc (ext_alloc (ext_alloc (ext_refl _) _) _) _) _) B
    have Ew1 := ext_trans (ext_refl w) X
    clear X B
    go_wp2_with fail
    refine (few_at (a := l) true (by simpa using fl) rfl ll).mono ?_
    rintro e w2 ⟨rfl, B⟩
    have X : Below w1.heap.size w1 w2 := by first | exact B | exact ext_trans (ext_alloc (ext_refl _) _) B | exact ext_trans (ext_alloc (ext_alloc (ext_refl _) _) _) B | exact ext_trans (ext_alloc (ext_alloc (ext_alloc (ext_refl _) _) _) _) B | exact ext_trans (ext_alloc (ext_alloc (ext_alloc (ext_alloc (ext_refl _) _) _) _) _) B
    have Ew2 := ext_trans Ew1 X
    clear X B Ew1
    clear fl ll
    replace hl := hl.ext Ew2
    go_wp2_with fail
    refine (covers_at (a := l) (s := ⟨f % 1441, t % 1441⟩) true (cov_empty l _ _ hab) rfl (by first | exact hl | exact (hl).alloc _ | exact ((hl).alloc _).alloc _ | exact (((hl).alloc _).alloc _).alloc _) nl).mono ?_
    rintro e w3 ⟨rfl, B⟩
    have BX := (BoxS.new w2 ⟨f % 1441, t % 1441⟩).ext B
    have X : Below w2.heap.size w2 w3 := by first | exact B | exact ext_trans (ext_alloc (ext_refl _) _) B | exact ext_trans (ext_alloc (ext_alloc (ext_refl _) _) _) B | exact ext_trans (ext_alloc (ext_alloc (ext_alloc (ext_refl _) _) _) _) B | exact ext_trans (ext_alloc (ext_alloc (ext_alloc (ext_alloc (ext_refl _) _) _) _) _) B
    have Ew3 := ext_trans Ew2 X
    clear X B Ew2 hl
    have n0 := BX.2.1
    have n1 := BX.2.2
    go_wp2_with fail
    go_ret
    exact ⟨rfl, Ew3⟩
  have hab' : f % 1441 < t % 1441 := by omega
  have m0 : 0 ≤ c % (t % 1441 - f % 1441 + 1) := Int.emod_nonneg _ (by omega)
  have m1 : c % (t % 1441 - f % 1441 + 1) ≤ t % 1441 - f % 1441 := by have := Int.emod_lt_of_pos c (b := t % 1441 - f % 1441 + 1) (by omega); omega
  obtain ⟨r1, hr1⟩ : ∃ r, cov l ⟨f % 1441, f % 1441 + c % (t % 1441 - f % 1441 + 1)⟩ = r := ⟨_, rfl⟩
  obtain ⟨r2, hr2⟩ : ∃ r, cov l ⟨f % 1441 + c % (t % 1441 - f % 1441 + 1), t % 1441⟩ = r := ⟨_, rfl⟩
  have hr := cov_parts l (f % 1441) (f % 1441 + c % (t % 1441 - f % 1441 + 1)) (t % 1441) (by omega) (by omega) a0 b1
  have hm := cov_minus l (f % 1441) (t % 1441) hab a0 b1
  rw [hr1, hr2] at hr
  rw [hr] at hm
  obtain ⟨x, hx⟩ : ∃ x, nrm (mi [⟨f % 1441, t % 1441⟩] l) = x := ⟨_, rfl⟩
  rw [hx] at hm
  obtain ⟨n, hn⟩ : ∃ n, x.length = n := ⟨_, rfl⟩
  have hz : ((n : Int) == 0) = (r1 && r2) := by
    rw [hm, hn, Bool.eq_iff_iff]; simp
  have HR := Lib.hid hr
  have HR1 := Lib.hid hr1
  have HR2 := Lib.hid hr2
  have HX := Lib.hid hx
  have HN := Lib.hid hn.symm
  clear hr hr1 hr2 hx hn hm
  cases r1
  · simp only [Bool.false_and] at hz HR
    go_enter Try.func9, Try.ntmps9
    go_wp2_with fail
    refine (sane_any _).mono ?_
    rintro e w1 ⟨rfl, B⟩
    have X : Below w.heap.size w w1 := by first | exact B | exact ext_trans (ext_alloc (ext_refl _) _) B | exact ext_trans (ext_alloc (ext_alloc (ext_refl _) _) _) B | exact ext_trans (ext_alloc (ext_alloc (ext_alloc (ext_refl _) _) _) _) B | exact ext_trans (ext_alloc (ext_alloc (ext_alloc (ext_alloc (ext_refl _) _) _) _) _) B
    have Ew1 := ext_trans (ext_refl w) X
    clear X B
    go_wp2_with fail
    refine (few_at (a := l) true (by simpa using fl) rfl ll).mono ?_
    rintro e w2 ⟨rfl, B⟩
    have X : Below w1.heap.size w1 w2 := by first | exact B | exact ext_trans (ext_alloc (ext_refl _) _) B | exact ext_trans (ext_alloc (ext_alloc (ext_refl _) _) _) B | exact ext_trans (ext_alloc (ext_alloc (ext_alloc (ext_refl _) _) _) _) B | exact ext_trans (ext_alloc (ext_alloc (ext_alloc (ext_alloc (ext_refl _) _) _) _) _) B
    have Ew2 := ext_trans Ew1 X
    clear X B Ew1
    clear fl ll
    replace hl := hl.ext Ew2
    go_wp2_with fail
    refine (covers_at (a := l) (s := ⟨f % 1441, t % 1441⟩) false HR.out rfl (by first | exact hl | exact (hl).alloc _ | exact ((hl).alloc _).alloc _ | exact (((hl).alloc _).alloc _).alloc _) nl).mono ?_
    rintro e w3 ⟨rfl, B⟩
    have BX := (BoxS.new w2 ⟨f % 1441, t % 1441⟩).ext B
    have X : Below w2.heap.size w2 w3 := by first | exact B | exact ext_trans (ext_alloc (ext_refl _) _) B | exact ext_trans (ext_alloc (ext_alloc (ext_refl _) _) _) B | exact ext_trans (ext_alloc (ext_alloc (ext_alloc (ext_refl _) _) _) _) B | exact ext_trans (ext_alloc (ext_alloc (ext_alloc (ext_alloc (ext_refl _) _) _) _) _) B
    have Ew3 := ext_trans Ew2 X
    replace hl := hl.ext X
    clear X B Ew2
    have n0 := BX.2.1
    have n1 := BX.2.2
    go_wp2_with fail
    refine (minus_at (k := n) (a := [⟨f % 1441, t % 1441⟩]) (b := l) x HX.out rfl rfl (by first | exact slc_litH _ [(⟨f % 1441, t % 1441⟩ : Sp)] _ 31 (enc := Sp.cells) (sz := 2) (fun _ => rfl) rfl _ (by first | rfl | simp) | exact (slc_litH _ [(⟨f % 1441, t % 1441⟩ : Sp)] _ 31 (enc := Sp.cells) (sz := 2) (fun _ => rfl) rfl _ (by first | rfl | simp)).alloc _ | exact ((slc_litH _ [(⟨f % 1441, t % 1441⟩ : Sp)] _ 31 (enc := Sp.cells) (sz := 2) (fun _ => rfl) rfl _ (by first | rfl | simp)).alloc _).alloc _ | exact (((slc_litH _ [(⟨f % 1441, t % 1441⟩ : Sp)] _ 31 (enc := Sp.cells) (sz := 2) (fun _ => rfl) rfl _ (by first | rfl | simp)).alloc _).alloc _).alloc _) (by first | exact hl | exact (hl).alloc _ | exact ((hl).alloc _).alloc _ | exact (((hl).alloc _).alloc _).alloc _) (by simp) nl HN.out).mono ?_
    rintro e w4 ⟨A9, c9, rfl, _, B⟩
    clear n0 n1
    have X : Below w3.heap.size w3 w4 := by first | exact B | exact ext_trans (ext_alloc (ext_refl _) _) B | exact ext_trans (ext_alloc (ext_alloc (ext_refl _) _) _) B | exact ext_trans (ext_alloc (ext_alloc (ext_alloc (ext_refl _) _) _) _) B | exact ext_trans (ext_alloc (ext_alloc (ext_alloc (ext_alloc (ext_refl _) _) _) _) _) B
    have Ew4 := ext_trans Ew3 X
    replace hl := hl.ext X
    replace BX := BX.ext X
    clear X B Ew3
    have n0 := BX.2.1
    have n1 := BX.2.2
    go_wp2_with fail
    refine (covers_at (a := l) (s := ⟨f % 1441, f % 1441 + c % (t % 1441 - f % 1441 + 1)⟩) false HR1.out rfl (by first | exact hl | exact (hl).alloc _ | exact ((hl).alloc _).alloc _ | exact (((hl).alloc _).alloc _).alloc _) nl).mono ?_
    rintro e w5 ⟨rfl, B⟩
    clear n0 n1
    have X : Below w4.heap.size w4 w5 := by first | exact B | exact ext_trans (ext_alloc (ext_refl _) _) B | exact ext_trans (ext_alloc (ext_alloc (ext_refl _) _) _) B | exact ext_trans (ext_alloc (ext_alloc (ext_alloc (ext_refl _) _) _) _) B | exact ext_trans (ext_alloc (ext_alloc (ext_alloc (ext_alloc (ext_refl _) _) _) _) _) B
    have Ew5 := ext_trans Ew4 X
    replace hl := hl.ext X
    replace BX := BX.ext X
    clear X B Ew4
    have n0 := BX.2.1
    have n1 := BX.2.2
    go_wp2_with fail
    refine (covers_at (a := l) (s := ⟨f % 1441, 1441 + c⟩) false (cov_past l _ _ a1 (by omega)) rfl (by first | exact hl | exact (hl).alloc _ | exact ((hl).alloc _).alloc _ | exact (((hl).alloc _).alloc _).alloc _) nl).mono ?_
    rintro e w6 ⟨rfl, B⟩
    clear n0 n1
    have X : Below w5.heap.size w5 w6 := by first | exact B | exact ext_trans (ext_alloc (ext_refl _) _) B | exact ext_trans (ext_alloc (ext_alloc (ext_refl _) _) _) B | exact ext_trans (ext_alloc (ext_alloc (ext_alloc (ext_refl _) _) _) _) B | exact ext_trans (ext_alloc (ext_alloc (ext_alloc (ext_alloc (ext_refl _) _) _) _) _) B
    have Ew6 := ext_trans Ew5 X
    replace BX := BX.ext X
    clear X B Ew5 hl
    have n0 := BX.2.1
    have n1 := BX.2.2
    go_wp2_with fail
    go_ret
    exact ⟨rfl, Ew6⟩
  cases r2
  · simp only [Bool.and_false] at hz HR
    go_enter Try.func9, Try.ntmps9
    go_wp2_with fail
    refine (sane_any _).mono ?_
    rintro e w1 ⟨rfl, B⟩
    have X : Below w.heap.size w w1 := by first | exact B | exact ext_trans (ext_alloc (ext_refl _) _) B | exact ext_trans (ext_alloc (ext_alloc (ext_refl _) _) _) B | exact ext_trans (ext_alloc (ext_alloc (ext_alloc (ext_refl _) _) _) _) B | exact ext_trans (ext_alloc (ext_alloc (ext_alloc (ext_alloc (ext_refl _) _) _) _) _) B
    have Ew1 := ext_trans (ext_refl w) X
    clear X B
    go_wp2_with fail
    refine (few_at (a := l) true (by simpa using fl) rfl ll).mono ?_
    rintro e w2 ⟨rfl, B⟩
    have X : Below w1.heap.size w1 w2 := by first | exact B | exact ext_trans (ext_alloc (ext_refl _) _) B | exact ext_trans (ext_alloc (ext_alloc (ext_refl _) _) _) B | exact ext_trans (ext_alloc (ext_alloc (ext_alloc (ext_refl _) _) _) _) B | exact ext_trans (ext_alloc (ext_alloc (ext_alloc (ext_alloc (ext_refl _) _) _) _) _) B
    have Ew2 := ext_trans Ew1 X
    clear X B Ew1
    clear fl ll
    replace hl := hl.ext Ew2
    go_wp2_with fail
    refine (covers_at (a := l) (s := ⟨f % 1441, t % 1441⟩) false HR.out rfl (by first | exact hl | exact (hl).alloc _ | exact ((hl).alloc _).alloc _ | exact (((hl).alloc _).alloc _).alloc _) nl).mono ?_
    rintro e w3 ⟨rfl, B⟩
    have BX := (BoxS.new w2 ⟨f % 1441, t % 1441⟩).ext B
    have X : Below w2.heap.size w2 w3 := by first | exact B | exact ext_trans (ext_alloc (ext_refl _) _) B | exact ext_trans (ext_alloc (ext_alloc (ext_refl _) _) _) B | exact ext_trans (ext_alloc (ext_alloc (ext_alloc (ext_refl _) _) _) _) B | exact ext_trans (ext_alloc (ext_alloc (ext_alloc (ext_alloc (ext_refl _) _) _) _) _) B
    have Ew3 := ext_trans Ew2 X
    replace hl := hl.ext X
    clear X B Ew2
    have n0 := BX.2.1
    have n1 := BX.2.2
    go_wp2_with fail
    refine (minus_at (k := n) (a := [⟨f % 1441, t % 1441⟩]) (b := l) x HX.out rfl rfl (by first | exact slc_litH _ [(⟨f % 1441, t % 1441⟩ : Sp)] _ 31 (enc := Sp.cells) (sz := 2) (fun _ => rfl) rfl _ (by first | rfl | simp) | exact (slc_litH _ [(⟨f % 1441, t % 1441⟩ : Sp)] _ 31 (enc := Sp.cells) (sz := 2) (fun _ => rfl) rfl _ (by first | rfl | simp)).alloc _ | exact ((slc_litH _ [(⟨f % 1441, t % 1441⟩ : Sp)] _ 31 (enc := Sp.cells) (sz := 2) (fun _ => rfl) rfl _ (by first | rfl | simp)).alloc _).alloc _ | exact (((slc_litH _ [(⟨f % 1441, t % 1441⟩ : Sp)] _ 31 (enc := Sp.cells) (sz := 2) (fun _ => rfl) rfl _ (by first | rfl | simp)).alloc _).alloc _).alloc _) (by first | exact hl | exact (hl).alloc _ | exact ((hl).alloc _).alloc _ | exact (((hl).alloc _).alloc _).alloc _) (by simp) nl HN.out).mono ?_
    rintro e w4 ⟨A9, c9, rfl, _, B⟩
    clear n0 n1
    have X : Below w3.heap.size w3 w4 := by first | exact B | exact ext_trans (ext_alloc (ext_refl _) _) B | exact ext_trans (ext_alloc (ext_alloc (ext_refl _) _) _) B | exact ext_trans (ext_alloc (ext_alloc (ext_alloc (ext_refl _) _) _) _) B | exact ext_trans (ext_alloc (ext_alloc (ext_alloc (ext_alloc (ext_refl _) _) _) _) _) B
    have Ew4 := ext_trans Ew3 X
    replace hl := hl.ext X
    replace BX := BX.ext X
    clear X B Ew3
    have n0 := BX.2.1
    have n1 := BX.2.2
    go_wp2_with fail
    refine (covers_at (a := l) (s := ⟨f % 1441, f % 1441 + c % (t % 1441 - f % 1441 + 1)⟩) true HR1.out rfl (by first | exact hl | exact (hl).alloc _ | exact ((hl).alloc _).alloc _ | exact (((hl).alloc _).alloc _).alloc _) nl).mono ?_
    rintro e w5 ⟨rfl, B⟩
    clear n0 n1
    have X : Below w4.heap.size w4 w5 := by first | exact B | exact ext_trans (ext_alloc (ext_refl _) _) B | exact ext_trans (ext_alloc (ext_alloc (ext_refl _) _) _) B | exact ext_trans (ext_alloc (ext_alloc (ext_alloc (ext_refl _) _) _) _) B | exact ext_trans (ext_alloc (ext_alloc (ext_alloc (ext_alloc (ext_refl _) _) _) _) _) B
    have Ew5 := ext_trans Ew4 X
    replace hl := hl.ext X
    replace BX := BX.ext X
    clear X B Ew4
    have n0 := BX.2.1
    have n1 := BX.2.2
    go_wp2_with fail
    refine (covers_at (a := l) (s := ⟨f % 1441 + c % (t % 1441 - f % 1441 + 1), t % 1441⟩) false HR2.out rfl (by first | exact hl | exact (hl).alloc _ | exact ((hl).alloc _).alloc _ | exact (((hl).alloc _).alloc _).alloc _) nl).mono ?_
    rintro e w6 ⟨rfl, B⟩
    clear n0 n1
    have X : Below w5.heap.size w5 w6 := by first | exact B | exact ext_trans (ext_alloc (ext_refl _) _) B | exact ext_trans (ext_alloc (ext_alloc (ext_refl _) _) _) B | exact ext_trans (ext_alloc (ext_alloc (ext_alloc (ext_refl _) _) _) _) B | exact ext_trans (ext_alloc (ext_alloc (ext_alloc (ext_alloc (ext_refl _) _) _) _) _) B
    have Ew6 := ext_trans Ew5 X
    replace hl := hl.ext X
    replace BX := BX.ext X
    clear X B Ew5
    have n0 := BX.2.1
    have n1 := BX.2.2
    go_wp2_with fail
    refine (covers_at (a := l) (s := ⟨f % 1441, 1441 + c⟩) false (cov_past l _ _ a1 (by omega)) rfl (by first | exact hl | exact (hl).alloc _ | exact ((hl).alloc _).alloc _ | exact (((hl).alloc _).alloc _).alloc _) nl).mono ?_
    rintro e w7 ⟨rfl, B⟩
    clear n0 n1
    have X : Below w6.heap.size w6 w7 := by first | exact B | exact ext_trans (ext_alloc (ext_refl _) _) B | exact ext_trans (ext_alloc (ext_alloc (ext_refl _) _) _) B | exact ext_trans (ext_alloc (ext_alloc (ext_alloc (ext_refl _) _) _) _) B | exact ext_trans (ext_alloc (ext_alloc (ext_alloc (ext_alloc (ext_refl _) _) _) _) _) B
    have Ew7 := ext_trans Ew6 X
    replace BX := BX.ext X
    clear X B Ew6 hl
    have n0 := BX.2.1
    have n1 := BX.2.2
    go_wp2_with fail
    go_ret
    exact ⟨rfl, Ew7⟩
  · simp only [Bool.and_true] at hz HR
    go_enter Try.func9, Try.ntmps9
    go_wp2_with fail
    refine (sane_any _).mono ?_
    rintro e w1 ⟨rfl, B⟩
    have X : Below w.heap.size w w1 := by first | exact B | exact ext_trans (ext_alloc (ext_refl _) _) B | exact ext_trans (ext_alloc (ext_alloc (ext_refl _) _) _) B | exact ext_trans (ext_alloc (ext_alloc (ext_alloc (ext_refl _) _) _) _) B | exact ext_trans (ext_alloc (ext_alloc (ext_alloc (ext_alloc (ext_refl _) _) _) _) _) B
    have Ew1 := ext_trans (ext_refl w) X
    clear X B
    go_wp2_with fail
    refine (few_at (a := l) true (by simpa using fl) rfl ll).mono ?_
    rintro e w2 ⟨rfl, B⟩
    have X : Below w1.heap.size w1 w2 := by first | exact B | exact ext_trans (ext_alloc (ext_refl _) _) B | exact ext_trans (ext_alloc (ext_alloc (ext_refl _) _) _) B | exact ext_trans (ext_alloc (ext_alloc (ext_alloc (ext_refl _) _) _) _) B | exact ext_trans (ext_alloc (ext_alloc (ext_alloc (ext_alloc (ext_refl _) _) _) _) _) B
    have Ew2 := ext_trans Ew1 X
    clear X B Ew1
    clear fl ll
    replace hl := hl.ext Ew2
    go_wp2_with fail
    refine (covers_at (a := l) (s := ⟨f % 1441, t % 1441⟩) true HR.out rfl (by first | exact hl | exact (hl).alloc _ | exact ((hl).alloc _).alloc _ | exact (((hl).alloc _).alloc _).alloc _) nl).mono ?_
    rintro e w3 ⟨rfl, B⟩
    have BX := (BoxS.new w2 ⟨f % 1441, t % 1441⟩).ext B
    have X : Below w2.heap.size w2 w3 := by first | exact B | exact ext_trans (ext_alloc (ext_refl _) _) B | exact ext_trans (ext_alloc (ext_alloc (ext_refl _) _) _) B | exact ext_trans (ext_alloc (ext_alloc (ext_alloc (ext_refl _) _) _) _) B | exact ext_trans (ext_alloc (ext_alloc (ext_alloc (ext_alloc (ext_refl _) _) _) _) _) B
    have Ew3 := ext_trans Ew2 X
    replace hl := hl.ext X
    clear X B Ew2
    have n0 := BX.2.1
    have n1 := BX.2.2
    go_wp2_with fail
    refine (minus_at (k := n) (a := [⟨f % 1441, t % 1441⟩]) (b := l) x HX.out rfl rfl (by first | exact slc_litH _ [(⟨f % 1441, t % 1441⟩ : Sp)] _ 31 (enc := Sp.cells) (sz := 2) (fun _ => rfl) rfl _ (by first | rfl | simp) | exact (slc_litH _ [(⟨f % 1441, t % 1441⟩ : Sp)] _ 31 (enc := Sp.cells) (sz := 2) (fun _ => rfl) rfl _ (by first | rfl | simp)).alloc _ | exact ((slc_litH _ [(⟨f % 1441, t % 1441⟩ : Sp)] _ 31 (enc := Sp.cells) (sz := 2) (fun _ => rfl) rfl _ (by first | rfl | simp)).alloc _).alloc _ | exact (((slc_litH _ [(⟨f % 1441, t % 1441⟩ : Sp)] _ 31 (enc := Sp.cells) (sz := 2) (fun _ => rfl) rfl _ (by first | rfl | simp)).alloc _).alloc _).alloc _) (by first | exact hl | exact (hl).alloc _ | exact ((hl).alloc _).alloc _ | exact (((hl).alloc _).alloc _).alloc _) (by simp) nl HN.out).mono ?_
    rintro e w4 ⟨A9, c9, rfl, _, B⟩
    clear n0 n1
    have X : Below w3.heap.size w3 w4 := by first | exact B | exact ext_trans (ext_alloc (ext_refl _) _) B | exact ext_trans (ext_alloc (ext_alloc (ext_refl _) _) _) B | exact ext_trans (ext_alloc (ext_alloc (ext_alloc (ext_refl _) _) _) _) B | exact ext_trans (ext_alloc (ext_alloc (ext_alloc (ext_alloc (ext_refl _) _) _) _) _) B
    have Ew4 := ext_trans Ew3 X
    replace hl := hl.ext X
    replace BX := BX.ext X
    clear X B Ew3
    have n0 := BX.2.1
    have n1 := BX.2.2
    go_wp2_with fail
    refine (covers_at (a := l) (s := ⟨f % 1441, f % 1441 + c % (t % 1441 - f % 1441 + 1)⟩) true HR1.out rfl (by first | exact hl | exact (hl).alloc _ | exact ((hl).alloc _).alloc _ | exact (((hl).alloc _).alloc _).alloc _) nl).mono ?_
    rintro e w5 ⟨rfl, B⟩
    clear n0 n1
    have X : Below w4.heap.size w4 w5 := by first | exact B | exact ext_trans (ext_alloc (ext_refl _) _) B | exact ext_trans (ext_alloc (ext_alloc (ext_refl _) _) _) B | exact ext_trans (ext_alloc (ext_alloc (ext_alloc (ext_refl _) _) _) _) B | exact ext_trans (ext_alloc (ext_alloc (ext_alloc (ext_alloc (ext_refl _) _) _) _) _) B
    have Ew5 := ext_trans Ew4 X
    replace hl := hl.ext X
    replace BX := BX.ext X
    clear X B Ew4
    have n0 := BX.2.1
    have n1 := BX.2.2
    go_wp2_with fail
    refine (covers_at (a := l) (s := ⟨f % 1441 + c % (t % 1441 - f % 1441 + 1), t % 1441⟩) true HR2.out rfl (by first | exact hl | exact (hl).alloc _ | exact ((hl).alloc _).alloc _ | exact (((hl).alloc _).alloc _).alloc _) nl).mono ?_
    rintro e w6 ⟨rfl, B⟩
    clear n0 n1
    have X : Below w5.heap.size w5 w6 := by first | exact B | exact ext_trans (ext_alloc (ext_refl _) _) B | exact ext_trans (ext_alloc (ext_alloc (ext_refl _) _) _) B | exact ext_trans (ext_alloc (ext_alloc (ext_alloc (ext_refl _) _) _) _) B | exact ext_trans (ext_alloc (ext_alloc (ext_alloc (ext_alloc (ext_refl _) _) _) _) _) B
    have Ew6 := ext_trans Ew5 X
    replace hl := hl.ext X
    replace BX := BX.ext X
    clear X B Ew5
    have n0 := BX.2.1
    have n1 := BX.2.2
    go_wp2_with fail
    refine (covers_at (a := l) (s := ⟨f % 1441, 1441 + c⟩) false (cov_past l _ _ a1 (by omega)) rfl (by first | exact hl | exact (hl).alloc _ | exact ((hl).alloc _).alloc _ | exact (((hl).alloc _).alloc _).alloc _) nl).mono ?_
    rintro e w7 ⟨rfl, B⟩
    clear n0 n1
    have X : Below w6.heap.size w6 w7 := by first | exact B | exact ext_trans (ext_alloc (ext_refl _) _) B | exact ext_trans (ext_alloc (ext_alloc (ext_refl _) _) _) B | exact ext_trans (ext_alloc (ext_alloc (ext_alloc (ext_refl _) _) _) _) B | exact ext_trans (ext_alloc (ext_alloc (ext_alloc (ext_alloc (ext_refl _) _) _) _) _) B
    have Ew7 := ext_trans Ew6 X
    replace BX := BX.ext X
    clear X B Ew6 hl
    have n0 := BX.2.1
    have n1 := BX.2.2
    go_wp2_with fail
    go_ret
    exact ⟨rfl, Ew7⟩
end Go.Proofs.Ytkannbmmgkohjaa
