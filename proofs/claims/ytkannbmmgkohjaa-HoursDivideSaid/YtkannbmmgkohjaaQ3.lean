/- The laws of the specification, of sets, of what is divided. -/
import Derived.Test.YtkannbmmgkohjaaM
import Derived.Test.YtkannbmmgkohjaaPs
namespace Go.Proofs.Ytkannbmmgkohjaa
open Go.RowKit Go.Shelf
set_option maxHeartbeats 8000000 in
set_option maxRecDepth 100000 in
theorem law3 (Al : Option Addr) (cl : Nat) (l : List Sp)  (w : World) (hl : Slc w Sp.cells 2 Al l) (ll : l.length ≤ maxLen) : Calls Try.prog 3 #[.slice Al l.length cl] w (Tru w) := by
  by_cases fl : l.length ≤ 40
  rotate_left
  · go_enter Try.func3, Try.ntmps3
    go_wp2_with fail
    refine (sane_any _).mono ?_
    rintro e w1 ⟨rfl, B⟩
    have X : Below w.heap.size w w1 := by first | exact B | exact ext_trans (ext_alloc (ext_refl _) _) B | exact ext_trans (ext_alloc (ext_alloc (ext_refl _) _) _) B | exact ext_trans (ext_alloc (ext_alloc (ext_alloc (ext_refl _) _) _) _) B | exact ext_trans (ext_alloc (ext_alloc (ext_alloc (ext_alloc (ext_refl _) _) _) _) _) B
    have Ew1 := ext_trans (ext_refl w) X
    clear X B
    go_wp2_with fail
    refine (few_at (a := l) false (by simpa using fl) rfl ll).mono ?_
    rintro e w2 ⟨rfl, B⟩
    have X : Below w1.heap.size w1 w2 := by first | exact B | exact ext_trans (ext_alloc (ext_refl _) _) B | exact ext_trans (ext_alloc (ext_alloc (ext_refl _) _) _) B | exact ext_trans (ext_alloc (ext_alloc (ext_alloc (ext_refl _) _) _) _) B | exact ext_trans (ext_alloc (ext_alloc (ext_alloc (ext_alloc (ext_refl _) _) _) _) _) B
    have Ew2 := ext_trans Ew1 X
    clear X B Ew1
    go_wp2_with fail
    go_ret
    exact ⟨rfl, Ew2⟩
  have nl : l.length < 1000000 := by omega
  obtain ⟨r, hr⟩ : ∃ r, chkE l = r := ⟨_, rfl⟩
  have HR := Lib.hid hr
  clear hr
  go_enter Try.func3, Try.ntmps3
  go_wp2_with fail
  refine (sane_any _).mono ?_
  rintro e w1 ⟨rfl, B⟩
  have X : Below w.heap.size w w1 := by first | exact B | exact ext_trans (ext_alloc (ext_refl _) _) B | exact ext_trans (ext_alloc (ext_alloc (ext_refl _) _) _) B | exact ext_trans (ext_alloc (ext_alloc (ext_alloc (ext_refl _) _) _) _) B | exact ext_trans (ext_alloc (ext_alloc (ext_alloc (ext_alloc (ext_refl _) _) _) _) _) B
  have Ew1 := ext_trans (ext_refl w) X
  clear X B
  go_wp2_with fail
  refine (few_at (a := l) true (by simpa using fl) rfl ll).mono ?_
  rintro e w2 ⟨rfl, B⟩
  have X : Below w1.heap.size w1 w2 := by first | exact B | exact ext_trans (ext_alloc (ext_refl _) _) B | exact ext_trans (ext_alloc (ext_alloc (ext_refl _) _) _) B | exact ext_trans (ext_alloc (ext_alloc (ext_alloc (ext_refl _) _) _) _) B | exact ext_trans (ext_alloc (ext_alloc (ext_alloc (ext_alloc (ext_refl _) _) _) _) _) B
  have Ew2 := ext_trans Ew1 X
  clear X B Ew1
  clear fl ll
  replace hl := hl.ext Ew2
  go_wp2_with fail
  refine (check_at (a := l) _ HR.out rfl (by first | exact hl | exact (hl).alloc _ | exact ((hl).alloc _).alloc _ | exact (((hl).alloc _).alloc _).alloc _) nl).mono ?_
  rintro e w3 ⟨rfl, B⟩
  have X : Below w2.heap.size w2 w3 := by first | exact B | exact ext_trans (ext_alloc (ext_refl _) _) B | exact ext_trans (ext_alloc (ext_alloc (ext_refl _) _) _) B | exact ext_trans (ext_alloc (ext_alloc (ext_alloc (ext_refl _) _) _) _) B | exact ext_trans (ext_alloc (ext_alloc (ext_alloc (ext_alloc (ext_refl _) _) _) _) _) B
  have Ew3 := ext_trans Ew2 X
  replace hl := hl.ext X
  clear X B Ew2
  go_wp2_with fail
  refine (rcheck_at (a := l) _ HR.out rfl (by first | exact hl | exact (hl).alloc _ | exact ((hl).alloc _).alloc _ | exact (((hl).alloc _).alloc _).alloc _) nl).mono ?_
  rintro e w4 ⟨rfl, B⟩
  have X : Below w3.heap.size w3 w4 := by first | exact B | exact ext_trans (ext_alloc (ext_refl _) _) B | exact ext_trans (ext_alloc (ext_alloc (ext_refl _) _) _) B | exact ext_trans (ext_alloc (ext_alloc (ext_alloc (ext_refl _) _) _) _) B | exact ext_trans (ext_alloc (ext_alloc (ext_alloc (ext_alloc (ext_refl _) _) _) _) _) B
  have Ew4 := ext_trans Ew3 X
  replace hl := hl.ext X
  clear X B Ew3
  go_wp2_with fail
  refine (normal_at (k := (nor (l)).length) (a := l) (nor (l)) rfl rfl (by first | exact hl | exact (hl).alloc _ | exact ((hl).alloc _).alloc _ | exact (((hl).alloc _).alloc _).alloc _) nl rfl).mono ?_
  rintro e w5 ⟨AS1, cS1, rfl, S1, B⟩
  have X : Below w4.heap.size w4 w5 := by first | exact B | exact ext_trans (ext_alloc (ext_refl _) _) B | exact ext_trans (ext_alloc (ext_alloc (ext_refl _) _) _) B | exact ext_trans (ext_alloc (ext_alloc (ext_alloc (ext_refl _) _) _) _) B | exact ext_trans (ext_alloc (ext_alloc (ext_alloc (ext_alloc (ext_refl _) _) _) _) _) B
  have Ew5 := ext_trans Ew4 X
  replace hl := hl.ext X
  clear X B Ew4
  go_wp2_with fail
  refine (rnormal_at (k := (nor l).length) (a := l) (nor l) rfl rfl (by first | exact hl | exact (hl).alloc _ | exact ((hl).alloc _).alloc _ | exact (((hl).alloc _).alloc _).alloc _) nl rfl).mono ?_
  rintro e w6 ⟨AS2, cS2, rfl, S2, B⟩
  have X : Below w5.heap.size w5 w6 := by first | exact B | exact ext_trans (ext_alloc (ext_refl _) _) B | exact ext_trans (ext_alloc (ext_alloc (ext_refl _) _) _) B | exact ext_trans (ext_alloc (ext_alloc (ext_alloc (ext_refl _) _) _) _) B | exact ext_trans (ext_alloc (ext_alloc (ext_alloc (ext_alloc (ext_refl _) _) _) _) _) B
  have Ew6 := ext_trans Ew5 X
  replace S1 := S1.ext X
  clear X B Ew5 hl
  go_wp2_with fail
  refine (sameSp (a := nor (l)) (b := nor l) true (yes (rfl)) rfl rfl (by first | exact S1 | exact (S1).alloc _ | exact ((S1).alloc _).alloc _ | exact (((S1).alloc _).alloc _).alloc _) (by first | exact S2 | exact (S2).alloc _ | exact ((S2).alloc _).alloc _ | exact (((S2).alloc _).alloc _).alloc _) (nrm_lt _)).mono ?_
  rintro e w7 ⟨rfl, B⟩
  have X : Below w6.heap.size w6 w7 := by first | exact B | exact ext_trans (ext_alloc (ext_refl _) _) B | exact ext_trans (ext_alloc (ext_alloc (ext_refl _) _) _) B | exact ext_trans (ext_alloc (ext_alloc (ext_alloc (ext_refl _) _) _) _) B | exact ext_trans (ext_alloc (ext_alloc (ext_alloc (ext_alloc (ext_refl _) _) _) _) _) B
  have Ew7 := ext_trans Ew6 X
  clear X B Ew6 S1 S2
  go_wp2_with fail
  go_ret
  exact ⟨rfl, Ew7⟩
set_option maxHeartbeats 8000000 in
set_option maxRecDepth 100000 in
theorem law4 (Aa : Option Addr) (ca : Nat) (a : List Sp) (Ab : Option Addr) (cb : Nat) (b : List Sp)  (w : World) (ha : Slc w Sp.cells 2 Aa a) (la : a.length ≤ maxLen) (hb : Slc w Sp.cells 2 Ab b) (lb : b.length ≤ maxLen) : Calls Try.prog 4 #[.slice Aa a.length ca, .slice Ab b.length cb] w (Tru w) := by
  by_cases fa : a.length ≤ 40
  rotate_left
  · go_enter Try.func4, Try.ntmps4
    go_wp2_with fail
    refine (sane_any _).mono ?_
    rintro e w1 ⟨rfl, B⟩
    have X : Below w.heap.size w w1 := by first | exact B | exact ext_trans (ext_alloc (ext_refl _) _) B | exact ext_trans (ext_alloc (ext_alloc (ext_refl _) _) _) B | exact ext_trans (ext_alloc (ext_alloc (ext_alloc (ext_refl _) _) _) _) B | exact ext_trans (ext_alloc (ext_alloc (ext_alloc (ext_alloc (ext_refl _) _) _) _) _) B
    have Ew1 := ext_trans (ext_refl w) X
    clear X B
    go_wp2_with fail
    refine (few_at (a := a) false (by simpa using fa) rfl la).mono ?_
    rintro e w2 ⟨rfl, B⟩
    have X : Below w1.heap.size w1 w2 := by first | exact B | exact ext_trans (ext_alloc (ext_refl _) _) B | exact ext_trans (ext_alloc (ext_alloc (ext_refl _) _) _) B | exact ext_trans (ext_alloc (ext_alloc (ext_alloc (ext_refl _) _) _) _) B | exact ext_trans (ext_alloc (ext_alloc (ext_alloc (ext_alloc (ext_refl _) _) _) _) _) B
    have Ew2 := ext_trans Ew1 X
    clear X B Ew1
    go_wp2_with fail
    go_ret
    exact ⟨rfl, Ew2⟩
  by_cases fb : b.length ≤ 40
  rotate_left
  · go_enter Try.func4, Try.ntmps4
    go_wp2_with fail
    refine (sane_any _).mono ?_
    rintro e w1 ⟨rfl, B⟩
    have X : Below w.heap.size w w1 := by first | exact B | exact ext_trans (ext_alloc (ext_refl _) _) B | exact ext_trans (ext_alloc (ext_alloc (ext_refl _) _) _) B | exact ext_trans (ext_alloc (ext_alloc (ext_alloc (ext_refl _) _) _) _) B | exact ext_trans (ext_alloc (ext_alloc (ext_alloc (ext_alloc (ext_refl _) _) _) _) _) B
    have Ew1 := ext_trans (ext_refl w) X
    clear X B
    go_wp2_with fail
    refine (few_at (a := a) true (by simpa using fa) rfl la).mono ?_
    rintro e w2 ⟨rfl, B⟩
    have X : Below w1.heap.size w1 w2 := by first | exact B | exact ext_trans (ext_alloc (ext_refl _) _) B | exact ext_trans (ext_alloc (ext_alloc (ext_refl _) _) _) B | exact ext_trans (ext_alloc (ext_alloc (ext_alloc (ext_refl _) _) _) _) B | exact ext_trans (ext_alloc (ext_alloc (ext_alloc (ext_alloc (ext_refl _) _) _) _) _) B
    have Ew2 := ext_trans Ew1 X
    clear X B Ew1
    go_wp2_with fail
    refine (few_at (a := b) false (by simpa using fb) rfl lb).mono ?_
    rintro e w3 ⟨rfl, B⟩
    have X : Below w2.heap.size w2 w3 := by first | exact B | exact ext_trans (ext_alloc (ext_refl _) _) B | exact ext_trans (ext_alloc (ext_alloc (ext_refl _) _) _) B | exact ext_trans (ext_alloc (ext_alloc (ext_alloc (ext_refl _) _) _) _) B | exact ext_trans (ext_alloc (ext_alloc (ext_alloc (ext_alloc (ext_refl _) _) _) _) _) B
    have Ew3 := ext_trans Ew2 X
    clear X B Ew2
    go_wp2_with fail
    go_ret
    exact ⟨rfl, Ew3⟩
  have na : a.length < 1000000 := by omega
  have nb : b.length < 1000000 := by omega
  go_enter Try.func4, Try.ntmps4
  go_wp2_with fail
  refine (sane_any _).mono ?_
  rintro e w1 ⟨rfl, B⟩
  have X : Below w.heap.size w w1 := by first | exact B | exact ext_trans (ext_alloc (ext_refl _) _) B | exact ext_trans (ext_alloc (ext_alloc (ext_refl _) _) _) B | exact ext_trans (ext_alloc (ext_alloc (ext_alloc (ext_refl _) _) _) _) B | exact ext_trans (ext_alloc (ext_alloc (ext_alloc (ext_alloc (ext_refl _) _) _) _) _) B
  have Ew1 := ext_trans (ext_refl w) X
  clear X B
  go_wp2_with fail
  refine (few_at (a := a) true (by simpa using fa) rfl la).mono ?_
  rintro e w2 ⟨rfl, B⟩
  have X : Below w1.heap.size w1 w2 := by first | exact B | exact ext_trans (ext_alloc (ext_refl _) _) B | exact ext_trans (ext_alloc (ext_alloc (ext_refl _) _) _) B | exact ext_trans (ext_alloc (ext_alloc (ext_alloc (ext_refl _) _) _) _) B | exact ext_trans (ext_alloc (ext_alloc (ext_alloc (ext_alloc (ext_refl _) _) _) _) _) B
  have Ew2 := ext_trans Ew1 X
  clear X B Ew1
  go_wp2_with fail
  refine (few_at (a := b) true (by simpa using fb) rfl lb).mono ?_
  rintro e w3 ⟨rfl, B⟩
  have X : Below w2.heap.size w2 w3 := by first | exact B | exact ext_trans (ext_alloc (ext_refl _) _) B | exact ext_trans (ext_alloc (ext_alloc (ext_refl _) _) _) B | exact ext_trans (ext_alloc (ext_alloc (ext_alloc (ext_refl _) _) _) _) B | exact ext_trans (ext_alloc (ext_alloc (ext_alloc (ext_alloc (ext_refl _) _) _) _) _) B
  have Ew3 := ext_trans Ew2 X
  clear X B Ew2
  clear fa la
  clear fb lb
  replace ha := ha.ext Ew3
  replace hb := hb.ext Ew3
  go_wp2_with fail
  refine (union_at (k := (nrm (un a b)).length) (a := a) (b := b) (nrm (un a b)) rfl rfl rfl (by first | exact ha | exact (ha).alloc _ | exact ((ha).alloc _).alloc _ | exact (((ha).alloc _).alloc _).alloc _) (by first | exact hb | exact (hb).alloc _ | exact ((hb).alloc _).alloc _ | exact (((hb).alloc _).alloc _).alloc _) na nb rfl).mono ?_
  rintro e w4 ⟨AS3, cS3, rfl, S3, B⟩
  have X : Below w3.heap.size w3 w4 := by first | exact B | exact ext_trans (ext_alloc (ext_refl _) _) B | exact ext_trans (ext_alloc (ext_alloc (ext_refl _) _) _) B | exact ext_trans (ext_alloc (ext_alloc (ext_alloc (ext_refl _) _) _) _) B | exact ext_trans (ext_alloc (ext_alloc (ext_alloc (ext_alloc (ext_refl _) _) _) _) _) B
  have Ew4 := ext_trans Ew3 X
  replace ha := ha.ext X
  replace hb := hb.ext X
  clear X B Ew3
  go_wp2_with fail
  refine (runion_at (k := (nrm (un a b)).length) (a := a) (b := b) (nrm (un a b)) rfl rfl rfl (by first | exact ha | exact (ha).alloc _ | exact ((ha).alloc _).alloc _ | exact (((ha).alloc _).alloc _).alloc _) (by first | exact hb | exact (hb).alloc _ | exact ((hb).alloc _).alloc _ | exact (((hb).alloc _).alloc _).alloc _) na nb rfl).mono ?_
  rintro e w5 ⟨AS4, cS4, rfl, S4, B⟩
  have X : Below w4.heap.size w4 w5 := by first | exact B | exact ext_trans (ext_alloc (ext_refl _) _) B | exact ext_trans (ext_alloc (ext_alloc (ext_refl _) _) _) B | exact ext_trans (ext_alloc (ext_alloc (ext_alloc (ext_refl _) _) _) _) B | exact ext_trans (ext_alloc (ext_alloc (ext_alloc (ext_alloc (ext_refl _) _) _) _) _) B
  have Ew5 := ext_trans Ew4 X
  replace ha := ha.ext X
  replace hb := hb.ext X
  replace S3 := S3.ext X
  clear X B Ew4
  go_wp2_with fail
  refine (sameSp (a := nrm (un a b)) (b := nrm (un a b)) true (yes (rfl)) rfl rfl (by first | exact S3 | exact (S3).alloc _ | exact ((S3).alloc _).alloc _ | exact (((S3).alloc _).alloc _).alloc _) (by first | exact S4 | exact (S4).alloc _ | exact ((S4).alloc _).alloc _ | exact (((S4).alloc _).alloc _).alloc _) (nrm_lt _)).mono ?_
  rintro e w6 ⟨rfl, B⟩
  have X : Below w5.heap.size w5 w6 := by first | exact B | exact ext_trans (ext_alloc (ext_refl _) _) B | exact ext_trans (ext_alloc (ext_alloc (ext_refl _) _) _) B | exact ext_trans (ext_alloc (ext_alloc (ext_alloc (ext_refl _) _) _) _) B | exact ext_trans (ext_alloc (ext_alloc (ext_alloc (ext_alloc (ext_refl _) _) _) _) _) B
  have Ew6 := ext_trans Ew5 X
  replace ha := ha.ext X
  replace hb := hb.ext X
  clear X B Ew5 S3 S4
  go_wp2_with fail
  refine (meet_at (k := (nrm (me a b)).length) (a := a) (b := b) (nrm (me a b)) rfl rfl rfl (by first | exact ha | exact (ha).alloc _ | exact ((ha).alloc _).alloc _ | exact (((ha).alloc _).alloc _).alloc _) (by first | exact hb | exact (hb).alloc _ | exact ((hb).alloc _).alloc _ | exact (((hb).alloc _).alloc _).alloc _) na nb rfl).mono ?_
  rintro e w7 ⟨AS5, cS5, rfl, S5, B⟩
  have X : Below w6.heap.size w6 w7 := by first | exact B | exact ext_trans (ext_alloc (ext_refl _) _) B | exact ext_trans (ext_alloc (ext_alloc (ext_refl _) _) _) B | exact ext_trans (ext_alloc (ext_alloc (ext_alloc (ext_refl _) _) _) _) B | exact ext_trans (ext_alloc (ext_alloc (ext_alloc (ext_alloc (ext_refl _) _) _) _) _) B
  have Ew7 := ext_trans Ew6 X
  replace ha := ha.ext X
  replace hb := hb.ext X
  clear X B Ew6
  go_wp2_with fail
  refine (rmeet_at (k := (nrm (me a b)).length) (a := a) (b := b) (nrm (me a b)) rfl rfl rfl (by first | exact ha | exact (ha).alloc _ | exact ((ha).alloc _).alloc _ | exact (((ha).alloc _).alloc _).alloc _) (by first | exact hb | exact (hb).alloc _ | exact ((hb).alloc _).alloc _ | exact (((hb).alloc _).alloc _).alloc _) na nb rfl).mono ?_
  rintro e w8 ⟨AS6, cS6, rfl, S6, B⟩
  have X : Below w7.heap.size w7 w8 := by first | exact B | exact ext_trans (ext_alloc (ext_refl _) _) B | exact ext_trans (ext_alloc (ext_alloc (ext_refl _) _) _) B | exact ext_trans (ext_alloc (ext_alloc (ext_alloc (ext_refl _) _) _) _) B | exact ext_trans (ext_alloc (ext_alloc (ext_alloc (ext_alloc (ext_refl _) _) _) _) _) B
  have Ew8 := ext_trans Ew7 X
  replace ha := ha.ext X
  replace hb := hb.ext X
  replace S5 := S5.ext X
  clear X B Ew7
  go_wp2_with fail
  refine (sameSp (a := nrm (me a b)) (b := nrm (me a b)) true (yes (rfl)) rfl rfl (by first | exact S5 | exact (S5).alloc _ | exact ((S5).alloc _).alloc _ | exact (((S5).alloc _).alloc _).alloc _) (by first | exact S6 | exact (S6).alloc _ | exact ((S6).alloc _).alloc _ | exact (((S6).alloc _).alloc _).alloc _) (nrm_lt _)).mono ?_
  rintro e w9 ⟨rfl, B⟩
  have X : Below w8.heap.size w8 w9 := by first | exact B | exact ext_trans (ext_alloc (ext_refl _) _) B | exact ext_trans (ext_alloc (ext_alloc (ext_refl _) _) _) B | exact ext_trans (ext_alloc (ext_alloc (ext_alloc (ext_refl _) _) _) _) B | exact ext_trans (ext_alloc (ext_alloc (ext_alloc (ext_alloc (ext_refl _) _) _) _) _) B
  have Ew9 := ext_trans Ew8 X
  replace ha := ha.ext X
  replace hb := hb.ext X
  clear X B Ew8 S5 S6
  go_wp2_with fail
  refine (minus_at (k := (nrm (mi a b)).length) (a := a) (b := b) (nrm (mi a b)) rfl rfl rfl (by first | exact ha | exact (ha).alloc _ | exact ((ha).alloc _).alloc _ | exact (((ha).alloc _).alloc _).alloc _) (by first | exact hb | exact (hb).alloc _ | exact ((hb).alloc _).alloc _ | exact (((hb).alloc _).alloc _).alloc _) na nb rfl).mono ?_
  rintro e w10 ⟨AS7, cS7, rfl, S7, B⟩
  have X : Below w9.heap.size w9 w10 := by first | exact B | exact ext_trans (ext_alloc (ext_refl _) _) B | exact ext_trans (ext_alloc (ext_alloc (ext_refl _) _) _) B | exact ext_trans (ext_alloc (ext_alloc (ext_alloc (ext_refl _) _) _) _) B | exact ext_trans (ext_alloc (ext_alloc (ext_alloc (ext_alloc (ext_refl _) _) _) _) _) B
  have Ew10 := ext_trans Ew9 X
  replace ha := ha.ext X
  replace hb := hb.ext X
  clear X B Ew9
  go_wp2_with fail
  refine (rminus_at (k := (nrm (mi a b)).length) (a := a) (b := b) (nrm (mi a b)) rfl rfl rfl (by first | exact ha | exact (ha).alloc _ | exact ((ha).alloc _).alloc _ | exact (((ha).alloc _).alloc _).alloc _) (by first | exact hb | exact (hb).alloc _ | exact ((hb).alloc _).alloc _ | exact (((hb).alloc _).alloc _).alloc _) na nb rfl).mono ?_
  rintro e w11 ⟨AS8, cS8, rfl, S8, B⟩
  have X : Below w10.heap.size w10 w11 := by first | exact B | exact ext_trans (ext_alloc (ext_refl _) _) B | exact ext_trans (ext_alloc (ext_alloc (ext_refl _) _) _) B | exact ext_trans (ext_alloc (ext_alloc (ext_alloc (ext_refl _) _) _) _) B | exact ext_trans (ext_alloc (ext_alloc (ext_alloc (ext_alloc (ext_refl _) _) _) _) _) B
  have Ew11 := ext_trans Ew10 X
  replace S7 := S7.ext X
  clear X B Ew10 ha hb
  go_wp2_with fail
  refine (sameSp (a := nrm (mi a b)) (b := nrm (mi a b)) true (yes (rfl)) rfl rfl (by first | exact S7 | exact (S7).alloc _ | exact ((S7).alloc _).alloc _ | exact (((S7).alloc _).alloc _).alloc _) (by first | exact S8 | exact (S8).alloc _ | exact ((S8).alloc _).alloc _ | exact (((S8).alloc _).alloc _).alloc _) (nrm_lt _)).mono ?_
  rintro e w12 ⟨rfl, B⟩
  have X : Below w11.heap.size w11 w12 := by first | exact B | exact ext_trans (ext_alloc (ext_refl _) _) B | exact ext_trans (ext_alloc (ext_alloc (ext_refl _) _) _) B | exact ext_trans (ext_alloc (ext_alloc (ext_alloc (ext_refl _) _) _) _) B | exact ext_trans (ext_alloc (ext_alloc (ext_alloc (ext_alloc (ext_refl _) _) _) _) _) B
  have Ew12 := ext_trans Ew11 X
  clear X B Ew11 S7 S8
  go_wp2_with fail
  go_ret
  exact ⟨rfl, Ew12⟩
set_option maxHeartbeats 8000000 in
set_option maxRecDepth 100000 in
theorem law7 (Aa : Option Addr) (ca : Nat) (a : List Sp) (Ab : Option Addr) (cb : Nat) (b : List Sp) (Ad : Option Addr) (cd : Nat) (d : List Sp)  (w : World) (ha : Slc w Sp.cells 2 Aa a) (la : a.length ≤ maxLen) (hb : Slc w Sp.cells 2 Ab b) (lb : b.length ≤ maxLen) (hd : Slc w Sp.cells 2 Ad d) (ld : d.length ≤ maxLen) : Calls Try.prog 7 #[.slice Aa a.length ca, .slice Ab b.length cb, .slice Ad d.length cd] w (Tru w) := by
  by_cases fa : a.length ≤ 40
  rotate_left
  · go_enter Try.func7, Try.ntmps7
    go_wp2_with fail
    refine (sane_any _).mono ?_
    rintro e w1 ⟨rfl, B⟩
    have X : Below w.heap.size w w1 := by first | exact B | exact ext_trans (ext_alloc (ext_refl _) _) B | exact ext_trans (ext_alloc (ext_alloc (ext_refl _) _) _) B | exact ext_trans (ext_alloc (ext_alloc (ext_alloc (ext_refl _) _) _) _) B | exact ext_trans (ext_alloc (ext_alloc (ext_alloc (ext_alloc (ext_refl _) _) _) _) _) B
    have Ew1 := ext_trans (ext_refl w) X
    clear X B
    go_wp2_with fail
    refine (few_at (a := a) false (by simpa using fa) rfl la).mono ?_
    rintro e w2 ⟨rfl, B⟩
    have X : Below w1.heap.size w1 w2 := by first | exact B | exact ext_trans (ext_alloc (ext_refl _) _) B | exact ext_trans (ext_alloc (ext_alloc (ext_refl _) _) _) B | exact ext_trans (ext_alloc (ext_alloc (ext_alloc (ext_refl _) _) _) _) B | exact ext_trans (ext_alloc (ext_alloc (ext_alloc (ext_alloc (ext_refl _) _) _) _) _) B
    have Ew2 := ext_trans Ew1 X
    clear X B Ew1
    go_wp2_with fail
    go_ret
    exact ⟨rfl, Ew2⟩
  by_cases fb : b.length ≤ 40
  rotate_left
  · go_enter Try.func7, Try.ntmps7
    go_wp2_with fail
    refine (sane_any _).mono ?_
    rintro e w1 ⟨rfl, B⟩
    have X : Below w.heap.size w w1 := by first | exact B | exact ext_trans (ext_alloc (ext_refl _) _) B | exact ext_trans (ext_alloc (ext_alloc (ext_refl _) _) _) B | exact ext_trans (ext_alloc (ext_alloc (ext_alloc (ext_refl _) _) _) _) B | exact ext_trans (ext_alloc (ext_alloc (ext_alloc (ext_alloc (ext_refl _) _) _) _) _) B
    have Ew1 := ext_trans (ext_refl w) X
    clear X B
    go_wp2_with fail
    refine (few_at (a := a) true (by simpa using fa) rfl la).mono ?_
    rintro e w2 ⟨rfl, B⟩
    have X : Below w1.heap.size w1 w2 := by first | exact B | exact ext_trans (ext_alloc (ext_refl _) _) B | exact ext_trans (ext_alloc (ext_alloc (ext_refl _) _) _) B | exact ext_trans (ext_alloc (ext_alloc (ext_alloc (ext_refl _) _) _) _) B | exact ext_trans (ext_alloc (ext_alloc (ext_alloc (ext_alloc (ext_refl _) _) _) _) _) B
    have Ew2 := ext_trans Ew1 X
    clear X B Ew1
    go_wp2_with fail
    refine (few_at (a := b) false (by simpa using fb) rfl lb).mono ?_
    rintro e w3 ⟨rfl, B⟩
    have X : Below w2.heap.size w2 w3 := by first | exact B | exact ext_trans (ext_alloc (ext_refl _) _) B | exact ext_trans (ext_alloc (ext_alloc (ext_refl _) _) _) B | exact ext_trans (ext_alloc (ext_alloc (ext_alloc (ext_refl _) _) _) _) B | exact ext_trans (ext_alloc (ext_alloc (ext_alloc (ext_alloc (ext_refl _) _) _) _) _) B
    have Ew3 := ext_trans Ew2 X
    clear X B Ew2
    go_wp2_with fail
    go_ret
    exact ⟨rfl, Ew3⟩
  by_cases fd : d.length ≤ 40
  rotate_left
  · go_enter Try.func7, Try.ntmps7
    go_wp2_with fail
    refine (sane_any _).mono ?_
    rintro e w1 ⟨rfl, B⟩
    have X : Below w.heap.size w w1 := by first | exact B | exact ext_trans (ext_alloc (ext_refl _) _) B | exact ext_trans (ext_alloc (ext_alloc (ext_refl _) _) _) B | exact ext_trans (ext_alloc (ext_alloc (ext_alloc (ext_refl _) _) _) _) B | exact ext_trans (ext_alloc (ext_alloc (ext_alloc (ext_alloc (ext_refl _) _) _) _) _) B
    have Ew1 := ext_trans (ext_refl w) X
    clear X B
    go_wp2_with fail
    refine (few_at (a := a) true (by simpa using fa) rfl la).mono ?_
    rintro e w2 ⟨rfl, B⟩
    have X : Below w1.heap.size w1 w2 := by first | exact B | exact ext_trans (ext_alloc (ext_refl _) _) B | exact ext_trans (ext_alloc (ext_alloc (ext_refl _) _) _) B | exact ext_trans (ext_alloc (ext_alloc (ext_alloc (ext_refl _) _) _) _) B | exact ext_trans (ext_alloc (ext_alloc (ext_alloc (ext_alloc (ext_refl _) _) _) _) _) B
    have Ew2 := ext_trans Ew1 X
    clear X B Ew1
    go_wp2_with fail
    refine (few_at (a := b) true (by simpa using fb) rfl lb).mono ?_
    rintro e w3 ⟨rfl, B⟩
    have X : Below w2.heap.size w2 w3 := by first | exact B | exact ext_trans (ext_alloc (ext_refl _) _) B | exact ext_trans (ext_alloc (ext_alloc (ext_refl _) _) _) B | exact ext_trans (ext_alloc (ext_alloc (ext_alloc (ext_refl _) _) _) _) B | exact ext_trans (ext_alloc (ext_alloc (ext_alloc (ext_alloc (ext_refl _) _) _) _) _) B
    have Ew3 := ext_trans Ew2 X
    clear X B Ew2
    go_wp2_with fail
    refine (few_at (a := d) false (by simpa using fd) rfl ld).mono ?_
    rintro e w4 ⟨rfl, B⟩
    have X : Below w3.heap.size w3 w4 := by first | exact B | exact ext_trans (ext_alloc (ext_refl _) _) B | exact ext_trans (ext_alloc (ext_alloc (ext_refl _) _) _) B | exact ext_trans (ext_alloc (ext_alloc (ext_alloc (ext_refl _) _) _) _) B | exact ext_trans (ext_alloc (ext_alloc (ext_alloc (ext_alloc (ext_refl _) _) _) _) _) B
    have Ew4 := ext_trans Ew3 X
    clear X B Ew3
    go_wp2_with fail
    go_ret
    exact ⟨rfl, Ew4⟩
  have na : a.length < 1000000 := by omega
  have nb : b.length < 1000000 := by omega
  have nd : d.length < 1000000 := by omega
  go_enter Try.func7, Try.ntmps7
  go_wp2_with fail
  refine (sane_any _).mono ?_
  rintro e w1 ⟨rfl, B⟩
  have X : Below w.heap.size w w1 := by first | exact B | exact ext_trans (ext_alloc (ext_refl _) _) B | exact ext_trans (ext_alloc (ext_alloc (ext_refl _) _) _) B | exact ext_trans (ext_alloc (ext_alloc (ext_alloc (ext_refl _) _) _) _) B | exact ext_trans (ext_alloc (ext_alloc (ext_alloc (ext_alloc (ext_refl _) _) _) _) _) B
  have Ew1 := ext_trans (ext_refl w) X
  clear X B
  go_wp2_with fail
  refine (few_at (a := a) true (by simpa using fa) rfl la).mono ?_
  rintro e w2 ⟨rfl, B⟩
  have X : Below w1.heap.size w1 w2 := by first | exact B | exact ext_trans (ext_alloc (ext_refl _) _) B | exact ext_trans (ext_alloc (ext_alloc (ext_refl _) _) _) B | exact ext_trans (ext_alloc (ext_alloc (ext_alloc (ext_refl _) _) _) _) B | exact ext_trans (ext_alloc (ext_alloc (ext_alloc (ext_alloc (ext_refl _) _) _) _) _) B
  have Ew2 := ext_trans Ew1 X
  clear X B Ew1
  go_wp2_with fail
  refine (few_at (a := b) true (by simpa using fb) rfl lb).mono ?_
  rintro e w3 ⟨rfl, B⟩
  have X : Below w2.heap.size w2 w3 := by first | exact B | exact ext_trans (ext_alloc (ext_refl _) _) B | exact ext_trans (ext_alloc (ext_alloc (ext_refl _) _) _) B | exact ext_trans (ext_alloc (ext_alloc (ext_alloc (ext_refl _) _) _) _) B | exact ext_trans (ext_alloc (ext_alloc (ext_alloc (ext_alloc (ext_refl _) _) _) _) _) B
  have Ew3 := ext_trans Ew2 X
  clear X B Ew2
  go_wp2_with fail
  refine (few_at (a := d) true (by simpa using fd) rfl ld).mono ?_
  rintro e w4 ⟨rfl, B⟩
  have X : Below w3.heap.size w3 w4 := by first | exact B | exact ext_trans (ext_alloc (ext_refl _) _) B | exact ext_trans (ext_alloc (ext_alloc (ext_refl _) _) _) B | exact ext_trans (ext_alloc (ext_alloc (ext_alloc (ext_refl _) _) _) _) B | exact ext_trans (ext_alloc (ext_alloc (ext_alloc (ext_alloc (ext_refl _) _) _) _) _) B
  have Ew4 := ext_trans Ew3 X
  clear X B Ew3
  clear fa la
  clear fb lb
  clear fd ld
  replace ha := ha.ext Ew4
  replace hb := hb.ext Ew4
  replace hd := hd.ext Ew4
  go_wp2_with fail
  refine (normal_at (k := (nor (a)).length) (a := a) (nor (a)) rfl rfl (by first | exact ha | exact (ha).alloc _ | exact ((ha).alloc _).alloc _ | exact (((ha).alloc _).alloc _).alloc _) na rfl).mono ?_
  rintro e w5 ⟨AS9, cS9, rfl, S9, B⟩
  have X : Below w4.heap.size w4 w5 := by first | exact B | exact ext_trans (ext_alloc (ext_refl _) _) B | exact ext_trans (ext_alloc (ext_alloc (ext_refl _) _) _) B | exact ext_trans (ext_alloc (ext_alloc (ext_alloc (ext_refl _) _) _) _) B | exact ext_trans (ext_alloc (ext_alloc (ext_alloc (ext_alloc (ext_refl _) _) _) _) _) B
  have Ew5 := ext_trans Ew4 X
  replace ha := ha.ext X
  replace hb := hb.ext X
  replace hd := hd.ext X
  clear X B Ew4
  go_wp2_with fail
  refine (union_at (k := (nrm (un (a) (b))).length) (a := a) (b := b) (nrm (un (a) (b))) rfl rfl rfl (by first | exact ha | exact (ha).alloc _ | exact ((ha).alloc _).alloc _ | exact (((ha).alloc _).alloc _).alloc _) (by first | exact hb | exact (hb).alloc _ | exact ((hb).alloc _).alloc _ | exact (((hb).alloc _).alloc _).alloc _) na nb rfl).mono ?_
  rintro e w6 ⟨AS10, cS10, rfl, S10, B⟩
  have X : Below w5.heap.size w5 w6 := by first | exact B | exact ext_trans (ext_alloc (ext_refl _) _) B | exact ext_trans (ext_alloc (ext_alloc (ext_refl _) _) _) B | exact ext_trans (ext_alloc (ext_alloc (ext_alloc (ext_refl _) _) _) _) B | exact ext_trans (ext_alloc (ext_alloc (ext_alloc (ext_alloc (ext_refl _) _) _) _) _) B
  have Ew6 := ext_trans Ew5 X
  replace ha := ha.ext X
  replace hb := hb.ext X
  replace hd := hd.ext X
  replace S9 := S9.ext X
  clear X B Ew5
  go_wp2_with fail
  refine (union_at (k := (nrm (un (b) (a))).length) (a := b) (b := a) (nrm (un (b) (a))) rfl rfl rfl (by first | exact hb | exact (hb).alloc _ | exact ((hb).alloc _).alloc _ | exact (((hb).alloc _).alloc _).alloc _) (by first | exact ha | exact (ha).alloc _ | exact ((ha).alloc _).alloc _ | exact (((ha).alloc _).alloc _).alloc _) nb na rfl).mono ?_
  rintro e w7 ⟨AS11, cS11, rfl, S11, B⟩
  have X : Below w6.heap.size w6 w7 := by first | exact B | exact ext_trans (ext_alloc (ext_refl _) _) B | exact ext_trans (ext_alloc (ext_alloc (ext_refl _) _) _) B | exact ext_trans (ext_alloc (ext_alloc (ext_alloc (ext_refl _) _) _) _) B | exact ext_trans (ext_alloc (ext_alloc (ext_alloc (ext_alloc (ext_refl _) _) _) _) _) B
  have Ew7 := ext_trans Ew6 X
  replace ha := ha.ext X
  replace hb := hb.ext X
  replace hd := hd.ext X
  replace S9 := S9.ext X
  replace S10 := S10.ext X
  clear X B Ew6
  go_wp2_with fail
  refine (sameSp (a := nrm (un (a) (b))) (b := nrm (un (b) (a))) true (yes (alg1 _ _)) rfl rfl (by first | exact S10 | exact (S10).alloc _ | exact ((S10).alloc _).alloc _ | exact (((S10).alloc _).alloc _).alloc _) (by first | exact S11 | exact (S11).alloc _ | exact ((S11).alloc _).alloc _ | exact (((S11).alloc _).alloc _).alloc _) (nrm_lt _)).mono ?_
  rintro e w8 ⟨rfl, B⟩
  have X : Below w7.heap.size w7 w8 := by first | exact B | exact ext_trans (ext_alloc (ext_refl _) _) B | exact ext_trans (ext_alloc (ext_alloc (ext_refl _) _) _) B | exact ext_trans (ext_alloc (ext_alloc (ext_alloc (ext_refl _) _) _) _) B | exact ext_trans (ext_alloc (ext_alloc (ext_alloc (ext_alloc (ext_refl _) _) _) _) _) B
  have Ew8 := ext_trans Ew7 X
  replace ha := ha.ext X
  replace hb := hb.ext X
  replace hd := hd.ext X
  replace S9 := S9.ext X
  clear X B Ew7 S10 S11
  go_wp2_with fail
  refine (meet_at (k := (nrm (me (a) (b))).length) (a := a) (b := b) (nrm (me (a) (b))) rfl rfl rfl (by first | exact ha | exact (ha).alloc _ | exact ((ha).alloc _).alloc _ | exact (((ha).alloc _).alloc _).alloc _) (by first | exact hb | exact (hb).alloc _ | exact ((hb).alloc _).alloc _ | exact (((hb).alloc _).alloc _).alloc _) na nb rfl).mono ?_
  rintro e w9 ⟨AS12, cS12, rfl, S12, B⟩
  have X : Below w8.heap.size w8 w9 := by first | exact B | exact ext_trans (ext_alloc (ext_refl _) _) B | exact ext_trans (ext_alloc (ext_alloc (ext_refl _) _) _) B | exact ext_trans (ext_alloc (ext_alloc (ext_alloc (ext_refl _) _) _) _) B | exact ext_trans (ext_alloc (ext_alloc (ext_alloc (ext_alloc (ext_refl _) _) _) _) _) B
  have Ew9 := ext_trans Ew8 X
  replace ha := ha.ext X
  replace hb := hb.ext X
  replace hd := hd.ext X
  replace S9 := S9.ext X
  clear X B Ew8
  go_wp2_with fail
  refine (meet_at (k := (nrm (me (b) (a))).length) (a := b) (b := a) (nrm (me (b) (a))) rfl rfl rfl (by first | exact hb | exact (hb).alloc _ | exact ((hb).alloc _).alloc _ | exact (((hb).alloc _).alloc _).alloc _) (by first | exact ha | exact (ha).alloc _ | exact ((ha).alloc _).alloc _ | exact (((ha).alloc _).alloc _).alloc _) nb na rfl).mono ?_
  rintro e w10 ⟨AS13, cS13, rfl, S13, B⟩
  have X : Below w9.heap.size w9 w10 := by first | exact B | exact ext_trans (ext_alloc (ext_refl _) _) B | exact ext_trans (ext_alloc (ext_alloc (ext_refl _) _) _) B | exact ext_trans (ext_alloc (ext_alloc (ext_alloc (ext_refl _) _) _) _) B | exact ext_trans (ext_alloc (ext_alloc (ext_alloc (ext_alloc (ext_refl _) _) _) _) _) B
  have Ew10 := ext_trans Ew9 X
  replace ha := ha.ext X
  replace hb := hb.ext X
  replace hd := hd.ext X
  replace S9 := S9.ext X
  replace S12 := S12.ext X
  clear X B Ew9
  go_wp2_with fail
  refine (sameSp (a := nrm (me (a) (b))) (b := nrm (me (b) (a))) true (yes (alg2 _ _)) rfl rfl (by first | exact S12 | exact (S12).alloc _ | exact ((S12).alloc _).alloc _ | exact (((S12).alloc _).alloc _).alloc _) (by first | exact S13 | exact (S13).alloc _ | exact ((S13).alloc _).alloc _ | exact (((S13).alloc _).alloc _).alloc _) (nrm_lt _)).mono ?_
  rintro e w11 ⟨rfl, B⟩
  have X : Below w10.heap.size w10 w11 := by first | exact B | exact ext_trans (ext_alloc (ext_refl _) _) B | exact ext_trans (ext_alloc (ext_alloc (ext_refl _) _) _) B | exact ext_trans (ext_alloc (ext_alloc (ext_alloc (ext_refl _) _) _) _) B | exact ext_trans (ext_alloc (ext_alloc (ext_alloc (ext_alloc (ext_refl _) _) _) _) _) B
  have Ew11 := ext_trans Ew10 X
  replace ha := ha.ext X
  replace hb := hb.ext X
  replace hd := hd.ext X
  replace S9 := S9.ext X
  clear X B Ew10 S12 S13
  go_wp2_with fail
  refine (union_at (k := (nrm (un (a) (b))).length) (a := a) (b := b) (nrm (un (a) (b))) rfl rfl rfl (by first | exact ha | exact (ha).alloc _ | exact ((ha).alloc _).alloc _ | exact (((ha).alloc _).alloc _).alloc _) (by first | exact hb | exact (hb).alloc _ | exact ((hb).alloc _).alloc _ | exact (((hb).alloc _).alloc _).alloc _) na nb rfl).mono ?_
  rintro e w12 ⟨AS14, cS14, rfl, S14, B⟩
  have X : Below w11.heap.size w11 w12 := by first | exact B | exact ext_trans (ext_alloc (ext_refl _) _) B | exact ext_trans (ext_alloc (ext_alloc (ext_refl _) _) _) B | exact ext_trans (ext_alloc (ext_alloc (ext_alloc (ext_refl _) _) _) _) B | exact ext_trans (ext_alloc (ext_alloc (ext_alloc (ext_alloc (ext_refl _) _) _) _) _) B
  have Ew12 := ext_trans Ew11 X
  replace ha := ha.ext X
  replace hb := hb.ext X
  replace hd := hd.ext X
  replace S9 := S9.ext X
  clear X B Ew11
  go_wp2_with fail
  refine (union_at (k := (nrm (un (nrm (un (a) (b))) (d))).length) (a := nrm (un (a) (b))) (b := d) (nrm (un (nrm (un (a) (b))) (d))) rfl rfl rfl (by first | exact S14 | exact (S14).alloc _ | exact ((S14).alloc _).alloc _ | exact (((S14).alloc _).alloc _).alloc _) (by first | exact hd | exact (hd).alloc _ | exact ((hd).alloc _).alloc _ | exact (((hd).alloc _).alloc _).alloc _) (nrm_lt _) nd rfl).mono ?_
  rintro e w13 ⟨AS15, cS15, rfl, S15, B⟩
  have X : Below w12.heap.size w12 w13 := by first | exact B | exact ext_trans (ext_alloc (ext_refl _) _) B | exact ext_trans (ext_alloc (ext_alloc (ext_refl _) _) _) B | exact ext_trans (ext_alloc (ext_alloc (ext_alloc (ext_refl _) _) _) _) B | exact ext_trans (ext_alloc (ext_alloc (ext_alloc (ext_alloc (ext_refl _) _) _) _) _) B
  have Ew13 := ext_trans Ew12 X
  replace ha := ha.ext X
  replace hb := hb.ext X
  replace hd := hd.ext X
  replace S9 := S9.ext X
  clear X B Ew12 S14
  go_wp2_with fail
  refine (union_at (k := (nrm (un (b) (d))).length) (a := b) (b := d) (nrm (un (b) (d))) rfl rfl rfl (by first | exact hb | exact (hb).alloc _ | exact ((hb).alloc _).alloc _ | exact (((hb).alloc _).alloc _).alloc _) (by first | exact hd | exact (hd).alloc _ | exact ((hd).alloc _).alloc _ | exact (((hd).alloc _).alloc _).alloc _) nb nd rfl).mono ?_
  rintro e w14 ⟨AS16, cS16, rfl, S16, B⟩
  have X : Below w13.heap.size w13 w14 := by first | exact B | exact ext_trans (ext_alloc (ext_refl _) _) B | exact ext_trans (ext_alloc (ext_alloc (ext_refl _) _) _) B | exact ext_trans (ext_alloc (ext_alloc (ext_alloc (ext_refl _) _) _) _) B | exact ext_trans (ext_alloc (ext_alloc (ext_alloc (ext_alloc (ext_refl _) _) _) _) _) B
  have Ew14 := ext_trans Ew13 X
  replace ha := ha.ext X
  replace hb := hb.ext X
  replace hd := hd.ext X
  replace S9 := S9.ext X
  replace S15 := S15.ext X
  clear X B Ew13
  go_wp2_with fail
  refine (union_at (k := (nrm (un (a) (nrm (un (b) (d))))).length) (a := a) (b := nrm (un (b) (d))) (nrm (un (a) (nrm (un (b) (d))))) rfl rfl rfl (by first | exact ha | exact (ha).alloc _ | exact ((ha).alloc _).alloc _ | exact (((ha).alloc _).alloc _).alloc _) (by first | exact S16 | exact (S16).alloc _ | exact ((S16).alloc _).alloc _ | exact (((S16).alloc _).alloc _).alloc _) na (nrm_lt _) rfl).mono ?_
  rintro e w15 ⟨AS17, cS17, rfl, S17, B⟩
  have X : Below w14.heap.size w14 w15 := by first | exact B | exact ext_trans (ext_alloc (ext_refl _) _) B | exact ext_trans (ext_alloc (ext_alloc (ext_refl _) _) _) B | exact ext_trans (ext_alloc (ext_alloc (ext_alloc (ext_refl _) _) _) _) B | exact ext_trans (ext_alloc (ext_alloc (ext_alloc (ext_alloc (ext_refl _) _) _) _) _) B
  have Ew15 := ext_trans Ew14 X
  replace ha := ha.ext X
  replace hb := hb.ext X
  replace hd := hd.ext X
  replace S9 := S9.ext X
  replace S15 := S15.ext X
  clear X B Ew14 S16
  go_wp2_with fail
  refine (sameSp (a := nrm (un (nrm (un (a) (b))) (d))) (b := nrm (un (a) (nrm (un (b) (d))))) true (yes (alg3 _ _ _)) rfl rfl (by first | exact S15 | exact (S15).alloc _ | exact ((S15).alloc _).alloc _ | exact (((S15).alloc _).alloc _).alloc _) (by first | exact S17 | exact (S17).alloc _ | exact ((S17).alloc _).alloc _ | exact (((S17).alloc _).alloc _).alloc _) (nrm_lt _)).mono ?_
  rintro e w16 ⟨rfl, B⟩
  have X : Below w15.heap.size w15 w16 := by first | exact B | exact ext_trans (ext_alloc (ext_refl _) _) B | exact ext_trans (ext_alloc (ext_alloc (ext_refl _) _) _) B | exact ext_trans (ext_alloc (ext_alloc (ext_alloc (ext_refl _) _) _) _) B | exact ext_trans (ext_alloc (ext_alloc (ext_alloc (ext_alloc (ext_refl _) _) _) _) _) B
  have Ew16 := ext_trans Ew15 X
  replace ha := ha.ext X
  replace hb := hb.ext X
  replace hd := hd.ext X
  replace S9 := S9.ext X
  clear X B Ew15 S15 S17
  go_wp2_with fail
  refine (meet_at (k := (nrm (me (a) (b))).length) (a := a) (b := b) (nrm (me (a) (b))) rfl rfl rfl (by first | exact ha | exact (ha).alloc _ | exact ((ha).alloc _).alloc _ | exact (((ha).alloc _).alloc _).alloc _) (by first | exact hb | exact (hb).alloc _ | exact ((hb).alloc _).alloc _ | exact (((hb).alloc _).alloc _).alloc _) na nb rfl).mono ?_
  rintro e w17 ⟨AS18, cS18, rfl, S18, B⟩
  have X : Below w16.heap.size w16 w17 := by first | exact B | exact ext_trans (ext_alloc (ext_refl _) _) B | exact ext_trans (ext_alloc (ext_alloc (ext_refl _) _) _) B | exact ext_trans (ext_alloc (ext_alloc (ext_alloc (ext_refl _) _) _) _) B | exact ext_trans (ext_alloc (ext_alloc (ext_alloc (ext_alloc (ext_refl _) _) _) _) _) B
  have Ew17 := ext_trans Ew16 X
  replace ha := ha.ext X
  replace hb := hb.ext X
  replace hd := hd.ext X
  replace S9 := S9.ext X
  clear X B Ew16
  go_wp2_with fail
  refine (meet_at (k := (nrm (me (nrm (me (a) (b))) (d))).length) (a := nrm (me (a) (b))) (b := d) (nrm (me (nrm (me (a) (b))) (d))) rfl rfl rfl (by first | exact S18 | exact (S18).alloc _ | exact ((S18).alloc _).alloc _ | exact (((S18).alloc _).alloc _).alloc _) (by first | exact hd | exact (hd).alloc _ | exact ((hd).alloc _).alloc _ | exact (((hd).alloc _).alloc _).alloc _) (nrm_lt _) nd rfl).mono ?_
  rintro e w18 ⟨AS19, cS19, rfl, S19, B⟩
  have X : Below w17.heap.size w17 w18 := by first | exact B | exact ext_trans (ext_alloc (ext_refl _) _) B | exact ext_trans (ext_alloc (ext_alloc (ext_refl _) _) _) B | exact ext_trans (ext_alloc (ext_alloc (ext_alloc (ext_refl _) _) _) _) B | exact ext_trans (ext_alloc (ext_alloc (ext_alloc (ext_alloc (ext_refl _) _) _) _) _) B
  have Ew18 := ext_trans Ew17 X
  replace ha := ha.ext X
  replace hb := hb.ext X
  replace hd := hd.ext X
  replace S9 := S9.ext X
  clear X B Ew17 S18
  go_wp2_with fail
  refine (meet_at (k := (nrm (me (b) (d))).length) (a := b) (b := d) (nrm (me (b) (d))) rfl rfl rfl (by first | exact hb | exact (hb).alloc _ | exact ((hb).alloc _).alloc _ | exact (((hb).alloc _).alloc _).alloc _) (by first | exact hd | exact (hd).alloc _ | exact ((hd).alloc _).alloc _ | exact (((hd).alloc _).alloc _).alloc _) nb nd rfl).mono ?_
  rintro e w19 ⟨AS20, cS20, rfl, S20, B⟩
  have X : Below w18.heap.size w18 w19 := by first | exact B | exact ext_trans (ext_alloc (ext_refl _) _) B | exact ext_trans (ext_alloc (ext_alloc (ext_refl _) _) _) B | exact ext_trans (ext_alloc (ext_alloc (ext_alloc (ext_refl _) _) _) _) B | exact ext_trans (ext_alloc (ext_alloc (ext_alloc (ext_alloc (ext_refl _) _) _) _) _) B
  have Ew19 := ext_trans Ew18 X
  replace ha := ha.ext X
  replace hb := hb.ext X
  replace hd := hd.ext X
  replace S9 := S9.ext X
  replace S19 := S19.ext X
  clear X B Ew18
  go_wp2_with fail
  refine (meet_at (k := (nrm (me (a) (nrm (me (b) (d))))).length) (a := a) (b := nrm (me (b) (d))) (nrm (me (a) (nrm (me (b) (d))))) rfl rfl rfl (by first | exact ha | exact (ha).alloc _ | exact ((ha).alloc _).alloc _ | exact (((ha).alloc _).alloc _).alloc _) (by first | exact S20 | exact (S20).alloc _ | exact ((S20).alloc _).alloc _ | exact (((S20).alloc _).alloc _).alloc _) na (nrm_lt _) rfl).mono ?_
  rintro e w20 ⟨AS21, cS21, rfl, S21, B⟩
  have X : Below w19.heap.size w19 w20 := by first | exact B | exact ext_trans (ext_alloc (ext_refl _) _) B | exact ext_trans (ext_alloc (ext_alloc (ext_refl _) _) _) B | exact ext_trans (ext_alloc (ext_alloc (ext_alloc (ext_refl _) _) _) _) B | exact ext_trans (ext_alloc (ext_alloc (ext_alloc (ext_alloc (ext_refl _) _) _) _) _) B
  have Ew20 := ext_trans Ew19 X
  replace ha := ha.ext X
  replace hb := hb.ext X
  replace hd := hd.ext X
  replace S9 := S9.ext X
  replace S19 := S19.ext X
  clear X B Ew19 S20
  go_wp2_with fail
  refine (sameSp (a := nrm (me (nrm (me (a) (b))) (d))) (b := nrm (me (a) (nrm (me (b) (d))))) true (yes (alg4 _ _ _)) rfl rfl (by first | exact S19 | exact (S19).alloc _ | exact ((S19).alloc _).alloc _ | exact (((S19).alloc _).alloc _).alloc _) (by first | exact S21 | exact (S21).alloc _ | exact ((S21).alloc _).alloc _ | exact (((S21).alloc _).alloc _).alloc _) (nrm_lt _)).mono ?_
  rintro e w21 ⟨rfl, B⟩
  have X : Below w20.heap.size w20 w21 := by first | exact B | exact ext_trans (ext_alloc (ext_refl _) _) B | exact ext_trans (ext_alloc (ext_alloc (ext_refl _) _) _) B | exact ext_trans (ext_alloc (ext_alloc (ext_alloc (ext_refl _) _) _) _) B | exact ext_trans (ext_alloc (ext_alloc (ext_alloc (ext_alloc (ext_refl _) _) _) _) _) B
  have Ew21 := ext_trans Ew20 X
  replace ha := ha.ext X
  replace hb := hb.ext X
  replace hd := hd.ext X
  replace S9 := S9.ext X
  clear X B Ew20 S19 S21
  go_wp2_with fail
  refine (union_at (k := (nrm (un (b) (d))).length) (a := b) (b := d) (nrm (un (b) (d))) rfl rfl rfl (by first | exact hb | exact (hb).alloc _ | exact ((hb).alloc _).alloc _ | exact (((hb).alloc _).alloc _).alloc _) (by first | exact hd | exact (hd).alloc _ | exact ((hd).alloc _).alloc _ | exact (((hd).alloc _).alloc _).alloc _) nb nd rfl).mono ?_
  rintro e w22 ⟨AS22, cS22, rfl, S22, B⟩
  have X : Below w21.heap.size w21 w22 := by first | exact B | exact ext_trans (ext_alloc (ext_refl _) _) B | exact ext_trans (ext_alloc (ext_alloc (ext_refl _) _) _) B | exact ext_trans (ext_alloc (ext_alloc (ext_alloc (ext_refl _) _) _) _) B | exact ext_trans (ext_alloc (ext_alloc (ext_alloc (ext_alloc (ext_refl _) _) _) _) _) B
  have Ew22 := ext_trans Ew21 X
  replace ha := ha.ext X
  replace hb := hb.ext X
  replace hd := hd.ext X
  replace S9 := S9.ext X
  clear X B Ew21
  go_wp2_with fail
  refine (meet_at (k := (nrm (me (a) (nrm (un (b) (d))))).length) (a := a) (b := nrm (un (b) (d))) (nrm (me (a) (nrm (un (b) (d))))) rfl rfl rfl (by first | exact ha | exact (ha).alloc _ | exact ((ha).alloc _).alloc _ | exact (((ha).alloc _).alloc _).alloc _) (by first | exact S22 | exact (S22).alloc _ | exact ((S22).alloc _).alloc _ | exact (((S22).alloc _).alloc _).alloc _) na (nrm_lt _) rfl).mono ?_
  rintro e w23 ⟨AS23, cS23, rfl, S23, B⟩
  have X : Below w22.heap.size w22 w23 := by first | exact B | exact ext_trans (ext_alloc (ext_refl _) _) B | exact ext_trans (ext_alloc (ext_alloc (ext_refl _) _) _) B | exact ext_trans (ext_alloc (ext_alloc (ext_alloc (ext_refl _) _) _) _) B | exact ext_trans (ext_alloc (ext_alloc (ext_alloc (ext_alloc (ext_refl _) _) _) _) _) B
  have Ew23 := ext_trans Ew22 X
  replace ha := ha.ext X
  replace hb := hb.ext X
  replace hd := hd.ext X
  replace S9 := S9.ext X
  clear X B Ew22 S22
  go_wp2_with fail
  refine (meet_at (k := (nrm (me (a) (b))).length) (a := a) (b := b) (nrm (me (a) (b))) rfl rfl rfl (by first | exact ha | exact (ha).alloc _ | exact ((ha).alloc _).alloc _ | exact (((ha).alloc _).alloc _).alloc _) (by first | exact hb | exact (hb).alloc _ | exact ((hb).alloc _).alloc _ | exact (((hb).alloc _).alloc _).alloc _) na nb rfl).mono ?_
  rintro e w24 ⟨AS24, cS24, rfl, S24, B⟩
  have X : Below w23.heap.size w23 w24 := by first | exact B | exact ext_trans (ext_alloc (ext_refl _) _) B | exact ext_trans (ext_alloc (ext_alloc (ext_refl _) _) _) B | exact ext_trans (ext_alloc (ext_alloc (ext_alloc (ext_refl _) _) _) _) B | exact ext_trans (ext_alloc (ext_alloc (ext_alloc (ext_alloc (ext_refl _) _) _) _) _) B
  have Ew24 := ext_trans Ew23 X
  replace ha := ha.ext X
  replace hb := hb.ext X
  replace hd := hd.ext X
  replace S9 := S9.ext X
  replace S23 := S23.ext X
  clear X B Ew23
  go_wp2_with fail
  refine (meet_at (k := (nrm (me (a) (d))).length) (a := a) (b := d) (nrm (me (a) (d))) rfl rfl rfl (by first | exact ha | exact (ha).alloc _ | exact ((ha).alloc _).alloc _ | exact (((ha).alloc _).alloc _).alloc _) (by first | exact hd | exact (hd).alloc _ | exact ((hd).alloc _).alloc _ | exact (((hd).alloc _).alloc _).alloc _) na nd rfl).mono ?_
  rintro e w25 ⟨AS25, cS25, rfl, S25, B⟩
  have X : Below w24.heap.size w24 w25 := by first | exact B | exact ext_trans (ext_alloc (ext_refl _) _) B | exact ext_trans (ext_alloc (ext_alloc (ext_refl _) _) _) B | exact ext_trans (ext_alloc (ext_alloc (ext_alloc (ext_refl _) _) _) _) B | exact ext_trans (ext_alloc (ext_alloc (ext_alloc (ext_alloc (ext_refl _) _) _) _) _) B
  have Ew25 := ext_trans Ew24 X
  replace ha := ha.ext X
  replace hb := hb.ext X
  replace hd := hd.ext X
  replace S9 := S9.ext X
  replace S23 := S23.ext X
  replace S24 := S24.ext X
  clear X B Ew24
  go_wp2_with fail
  refine (union_at (k := (nrm (un (nrm (me (a) (b))) (nrm (me (a) (d))))).length) (a := nrm (me (a) (b))) (b := nrm (me (a) (d))) (nrm (un (nrm (me (a) (b))) (nrm (me (a) (d))))) rfl rfl rfl (by first | exact S24 | exact (S24).alloc _ | exact ((S24).alloc _).alloc _ | exact (((S24).alloc _).alloc _).alloc _) (by first | exact S25 | exact (S25).alloc _ | exact ((S25).alloc _).alloc _ | exact (((S25).alloc _).alloc _).alloc _) (nrm_lt _) (nrm_lt _) rfl).mono ?_
  rintro e w26 ⟨AS26, cS26, rfl, S26, B⟩
  have X : Below w25.heap.size w25 w26 := by first | exact B | exact ext_trans (ext_alloc (ext_refl _) _) B | exact ext_trans (ext_alloc (ext_alloc (ext_refl _) _) _) B | exact ext_trans (ext_alloc (ext_alloc (ext_alloc (ext_refl _) _) _) _) B | exact ext_trans (ext_alloc (ext_alloc (ext_alloc (ext_alloc (ext_refl _) _) _) _) _) B
  have Ew26 := ext_trans Ew25 X
  replace ha := ha.ext X
  replace hb := hb.ext X
  replace hd := hd.ext X
  replace S9 := S9.ext X
  replace S23 := S23.ext X
  clear X B Ew25 S24 S25
  go_wp2_with fail
  refine (sameSp (a := nrm (me (a) (nrm (un (b) (d))))) (b := nrm (un (nrm (me (a) (b))) (nrm (me (a) (d))))) true (yes (alg5 _ _ _)) rfl rfl (by first | exact S23 | exact (S23).alloc _ | exact ((S23).alloc _).alloc _ | exact (((S23).alloc _).alloc _).alloc _) (by first | exact S26 | exact (S26).alloc _ | exact ((S26).alloc _).alloc _ | exact (((S26).alloc _).alloc _).alloc _) (nrm_lt _)).mono ?_
  rintro e w27 ⟨rfl, B⟩
  have X : Below w26.heap.size w26 w27 := by first | exact B | exact ext_trans (ext_alloc (ext_refl _) _) B | exact ext_trans (ext_alloc (ext_alloc (ext_refl _) _) _) B | exact ext_trans (ext_alloc (ext_alloc (ext_alloc (ext_refl _) _) _) _) B | exact ext_trans (ext_alloc (ext_alloc (ext_alloc (ext_alloc (ext_refl _) _) _) _) _) B
  have Ew27 := ext_trans Ew26 X
  replace ha := ha.ext X
  replace hb := hb.ext X
  replace hd := hd.ext X
  replace S9 := S9.ext X
  clear X B Ew26 S23 S26
  go_wp2_with fail
  refine (union_at (k := (nrm (un (a) (a))).length) (a := a) (b := a) (nrm (un (a) (a))) rfl rfl rfl (by first | exact ha | exact (ha).alloc _ | exact ((ha).alloc _).alloc _ | exact (((ha).alloc _).alloc _).alloc _) (by first | exact ha | exact (ha).alloc _ | exact ((ha).alloc _).alloc _ | exact (((ha).alloc _).alloc _).alloc _) na na rfl).mono ?_
  rintro e w28 ⟨AS27, cS27, rfl, S27, B⟩
  have X : Below w27.heap.size w27 w28 := by first | exact B | exact ext_trans (ext_alloc (ext_refl _) _) B | exact ext_trans (ext_alloc (ext_alloc (ext_refl _) _) _) B | exact ext_trans (ext_alloc (ext_alloc (ext_alloc (ext_refl _) _) _) _) B | exact ext_trans (ext_alloc (ext_alloc (ext_alloc (ext_alloc (ext_refl _) _) _) _) _) B
  have Ew28 := ext_trans Ew27 X
  replace ha := ha.ext X
  replace hb := hb.ext X
  replace hd := hd.ext X
  replace S9 := S9.ext X
  clear X B Ew27
  go_wp2_with fail
  refine (sameSp (a := nrm (un (a) (a))) (b := nor (a)) true (yes (alg6 _)) rfl rfl (by first | exact S27 | exact (S27).alloc _ | exact ((S27).alloc _).alloc _ | exact (((S27).alloc _).alloc _).alloc _) (by first | exact S9 | exact (S9).alloc _ | exact ((S9).alloc _).alloc _ | exact (((S9).alloc _).alloc _).alloc _) (nrm_lt _)).mono ?_
  rintro e w29 ⟨rfl, B⟩
  have X : Below w28.heap.size w28 w29 := by first | exact B | exact ext_trans (ext_alloc (ext_refl _) _) B | exact ext_trans (ext_alloc (ext_alloc (ext_refl _) _) _) B | exact ext_trans (ext_alloc (ext_alloc (ext_alloc (ext_refl _) _) _) _) B | exact ext_trans (ext_alloc (ext_alloc (ext_alloc (ext_alloc (ext_refl _) _) _) _) _) B
  have Ew29 := ext_trans Ew28 X
  replace ha := ha.ext X
  replace hb := hb.ext X
  replace hd := hd.ext X
  replace S9 := S9.ext X
  clear X B Ew28 S27
  go_wp2_with fail
  refine (meet_at (k := (nrm (me (a) (a))).length) (a := a) (b := a) (nrm (me (a) (a))) rfl rfl rfl (by first | exact ha | exact (ha).alloc _ | exact ((ha).alloc _).alloc _ | exact (((ha).alloc _).alloc _).alloc _) (by first | exact ha | exact (ha).alloc _ | exact ((ha).alloc _).alloc _ | exact (((ha).alloc _).alloc _).alloc _) na na rfl).mono ?_
  rintro e w30 ⟨AS28, cS28, rfl, S28, B⟩
  have X : Below w29.heap.size w29 w30 := by first | exact B | exact ext_trans (ext_alloc (ext_refl _) _) B | exact ext_trans (ext_alloc (ext_alloc (ext_refl _) _) _) B | exact ext_trans (ext_alloc (ext_alloc (ext_alloc (ext_refl _) _) _) _) B | exact ext_trans (ext_alloc (ext_alloc (ext_alloc (ext_alloc (ext_refl _) _) _) _) _) B
  have Ew30 := ext_trans Ew29 X
  replace ha := ha.ext X
  replace hb := hb.ext X
  replace hd := hd.ext X
  replace S9 := S9.ext X
  clear X B Ew29
  go_wp2_with fail
  refine (sameSp (a := nrm (me (a) (a))) (b := nor (a)) true (yes (alg7 _)) rfl rfl (by first | exact S28 | exact (S28).alloc _ | exact ((S28).alloc _).alloc _ | exact (((S28).alloc _).alloc _).alloc _) (by first | exact S9 | exact (S9).alloc _ | exact ((S9).alloc _).alloc _ | exact (((S9).alloc _).alloc _).alloc _) (nrm_lt _)).mono ?_
  rintro e w31 ⟨rfl, B⟩
  have X : Below w30.heap.size w30 w31 := by first | exact B | exact ext_trans (ext_alloc (ext_refl _) _) B | exact ext_trans (ext_alloc (ext_alloc (ext_refl _) _) _) B | exact ext_trans (ext_alloc (ext_alloc (ext_alloc (ext_refl _) _) _) _) B | exact ext_trans (ext_alloc (ext_alloc (ext_alloc (ext_alloc (ext_refl _) _) _) _) _) B
  have Ew31 := ext_trans Ew30 X
  replace ha := ha.ext X
  replace hb := hb.ext X
  replace hd := hd.ext X
  replace S9 := S9.ext X
  clear X B Ew30 S28
  go_wp2_with fail
  refine (normal_at (k := (nor (nor (a))).length) (a := nor (a)) (nor (nor (a))) rfl rfl (by first | exact S9 | exact (S9).alloc _ | exact ((S9).alloc _).alloc _ | exact (((S9).alloc _).alloc _).alloc _) (nrm_lt _) rfl).mono ?_
  rintro e w32 ⟨AS29, cS29, rfl, S29, B⟩
  have X : Below w31.heap.size w31 w32 := by first | exact B | exact ext_trans (ext_alloc (ext_refl _) _) B | exact ext_trans (ext_alloc (ext_alloc (ext_refl _) _) _) B | exact ext_trans (ext_alloc (ext_alloc (ext_alloc (ext_refl _) _) _) _) B | exact ext_trans (ext_alloc (ext_alloc (ext_alloc (ext_alloc (ext_refl _) _) _) _) _) B
  have Ew32 := ext_trans Ew31 X
  replace ha := ha.ext X
  replace hb := hb.ext X
  replace hd := hd.ext X
  replace S9 := S9.ext X
  clear X B Ew31
  go_wp2_with fail
  refine (sameSp (a := nor (nor (a))) (b := nor (a)) true (yes (alg8 _)) rfl rfl (by first | exact S29 | exact (S29).alloc _ | exact ((S29).alloc _).alloc _ | exact (((S29).alloc _).alloc _).alloc _) (by first | exact S9 | exact (S9).alloc _ | exact ((S9).alloc _).alloc _ | exact (((S9).alloc _).alloc _).alloc _) (nrm_lt _)).mono ?_
  rintro e w33 ⟨rfl, B⟩
  have X : Below w32.heap.size w32 w33 := by first | exact B | exact ext_trans (ext_alloc (ext_refl _) _) B | exact ext_trans (ext_alloc (ext_alloc (ext_refl _) _) _) B | exact ext_trans (ext_alloc (ext_alloc (ext_alloc (ext_refl _) _) _) _) B | exact ext_trans (ext_alloc (ext_alloc (ext_alloc (ext_alloc (ext_refl _) _) _) _) _) B
  have Ew33 := ext_trans Ew32 X
  replace ha := ha.ext X
  replace hb := hb.ext X
  replace hd := hd.ext X
  clear X B Ew32 S9 S29
  go_wp2_with fail
  refine (union_at (k := (nrm (un (b) (d))).length) (a := b) (b := d) (nrm (un (b) (d))) rfl rfl rfl (by first | exact hb | exact (hb).alloc _ | exact ((hb).alloc _).alloc _ | exact (((hb).alloc _).alloc _).alloc _) (by first | exact hd | exact (hd).alloc _ | exact ((hd).alloc _).alloc _ | exact (((hd).alloc _).alloc _).alloc _) nb nd rfl).mono ?_
  rintro e w34 ⟨AS30, cS30, rfl, S30, B⟩
  have X : Below w33.heap.size w33 w34 := by first | exact B | exact ext_trans (ext_alloc (ext_refl _) _) B | exact ext_trans (ext_alloc (ext_alloc (ext_refl _) _) _) B | exact ext_trans (ext_alloc (ext_alloc (ext_alloc (ext_refl _) _) _) _) B | exact ext_trans (ext_alloc (ext_alloc (ext_alloc (ext_alloc (ext_refl _) _) _) _) _) B
  have Ew34 := ext_trans Ew33 X
  replace ha := ha.ext X
  replace hb := hb.ext X
  replace hd := hd.ext X
  clear X B Ew33
  go_wp2_with fail
  refine (minus_at (k := (nrm (mi (a) (nrm (un (b) (d))))).length) (a := a) (b := nrm (un (b) (d))) (nrm (mi (a) (nrm (un (b) (d))))) rfl rfl rfl (by first | exact ha | exact (ha).alloc _ | exact ((ha).alloc _).alloc _ | exact (((ha).alloc _).alloc _).alloc _) (by first | exact S30 | exact (S30).alloc _ | exact ((S30).alloc _).alloc _ | exact (((S30).alloc _).alloc _).alloc _) na (nrm_lt _) rfl).mono ?_
  rintro e w35 ⟨AS31, cS31, rfl, S31, B⟩
  have X : Below w34.heap.size w34 w35 := by first | exact B | exact ext_trans (ext_alloc (ext_refl _) _) B | exact ext_trans (ext_alloc (ext_alloc (ext_refl _) _) _) B | exact ext_trans (ext_alloc (ext_alloc (ext_alloc (ext_refl _) _) _) _) B | exact ext_trans (ext_alloc (ext_alloc (ext_alloc (ext_alloc (ext_refl _) _) _) _) _) B
  have Ew35 := ext_trans Ew34 X
  replace ha := ha.ext X
  replace hb := hb.ext X
  replace hd := hd.ext X
  clear X B Ew34 S30
  go_wp2_with fail
  refine (minus_at (k := (nrm (mi (a) (b))).length) (a := a) (b := b) (nrm (mi (a) (b))) rfl rfl rfl (by first | exact ha | exact (ha).alloc _ | exact ((ha).alloc _).alloc _ | exact (((ha).alloc _).alloc _).alloc _) (by first | exact hb | exact (hb).alloc _ | exact ((hb).alloc _).alloc _ | exact (((hb).alloc _).alloc _).alloc _) na nb rfl).mono ?_
  rintro e w36 ⟨AS32, cS32, rfl, S32, B⟩
  have X : Below w35.heap.size w35 w36 := by first | exact B | exact ext_trans (ext_alloc (ext_refl _) _) B | exact ext_trans (ext_alloc (ext_alloc (ext_refl _) _) _) B | exact ext_trans (ext_alloc (ext_alloc (ext_alloc (ext_refl _) _) _) _) B | exact ext_trans (ext_alloc (ext_alloc (ext_alloc (ext_alloc (ext_refl _) _) _) _) _) B
  have Ew36 := ext_trans Ew35 X
  replace ha := ha.ext X
  replace hd := hd.ext X
  replace S31 := S31.ext X
  clear X B Ew35 hb
  go_wp2_with fail
  refine (minus_at (k := (nrm (mi (nrm (mi (a) (b))) (d))).length) (a := nrm (mi (a) (b))) (b := d) (nrm (mi (nrm (mi (a) (b))) (d))) rfl rfl rfl (by first | exact S32 | exact (S32).alloc _ | exact ((S32).alloc _).alloc _ | exact (((S32).alloc _).alloc _).alloc _) (by first | exact hd | exact (hd).alloc _ | exact ((hd).alloc _).alloc _ | exact (((hd).alloc _).alloc _).alloc _) (nrm_lt _) nd rfl).mono ?_
  rintro e w37 ⟨AS33, cS33, rfl, S33, B⟩
  have X : Below w36.heap.size w36 w37 := by first | exact B | exact ext_trans (ext_alloc (ext_refl _) _) B | exact ext_trans (ext_alloc (ext_alloc (ext_refl _) _) _) B | exact ext_trans (ext_alloc (ext_alloc (ext_alloc (ext_refl _) _) _) _) B | exact ext_trans (ext_alloc (ext_alloc (ext_alloc (ext_alloc (ext_refl _) _) _) _) _) B
  have Ew37 := ext_trans Ew36 X
  replace ha := ha.ext X
  replace S31 := S31.ext X
  clear X B Ew36 hd S32
  go_wp2_with fail
  refine (sameSp (a := nrm (mi (a) (nrm (un (b) (d))))) (b := nrm (mi (nrm (mi (a) (b))) (d))) true (yes (alg9 _ _ _)) rfl rfl (by first | exact S31 | exact (S31).alloc _ | exact ((S31).alloc _).alloc _ | exact (((S31).alloc _).alloc _).alloc _) (by first | exact S33 | exact (S33).alloc _ | exact ((S33).alloc _).alloc _ | exact (((S33).alloc _).alloc _).alloc _) (nrm_lt _)).mono ?_
  rintro e w38 ⟨rfl, B⟩
  have X : Below w37.heap.size w37 w38 := by first | exact B | exact ext_trans (ext_alloc (ext_refl _) _) B | exact ext_trans (ext_alloc (ext_alloc (ext_refl _) _) _) B | exact ext_trans (ext_alloc (ext_alloc (ext_alloc (ext_refl _) _) _) _) B | exact ext_trans (ext_alloc (ext_alloc (ext_alloc (ext_alloc (ext_refl _) _) _) _) _) B
  have Ew38 := ext_trans Ew37 X
  replace ha := ha.ext X
  clear X B Ew37 S31 S33
  go_wp2_with fail
  refine (minus_at (k := ([]).length) (a := a) (b := a) ([]) (alg10 _) rfl rfl (by first | exact ha | exact (ha).alloc _ | exact ((ha).alloc _).alloc _ | exact (((ha).alloc _).alloc _).alloc _) (by first | exact ha | exact (ha).alloc _ | exact ((ha).alloc _).alloc _ | exact (((ha).alloc _).alloc _).alloc _) na na rfl).mono ?_
  rintro e w39 ⟨AS34, cS34, rfl, S34, B⟩
  have X : Below w38.heap.size w38 w39 := by first | exact B | exact ext_trans (ext_alloc (ext_refl _) _) B | exact ext_trans (ext_alloc (ext_alloc (ext_refl _) _) _) B | exact ext_trans (ext_alloc (ext_alloc (ext_alloc (ext_refl _) _) _) _) B | exact ext_trans (ext_alloc (ext_alloc (ext_alloc (ext_alloc (ext_refl _) _) _) _) _) B
  have Ew39 := ext_trans Ew38 X
  clear X B Ew38 ha
  clear S34
  go_wp2_with fail
  go_ret
  exact ⟨rfl, Ew39⟩
set_option maxHeartbeats 8000000 in
set_option maxRecDepth 100000 in
theorem law8 (Aa : Option Addr) (ca : Nat) (a : List Sp) (Ab : Option Addr) (cb : Nat) (b : List Sp)  (w : World) (ha : Slc w Sp.cells 2 Aa a) (la : a.length ≤ maxLen) (hb : Slc w Sp.cells 2 Ab b) (lb : b.length ≤ maxLen) : Calls Try.prog 8 #[.slice Aa a.length ca, .slice Ab b.length cb] w (Tru w) := by
  by_cases fa : a.length ≤ 40
  rotate_left
  · go_enter Try.func8, Try.ntmps8
    go_wp2_with fail
    refine (sane_any _).mono ?_
    rintro e w1 ⟨rfl, B⟩
    have X : Below w.heap.size w w1 := by first | exact B | exact ext_trans (ext_alloc (ext_refl _) _) B | exact ext_trans (ext_alloc (ext_alloc (ext_refl _) _) _) B | exact ext_trans (ext_alloc (ext_alloc (ext_alloc (ext_refl _) _) _) _) B | exact ext_trans (ext_alloc (ext_alloc (ext_alloc (ext_alloc (ext_refl _) _) _) _) _) B
    have Ew1 := ext_trans (ext_refl w) X
    clear X B
    go_wp2_with fail
    refine (few_at (a := a) false (by simpa using fa) rfl la).mono ?_
    rintro e w2 ⟨rfl, B⟩
    have X : Below w1.heap.size w1 w2 := by first | exact B | exact ext_trans (ext_alloc (ext_refl _) _) B | exact ext_trans (ext_alloc (ext_alloc (ext_refl _) _) _) B | exact ext_trans (ext_alloc (ext_alloc (ext_alloc (ext_refl _) _) _) _) B | exact ext_trans (ext_alloc (ext_alloc (ext_alloc (ext_alloc (ext_refl _) _) _) _) _) B
    have Ew2 := ext_trans Ew1 X
    clear X B Ew1
    go_wp2_with fail
    go_ret
    exact ⟨rfl, Ew2⟩
  by_cases fb : b.length ≤ 40
  rotate_left
  · go_enter Try.func8, Try.ntmps8
    go_wp2_with fail
    refine (sane_any _).mono ?_
    rintro e w1 ⟨rfl, B⟩
    have X : Below w.heap.size w w1 := by first | exact B | exact ext_trans (ext_alloc (ext_refl _) _) B | exact ext_trans (ext_alloc (ext_alloc (ext_refl _) _) _) B | exact ext_trans (ext_alloc (ext_alloc (ext_alloc (ext_refl _) _) _) _) B | exact ext_trans (ext_alloc (ext_alloc (ext_alloc (ext_alloc (ext_refl _) _) _) _) _) B
    have Ew1 := ext_trans (ext_refl w) X
    clear X B
    go_wp2_with fail
    refine (few_at (a := a) true (by simpa using fa) rfl la).mono ?_
    rintro e w2 ⟨rfl, B⟩
    have X : Below w1.heap.size w1 w2 := by first | exact B | exact ext_trans (ext_alloc (ext_refl _) _) B | exact ext_trans (ext_alloc (ext_alloc (ext_refl _) _) _) B | exact ext_trans (ext_alloc (ext_alloc (ext_alloc (ext_refl _) _) _) _) B | exact ext_trans (ext_alloc (ext_alloc (ext_alloc (ext_alloc (ext_refl _) _) _) _) _) B
    have Ew2 := ext_trans Ew1 X
    clear X B Ew1
    go_wp2_with fail
    refine (few_at (a := b) false (by simpa using fb) rfl lb).mono ?_
    rintro e w3 ⟨rfl, B⟩
    have X : Below w2.heap.size w2 w3 := by first | exact B | exact ext_trans (ext_alloc (ext_refl _) _) B | exact ext_trans (ext_alloc (ext_alloc (ext_refl _) _) _) B | exact ext_trans (ext_alloc (ext_alloc (ext_alloc (ext_refl _) _) _) _) B | exact ext_trans (ext_alloc (ext_alloc (ext_alloc (ext_alloc (ext_refl _) _) _) _) _) B
    have Ew3 := ext_trans Ew2 X
    clear X B Ew2
    go_wp2_with fail
    go_ret
    exact ⟨rfl, Ew3⟩
  have na : a.length < 1000000 := by omega
  have nb : b.length < 1000000 := by omega
  go_enter Try.func8, Try.ntmps8
  go_wp2_with fail
  refine (sane_any _).mono ?_
  rintro e w1 ⟨rfl, B⟩
  have X : Below w.heap.size w w1 := by first | exact B | exact ext_trans (ext_alloc (ext_refl _) _) B | exact ext_trans (ext_alloc (ext_alloc (ext_refl _) _) _) B | exact ext_trans (ext_alloc (ext_alloc (ext_alloc (ext_refl _) _) _) _) B | exact ext_trans (ext_alloc (ext_alloc (ext_alloc (ext_alloc (ext_refl _) _) _) _) _) B
  have Ew1 := ext_trans (ext_refl w) X
  clear X B
  go_wp2_with fail
  refine (few_at (a := a) true (by simpa using fa) rfl la).mono ?_
  rintro e w2 ⟨rfl, B⟩
  have X : Below w1.heap.size w1 w2 := by first | exact B | exact ext_trans (ext_alloc (ext_refl _) _) B | exact ext_trans (ext_alloc (ext_alloc (ext_refl _) _) _) B | exact ext_trans (ext_alloc (ext_alloc (ext_alloc (ext_refl _) _) _) _) B | exact ext_trans (ext_alloc (ext_alloc (ext_alloc (ext_alloc (ext_refl _) _) _) _) _) B
  have Ew2 := ext_trans Ew1 X
  clear X B Ew1
  go_wp2_with fail
  refine (few_at (a := b) true (by simpa using fb) rfl lb).mono ?_
  rintro e w3 ⟨rfl, B⟩
  have X : Below w2.heap.size w2 w3 := by first | exact B | exact ext_trans (ext_alloc (ext_refl _) _) B | exact ext_trans (ext_alloc (ext_alloc (ext_refl _) _) _) B | exact ext_trans (ext_alloc (ext_alloc (ext_alloc (ext_refl _) _) _) _) B | exact ext_trans (ext_alloc (ext_alloc (ext_alloc (ext_alloc (ext_refl _) _) _) _) _) B
  have Ew3 := ext_trans Ew2 X
  clear X B Ew2
  clear fa la
  clear fb lb
  replace ha := ha.ext Ew3
  replace hb := hb.ext Ew3
  go_wp2_with fail
  refine (minus_at (k := (nrm (mi (a) (b))).length) (a := a) (b := b) (nrm (mi (a) (b))) rfl rfl rfl (by first | exact ha | exact (ha).alloc _ | exact ((ha).alloc _).alloc _ | exact (((ha).alloc _).alloc _).alloc _) (by first | exact hb | exact (hb).alloc _ | exact ((hb).alloc _).alloc _ | exact (((hb).alloc _).alloc _).alloc _) na nb rfl).mono ?_
  rintro e w4 ⟨AS35, cS35, rfl, S35, B⟩
  have X : Below w3.heap.size w3 w4 := by first | exact B | exact ext_trans (ext_alloc (ext_refl _) _) B | exact ext_trans (ext_alloc (ext_alloc (ext_refl _) _) _) B | exact ext_trans (ext_alloc (ext_alloc (ext_alloc (ext_refl _) _) _) _) B | exact ext_trans (ext_alloc (ext_alloc (ext_alloc (ext_alloc (ext_refl _) _) _) _) _) B
  have Ew4 := ext_trans Ew3 X
  replace ha := ha.ext X
  replace hb := hb.ext X
  clear X B Ew3
  go_wp2_with fail
  refine (meet_at (k := (nrm (me (a) (b))).length) (a := a) (b := b) (nrm (me (a) (b))) rfl rfl rfl (by first | exact ha | exact (ha).alloc _ | exact ((ha).alloc _).alloc _ | exact (((ha).alloc _).alloc _).alloc _) (by first | exact hb | exact (hb).alloc _ | exact ((hb).alloc _).alloc _ | exact (((hb).alloc _).alloc _).alloc _) na nb rfl).mono ?_
  rintro e w5 ⟨AS36, cS36, rfl, S36, B⟩
  have X : Below w4.heap.size w4 w5 := by first | exact B | exact ext_trans (ext_alloc (ext_refl _) _) B | exact ext_trans (ext_alloc (ext_alloc (ext_refl _) _) _) B | exact ext_trans (ext_alloc (ext_alloc (ext_alloc (ext_refl _) _) _) _) B | exact ext_trans (ext_alloc (ext_alloc (ext_alloc (ext_alloc (ext_refl _) _) _) _) _) B
  have Ew5 := ext_trans Ew4 X
  replace ha := ha.ext X
  replace hb := hb.ext X
  replace S35 := S35.ext X
  clear X B Ew4
  go_wp2_with fail
  refine (meet_at (k := ([]).length) (a := nrm (mi (a) (b))) (b := nrm (me (a) (b))) ([]) (div1 _ _) rfl rfl (by first | exact S35 | exact (S35).alloc _ | exact ((S35).alloc _).alloc _ | exact (((S35).alloc _).alloc _).alloc _) (by first | exact S36 | exact (S36).alloc _ | exact ((S36).alloc _).alloc _ | exact (((S36).alloc _).alloc _).alloc _) (nrm_lt _) (nrm_lt _) rfl).mono ?_
  rintro e w6 ⟨AS37, cS37, rfl, S37, B⟩
  have X : Below w5.heap.size w5 w6 := by first | exact B | exact ext_trans (ext_alloc (ext_refl _) _) B | exact ext_trans (ext_alloc (ext_alloc (ext_refl _) _) _) B | exact ext_trans (ext_alloc (ext_alloc (ext_alloc (ext_refl _) _) _) _) B | exact ext_trans (ext_alloc (ext_alloc (ext_alloc (ext_alloc (ext_refl _) _) _) _) _) B
  have Ew6 := ext_trans Ew5 X
  replace ha := ha.ext X
  replace hb := hb.ext X
  replace S35 := S35.ext X
  replace S36 := S36.ext X
  clear X B Ew5
  clear S37
  go_wp2_with fail
  refine (meet_at (k := ([]).length) (a := nrm (mi (a) (b))) (b := b) ([]) (div2 _ _) rfl rfl (by first | exact S35 | exact (S35).alloc _ | exact ((S35).alloc _).alloc _ | exact (((S35).alloc _).alloc _).alloc _) (by first | exact hb | exact (hb).alloc _ | exact ((hb).alloc _).alloc _ | exact (((hb).alloc _).alloc _).alloc _) (nrm_lt _) nb rfl).mono ?_
  rintro e w7 ⟨AS38, cS38, rfl, S38, B⟩
  have X : Below w6.heap.size w6 w7 := by first | exact B | exact ext_trans (ext_alloc (ext_refl _) _) B | exact ext_trans (ext_alloc (ext_alloc (ext_refl _) _) _) B | exact ext_trans (ext_alloc (ext_alloc (ext_alloc (ext_refl _) _) _) _) B | exact ext_trans (ext_alloc (ext_alloc (ext_alloc (ext_alloc (ext_refl _) _) _) _) _) B
  have Ew7 := ext_trans Ew6 X
  replace ha := ha.ext X
  replace hb := hb.ext X
  replace S35 := S35.ext X
  replace S36 := S36.ext X
  clear X B Ew6
  clear S38
  go_wp2_with fail
  refine (union_at (k := (nrm (un (nrm (mi (a) (b))) (nrm (me (a) (b))))).length) (a := nrm (mi (a) (b))) (b := nrm (me (a) (b))) (nrm (un (nrm (mi (a) (b))) (nrm (me (a) (b))))) rfl rfl rfl (by first | exact S35 | exact (S35).alloc _ | exact ((S35).alloc _).alloc _ | exact (((S35).alloc _).alloc _).alloc _) (by first | exact S36 | exact (S36).alloc _ | exact ((S36).alloc _).alloc _ | exact (((S36).alloc _).alloc _).alloc _) (nrm_lt _) (nrm_lt _) rfl).mono ?_
  rintro e w8 ⟨AS39, cS39, rfl, S39, B⟩
  have X : Below w7.heap.size w7 w8 := by first | exact B | exact ext_trans (ext_alloc (ext_refl _) _) B | exact ext_trans (ext_alloc (ext_alloc (ext_refl _) _) _) B | exact ext_trans (ext_alloc (ext_alloc (ext_alloc (ext_refl _) _) _) _) B | exact ext_trans (ext_alloc (ext_alloc (ext_alloc (ext_alloc (ext_refl _) _) _) _) _) B
  have Ew8 := ext_trans Ew7 X
  replace ha := ha.ext X
  replace hb := hb.ext X
  replace S35 := S35.ext X
  clear X B Ew7 S36
  go_wp2_with fail
  refine (normal_at (k := (nor (a)).length) (a := a) (nor (a)) rfl rfl (by first | exact ha | exact (ha).alloc _ | exact ((ha).alloc _).alloc _ | exact (((ha).alloc _).alloc _).alloc _) na rfl).mono ?_
  rintro e w9 ⟨AS40, cS40, rfl, S40, B⟩
  have X : Below w8.heap.size w8 w9 := by first | exact B | exact ext_trans (ext_alloc (ext_refl _) _) B | exact ext_trans (ext_alloc (ext_alloc (ext_refl _) _) _) B | exact ext_trans (ext_alloc (ext_alloc (ext_alloc (ext_refl _) _) _) _) B | exact ext_trans (ext_alloc (ext_alloc (ext_alloc (ext_alloc (ext_refl _) _) _) _) _) B
  have Ew9 := ext_trans Ew8 X
  replace ha := ha.ext X
  replace hb := hb.ext X
  replace S35 := S35.ext X
  replace S39 := S39.ext X
  clear X B Ew8
  go_wp2_with fail
  refine (sameSp (a := nrm (un (nrm (mi (a) (b))) (nrm (me (a) (b))))) (b := nor (a)) true (yes (div3 _ _)) rfl rfl (by first | exact S39 | exact (S39).alloc _ | exact ((S39).alloc _).alloc _ | exact (((S39).alloc _).alloc _).alloc _) (by first | exact S40 | exact (S40).alloc _ | exact ((S40).alloc _).alloc _ | exact (((S40).alloc _).alloc _).alloc _) (nrm_lt _)).mono ?_
  rintro e w10 ⟨rfl, B⟩
  have X : Below w9.heap.size w9 w10 := by first | exact B | exact ext_trans (ext_alloc (ext_refl _) _) B | exact ext_trans (ext_alloc (ext_alloc (ext_refl _) _) _) B | exact ext_trans (ext_alloc (ext_alloc (ext_alloc (ext_refl _) _) _) _) B | exact ext_trans (ext_alloc (ext_alloc (ext_alloc (ext_alloc (ext_refl _) _) _) _) _) B
  have Ew10 := ext_trans Ew9 X
  replace ha := ha.ext X
  replace hb := hb.ext X
  replace S35 := S35.ext X
  clear X B Ew9 S39 S40
  go_wp2_with fail
  refine (union_at (k := (nrm (un (nrm (mi (a) (b))) (b))).length) (a := nrm (mi (a) (b))) (b := b) (nrm (un (nrm (mi (a) (b))) (b))) rfl rfl rfl (by first | exact S35 | exact (S35).alloc _ | exact ((S35).alloc _).alloc _ | exact (((S35).alloc _).alloc _).alloc _) (by first | exact hb | exact (hb).alloc _ | exact ((hb).alloc _).alloc _ | exact (((hb).alloc _).alloc _).alloc _) (nrm_lt _) nb rfl).mono ?_
  rintro e w11 ⟨AS41, cS41, rfl, S41, B⟩
  have X : Below w10.heap.size w10 w11 := by first | exact B | exact ext_trans (ext_alloc (ext_refl _) _) B | exact ext_trans (ext_alloc (ext_alloc (ext_refl _) _) _) B | exact ext_trans (ext_alloc (ext_alloc (ext_alloc (ext_refl _) _) _) _) B | exact ext_trans (ext_alloc (ext_alloc (ext_alloc (ext_alloc (ext_refl _) _) _) _) _) B
  have Ew11 := ext_trans Ew10 X
  replace ha := ha.ext X
  replace hb := hb.ext X
  clear X B Ew10 S35
  go_wp2_with fail
  refine (union_at (k := (nrm (un (a) (b))).length) (a := a) (b := b) (nrm (un (a) (b))) rfl rfl rfl (by first | exact ha | exact (ha).alloc _ | exact ((ha).alloc _).alloc _ | exact (((ha).alloc _).alloc _).alloc _) (by first | exact hb | exact (hb).alloc _ | exact ((hb).alloc _).alloc _ | exact (((hb).alloc _).alloc _).alloc _) na nb rfl).mono ?_
  rintro e w12 ⟨AS42, cS42, rfl, S42, B⟩
  have X : Below w11.heap.size w11 w12 := by first | exact B | exact ext_trans (ext_alloc (ext_refl _) _) B | exact ext_trans (ext_alloc (ext_alloc (ext_refl _) _) _) B | exact ext_trans (ext_alloc (ext_alloc (ext_alloc (ext_refl _) _) _) _) B | exact ext_trans (ext_alloc (ext_alloc (ext_alloc (ext_alloc (ext_refl _) _) _) _) _) B
  have Ew12 := ext_trans Ew11 X
  replace S41 := S41.ext X
  clear X B Ew11 ha hb
  go_wp2_with fail
  refine (sameSp (a := nrm (un (nrm (mi (a) (b))) (b))) (b := nrm (un (a) (b))) true (yes (div4 _ _)) rfl rfl (by first | exact S41 | exact (S41).alloc _ | exact ((S41).alloc _).alloc _ | exact (((S41).alloc _).alloc _).alloc _) (by first | exact S42 | exact (S42).alloc _ | exact ((S42).alloc _).alloc _ | exact (((S42).alloc _).alloc _).alloc _) (nrm_lt _)).mono ?_
  rintro e w13 ⟨rfl, B⟩
  have X : Below w12.heap.size w12 w13 := by first | exact B | exact ext_trans (ext_alloc (ext_refl _) _) B | exact ext_trans (ext_alloc (ext_alloc (ext_refl _) _) _) B | exact ext_trans (ext_alloc (ext_alloc (ext_alloc (ext_refl _) _) _) _) B | exact ext_trans (ext_alloc (ext_alloc (ext_alloc (ext_alloc (ext_refl _) _) _) _) _) B
  have Ew13 := ext_trans Ew12 X
  clear X B Ew12 S41 S42
  go_wp2_with fail
  go_ret
  exact ⟨rfl, Ew13⟩
end Go.Proofs.Ytkannbmmgkohjaa
