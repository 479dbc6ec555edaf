/- Contracts: few credits; equal lists. -/
import Derived.Test.YtafglcalimcdcaaC
set_option linter.unusedSimpArgs false
set_option linter.unusedVariables false
namespace Go.Proofs.Ytafglcalimcdcaa
open Go.RowKit
theorem same_stepCr {a b : List Cr} {k : Nat} {x y : Cr} (h : a.take k = b.take k) (hx : a[k]? = some x) (hy : b[k]? = some y) (hxy : x = y) : a.take (k + 1) = b.take (k + 1) := by
  simp [List.take_add_one, h, hx, hy, hxy]
theorem same_noCr {a b : List Cr} {k : Nat} {x y : Cr} (hx : a[k]? = some x) (hy : b[k]? = some y) (hxy : x ≠ y) : a ≠ b := by
  rintro rfl; rw [hx] at hy; exact hxy (Option.some.inj hy)
set_option maxHeartbeats 400000 in
theorem sameqCr (A B : Option Addr) (ca cb : Nat) (a b : List Cr) (w : World) (ha : Slc w Cr.cells 3 A a) (hb : Slc w Cr.cells 3 B b) (hn : a.length < 1048576) :
    Calls Try.prog 12 #[.slice A a.length ca, .slice B b.length cb] w fun e w' => e = .returned (.bool (decide (a = b))) ∧ ∃ n, w' = w.drewN n := by
  by_cases hl : a.length = b.length
  · have hl1 : ((a.length : Int) != (b.length : Int)) = false := by simp; omega
    have HL := Lib.hid hl
    have hlb : b.length ≤ a.length := by omega
    have hlb' : a.length ≤ b.length := by omega
    clear hl
    go_enter Try.func12, Try.ntmps12
    go_wp2
    go_loopw [5] (fun i wr => ∃ k : Nat, k ≤ a.length ∧ i = .int .i64 k ∧ a.take k = b.take k ∧ Hid (∃ n, wr = w.drewN n)) (fun i _ => a.length - (intOf i).toNat)
    case atStart => exact ⟨0, Nat.zero_le _, rfl, by simp, 0, rfl⟩
    case round =>
      obtain ⟨k, hk, rfl, htk, hbe⟩ := hrel
      have HT := Lib.hid htk
      clear htk
      by_cases hlt : k < a.length
      · obtain ⟨x, b1, o1, hx, rfl, _, hc⟩ := (Slc.drewE ha hbe.out).at_ hlt
        obtain ⟨y, b2, o2, hy, rfl, _, hd⟩ := (Slc.drewE hb hbe.out).at_ (show k < b.length by omega)
        have HX := Lib.hid hx
        have HY := Lib.hid hy
        clear hx hy
        have c0 := hc 0 _ rfl
        have c1 := hc 1 _ rfl
        have c2 := hc 2 _ rfl
        have d0 := hd 0 _ rfl
        have d1 := hd 1 _ rfl
        have d2 := hd 2 _ rfl
        simp only [Nat.mul_one, Nat.add_zero] at c0 c1 c2 d0 d1 d2
        clear hc hd
        have hltb : k < b.length := by omega
        have hi1 : (k : Int) < (a.length : Int) := by omega
        have hi2 : (k : Int) < (b.length : Int) := by omega
        have hne := fun w => run_neq24 x y w
        go_wp2
        go_quiet (fail)
        go_wp2
        · have hxy : (!decide (x = y)) = true := by assumption
          go_ret
          exact ⟨ret_bool (by simp [same_noCr HX.out HY.out (by simpa using hxy)]), drewE hbe.out _⟩
        · have hxy : (!decide (x = y)) = false := by assumption
          go_roundw
          case rel => exact ⟨k + 1, hlt, by go_num, same_stepCr HT.out HX.out HY.out (by simpa using hxy), drewE hbe.out _⟩
          case measure => simp [intOf]; omega
      · go_wp2
        go_ret
        refine ⟨ret_bool ?_, hbe.out⟩
        have h1 := HT.out
        rw [List.take_of_length_le (by omega), List.take_of_length_le (by omega)] at h1
        simp [h1]
  · have hl1 : ((a.length : Int) != (b.length : Int)) = true := by simp; omega
    have HL := Lib.hid hl
    clear hl
    go_enter Try.func12, Try.ntmps12
    go_wp2
    go_ret
    exact ⟨ret_bool (by simp; intro h; exact HL.out (by rw [h])), 0, rfl⟩
theorem sameCr {A B : Option Addr} {ca cb : Nat} {a b : List Cr} {w : World} {n m : Nat} (r : Bool) (hr : decide (a = b) = r) (hl : n = a.length) (hm : m = b.length) (ha : Slc w Cr.cells 3 A a) (hb : Slc w Cr.cells 3 B b) (hn : a.length < 1000000) :
    Calls Try.prog 12 #[.slice A n ca, .slice B m cb] w fun e w' => e = .returned (.bool r) ∧ Below w.heap.size w w' := by
  subst hr hl hm
  exact (sameqCr A B ca cb a b w ha hb (by omega)).mono fun _ _ ⟨h1, n, h2⟩ => ⟨h1, by rw [h2]; exact ext_drewN (ext_refl w) n⟩
def fewP (c : Cr) : Bool := decide (-1099511627776 ≤ c.m) && decide (c.m ≤ 1099511627776)
set_option maxHeartbeats 1600000 in
theorem few_any (A : Option Addr) (c : Nat) (l : List Cr) (w : World) (ha : Slc w Cr.cells 3 A l) (hn : l.length ≤ maxLen) : Calls Try.prog 7 #[.slice A l.length c] w (RetB w (fewC l)) := by
  unfold maxLen at hn
  obtain ⟨fv, hfv⟩ : ∃ v, fewC l = v := ⟨_, rfl⟩
  have HV := Lib.hid hfv
  rw [hfv]
  clear hfv
  have E := Lib.hid (ext_refl w)
  have SL := Lib.hid (ha)
  clear ha
  go_enter Try.func7, Try.ntmps7
  go_wp2_with fail
  go_loopw [3] (fun i wr => ∃ k : Nat, k ≤ l.length ∧ i = .int .i64 k ∧ Hid ((l.take k).all fewP = true) ∧ Hid (Slc wr Cr.cells 3 A l) ∧ Hid (Below w.heap.size w wr)) (fun i _ => l.length - (intOf i).toNat)
  case atStart => exact ⟨0, Nat.zero_le _, rfl, rfl, SL.out, E.out⟩
  clear SL E
  case round =>
    obtain ⟨k, hk, rfl, HK, SL, E⟩ := hrel
    by_cases hlt : k < l.length
    rotate_left
    · have hge : ¬ (k : Int) < l.length := by omega
      have hle : fv = decide ((l.length : Int) ≤ 40) := by
        have h := HK.out
        rw [List.take_of_length_le (by omega)] at h
        rw [← HV.out, show fewC l = (l.all fewP && decide (l.length ≤ 40)) from rfl, h]; simp; omega
      subst hle
      go_wp2_with fail
      all_goals
        go_ret
        exact ⟨by simp_all, E.out⟩
    have hlt1 : (k : Int) < l.length := by omega
    obtain ⟨x, b1, o1, hxx, rfl, hb1, hd⟩ := (SL.out).at_ (k := k) hlt
    have dd0 := hd 0 _ rfl
    have dd1 := hd 1 _ rfl
    have dd2 := hd 2 _ rfl
    simp only [Nat.add_zero] at dd0
    have HX := Lib.hid hxx
    clear hd hxx
    by_cases h1 : x.m > 1099511627776
    · have HFB := Lib.hid (show fv = false by
        rw [← HV.out, show fewC l = (l.all fewP && decide (l.length ≤ 40)) from rfl, List.all_eq_false.2 ⟨x, List.mem_of_getElem? HX.out, by unfold fewP; simp; omega⟩]; rfl)
      go_wp2_with fail
      go_ret
      exact ⟨ret_bool HFB.out.symm, E.out⟩
    by_cases h2 : x.m < -1099511627776
    · have HFB := Lib.hid (show fv = false by
        rw [← HV.out, show fewC l = (l.all fewP && decide (l.length ≤ 40)) from rfl, List.all_eq_false.2 ⟨x, List.mem_of_getElem? HX.out, by unfold fewP; simp; omega⟩]; rfl)
      go_wp2_with fail
      go_ret
      exact ⟨ret_bool HFB.out.symm, E.out⟩
    · have HN := Lib.hid (show (l.take (k + 1)).all fewP = true by
        rw [take_next HX.out, List.all_append, HK.out]; unfold fewP; simp; omega)
      go_wp2_with fail
      go_roundw
      case rel => exact ⟨k + 1, by omega, by go_num, HN.out, SL.out, E.out⟩
      case measure => simp [intOf]; omega
theorem few_at {A : Option Addr} {c n : Nat} {l : List Cr} {w : World} (r : Bool) (hr : fewC l = r) (hl : n = l.length) (ha : Slc w Cr.cells 3 A l) (hn : l.length ≤ maxLen) : Calls Try.prog 7 #[.slice A n c] w (RetB w r) := by
  subst hr hl; exact few_any A c l w ha hn
end Go.Proofs.Ytafglcalimcdcaa
