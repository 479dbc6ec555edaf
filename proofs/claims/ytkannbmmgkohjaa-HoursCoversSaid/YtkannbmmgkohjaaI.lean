/- The reference's sets. -/
import Derived.Test.YtkannbmmgkohjaaH
namespace Go.Proofs.Ytkannbmmgkohjaa
open Go.RowKit Go.Shelf
theorem rnormal_any (A1 : Option Addr) (c1 : Nat) (a : List Sp) (w : World) (ha : Slc w Sp.cells 2 A1 a) (hna : a.length < 1000000) :
    Calls Try.prog 16 #[.slice A1 a.length c1] w (RetS w (nor a)) := by
  go_enter Try.func16, Try.ntmps16
  go_wp2_with fail
  refine (minutes_any A1 c1 a w ha hna).mono ?_
  rintro e w1 ⟨⟨b1, rfl, hb1, ar1⟩, B1⟩
  go_wp2_with fail
  refine (rspans_any b1 _ w1 ar1).mono ?_
  rintro e w2 ⟨A, c, rfl, hs, hB⟩
  go_wp2_with fail
  go_ret
  exact ⟨A, c, rfl, hs, ext_trans B1 hB⟩
set_option maxRecDepth 100000 in
set_option maxHeartbeats 800000 in
theorem runion_any (A1 A2 : Option Addr) (c1 c2 : Nat) (a b : List Sp) (w : World) (ha : Slc w Sp.cells 2 A1 a) (hb : Slc w Sp.cells 2 A2 b) (hna : a.length < 1000000) (hnb : b.length < 1000000) :
    Calls Try.prog 18 #[.slice A1 a.length c1, .slice A2 b.length c2] w (RetS w (nrm (un a b))) := by
  go_enter Try.func18, Try.ntmps18
  go_wp2_with fail
  refine (minutes_any A1 c1 a w ha hna).mono ?_
  rintro e w1 ⟨⟨b1, rfl, hb1, ar1⟩, B1⟩
  go_wp2_with fail
  refine (minutes_any A2 c2 b w1 (hb.ext B1) hnb).mono ?_
  rintro e w2 ⟨⟨b2, rfl, hb2, ar2⟩, B2⟩
  have ar1' := ar1.ext B2
  have B12 := ext_trans B1 B2
  have hne : b1 ≠ b2 := by have := ar1.1; omega
  have hne' : b2 ≠ b1 := fun e => hne e.symm
  clear ar1 B1 B2 ha hb
  go_wp2_with fail
  go_loopw [7] (fun i W => ∃ k : Nat, k ≤ 1440 ∧ i = .int .i64 k ∧ Arr W b1 1440 (upto k (un a b) (fun m => inL a m)) ∧ Arr W b2 1440 (fun m => inL b m) ∧ Below w.heap.size w W) (fun i _ => 1440 - (intOf i).toNat)
  case atStart => exact ⟨0, Nat.zero_le _, rfl, ar1'.congr (by simp [upto]), ar2, B12⟩
  case round =>
    obtain ⟨k, hk, rfl, hr1, hr2, hB⟩ := hrel
    by_cases hlt : k < 1440
    · have hlt' : (k : Int) < 1440 := by omega
      obtain ⟨d1, f1⟩ := hr1.2 k hlt
      obtain ⟨d2, f2⟩ := hr2.2 k hlt
      replace d2 : wr.cell? ⟨b2, k, none⟩ = some (.bool (inL b k)) := d2
      have e1 : upto k (un a b) (fun m => inL a m) k = inL a k := by simp [upto]
      rw [e1] at d1
      clear e1
      have hdef : un a b k = (inL a k || inL b k) := rfl
      have hres := (hr1.set k hlt (un a b k)).congr (fun i _ => upto_step k (un a b) (fun m => inL a m) i)
      have hres2 := hr2.other hne (.bool (un a b k)) (m := k)
      have hB2 := hB.setCell (p := ⟨b1, k, none⟩) hb1 (.bool (un a b k))
      have HR : Hid (Arr (wr.setCell ⟨b1, k, none⟩ (.bool (un a b k))) b1 1440 (upto (k + 1) (un a b) fun m => inL a m) ∧ Arr (wr.setCell ⟨b1, k, none⟩ (.bool (un a b k))) b2 1440 (fun m => inL b m) ∧ Below w.heap.size w (wr.setCell ⟨b1, k, none⟩ (.bool (un a b k)))) := ⟨hres, hres2, hB2⟩
      clear hres hres2 hB2 hr1 hr2 ar2 ar1' B12
      rw [hdef] at HR
      clear hdef
      cases ha1 : inL a k <;> cases hb1' : inL b k <;> rw [ha1] at d1 HR <;> rw [hb1'] at d2 HR
      all_goals
        clear ha1 hb1'
        simp only [Bool.or_true, Bool.or_false, Bool.and_true, Bool.and_false, Bool.not_true, Bool.not_false] at HR
        go_wp2_with fail
        go_roundw
        case rel => exact ⟨k + 1, hlt, by go_num, HR.out.1, HR.out.2.1, HR.out.2.2⟩
        case measure => simp [intOf]; omega
    · have hlt' : ¬ (k : Int) < 1440 := by omega
      have har : Arr wr b1 1440 (un a b) := hr1.congr (fun i hi => by simp [upto, show i < k by omega])
      clear hr1 hr2 ar2 ar1' B12
      go_wp2_with fail
      refine (rspans_any b1 _ wr har).mono ?_
      rintro e w3 ⟨A, c, rfl, hs, hB4⟩
      go_wp2_with fail
      go_ret
      exact ⟨A, c, rfl, hs, ext_trans hB hB4⟩
set_option maxRecDepth 100000 in
set_option maxHeartbeats 800000 in
theorem rmeet_any (A1 A2 : Option Addr) (c1 c2 : Nat) (a b : List Sp) (w : World) (ha : Slc w Sp.cells 2 A1 a) (hb : Slc w Sp.cells 2 A2 b) (hna : a.length < 1000000) (hnb : b.length < 1000000) :
    Calls Try.prog 20 #[.slice A1 a.length c1, .slice A2 b.length c2] w (RetS w (nrm (me a b))) := by
  go_enter Try.func20, Try.ntmps20
  go_wp2_with fail
  refine (minutes_any A1 c1 a w ha hna).mono ?_
  rintro e w1 ⟨⟨b1, rfl, hb1, ar1⟩, B1⟩
  go_wp2_with fail
  refine (minutes_any A2 c2 b w1 (hb.ext B1) hnb).mono ?_
  rintro e w2 ⟨⟨b2, rfl, hb2, ar2⟩, B2⟩
  have ar1' := ar1.ext B2
  have B12 := ext_trans B1 B2
  have hne : b1 ≠ b2 := by have := ar1.1; omega
  have hne' : b2 ≠ b1 := fun e => hne e.symm
  clear ar1 B1 B2 ha hb
  go_wp2_with fail
  go_loopw [7] (fun i W => ∃ k : Nat, k ≤ 1440 ∧ i = .int .i64 k ∧ Arr W b1 1440 (upto k (me a b) (fun m => inL a m)) ∧ Arr W b2 1440 (fun m => inL b m) ∧ Below w.heap.size w W) (fun i _ => 1440 - (intOf i).toNat)
  case atStart => exact ⟨0, Nat.zero_le _, rfl, ar1'.congr (by simp [upto]), ar2, B12⟩
  case round =>
    obtain ⟨k, hk, rfl, hr1, hr2, hB⟩ := hrel
    by_cases hlt : k < 1440
    · have hlt' : (k : Int) < 1440 := by omega
      obtain ⟨d1, f1⟩ := hr1.2 k hlt
      obtain ⟨d2, f2⟩ := hr2.2 k hlt
      replace d2 : wr.cell? ⟨b2, k, none⟩ = some (.bool (inL b k)) := d2
      have e1 : upto k (me a b) (fun m => inL a m) k = inL a k := by simp [upto]
      rw [e1] at d1
      clear e1
      have hdef : me a b k = (inL a k && inL b k) := rfl
      have hres := (hr1.set k hlt (me a b k)).congr (fun i _ => upto_step k (me a b) (fun m => inL a m) i)
      have hres2 := hr2.other hne (.bool (me a b k)) (m := k)
      have hB2 := hB.setCell (p := ⟨b1, k, none⟩) hb1 (.bool (me a b k))
      have HR : Hid (Arr (wr.setCell ⟨b1, k, none⟩ (.bool (me a b k))) b1 1440 (upto (k + 1) (me a b) fun m => inL a m) ∧ Arr (wr.setCell ⟨b1, k, none⟩ (.bool (me a b k))) b2 1440 (fun m => inL b m) ∧ Below w.heap.size w (wr.setCell ⟨b1, k, none⟩ (.bool (me a b k)))) := ⟨hres, hres2, hB2⟩
      clear hres hres2 hB2 hr1 hr2 ar2 ar1' B12
      rw [hdef] at HR
      clear hdef
      cases ha1 : inL a k <;> cases hb1' : inL b k <;> rw [ha1] at d1 HR <;> rw [hb1'] at d2 HR
      all_goals
        clear ha1 hb1'
        simp only [Bool.or_true, Bool.or_false, Bool.and_true, Bool.and_false, Bool.not_true, Bool.not_false] at HR
        go_wp2_with fail
        go_roundw
        case rel => exact ⟨k + 1, hlt, by go_num, HR.out.1, HR.out.2.1, HR.out.2.2⟩
        case measure => simp [intOf]; omega
    · have hlt' : ¬ (k : Int) < 1440 := by omega
      have har : Arr wr b1 1440 (me a b) := hr1.congr (fun i hi => by simp [upto, show i < k by omega])
      clear hr1 hr2 ar2 ar1' B12
      go_wp2_with fail
      refine (rspans_any b1 _ wr har).mono ?_
      rintro e w3 ⟨A, c, rfl, hs, hB4⟩
      go_wp2_with fail
      go_ret
      exact ⟨A, c, rfl, hs, ext_trans hB hB4⟩
set_option maxRecDepth 100000 in
set_option maxHeartbeats 800000 in
theorem rminus_any (A1 A2 : Option Addr) (c1 c2 : Nat) (a b : List Sp) (w : World) (ha : Slc w Sp.cells 2 A1 a) (hb : Slc w Sp.cells 2 A2 b) (hna : a.length < 1000000) (hnb : b.length < 1000000) :
    Calls Try.prog 22 #[.slice A1 a.length c1, .slice A2 b.length c2] w (RetS w (nrm (mi a b))) := by
  go_enter Try.func22, Try.ntmps22
  go_wp2_with fail
  refine (minutes_any A1 c1 a w ha hna).mono ?_
  rintro e w1 ⟨⟨b1, rfl, hb1, ar1⟩, B1⟩
  go_wp2_with fail
  refine (minutes_any A2 c2 b w1 (hb.ext B1) hnb).mono ?_
  rintro e w2 ⟨⟨b2, rfl, hb2, ar2⟩, B2⟩
  have ar1' := ar1.ext B2
  have B12 := ext_trans B1 B2
  have hne : b1 ≠ b2 := by have := ar1.1; omega
  have hne' : b2 ≠ b1 := fun e => hne e.symm
  clear ar1 B1 B2 ha hb
  go_wp2_with fail
  go_loopw [7] (fun i W => ∃ k : Nat, k ≤ 1440 ∧ i = .int .i64 k ∧ Arr W b1 1440 (upto k (mi a b) (fun m => inL a m)) ∧ Arr W b2 1440 (fun m => inL b m) ∧ Below w.heap.size w W) (fun i _ => 1440 - (intOf i).toNat)
  case atStart => exact ⟨0, Nat.zero_le _, rfl, ar1'.congr (by simp [upto]), ar2, B12⟩
  case round =>
    obtain ⟨k, hk, rfl, hr1, hr2, hB⟩ := hrel
    by_cases hlt : k < 1440
    · have hlt' : (k : Int) < 1440 := by omega
      obtain ⟨d1, f1⟩ := hr1.2 k hlt
      obtain ⟨d2, f2⟩ := hr2.2 k hlt
      replace d2 : wr.cell? ⟨b2, k, none⟩ = some (.bool (inL b k)) := d2
      have e1 : upto k (mi a b) (fun m => inL a m) k = inL a k := by simp [upto]
      rw [e1] at d1
      clear e1
      have hdef : mi a b k = (inL a k && !inL b k) := rfl
      have hres := (hr1.set k hlt (mi a b k)).congr (fun i _ => upto_step k (mi a b) (fun m => inL a m) i)
      have hres2 := hr2.other hne (.bool (mi a b k)) (m := k)
      have hB2 := hB.setCell (p := ⟨b1, k, none⟩) hb1 (.bool (mi a b k))
      have HR : Hid (Arr (wr.setCell ⟨b1, k, none⟩ (.bool (mi a b k))) b1 1440 (upto (k + 1) (mi a b) fun m => inL a m) ∧ Arr (wr.setCell ⟨b1, k, none⟩ (.bool (mi a b k))) b2 1440 (fun m => inL b m) ∧ Below w.heap.size w (wr.setCell ⟨b1, k, none⟩ (.bool (mi a b k)))) := ⟨hres, hres2, hB2⟩
      clear hres hres2 hB2 hr1 hr2 ar2 ar1' B12
      rw [hdef] at HR
      clear hdef
      cases ha1 : inL a k <;> cases hb1' : inL b k <;> rw [ha1] at d1 HR <;> rw [hb1'] at d2 HR
      all_goals
        clear ha1 hb1'
        simp only [Bool.or_true, Bool.or_false, Bool.and_true, Bool.and_false, Bool.not_true, Bool.not_false] at HR
        go_wp2_with fail
        go_roundw
        case rel => exact ⟨k + 1, hlt, by go_num, HR.out.1, HR.out.2.1, HR.out.2.2⟩
        case measure => simp [intOf]; omega
    · have hlt' : ¬ (k : Int) < 1440 := by omega
      have har : Arr wr b1 1440 (mi a b) := hr1.congr (fun i hi => by simp [upto, show i < k by omega])
      clear hr1 hr2 ar2 ar1' B12
      go_wp2_with fail
      refine (rspans_any b1 _ wr har).mono ?_
      rintro e w3 ⟨A, c, rfl, hs, hB4⟩
      go_wp2_with fail
      go_ret
      exact ⟨A, c, rfl, hs, ext_trans hB hB4⟩
end Go.Proofs.Ytkannbmmgkohjaa
