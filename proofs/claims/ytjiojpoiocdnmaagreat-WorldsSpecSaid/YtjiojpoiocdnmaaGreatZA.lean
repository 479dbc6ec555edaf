/- The reference's small tests: in, has, spans, modes, kinds, indices. -/
import Derived.Test.YtjiojpoiocdnmaaGreatU7
import Derived.Test.YtjiojpoiocdnmaaGreatU6
import Derived.Test.YtjiojpoiocdnmaaGreatU8
set_option linter.unusedSimpArgs false
set_option linter.unusedVariables false
namespace Go.Proofs.YtjiojpoiocdnmaaGreat
open Go.RowKit
theorem inr_any (n a b : Int) (w : World) : Calls Tryz.prog 67 #[.int .i64 n, .int .i64 a, .int .i64 b] w fun e w' => e = .returned (.bool (inn n a b)) ∧ w = w' := by
 go_enter Tryz.func67, Tryz.ntmps67
 by_cases h1 : a ≤ n
 ·by_cases h2 : n ≤ b
  ·have e1 : decide (n ≥ a) = true := by simpa using h1
   have e2 : decide (n ≤ b) = true := by simpa using h2
   go_wp2
   all_goals go_ret
   all_goals exact ⟨ret_bool (by simp [inn]; omega), rfl⟩
  ·have e1 : decide (n ≥ a) = true := by simpa using h1
   have e2 : decide (n ≤ b) = false := by simpa using h2
   go_wp2
   all_goals go_ret
   all_goals exact ⟨ret_bool (by simp [inn]; omega), rfl⟩
 ·have e1 : decide (n ≥ a) = false := by simpa using h1
  go_wp2
  all_goals go_ret
  all_goals exact ⟨ret_bool (by simp [inn]; omega), rfl⟩
theorem inr_at {n a b : Int} {w : World} (r : Bool) (hr : inn n a b = r) : Calls Tryz.prog 67 #[.int .i64 n, .int .i64 a, .int .i64 b] w fun e w' => e = .returned (.bool r) ∧ w = w' := by
 subst hr; exact inr_any n a b w
theorem hE_of {l : List Sp} {b : Bool} (h : l.any badS = b) : chkHE l = if b then 50 else 0 := by unfold chkHE; rw [h]
set_option maxHeartbeats 4000000 in
theorem rhc_any (A : Option Addr) (c : Nat) (l : List Sp) (w : World) (ha : Slc w Sp.cells 2 A l) (hn : l.length ≤ maxLen) : Calls Tryz.prog 110 #[.slice A l.length c] w (RetE w (chkHE l)) := by
 have HA := Lib.hid ha
 clear ha
 unfold maxLen at hn
 go_enter Tryz.func110, Tryz.ntmps110
 go_wp2_with fail
 go_loopw [3] (fun i wr => ∃ k : Nat, k ≤ l.length ∧ i = .int .i64 k ∧ Hid (l.any badS = (l.drop k).any badS) ∧ Hid (Below w.heap.size w wr)) (fun i _ => l.length - (intOf i).toNat)
 case atStart => exact ⟨0, Nat.zero_le _, rfl, rfl, ext_refl _⟩
 case round =>
  obtain ⟨k, hk, rfl, HQ, HB⟩ := hrel
  by_cases hlt : k < l.length
  ·obtain ⟨x, q1, o1, hx, rfl, hb1, hc⟩ := (HA.out.ext HB.out).at_ hlt
   have HX := Lib.hid hx
   have c0 := hc 0 _ rfl
   have c1 := hc 1 _ rfl
   have hlt' : (k : Int) < l.length := by omega
   clear hc hx
   have badc : badS x = (decide (x.f < 0) || decide (x.t ≤ x.f) || decide (1440 < x.t)) := rfl
   have HBD := Lib.hid badc
   clear badc
   by_cases g0 : x.f < 0
   ·have e0 : decide (x.f < 0) = true := decide_eq_true g0
    have HR : Hid ((l.drop k).any badS = true) := any_hitD HX.out (by rw [HBD.out]; simp [g0])
    go_wp2_with fail
    have SS := Lib.hid (show ∀ w', Below wr.heap.size wr w' → (fun w' => Below wr.heap.size wr w' ∧ w'.cell? ⟨q1, o1 + k * 2, none⟩ = some (.int .i64 x.f) ∧ w'.cell? ⟨q1, o1 + k * 2 + 1, none⟩ = some (.int .i64 x.t)) w' from fun w' h => ⟨h, (h.cell (p := ⟨q1, o1 + k * 2, none⟩) hb1).trans c0, (h.cell (p := ⟨q1, o1 + k * 2 + 1, none⟩) hb1).trans c1⟩)
    refine rgB 27 SS (ext_drew (ext_refl _)) (fun Q7 hQ7 hN7 hHeld => ?_)
    refine rgT 0 (some 10) hQ7 hHeld ?_; refine rgT 1 (some 11) hQ7 hHeld ?_; refine rgT 2 (some 12) hQ7 hHeld ?_; refine rgT 3 (some 13) hQ7 hHeld ?_; refine rgT 4 (some 14) hQ7 hHeld ?_; refine rgT 5 (some 15) hQ7 hHeld ?_; refine rgT 6 (some 16) hQ7 hHeld ?_; refine rgS 7 (some 17) hQ7 hHeld ?_; refine rgS 8 (some 18) hQ7 hHeld ?_; refine rgS 9 (some 19) hQ7 hHeld ?_; refine rgS 10 (some 20) hQ7 hHeld ?_
    refine rgS 11 (some 21) hQ7 hHeld ?_; refine rgS 12 (some 22) hQ7 hHeld ?_; refine rgS 13 (some 23) hQ7 hHeld ?_; refine rgS 14 (some 24) hQ7 hHeld ?_; refine rgS 15 (some 25) hQ7 hHeld ?_; refine rgS 16 (some 26) hQ7 hHeld ?_; refine rgS 17 (some 27) hQ7 hHeld ?_; refine rgT 18 (some 28) hQ7 hHeld ?_; refine rgT 19 (some 29) hQ7 hHeld ?_; refine rgS 20 (some 30) hQ7 hHeld ?_; refine rgS 21 (some 31) hQ7 hHeld ?_
    refine rgS 22 (some 32) hQ7 hHeld ?_; refine rgS 23 (some 33) hQ7 hHeld ?_; refine rgS 24 (some 34) hQ7 hHeld ?_; refine rgS 25 (some 35) hQ7 hHeld ?_; refine rgT 26 (some 36) hQ7 hHeld ?_
    refine rg_end (by kernel_rfl) (hN7 _ _ ?_) _
    clear hQ7 hN7 Q7
    have BX := hHeld.1
    clear SS
    go_wp2_with fail
    go_ret
    exact ⟨ret_int (by rw [hE_of (HQ.out.trans HR.out)]; rfl), ext_trans HB.out BX⟩
   have e0 : decide (x.f < 0) = false := decide_eq_false g0
   by_cases g1 : x.t ≤ x.f
   ·have e1 : decide (x.f ≥ x.t) = true := decide_eq_true g1
    have HR : Hid ((l.drop k).any badS = true) := any_hitD HX.out (by rw [HBD.out]; simp [g1])
    go_wp2_with fail
    have SS := Lib.hid (show ∀ w', Below wr.heap.size wr w' → (fun w' => Below wr.heap.size wr w' ∧ w'.cell? ⟨q1, o1 + k * 2, none⟩ = some (.int .i64 x.f) ∧ w'.cell? ⟨q1, o1 + k * 2 + 1, none⟩ = some (.int .i64 x.t)) w' from fun w' h => ⟨h, (h.cell (p := ⟨q1, o1 + k * 2, none⟩) hb1).trans c0, (h.cell (p := ⟨q1, o1 + k * 2 + 1, none⟩) hb1).trans c1⟩)
    refine rgB 27 SS (ext_drew (ext_refl _)) (fun Q7 hQ7 hN7 hHeld => ?_)
    refine rgT 0 (some 10) hQ7 hHeld ?_; refine rgT 1 (some 11) hQ7 hHeld ?_; refine rgT 2 (some 12) hQ7 hHeld ?_; refine rgT 3 (some 13) hQ7 hHeld ?_; refine rgT 4 (some 14) hQ7 hHeld ?_; refine rgT 5 (some 15) hQ7 hHeld ?_; refine rgT 6 (some 16) hQ7 hHeld ?_; refine rgT 7 (some 17) hQ7 hHeld ?_; refine rgT 8 (some 18) hQ7 hHeld ?_; refine rgT 9 (some 19) hQ7 hHeld ?_; refine rgT 10 (some 20) hQ7 hHeld ?_
    refine rgT 11 (some 21) hQ7 hHeld ?_; refine rgT 12 (some 22) hQ7 hHeld ?_; refine rgT 13 (some 23) hQ7 hHeld ?_; refine rgT 14 (some 24) hQ7 hHeld ?_; refine rgT 15 (some 25) hQ7 hHeld ?_; refine rgT 16 (some 26) hQ7 hHeld ?_; refine rgT 17 (some 27) hQ7 hHeld ?_; refine rgT 18 (some 28) hQ7 hHeld ?_; refine rgT 19 (some 29) hQ7 hHeld ?_; refine rgS 20 (some 30) hQ7 hHeld ?_; refine rgS 21 (some 31) hQ7 hHeld ?_
    refine rgS 22 (some 32) hQ7 hHeld ?_; refine rgS 23 (some 33) hQ7 hHeld ?_; refine rgS 24 (some 34) hQ7 hHeld ?_; refine rgS 25 (some 35) hQ7 hHeld ?_; refine rgT 26 (some 36) hQ7 hHeld ?_
    refine rg_end (by kernel_rfl) (hN7 _ _ ?_) _
    clear hQ7 hN7 Q7
    have BX := hHeld.1
    clear SS
    go_wp2_with fail
    go_ret
    exact ⟨ret_int (by rw [hE_of (HQ.out.trans HR.out)]; rfl), ext_trans HB.out BX⟩
   have e1 : decide (x.f ≥ x.t) = false := decide_eq_false g1
   by_cases g2 : 1440 < x.t
   ·have e2 : decide (x.t > 1440) = true := decide_eq_true g2
    have HR : Hid ((l.drop k).any badS = true) := any_hitD HX.out (by rw [HBD.out]; simp [g2])
    go_wp2_with fail
    have SS := Lib.hid (show ∀ w', Below wr.heap.size wr w' → (fun w' => Below wr.heap.size wr w' ∧ w'.cell? ⟨q1, o1 + k * 2, none⟩ = some (.int .i64 x.f) ∧ w'.cell? ⟨q1, o1 + k * 2 + 1, none⟩ = some (.int .i64 x.t)) w' from fun w' h => ⟨h, (h.cell (p := ⟨q1, o1 + k * 2, none⟩) hb1).trans c0, (h.cell (p := ⟨q1, o1 + k * 2 + 1, none⟩) hb1).trans c1⟩)
    refine rgB 27 SS (ext_drew (ext_refl _)) (fun Q7 hQ7 hN7 hHeld => ?_)
    refine rgT 0 (some 10) hQ7 hHeld ?_; refine rgT 1 (some 11) hQ7 hHeld ?_; refine rgT 2 (some 12) hQ7 hHeld ?_; refine rgT 3 (some 13) hQ7 hHeld ?_; refine rgT 4 (some 14) hQ7 hHeld ?_; refine rgT 5 (some 15) hQ7 hHeld ?_; refine rgT 6 (some 16) hQ7 hHeld ?_; refine rgT 7 (some 17) hQ7 hHeld ?_; refine rgT 8 (some 18) hQ7 hHeld ?_; refine rgT 9 (some 19) hQ7 hHeld ?_; refine rgT 10 (some 20) hQ7 hHeld ?_
    refine rgT 11 (some 21) hQ7 hHeld ?_; refine rgT 12 (some 22) hQ7 hHeld ?_; refine rgT 13 (some 23) hQ7 hHeld ?_; refine rgT 14 (some 24) hQ7 hHeld ?_; refine rgT 15 (some 25) hQ7 hHeld ?_; refine rgT 16 (some 26) hQ7 hHeld ?_; refine rgT 17 (some 27) hQ7 hHeld ?_; refine rgT 18 (some 28) hQ7 hHeld ?_; refine rgT 19 (some 29) hQ7 hHeld ?_; refine rgT 20 (some 30) hQ7 hHeld ?_; refine rgT 21 (some 31) hQ7 hHeld ?_
    refine rgT 22 (some 32) hQ7 hHeld ?_; refine rgT 23 (some 33) hQ7 hHeld ?_; refine rgT 24 (some 34) hQ7 hHeld ?_; refine rgT 25 (some 35) hQ7 hHeld ?_; refine rgT 26 (some 36) hQ7 hHeld ?_
    refine rg_end (by kernel_rfl) (hN7 _ _ ?_) _
    clear hQ7 hN7 Q7
    have BX := hHeld.1
    clear SS
    go_wp2_with fail
    go_ret
    exact ⟨ret_int (by rw [hE_of (HQ.out.trans HR.out)]; rfl), ext_trans HB.out BX⟩
   ·have e2 : decide (x.t > 1440) = false := decide_eq_false g2
    have HR := Lib.hid (any_step (p := badS) HX.out (by rw [HBD.out]; simp; omega))
    clear HBD g0 g1 g2
    go_wp2_with fail
    have SS := Lib.hid (show ∀ w', Below wr.heap.size wr w' → (fun w' => Below wr.heap.size wr w' ∧ w'.cell? ⟨q1, o1 + k * 2, none⟩ = some (.int .i64 x.f) ∧ w'.cell? ⟨q1, o1 + k * 2 + 1, none⟩ = some (.int .i64 x.t)) w' from fun w' h => ⟨h, (h.cell (p := ⟨q1, o1 + k * 2, none⟩) hb1).trans c0, (h.cell (p := ⟨q1, o1 + k * 2 + 1, none⟩) hb1).trans c1⟩)
    refine rgB 27 SS (ext_drew (ext_refl _)) (fun Q7 hQ7 hN7 hHeld => ?_)
    refine rgT 0 (some 10) hQ7 hHeld ?_; refine rgT 1 (some 11) hQ7 hHeld ?_; refine rgT 2 (some 12) hQ7 hHeld ?_; refine rgT 3 (some 13) hQ7 hHeld ?_; refine rgT 4 (some 14) hQ7 hHeld ?_; refine rgT 5 (some 15) hQ7 hHeld ?_; refine rgT 6 (some 16) hQ7 hHeld ?_; refine rgT 7 (some 17) hQ7 hHeld ?_; refine rgT 8 (some 18) hQ7 hHeld ?_; refine rgT 9 (some 19) hQ7 hHeld ?_; refine rgT 10 (some 20) hQ7 hHeld ?_
    refine rgT 11 (some 21) hQ7 hHeld ?_; refine rgT 12 (some 22) hQ7 hHeld ?_; refine rgT 13 (some 23) hQ7 hHeld ?_; refine rgT 14 (some 24) hQ7 hHeld ?_; refine rgT 15 (some 25) hQ7 hHeld ?_; refine rgT 16 (some 26) hQ7 hHeld ?_; refine rgT 17 (some 27) hQ7 hHeld ?_; refine rgT 18 (some 28) hQ7 hHeld ?_; refine rgT 19 (some 29) hQ7 hHeld ?_; refine rgT 20 (some 30) hQ7 hHeld ?_; refine rgT 21 (some 31) hQ7 hHeld ?_
    refine rgT 22 (some 32) hQ7 hHeld ?_; refine rgT 23 (some 33) hQ7 hHeld ?_; refine rgT 24 (some 34) hQ7 hHeld ?_; refine rgT 25 (some 35) hQ7 hHeld ?_; refine rgT 26 (some 36) hQ7 hHeld ?_
    refine rg_end (by kernel_rfl) (hN7 _ _ ?_) _
    clear hQ7 hN7 Q7
    have BX := hHeld.1
    clear SS
    have HB1 := Lib.hid (ext_trans HB.out BX)
    clear c0 c1 BX
    go_wp2_with fail
    first | exact ⟨⟨k + 1, by omega, by go_num, HQ.out.trans HR.out, HB1.out⟩, by simp [intOf] <;> omega⟩ | (go_roundw; all_goals first | exact ⟨k + 1, by omega, by go_num, HQ.out.trans HR.out, HB1.out⟩ | (simp [intOf] <;> omega))
  ·have hlt' : decide ((k : Int) < l.length) = false := decide_eq_false (by omega)
   have hd : l.drop k = [] := List.drop_eq_nil_of_le (by omega)
   rw [hd] at HQ
   clear hd
   go_wp2_with fail
   go_ret
   exact ⟨ret_int (by rw [hE_of (b := false) (HQ.out.trans rfl)]; rfl), HB.out⟩
theorem rhc_at {A : Option Addr} {n c : Nat} {l : List Sp} {w : World} (r : Int) (hr : chkHE l = r) (hn' : n = l.length) (ha : Slc w Sp.cells 2 A l) (hn : l.length ≤ maxLen) : Calls Tryz.prog 110 #[.slice A n c] w (RetE w r) := by
 subst hr hn'; exact rhc_any A c l w ha hn
set_option maxHeartbeats 4000000 in
theorem rmode_any (A : Option Addr) (c : Nat) (l : List Int) (w : World) (ha : Slc w ic 1 A l) (hn : l.length ≤ maxLen) : Calls Tryz.prog 68 #[.slice A l.length c] w (RetB w (modeB ⟨A, c, l⟩)) := by
 have HA := Lib.hid ha
 clear ha
 unfold maxLen at hn
 have HD : Hid (modeB ⟨A, c, l⟩ = (inn l.length 1 16 && l.all plcB)) := rfl
 go_enter Tryz.func68, Tryz.ntmps68
 go_wp2_with fail
 go_loopw [3] (fun i wr => ∃ k : Nat, k ≤ l.length ∧ i = .int .i64 k ∧ Hid (l.all plcB = (l.drop k).all plcB) ∧ wr = w) (fun i _ => l.length - (intOf i).toNat)
 case atStart => exact ⟨0, Nat.zero_le _, rfl, rfl, rfl⟩
 case round =>
  obtain ⟨k, hk, rfl, HQ, hw⟩ := hrel
  obtain rfl : w = wr := hw.symm
  by_cases hlt : k < l.length
  ·obtain ⟨x, b1, o1, hx, rfl, hb1, hc⟩ := HA.out.at_ hlt
   have HX := Lib.hid hx
   have c0 := hc 0 _ rfl
   simp only [Nat.mul_one, Nat.add_zero] at c0
   have hlt' : (k : Int) < l.length := by omega
   clear hc hx
   go_wp2_with fail
   cases h : inn x 0 64
   ·have HR := Lib.hid (all_noD (p := plcB) HX.out h)
    refine (inr_at false h).mono ?_
    rintro e w1 ⟨rfl, rfl⟩
    clear h
    go_wp2_with fail
    go_ret
    exact ⟨ret_bool (by rw [HD.out, HQ.out, HR.out, Bool.and_false]), ext_refl _⟩
   ·have HR := Lib.hid (all_stepD (p := plcB) HX.out h)
    refine (inr_at true h).mono ?_
    rintro e w1 ⟨rfl, rfl⟩
    clear h
    go_wp2_with fail
    first | exact ⟨⟨k + 1, by omega, by go_num, HQ.out.trans HR.out, by first | rfl | trivial⟩, by simp [intOf] <;> omega⟩ | (go_roundw; all_goals first | exact ⟨k + 1, by omega, by go_num, HQ.out.trans HR.out, by first | rfl | trivial⟩ | (simp [intOf] <;> omega))
  ·have hlt' : decide ((k : Int) < l.length) = false := decide_eq_false (by omega)
   have hd : l.drop k = [] := List.drop_eq_nil_of_le (by omega)
   rw [hd] at HQ
   clear hd
   go_wp2_with fail
   refine (inr_any _ _ _ _).mono ?_
   rintro e w1 ⟨rfl, rfl⟩
   go_wp2_with fail
   go_ret
   exact ⟨ret_bool (by rw [HD.out, HQ.out]; simp), ext_refl _⟩
theorem rmode_at {x : SliceOf Int} {w : World} (r : Bool) (hr : modeB x = r) (ha : Slc w ic 1 x.A x.l) (hn : x.l.length ≤ maxLen) : Calls Tryz.prog 68 #[.slice x.A x.l.length x.c] w (RetB w r) := by
 subst hr; exact rmode_any x.A x.c x.l w ha hn
set_option maxHeartbeats 8000000 in
theorem rkc_any (k : Kd) (w : World) (hk : Kd.ok w k) : Calls Tryz.prog 70 #[k.v] w (RetE w (chkK k)) := by
 obtain ⟨W, hW⟩ : ∃ W, w.alloc (.cells #[.int .i64 k.slow, .int .i64 k.fast, .int .i64 k.places, .int .i64 k.weight, .int .i64 k.longest, .slice k.cur.A k.cur.l.length k.cur.c] 127) = W := ⟨_, rfl⟩
 have HB : Hid (Blk W w.heap.size k.cells) := by rw [← hW]; exact Blk.newH w k.cells 127 w.heap.size rfl
 have HE : Hid (Below w.heap.size w W) := by rw [← hW]; exact ext_alloc (ext_refl w) _
 have HK := Lib.hid (hk.ext HE.out)
 have b0 := HB.out.c 0 _ rfl
 have b1 := HB.out.c 1 _ rfl
 have b2 := HB.out.c 2 _ rfl
 have b3 := HB.out.c 3 _ rfl
 have b4 := HB.out.c 4 _ rfl
 have b5 := HB.out.c 5 _ rfl
 have bl := HB.out.lt
 have HNO : Hid (¬ Rng k → chkK k = 120) := fun h => by
  unfold chkK vldK
  have : rngB k = false := by cases e : rngB k; rfl; exact absurd ((rngB_iff k).1 e) h
  rw [this]; rfl
 have HN2 : Hid (¬ k.longest % 10 = 0 → chkK k = 120) := fun h => by
  unfold chkK vldK
  have : (k.longest % 10 == 0) = false := by simpa using h
  rw [this, Bool.and_false]; rfl
 have hkl := HK.out.len
 unfold maxLen at hkl
 clear hk
 go_enter Tryz.func70, Tryz.ntmps70
 by_cases h0 : k.slow < 1
 ·have e0 : decide (k.slow < 1) = true := decide_eq_true h0
  have HR : Hid (chkK k = 120) := HNO.out (fun R => by obtain ⟨q1, q2, q3, q4, q5, q6, q7, q8, q9, q10, q11⟩ := R; omega)
  clear HNO
  go_wp2_with fail
  go_ret
  rw [HR.out]
  exact ⟨rfl, HE.out⟩
 have e0 : decide (k.slow < 1) = false := decide_eq_false h0
 by_cases h1 : 64 < k.slow
 ·have e1 : decide (k.slow > 64) = true := decide_eq_true h1
  have HR : Hid (chkK k = 120) := HNO.out (fun R => by obtain ⟨q1, q2, q3, q4, q5, q6, q7, q8, q9, q10, q11⟩ := R; omega)
  clear HNO
  go_wp2_with fail
  go_ret
  rw [HR.out]
  exact ⟨rfl, HE.out⟩
 have e1 : decide (k.slow > 64) = false := decide_eq_false h1
 by_cases h2 : k.fast < k.slow
 ·have e2 : decide (k.fast < k.slow) = true := decide_eq_true h2
  have HR : Hid (chkK k = 120) := HNO.out (fun R => by obtain ⟨q1, q2, q3, q4, q5, q6, q7, q8, q9, q10, q11⟩ := R; omega)
  clear HNO
  go_wp2_with fail
  go_ret
  rw [HR.out]
  exact ⟨rfl, HE.out⟩
 have e2 : decide (k.fast < k.slow) = false := decide_eq_false h2
 by_cases h3 : 64 < k.fast
 ·have e3 : decide (k.fast > 64) = true := decide_eq_true h3
  have HR : Hid (chkK k = 120) := HNO.out (fun R => by obtain ⟨q1, q2, q3, q4, q5, q6, q7, q8, q9, q10, q11⟩ := R; omega)
  clear HNO
  go_wp2_with fail
  go_ret
  rw [HR.out]
  exact ⟨rfl, HE.out⟩
 have e3 : decide (k.fast > 64) = false := decide_eq_false h3
 by_cases h4 : k.places < 1
 ·have e4 : decide (k.places < 1) = true := decide_eq_true h4
  have HR : Hid (chkK k = 120) := HNO.out (fun R => by obtain ⟨q1, q2, q3, q4, q5, q6, q7, q8, q9, q10, q11⟩ := R; omega)
  clear HNO
  go_wp2_with fail
  go_ret
  rw [HR.out]
  exact ⟨rfl, HE.out⟩
 have e4 : decide (k.places < 1) = false := decide_eq_false h4
 by_cases h5 : 8 < k.places
 ·have e5 : decide (k.places > 8) = true := decide_eq_true h5
  have HR : Hid (chkK k = 120) := HNO.out (fun R => by obtain ⟨q1, q2, q3, q4, q5, q6, q7, q8, q9, q10, q11⟩ := R; omega)
  clear HNO
  go_wp2_with fail
  go_ret
  rw [HR.out]
  exact ⟨rfl, HE.out⟩
 have e5 : decide (k.places > 8) = false := decide_eq_false h5
 by_cases h6 : k.weight < 1
 ·have e6 : decide (k.weight < 1) = true := decide_eq_true h6
  have HR : Hid (chkK k = 120) := HNO.out (fun R => by obtain ⟨q1, q2, q3, q4, q5, q6, q7, q8, q9, q10, q11⟩ := R; omega)
  clear HNO
  go_wp2_with fail
  go_ret
  rw [HR.out]
  exact ⟨rfl, HE.out⟩
 have e6 : decide (k.weight < 1) = false := decide_eq_false h6
 by_cases h7 : 8 < k.weight
 ·have e7 : decide (k.weight > 8) = true := decide_eq_true h7
  have HR : Hid (chkK k = 120) := HNO.out (fun R => by obtain ⟨q1, q2, q3, q4, q5, q6, q7, q8, q9, q10, q11⟩ := R; omega)
  clear HNO
  go_wp2_with fail
  go_ret
  rw [HR.out]
  exact ⟨rfl, HE.out⟩
 have e7 : decide (k.weight > 8) = false := decide_eq_false h7
 by_cases h8 : k.longest < 0
 ·have e8 : decide (k.longest < 0) = true := decide_eq_true h8
  have HR : Hid (chkK k = 120) := HNO.out (fun R => by obtain ⟨q1, q2, q3, q4, q5, q6, q7, q8, q9, q10, q11⟩ := R; omega)
  clear HNO
  go_wp2_with fail
  go_ret
  rw [HR.out]
  exact ⟨rfl, HE.out⟩
 have e8 : decide (k.longest < 0) = false := decide_eq_false h8
 by_cases h9 : 60 < k.longest
 ·have e9 : decide (k.longest > 60) = true := decide_eq_true h9
  have HR : Hid (chkK k = 120) := HNO.out (fun R => by obtain ⟨q1, q2, q3, q4, q5, q6, q7, q8, q9, q10, q11⟩ := R; omega)
  clear HNO
  go_wp2_with fail
  go_ret
  rw [HR.out]
  exact ⟨rfl, HE.out⟩
 have e9 : decide (k.longest > 60) = false := decide_eq_false h9
 by_cases h10 : k.longest % 10 = 0
 rotate_left
 ·have e10 : (k.longest % 10 != 0) = true := by simpa using h10
  have HR : Hid (chkK k = 120) := HN2.out h10
  clear HN2 HNO
  go_wp2_with fail
  go_ret
  rw [HR.out]
  exact ⟨rfl, HE.out⟩
 have e10 : (k.longest % 10 != 0) = false := by simpa using h10
 by_cases h11 : 16 < k.cur.l.length
 ·have e11 : decide ((k.cur.l.length : Int) > 16) = true := decide_eq_true (by omega)
  have HR : Hid (chkK k = 120) := HNO.out (fun R => by have := R.c1; omega)
  clear HNO
  go_wp2_with fail
  go_ret
  rw [HR.out]
  exact ⟨rfl, HE.out⟩
 have e11 : decide ((k.cur.l.length : Int) > 16) = false := decide_eq_false (by omega)
 have HRG : Hid (Rng k) := ⟨by omega, by omega, by omega, by omega, by omega, by omega, by omega, by omega, by omega, by omega, by omega⟩
 have HV : Hid (chkK k = if k.cur.l.any badCu then 120 else 0) := by
  unfold chkK vldK
  rw [(rngB_iff k).2 HRG.out, show (k.longest % 10 == 0) = true from by simpa using h10]
  cases k.cur.l.any badCu <;> simp [Hid]
 clear HNO HN2 HRG
 go_wp2_with fail
 clear hW b0 b1 b2 b3 b4 e0 e1 e2 e3 e4 e5 e6 e7 e8 e9 e10 e11 h0 h1 h2 h3 h4 h5 h6 h7 h8 h9 h10 h11
 clear b5 bl
 go_loopw [3] (fun i wr => ∃ j : Nat, j ≤ k.cur.l.length ∧ i = .int .i64 j ∧ Hid (k.cur.l.any badCu = (k.cur.l.drop j).any badCu) ∧ Hid (Below W.heap.size W wr)) (fun i _ => k.cur.l.length - (intOf i).toNat)
 case atStart => exact ⟨0, Nat.zero_le _, rfl, rfl, ext_refl _⟩
 case round =>
  obtain ⟨j, hj, rfl, HQ, HR⟩ := hrel
  have b5 := (HB.out.ext HR.out).c 5 _ rfl
  have bl := (HB.out.ext HR.out).lt
  by_cases hlt : j < k.cur.l.length
  ·obtain ⟨x, q1, o1, hx, hA, hb1, hc⟩ := (HK.out.slc.ext HR.out).at_ hlt
   have HX := Lib.hid hx
   have HXO := Lib.hid (HK.out.all (List.mem_of_getElem? hx))
   have c0 := hc 0 _ rfl
   simp only [Nat.mul_one, Nat.add_zero] at c0
   have hlt' : (j : Int) < k.cur.l.length := by omega
   rw [hA] at b5
   clear hc hx hA
   obtain ⟨r, hr⟩ : ∃ r, chkHE x.l = r := ⟨_, rfl⟩
   have HBC : Hid (badCu x = (r != 0)) := by simp [Hid, badCu, hr]
   have HRR := Lib.hid hr
   have hr01 := chkHE_01 x.l
   rw [hr] at hr01
   clear hr
   go_wp2_with fail
   refine (rhc_at r HRR.out rfl (HXO.out.slc.ext HR.out) HXO.out.len).mono ?_
   rintro e w1 ⟨rfl, B⟩
   have HR1 := Lib.hid (ext_trans HR.out B)
   clear b5 c0 bl B
   rcases hr01 with rfl | rfl
   ·have HN := Lib.hid (any_step (p := badCu) HX.out (by rw [HBC.out]; rfl))
    go_wp2_with fail
    first | exact ⟨⟨j + 1, by omega, by go_num, HQ.out.trans HN.out, HR1.out⟩, by simp [intOf] <;> omega⟩ | (go_roundw; all_goals first | exact ⟨j + 1, by omega, by go_num, HQ.out.trans HN.out, HR1.out⟩ | (simp [intOf] <;> omega))
   ·have HN := Lib.hid (any_hitD (p := badCu) HX.out (by rw [HBC.out]; rfl))
    go_wp2_with fail
    go_ret
    rw [HV.out, HQ.out, HN.out]
    exact ⟨rfl, ext_trans HE.out HR1.out⟩
  ·have hlt' : decide ((j : Int) < k.cur.l.length) = false := decide_eq_false (by omega)
   have hd : k.cur.l.drop j = [] := List.drop_eq_nil_of_le (by omega)
   rw [hd] at HQ
   clear hd
   go_wp2_with fail
   go_ret
   rw [HV.out, HQ.out]
   exact ⟨rfl, ext_trans HE.out HR.out⟩
theorem rkc_at {k : Kd} {w : World} (r : Int) (hr : chkK k = r) (hk : Kd.ok w k) : Calls Tryz.prog 70 #[k.v] w (RetE w r) := by
 subst hr; exact rkc_any k w hk
theorem idx_no {n : Nat} {l : List Int} {k : Nat} (h : idxB n (l.take (k + 1)) = false) : idxB n l = false := by
 cases e : idxB n l
 ·rfl
 ·rw [← List.take_append_drop (k + 1) l] at e
  rw [idx_pre e] at h; cases h
theorem idx_take {n : Nat} {l : List Int} {k : Nat} {x : Int} (hx : l[k]? = some x) (h : idxB n (l.take k) = true) : idxB n (l.take (k + 1)) = (inn x 0 (n - 1) && !((l.take k).any (· == x))) := by
 rw [List.take_add_one, hx, Option.toList_some, idx_snoc, h, Bool.true_and]
set_option maxRecDepth 100000 in
theorem slice_headI (A : Option Addr) (len c k : Nat) (i : Int) (hi : i = k) (h2 : k ≤ c) (w : World) : (Instr.sliceAt 39 (.slice A len c) none (some (.int .i64 i)) none).run Tryz.prog w = .ok (.slice A k c) w := by
 subst hi
 have hs : (sizeOf (Tryz.prog.elem 39)).run Tryz.prog w = .ok 1 w := by kernel_rfl
 rw [run_sliceAt_slice w 39 _ _ _ _ Tryz.underlying39, run_slice_h w 39 A len c Tryz.underlying39 _ _ (by omega) (by omega)]
 simp only [hs, Result.andThen, sliced]
 have : (fun x : Addr => x.add (0 * 1)) = id := by funext a; simp [Addr.add]
 rw [this]
 simp
set_option maxHeartbeats 8000000 in
theorem idxr_any (A : Option Addr) (c : Nat) (l : List Int) (n : Nat) (w : World) (ha : Slc w ic 1 A l) (hn : l.length ≤ c) (hc : c ≤ maxLen) : Calls Tryz.prog 108 #[.slice A l.length c, .int .i64 n] w (RetB w (idxB n l)) := by
 have HA := Lib.hid ha
 clear ha
 unfold maxLen at hc
 go_enter Tryz.func108, Tryz.ntmps108
 go_wp2_with fail
 go_loopw [5] (fun i wr => ∃ k : Nat, k ≤ l.length ∧ i = .int .i64 k ∧ Hid (idxB n (l.take k) = true) ∧ Hid (Below w.heap.size w wr)) (fun i _ => l.length - (intOf i).toNat)
 case atStart => exact ⟨0, Nat.zero_le _, rfl, rfl, ext_refl _⟩
 case round =>
  obtain ⟨k, hk, rfl, HQ, HB⟩ := hrel
  by_cases hlt : k < l.length
  ·obtain ⟨x, q1, o1, hx, rfl, hb1, hcx⟩ := (HA.out.ext HB.out).at_ hlt
   have HSN := Lib.hid (idx_take hx HQ.out)
   have c0 := hcx 0 _ rfl
   simp only [Nat.mul_one, Nat.add_zero] at c0
   have hlt' : (k : Int) < l.length := by omega
   have hkc : k ≤ c := by omega
   clear hcx hx
   by_cases g0 : x < 0
   ·have e0 : decide (x < 0) = true := decide_eq_true g0
    have HN : Hid (idxB n l = false) := idx_no (k := k) (by rw [HSN.out, show inn x 0 (n - 1) = false from by simp [inn]; omega]; rfl)
    clear HSN
    go_wp2_with fail
    have SS := Lib.hid (show ∀ w', Below wr.heap.size wr w' → (fun w' => Below wr.heap.size wr w' ∧ w'.cell? ⟨q1, o1 + k, none⟩ = some (.int .i64 x)) w' from fun w' h => ⟨h, (h.cell (p := ⟨q1, o1 + k, none⟩) hb1).trans c0⟩)
    refine rgB 23 SS (ext_drew (ext_refl _)) (fun Q7 hQ7 hN7 hHeld => ?_)
    refine rgT 0 (some 12) hQ7 hHeld ?_; refine rgT 1 (some 13) hQ7 hHeld ?_; refine rgT 2 (some 14) hQ7 hHeld ?_; refine rgT 3 (some 15) hQ7 hHeld ?_; refine rgT 4 (some 16) hQ7 hHeld ?_; refine rgT 5 (some 17) hQ7 hHeld ?_; refine rgS 6 (some 18) hQ7 hHeld ?_; refine rgS 7 (some 19) hQ7 hHeld ?_; refine rgS 8 (some 20) hQ7 hHeld ?_; refine rgS 9 (some 21) hQ7 hHeld ?_; refine rgS 10 (some 22) hQ7 hHeld ?_
    refine rgS 11 (some 23) hQ7 hHeld ?_; refine rgT 12 (some 24) hQ7 hHeld ?_; refine rgT 13 (some 25) hQ7 hHeld ?_; refine rgS 14 (some 26) hQ7 hHeld ?_; refine rgS 15 (some 27) hQ7 hHeld ?_; refine rgS 16 (some 28) hQ7 hHeld ?_; refine rgS 17 (some 29) hQ7 hHeld ?_; refine rgS 18 (some 30) hQ7 hHeld ?_; refine rgS 19 (some 31) hQ7 hHeld ?_; refine rgS 20 (some 32) hQ7 hHeld ?_; refine rgS 21 (some 33) hQ7 hHeld ?_
    refine rgT 22 (some 34) hQ7 hHeld ?_
    refine rg_end (by kernel_rfl) (hN7 _ _ ?_) _
    clear hQ7 hN7 Q7
    have BX := hHeld.1
    clear SS
    go_wp2_with fail
    go_ret
    exact ⟨ret_bool HN.out.symm, ext_trans HB.out BX⟩
   have e0 : decide (x < 0) = false := decide_eq_false g0
   by_cases g1 : (n : Int) ≤ x
   ·have e1 : decide (x ≥ (n : Int)) = true := decide_eq_true g1
    have HN : Hid (idxB n l = false) := idx_no (k := k) (by rw [HSN.out, show inn x 0 (n - 1) = false from by simp [inn]; omega]; rfl)
    clear HSN
    go_wp2_with fail
    have SS := Lib.hid (show ∀ w', Below wr.heap.size wr w' → (fun w' => Below wr.heap.size wr w' ∧ w'.cell? ⟨q1, o1 + k, none⟩ = some (.int .i64 x)) w' from fun w' h => ⟨h, (h.cell (p := ⟨q1, o1 + k, none⟩) hb1).trans c0⟩)
    refine rgB 23 SS (ext_drew (ext_refl _)) (fun Q7 hQ7 hN7 hHeld => ?_)
    refine rgT 0 (some 12) hQ7 hHeld ?_; refine rgT 1 (some 13) hQ7 hHeld ?_; refine rgT 2 (some 14) hQ7 hHeld ?_; refine rgT 3 (some 15) hQ7 hHeld ?_; refine rgT 4 (some 16) hQ7 hHeld ?_; refine rgT 5 (some 17) hQ7 hHeld ?_; refine rgT 6 (some 18) hQ7 hHeld ?_; refine rgT 7 (some 19) hQ7 hHeld ?_; refine rgT 8 (some 20) hQ7 hHeld ?_; refine rgT 9 (some 21) hQ7 hHeld ?_; refine rgT 10 (some 22) hQ7 hHeld ?_
    refine rgT 11 (some 23) hQ7 hHeld ?_; refine rgT 12 (some 24) hQ7 hHeld ?_; refine rgT 13 (some 25) hQ7 hHeld ?_; refine rgS 14 (some 26) hQ7 hHeld ?_; refine rgS 15 (some 27) hQ7 hHeld ?_; refine rgS 16 (some 28) hQ7 hHeld ?_; refine rgS 17 (some 29) hQ7 hHeld ?_; refine rgS 18 (some 30) hQ7 hHeld ?_; refine rgS 19 (some 31) hQ7 hHeld ?_; refine rgS 20 (some 32) hQ7 hHeld ?_; refine rgS 21 (some 33) hQ7 hHeld ?_
    refine rgT 22 (some 34) hQ7 hHeld ?_
    refine rg_end (by kernel_rfl) (hN7 _ _ ?_) _
    clear hQ7 hN7 Q7
    have BX := hHeld.1
    clear SS
    go_wp2_with fail
    go_ret
    exact ⟨ret_bool HN.out.symm, ext_trans HB.out BX⟩
   have e1 : decide (x ≥ (n : Int)) = false := decide_eq_false g1
   obtain ⟨r, hr⟩ : ∃ r, (l.take k).any (· == x) = r := ⟨_, rfl⟩
   have HC := Lib.hid hr
   have HIN : Hid (inn x 0 (n - 1) = true) := by simp [Hid, inn]; omega
   have htk : k = (l.take k).length := by rw [List.length_take]; omega
   have HTK := Lib.hid htk
   have HAT := Lib.hid (HA.out.take k)
   clear hr htk g0 g1
   have hs1 := fun w7 => slice_headI (some ⟨q1, o1, none⟩) l.length c k _ rfl hkc w7
   go_wp2_with fail
   have SS := Lib.hid (show ∀ w', Below wr.heap.size wr w' → (fun w' => Below wr.heap.size wr w' ∧ w'.cell? ⟨q1, o1 + k, none⟩ = some (.int .i64 x)) w' from fun w' h => ⟨h, (h.cell (p := ⟨q1, o1 + k, none⟩) hb1).trans c0⟩)
   refine rgB 23 SS (ext_drew (ext_refl _)) (fun Q7 hQ7 hN7 hHeld => ?_)
   refine rgT 0 (some 12) hQ7 hHeld ?_; refine rgT 1 (some 13) hQ7 hHeld ?_; refine rgT 2 (some 14) hQ7 hHeld ?_; refine rgT 3 (some 15) hQ7 hHeld ?_; refine rgT 4 (some 16) hQ7 hHeld ?_; refine rgT 5 (some 17) hQ7 hHeld ?_; refine rgT 6 (some 18) hQ7 hHeld ?_; refine rgT 7 (some 19) hQ7 hHeld ?_; refine rgT 8 (some 20) hQ7 hHeld ?_; refine rgT 9 (some 21) hQ7 hHeld ?_; refine rgT 10 (some 22) hQ7 hHeld ?_
   refine rgT 11 (some 23) hQ7 hHeld ?_; refine rgT 12 (some 24) hQ7 hHeld ?_; refine rgT 13 (some 25) hQ7 hHeld ?_; refine rgT 14 (some 26) hQ7 hHeld ?_; refine rgT 15 (some 27) hQ7 hHeld ?_
   refine rg_take (i := 16) (some 28) (v := .slice (some ⟨q1, o1, none⟩) k c) rfl rfl (by kernel_rfl) (by rfl) hQ7 hHeld (fun w7 hSw => run_v (hs1 w7)) ?_
   try simp only [Act.put, List.setIfInBounds_toArray, List.set_cons_zero, List.set_cons_succ]
   refine rgT 17 (some 29) hQ7 hHeld ?_; refine rgT 18 (some 30) hQ7 hHeld ?_; refine rgT 19 (some 31) hQ7 hHeld ?_; refine rgT 20 (some 32) hQ7 hHeld ?_
   refine rg_one (i := 21) (by kernel_rfl) (rg_step rfl (by rfl) (fun K hK => ?_))
   go_simp
   refine (has_at (l := l.take k) r HC.out HTK.out ((HAT.out.ext HB.out).ext hHeld.1) (by rw [List.length_take]; unfold maxLen; omega)).mono ?_
   rintro e u1 ⟨rfl, B1⟩
   go_wp2_with fail
   refine hK.out _ _ ?_ (fun hHeld2 => ?_)
   ·exact SS.out _ (ext_trans hHeld.1 B1)
   clear hHeld
   have hHeld := hHeld2
   clear hHeld2
   clear hK K
   try simp only [Act.put, List.setIfInBounds_toArray, List.set_cons_zero, List.set_cons_succ]
   refine rgT 22 (some 34) hQ7 hHeld ?_
   refine rg_end (by kernel_rfl) (hN7 _ _ ?_) _
   clear hQ7 hN7 Q7
   have BX := hHeld.1
   clear SS
   have HB1 := Lib.hid (ext_trans HB.out BX)
   cases r
   ·have HN : Hid (idxB n (l.take (k + 1)) = true) := by rw [HSN.out, HIN.out, HC.out]; rfl
    clear c0 BX HSN
    go_wp2_with fail
    first | exact ⟨⟨k + 1, by omega, by go_num, HN.out, HB1.out⟩, by simp [intOf] <;> omega⟩ | (go_roundw; all_goals first | exact ⟨k + 1, by omega, by go_num, HN.out, HB1.out⟩ | (simp [intOf] <;> omega))
   ·have HN : Hid (idxB n l = false) := idx_no (k := k) (by rw [HSN.out, HIN.out, HC.out]; rfl)
    clear HSN
    go_wp2_with fail
    go_ret
    exact ⟨ret_bool HN.out.symm, HB1.out⟩
  ·have hlt' : decide ((k : Int) < l.length) = false := decide_eq_false (by omega)
   have hd : l.take k = l := List.take_of_length_le (by omega)
   rw [hd] at HQ
   clear hd
   go_wp2_with fail
   go_ret
   exact ⟨ret_bool HQ.out.symm, HB.out⟩
theorem idxr_at {A : Option Addr} {m c : Nat} {l : List Int} {n : Nat} {w : World} (r : Bool) (hr : idxB n l = r) (hm : m = l.length) (ha : Slc w ic 1 A l) (hn : l.length ≤ c) (hc : c ≤ maxLen) : Calls Tryz.prog 108 #[.slice A m c, .int .i64 n] w (RetB w r) := by
 subst hr hm; exact idxr_any A c l n w ha hn hc
end Go.Proofs.YtjiojpoiocdnmaaGreat
