import Derived.Test.YtjebmcbpiobbaaaN
import Derived.Test.YtjebmcbpiobbaaaL
namespace Go.Proofs.Ytjebmcbpiobbaaa
open Go.RowKit

theorem issue_at {A : Option Addr} {c : Nat} {l : List Clr} {fl m : Int} {o : Opt} {w : World} {n : Nat} (r : List Clr × Int) (hr : issue l fl o m = r) (hl : n = l.length) (ha : Slc w Clr.cells 9 A l) (hn : l.length < 1000000) (hc : l.length ≤ c) :
    Calls Try.prog 12 #[.slice A n c, .int .i64 fl, .agg #[.int .i64 o.d, .int .i64 o.y, .int .i64 o.h, .bool o.c], .int .i64 m] w (RetL w r) := by
  subst hr hl; exact issue_any A c l fl m o w ha hn hc
theorem read_at {A : Option Addr} {c : Nat} {l : List Clr} {no : Int} {w : World} {n : Nat} (r : List Clr × Int) (hr : read l no = r) (hl : n = l.length) (ha : Slc w Clr.cells 9 A l) (hn : l.length < 1000000) :
    Calls Try.prog 19 #[.slice A n c, .int .i64 no] w (RetL w r) := by
  subst hr hl; exact read_any A c l no w ha hn
theorem withdraw_at {A : Option Addr} {c : Nat} {l : List Clr} {no : Int} {w : World} {n : Nat} (r : List Clr × Int) (hr : withdraw l no = r) (hl : n = l.length) (ha : Slc w Clr.cells 9 A l) (hn : l.length < 1000000) :
    Calls Try.prog 21 #[.slice A n c, .int .i64 no] w (RetL w r) := by
  subst hr hl; exact withdraw_any A c l no w ha hn
theorem inForce_at {A : Option Addr} {c : Nat} {l : List Clr} {fl : Int} {w : World} {n : Nat} (r : Clr × Bool) (hr : inForce l fl = r) (hl : n = l.length) (ha : Slc w Clr.cells 9 A l) (hn : l.length < 1000000) :
    Calls Try.prog 14 #[.slice A n c, .int .i64 fl] w (RetC w r) := by
  subst hr hl; exact inForce_any A c l fl w ha hn
theorem same_at {A B : Option Addr} {ca cb : Nat} {a b : List Clr} {w : World} {n m : Nat} (r : Bool) (hr : decide (a = b) = r) (hl : n = a.length) (hm : m = b.length) (ha : Slc w Clr.cells 9 A a) (hb : Slc w Clr.cells 9 B b) (hn : a.length < 1000000) :
    Calls Try.prog 16 #[.slice A n ca, .slice B m cb] w fun e w' => e = .returned (.bool r) ∧ Below w.heap.size w w' := by
  subst hr hl hm; exact same_any A B ca cb a b w ha hb (by omega)
theorem check_at {A : Option Addr} {c : Nat} {l : List Clr} {w : World} {n : Nat} (r : Int) (hr : chkE l = r) (hl : n = l.length) (ha : Slc w Clr.cells 9 A l) (hn : l.length < 1000000) :
    Calls Try.prog 17 #[.slice A n c] w fun e w' => e = .returned (.int .i64 r) ∧ Below w.heap.size w w' := by
  subst hr hl; exact check_any A c l w ha (by omega)

def o1 : Opt := ⟨20, 1, 5, false⟩
def c1 : Clr := ⟨0, 7, 60, o1, false, false⟩
def c1r : Clr := ⟨0, 7, 60, o1, true, false⟩
def c1w : Clr := ⟨0, 7, 60, o1, false, true⟩
def c2 : Clr := ⟨1, 7, 61, ⟨0, 0, 0, true⟩, false, false⟩

set_option maxHeartbeats 4000000 in
set_option maxRecDepth 100000 in
theorem sane_any (w : World) : Calls Try.prog 10 #[] w fun e w' => e = .returned (.bool true) ∧ Below w.heap.size w w' := by
  go_enter Try.func10, Try.ntmps10
  go_wp2_with fail
  refine (issue_at (o := ⟨20, 1, 5, false⟩) ([c1], 0) (by decide +kernel) (l := []) rfl Slc.nil (by decide) (by decide)).mono ?_
  rintro e w1 ⟨A1, k1, rfl, S1, hk1, B1⟩
  have B1' := Lib.hid B1
  clear B1
  simp only [List.length_cons, List.length_nil] at hk1 ⊢
  go_wp2_with fail
  refine (issue_at (o := ⟨0, 0, 0, false⟩) ([], 340) (by decide +kernel) (l := [c1]) rfl S1 (by decide) hk1).mono ?_
  rintro e w2 ⟨A2, k2, rfl, S2, hk2, B2⟩
  simp only [List.length_nil] at hk2 ⊢
  go_wp2_with fail
  refine (read_at ([c1r], 0) (by decide +kernel) (l := [c1]) rfl (S1.ext B2) (by decide)).mono ?_
  rintro e w3 ⟨A3, k3, rfl, S3, hk3, B3⟩
  simp only [List.length_cons, List.length_nil] at hk3 ⊢
  go_wp2_with fail
  refine (read_at ([c1r], 0) (by decide +kernel) (l := [c1r]) rfl S3 (by decide)).mono ?_
  rintro e w4 ⟨A4, k4, rfl, S4, hk4, B4⟩
  simp only [List.length_cons, List.length_nil] at hk4 ⊢
  go_wp2_with fail
  refine (withdraw_at ([], 341) (by decide +kernel) (l := [c1r]) rfl (S3.ext B4) (by decide)).mono ?_
  rintro e w5 ⟨A5, k5, rfl, S5, hk5, B5⟩
  simp only [List.length_nil] at hk5 ⊢
  go_wp2_with fail
  refine (withdraw_at ([c1w], 0) (by decide +kernel) (l := [c1]) rfl (((S1.ext B2).ext B3).ext (ext_trans B4 B5)) (by decide)).mono ?_
  rintro e w6 ⟨A6, k6, rfl, S6, hk6, B6⟩
  simp only [List.length_cons, List.length_nil] at hk6 ⊢
  go_wp2_with fail
  refine (issue_at (o := ⟨0, 0, 0, true⟩) ([c1w, c2], 0) (by decide +kernel) (l := [c1w]) rfl S6 (by decide) hk6).mono ?_
  rintro e w7 ⟨A7, k7, rfl, S7, hk7, B7⟩
  simp only [List.length_cons, List.length_nil] at hk7 ⊢
  go_wp2_with fail
  refine (inForce_at (c2, true) (by decide +kernel) (l := [c1w, c2]) rfl S7 (by decide)).mono ?_
  rintro e w8 ⟨rfl, B8⟩
  simp only [c2]
  go_wp2_with fail
  have B8' : Below w8.heap.size w8 (w8.alloc (.cells #[.int .i64 1, .int .i64 7, .int .i64 61, .int .i64 0, .int .i64 0, .int .i64 0, .bool true, .bool false, .bool false] 31)) := ext_alloc (ext_refl _) _
  refine (inForce_at (zeroC, false) (by decide +kernel) (l := []) rfl Slc.nil (by decide)).mono ?_
  rintro e w9 ⟨rfl, B9⟩
  simp only [zeroC]
  have HB9 := Lib.hid B9
  clear B9
  go_wp2_with fail
  refine (read_at ([], 340) (by decide +kernel) (l := []) rfl Slc.nil (by decide)).mono ?_
  rintro e w10 ⟨A10, k10, rfl, S10, hk10, B10⟩
  have HB10 := Lib.hid (ext_trans (ext_alloc (ext_refl w9) _) B10)
  clear B10
  simp only [List.length_nil] at hk10 ⊢
  go_wp2_with fail
  refine (issue_at (o := ⟨7, 0, 0, false⟩) ([], 340) (by decide +kernel) (l := []) rfl Slc.nil (by decide) (by decide)).mono ?_
  rintro e w11 ⟨A11, k11, rfl, S11, hk11, B11⟩
  simp only [List.length_nil] at hk11 ⊢
  have E3 : Below w3.heap.size w3 w8 := ext_trans (ext_trans (ext_trans (ext_trans B4 B5) B6) B7) B8
  have E8 : Below w8.heap.size w8 w11 := ext_trans (ext_trans (ext_trans B8' HB9.out) HB10.out) B11
  have E1 : Below w1.heap.size w1 w11 := ext_trans (ext_trans (ext_trans B2 B3) E3) E8
  have E6 : Below w6.heap.size w6 w11 := ext_trans (ext_trans B7 B8) E8
  have E0 := ext_trans B1'.out E1
  have E9 := ext_trans (ext_trans HB9.out HB10.out) B11
  have d0 : w11.cell? ⟨w.heap.size, 0, none⟩ = some (.int .i64 20) := by rw [E0.cell (by simp)]; simp
  have d1 : w11.cell? ⟨w.heap.size, 1, none⟩ = some (.int .i64 1) := by rw [E0.cell (by simp)]; simp
  have d2 : w11.cell? ⟨w.heap.size, 2, none⟩ = some (.int .i64 5) := by rw [E0.cell (by simp)]; simp
  have d3 : w11.cell? ⟨w.heap.size, 3, none⟩ = some (.bool false) := by rw [E0.cell (by simp)]; simp
  have f0 : w11.cell? ⟨w8.heap.size, 0, none⟩ = some (.int .i64 1) := by rw [E9.cell (by simp)]; simp
  have f6 : w11.cell? ⟨w8.heap.size, 6, none⟩ = some (.bool true) := by rw [E9.cell (by simp)]; simp
  have T1 := S1.ext E1
  have T3 := S3.ext (ext_trans E3 E8)
  have T4 := S4.ext (ext_trans (ext_trans (ext_trans (ext_trans B5 B6) B7) B8) E8)
  have T6 := S6.ext E6
  have T7 := S7.ext (ext_trans B8 E8)
  have EW : Below w.heap.size w w11 := ext_trans (ext_alloc (ext_refl w) _) E0
  have s8 : w8.heap.size < w11.heap.size := by have := E9.size; simp at this; omega
  have s0 : w.heap.size < w11.heap.size := by have := E0.size; simp at this; omega
  clear S1 S2 S3 S4 S5 S6 S7 S10 S11 B1' B2 B3 B4 B5 B6 B7 B8 B8' HB9 HB10 B11 E0 E1 E3 E6 E8 E9
  obtain ⟨x3, b3, o3, hx3, rfl, hb3, hc3⟩ := T3.at_ (k := 0) (by decide)
  cases hx3
  have g3 := hc3 7 _ rfl
  obtain ⟨x6, b6, o6, hx6, rfl, hb6, hc6⟩ := T6.at_ (k := 0) (by decide)
  cases hx6
  have g6 := hc6 8 _ rfl
  simp only [Nat.zero_mul, Nat.add_zero] at g3 g6
  clear hc3 hc6
  go_wp2_with fail
  refine (same_at (a := [c1]) (b := [c1]) true (by decide +kernel) rfl rfl (T1.alloc _) (slc_litH w11 [c1] _ 31 clr_len rfl w11.heap.size rfl) (by decide)).mono ?_
  rintro e w12 ⟨rfl, B12⟩
  have B12' := ext_trans (ext_alloc (ext_refl w11) _) B12
  clear B12
  have g3' : w12.cell? ⟨b3, o3 + 7, none⟩ = some (.bool true) := (B12'.cell (p := ⟨b3, o3 + 7, none⟩) hb3).trans g3
  go_wp2_with fail
  refine (same_at (a := [c1r]) (b := [c1r]) true (by decide +kernel) rfl rfl (T3.ext B12') (T4.ext B12') (by decide)).mono ?_
  rintro e w13 ⟨rfl, B13⟩
  have B13' := ext_trans B12' B13
  clear B13
  have g6' : w13.cell? ⟨b6, o6 + 8, none⟩ = some (.bool true) := (B13'.cell (p := ⟨b6, o6 + 8, none⟩) hb6).trans g6
  have f0' : w13.cell? ⟨w8.heap.size, 0, none⟩ = some (.int .i64 1) := (B13'.cell (p := ⟨w8.heap.size, 0, none⟩) s8).trans f0
  have f6' : w13.cell? ⟨w8.heap.size, 6, none⟩ = some (.bool true) := (B13'.cell (p := ⟨w8.heap.size, 6, none⟩) s8).trans f6
  clear f0 f6 g6 g3 g3'
  go_wp2_with fail
  refine (check_at (l := []) 0 (by decide +kernel) rfl Slc.nil (by decide)).mono ?_
  rintro e w14 ⟨rfl, B14⟩
  go_wp2_with fail
  refine (check_at (l := [c1w, c2]) 0 (by decide +kernel) rfl (T7.ext (ext_trans B13' B14)) (by decide)).mono ?_
  rintro e w15 ⟨rfl, B15⟩
  go_wp2_with fail
  go_ret
  exact ⟨rfl, ext_trans (ext_trans (ext_trans EW B13') B14) B15⟩
end Go.Proofs.Ytjebmcbpiobbaaa
