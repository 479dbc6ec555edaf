import Derived.Test.YtjebmcbpiobbaaaO
import Derived.Test.YtjebmcbpiobbaaaRd2
namespace Go.Proofs.Ytjebmcbpiobbaaa
open Go.RowKit

def Tru (w : World) (e : Ending) (w' : World) : Prop := e = .returned (.bool true) ∧ Below w.heap.size w w'

theorem rissue_at {A : Option Addr} {c : Nat} {l : List Clr} {fl m : Int} {o : Opt} {w : World} {n : Nat} (r : List Clr × Int) (hr : issue l fl o m = r) (hl : n = l.length) (ha : Slc w Clr.cells 9 A l) (hn : l.length < 1000000) (hc : l.length ≤ c) :
    Calls Try.prog 13 #[.slice A n c, .int .i64 fl, .agg #[.int .i64 o.d, .int .i64 o.y, .int .i64 o.h, .bool o.c], .int .i64 m] w (RetL w r) := by
  subst hr hl; exact rissue_any A c l fl m o w ha hn hc
theorem rinForce_at {A : Option Addr} {c : Nat} {l : List Clr} {fl : Int} {w : World} {n : Nat} (r : Clr × Bool) (hr : inForce l fl = r) (hl : n = l.length) (ha : Slc w Clr.cells 9 A l) (hn : l.length < 1000000) :
    Calls Try.prog 15 #[.slice A n c, .int .i64 fl] w (RetC w r) := by
  subst hr hl; exact rinForce_any A c l fl w ha hn
set_option maxHeartbeats 4000000 in
set_option maxRecDepth 100000 in
theorem law3 (A : Option Addr) (c : Nat) (l : List Clr) (fl m : Int) (o : Opt) (w : World) (ha : Slc w Clr.cells 9 A l) (hc : l.length ≤ c) :
    Calls Try.prog 3 #[.slice A l.length c, .int .i64 fl, o.v, .int .i64 m] w (Tru w) := by
  obtain ⟨⟨xs, er⟩, hr⟩ : ∃ r, issue l fl o m = r := ⟨_, rfl⟩
  have HR := Lib.hid hr
  obtain ⟨⟨ci, bi⟩, hi⟩ : ∃ r, inForce l fl = r := ⟨_, rfl⟩
  have HI := Lib.hid hi
  have hls : Hid (l.length ≤ 40 → xs.length < 1000000) := by
    intro h40
    have : xs = (issue l fl o m).1 := by rw [hr]
    rw [this]
    unfold issue; split
    · split <;> simp; omega
    · simp
  clear hr hi
  go_enter Try.func3, Try.ntmps3
  go_wp2_with fail
  refine (sane_any _).mono ?_
  rintro e w1 ⟨rfl, B1⟩
  have hb1 : Below w.heap.size w w1 := ext_trans (ext_alloc (ext_refl w) _) B1
  obtain ⟨hcc, _⟩ := bcell B1
  have d0 : w1.cell? ⟨w.heap.size, 0, none⟩ = some (.int .i64 o.d) := by rw [hcc _ _ (by simp)]; simp
  have d1 : w1.cell? ⟨w.heap.size, 1, none⟩ = some (.int .i64 o.y) := by rw [hcc _ _ (by simp)]; simp
  have d2 : w1.cell? ⟨w.heap.size, 2, none⟩ = some (.int .i64 o.h) := by rw [hcc _ _ (by simp)]; simp
  have d3 : w1.cell? ⟨w.heap.size, 3, none⟩ = some (.bool o.c) := by rw [hcc _ _ (by simp)]; simp
  have s0 : w.heap.size < w1.heap.size := by have := B1.size; simp at this; omega
  clear hcc B1
  go_wp2_with fail
  refine (few_any A l.length c _).mono ?_
  rintro e w1' ⟨rfl, rfl⟩
  by_cases hf : l.length ≤ 40
  · have hd : decide ((l.length : Int) ≤ 40) = true := by simp; omega
    rw [hd]
    clear hd
    go_wp2_with fail
    refine (issue_at (xs, er) HR.out rfl (ha.ext hb1) (by omega) hc).mono ?_
    rintro e w2 ⟨A2, k2, rfl, S2, hk2, B2⟩
    have e0 := (B2.cell (p := ⟨w.heap.size, 0, none⟩) s0).trans d0
    have e1 := (B2.cell (p := ⟨w.heap.size, 1, none⟩) s0).trans d1
    have e2 := (B2.cell (p := ⟨w.heap.size, 2, none⟩) s0).trans d2
    have e3 := (B2.cell (p := ⟨w.heap.size, 3, none⟩) s0).trans d3
    have hb2 := ext_trans hb1 B2
    clear d0 d1 d2 d3
    go_wp2_with fail
    refine (rissue_at (xs, er) HR.out rfl (ha.ext hb2) (by omega) hc).mono ?_
    rintro e w3 ⟨A3, k3, rfl, S3, hk3, B3⟩
    have hb3 := ext_trans hb2 B3
    clear e0 e1 e2 e3
    go_wp2_with fail
    refine (inForce_at (ci, bi) HI.out rfl (ha.ext hb3) (by omega)).mono ?_
    rintro e w4 ⟨rfl, B4⟩
    have hb4 := ext_trans hb3 B4
    have B4a := ext_alloc (ext_refl w4) (.cells (Clr.cells ci).toArray 31)
    go_wp2_with fail
    refine (rinForce_at (ci, bi) HI.out rfl ((ha.ext hb4).alloc _) (by omega)).mono ?_
    rintro e w5 ⟨rfl, B5⟩
    have B45 := ext_trans B4a B5
    have hb5 := ext_trans hb4 B45
    obtain ⟨hcc, _⟩ := bcell B5
    have s4 : w4.heap.size < w5.heap.size := by have := B5.size; simp at this; omega
    have B5a := ext_alloc (ext_refl w5) (.cells (Clr.cells ci).toArray 31)
    have heq := fun w => run_eql31 ci ci w
    simp only [decide_true] at heq
    have g0 : w5.cell? ⟨w4.heap.size, 0, none⟩ = some (.int .i64 ci.no) := by rw [hcc _ _ (by simp)]; simp
    have g1 : w5.cell? ⟨w4.heap.size, 1, none⟩ = some (.int .i64 ci.fl) := by rw [hcc _ _ (by simp)]; simp
    have g2 : w5.cell? ⟨w4.heap.size, 2, none⟩ = some (.int .i64 ci.iss) := by rw [hcc _ _ (by simp)]; simp
    have g3 : w5.cell? ⟨w4.heap.size, 3, none⟩ = some (.int .i64 ci.o.d) := by rw [hcc _ _ (by simp)]; simp
    have g4 : w5.cell? ⟨w4.heap.size, 4, none⟩ = some (.int .i64 ci.o.y) := by rw [hcc _ _ (by simp)]; simp
    have g5 : w5.cell? ⟨w4.heap.size, 5, none⟩ = some (.int .i64 ci.o.h) := by rw [hcc _ _ (by simp)]; simp
    have g6 : w5.cell? ⟨w4.heap.size, 6, none⟩ = some (.bool ci.o.c) := by rw [hcc _ _ (by simp)]; simp
    have g7 : w5.cell? ⟨w4.heap.size, 7, none⟩ = some (.bool ci.rd) := by rw [hcc _ _ (by simp)]; simp
    have g8 : w5.cell? ⟨w4.heap.size, 8, none⟩ = some (.bool ci.wd) := by rw [hcc _ _ (by simp)]; simp
    clear hcc
    go_wp2_with fail
    refine (same_at (a := xs) (b := xs) true (by simp) rfl rfl (((S2.ext B3).ext (ext_trans B4 B45)).alloc _) ((S3.ext (ext_trans B4 B45)).alloc _) (hls.out hf)).mono ?_
    rintro e w6 ⟨rfl, B6⟩
    have B56 := ext_trans B5a B6
    have hb6 := ext_trans hb5 B56
    obtain ⟨hcc, _⟩ := bcell B6
    have i0 : w6.cell? ⟨w4.heap.size, 0, none⟩ = _ := (B56.cell (p := ⟨w4.heap.size, 0, none⟩) s4).trans g0
    have i1 : w6.cell? ⟨w4.heap.size, 1, none⟩ = _ := (B56.cell (p := ⟨w4.heap.size, 1, none⟩) s4).trans g1
    have i2 : w6.cell? ⟨w4.heap.size, 2, none⟩ = _ := (B56.cell (p := ⟨w4.heap.size, 2, none⟩) s4).trans g2
    have i3 : w6.cell? ⟨w4.heap.size, 3, none⟩ = _ := (B56.cell (p := ⟨w4.heap.size, 3, none⟩) s4).trans g3
    have i4 : w6.cell? ⟨w4.heap.size, 4, none⟩ = _ := (B56.cell (p := ⟨w4.heap.size, 4, none⟩) s4).trans g4
    have i5 : w6.cell? ⟨w4.heap.size, 5, none⟩ = _ := (B56.cell (p := ⟨w4.heap.size, 5, none⟩) s4).trans g5
    have i6 : w6.cell? ⟨w4.heap.size, 6, none⟩ = _ := (B56.cell (p := ⟨w4.heap.size, 6, none⟩) s4).trans g6
    have i7 : w6.cell? ⟨w4.heap.size, 7, none⟩ = _ := (B56.cell (p := ⟨w4.heap.size, 7, none⟩) s4).trans g7
    have i8 : w6.cell? ⟨w4.heap.size, 8, none⟩ = _ := (B56.cell (p := ⟨w4.heap.size, 8, none⟩) s4).trans g8
    have j0 : w6.cell? ⟨w5.heap.size, 0, none⟩ = some (.int .i64 ci.no) := by rw [hcc _ _ (by simp)]; simp
    have j1 : w6.cell? ⟨w5.heap.size, 1, none⟩ = some (.int .i64 ci.fl) := by rw [hcc _ _ (by simp)]; simp
    have j2 : w6.cell? ⟨w5.heap.size, 2, none⟩ = some (.int .i64 ci.iss) := by rw [hcc _ _ (by simp)]; simp
    have j3 : w6.cell? ⟨w5.heap.size, 3, none⟩ = some (.int .i64 ci.o.d) := by rw [hcc _ _ (by simp)]; simp
    have j4 : w6.cell? ⟨w5.heap.size, 4, none⟩ = some (.int .i64 ci.o.y) := by rw [hcc _ _ (by simp)]; simp
    have j5 : w6.cell? ⟨w5.heap.size, 5, none⟩ = some (.int .i64 ci.o.h) := by rw [hcc _ _ (by simp)]; simp
    have j6 : w6.cell? ⟨w5.heap.size, 6, none⟩ = some (.bool ci.o.c) := by rw [hcc _ _ (by simp)]; simp
    have j7 : w6.cell? ⟨w5.heap.size, 7, none⟩ = some (.bool ci.rd) := by rw [hcc _ _ (by simp)]; simp
    have j8 : w6.cell? ⟨w5.heap.size, 8, none⟩ = some (.bool ci.wd) := by rw [hcc _ _ (by simp)]; simp
    clear hcc g0 g1 g2 g3 g4 g5 g6 g7 g8
    go_wp2_with fail
    refine (check_any A c l _ (ha.ext hb6) (by omega)).mono ?_
    rintro e w7 ⟨rfl, B7⟩
    go_wp2_with fail
    refine (rcheck_any A c l _ (ha.ext (ext_trans hb6 B7)) (by omega)).mono ?_
    rintro e w8 ⟨rfl, B8⟩
    go_wp2_with fail
    go_ret
    exact ⟨by simp, ext_trans (ext_trans hb6 B7) B8⟩
  · have hd : decide ((l.length : Int) ≤ 40) = false := by simp; omega
    rw [hd]
    go_wp2_with fail
    go_ret
    exact ⟨rfl, hb1⟩
end Go.Proofs.Ytjebmcbpiobbaaa
namespace Go.Proofs.Ytjebmcbpiobbaaa
open Go.RowKit
theorem walk3 (s : SliceOf Clr) (fl : Int) (o : Opt) (m : Int) (w : World) (ok : SliceOf.ok Clr.cells 9 (fun _ _ => True) w s) (_ : True) :
    Calls Try.prog 3 #[.slice s.A s.l.length s.c, .int .i64 fl, .agg o.cells.toArray, .int .i64 m] w fun e w' => e = .returned (.bool true) ∧ Below w.heap.size w w' :=
  law3 s.A s.c s.l fl m o w ok.1 ok.2.1
end Go.Proofs.Ytjebmcbpiobbaaa
