/- Small contracts: credits that are valid; their order. -/
import Derived.Test.YtafglcalimcdcaaA
import Derived.Test.YtafglcalimcdcaaRg
import Derived.Test.YtafglcalimcdcaaApp3
set_option linter.unusedSimpArgs false
set_option linter.unusedVariables false
namespace Go.Proofs.Ytafglcalimcdcaa
open Go.RowKit
theorem Cr.eq_iff (x y : Cr) : x = y ↔ x.a = y.a ∧ x.m = y.m ∧ x.u = y.u := by
  cases x; cases y; simp
theorem fields24 : Try.prog.fieldsOf 24 = (match Try.prog.underlying 24 with | some (.struct fs) => fs | _ => #[]) := by kernel_rfl
theorem eq24 (x y : Cr) (d : Nat) (w : World) : (Op.equalIn (d + 2) 24 x.v y.v).run Try.prog w = .ok (decide (x = y)) w := by
  rw [run_equalIn_struct (P := Try.prog) w (d + 1) 24 _ _ (by kernel_rfl) (by kernel_rfl), fields24, Try.underlying24]
  simp [go_sem, Op.eqFields]
  go_simp
  simp only [Cr.eq_iff]
  repeat' split
  all_goals simp_all
theorem run_neq24 (x y : Cr) (w : World) : (binOp .neq 24 x.v y.v).run Try.prog w = .ok (.bool (!decide (x = y))) w := by
  rw [run_neq_struct, eq24 x y 9998 w]; rfl
theorem within_any (n lo hi : Int) (w : World) : Calls Try.prog 27 #[.int .i64 n, .int .i64 lo, .int .i64 hi] w fun e w' => e = .returned (.bool (wi n lo hi)) ∧ w = w' := by
  unfold wi
  by_cases h : lo ≤ n
  · go_enter Try.func27, Try.ntmps27
    go_wp2_with fail
    all_goals
      go_ret
      first | (simp_all; done) | (simp_all; omega)
  · have h1 : ¬ lo ≤ n := h
    go_enter Try.func27, Try.ntmps27
    go_wp2_with fail
    all_goals
      go_ret
      first | (simp_all; done) | (simp_all; omega)
theorem within_at {n lo hi : Int} {w : World} (r : Bool) (hr : wi n lo hi = r) : Calls Try.prog 27 #[.int .i64 n, .int .i64 lo, .int .i64 hi] w (RetB w r) := by
  subst hr; exact (within_any n lo hi w).mono fun e w' h => ⟨h.1, h.2 ▸ ext_refl w⟩
theorem nan_any (n : Int) (w : World) : Calls Try.prog 34 #[.int .i64 n] w fun e w' => e = .returned (.bool false) ∧ w = w' := by
  go_enter Try.func34, Try.ntmps34
  go_wp2_with fail
  all_goals
    go_ret
    simp
theorem cmpi_any (x y : Int) (w : World) : Calls Try.prog 29 #[.int .i64 x, .int .i64 y] w fun e w' => e = .returned (.int .i64 (cmpI x y)) ∧ w = w' := by
  unfold cmpI
  by_cases h : x < y
  · go_enter Try.func29, Try.ntmps29
    go_wp2_with fail
    refine (nan_any x _).mono ?_
    rintro e _ ⟨rfl, rfl⟩
    go_wp2_with fail
    refine (nan_any y _).mono ?_
    rintro e _ ⟨rfl, rfl⟩
    go_wp2_with fail
    all_goals
      go_ret
      first | (simp_all; done) | (simp_all; omega)
  · by_cases h2 : y < x
    all_goals
      go_enter Try.func29, Try.ntmps29
      go_wp2_with fail
      refine (nan_any x _).mono ?_
      rintro e _ ⟨rfl, rfl⟩
      go_wp2_with fail
      refine (nan_any y _).mono ?_
      rintro e _ ⟨rfl, rfl⟩
      go_wp2_with fail
      all_goals
        go_ret
        first | (simp_all; done) | (simp_all; omega)
theorem cmpi_at {x y : Int} {w : World} (r : Int) (hr : cmpI x y = r) : Calls Try.prog 29 #[.int .i64 x, .int .i64 y] w (RetE w r) := by
  subst hr; exact (cmpi_any x y w).mono fun e w' h => ⟨h.1, h.2 ▸ ext_refl w⟩
theorem or_any (A : Option Addr) (c : Nat) (x y : Int) (w : World) (ha : Slc w ic 1 A [x, y]) : Calls Try.prog 28 #[.slice A 2 c] w fun e w' => e = .returned (.int .i64 (if x = 0 then y else x)) ∧ Below w.heap.size w w' := by
  obtain ⟨x', b, o, hx, rfl, hb, hd⟩ := ha.at_ (k := 0) (by simp)
  obtain rfl : x = x' := by simpa using hx
  have c0 := hd 0 _ rfl
  clear hd hx
  obtain ⟨y', b', o', hy, hA, hb', hd⟩ := ha.at_ (k := 1) (by simp)
  obtain rfl : y = y' := by simpa using hy
  injection hA with hA
  injection hA with e1 e2
  subst e1 e2
  have c1 := hd 0 _ rfl
  clear hd hy hb'
  have E := Lib.hid (ext_refl w)
  simp only [Nat.add_zero, Nat.zero_mul, Nat.one_mul] at c0 c1
  have HX := Lib.hid c0
  have HY := Lib.hid c1
  clear c0 c1 ha
  go_enter Try.func28, Try.ntmps28
  go_wp2_with fail
  go_loopw [8] (fun i wr => ((i = .int .i64 0) ∨ (i = .int .i64 1 ∧ x = 0) ∨ (i = .int .i64 2 ∧ x = 0 ∧ y = 0)) ∧ w = wr) (fun i _ => 2 - (intOf i).toNat)
  case atStart => exact ⟨.inl rfl, rfl⟩
  case round =>
    obtain ⟨hi, rfl⟩ := hrel
    rcases hi with rfl | ⟨rfl, hx⟩ | ⟨rfl, hx, hy⟩
    · have c0 := HX.out
      by_cases h : x = 0
      · go_wp2_with fail
        go_roundw
        case rel => exact ⟨.inr (.inl ⟨rfl, h⟩), trivial⟩
        case measure => simp [intOf]
      · have h1 : (x != 0) = true := by simp [h]
        go_wp2_with fail
        go_ret
        exact ⟨rfl, ext_refl _⟩
    · have c1 := HY.out
      by_cases h : y = 0
      · go_wp2_with fail
        go_roundw
        case rel => exact ⟨.inr (.inr ⟨rfl, hx, h⟩), trivial⟩
        case measure => simp [intOf]
      · have h1 : (y != 0) = true := by simp [h]
        go_wp2_with fail
        go_ret
        exact ⟨rfl, ext_refl _⟩
    · go_wp2_with fail
      go_ret
      exact ⟨rfl, ext_refl _⟩
theorem or_at {A : Option Addr} {c : Nat} {x y : Int} {w : World} (r : Int) (hr : (if x = 0 then y else x) = r) (ha : Slc w ic 1 A [x, y]) : Calls Try.prog 28 #[.slice A 2 c] w (RetE w r) := by
  subst hr; exact or_any A c x y w ha
end Go.Proofs.Ytafglcalimcdcaa
