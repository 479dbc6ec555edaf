import Derived.Test.YtjebmcbpiobbaaaC
namespace Go.Proofs.Ytjebmcbpiobbaaa
open Go.RowKit


theorem same_step {a b : List Clr} {k : Nat} {x y : Clr} (h : a.take k = b.take k) (hx : a[k]? = some x) (hy : b[k]? = some y) (hxy : x = y) : a.take (k + 1) = b.take (k + 1) := by
  simp [List.take_add_one, h, hx, hy, hxy]
theorem same_no {a b : List Clr} {k : Nat} {x y : Clr} (hx : a[k]? = some x) (hy : b[k]? = some y) (hxy : x ≠ y) : a ≠ b := by
  rintro rfl; rw [hx] at hy; exact hxy (Option.some.inj hy)

theorem Clr.at9 {w : World} {b o : Nat} {x : Clr} (h : ∀ j v, x.cells[j]? = some v → w.cell? ⟨b, o + j, none⟩ = some v) :
    w.cell? ⟨b, o, none⟩ = some (.int .i64 x.no) ∧ w.cell? ⟨b, o + 1, none⟩ = some (.int .i64 x.fl) ∧ w.cell? ⟨b, o + 2, none⟩ = some (.int .i64 x.iss) ∧ w.cell? ⟨b, o + 3, none⟩ = some (.int .i64 x.o.d) ∧ w.cell? ⟨b, o + 4, none⟩ = some (.int .i64 x.o.y) ∧ w.cell? ⟨b, o + 5, none⟩ = some (.int .i64 x.o.h) ∧ w.cell? ⟨b, o + 6, none⟩ = some (.bool x.o.c) ∧ w.cell? ⟨b, o + 7, none⟩ = some (.bool x.rd) ∧ w.cell? ⟨b, o + 8, none⟩ = some (.bool x.wd) :=
  ⟨h 0 _ rfl, h 1 _ rfl, h 2 _ rfl, h 3 _ rfl, h 4 _ rfl, h 5 _ rfl, h 6 _ rfl, h 7 _ rfl, h 8 _ rfl⟩

set_option maxHeartbeats 400000 in
theorem same_any (A B : Option Addr) (ca cb : Nat) (a b : List Clr) (w : World) (ha : Slc w Clr.cells 9 A a) (hb : Slc w Clr.cells 9 B b) (hn : a.length < 1048576) :
    Calls Try.prog 16 #[.slice A a.length ca, .slice B b.length cb] w fun e w' => e = .returned (.bool (decide (a = b))) ∧ Below w.heap.size w w' := by
  by_cases hl : a.length = b.length
  · have hl1 : ((a.length : Int) != (b.length : Int)) = false := by simp; omega
    have HL := Lib.hid hl
    have hlb : b.length ≤ a.length := by omega
    have hlb' : a.length ≤ b.length := by omega
    clear hl
    go_enter Try.func16, Try.ntmps16
    go_wp2
    go_loopw [5] (fun i wr => ∃ k : Nat, k ≤ a.length ∧ i = .int .i64 k ∧ a.take k = b.take k ∧ Below w.heap.size w wr) (fun i _ => a.length - (intOf i).toNat)
    case atStart => exact ⟨0, Nat.zero_le _, rfl, by simp, ext_refl _⟩
    case round =>
      obtain ⟨k, hk, rfl, htk, hbe⟩ := hrel
      have HT := Lib.hid htk
      clear htk
      by_cases hlt : k < a.length
      · obtain ⟨x, b1, o1, hx, rfl, _, hc⟩ := (ha.ext hbe).at_ hlt
        obtain ⟨y, b2, o2, hy, rfl, _, hd⟩ := (hb.ext hbe).at_ (show k < b.length by omega)
        have HX := Lib.hid hx
        have HY := Lib.hid hy
        clear hx hy
        obtain ⟨c0, c1, c2, c3, c4, c5, c6, c7, c8⟩ := Clr.at9 hc
        obtain ⟨d0, d1, d2, d3, d4, d5, d6, d7, d8⟩ := Clr.at9 hd
        clear hc hd
        have hltb : k < b.length := by omega
        have hi1 : (k : Int) < (a.length : Int) := by omega
        have hi2 : (k : Int) < (b.length : Int) := by omega
        have hne := fun w => run_neq31 x y w
        go_wp2
        go_quiet (fail)
        go_wp2
        · have hxy : (!decide (x = y)) = true := by assumption
          go_ret
          exact ⟨ret_bool (by simp [same_no HX.out HY.out (by simpa using hxy)]), ext_drewN hbe _⟩
        · have hxy : (!decide (x = y)) = false := by assumption
          go_roundw
          case rel => exact ⟨k + 1, hlt, by go_num, same_step HT.out HX.out HY.out (by simpa using hxy), ext_drewN hbe _⟩
          case measure => simp [intOf]; omega
      · go_wp2
        go_ret
        refine ⟨ret_bool ?_, hbe⟩
        have h1 := HT.out
        rw [List.take_of_length_le (by omega), List.take_of_length_le (by omega)] at h1
        simp [h1]
  · have hl1 : ((a.length : Int) != (b.length : Int)) = true := by simp; omega
    have HL := Lib.hid hl
    clear hl
    go_enter Try.func16, Try.ntmps16
    go_wp2
    go_ret
    exact ⟨ret_bool (by simp; intro h; exact HL.out (by rw [h])), ext_refl _⟩
end Go.Proofs.Ytjebmcbpiobbaaa
