/- Small contracts: credits. -/
import Derived.WalkKit
import Derived.WalkLawsBesides
import Derived.WalkSpells
import Derived.Deep.QuietTactic
import Derived.BigQuiet
import Derived.Lib.Hide
import Derived.IntWalk
import Derived.Deep.RegionHeld3
import Derived.Test.YtafglcalimcdcaaProg
import Derived.Test.YtafglcalimcdcaaPlain
import Derived.Test.YtafglcalimcdcaaIns
import Derived.Test.YtafglcalimcdcaaIdx
set_option linter.unusedSimpArgs false
set_option linter.unusedVariables false
namespace Go.Proofs.Ytafglcalimcdcaa
open Go.RowKit

theorem ret_bool {a b : Bool} (h : a = b) : Ending.returned (.bool a) = .returned (.bool b) := by rw [h]
theorem ret_int {a b : Int} (h : a = b) : Ending.returned (.int .i64 a) = .returned (.int .i64 b) := by rw [h]
/-- A call of function g enters it. -/
def Enters (P : Program) (g : Nat) : Prop := ∀ (args : Array Value) (w : World), (callFunc g args).run P w = .ok (.enter g args) w
abbrev RetB (w : World) (r : Bool) (e : Ending) (w' : World) : Prop := e = .returned (.bool r) ∧ Below w.heap.size w w'
abbrev RetE (w : World) (r : Int) (e : Ending) (w' : World) : Prop := e = .returned (.int .i64 r) ∧ Below w.heap.size w w'
abbrev Tru (w : World) (e : Ending) (w' : World) : Prop := e = .returned (.bool true) ∧ Below w.heap.size w w'
def ic (n : Int) : List Value := [.int .i64 n]
def Cr.cells (x : Cr) : List Value := [.int .i64 x.a, .int .i64 x.m, .int .i64 x.u]
abbrev Cr.v (x : Cr) : Value := .agg #[.int .i64 x.a, .int .i64 x.m, .int .i64 x.u]
theorem cr_info : (Try.prog.info? 24).map (fun i => (i.zero, i.size, i.bytes)) = some (some (.agg #[.int .i64 0, .int .i64 0, .int .i64 0]), 3, 24) := by kernel_rfl
theorem crI : EInfo Try.prog 22 24 Cr.cells 3 24 := by
  obtain ⟨i, h1, h2, h3, h4⟩ := info_parts cr_info
  exact ⟨Try.underlying22, ⟨i, _, h1, h2, h3, h4, rfl⟩, by decide, fun _ => rfl, fun x u hu => by simp [Cr.cells] at hu; rcases hu with rfl | rfl | rfl <;> rfl⟩
theorem enters20 : Enters Try.prog 20 := fun args w => by kernel_rfl
theorem enters26 : Enters Try.prog 26 := fun args w => by kernel_rfl
set_option maxHeartbeats 400000 in
theorem indexCr (g : Nat) (p : Cr → Bool) (A : Option Addr) (c : Nat) (l : List (Cr)) (w : World) (ha : Slc w Cr.cells 3 A l) (hn : l.length ≤ maxLen) (hE : Enters Try.prog g)
    (hp : ∀ (x : Cr) (W : World), x ∈ l → Below w.heap.size w W → Calls Try.prog g #[x.v] W fun e W' => e = .returned (.bool (p x)) ∧ Below W.heap.size W W') :
    Calls Try.prog 33 #[.slice A l.length c, .func (.func g) #[] #[]] w fun e w' => e = .returned (.int .i64 (idxGo p 0 l)) ∧ Below w.heap.size w w' := by
  have HP := Lib.hid hp
  have HE := Lib.hid hE
  clear hp hE
  unfold maxLen at hn
  go_enter Try.func33, Try.ntmps33
  go_wp2
  go_loopw [8] (fun i wr => ∃ k : Nat, k ≤ l.length ∧ i = .int .i64 k ∧ idxGo p 0 l = idxGo p k (l.drop k) ∧ Below w.heap.size w wr) (fun i _ => l.length - (intOf i).toNat)
  case atStart => exact ⟨0, Nat.zero_le _, rfl, rfl, ext_refl _⟩
  case round =>
    obtain ⟨k, hk, rfl, heq, hB⟩ := hrel
    have HQ := Lib.hid heq
    clear heq
    by_cases hlt : k < l.length
    · obtain ⟨x, b1, o1, hx, rfl, hb1, hc⟩ := (ha.ext hB).at_ hlt
      have HX := Lib.hid hx
      clear hx
      have c0 := hc 0 _ rfl
      have c1 := hc 1 _ rfl
      have c2 := hc 2 _ rfl
      simp only [Nat.mul_one, Nat.add_zero] at c0 c1 c2
      clear hc
      have hlt' : (k : Int) < l.length := by omega
      have hE2 := HE.out #[x.v] wr
      cases hpx : p x
      · go_wp2_with fail
        refine (HP.out x wr (List.mem_of_getElem? HX.out) hB).mono ?_
        rintro e w1 ⟨rfl, hB1⟩
        clear hE2
        go_wp2_with fail
        go_roundw
        case rel => exact ⟨k + 1, hlt, by go_num, idx_step HX.out hpx HQ.out, ext_trans hB hB1⟩
        case measure => simp [intOf]; omega
      · go_wp2_with fail
        refine (HP.out x wr (List.mem_of_getElem? HX.out) hB).mono ?_
        rintro e w1 ⟨rfl, hB1⟩
        clear hE2
        go_wp2_with fail
        go_ret
        exact ⟨ret_int (idx_hit HX.out hpx HQ.out).symm, ext_trans hB hB1⟩
    · go_wp2_with fail
      go_ret
      exact ⟨ret_int (idx_end (by omega) HQ.out).symm, hB⟩
end Go.Proofs.Ytafglcalimcdcaa
