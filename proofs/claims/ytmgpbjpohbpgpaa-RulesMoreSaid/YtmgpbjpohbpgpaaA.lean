/- Small contracts: rules. -/
import Derived.Test.YtmgpbjpohbpgpaaHA
import Derived.Test.YtmgpbjpohbpgpaaRd2
import Derived.Test.YtmgpbjpohbpgpaaRg
import Derived.Test.YtmgpbjpohbpgpaaApp3
set_option linter.unusedSimpArgs false
set_option linter.unusedVariables false
namespace Go.Proofs.Ytmgpbjpohbpgpaa
open Go.RowKit
abbrev RetB (w : World) (r : Bool) (e : Ending) (w' : World) : Prop := e = .returned (.bool r) ∧ Below w.heap.size w w'
abbrev RetE (w : World) (r : Int) (e : Ending) (w' : World) : Prop := e = .returned (.int .i64 r) ∧ Below w.heap.size w w'
abbrev Tru (w : World) (e : Ending) (w' : World) : Prop := e = .returned (.bool true) ∧ Below w.heap.size w w'
theorem enters38 : Enters Try.prog 38 := fun args w => by kernel_rfl
theorem enters49 : Enters Try.prog 49 := fun args w => by kernel_rfl
set_option maxHeartbeats 400000 in
theorem indexRu (g : Nat) (cap1 : Value) (cap2 : Value) (p : Ru → Bool) (A : Option Addr) (c : Nat) (l : List (Ru)) (w : World) (ha : Slc w Ru.cells 8 A l) (hn : l.length ≤ maxLen) (hE : Enters Try.prog g)
    (hp : ∀ (x : Ru) (W : World), x ∈ l → Below w.heap.size w W → Calls Try.prog g #[x.v, cap1, cap2] W fun e W' => e = .returned (.bool (p x)) ∧ Below W.heap.size W W') :
    Calls Try.prog 48 #[.slice A l.length c, .func (.func g) #[] #[cap1, cap2]] w fun e w' => e = .returned (.int .i64 (idxGo p 0 l)) ∧ Below w.heap.size w w' := by
  have HP := Lib.hid hp
  have HE := Lib.hid hE
  clear hp hE
  unfold maxLen at hn
  go_enter Try.func48, Try.ntmps48
  go_wp2
  go_loopw [8] (fun i wr => ∃ k : Nat, k ≤ l.length ∧ i = .int .i64 k ∧ idxGo p 0 l = idxGo p k (l.drop k) ∧ Below w.heap.size w wr) (fun i _ => l.length - (intOf i).toNat)
  case atStart => exact ⟨0, Nat.zero_le _, rfl, rfl, ext_refl _⟩
  case round =>
    obtain ⟨k, hk, rfl, heq, hB⟩ := hrel
    have HQ := Lib.hid heq
    clear heq
    by_cases hlt : k < l.length
    · obtain ⟨x, b1, o1, hx, rfl, hb1, hc⟩ := (ha.ext hB).at_ hlt
      have HX := Lib.hid hx
      clear hx
      have c0 := hc 0 _ rfl
      have c1 := hc 1 _ rfl
      have c2 := hc 2 _ rfl
      have c3 := hc 3 _ rfl
      have c4 := hc 4 _ rfl
      have c5 := hc 5 _ rfl
      have c6 := hc 6 _ rfl
      have c7 := hc 7 _ rfl
      simp only [Nat.mul_one, Nat.add_zero] at c0 c1 c2 c3 c4 c5 c6 c7
      clear hc
      have hlt' : (k : Int) < l.length := by omega
      have hE2 := HE.out #[x.v, cap1, cap2] wr
      cases hpx : p x
      · go_wp2_with fail
        refine (HP.out x wr (List.mem_of_getElem? HX.out) hB).mono ?_
        rintro e w1 ⟨rfl, hB1⟩
        clear hE2
        go_wp2_with fail
        go_roundw
        case rel => exact ⟨k + 1, hlt, by go_num, idx_step HX.out hpx HQ.out, ext_trans hB hB1⟩
        case measure => simp [intOf]; omega
      · go_wp2_with fail
        refine (HP.out x wr (List.mem_of_getElem? HX.out) hB).mono ?_
        rintro e w1 ⟨rfl, hB1⟩
        clear hE2
        go_wp2_with fail
        go_ret
        exact ⟨ret_int (idx_hit HX.out hpx HQ.out).symm, ext_trans hB hB1⟩
    · go_wp2_with fail
      go_ret
      exact ⟨ret_int (idx_end (by omega) HQ.out).symm, hB⟩
theorem containsRu (g : Nat) (cap1 : Value) (cap2 : Value) (p : Ru → Bool) (A : Option Addr) (c : Nat) (l : List (Ru)) (w : World) (ha : Slc w Ru.cells 8 A l) (hn : l.length ≤ maxLen) (hE : Enters Try.prog g)
    (hp : ∀ (x : Ru) (W : World), x ∈ l → Below w.heap.size w W → Calls Try.prog g #[x.v, cap1, cap2] W fun e W' => e = .returned (.bool (p x)) ∧ Below W.heap.size W W') :
    Calls Try.prog 39 #[.slice A l.length c, .func (.func g) #[] #[cap1, cap2]] w fun e w' => e = .returned (.bool (l.any p)) ∧ Below w.heap.size w w' := by
  have HP := Lib.hid hp
  have HE := Lib.hid hE
  clear hp hE
  go_enter Try.func39, Try.ntmps39
  go_wp2_with fail
  refine (indexRu g cap1 cap2 p A c l _ ha hn HE.out HP.out).mono ?_
  rintro e w1 ⟨rfl, hB1⟩
  go_wp2_with fail
  go_ret
  exact ⟨ret_bool (idx_any p l), hB1⟩
end Go.Proofs.Ytmgpbjpohbpgpaa
