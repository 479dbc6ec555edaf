import Derived.Test.YtjebmcbpiobbaaaK
namespace Go.Proofs.Ytjebmcbpiobbaaa
open Go.RowKit

theorem pre_step {l : List Clr} {fl : Int} {k : Nat} {x : Clr} (h : ∀ j < k, ∀ y, l[j]? = some y → inF fl y = false) (hx : l[k]? = some x) (hp : inF fl x = false) : ∀ j < k + 1, ∀ y, l[j]? = some y → inF fl y = false := by
  intro j hj y hy
  rcases Nat.lt_or_ge j k with h3 | h3
  · exact h j h3 y hy
  · obtain rfl : j = k := by omega
    rw [hx] at hy; cases hy; exact hp
theorem pre_all {l : List Clr} {fl : Int} {k : Nat} (h : ∀ j < k, ∀ y, l[j]? = some y → inF fl y = false) (hk : l.length ≤ k) : inForce l fl = (zeroC, false) :=
  inForce_none (fun x hx => by obtain ⟨i, hi, rfl⟩ := List.getElem_of_mem hx; exact h i (by omega) _ (List.getElem?_eq_getElem hi))

set_option maxHeartbeats 1000000 in
theorem rinForce_any (A : Option Addr) (c : Nat) (l : List Clr) (fl : Int) (w : World) (ha : Slc w Clr.cells 9 A l) (hn : l.length < 1000000) :
    Calls Try.prog 15 #[.slice A l.length c, .int .i64 fl] w (RetC w (inForce l fl)) := by
  go_enter Try.func15, Try.ntmps15
  go_wp2
  go_loop [6] (fun i => ∃ k : Nat, k ≤ l.length ∧ i = .int .i64 k ∧ Hid (∀ j < k, ∀ y, l[j]? = some y → inF fl y = false)) (fun i => l.length - (intOf i).toNat)
  case atStart => exact ⟨0, Nat.zero_le _, rfl, fun j hj => absurd hj (Nat.not_lt_zero _)⟩
  case round =>
    obtain ⟨k, hk, rfl, HI⟩ := hrel
    by_cases hlt : k < l.length
    · obtain ⟨x, b1, o1, hx, rfl, hb1, hc⟩ := ha.at_ hlt
      have HX := Lib.hid hx
      clear hx
      obtain ⟨c0, c1, c2, c3, c4, c5, c6, c7, c8⟩ := Clr.at9 hc
      clear hc
      have hi1 : (k : Int) < (l.length : Int) := by omega
      by_cases hfl : x.fl = fl
      · have hfl' : (x.fl == fl) = true := by simp [hfl]
        have HF := Lib.hid hfl
        clear hfl
        cases hw : x.wd
        · have HN := Lib.hid (inForce_some HX.out (by simp [inF, HF.out, hw]) HI.out)
          go_wp2_with fail
          rw [HN.out]
          refine bodyPost_ret (v := .tuple #[Clr.v x, .bool true]) (by simp [results, Try.results15, go_sem, *]) rfl ⟨rfl, ?_⟩
          exact ext_alloc (ext_refl _) _
        · go_wp2_with fail
          go_round
          case rel => exact ⟨k + 1, hlt, by go_num, pre_step HI.out HX.out (by simp [inF, hw])⟩
          case measure => simp [intOf]; omega
      · have hfl' : (x.fl == fl) = false := by simp [hfl]
        have HF := Lib.hid hfl
        clear hfl
        go_wp2_with fail
        go_round
        case rel => exact ⟨k + 1, hlt, by go_num, pre_step HI.out HX.out (by simp [inF, HF.out])⟩
        case measure => simp [intOf]; omega
    · have HN := Lib.hid (pre_all HI.out (by omega))
      go_wp2_with fail
      rw [HN.out]
      refine bodyPost_ret (v := .tuple #[Clr.v zeroC, .bool false]) (by simp [results, Try.results15, go_sem, zeroC, *]) rfl ⟨rfl, ?_⟩
      exact ext_alloc (ext_refl _) _
end Go.Proofs.Ytjebmcbpiobbaaa
