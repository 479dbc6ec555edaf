/- The reference's tests; spans. -/
import Derived.Test.YtkannbmmgkohjaaI
namespace Go.Proofs.Ytkannbmmgkohjaa
open Go.RowKit Go.Shelf
theorem any_take_step {p : Sp → Bool} {l : List Sp} {k : Nat} {x : Sp} (h : (l.take k).any p = false) (hx : l[k]? = some x) (hp : p x = false) : (l.take (k + 1)).any p = false := by
  rw [List.take_add_one, hx]; simp [h, hp]
theorem any_hit {p : Sp → Bool} {l : List Sp} {k : Nat} {x : Sp} (hx : l[k]? = some x) (hp : p x = true) : l.any p = true := List.any_eq_true.2 ⟨x, List.mem_of_getElem? hx, hp⟩
theorem any_end {p : Sp → Bool} {l : List Sp} {k : Nat} (h : (l.take k).any p = false) (hk : l.length ≤ k) : l.any p = false := by rwa [List.take_of_length_le hk] at h
set_option maxHeartbeats 400000 in
theorem rhas_any (A : Option Addr) (c : Nat) (l : List Sp) (m : Int) (w : World) (ha : Slc w Sp.cells 2 A l) (hn : l.length < 1000000) :
    Calls Try.prog 24 #[.slice A l.length c, .int .i64 m] w fun e w' => e = .returned (.bool (has l m)) ∧ w = w' := by
  by_cases h0 : 0 ≤ m
  rotate_left
  · go_enter Try.func24, Try.ntmps24
    go_wp2_with fail
    go_ret
    exact ⟨ret_bool (by simp [has]; omega), rfl⟩
  by_cases h1 : m < 1440
  rotate_left
  · go_enter Try.func24, Try.ntmps24
    go_wp2_with fail
    go_ret
    exact ⟨ret_bool (by simp [has]; omega), rfl⟩
  have HH : Hid (has l m = l.any (fun s => inS s m)) := by simp [Hid, has, h0, h1, inL]
  go_enter Try.func24, Try.ntmps24
  go_wp2_with fail
  go_loop [5] (fun i => ∃ k : Nat, k ≤ l.length ∧ i = .int .i64 k ∧ Hid ((l.take k).any (fun s => inS s m) = false)) (fun i => l.length - (intOf i).toNat)
  case atStart => exact ⟨0, Nat.zero_le _, rfl, by simp [Hid]⟩
  case round =>
    obtain ⟨k, hk, rfl, hT⟩ := hrel
    by_cases hlt : k < l.length
    · obtain ⟨x, b1, o1, hx, rfl, hb1, hc⟩ := ha.at_ hlt
      have HX := Lib.hid hx
      clear hx
      have c0 := hc 0 _ rfl
      have c1 := hc 1 _ rfl
      simp only [Nat.add_zero] at c0 c1
      clear hc
      have hlt' : (k : Int) < l.length := by omega
      by_cases hf : x.f ≤ m
      · by_cases ht : m < x.t
        · have HP : Hid (inS x m = true) := by simp [Hid, inS, hf, ht]
          go_wp2_with fail
          go_ret
          exact ⟨ret_bool (by rw [HH.out, any_hit HX.out HP.out]), rfl⟩
        · have HP : Hid (inS x m = false) := by simp [Hid, inS]; omega
          go_wp2_with fail
          go_round
          case rel => exact ⟨k + 1, hlt, by go_num, any_take_step hT.out HX.out HP.out⟩
          case measure => simp [intOf]; omega
      · have HP : Hid (inS x m = false) := by simp [Hid, inS]; omega
        go_wp2_with fail
        go_round
        case rel => exact ⟨k + 1, hlt, by go_num, any_take_step hT.out HX.out HP.out⟩
        case measure => simp [intOf]; omega
    · go_wp2_with fail
      go_ret
      exact ⟨ret_bool (by rw [HH.out, any_end hT.out (by omega)]), rfl⟩
set_option maxHeartbeats 400000 in
theorem rcheck_any (A : Option Addr) (c : Nat) (l : List Sp) (w : World) (ha : Slc w Sp.cells 2 A l) (hn : l.length < 1000000) :
    Calls Try.prog 13 #[.slice A l.length c] w fun e w' => e = .returned (.int .i64 (chkE l)) ∧ ∃ n, w' = w.drewN n := by
  go_enter Try.func13, Try.ntmps13
  go_wp2_with fail
  go_loopw [3] (fun i wr => ∃ k : Nat, k ≤ l.length ∧ i = .int .i64 k ∧ Hid ((l.take k).any badS = false) ∧ Hid (∃ n, wr = w.drewN n)) (fun i _ => l.length - (intOf i).toNat)
  case atStart => exact ⟨0, Nat.zero_le _, rfl, by simp [Hid], 0, rfl⟩
  case round =>
    obtain ⟨k, hk, rfl, hT, hbe⟩ := hrel
    by_cases hlt : k < l.length
    · obtain ⟨x, b1, o1, hx, rfl, hb1, hc⟩ := (Slc.drewE ha hbe.out).at_ hlt
      have HX := Lib.hid hx
      clear hx
      have c0 := hc 0 _ rfl
      have c1 := hc 1 _ rfl
      simp only [Nat.add_zero] at c0 c1
      clear hc
      have hlt' : (k : Int) < l.length := by omega
      obtain ⟨r, hr⟩ : ∃ r, badS x = r := ⟨_, rfl⟩
      have HP := Lib.hid hr
      have hbad : Hid (badS x = (decide (x.f < 0) || decide (x.t ≤ x.f) || decide (1440 < x.t))) := by simp [Hid, badS]
      clear hr
      by_cases h1 : x.f < 0
      · go_wp2_with fail
        go_quiet (fail)
        go_wp2_with fail
        go_ret
        exact ⟨ret_int (by rw [chkE, any_hit HX.out (by rw [hbad.out]; simp [h1])]; rfl), drewE hbe.out _⟩
      · have h1' : decide (x.f < 0) = false := by simpa using h1
        by_cases h2 : x.t ≤ x.f
        · go_wp2_with fail
          go_quiet (fail)
          go_wp2_with fail
          go_ret
          exact ⟨ret_int (by rw [chkE, any_hit HX.out (by rw [hbad.out]; simp [h2])]; rfl), drewE hbe.out _⟩
        · have h2' : decide (x.t ≤ x.f) = false := by simpa using h2
          by_cases h3 : 1440 < x.t
          · go_wp2_with fail
            go_quiet (fail)
            go_wp2_with fail
            go_ret
            exact ⟨ret_int (by rw [chkE, any_hit HX.out (by rw [hbad.out]; simp [h3])]; rfl), drewE hbe.out _⟩
          · go_wp2_with fail
            go_quiet (fail)
            go_wp2_with fail
            go_roundw
            case rel => exact ⟨k + 1, hlt, by go_num, any_take_step hT.out HX.out (by rw [hbad.out]; simp; omega), drewE hbe.out _⟩
            case measure => simp [intOf]; omega
    · go_wp2_with fail
      go_ret
      exact ⟨ret_int (by rw [chkE, any_end hT.out (by omega)]; rfl), hbe.out⟩
end Go.Proofs.Ytkannbmmgkohjaa
