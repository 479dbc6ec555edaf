import Derived.Test.YtjebmcbpiobbaaaH
namespace Go.Proofs.Ytjebmcbpiobbaaa
open Go.RowKit

theorem read_any (A : Option Addr) (c : Nat) (l : List Clr) (no : Int) (w : World) (ha : Slc w Clr.cells 9 A l) (hn : l.length < 1000000) :
    Calls Try.prog 19 #[.slice A l.length c, .int .i64 no] w (RetL w (read l no)) := by
  go_enter Try.func19, Try.ntmps19
  go_wp2_with fail
  refine (change_any 30 rdG read1_acts enters30 A c l no _ ha hn).mono ?_
  rintro e w1 ⟨A1, c1, rfl, h1, h2, h3⟩
  go_wp2_with fail
  go_ret2
  exact ⟨A1, c1, rfl, h1, h2, h3⟩
theorem withdraw_any (A : Option Addr) (c : Nat) (l : List Clr) (no : Int) (w : World) (ha : Slc w Clr.cells 9 A l) (hn : l.length < 1000000) :
    Calls Try.prog 21 #[.slice A l.length c, .int .i64 no] w (RetL w (withdraw l no)) := by
  go_enter Try.func21, Try.ntmps21
  go_wp2_with fail
  refine (change_any 32 wdG withdraw1_acts enters32 A c l no _ ha hn).mono ?_
  rintro e w1 ⟨A1, c1, rfl, h1, h2, h3⟩
  go_wp2_with fail
  go_ret2
  exact ⟨A1, c1, rfl, h1, h2, h3⟩

theorem inforce1_any (x : Clr) (fl : Int) (b : Nat) (w : World) (h : w.cell? ⟨b, 0, none⟩ = some (.int .i64 fl)) (hb : b < w.heap.size) :
    Calls Try.prog 27 #[x.v, .pointer (some ⟨b, 0, none⟩)] w fun e w' => e = .returned (.bool (inF fl x)) ∧ Below w.heap.size w w' := by
  by_cases hx : x.fl = fl
  · have h1 : (x.fl == fl) = true := by simp [hx]
    have HX := Lib.hid hx
    clear hx
    go_enter Try.func27, Try.ntmps27
    go_wp2
    go_ret
    exact ⟨ret_bool (by simp [inF, HX.out]), ext_alloc (ext_refl _) _⟩
  · have h1 : (x.fl == fl) = false := by simp [hx]
    have HX := Lib.hid hx
    clear hx
    go_enter Try.func27, Try.ntmps27
    go_wp2
    go_ret
    exact ⟨ret_bool (by simp [inF, HX.out]), ext_alloc (ext_refl _) _⟩

theorem idx_step {p : Clr → Bool} {l : List Clr} {k : Nat} {x : Clr} (hx : l[k]? = some x) (hp : p x = false) (h : idxGo p 0 l = idxGo p k (l.drop k)) : idxGo p 0 l = idxGo p (k + 1) (l.drop (k + 1)) := by
  rw [h, drop_at hx]; simp [idxGo, hp]
theorem idx_hit {p : Clr → Bool} {l : List Clr} {k : Nat} {x : Clr} (hx : l[k]? = some x) (hp : p x = true) (h : idxGo p 0 l = idxGo p k (l.drop k)) : idxGo p 0 l = k := by
  rw [h, drop_at hx]; simp [idxGo, hp]
theorem idx_end {p : Clr → Bool} {l : List Clr} {k : Nat} (hk : l.length ≤ k) (h : idxGo p 0 l = idxGo p k (l.drop k)) : idxGo p 0 l = -1 := by
  rw [h, List.drop_eq_nil_of_le hk]; rfl

set_option maxHeartbeats 400000 in
theorem indexFunc_any (g : Nat) (cap : Value) (p : Clr → Bool) (A : Option Addr) (c : Nat) (l : List Clr) (w : World) (ha : Slc w Clr.cells 9 A l) (hn : l.length < 1000000) (hE : Enters Try.prog g)
    (hp : ∀ (x : Clr) (W : World), Below w.heap.size w W → Calls Try.prog g #[x.v, cap] W fun e W' => e = .returned (.bool (p x)) ∧ Below W.heap.size W W') :
    Calls Try.prog 26 #[.slice A l.length c, .func (.func g) #[] #[cap]] w fun e w' => e = .returned (.int .i64 (idxGo p 0 l)) ∧ Below w.heap.size w w' := by
  have HP := Lib.hid hp
  have HE := Lib.hid hE
  clear hp hE
  go_enter Try.func26, Try.ntmps26
  go_wp2
  go_loopw [5, 8] (fun _ i wr => ∃ k : Nat, k ≤ l.length ∧ i = .int .i64 k ∧ idxGo p 0 l = idxGo p k (l.drop k) ∧ Below w.heap.size w wr) (fun _ i _ => l.length - (intOf i).toNat)
  case atStart => exact ⟨0, Nat.zero_le _, rfl, rfl, ext_refl _⟩
  case round =>
    obtain ⟨k, hk, rfl, heq, hB⟩ := hrel
    have HQ := Lib.hid heq
    clear heq
    by_cases hlt : k < l.length
    · obtain ⟨x, b1, o1, hx, rfl, hb1, hc⟩ := (ha.ext hB).at_ hlt
      have HX := Lib.hid hx
      clear hx
      obtain ⟨c0, c1, c2, c3, c4, c5, c6, c7, c8⟩ := Clr.at9 hc
      clear hc
      have hlt' : (k : Int) < l.length := by omega
      have hE2 := HE.out #[x.v, cap] wr
      cases hpx : p x
      · go_wp2_with fail
        refine (HP.out x wr hB).mono ?_
        rintro e w1 ⟨rfl, hB1⟩
        clear hE2
        go_wp2_with fail
        go_roundw
        case rel => exact ⟨k + 1, hlt, by go_num, idx_step HX.out hpx HQ.out, ext_trans hB hB1⟩
        case measure => simp [intOf]; omega
      · go_wp2_with fail
        refine (HP.out x wr hB).mono ?_
        rintro e w1 ⟨rfl, hB1⟩
        clear hE2
        go_wp2_with fail
        go_ret
        exact ⟨ret_int (idx_hit HX.out hpx HQ.out).symm, ext_trans hB hB1⟩
    · go_wp2_with fail
      go_ret
      exact ⟨ret_int (idx_end (by omega) HQ.out).symm, hB⟩
end Go.Proofs.Ytjebmcbpiobbaaa
