/- Small contracts: tests over lists, equality, sums. -/
import Derived.WalkKit
import Derived.WalkLawsBesides
import Derived.WalkSpells
import Derived.Deep.QuietTactic
import Derived.BigQuiet
import Derived.Lib.Hide
import Derived.IntWalk
import Derived.Deep.RegionHeld3
import Derived.Test.YtemdebheinbolaaProg
import Derived.Test.YtemdebheinbolaaPm
import Derived.Test.YtemdebheinbolaaApp
import Derived.Test.YtemdebheinbolaaIdx
namespace Go.Proofs.Ytemdebheinbolaa
open Go.RowKit

theorem ret_bool {a b : Bool} (h : a = b) : Ending.returned (.bool a) = .returned (.bool b) := by rw [h]
theorem ret_int {a b : Int} (h : a = b) : Ending.returned (.int .i64 a) = .returned (.int .i64 b) := by rw [h]
/-- A call of function g enters it. -/
def Enters (P : Program) (g : Nat) : Prop := ∀ (args : Array Value) (w : World), (callFunc g args).run P w = .ok (.enter g args) w
theorem bcell {W w1 : World} (hb : Below W.heap.size W w1) : (∀ b o, b < W.heap.size → w1.cell? ⟨b, o, none⟩ = W.cell? ⟨b, o, none⟩) ∧ (∀ b o, b < W.heap.size → w1.frozen? ⟨b, o, none⟩ = W.frozen? ⟨b, o, none⟩) :=
  ⟨fun b o h => hb.cell (p := ⟨b, o, none⟩) h, fun b o h => hb.frozen (p := ⟨b, o, none⟩) h⟩
def ic (n : Int) : List Value := [.int .i64 n]
theorem ic_len (n : Int) : (ic n).length = 1 := rfl
def Cut.cells (c : Cut) : List Value := [.bool c.air, .int .i64 c.ix, .int .i64 c.f, .int .i64 c.t, .int .i64 c.less]
abbrev Cut.v (c : Cut) : Value := .agg #[.bool c.air, .int .i64 c.ix, .int .i64 c.f, .int .i64 c.t, .int .i64 c.less]
def Nd.cells (n : Nd) : List Value := [.int .i64 n.p, .int .i64 n.f, .slice n.cuts.A n.cuts.l.length n.cuts.c]
abbrev Nd.v (n : Nd) : Value := .agg #[.int .i64 n.p, .int .i64 n.f, .slice n.cuts.A n.cuts.l.length n.cuts.c]
theorem enters27 : Enters Try.prog 27 := fun args w => by kernel_rfl
theorem enters31 : Enters Try.prog 31 := fun args w => by kernel_rfl
theorem enters36 : Enters Try.prog 36 := fun args w => by kernel_rfl
theorem enters37 : Enters Try.prog 37 := fun args w => by kernel_rfl
theorem enters38 : Enters Try.prog 38 := fun args w => by kernel_rfl
theorem enters43 : Enters Try.prog 43 := fun args w => by kernel_rfl
set_option maxHeartbeats 400000 in
theorem indexCut (g : Nat) (cap1 : Value) (p : Cut → Bool) (A : Option Addr) (c : Nat) (l : List (Cut)) (w : World) (ha : Slc w Cut.cells 5 A l) (hn : l.length ≤ maxLen) (hE : Enters Try.prog g)
    (hp : ∀ (x : Cut) (W : World), x ∈ l → Below w.heap.size w W → Calls Try.prog g #[x.v, cap1] W fun e W' => e = .returned (.bool (p x)) ∧ Below W.heap.size W W') :
    Calls Try.prog 40 #[.slice A l.length c, .func (.func g) #[] #[cap1]] w fun e w' => e = .returned (.int .i64 (idxGo p 0 l)) ∧ Below w.heap.size w w' := by
  have HP := Lib.hid hp
  have HE := Lib.hid hE
  clear hp hE
  unfold maxLen at hn
  go_enter Try.func40, Try.ntmps40
  go_wp2
  go_loopw [8] (fun i wr => ∃ k : Nat, k ≤ l.length ∧ i = .int .i64 k ∧ idxGo p 0 l = idxGo p k (l.drop k) ∧ Below w.heap.size w wr) (fun i _ => l.length - (intOf i).toNat)
  case atStart => exact ⟨0, Nat.zero_le _, rfl, rfl, ext_refl _⟩
  case round =>
    obtain ⟨k, hk, rfl, heq, hB⟩ := hrel
    have HQ := Lib.hid heq
    clear heq
    by_cases hlt : k < l.length
    · obtain ⟨x, b1, o1, hx, rfl, hb1, hc⟩ := (ha.ext hB).at_ hlt
      have HX := Lib.hid hx
      clear hx
      have c0 := hc 0 _ rfl
      have c1 := hc 1 _ rfl
      have c2 := hc 2 _ rfl
      have c3 := hc 3 _ rfl
      have c4 := hc 4 _ rfl
      simp only [Nat.mul_one, Nat.add_zero] at c0 c1 c2 c3 c4
      clear hc
      have hlt' : (k : Int) < l.length := by omega
      have hE2 := HE.out #[x.v, cap1] wr
      cases hpx : p x
      · go_wp2_with fail
        refine (HP.out x wr (List.mem_of_getElem? HX.out) hB).mono ?_
        rintro e w1 ⟨rfl, hB1⟩
        clear hE2
        go_wp2_with fail
        go_roundw
        case rel => exact ⟨k + 1, hlt, by go_num, idx_step HX.out hpx HQ.out, ext_trans hB hB1⟩
        case measure => simp [intOf]; omega
      · go_wp2_with fail
        refine (HP.out x wr (List.mem_of_getElem? HX.out) hB).mono ?_
        rintro e w1 ⟨rfl, hB1⟩
        clear hE2
        go_wp2_with fail
        go_ret
        exact ⟨ret_int (idx_hit HX.out hpx HQ.out).symm, ext_trans hB hB1⟩
    · go_wp2_with fail
      go_ret
      exact ⟨ret_int (idx_end (by omega) HQ.out).symm, hB⟩
theorem containsCut (g : Nat) (cap1 : Value) (p : Cut → Bool) (A : Option Addr) (c : Nat) (l : List (Cut)) (w : World) (ha : Slc w Cut.cells 5 A l) (hn : l.length ≤ maxLen) (hE : Enters Try.prog g)
    (hp : ∀ (x : Cut) (W : World), x ∈ l → Below w.heap.size w W → Calls Try.prog g #[x.v, cap1] W fun e W' => e = .returned (.bool (p x)) ∧ Below W.heap.size W W') :
    Calls Try.prog 30 #[.slice A l.length c, .func (.func g) #[] #[cap1]] w fun e w' => e = .returned (.bool (l.any p)) ∧ Below w.heap.size w w' := by
  have HP := Lib.hid hp
  have HE := Lib.hid hE
  clear hp hE
  go_enter Try.func30, Try.ntmps30
  go_wp2_with fail
  refine (indexCut g cap1 p A c l _ ha hn HE.out HP.out).mono ?_
  rintro e w1 ⟨rfl, hB1⟩
  go_wp2_with fail
  go_ret
  exact ⟨ret_bool (idx_any p l), hB1⟩
set_option maxHeartbeats 400000 in
theorem indexNd (g : Nat) (cap1 : Value) (p : Nd → Bool) (A : Option Addr) (c : Nat) (l : List (Nd)) (w : World) (ha : Slc w Nd.cells 3 A l) (hn : l.length ≤ maxLen) (hE : Enters Try.prog g)
    (hp : ∀ (x : Nd) (W : World), x ∈ l → Below w.heap.size w W → Calls Try.prog g #[x.v, cap1] W fun e W' => e = .returned (.bool (p x)) ∧ Below W.heap.size W W') :
    Calls Try.prog 46 #[.slice A l.length c, .func (.func g) #[] #[cap1]] w fun e w' => e = .returned (.int .i64 (idxGo p 0 l)) ∧ Below w.heap.size w w' := by
  have HP := Lib.hid hp
  have HE := Lib.hid hE
  clear hp hE
  unfold maxLen at hn
  go_enter Try.func46, Try.ntmps46
  go_wp2
  go_loopw [8] (fun i wr => ∃ k : Nat, k ≤ l.length ∧ i = .int .i64 k ∧ idxGo p 0 l = idxGo p k (l.drop k) ∧ Below w.heap.size w wr) (fun i _ => l.length - (intOf i).toNat)
  case atStart => exact ⟨0, Nat.zero_le _, rfl, rfl, ext_refl _⟩
  case round =>
    obtain ⟨k, hk, rfl, heq, hB⟩ := hrel
    have HQ := Lib.hid heq
    clear heq
    by_cases hlt : k < l.length
    · obtain ⟨x, b1, o1, hx, rfl, hb1, hc⟩ := (ha.ext hB).at_ hlt
      have HX := Lib.hid hx
      clear hx
      have c0 := hc 0 _ rfl
      have c1 := hc 1 _ rfl
      have c2 := hc 2 _ rfl
      simp only [Nat.mul_one, Nat.add_zero] at c0 c1 c2
      clear hc
      have hlt' : (k : Int) < l.length := by omega
      have hE2 := HE.out #[x.v, cap1] wr
      cases hpx : p x
      · go_wp2_with fail
        refine (HP.out x wr (List.mem_of_getElem? HX.out) hB).mono ?_
        rintro e w1 ⟨rfl, hB1⟩
        clear hE2
        go_wp2_with fail
        go_roundw
        case rel => exact ⟨k + 1, hlt, by go_num, idx_step HX.out hpx HQ.out, ext_trans hB hB1⟩
        case measure => simp [intOf]; omega
      · go_wp2_with fail
        refine (HP.out x wr (List.mem_of_getElem? HX.out) hB).mono ?_
        rintro e w1 ⟨rfl, hB1⟩
        clear hE2
        go_wp2_with fail
        go_ret
        exact ⟨ret_int (idx_hit HX.out hpx HQ.out).symm, ext_trans hB hB1⟩
    · go_wp2_with fail
      go_ret
      exact ⟨ret_int (idx_end (by omega) HQ.out).symm, hB⟩
theorem containsNd (g : Nat) (cap1 : Value) (p : Nd → Bool) (A : Option Addr) (c : Nat) (l : List (Nd)) (w : World) (ha : Slc w Nd.cells 3 A l) (hn : l.length ≤ maxLen) (hE : Enters Try.prog g)
    (hp : ∀ (x : Nd) (W : World), x ∈ l → Below w.heap.size w W → Calls Try.prog g #[x.v, cap1] W fun e W' => e = .returned (.bool (p x)) ∧ Below W.heap.size W W') :
    Calls Try.prog 42 #[.slice A l.length c, .func (.func g) #[] #[cap1]] w fun e w' => e = .returned (.bool (l.any p)) ∧ Below w.heap.size w w' := by
  have HP := Lib.hid hp
  have HE := Lib.hid hE
  clear hp hE
  go_enter Try.func42, Try.ntmps42
  go_wp2_with fail
  refine (indexNd g cap1 p A c l _ ha hn HE.out HP.out).mono ?_
  rintro e w1 ⟨rfl, hB1⟩
  go_wp2_with fail
  go_ret
  exact ⟨ret_bool (idx_any p l), hB1⟩
set_option maxHeartbeats 400000 in
theorem indexI (g : Nat) (cap1 : Value) (p : Int → Bool) (A : Option Addr) (c : Nat) (l : List (Int)) (w : World) (ha : Slc w ic 1 A l) (hn : l.length ≤ maxLen) (hE : Enters Try.prog g)
    (hp : ∀ (x : Int) (W : World), x ∈ l → Below w.heap.size w W → Calls Try.prog g #[.int .i64 x, cap1] W fun e W' => e = .returned (.bool (p x)) ∧ Below W.heap.size W W') :
    Calls Try.prog 45 #[.slice A l.length c, .func (.func g) #[] #[cap1]] w fun e w' => e = .returned (.int .i64 (idxGo p 0 l)) ∧ Below w.heap.size w w' := by
  have HP := Lib.hid hp
  have HE := Lib.hid hE
  clear hp hE
  unfold maxLen at hn
  go_enter Try.func45, Try.ntmps45
  go_wp2
  go_loopw [8] (fun i wr => ∃ k : Nat, k ≤ l.length ∧ i = .int .i64 k ∧ idxGo p 0 l = idxGo p k (l.drop k) ∧ Below w.heap.size w wr) (fun i _ => l.length - (intOf i).toNat)
  case atStart => exact ⟨0, Nat.zero_le _, rfl, rfl, ext_refl _⟩
  case round =>
    obtain ⟨k, hk, rfl, heq, hB⟩ := hrel
    have HQ := Lib.hid heq
    clear heq
    by_cases hlt : k < l.length
    · obtain ⟨x, b1, o1, hx, rfl, hb1, hc⟩ := (ha.ext hB).at_ hlt
      have HX := Lib.hid hx
      clear hx
      have c0 := hc 0 _ rfl
      simp only [Nat.mul_one, Nat.add_zero] at c0
      clear hc
      have hlt' : (k : Int) < l.length := by omega
      have hE2 := HE.out #[.int .i64 x, cap1] wr
      cases hpx : p x
      · go_wp2_with fail
        refine (HP.out x wr (List.mem_of_getElem? HX.out) hB).mono ?_
        rintro e w1 ⟨rfl, hB1⟩
        clear hE2
        go_wp2_with fail
        go_roundw
        case rel => exact ⟨k + 1, hlt, by go_num, idx_step HX.out hpx HQ.out, ext_trans hB hB1⟩
        case measure => simp [intOf]; omega
      · go_wp2_with fail
        refine (HP.out x wr (List.mem_of_getElem? HX.out) hB).mono ?_
        rintro e w1 ⟨rfl, hB1⟩
        clear hE2
        go_wp2_with fail
        go_ret
        exact ⟨ret_int (idx_hit HX.out hpx HQ.out).symm, ext_trans hB hB1⟩
    · go_wp2_with fail
      go_ret
      exact ⟨ret_int (idx_end (by omega) HQ.out).symm, hB⟩
theorem containsI (g : Nat) (cap1 : Value) (p : Int → Bool) (A : Option Addr) (c : Nat) (l : List (Int)) (w : World) (ha : Slc w ic 1 A l) (hn : l.length ≤ maxLen) (hE : Enters Try.prog g)
    (hp : ∀ (x : Int) (W : World), x ∈ l → Below w.heap.size w W → Calls Try.prog g #[.int .i64 x, cap1] W fun e W' => e = .returned (.bool (p x)) ∧ Below W.heap.size W W') :
    Calls Try.prog 35 #[.slice A l.length c, .func (.func g) #[] #[cap1]] w fun e w' => e = .returned (.bool (l.any p)) ∧ Below w.heap.size w w' := by
  have HP := Lib.hid hp
  have HE := Lib.hid hE
  clear hp hE
  go_enter Try.func35, Try.ntmps35
  go_wp2_with fail
  refine (indexI g cap1 p A c l _ ha hn HE.out HP.out).mono ?_
  rintro e w1 ⟨rfl, hB1⟩
  go_wp2_with fail
  go_ret
  exact ⟨ret_bool (idx_any p l), hB1⟩
theorem same_stepI {a b : List Int} {k : Nat} {x y : Int} (h : a.take k = b.take k) (hx : a[k]? = some x) (hy : b[k]? = some y) (hxy : x = y) : a.take (k + 1) = b.take (k + 1) := by
  simp [List.take_add_one, h, hx, hy, hxy]
theorem same_noI {a b : List Int} {k : Nat} {x y : Int} (hx : a[k]? = some x) (hy : b[k]? = some y) (hxy : x ≠ y) : a ≠ b := by
  rintro rfl; rw [hx] at hy; exact hxy (Option.some.inj hy)
set_option maxHeartbeats 400000 in
theorem sameqI (A B : Option Addr) (ca cb : Nat) (a b : List Int) (w : World) (ha : Slc w ic 1 A a) (hb : Slc w ic 1 B b) (hn : a.length < 1048576) :
    Calls Try.prog 15 #[.slice A a.length ca, .slice B b.length cb] w fun e w' => e = .returned (.bool (decide (a = b))) ∧ ∃ n, w' = w.drewN n := by
  by_cases hl : a.length = b.length
  · have hl1 : ((a.length : Int) != (b.length : Int)) = false := by simp; omega
    have HL := Lib.hid hl
    have hlb : b.length ≤ a.length := by omega
    have hlb' : a.length ≤ b.length := by omega
    clear hl
    go_enter Try.func15, Try.ntmps15
    go_wp2
    go_loopw [5] (fun i wr => ∃ k : Nat, k ≤ a.length ∧ i = .int .i64 k ∧ a.take k = b.take k ∧ Hid (∃ n, wr = w.drewN n)) (fun i _ => a.length - (intOf i).toNat)
    case atStart => exact ⟨0, Nat.zero_le _, rfl, by simp, 0, rfl⟩
    case round =>
      obtain ⟨k, hk, rfl, htk, hbe⟩ := hrel
      have HT := Lib.hid htk
      clear htk
      by_cases hlt : k < a.length
      · obtain ⟨x, b1, o1, hx, rfl, _, hc⟩ := (Slc.drewE ha hbe.out).at_ hlt
        obtain ⟨y, b2, o2, hy, rfl, _, hd⟩ := (Slc.drewE hb hbe.out).at_ (show k < b.length by omega)
        have HX := Lib.hid hx
        have HY := Lib.hid hy
        clear hx hy
        have c0 := hc 0 _ rfl
        have d0 := hd 0 _ rfl
        simp only [Nat.mul_one, Nat.add_zero] at c0 d0
        clear hc hd
        have hltb : k < b.length := by omega
        have hi1 : (k : Int) < (a.length : Int) := by omega
        have hi2 : (k : Int) < (b.length : Int) := by omega
        have hcs : (x != y) = !decide (x = y) := by simp [bne, BEq.beq]
        go_wp2
        go_quiet (fail)
        go_wp2
        · have hxy : (!decide (x = y)) = true := by assumption
          go_ret
          exact ⟨ret_bool (by simp [same_noI HX.out HY.out (by simpa using hxy)]), drewE hbe.out _⟩
        · have hxy : (!decide (x = y)) = false := by assumption
          go_roundw
          case rel => exact ⟨k + 1, hlt, by go_num, same_stepI HT.out HX.out HY.out (by simpa using hxy), drewE hbe.out _⟩
          case measure => simp [intOf]; omega
      · go_wp2
        go_ret
        refine ⟨ret_bool ?_, hbe.out⟩
        have h1 := HT.out
        rw [List.take_of_length_le (by omega), List.take_of_length_le (by omega)] at h1
        simp [h1]
  · have hl1 : ((a.length : Int) != (b.length : Int)) = true := by simp; omega
    have HL := Lib.hid hl
    clear hl
    go_enter Try.func15, Try.ntmps15
    go_wp2
    go_ret
    exact ⟨ret_bool (by simp; intro h; exact HL.out (by rw [h])), 0, rfl⟩
theorem sameI {A B : Option Addr} {ca cb : Nat} {a b : List Int} {w : World} {n m : Nat} (r : Bool) (hr : decide (a = b) = r) (hl : n = a.length) (hm : m = b.length) (ha : Slc w ic 1 A a) (hb : Slc w ic 1 B b) (hn : a.length < 1000000) :
    Calls Try.prog 15 #[.slice A n ca, .slice B m cb] w fun e w' => e = .returned (.bool r) ∧ Below w.heap.size w w' := by
  subst hr hl hm
  exact (sameqI A B ca cb a b w ha hb (by omega)).mono fun _ _ ⟨h1, n, h2⟩ => ⟨h1, by rw [h2]; exact ext_drewN (ext_refl w) n⟩

theorem in_any (n a b : Int) (w : World) : Calls Try.prog 29 #[.int .i64 n, .int .i64 a, .int .i64 b] w fun e w' => e = .returned (.bool (decide (a ≤ n) && decide (n ≤ b))) ∧ w = w' := by
  go_enter Try.func29, Try.ntmps29
  by_cases h : a ≤ n
  · by_cases k : n ≤ b
    all_goals
      go_wp2_with fail
      go_ret
      exact ⟨ret_bool (by simp [h, k]; try omega), rfl⟩
  · go_wp2_with fail
    go_ret
    exact ⟨ret_bool (by simp [h]; try omega), rfl⟩
theorem has_any (A : Option Addr) (c : Nat) (l : List Int) (n : Int) (w : World) (ha : Slc w ic 1 A l) (hn : l.length ≤ maxLen) :
    Calls Try.prog 24 #[.slice A l.length c, .int .i64 n] w fun e w' => e = .returned (.bool (decide (n ∈ l))) ∧ w = w' := by
  unfold maxLen at hn
  go_enter Try.func24, Try.ntmps24
  go_wp2_with fail
  go_loop [9] (fun i => ∃ k : Nat, k ≤ l.length ∧ i = .int .i64 k ∧ Hid (¬ n ∈ l.take k)) (fun i => l.length - (intOf i).toNat)
  case atStart => exact ⟨0, Nat.zero_le _, rfl, by simp [Hid]⟩
  case round =>
    obtain ⟨k, hk, rfl, HT⟩ := hrel
    by_cases hlt : k < l.length
    · obtain ⟨x, b1, o1, hx, rfl, hb1, hc⟩ := ha.at_ hlt
      have HX := Lib.hid hx
      have c0 := hc 0 _ rfl
      simp only [Nat.mul_one, Nat.add_zero] at c0
      clear hx hc
      have hlt' : (k : Int) < l.length := by omega
      by_cases hxn : x = n
      · have h1 : (x == n) = true := by simpa using hxn
        have HH : Hid (n ∈ l) := by rw [← hxn]; exact List.mem_of_getElem? HX.out
        clear hxn
        go_wp2_with fail
        go_ret
        exact ⟨ret_bool (decide_eq_true HH.out).symm, rfl⟩
      · have h1 : (x == n) = false := by simpa using hxn
        have HH := Lib.hid hxn
        clear hxn
        go_wp2_with fail
        go_round
        case rel => exact ⟨k + 1, hlt, by go_num, by
          unfold Hid
          rw [List.take_add_one, HX.out]; simp only [Option.toList_some, List.mem_append, List.mem_singleton, not_or]
          exact ⟨HT.out, fun e => HH.out e.symm⟩⟩
        case measure => simp [intOf]; omega
    · go_wp2_with fail
      go_ret
      refine ⟨ret_bool ?_, rfl⟩
      have := HT.out
      rw [List.take_of_length_le (by omega)] at this
      simp [this]
/-- Some bool; the world is as it was. -/
def SomeB (w : World) (e : Ending) (w' : World) : Prop := (∃ r, e = .returned (.bool r)) ∧ w = w'
theorem few_any (A : Option Addr) (c : Nat) (l : List Nd) (w : World) (ha : Slc w Nd.cells 3 A l) (hn : l.length ≤ maxLen) :
    Calls Try.prog 12 #[.slice A l.length c] w (SomeB w) := by
  unfold maxLen at hn
  by_cases h40 : l.length ≤ 40
  all_goals
    go_enter Try.func12, Try.ntmps12
    go_wp2_with fail
    go_loop [3, 4] (fun s i => ∃ k : Nat, k ≤ l.length ∧ i = .int .i64 k ∧ ∃ q : Int, s = .int .i64 q) (fun _ i => l.length - (intOf i).toNat)
    case atStart => exact ⟨0, Nat.zero_le _, rfl, 0, rfl⟩
    case round =>
      obtain ⟨k, hk, rfl, q, rfl⟩ := hrel
      by_cases hlt : k < l.length
      · obtain ⟨x, b1, o1, hx, rfl, hb1, hc⟩ := ha.at_ hlt
        have c2 := hc 2 _ rfl
        clear hx hc
        have hlt' : (k : Int) < l.length := by omega
        go_wp2_with fail
        go_round
        case rel => exact ⟨k + 1, hlt, by go_num, _, rfl⟩
        case measure => simp [intOf]; omega
      · go_wp2_with fail
        all_goals
          go_ret
          exact ⟨⟨_, rfl⟩, rfl⟩
end Go.Proofs.Ytemdebheinbolaa
