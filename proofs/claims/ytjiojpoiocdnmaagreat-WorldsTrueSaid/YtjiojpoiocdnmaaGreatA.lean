/- Small contracts: searching, and whether all elements hold. -/
import Derived.Test.YtjiojpoiocdnmaaGreatU0
import Derived.Test.YtjiojpoiocdnmaaGreatU1
import Derived.Test.YtjiojpoiocdnmaaGreatU2
import Derived.BigQuiet
import Derived.Deep.QuietTactic
import Derived.Deep.RegionHeld3
import Derived.IntWalk
import Derived.Lib.Hide
import Derived.WalkKit
import Derived.WalkLawsBesides
import Derived.WalkSpells
set_option linter.unusedSimpArgs false
set_option linter.unusedVariables false
namespace Go.Proofs.YtjiojpoiocdnmaaGreat
open Go.RowKit
theorem ret_bool {a b : Bool} (h : a = b) : Ending.returned (.bool a) = .returned (.bool b) := by rw [h]
theorem ret_int {a b : Int} (h : a = b) : Ending.returned (.int .i64 a) = .returned (.int .i64 b) := by rw [h]
def Enters (P : Program) (g : Nat) : Prop := ∀ (args : Array Value) (w : World), (callFunc g args).run P w = .ok (.enter g args) w
abbrev RetB (w : World) (r : Bool) (e : Ending) (w' : World) : Prop := e = .returned (.bool r) ∧ Below w.heap.size w w'
abbrev RetE (w : World) (r : Int) (e : Ending) (w' : World) : Prop := e = .returned (.int .i64 r) ∧ Below w.heap.size w w'
abbrev Tru (w : World) (e : Ending) (w' : World) : Prop := e = .returned (.bool true) ∧ Below w.heap.size w w'
theorem all_any {α : Type} (p : α → Bool) (l : List α) : (!l.any (fun x => !p x)) = l.all p := by
 rw [Bool.eq_iff_iff]; simp
set_option maxHeartbeats 400000 in
theorem indexI (g : Nat) (cap1 : Value) (p : Int → Bool) (A : Option Addr) (c : Nat) (l : List (Int)) (w : World) (ha : Slc w ic 1 A l) (hn : l.length ≤ maxLen) (hE : Enters Tryz.prog g)
  (hp : ∀ (x : Int) (W : World), x ∈ l → Below w.heap.size w W → Calls Tryz.prog g #[.int .i64 x, cap1] W fun e W' => e = .returned (.bool (p x)) ∧ Below W.heap.size W W') :
  Calls Tryz.prog 137 #[.slice A l.length c, .func (.func g) #[] #[cap1]] w fun e w' => e = .returned (.int .i64 (idxGo p 0 l)) ∧ Below w.heap.size w w' := by
 have HP := Lib.hid hp
 have HE := Lib.hid hE
 clear hp hE
 unfold maxLen at hn
 go_enter Tryz.func137, Tryz.ntmps137
 go_wp2
 go_loopw [8] (fun i wr => ∃ k : Nat, k ≤ l.length ∧ i = .int .i64 k ∧ idxGo p 0 l = idxGo p k (l.drop k) ∧ Below w.heap.size w wr) (fun i _ => l.length - (intOf i).toNat)
 case atStart => exact ⟨0, Nat.zero_le _, rfl, rfl, ext_refl _⟩
 case round =>
  obtain ⟨k, hk, rfl, heq, hB⟩ := hrel
  have HQ := Lib.hid heq
  clear heq
  by_cases hlt : k < l.length
  ·obtain ⟨x, b1, o1, hx, rfl, hb1, hc⟩ := (ha.ext hB).at_ hlt
   have HX := Lib.hid hx
   clear hx
   have c0 := hc 0 _ rfl
   simp only [Nat.mul_one, Nat.add_zero] at c0
   clear hc
   have hlt' : (k : Int) < l.length := by omega
   have hE2 := HE.out #[.int .i64 x, cap1] wr
   cases hpx : p x
   ·go_wp2_with fail
    refine (HP.out x wr (List.mem_of_getElem? HX.out) hB).mono ?_
    rintro e w1 ⟨rfl, hB1⟩
    clear hE2
    go_wp2_with fail
    go_roundw
    case rel => exact ⟨k + 1, hlt, by go_num, idx_step HX.out hpx HQ.out, ext_trans hB hB1⟩
    case measure => simp [intOf]; omega
   ·go_wp2_with fail
    refine (HP.out x wr (List.mem_of_getElem? HX.out) hB).mono ?_
    rintro e w1 ⟨rfl, hB1⟩
    clear hE2
    go_wp2_with fail
    go_ret
    exact ⟨ret_int (idx_hit HX.out hpx HQ.out).symm, ext_trans hB hB1⟩
  ·go_wp2_with fail
   go_ret
   exact ⟨ret_int (idx_end (by omega) HQ.out).symm, hB⟩
theorem containsI (g : Nat) (cap1 : Value) (p : Int → Bool) (A : Option Addr) (c : Nat) (l : List (Int)) (w : World) (ha : Slc w ic 1 A l) (hn : l.length ≤ maxLen) (hE : Enters Tryz.prog g)
  (hp : ∀ (x : Int) (W : World), x ∈ l → Below w.heap.size w W → Calls Tryz.prog g #[.int .i64 x, cap1] W fun e W' => e = .returned (.bool (p x)) ∧ Below W.heap.size W W') :
  Calls Tryz.prog 115 #[.slice A l.length c, .func (.func g) #[] #[cap1]] w fun e w' => e = .returned (.bool (l.any p)) ∧ Below w.heap.size w w' := by
 have HP := Lib.hid hp
 have HE := Lib.hid hE
 clear hp hE
 go_enter Tryz.func115, Tryz.ntmps115
 go_wp2_with fail
 refine (indexI g cap1 p A c l _ ha hn HE.out HP.out).mono ?_
 rintro e w1 ⟨rfl, hB1⟩
 go_wp2_with fail
 go_ret
 exact ⟨ret_bool (idx_any p l), hB1⟩

set_option maxHeartbeats 400000 in
theorem indexLg (g : Nat) (cap1 : Value) (p : Lg → Bool) (A : Option Addr) (c : Nat) (l : List (Lg)) (w : World) (ha : Slc w Lg.cells 4 A l) (hn : l.length ≤ maxLen) (hE : Enters Tryz.prog g)
  (hp : ∀ (x : Lg) (W : World), x ∈ l → Below w.heap.size w W → Calls Tryz.prog g #[x.v, cap1] W fun e W' => e = .returned (.bool (p x)) ∧ Below W.heap.size W W') :
  Calls Tryz.prog 139 #[.slice A l.length c, .func (.func g) #[] #[cap1]] w fun e w' => e = .returned (.int .i64 (idxGo p 0 l)) ∧ Below w.heap.size w w' := by
 have HP := Lib.hid hp
 have HE := Lib.hid hE
 clear hp hE
 unfold maxLen at hn
 go_enter Tryz.func139, Tryz.ntmps139
 go_wp2
 go_loopw [8] (fun i wr => ∃ k : Nat, k ≤ l.length ∧ i = .int .i64 k ∧ idxGo p 0 l = idxGo p k (l.drop k) ∧ Below w.heap.size w wr) (fun i _ => l.length - (intOf i).toNat)
 case atStart => exact ⟨0, Nat.zero_le _, rfl, rfl, ext_refl _⟩
 case round =>
  obtain ⟨k, hk, rfl, heq, hB⟩ := hrel
  have HQ := Lib.hid heq
  clear heq
  by_cases hlt : k < l.length
  ·obtain ⟨x, b1, o1, hx, rfl, hb1, hc⟩ := (ha.ext hB).at_ hlt
   have HX := Lib.hid hx
   clear hx
   have c0 := hc 0 _ rfl
   have c1 := hc 1 _ rfl
   have c2 := hc 2 _ rfl
   have c3 := hc 3 _ rfl
   simp only [Nat.mul_one, Nat.add_zero] at c0 c1 c2 c3
   clear hc
   have hlt' : (k : Int) < l.length := by omega
   have hE2 := HE.out #[x.v, cap1] wr
   cases hpx : p x
   ·go_wp2_with fail
    refine (HP.out x wr (List.mem_of_getElem? HX.out) hB).mono ?_
    rintro e w1 ⟨rfl, hB1⟩
    clear hE2
    go_wp2_with fail
    go_roundw
    case rel => exact ⟨k + 1, hlt, by go_num, idx_step HX.out hpx HQ.out, ext_trans hB hB1⟩
    case measure => simp [intOf]; omega
   ·go_wp2_with fail
    refine (HP.out x wr (List.mem_of_getElem? HX.out) hB).mono ?_
    rintro e w1 ⟨rfl, hB1⟩
    clear hE2
    go_wp2_with fail
    go_ret
    exact ⟨ret_int (idx_hit HX.out hpx HQ.out).symm, ext_trans hB hB1⟩
  ·go_wp2_with fail
   go_ret
   exact ⟨ret_int (idx_end (by omega) HQ.out).symm, hB⟩
theorem containsLg (g : Nat) (cap1 : Value) (p : Lg → Bool) (A : Option Addr) (c : Nat) (l : List (Lg)) (w : World) (ha : Slc w Lg.cells 4 A l) (hn : l.length ≤ maxLen) (hE : Enters Tryz.prog g)
  (hp : ∀ (x : Lg) (W : World), x ∈ l → Below w.heap.size w W → Calls Tryz.prog g #[x.v, cap1] W fun e W' => e = .returned (.bool (p x)) ∧ Below W.heap.size W W') :
  Calls Tryz.prog 119 #[.slice A l.length c, .func (.func g) #[] #[cap1]] w fun e w' => e = .returned (.bool (l.any p)) ∧ Below w.heap.size w w' := by
 have HP := Lib.hid hp
 have HE := Lib.hid hE
 clear hp hE
 go_enter Tryz.func119, Tryz.ntmps119
 go_wp2_with fail
 refine (indexLg g cap1 p A c l _ ha hn HE.out HP.out).mono ?_
 rintro e w1 ⟨rfl, hB1⟩
 go_wp2_with fail
 go_ret
 exact ⟨ret_bool (idx_any p l), hB1⟩

set_option maxHeartbeats 400000 in
theorem indexSec (g : Nat) (cap1 : Value) (p : Sec → Bool) (A : Option Addr) (c : Nat) (l : List (Sec)) (w : World) (ha : Slc w Sec.cells 5 A l) (hn : l.length ≤ maxLen) (hE : Enters Tryz.prog g)
  (hp : ∀ (x : Sec) (W : World), x ∈ l → Below w.heap.size w W → Calls Tryz.prog g #[x.v, cap1] W fun e W' => e = .returned (.bool (p x)) ∧ Below W.heap.size W W') :
  Calls Tryz.prog 144 #[.slice A l.length c, .func (.func g) #[] #[cap1]] w fun e w' => e = .returned (.int .i64 (idxGo p 0 l)) ∧ Below w.heap.size w w' := by
 have HP := Lib.hid hp
 have HE := Lib.hid hE
 clear hp hE
 unfold maxLen at hn
 go_enter Tryz.func144, Tryz.ntmps144
 go_wp2
 go_loopw [8] (fun i wr => ∃ k : Nat, k ≤ l.length ∧ i = .int .i64 k ∧ idxGo p 0 l = idxGo p k (l.drop k) ∧ Below w.heap.size w wr) (fun i _ => l.length - (intOf i).toNat)
 case atStart => exact ⟨0, Nat.zero_le _, rfl, rfl, ext_refl _⟩
 case round =>
  obtain ⟨k, hk, rfl, heq, hB⟩ := hrel
  have HQ := Lib.hid heq
  clear heq
  by_cases hlt : k < l.length
  ·obtain ⟨x, b1, o1, hx, rfl, hb1, hc⟩ := (ha.ext hB).at_ hlt
   have HX := Lib.hid hx
   clear hx
   have c0 := hc 0 _ rfl
   have c1 := hc 1 _ rfl
   have c2 := hc 2 _ rfl
   have c3 := hc 3 _ rfl
   have c4 := hc 4 _ rfl
   simp only [Nat.mul_one, Nat.add_zero] at c0 c1 c2 c3 c4
   clear hc
   have hlt' : (k : Int) < l.length := by omega
   have hE2 := HE.out #[x.v, cap1] wr
   cases hpx : p x
   ·go_wp2_with fail
    refine (HP.out x wr (List.mem_of_getElem? HX.out) hB).mono ?_
    rintro e w1 ⟨rfl, hB1⟩
    clear hE2
    go_wp2_with fail
    go_roundw
    case rel => exact ⟨k + 1, hlt, by go_num, idx_step HX.out hpx HQ.out, ext_trans hB hB1⟩
    case measure => simp [intOf]; omega
   ·go_wp2_with fail
    refine (HP.out x wr (List.mem_of_getElem? HX.out) hB).mono ?_
    rintro e w1 ⟨rfl, hB1⟩
    clear hE2
    go_wp2_with fail
    go_ret
    exact ⟨ret_int (idx_hit HX.out hpx HQ.out).symm, ext_trans hB hB1⟩
  ·go_wp2_with fail
   go_ret
   exact ⟨ret_int (idx_end (by omega) HQ.out).symm, hB⟩
theorem containsSec (g : Nat) (cap1 : Value) (p : Sec → Bool) (A : Option Addr) (c : Nat) (l : List (Sec)) (w : World) (ha : Slc w Sec.cells 5 A l) (hn : l.length ≤ maxLen) (hE : Enters Tryz.prog g)
  (hp : ∀ (x : Sec) (W : World), x ∈ l → Below w.heap.size w W → Calls Tryz.prog g #[x.v, cap1] W fun e W' => e = .returned (.bool (p x)) ∧ Below W.heap.size W W') :
  Calls Tryz.prog 123 #[.slice A l.length c, .func (.func g) #[] #[cap1]] w fun e w' => e = .returned (.bool (l.any p)) ∧ Below w.heap.size w w' := by
 have HP := Lib.hid hp
 have HE := Lib.hid hE
 clear hp hE
 go_enter Tryz.func123, Tryz.ntmps123
 go_wp2_with fail
 refine (indexSec g cap1 p A c l _ ha hn HE.out HP.out).mono ?_
 rintro e w1 ⟨rfl, hB1⟩
 go_wp2_with fail
 go_ret
 exact ⟨ret_bool (idx_any p l), hB1⟩

set_option maxHeartbeats 400000 in
theorem indexL (g : Nat) (cap1 : Value) (p : SliceOf Int → Bool) (A : Option Addr) (c : Nat) (l : List (SliceOf Int)) (w : World) (ha : Slc w SliceOf.enc 1 A l) (hn : l.length ≤ maxLen) (hE : Enters Tryz.prog g)
  (hp : ∀ (x : SliceOf Int) (W : World), x ∈ l → Below w.heap.size w W → Calls Tryz.prog g #[(.slice x.A x.l.length x.c), cap1] W fun e W' => e = .returned (.bool (p x)) ∧ Below W.heap.size W W') :
  Calls Tryz.prog 145 #[.slice A l.length c, .func (.func g) #[] #[cap1]] w fun e w' => e = .returned (.int .i64 (idxGo p 0 l)) ∧ Below w.heap.size w w' := by
 have HP := Lib.hid hp
 have HE := Lib.hid hE
 clear hp hE
 unfold maxLen at hn
 go_enter Tryz.func145, Tryz.ntmps145
 go_wp2
 go_loopw [8] (fun i wr => ∃ k : Nat, k ≤ l.length ∧ i = .int .i64 k ∧ idxGo p 0 l = idxGo p k (l.drop k) ∧ Below w.heap.size w wr) (fun i _ => l.length - (intOf i).toNat)
 case atStart => exact ⟨0, Nat.zero_le _, rfl, rfl, ext_refl _⟩
 case round =>
  obtain ⟨k, hk, rfl, heq, hB⟩ := hrel
  have HQ := Lib.hid heq
  clear heq
  by_cases hlt : k < l.length
  ·obtain ⟨x, b1, o1, hx, rfl, hb1, hc⟩ := (ha.ext hB).at_ hlt
   have HX := Lib.hid hx
   clear hx
   have c0 := hc 0 _ rfl
   simp only [Nat.mul_one, Nat.add_zero] at c0
   clear hc
   have hlt' : (k : Int) < l.length := by omega
   have hE2 := HE.out #[(.slice x.A x.l.length x.c), cap1] wr
   cases hpx : p x
   ·go_wp2_with fail
    refine (HP.out x wr (List.mem_of_getElem? HX.out) hB).mono ?_
    rintro e w1 ⟨rfl, hB1⟩
    clear hE2
    go_wp2_with fail
    go_roundw
    case rel => exact ⟨k + 1, hlt, by go_num, idx_step HX.out hpx HQ.out, ext_trans hB hB1⟩
    case measure => simp [intOf]; omega
   ·go_wp2_with fail
    refine (HP.out x wr (List.mem_of_getElem? HX.out) hB).mono ?_
    rintro e w1 ⟨rfl, hB1⟩
    clear hE2
    go_wp2_with fail
    go_ret
    exact ⟨ret_int (idx_hit HX.out hpx HQ.out).symm, ext_trans hB hB1⟩
  ·go_wp2_with fail
   go_ret
   exact ⟨ret_int (idx_end (by omega) HQ.out).symm, hB⟩
theorem containsL (g : Nat) (cap1 : Value) (p : SliceOf Int → Bool) (A : Option Addr) (c : Nat) (l : List (SliceOf Int)) (w : World) (ha : Slc w SliceOf.enc 1 A l) (hn : l.length ≤ maxLen) (hE : Enters Tryz.prog g)
  (hp : ∀ (x : SliceOf Int) (W : World), x ∈ l → Below w.heap.size w W → Calls Tryz.prog g #[(.slice x.A x.l.length x.c), cap1] W fun e W' => e = .returned (.bool (p x)) ∧ Below W.heap.size W W') :
  Calls Tryz.prog 125 #[.slice A l.length c, .func (.func g) #[] #[cap1]] w fun e w' => e = .returned (.bool (l.any p)) ∧ Below w.heap.size w w' := by
 have HP := Lib.hid hp
 have HE := Lib.hid hE
 clear hp hE
 go_enter Tryz.func125, Tryz.ntmps125
 go_wp2_with fail
 refine (indexL g cap1 p A c l _ ha hn HE.out HP.out).mono ?_
 rintro e w1 ⟨rfl, hB1⟩
 go_wp2_with fail
 go_ret
 exact ⟨ret_bool (idx_any p l), hB1⟩

set_option maxHeartbeats 400000 in
theorem indexWy (g : Nat) (cap1 : Value) (p : Wy → Bool) (A : Option Addr) (c : Nat) (l : List (Wy)) (w : World) (ha : Slc w Wy.cells 3 A l) (hn : l.length ≤ maxLen) (hE : Enters Tryz.prog g)
  (hp : ∀ (x : Wy) (W : World), x ∈ l → Below w.heap.size w W → Calls Tryz.prog g #[x.v, cap1] W fun e W' => e = .returned (.bool (p x)) ∧ Below W.heap.size W W') :
  Calls Tryz.prog 146 #[.slice A l.length c, .func (.func g) #[] #[cap1]] w fun e w' => e = .returned (.int .i64 (idxGo p 0 l)) ∧ Below w.heap.size w w' := by
 have HP := Lib.hid hp
 have HE := Lib.hid hE
 clear hp hE
 unfold maxLen at hn
 go_enter Tryz.func146, Tryz.ntmps146
 go_wp2
 go_loopw [8] (fun i wr => ∃ k : Nat, k ≤ l.length ∧ i = .int .i64 k ∧ idxGo p 0 l = idxGo p k (l.drop k) ∧ Below w.heap.size w wr) (fun i _ => l.length - (intOf i).toNat)
 case atStart => exact ⟨0, Nat.zero_le _, rfl, rfl, ext_refl _⟩
 case round =>
  obtain ⟨k, hk, rfl, heq, hB⟩ := hrel
  have HQ := Lib.hid heq
  clear heq
  by_cases hlt : k < l.length
  ·obtain ⟨x, b1, o1, hx, rfl, hb1, hc⟩ := (ha.ext hB).at_ hlt
   have HX := Lib.hid hx
   clear hx
   have c0 := hc 0 _ rfl
   have c1 := hc 1 _ rfl
   have c2 := hc 2 _ rfl
   simp only [Nat.mul_one, Nat.add_zero] at c0 c1 c2
   clear hc
   have hlt' : (k : Int) < l.length := by omega
   have hE2 := HE.out #[x.v, cap1] wr
   cases hpx : p x
   ·go_wp2_with fail
    refine (HP.out x wr (List.mem_of_getElem? HX.out) hB).mono ?_
    rintro e w1 ⟨rfl, hB1⟩
    clear hE2
    go_wp2_with fail
    go_roundw
    case rel => exact ⟨k + 1, hlt, by go_num, idx_step HX.out hpx HQ.out, ext_trans hB hB1⟩
    case measure => simp [intOf]; omega
   ·go_wp2_with fail
    refine (HP.out x wr (List.mem_of_getElem? HX.out) hB).mono ?_
    rintro e w1 ⟨rfl, hB1⟩
    clear hE2
    go_wp2_with fail
    go_ret
    exact ⟨ret_int (idx_hit HX.out hpx HQ.out).symm, ext_trans hB hB1⟩
  ·go_wp2_with fail
   go_ret
   exact ⟨ret_int (idx_end (by omega) HQ.out).symm, hB⟩
theorem containsWy (g : Nat) (cap1 : Value) (p : Wy → Bool) (A : Option Addr) (c : Nat) (l : List (Wy)) (w : World) (ha : Slc w Wy.cells 3 A l) (hn : l.length ≤ maxLen) (hE : Enters Tryz.prog g)
  (hp : ∀ (x : Wy) (W : World), x ∈ l → Below w.heap.size w W → Calls Tryz.prog g #[x.v, cap1] W fun e W' => e = .returned (.bool (p x)) ∧ Below W.heap.size W W') :
  Calls Tryz.prog 127 #[.slice A l.length c, .func (.func g) #[] #[cap1]] w fun e w' => e = .returned (.bool (l.any p)) ∧ Below w.heap.size w w' := by
 have HP := Lib.hid hp
 have HE := Lib.hid hE
 clear hp hE
 go_enter Tryz.func127, Tryz.ntmps127
 go_wp2_with fail
 refine (indexWy g cap1 p A c l _ ha hn HE.out HP.out).mono ?_
 rintro e w1 ⟨rfl, hB1⟩
 go_wp2_with fail
 go_ret
 exact ⟨ret_bool (idx_any p l), hB1⟩

set_option maxHeartbeats 400000 in
theorem indexKd (g : Nat) (cap1 : Value) (p : Kd → Bool) (A : Option Addr) (c : Nat) (l : List (Kd)) (w : World) (ha : Slc w Kd.cells 6 A l) (hn : l.length ≤ maxLen) (hE : Enters Tryz.prog g)
  (hp : ∀ (x : Kd) (W : World), x ∈ l → Below w.heap.size w W → Calls Tryz.prog g #[x.v, cap1] W fun e W' => e = .returned (.bool (p x)) ∧ Below W.heap.size W W') :
  Calls Tryz.prog 147 #[.slice A l.length c, .func (.func g) #[] #[cap1]] w fun e w' => e = .returned (.int .i64 (idxGo p 0 l)) ∧ Below w.heap.size w w' := by
 have HP := Lib.hid hp
 have HE := Lib.hid hE
 clear hp hE
 unfold maxLen at hn
 go_enter Tryz.func147, Tryz.ntmps147
 go_wp2
 go_loopw [8] (fun i wr => ∃ k : Nat, k ≤ l.length ∧ i = .int .i64 k ∧ idxGo p 0 l = idxGo p k (l.drop k) ∧ Below w.heap.size w wr) (fun i _ => l.length - (intOf i).toNat)
 case atStart => exact ⟨0, Nat.zero_le _, rfl, rfl, ext_refl _⟩
 case round =>
  obtain ⟨k, hk, rfl, heq, hB⟩ := hrel
  have HQ := Lib.hid heq
  clear heq
  by_cases hlt : k < l.length
  ·obtain ⟨x, b1, o1, hx, rfl, hb1, hc⟩ := (ha.ext hB).at_ hlt
   have HX := Lib.hid hx
   clear hx
   have c0 := hc 0 _ rfl
   have c1 := hc 1 _ rfl
   have c2 := hc 2 _ rfl
   have c3 := hc 3 _ rfl
   have c4 := hc 4 _ rfl
   have c5 := hc 5 _ rfl
   simp only [Nat.mul_one, Nat.add_zero] at c0 c1 c2 c3 c4 c5
   clear hc
   have hlt' : (k : Int) < l.length := by omega
   have hE2 := HE.out #[x.v, cap1] wr
   cases hpx : p x
   ·go_wp2_with fail
    refine (HP.out x wr (List.mem_of_getElem? HX.out) hB).mono ?_
    rintro e w1 ⟨rfl, hB1⟩
    clear hE2
    go_wp2_with fail
    go_roundw
    case rel => exact ⟨k + 1, hlt, by go_num, idx_step HX.out hpx HQ.out, ext_trans hB hB1⟩
    case measure => simp [intOf]; omega
   ·go_wp2_with fail
    refine (HP.out x wr (List.mem_of_getElem? HX.out) hB).mono ?_
    rintro e w1 ⟨rfl, hB1⟩
    clear hE2
    go_wp2_with fail
    go_ret
    exact ⟨ret_int (idx_hit HX.out hpx HQ.out).symm, ext_trans hB hB1⟩
  ·go_wp2_with fail
   go_ret
   exact ⟨ret_int (idx_end (by omega) HQ.out).symm, hB⟩
theorem containsKd (g : Nat) (cap1 : Value) (p : Kd → Bool) (A : Option Addr) (c : Nat) (l : List (Kd)) (w : World) (ha : Slc w Kd.cells 6 A l) (hn : l.length ≤ maxLen) (hE : Enters Tryz.prog g)
  (hp : ∀ (x : Kd) (W : World), x ∈ l → Below w.heap.size w W → Calls Tryz.prog g #[x.v, cap1] W fun e W' => e = .returned (.bool (p x)) ∧ Below W.heap.size W W') :
  Calls Tryz.prog 129 #[.slice A l.length c, .func (.func g) #[] #[cap1]] w fun e w' => e = .returned (.bool (l.any p)) ∧ Below w.heap.size w w' := by
 have HP := Lib.hid hp
 have HE := Lib.hid hE
 clear hp hE
 go_enter Tryz.func129, Tryz.ntmps129
 go_wp2_with fail
 refine (indexKd g cap1 p A c l _ ha hn HE.out HP.out).mono ?_
 rintro e w1 ⟨rfl, hB1⟩
 go_wp2_with fail
 go_ret
 exact ⟨ret_bool (idx_any p l), hB1⟩

theorem enters74 : Enters Tryz.prog 116 := fun args w => by kernel_rfl
theorem notI (g : Nat) (x : Int) (r : Bool) (b : Nat) (W : World) (hE : Enters Tryz.prog g) (hb : Blk W b [.func (.func g) #[] #[]]) (hg : ∀ W', Below W.heap.size W W' → Calls Tryz.prog g #[.int .i64 x] W' (RetB W' r)) : Calls Tryz.prog 116 #[.int .i64 x, .pointer (some ⟨b, 0, none⟩)] W (RetB W (!r)) := by
 have b0 := hb.c 0 _ rfl
 have bl := hb.lt
 have HG := Lib.hid hg
 have hE2 := fun w => hE #[.int .i64 x] w
 clear hb hg hE
 go_enter Tryz.func116, Tryz.ntmps116
 go_wp2_with fail
 refine (HG.out _ (ext_refl _)).mono ?_
 rintro e w1 ⟨rfl, B⟩
 have E := Lib.hid (ext_trans (ext_refl _) B)
 clear HG B hE2
 cases r
 ·go_wp2_with fail
  go_ret
  exact ⟨ret_bool rfl, E.out⟩
 ·go_wp2_with fail
  go_ret
  exact ⟨ret_bool rfl, E.out⟩
theorem allI (g : Nat) (p : Int → Bool) (A : Option Addr) (c : Nat) (l : List (Int)) (w : World) (ha : Slc w ic 1 A l) (hn : l.length ≤ maxLen) (hE : Enters Tryz.prog g)
  (hp : ∀ (x : Int) (W : World), x ∈ l → Below w.heap.size w W → Calls Tryz.prog g #[.int .i64 x] W (RetB W (p x))) : Calls Tryz.prog 87 #[.slice A l.length c, .func (.func g) #[] #[]] w (RetB w (l.all p)) := by
 have HC := Lib.hid (containsI 116 (.pointer (some ⟨w.heap.size, 0, none⟩)) (fun x => !p x) A c l (w.alloc (.cells #[.func (.func g) #[] #[]] 176)) (ha.alloc _) hn enters74 (fun x W hx hB =>
  notI g x (p x) w.heap.size W hE ((Blk.newH w [.func (.func g) #[] #[]] 176 w.heap.size rfl).ext hB) (fun W' hB' => hp x W' hx (ext_trans (ext_trans (ext_alloc (ext_refl w) _) hB) hB'))))
 rw [← all_any p l]
 obtain ⟨r, hr⟩ : ∃ r, l.any (fun x => !p x) = r := ⟨_, rfl⟩
 rw [hr] at HC ⊢
 clear hr ha hn hE hp
 go_enter Tryz.func87, Tryz.ntmps87
 go_wp2_with fail
 refine HC.out.mono ?_
 rintro e w1 ⟨rfl, B⟩
 have E := Lib.hid (ext_trans (ext_alloc (ext_refl _) _) B)
 clear HC B
 cases r
 ·go_wp2_with fail
  go_ret
  exact ⟨ret_bool rfl, E.out⟩
 ·go_wp2_with fail
  go_ret
  exact ⟨ret_bool rfl, E.out⟩
theorem enters78 : Enters Tryz.prog 120 := fun args w => by kernel_rfl
theorem notLg (g : Nat) (k1 : Value) (x : Lg) (r : Bool) (b : Nat) (W : World) (hE : Enters Tryz.prog g) (hb : Blk W b [.func (.func g) #[] #[k1]]) (hg : ∀ W', Below W.heap.size W W' → Calls Tryz.prog g #[x.v, k1] W' (RetB W' r)) : Calls Tryz.prog 120 #[x.v, .pointer (some ⟨b, 0, none⟩)] W (RetB W (!r)) := by
 have b0 := hb.c 0 _ rfl
 have bl := hb.lt
 have HG := Lib.hid hg
 have hE2 := fun w => hE #[x.v, k1] w
 clear hb hg hE
 go_enter Tryz.func120, Tryz.ntmps120
 go_wp2_with fail
 refine (HG.out _ (ext_alloc (ext_refl _) _)).mono ?_
 rintro e w1 ⟨rfl, B⟩
 have E := Lib.hid (ext_trans (ext_alloc (ext_refl _) _) B)
 clear HG B hE2
 cases r
 ·go_wp2_with fail
  go_ret
  exact ⟨ret_bool rfl, E.out⟩
 ·go_wp2_with fail
  go_ret
  exact ⟨ret_bool rfl, E.out⟩
theorem allLg (g : Nat) (k1 : Value) (p : Lg → Bool) (A : Option Addr) (c : Nat) (l : List (Lg)) (w : World) (ha : Slc w Lg.cells 4 A l) (hn : l.length ≤ maxLen) (hE : Enters Tryz.prog g)
  (hp : ∀ (x : Lg) (W : World), x ∈ l → Below w.heap.size w W → Calls Tryz.prog g #[x.v, k1] W (RetB W (p x))) : Calls Tryz.prog 93 #[.slice A l.length c, .func (.func g) #[] #[k1]] w (RetB w (l.all p)) := by
 have HC := Lib.hid (containsLg 120 (.pointer (some ⟨w.heap.size, 0, none⟩)) (fun x => !p x) A c l (w.alloc (.cells #[.func (.func g) #[] #[k1]] 178)) (ha.alloc _) hn enters78 (fun x W hx hB =>
  notLg g k1 x (p x) w.heap.size W hE ((Blk.newH w [.func (.func g) #[] #[k1]] 178 w.heap.size rfl).ext hB) (fun W' hB' => hp x W' hx (ext_trans (ext_trans (ext_alloc (ext_refl w) _) hB) hB'))))
 rw [← all_any p l]
 obtain ⟨r, hr⟩ : ∃ r, l.any (fun x => !p x) = r := ⟨_, rfl⟩
 rw [hr] at HC ⊢
 clear hr ha hn hE hp
 go_enter Tryz.func93, Tryz.ntmps93
 go_wp2_with fail
 refine HC.out.mono ?_
 rintro e w1 ⟨rfl, B⟩
 have E := Lib.hid (ext_trans (ext_alloc (ext_refl _) _) B)
 clear HC B
 cases r
 ·go_wp2_with fail
  go_ret
  exact ⟨ret_bool rfl, E.out⟩
 ·go_wp2_with fail
  go_ret
  exact ⟨ret_bool rfl, E.out⟩
theorem enters82 : Enters Tryz.prog 124 := fun args w => by kernel_rfl
theorem notSec (g : Nat) (x : Sec) (r : Bool) (b : Nat) (W : World) (hE : Enters Tryz.prog g) (hb : Blk W b [.func (.func g) #[] #[]]) (hg : ∀ W', Below W.heap.size W W' → Calls Tryz.prog g #[x.v] W' (RetB W' r)) : Calls Tryz.prog 124 #[x.v, .pointer (some ⟨b, 0, none⟩)] W (RetB W (!r)) := by
 have b0 := hb.c 0 _ rfl
 have bl := hb.lt
 have HG := Lib.hid hg
 have hE2 := fun w => hE #[x.v] w
 clear hb hg hE
 go_enter Tryz.func124, Tryz.ntmps124
 go_wp2_with fail
 refine (HG.out _ (ext_alloc (ext_refl _) _)).mono ?_
 rintro e w1 ⟨rfl, B⟩
 have E := Lib.hid (ext_trans (ext_alloc (ext_refl _) _) B)
 clear HG B hE2
 cases r
 ·go_wp2_with fail
  go_ret
  exact ⟨ret_bool rfl, E.out⟩
 ·go_wp2_with fail
  go_ret
  exact ⟨ret_bool rfl, E.out⟩
theorem allSec (g : Nat) (p : Sec → Bool) (A : Option Addr) (c : Nat) (l : List (Sec)) (w : World) (ha : Slc w Sec.cells 5 A l) (hn : l.length ≤ maxLen) (hE : Enters Tryz.prog g)
  (hp : ∀ (x : Sec) (W : World), x ∈ l → Below w.heap.size w W → Calls Tryz.prog g #[x.v] W (RetB W (p x))) : Calls Tryz.prog 98 #[.slice A l.length c, .func (.func g) #[] #[]] w (RetB w (l.all p)) := by
 have HC := Lib.hid (containsSec 124 (.pointer (some ⟨w.heap.size, 0, none⟩)) (fun x => !p x) A c l (w.alloc (.cells #[.func (.func g) #[] #[]] 174)) (ha.alloc _) hn enters82 (fun x W hx hB =>
  notSec g x (p x) w.heap.size W hE ((Blk.newH w [.func (.func g) #[] #[]] 174 w.heap.size rfl).ext hB) (fun W' hB' => hp x W' hx (ext_trans (ext_trans (ext_alloc (ext_refl w) _) hB) hB'))))
 rw [← all_any p l]
 obtain ⟨r, hr⟩ : ∃ r, l.any (fun x => !p x) = r := ⟨_, rfl⟩
 rw [hr] at HC ⊢
 clear hr ha hn hE hp
 go_enter Tryz.func98, Tryz.ntmps98
 go_wp2_with fail
 refine HC.out.mono ?_
 rintro e w1 ⟨rfl, B⟩
 have E := Lib.hid (ext_trans (ext_alloc (ext_refl _) _) B)
 clear HC B
 cases r
 ·go_wp2_with fail
  go_ret
  exact ⟨ret_bool rfl, E.out⟩
 ·go_wp2_with fail
  go_ret
  exact ⟨ret_bool rfl, E.out⟩
theorem enters84 : Enters Tryz.prog 126 := fun args w => by kernel_rfl
theorem notL (g : Nat) (x : SliceOf Int) (r : Bool) (b : Nat) (W : World) (hE : Enters Tryz.prog g) (hb : Blk W b [.func (.func g) #[] #[]]) (hg : ∀ W', Below W.heap.size W W' → Calls Tryz.prog g #[(.slice x.A x.l.length x.c)] W' (RetB W' r)) : Calls Tryz.prog 126 #[(.slice x.A x.l.length x.c), .pointer (some ⟨b, 0, none⟩)] W (RetB W (!r)) := by
 have b0 := hb.c 0 _ rfl
 have bl := hb.lt
 have HG := Lib.hid hg
 have hE2 := fun w => hE #[(.slice x.A x.l.length x.c)] w
 clear hb hg hE
 go_enter Tryz.func126, Tryz.ntmps126
 go_wp2_with fail
 refine (HG.out _ (ext_refl _)).mono ?_
 rintro e w1 ⟨rfl, B⟩
 have E := Lib.hid (ext_trans (ext_refl _) B)
 clear HG B hE2
 cases r
 ·go_wp2_with fail
  go_ret
  exact ⟨ret_bool rfl, E.out⟩
 ·go_wp2_with fail
  go_ret
  exact ⟨ret_bool rfl, E.out⟩
theorem allL (g : Nat) (p : SliceOf Int → Bool) (A : Option Addr) (c : Nat) (l : List (SliceOf Int)) (w : World) (ha : Slc w SliceOf.enc 1 A l) (hn : l.length ≤ maxLen) (hE : Enters Tryz.prog g)
  (hp : ∀ (x : SliceOf Int) (W : World), x ∈ l → Below w.heap.size w W → Calls Tryz.prog g #[(.slice x.A x.l.length x.c)] W (RetB W (p x))) : Calls Tryz.prog 99 #[.slice A l.length c, .func (.func g) #[] #[]] w (RetB w (l.all p)) := by
 have HC := Lib.hid (containsL 126 (.pointer (some ⟨w.heap.size, 0, none⟩)) (fun x => !p x) A c l (w.alloc (.cells #[.func (.func g) #[] #[]] 138)) (ha.alloc _) hn enters84 (fun x W hx hB =>
  notL g x (p x) w.heap.size W hE ((Blk.newH w [.func (.func g) #[] #[]] 138 w.heap.size rfl).ext hB) (fun W' hB' => hp x W' hx (ext_trans (ext_trans (ext_alloc (ext_refl w) _) hB) hB'))))
 rw [← all_any p l]
 obtain ⟨r, hr⟩ : ∃ r, l.any (fun x => !p x) = r := ⟨_, rfl⟩
 rw [hr] at HC ⊢
 clear hr ha hn hE hp
 go_enter Tryz.func99, Tryz.ntmps99
 go_wp2_with fail
 refine HC.out.mono ?_
 rintro e w1 ⟨rfl, B⟩
 have E := Lib.hid (ext_trans (ext_alloc (ext_refl _) _) B)
 clear HC B
 cases r
 ·go_wp2_with fail
  go_ret
  exact ⟨ret_bool rfl, E.out⟩
 ·go_wp2_with fail
  go_ret
  exact ⟨ret_bool rfl, E.out⟩
theorem enters86 : Enters Tryz.prog 128 := fun args w => by kernel_rfl
theorem notWy (g : Nat) (k1 : Value) (k2 : Value) (x : Wy) (r : Bool) (b : Nat) (W : World) (hE : Enters Tryz.prog g) (hb : Blk W b [.func (.func g) #[] #[k1, k2]]) (hg : ∀ W', Below W.heap.size W W' → Calls Tryz.prog g #[x.v, k1, k2] W' (RetB W' r)) : Calls Tryz.prog 128 #[x.v, .pointer (some ⟨b, 0, none⟩)] W (RetB W (!r)) := by
 have b0 := hb.c 0 _ rfl
 have bl := hb.lt
 have HG := Lib.hid hg
 have hE2 := fun w => hE #[x.v, k1, k2] w
 clear hb hg hE
 go_enter Tryz.func128, Tryz.ntmps128
 go_wp2_with fail
 refine (HG.out _ (ext_alloc (ext_refl _) _)).mono ?_
 rintro e w1 ⟨rfl, B⟩
 have E := Lib.hid (ext_trans (ext_alloc (ext_refl _) _) B)
 clear HG B hE2
 cases r
 ·go_wp2_with fail
  go_ret
  exact ⟨ret_bool rfl, E.out⟩
 ·go_wp2_with fail
  go_ret
  exact ⟨ret_bool rfl, E.out⟩
theorem allWy (g : Nat) (k1 : Value) (k2 : Value) (p : Wy → Bool) (A : Option Addr) (c : Nat) (l : List (Wy)) (w : World) (ha : Slc w Wy.cells 3 A l) (hn : l.length ≤ maxLen) (hE : Enters Tryz.prog g)
  (hp : ∀ (x : Wy) (W : World), x ∈ l → Below w.heap.size w W → Calls Tryz.prog g #[x.v, k1, k2] W (RetB W (p x))) : Calls Tryz.prog 100 #[.slice A l.length c, .func (.func g) #[] #[k1, k2]] w (RetB w (l.all p)) := by
 have HC := Lib.hid (containsWy 128 (.pointer (some ⟨w.heap.size, 0, none⟩)) (fun x => !p x) A c l (w.alloc (.cells #[.func (.func g) #[] #[k1, k2]] 180)) (ha.alloc _) hn enters86 (fun x W hx hB =>
  notWy g k1 k2 x (p x) w.heap.size W hE ((Blk.newH w [.func (.func g) #[] #[k1, k2]] 180 w.heap.size rfl).ext hB) (fun W' hB' => hp x W' hx (ext_trans (ext_trans (ext_alloc (ext_refl w) _) hB) hB'))))
 rw [← all_any p l]
 obtain ⟨r, hr⟩ : ∃ r, l.any (fun x => !p x) = r := ⟨_, rfl⟩
 rw [hr] at HC ⊢
 clear hr ha hn hE hp
 go_enter Tryz.func100, Tryz.ntmps100
 go_wp2_with fail
 refine HC.out.mono ?_
 rintro e w1 ⟨rfl, B⟩
 have E := Lib.hid (ext_trans (ext_alloc (ext_refl _) _) B)
 clear HC B
 cases r
 ·go_wp2_with fail
  go_ret
  exact ⟨ret_bool rfl, E.out⟩
 ·go_wp2_with fail
  go_ret
  exact ⟨ret_bool rfl, E.out⟩
theorem enters88 : Enters Tryz.prog 130 := fun args w => by kernel_rfl
theorem notKd (g : Nat) (k1 : Value) (x : Kd) (r : Bool) (b : Nat) (W : World) (hE : Enters Tryz.prog g) (hb : Blk W b [.func (.func g) #[] #[k1]]) (hg : ∀ W', Below W.heap.size W W' → Calls Tryz.prog g #[x.v, k1] W' (RetB W' r)) : Calls Tryz.prog 130 #[x.v, .pointer (some ⟨b, 0, none⟩)] W (RetB W (!r)) := by
 have b0 := hb.c 0 _ rfl
 have bl := hb.lt
 have HG := Lib.hid hg
 have hE2 := fun w => hE #[x.v, k1] w
 clear hb hg hE
 go_enter Tryz.func130, Tryz.ntmps130
 go_wp2_with fail
 refine (HG.out _ (ext_alloc (ext_refl _) _)).mono ?_
 rintro e w1 ⟨rfl, B⟩
 have E := Lib.hid (ext_trans (ext_alloc (ext_refl _) _) B)
 clear HG B hE2
 cases r
 ·go_wp2_with fail
  go_ret
  exact ⟨ret_bool rfl, E.out⟩
 ·go_wp2_with fail
  go_ret
  exact ⟨ret_bool rfl, E.out⟩
theorem allKd (g : Nat) (k1 : Value) (p : Kd → Bool) (A : Option Addr) (c : Nat) (l : List (Kd)) (w : World) (ha : Slc w Kd.cells 6 A l) (hn : l.length ≤ maxLen) (hE : Enters Tryz.prog g)
  (hp : ∀ (x : Kd) (W : World), x ∈ l → Below w.heap.size w W → Calls Tryz.prog g #[x.v, k1] W (RetB W (p x))) : Calls Tryz.prog 101 #[.slice A l.length c, .func (.func g) #[] #[k1]] w (RetB w (l.all p)) := by
 have HC := Lib.hid (containsKd 130 (.pointer (some ⟨w.heap.size, 0, none⟩)) (fun x => !p x) A c l (w.alloc (.cells #[.func (.func g) #[] #[k1]] 181)) (ha.alloc _) hn enters88 (fun x W hx hB =>
  notKd g k1 x (p x) w.heap.size W hE ((Blk.newH w [.func (.func g) #[] #[k1]] 181 w.heap.size rfl).ext hB) (fun W' hB' => hp x W' hx (ext_trans (ext_trans (ext_alloc (ext_refl w) _) hB) hB'))))
 rw [← all_any p l]
 obtain ⟨r, hr⟩ : ∃ r, l.any (fun x => !p x) = r := ⟨_, rfl⟩
 rw [hr] at HC ⊢
 clear hr ha hn hE hp
 go_enter Tryz.func101, Tryz.ntmps101
 go_wp2_with fail
 refine HC.out.mono ?_
 rintro e w1 ⟨rfl, B⟩
 have E := Lib.hid (ext_trans (ext_alloc (ext_refl _) _) B)
 clear HC B
 cases r
 ·go_wp2_with fail
  go_ret
  exact ⟨ret_bool rfl, E.out⟩
 ·go_wp2_with fail
  go_ret
  exact ⟨ret_bool rfl, E.out⟩
end Go.Proofs.YtjiojpoiocdnmaaGreat
