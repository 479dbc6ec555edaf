import Derived.WalkKit
import Derived.WalkLawsBesides
import Derived.WalkSpells
import Derived.Deep.QuietTactic
import Derived.BigQuiet
import Derived.Lib.Hide
import Derived.IntWalk
import Derived.Deep.RegionHeld3
import Derived.Test.YtmgpbjpohbpgpaaProg
import Derived.Test.YtmgpbjpohbpgpaaHPlain
import Derived.Test.YtmgpbjpohbpgpaaApp
import Derived.Test.YtmgpbjpohbpgpaaIdx
set_option linter.unusedSimpArgs false
set_option linter.unusedVariables false
namespace Go.Proofs.Ytmgpbjpohbpgpaa
open Go.RowKit

theorem ret_bool {a b : Bool} (h : a = b) : Ending.returned (.bool a) = .returned (.bool b) := by rw [h]
theorem ret_int {a b : Int} (h : a = b) : Ending.returned (.int .i64 a) = .returned (.int .i64 b) := by rw [h]
/-- A call of function g enters it. -/
def Enters (P : Program) (g : Nat) : Prop := ∀ (args : Array Value) (w : World), (callFunc g args).run P w = .ok (.enter g args) w
theorem bcell {W w1 : World} (hb : Below W.heap.size W w1) : (∀ b o, b < W.heap.size → w1.cell? ⟨b, o, none⟩ = W.cell? ⟨b, o, none⟩) ∧ (∀ b o, b < W.heap.size → w1.frozen? ⟨b, o, none⟩ = W.frozen? ⟨b, o, none⟩) :=
  ⟨fun b o h => hb.cell (p := ⟨b, o, none⟩) h, fun b o h => hb.frozen (p := ⟨b, o, none⟩) h⟩
def ic (n : Int) : List Value := [.int .i64 n]
theorem ic_len (n : Int) : (ic n).length = 1 := rfl
def Sp.cells (s : Sp) : List Value := [.int .i64 s.f, .int .i64 s.t]
abbrev Sp.v (s : Sp) : Value := .agg #[.int .i64 s.f, .int .i64 s.t]
theorem Sp.cells_len (s : Sp) : s.cells.length = 2 := rfl
theorem enters29 : Enters Try.prog 68 := fun args w => by kernel_rfl
theorem enters36 : Enters Try.prog 35 := fun args w => by kernel_rfl
set_option maxHeartbeats 400000 in
theorem indexSp (g : Nat) (p : Sp → Bool) (A : Option Addr) (c : Nat) (l : List (Sp)) (w : World) (ha : Slc w Sp.cells 2 A l) (hn : l.length < 1000000) (hE : Enters Try.prog g)
    (hp : ∀ (x : Sp) (W : World), x ∈ l → Below w.heap.size w W → Calls Try.prog g #[x.v] W fun e W' => e = .returned (.bool (p x)) ∧ Below W.heap.size W W') :
    Calls Try.prog 51 #[.slice A l.length c, .func (.func g) #[] #[]] w fun e w' => e = .returned (.int .i64 (idxGo p 0 l)) ∧ Below w.heap.size w w' := by
  have HP := Lib.hid hp
  have HE := Lib.hid hE
  clear hp hE
  go_enter Try.func51, Try.ntmps51
  go_wp2
  go_loopw [8] (fun i wr => ∃ k : Nat, k ≤ l.length ∧ i = .int .i64 k ∧ idxGo p 0 l = idxGo p k (l.drop k) ∧ Below w.heap.size w wr) (fun i _ => l.length - (intOf i).toNat)
  case atStart => exact ⟨0, Nat.zero_le _, rfl, rfl, ext_refl _⟩
  case round =>
    obtain ⟨k, hk, rfl, heq, hB⟩ := hrel
    have HQ := Lib.hid heq
    clear heq
    by_cases hlt : k < l.length
    · obtain ⟨x, b1, o1, hx, rfl, hb1, hc⟩ := (ha.ext hB).at_ hlt
      have HX := Lib.hid hx
      clear hx
      have c0 := hc 0 _ rfl
      have c1 := hc 1 _ rfl
      simp only [Nat.add_zero] at c0 c1
      clear hc
      have hlt' : (k : Int) < l.length := by omega
      have hE2 := HE.out #[x.v] wr
      cases hpx : p x
      · go_wp2_with fail
        refine (HP.out x wr (List.mem_of_getElem? HX.out) hB).mono ?_
        rintro e w1 ⟨rfl, hB1⟩
        clear hE2
        go_wp2_with fail
        go_roundw
        case rel => exact ⟨k + 1, hlt, by go_num, idx_step HX.out hpx HQ.out, ext_trans hB hB1⟩
        case measure => simp [intOf]; omega
      · go_wp2_with fail
        refine (HP.out x wr (List.mem_of_getElem? HX.out) hB).mono ?_
        rintro e w1 ⟨rfl, hB1⟩
        clear hE2
        go_wp2_with fail
        go_ret
        exact ⟨ret_int (idx_hit HX.out hpx HQ.out).symm, ext_trans hB hB1⟩
    · go_wp2_with fail
      go_ret
      exact ⟨ret_int (idx_end (by omega) HQ.out).symm, hB⟩
theorem containsSp (g : Nat) (p : Sp → Bool) (A : Option Addr) (c : Nat) (l : List (Sp)) (w : World) (ha : Slc w Sp.cells 2 A l) (hn : l.length < 1000000) (hE : Enters Try.prog g)
    (hp : ∀ (x : Sp) (W : World), x ∈ l → Below w.heap.size w W → Calls Try.prog g #[x.v] W fun e W' => e = .returned (.bool (p x)) ∧ Below W.heap.size W W') :
    Calls Try.prog 34 #[.slice A l.length c, .func (.func g) #[] #[]] w fun e w' => e = .returned (.bool (l.any p)) ∧ Below w.heap.size w w' := by
  have HP := Lib.hid hp
  have HE := Lib.hid hE
  clear hp hE
  go_enter Try.func34, Try.ntmps34
  go_wp2_with fail
  refine (indexSp g p A c l _ ha hn HE.out HP.out).mono ?_
  rintro e w1 ⟨rfl, hB1⟩
  go_wp2_with fail
  go_ret
  exact ⟨ret_bool (idx_any p l), hB1⟩
set_option maxHeartbeats 400000 in
theorem indexSpC (g : Nat) (cap1 : Value) (p : Sp → Bool) (A : Option Addr) (c : Nat) (l : List (Sp)) (w : World) (ha : Slc w Sp.cells 2 A l) (hn : l.length < 1000000) (hE : Enters Try.prog g)
    (hp : ∀ (x : Sp) (W : World), x ∈ l → Below w.heap.size w W → Calls Try.prog g #[x.v, cap1] W fun e W' => e = .returned (.bool (p x)) ∧ Below W.heap.size W W') :
    Calls Try.prog 51 #[.slice A l.length c, .func (.func g) #[] #[cap1]] w fun e w' => e = .returned (.int .i64 (idxGo p 0 l)) ∧ Below w.heap.size w w' := by
  have HP := Lib.hid hp
  have HE := Lib.hid hE
  clear hp hE
  go_enter Try.func51, Try.ntmps51
  go_wp2
  go_loopw [8] (fun i wr => ∃ k : Nat, k ≤ l.length ∧ i = .int .i64 k ∧ idxGo p 0 l = idxGo p k (l.drop k) ∧ Below w.heap.size w wr) (fun i _ => l.length - (intOf i).toNat)
  case atStart => exact ⟨0, Nat.zero_le _, rfl, rfl, ext_refl _⟩
  case round =>
    obtain ⟨k, hk, rfl, heq, hB⟩ := hrel
    have HQ := Lib.hid heq
    clear heq
    by_cases hlt : k < l.length
    · obtain ⟨x, b1, o1, hx, rfl, hb1, hc⟩ := (ha.ext hB).at_ hlt
      have HX := Lib.hid hx
      clear hx
      have c0 := hc 0 _ rfl
      have c1 := hc 1 _ rfl
      simp only [Nat.add_zero] at c0 c1
      clear hc
      have hlt' : (k : Int) < l.length := by omega
      have hE2 := HE.out #[x.v, cap1] wr
      cases hpx : p x
      · go_wp2_with fail
        refine (HP.out x wr (List.mem_of_getElem? HX.out) hB).mono ?_
        rintro e w1 ⟨rfl, hB1⟩
        clear hE2
        go_wp2_with fail
        go_roundw
        case rel => exact ⟨k + 1, hlt, by go_num, idx_step HX.out hpx HQ.out, ext_trans hB hB1⟩
        case measure => simp [intOf]; omega
      · go_wp2_with fail
        refine (HP.out x wr (List.mem_of_getElem? HX.out) hB).mono ?_
        rintro e w1 ⟨rfl, hB1⟩
        clear hE2
        go_wp2_with fail
        go_ret
        exact ⟨ret_int (idx_hit HX.out hpx HQ.out).symm, ext_trans hB hB1⟩
    · go_wp2_with fail
      go_ret
      exact ⟨ret_int (idx_end (by omega) HQ.out).symm, hB⟩
theorem containsSpC (g : Nat) (cap1 : Value) (p : Sp → Bool) (A : Option Addr) (c : Nat) (l : List (Sp)) (w : World) (ha : Slc w Sp.cells 2 A l) (hn : l.length < 1000000) (hE : Enters Try.prog g)
    (hp : ∀ (x : Sp) (W : World), x ∈ l → Below w.heap.size w W → Calls Try.prog g #[x.v, cap1] W fun e W' => e = .returned (.bool (p x)) ∧ Below W.heap.size W W') :
    Calls Try.prog 34 #[.slice A l.length c, .func (.func g) #[] #[cap1]] w fun e w' => e = .returned (.bool (l.any p)) ∧ Below w.heap.size w w' := by
  have HP := Lib.hid hp
  have HE := Lib.hid hE
  clear hp hE
  go_enter Try.func34, Try.ntmps34
  go_wp2_with fail
  refine (indexSpC g cap1 p A c l _ ha hn HE.out HP.out).mono ?_
  rintro e w1 ⟨rfl, hB1⟩
  go_wp2_with fail
  go_ret
  exact ⟨ret_bool (idx_any p l), hB1⟩

theorem check1_any (x : Sp) (w : World) : Calls Try.prog 68 #[x.v] w fun e w' => e = .returned (.bool (badS x)) ∧ Below w.heap.size w w' := by
  go_enter Try.func68, Try.ntmps68
  go_wp2_with fail
  all_goals
    go_ret
    exact ⟨ret_bool (by simp_all [badS] <;> omega), ext_alloc (ext_refl _) _⟩
theorem check_any (A : Option Addr) (c : Nat) (l : List Sp) (w : World) (ha : Slc w Sp.cells 2 A l) (hn : l.length < 1000000) :
    Calls Try.prog 56 #[.slice A l.length c] w fun e w' => e = .returned (.int .i64 (chkE l)) ∧ Below w.heap.size w w' := by
  go_enter Try.func56, Try.ntmps56
  go_wp2_with fail
  refine (containsSp 68 badS A c l _ ha hn enters29 (fun x W _ _ => check1_any x W)).mono ?_
  rintro e w1 ⟨rfl, hB1⟩
  cases h : l.any badS
  all_goals
    go_wp2_with fail
    go_ret
    exact ⟨ret_int (by simp [chkE, h]), hB1⟩
theorem has1_any (x : Sp) (b : Nat) (m : Int) (w : World) (hb : b < w.heap.size) (hm : w.cell? ⟨b, 0, none⟩ = some (.int .i64 m)) : Calls Try.prog 35 #[x.v, .pointer (some ⟨b, 0, none⟩)] w fun e w' => e = .returned (.bool (inS x m)) ∧ Below w.heap.size w w' := by
  have hm2 := ((ext_alloc (ext_refl w) (.cells #[.int .i64 x.f, .int .i64 x.t] 40)).cell (p := ⟨b, 0, none⟩) hb).trans hm
  go_enter Try.func35, Try.ntmps35
  go_wp2_with fail
  all_goals
    go_ret
    exact ⟨ret_bool (by simp_all [inS] <;> omega), ext_alloc (ext_refl _) _⟩
theorem has_any (A : Option Addr) (c : Nat) (l : List Sp) (m : Int) (w : World) (ha : Slc w Sp.cells 2 A l) (hn : l.length < 1000000) :
    Calls Try.prog 16 #[.slice A l.length c, .int .i64 m] w fun e w' => e = .returned (.bool (has l m)) ∧ Below w.heap.size w w' := by
  go_enter Try.func16, Try.ntmps16
  by_cases h0 : 0 ≤ m
  rotate_left
  · go_wp2_with fail
    go_ret
    exact ⟨ret_bool (by simp [has]; omega), ext_alloc (ext_refl _) _⟩
  by_cases h1 : m < 1440
  rotate_left
  · go_wp2_with fail
    go_ret
    exact ⟨ret_bool (by simp [has]; omega), ext_alloc (ext_refl _) _⟩
  go_wp2_with fail
  refine (containsSpC 35 (.pointer (some ⟨w.heap.size, 0, none⟩)) (fun s => inS s m) A c l _ (ha.alloc _) hn enters36 (fun x W _ hW => has1_any x _ m W (Nat.lt_of_lt_of_le (by simp) hW.size) ((hW.cell (p := ⟨w.heap.size, 0, none⟩) (by simp)).trans (by simp)))).mono ?_
  rintro e w1 ⟨rfl, hB1⟩
  go_wp2_with fail
  go_ret
  exact ⟨ret_bool (by simp [has, h0, h1, inL]), ext_trans (ext_alloc (ext_refl _) _) hB1⟩
theorem fields31 : Try.prog.fieldsOf 40 = (match Try.prog.underlying 40 with | some (.struct fs) => fs | _ => #[]) := by kernel_rfl
theorem Sp.eq_iff (x y : Sp) : x = y ↔ x.f = y.f ∧ x.t = y.t := by cases x; cases y; simp
theorem eq31 (x y : Sp) (d : Nat) (w : World) : (Op.equalIn (d + 2) 40 x.v y.v).run Try.prog w = .ok (decide (x = y)) w := by
  rw [run_equalIn_struct (P := Try.prog) w (d + 1) 40 _ _ (by kernel_rfl) (by kernel_rfl), fields31, Try.underlying40]
  simp [go_sem, Op.eqFields]
  go_simp
  simp only [Sp.eq_iff]
  repeat' split
  all_goals simp_all
theorem run_neq31 (x y : Sp) (w : World) : (binOp .neq 40 x.v y.v).run Try.prog w = .ok (.bool (!decide (x = y))) w := by
  rw [run_neq_struct, eq31 x y 9998 w]; rfl
theorem same_stepSp {a b : List Sp} {k : Nat} {x y : Sp} (h : a.take k = b.take k) (hx : a[k]? = some x) (hy : b[k]? = some y) (hxy : x = y) : a.take (k + 1) = b.take (k + 1) := by
  simp [List.take_add_one, h, hx, hy, hxy]
theorem same_noSp {a b : List Sp} {k : Nat} {x y : Sp} (hx : a[k]? = some x) (hy : b[k]? = some y) (hxy : x ≠ y) : a ≠ b := by
  rintro rfl; rw [hx] at hy; exact hxy (Option.some.inj hy)
set_option maxHeartbeats 400000 in
theorem sameqSp (A B : Option Addr) (ca cb : Nat) (a b : List Sp) (w : World) (ha : Slc w Sp.cells 2 A a) (hb : Slc w Sp.cells 2 B b) (hn : a.length < 1048576) :
    Calls Try.prog 18 #[.slice A a.length ca, .slice B b.length cb] w fun e w' => e = .returned (.bool (decide (a = b))) ∧ ∃ n, w' = w.drewN n := by
  by_cases hl : a.length = b.length
  · have hl1 : ((a.length : Int) != (b.length : Int)) = false := by simp; omega
    have HL := Lib.hid hl
    have hlb : b.length ≤ a.length := by omega
    have hlb' : a.length ≤ b.length := by omega
    clear hl
    go_enter Try.func18, Try.ntmps18
    go_wp2
    go_loopw [5] (fun i wr => ∃ k : Nat, k ≤ a.length ∧ i = .int .i64 k ∧ a.take k = b.take k ∧ Hid (∃ n, wr = w.drewN n)) (fun i _ => a.length - (intOf i).toNat)
    case atStart => exact ⟨0, Nat.zero_le _, rfl, by simp, 0, rfl⟩
    case round =>
      obtain ⟨k, hk, rfl, htk, hbe⟩ := hrel
      have HT := Lib.hid htk
      clear htk
      by_cases hlt : k < a.length
      · obtain ⟨x, b1, o1, hx, rfl, _, hc⟩ := (Slc.drewE ha hbe.out).at_ hlt
        obtain ⟨y, b2, o2, hy, rfl, _, hd⟩ := (Slc.drewE hb hbe.out).at_ (show k < b.length by omega)
        have HX := Lib.hid hx
        have HY := Lib.hid hy
        clear hx hy
        have c0 := hc 0 _ rfl
        have c1 := hc 1 _ rfl
        have d0 := hd 0 _ rfl
        have d1 := hd 1 _ rfl
        simp only [Nat.add_zero] at c0 c1 d0 d1
        clear hc hd
        have hltb : k < b.length := by omega
        have hi1 : (k : Int) < (a.length : Int) := by omega
        have hi2 : (k : Int) < (b.length : Int) := by omega
        have hne := fun w => run_neq31 x y w
        go_wp2
        go_quiet (fail)
        go_wp2
        · have hxy : (!decide (x = y)) = true := by assumption
          go_ret
          exact ⟨ret_bool (by simp [same_noSp HX.out HY.out (by simpa using hxy)]), drewE hbe.out _⟩
        · have hxy : (!decide (x = y)) = false := by assumption
          go_roundw
          case rel => exact ⟨k + 1, hlt, by go_num, same_stepSp HT.out HX.out HY.out (by simpa using hxy), drewE hbe.out _⟩
          case measure => simp [intOf]; omega
      · go_wp2
        go_ret
        refine ⟨ret_bool ?_, hbe.out⟩
        have h1 := HT.out
        rw [List.take_of_length_le (by omega), List.take_of_length_le (by omega)] at h1
        simp [h1]
  · have hl1 : ((a.length : Int) != (b.length : Int)) = true := by simp; omega
    have HL := Lib.hid hl
    clear hl
    go_enter Try.func18, Try.ntmps18
    go_wp2
    go_ret
    exact ⟨ret_bool (by simp; intro h; exact HL.out (by rw [h])), 0, rfl⟩
theorem sameSp {A B : Option Addr} {ca cb : Nat} {a b : List Sp} {w : World} {n m : Nat} (r : Bool) (hr : decide (a = b) = r) (hl : n = a.length) (hm : m = b.length) (ha : Slc w Sp.cells 2 A a) (hb : Slc w Sp.cells 2 B b) (hn : a.length < 1000000) :
    Calls Try.prog 18 #[.slice A n ca, .slice B m cb] w fun e w' => e = .returned (.bool r) ∧ Below w.heap.size w w' := by
  subst hr hl hm
  exact (sameqSp A B ca cb a b w ha hb (by omega)).mono fun _ _ ⟨h1, n, h2⟩ => ⟨h1, by rw [h2]; exact ext_drewN (ext_refl w) n⟩
end Go.Proofs.Ytmgpbjpohbpgpaa
