import Derived.WalkKit
import Derived.WalkLawsBesides
import Derived.WalkSpells
import Derived.Deep.QuietTactic
import Derived.BigQuiet
import Derived.Lib.Hide
import Derived.IntWalk
import Derived.Deep.RegionHeld3
import Derived.Test.YtlnfjdbdgcafbaaProg
import Derived.Test.YtlnfjdbdgcafbaaPl
import Derived.Test.YtlnfjdbdgcafbaaApp
namespace Go.Proofs.Ytlnfjdbdgcafbaa
open Go.RowKit

theorem ret_bool {a b : Bool} (h : a = b) : Ending.returned (.bool a) = .returned (.bool b) := by rw [h]
theorem ret_int {a b : Int} (h : a = b) : Ending.returned (.int .i64 a) = .returned (.int .i64 b) := by rw [h]
/-- A call of function g enters it. -/
def Enters (P : Program) (g : Nat) : Prop := ∀ (args : Array Value) (w : World), (callFunc g args).run P w = .ok (.enter g args) w
theorem bcell {W w1 : World} (hb : Below W.heap.size W w1) : (∀ b o, b < W.heap.size → w1.cell? ⟨b, o, none⟩ = W.cell? ⟨b, o, none⟩) ∧ (∀ b o, b < W.heap.size → w1.frozen? ⟨b, o, none⟩ = W.frozen? ⟨b, o, none⟩) :=
  ⟨fun b o h => hb.cell (p := ⟨b, o, none⟩) h, fun b o h => hb.frozen (p := ⟨b, o, none⟩) h⟩

def ic (n : Int) : List Value := [.int .i64 n]
def Sp.cells (s : Sp) : List Value := [.int .i64 s.f, .int .i64 s.t]
abbrev Sp.v (s : Sp) : Value := .agg #[.int .i64 s.f, .int .i64 s.t]
def Bd.cells (s : Bd) : List Value := [.int .i64 s.lo, .int .i64 s.hi]
abbrev Bd.v (s : Bd) : Value := .agg #[.int .i64 s.lo, .int .i64 s.hi]
def Lg.cells (x : Lg) : List Value := [.int .i64 x.seg, .int .i64 x.vol, .int .i64 x.len, .slice x.mi.A x.mi.l.length x.mi.c]
abbrev Lg.v (x : Lg) : Value := .agg #[.int .i64 x.seg, .int .i64 x.vol, .int .i64 x.len, .slice x.mi.A x.mi.l.length x.mi.c]
def Kd.cells (k : Kd) : List Value := [.int .i64 k.slow, .int .i64 k.fast, .int .i64 k.places, .int .i64 k.weight, .int .i64 k.longest, .slice k.cur.A k.cur.l.length k.cur.c]
abbrev Kd.v (k : Kd) : Value := .agg #[.int .i64 k.slow, .int .i64 k.fast, .int .i64 k.places, .int .i64 k.weight, .int .i64 k.longest, .slice k.cur.A k.cur.l.length k.cur.c]
/-- The curfews of a kind, in memory. -/
def Kd.ok (w : World) (k : Kd) : Prop := Slc w SliceOf.enc 1 k.cur.A k.cur.l ∧ ∀ s ∈ k.cur.l, Slc w Sp.cells 2 s.A s.l
theorem Kd.ok.ext {w w' : World} {k : Kd} (h : k.ok w) (hb : Below w.heap.size w w') : k.ok w' := ⟨h.1.ext hb, fun s hs => (h.2 s hs).ext hb⟩

theorem drop3 {l : List Int} {k : Nat} {a b c : Int} (ha : l[k]? = some a) (hb : l[k + 1]? = some b) (hc : l[k + 2]? = some c) : l.drop k = a :: b :: c :: l.drop (k + 3) := by
  obtain ⟨h0, rfl⟩ := List.getElem?_eq_some_iff.1 ha
  obtain ⟨h1, rfl⟩ := List.getElem?_eq_some_iff.1 hb
  obtain ⟨h2, rfl⟩ := List.getElem?_eq_some_iff.1 hc
  rw [List.drop_eq_getElem_cons h0, List.drop_eq_getElem_cons h1, List.drop_eq_getElem_cons h2]
theorem wit_short {l : List Int} (h : l.length ≤ 2) : wit l = true := by
  match l, h with
  | [], _ => rfl
  | [_], _ => rfl
  | [_, _], _ => rfl
set_option maxHeartbeats 800000 in
theorem within_any (A : Option Addr) (c : Nat) (l : List Int) (w : World) (ha : Slc w ic 1 A l) (hn : l.length < 1000000) :
    Calls Try.prog 21 #[.slice A l.length c] w fun e w' => e = .returned (.bool (wit l)) ∧ Below w.heap.size w w' := by
  go_enter Try.func21, Try.ntmps21
  go_wp2
  go_loopw [3] (fun i wr => ∃ k : Nat, k ≤ l.length ∧ i = .int .i64 k ∧ Hid (wit l = wit (l.drop k)) ∧ Below w.heap.size w wr) (fun i _ => l.length - (intOf i).toNat)
  case atStart => exact ⟨0, Nat.zero_le _, rfl, rfl, ext_refl _⟩
  case round =>
    obtain ⟨k, hk, rfl, HW, hbe⟩ := hrel
    by_cases hlt : k + 2 < l.length
    · obtain ⟨a, b1, o1, h1, rfl, hb1, hc1⟩ := (ha.ext hbe).at_ (show k < l.length by omega)
      obtain ⟨b, b2, o2, h2, e2, hb2, hc2⟩ := (ha.ext hbe).at_ (show k + 1 < l.length by omega)
      cases e2
      obtain ⟨d, b3, o3, h3, e3, hb3, hc3⟩ := (ha.ext hbe).at_ hlt
      cases e3
      have c1 := hc1 0 _ rfl
      have c2 := hc2 0 _ rfl
      have c3 := hc3 0 _ rfl
      simp only [Nat.mul_one, Nat.add_zero] at c1 c2 c3
      have HD := Lib.hid (drop3 h1 h2 h3)
      clear hc1 hc2 hc3 h1 h2 h3
      have i0 : (k : Int) < l.length := by omega
      have i1 : (k : Int) + 1 < l.length := by omega
      have i2 : (k : Int) + 2 < l.length := by omega
      have t1 : ((k : Int) + 1).toNat = k + 1 := by omega
      have t2 : ((k : Int) + 2).toNat = k + 2 := by omega
      have u1 : IntKind.i64.wrap ((k : Int) + 1) = (k : Int) + 1 := IntWalk.i64_in _ (by omega)
      have u2 : IntKind.i64.wrap ((k : Int) + 2) = (k : Int) + 2 := IntWalk.i64_in _ (by omega)
      by_cases hab : a < b
      · have hd : decide (a < b) = true := by simpa using hab
        go_wp2_with fail
        go_quiet (fail)
        go_wp2_with fail
        go_ret
        exact ⟨ret_bool (by rw [HW.out, HD.out]; simp [wit]; omega), ext_drewN hbe _⟩
      · have hd : decide (a < b) = false := by simpa using hab
        by_cases had : d < a
        · have hd2 : decide (d < a) = true := by simpa using had
          go_wp2_with fail
          go_quiet (fail)
          go_wp2_with fail
          go_ret
          exact ⟨ret_bool (by rw [HW.out, HD.out]; simp [wit]; omega), ext_drewN hbe _⟩
        · have hd2 : decide (d < a) = false := by simpa using had
          go_wp2_with fail
          go_quiet (fail)
          clear t1 t2 u1 u2
          go_wp2_with fail
          go_roundw
          case rel => exact ⟨k + 3, by omega, by go_num, by rw [HW.out, HD.out]; simp only [wit]; rw [decide_eq_true (by omega), decide_eq_true (by omega)]; rfl, ext_drewN hbe _⟩
          case measure => simp [intOf]; omega
    · go_wp2_with fail
      go_ret
      exact ⟨ret_bool (by rw [HW.out, wit_short (by simp; omega)]), hbe⟩
theorem minutes_any (n s : Int) (w : World) (h1 : 1 ≤ n) (h2 : n ≤ 4096) (h3 : 1 ≤ s) (h4 : s ≤ 64) :
    Calls Try.prog 22 #[.int .i64 n, .int .i64 s] w fun e w' => e = .returned (.int .i64 (mins n s)) ∧ w = w' := by
  have hs0 : (s == 0) = false := by simp; omega
  go_enter Try.func22, Try.ntmps22
  go_wp2
  go_ret
  exact ⟨ret_int (by unfold mins; rfl), rfl⟩
end Go.Proofs.Ytlnfjdbdgcafbaa
