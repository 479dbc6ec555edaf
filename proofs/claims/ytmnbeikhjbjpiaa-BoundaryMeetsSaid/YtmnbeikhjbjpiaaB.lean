/- Small contracts: centres, numbers, agreements that fit. -/
import Derived.Test.YtmnbeikhjbjpiaaA
import Derived.Test.YtmnbeikhjbjpiaaRg
import Derived.Test.YtmnbeikhjbjpiaaApp2
import Derived.Test.YtmnbeikhjbjpiaaPl
set_option linter.unusedSimpArgs false
set_option linter.unusedVariables false
namespace Go.Proofs.Ytmnbeikhjbjpiaa
open Go.RowKit
theorem bcell {W w1 : World} (hb : Below W.heap.size W w1) : (∀ b o, b < W.heap.size → w1.cell? ⟨b, o, none⟩ = W.cell? ⟨b, o, none⟩) ∧ (∀ b o, b < W.heap.size → w1.frozen? ⟨b, o, none⟩ = W.frozen? ⟨b, o, none⟩) :=
  ⟨fun b o h => hb.cell (p := ⟨b, o, none⟩) h, fun b o h => hb.frozen (p := ⟨b, o, none⟩) h⟩
theorem Ag.eq_iff (x y : Ag) : x = y ↔ x.no = y.no ∧ x.f = y.f ∧ x.t = y.t ∧ x.m = y.m ∧ x.r = y.r := by
  cases x; cases y; simp
theorem fields26 : Try.prog.fieldsOf 26 = (match Try.prog.underlying 26 with | some (.struct fs) => fs | _ => #[]) := by kernel_rfl
theorem eq26 (x y : Ag) (d : Nat) (w : World) : (Op.equalIn (d + 2) 26 x.v y.v).run Try.prog w = .ok (decide (x = y)) w := by
  rw [run_equalIn_struct (P := Try.prog) w (d + 1) 26 _ _ (by kernel_rfl) (by kernel_rfl), fields26, Try.underlying26]
  simp [go_sem, Op.eqFields]
  go_simp
  simp only [Ag.eq_iff]
  repeat' split
  all_goals simp_all
theorem run_neq26 (x y : Ag) (w : World) : (binOp .neq 26 x.v y.v).run Try.prog w = .ok (.bool (!decide (x = y))) w := by
  rw [run_neq_struct, eq26 x y 9998 w]; rfl
theorem run_eql26 (x y : Ag) (w : World) : (binOp .eql 26 x.v y.v).run Try.prog w = .ok (.bool (decide (x = y))) w := by
  rw [run_eql_struct, eq26 x y 9998 w]; rfl
/-- Two numbers in order. -/
structure Wy where
  a : Int
  b : Int
deriving DecidableEq
def Wy.cells (x : Wy) : List Value := [.int .i64 x.a, .int .i64 x.b]
abbrev Wy.v (x : Wy) : Value := .agg #[.int .i64 x.a, .int .i64 x.b]
theorem Wy.eq_iff (x y : Wy) : x = y ↔ x.a = y.a ∧ x.b = y.b := by cases x; cases y; simp
theorem offd_of (no a b : Int) : ((no.tmod 2 == 1) == decide (a < b)) = offd no a b := rfl
theorem offd_any (no a b : Int) (w : World) : Calls Try.prog 38 #[.int .i64 no, .int .i64 a, .int .i64 b] w fun e w' => e = .returned (.bool (offd no a b)) ∧ w = w' := by
  go_enter Try.func38, Try.ntmps38
  go_wp2_with fail
  go_ret
  exact ⟨ret_bool (rfl), rfl⟩
theorem offd_at {no a b : Int} {w : World} (r : Bool) (hr : offd no a b = r) : Calls Try.prog 38 #[.int .i64 no, .int .i64 a, .int .i64 b] w fun e w' => e = .returned (.bool r) ∧ w = w' := by
  subst hr; exact offd_any no a b w
theorem ours_any (b : Bd) (no : Int) (w : World) : Calls Try.prog 36 #[b.v, .int .i64 no] w (RetB w (offd no b.own b.ot)) := by
  go_enter Try.func36, Try.ntmps36
  go_wp2_with fail
  go_ret
  exact ⟨ret_bool (rfl), ext_alloc (ext_refl w) _⟩
theorem ours_at {b : Bd} {no : Int} {w : World} (r : Bool) (hr : offd no b.own b.ot = r) : Calls Try.prog 36 #[.agg #[.int .i64 b.own, .int .i64 b.ot, .slice b.ag.A b.ag.l.length b.ag.c, .slice b.op.A b.op.l.length b.op.c], .int .i64 no] w (RetB w r) := by
  subst hr; exact ours_any b no w
/-- Each three numbers: one, and its bounds. -/
def btw3 : List Int → Bool
  | a :: lo :: hi :: r => decide (lo ≤ a) && decide (a ≤ hi) && btw3 r
  | _ => true
theorem btw3_step {l : List Int} {p : Nat} {a lo hi : Int} (h0 : l[p]? = some a) (h1 : l[p + 1]? = some lo) (h2 : l[p + 2]? = some hi) : btw3 (l.drop p) = (decide (lo ≤ a) && decide (a ≤ hi) && btw3 (l.drop (p + 3))) := by
  rw [drop_at h0, drop_at h1, drop_at h2]; rfl
theorem btw3_end {l : List Int} {k : Nat} (h : l.length ≤ k) : btw3 (l.drop k) = true := by
  rw [List.drop_eq_nil_of_le h]; rfl
set_option maxHeartbeats 800000 in
theorem btw_any (A : Option Addr) (c n : Nat) (l : List Int) (w : World) (ha : Slc w ic 1 A l) (hn : l.length = 3 * n) (hm : n ≤ 1000) :
    Calls Try.prog 54 #[.slice A l.length c] w (RetB w (btw3 l)) := by
  obtain ⟨r, hr⟩ : ∃ r, btw3 l = r := ⟨_, rfl⟩
  have HR := Lib.hid hr
  rw [hr]
  obtain ⟨L, hL⟩ : ∃ L, l.length = L := ⟨_, rfl⟩
  have HL := Lib.hid hL
  rw [hL]
  rw [hL] at hn
  have hln : L ≤ 3 * n ∧ 3 * n ≤ L := by omega
  clear hr hn hL
  go_enter Try.func54, Try.ntmps54
  go_wp2_with fail
  go_loopw [3] (fun i wr => ∃ p : Nat, p ≤ L ∧ Hid (∃ k, p = 3 * k) ∧ i = .int .i64 p ∧ Hid (btw3 (l.drop p) = r) ∧ Hid (Below w.heap.size w wr)) (fun i _ => L - (intOf i).toNat)
  case atStart => exact ⟨0, Nat.zero_le _, ⟨0, rfl⟩, rfl, by rw [Hid, ← HR.out]; rfl, ext_refl w⟩
  case round =>
    obtain ⟨p, hp, HP, rfl, HK, HB⟩ := hrel
    by_cases hlt : p < L
    · have h2 : p + 2 < L := by obtain ⟨k, hk⟩ := HP.out; omega
      have HLL := HL.out
      obtain ⟨x, b1, o1, hx, rfl, hb1, hc⟩ := (ha.ext HB.out).at_ (k := p) (by omega)
      obtain ⟨y, b2, o2, hy, e2, hb2, hd⟩ := (ha.ext HB.out).at_ (k := p + 1) (by omega)
      cases e2
      obtain ⟨z, b3, o3, hz, e3, hb3, he⟩ := (ha.ext HB.out).at_ (k := p + 2) (by omega)
      cases e3
      have c0 := hc 0 _ rfl
      have c1 := hd 0 _ rfl
      have c2 := he 0 _ rfl
      simp only [Nat.mul_one, Nat.add_zero] at c0 c1 c2
      have HS := Lib.hid (btw3_step hx hy hz)
      clear hc hd he hx hy hz HLL
      have i0 : (p : Int) + 2 < L := by omega
      have i1 : (p : Int) < L := by omega
      have i2 : IntKind.i64.wrap ((p : Int) + 1) = ((p + 1 : Nat) : Int) := by rw [IntWalk.i64_in _ (by omega)]; omega
      have i3 : IntKind.i64.wrap ((p : Int) + 2) = ((p + 2 : Nat) : Int) := by rw [IntWalk.i64_in _ (by omega)]; omega
      have i4 : ((p + 1 : Nat) : Int) < L := by omega
      have i5 : ((p + 2 : Nat) : Int) < L := by omega
      have i6 : IntKind.i64.wrap ((p : Int) + 3) = ((p + 3 : Nat) : Int) := by rw [IntWalk.i64_in _ (by omega)]; omega
      by_cases q1 : x < y
      · have z1 : decide (x < y) = true := by simpa using q1
        have HZ := Lib.hid (show r = false by rw [← HK.out, HS.out, decide_eq_false (show ¬ y ≤ x by omega)]; rfl)
        go_wp2_with fail
        go_quiet (fail)
        go_wp2_with fail
        go_ret
        exact ⟨ret_bool HZ.out.symm, ext_drewN HB.out _⟩
      · have z1 : decide (x < y) = false := by simpa using q1
        by_cases q2 : x > z
        · have z2 : decide (z < x) = true := by simpa using q2
          have z3 : decide (x > z) = true := by simpa using q2
          have HZ := Lib.hid (show r = false by rw [← HK.out, HS.out, decide_eq_false (show ¬ x ≤ z by omega), Bool.and_false]; rfl)
          go_wp2_with fail
          go_quiet (fail)
          go_wp2_with fail
          go_ret
          exact ⟨ret_bool HZ.out.symm, ext_drewN HB.out _⟩
        · have z2 : decide (z < x) = false := by simpa using q2
          have z3 : decide (x > z) = false := by simpa using q2
          have HZ := Lib.hid (show btw3 (l.drop (p + 3)) = r by rw [← HK.out, HS.out, decide_eq_true (show y ≤ x by omega), decide_eq_true (show x ≤ z by omega)]; rfl)
          go_wp2_with fail
          go_quiet (fail)
          go_wp2_with fail
          go_roundw
          case rel => exact ⟨p + 3, by omega, (by obtain ⟨k, hk⟩ := HP.out; exact ⟨k + 1, by omega⟩), by go_num, HZ.out, ext_drewN HB.out _⟩
          case measure => simp [intOf]; omega
    · have i0 : ¬ (p : Int) + 2 < L := by omega
      have HZ := Lib.hid (show r = true by rw [← HK.out, btw3_end (by have := HL.out; omega)])
      go_wp2_with fail
      go_ret
      exact ⟨ret_bool HZ.out.symm, HB.out⟩
theorem btw_at {A : Option Addr} {c n : Nat} (l : List Int) {w : World} (r : Bool) (hr : btw3 l = r) (hL : n = l.length) (hk : ∃ k, l.length = 3 * k ∧ k ≤ 1000) (ha : Slc w ic 1 A l) : Calls Try.prog 54 #[.slice A n c] w (RetB w r) := by
  subst hr hL; obtain ⟨k, hk, hm⟩ := hk; exact btw_any A c k l w ha hk hm
end Go.Proofs.Ytmnbeikhjbjpiaa
