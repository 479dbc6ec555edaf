/- Small contracts: links, packets, comparing. -/
import Derived.WalkKit
import Derived.WalkLawsBesides
import Derived.WalkSpells
import Derived.Deep.QuietTactic
import Derived.BigQuiet
import Derived.Lib.Hide
import Derived.IntWalk
import Derived.Deep.RegionHeld3
import Derived.Test.YthchcimialclkaaProg
import Derived.Test.YthchcimialclkaaPlain
import Derived.Test.YthchcimialclkaaApp
import Derived.Test.YthchcimialclkaaIdx
set_option linter.unusedSimpArgs false
set_option linter.unusedVariables false
namespace Go.Proofs.Ythchcimialclkaa
open Go.RowKit

theorem ret_bool {a b : Bool} (h : a = b) : Ending.returned (.bool a) = .returned (.bool b) := by rw [h]
theorem ret_int {a b : Int} (h : a = b) : Ending.returned (.int .i64 a) = .returned (.int .i64 b) := by rw [h]
/-- A call of function g enters it. -/
def Enters (P : Program) (g : Nat) : Prop := ∀ (args : Array Value) (w : World), (callFunc g args).run P w = .ok (.enter g args) w
theorem bcell {W w1 : World} (hb : Below W.heap.size W w1) : (∀ b o, b < W.heap.size → w1.cell? ⟨b, o, none⟩ = W.cell? ⟨b, o, none⟩) ∧ (∀ b o, b < W.heap.size → w1.frozen? ⟨b, o, none⟩ = W.frozen? ⟨b, o, none⟩) :=
  ⟨fun b o h => hb.cell (p := ⟨b, o, none⟩) h, fun b o h => hb.frozen (p := ⟨b, o, none⟩) h⟩
abbrev RetB (w : World) (r : Bool) (e : Ending) (w' : World) : Prop := e = .returned (.bool r) ∧ Below w.heap.size w w'
abbrev RetE (w : World) (r : Int) (e : Ending) (w' : World) : Prop := e = .returned (.int .i64 r) ∧ Below w.heap.size w w'
def ic (n : Int) : List Value := [.int .i64 n]
def bc (n : Int) : List Value := [.int .u8 n]
def Lk.cells (x : Lk) : List Value := [.int .i64 x.a, .int .i64 x.b]
abbrev Lk.v (x : Lk) : Value := .agg #[.int .i64 x.a, .int .i64 x.b]
def Pk.cells (p : Pk) : List Value := [.int .i64 p.f, .int .i64 p.t, .slice p.d.A p.d.l.length p.d.c]
abbrev Pk.v (p : Pk) : Value := .agg #[.int .i64 p.f, .int .i64 p.t, .slice p.d.A p.d.l.length p.d.c]
def Nt.cells (n : Nt) : List Value := [.slice n.q.A n.q.l.length n.q.c, .slice n.ap.A n.ap.l.length n.ap.c]
abbrev Nt.v (n : Nt) : Value := .agg #[.slice n.q.A n.q.l.length n.q.c, .slice n.ap.A n.ap.l.length n.ap.c]
theorem enters26 : Enters Try.prog 26 := fun args w => by kernel_rfl
set_option maxHeartbeats 400000 in
theorem indexPk (g : Nat) (p : Pk → Bool) (A : Option Addr) (c : Nat) (l : List (Pk)) (w : World) (ha : Slc w Pk.cells 3 A l) (hn : l.length ≤ maxLen) (hE : Enters Try.prog g)
    (hp : ∀ (x : Pk) (W : World), x ∈ l → Below w.heap.size w W → Calls Try.prog g #[x.v] W fun e W' => e = .returned (.bool (p x)) ∧ Below W.heap.size W W') :
    Calls Try.prog 35 #[.slice A l.length c, .func (.func g) #[] #[]] w fun e w' => e = .returned (.int .i64 (idxGo p 0 l)) ∧ Below w.heap.size w w' := by
  have HP := Lib.hid hp
  have HE := Lib.hid hE
  clear hp hE
  unfold maxLen at hn
  go_enter Try.func35, Try.ntmps35
  go_wp2
  go_loopw [8] (fun i wr => ∃ k : Nat, k ≤ l.length ∧ i = .int .i64 k ∧ idxGo p 0 l = idxGo p k (l.drop k) ∧ Below w.heap.size w wr) (fun i _ => l.length - (intOf i).toNat)
  case atStart => exact ⟨0, Nat.zero_le _, rfl, rfl, ext_refl _⟩
  case round =>
    obtain ⟨k, hk, rfl, heq, hB⟩ := hrel
    have HQ := Lib.hid heq
    clear heq
    by_cases hlt : k < l.length
    · obtain ⟨x, b1, o1, hx, rfl, hb1, hc⟩ := (ha.ext hB).at_ hlt
      have HX := Lib.hid hx
      clear hx
      have c0 := hc 0 _ rfl
      have c1 := hc 1 _ rfl
      have c2 := hc 2 _ rfl
      simp only [Nat.mul_one, Nat.add_zero] at c0 c1 c2
      clear hc
      have hlt' : (k : Int) < l.length := by omega
      have hE2 := HE.out #[x.v] wr
      cases hpx : p x
      · go_wp2_with fail
        refine (HP.out x wr (List.mem_of_getElem? HX.out) hB).mono ?_
        rintro e w1 ⟨rfl, hB1⟩
        clear hE2
        go_wp2_with fail
        go_roundw
        case rel => exact ⟨k + 1, hlt, by go_num, idx_step HX.out hpx HQ.out, ext_trans hB hB1⟩
        case measure => simp [intOf]; omega
      · go_wp2_with fail
        refine (HP.out x wr (List.mem_of_getElem? HX.out) hB).mono ?_
        rintro e w1 ⟨rfl, hB1⟩
        clear hE2
        go_wp2_with fail
        go_ret
        exact ⟨ret_int (idx_hit HX.out hpx HQ.out).symm, ext_trans hB hB1⟩
    · go_wp2_with fail
      go_ret
      exact ⟨ret_int (idx_end (by omega) HQ.out).symm, hB⟩
theorem containsPk (g : Nat) (p : Pk → Bool) (A : Option Addr) (c : Nat) (l : List (Pk)) (w : World) (ha : Slc w Pk.cells 3 A l) (hn : l.length ≤ maxLen) (hE : Enters Try.prog g)
    (hp : ∀ (x : Pk) (W : World), x ∈ l → Below w.heap.size w W → Calls Try.prog g #[x.v] W fun e W' => e = .returned (.bool (p x)) ∧ Below W.heap.size W W') :
    Calls Try.prog 25 #[.slice A l.length c, .func (.func g) #[] #[]] w fun e w' => e = .returned (.bool (l.any p)) ∧ Below w.heap.size w w' := by
  have HP := Lib.hid hp
  have HE := Lib.hid hE
  clear hp hE
  go_enter Try.func25, Try.ntmps25
  go_wp2_with fail
  refine (indexPk g p A c l _ ha hn HE.out HP.out).mono ?_
  rintro e w1 ⟨rfl, hB1⟩
  go_wp2_with fail
  go_ret
  exact ⟨ret_bool (idx_any p l), hB1⟩

theorem btw_any (a b : Int) (w : World) : Calls Try.prog 32 #[.int .i64 a, .int .i64 b] w fun e w' => e = .returned (btw a b).v ∧ Below w.heap.size w w' := by
  go_enter Try.func32, Try.ntmps32
  go_wp2_with fail
  · have e : btw a b = ⟨b, a⟩ := by simp only [btw, Lk.mk.injEq]; omega
    rw [e]
    exact bodyPost_ret (v := Lk.v ⟨b, a⟩) (by simp [results, Try.results32, go_sem]) rfl ⟨rfl, ext_alloc (ext_refl w) _⟩
  · have e : btw a b = ⟨a, b⟩ := by simp only [btw, Lk.mk.injEq]; omega
    rw [e]
    exact bodyPost_ret (v := Lk.v ⟨a, b⟩) (by simp [results, Try.results32, go_sem]) rfl ⟨rfl, ext_alloc (ext_refl w) _⟩
  · have e : btw a b = ⟨a, a⟩ := by simp only [btw, Lk.mk.injEq]; omega
    rw [e]
    exact bodyPost_ret (v := Lk.v ⟨a, a⟩) (by simp [results, Try.results32, go_sem]) rfl ⟨rfl, ext_alloc (ext_refl w) _⟩
theorem valid_any (x : Lk) (w : World) : Calls Try.prog 27 #[x.v] w (RetB w (okL x)) := by
  go_enter Try.func27, Try.ntmps27
  go_wp2_with fail
  all_goals
    go_ret
    exact ⟨ret_bool (by simp_all [okL] <;> omega), ext_alloc (ext_refl w) _⟩
theorem nan_any (a : Int) (w : World) : Calls Try.prog 39 #[.int .i64 a] w fun e w' => e = .returned (.bool false) ∧ w = w' := by
  go_enter Try.func39, Try.ntmps39
  go_wp2_with fail
  go_ret
  exact ⟨ret_bool (by simp), rfl⟩
theorem cmp_any (a b : Int) (w : World) : Calls Try.prog 36 #[.int .i64 a, .int .i64 b] w fun e w' => e = .returned (.int .i64 (cmpI a b)) ∧ w = w' := by
  go_enter Try.func36, Try.ntmps36
  go_wp2_with fail
  refine (nan_any a _).mono ?_
  rintro e w1 ⟨rfl, rfl⟩
  go_wp2_with fail
  refine (nan_any b _).mono ?_
  rintro e w1 ⟨rfl, rfl⟩
  by_cases h1 : a < b
  · go_wp2_with fail
    go_ret
    exact ⟨ret_int (by simp [cmpI, h1]), rfl⟩
  · by_cases h2 : b < a
    · go_wp2_with fail
      go_ret
      exact ⟨ret_int (by simp [cmpI, h1, h2]), rfl⟩
    · go_wp2_with fail
      go_ret
      exact ⟨ret_int (by unfold cmpI; rw [if_neg (by omega), if_neg (by omega)]), rfl⟩
theorem valid_at {x : Lk} {w : World} (r : Bool) (hr : okL x = r) : Calls Try.prog 27 #[.agg #[.int .i64 x.a, .int .i64 x.b]] w (RetB w r) := by
  subst hr; exact valid_any x w
theorem packet_any (p : Pk) (w : World) (hl : p.d.l.length ≤ maxLen) : Calls Try.prog 23 #[p.v] w (RetB w (okP p)) := by
  unfold maxLen at hl
  obtain ⟨r, hr⟩ : ∃ r, okL (btw p.f p.t) = r := ⟨_, rfl⟩
  have HP : Hid (okP p = (r && decide (p.d.l.length ≤ 1048576))) := by rw [Hid, okP, hr]
  have HR := Lib.hid hr
  have HW : Hid (Below w.heap.size w (w.alloc (.cells #[.int .i64 p.f, .int .i64 p.t, .slice p.d.A p.d.l.length p.d.c] 28))) := ext_alloc (ext_refl w) _
  have n2 : (w.alloc (.cells #[.int .i64 p.f, .int .i64 p.t, .slice p.d.A p.d.l.length p.d.c] 28)).cell? ⟨w.heap.size, 2, none⟩ = some (.slice p.d.A p.d.l.length p.d.c) := by simp
  have hs : w.heap.size < (w.alloc (.cells #[.int .i64 p.f, .int .i64 p.t, .slice p.d.A p.d.l.length p.d.c] 28)).heap.size := by simp
  have N2 := Lib.hid n2
  have HS := Lib.hid hs
  clear hr n2 hs
  go_enter Try.func23, Try.ntmps23
  go_wp2_with fail
  refine (btw_any p.f p.t _).mono ?_
  rintro e w1 ⟨rfl, B1⟩
  go_wp2_with fail
  refine (valid_at (x := btw p.f p.t) r HR.out).mono ?_
  rintro e w2 ⟨rfl, B2⟩
  have B12 := ext_trans B1 B2
  have m2 := (B12.cell (p := ⟨w.heap.size, 2, none⟩) HS.out).trans N2.out
  cases r
  · go_wp2_with fail
    go_ret
    exact ⟨ret_bool (by rw [HP.out]; rfl), ext_trans HW.out B12⟩
  · go_wp2_with fail
    go_ret
    exact ⟨ret_bool (by rw [HP.out, Bool.true_and, decide_eq_decide]; omega), ext_trans HW.out B12⟩
theorem packet_at {p : Pk} {w : World} (r : Bool) (hr : okP p = r) (hl : p.d.l.length ≤ maxLen) : Calls Try.prog 23 #[.agg #[.int .i64 p.f, .int .i64 p.t, .slice p.d.A p.d.l.length p.d.c]] w (RetB w r) := by
  subst hr; exact packet_any p w hl
theorem check1_any (p : Pk) (w : World) (hl : p.d.l.length ≤ maxLen) : Calls Try.prog 26 #[p.v] w (RetB w (!okP p)) := by
  have HW : Hid (Below w.heap.size w (w.alloc (.cells #[.int .i64 p.f, .int .i64 p.t, .slice p.d.A p.d.l.length p.d.c] 28))) := ext_alloc (ext_refl w) _
  obtain ⟨r, hr⟩ : ∃ r, okP p = r := ⟨_, rfl⟩
  have HR := Lib.hid hr
  rw [hr]
  clear hr
  cases r
  all_goals
    go_enter Try.func26, Try.ntmps26
    go_wp2_with fail
    refine (packet_at (p := p) _ HR.out hl).mono ?_
    rintro e w1 ⟨rfl, B1⟩
    go_wp2_with fail
    go_ret
    exact ⟨rfl, ext_trans HW.out B1⟩
theorem site_any (a : Int) (w : World) : Calls Try.prog 29 #[.int .i64 a] w fun e w' => e = .returned (.bool (decide (0 ≤ a) && decide (a < 4))) ∧ w = w' := by
  go_enter Try.func29, Try.ntmps29
  by_cases h : 0 ≤ a
  · by_cases k : a < 4
    all_goals
      go_wp2_with fail
      go_ret
      exact ⟨ret_bool (by simp [h, k]; try omega), rfl⟩
  · go_wp2_with fail
    go_ret
    exact ⟨ret_bool (by simp [h]; try omega), rfl⟩
theorem site_at {a : Int} {w : World} (r : Bool) (hr : (decide (0 ≤ a) && decide (a < 4)) = r) : Calls Try.prog 29 #[.int .i64 a] w fun e w' => e = .returned (.bool r) ∧ w = w' := by
  subst hr; exact site_any a w
set_option maxHeartbeats 800000 in
theorem rpacket_any (p : Pk) (w : World) (hl : p.d.l.length ≤ maxLen) : Calls Try.prog 24 #[p.v] w (RetB w (okP p)) := by
  unfold maxLen at hl
  obtain ⟨r1, hr1⟩ : ∃ r, (decide (0 ≤ p.f) && decide (p.f < 4)) = r := ⟨_, rfl⟩
  obtain ⟨r2, hr2⟩ : ∃ r, (decide (0 ≤ p.t) && decide (p.t < 4)) = r := ⟨_, rfl⟩
  have HP : Hid (okP p = (r1 && r2 && decide (p.f ≠ p.t) && decide (p.d.l.length ≤ 1048576))) := by rw [Hid, okP_iff, hr1, hr2]
  have H1 := Lib.hid hr1
  have H2 := Lib.hid hr2
  have HW : Hid (Below w.heap.size w (w.alloc (.cells #[.int .i64 p.f, .int .i64 p.t, .slice p.d.A p.d.l.length p.d.c] 28))) := ext_alloc (ext_refl w) _
  clear hr1 hr2
  cases r1
  · go_enter Try.func24, Try.ntmps24
    go_wp2_with fail
    refine (site_at false H1.out).mono ?_
    rintro e w1 ⟨rfl, rfl⟩
    go_wp2_with fail
    go_ret
    exact ⟨ret_bool (by rw [HP.out]; rfl), HW.out⟩
  cases r2
  · go_enter Try.func24, Try.ntmps24
    go_wp2_with fail
    refine (site_at true H1.out).mono ?_
    rintro e w1 ⟨rfl, rfl⟩
    go_wp2_with fail
    refine (site_at false H2.out).mono ?_
    rintro e w1 ⟨rfl, rfl⟩
    go_wp2_with fail
    go_ret
    exact ⟨ret_bool (by rw [HP.out]; rfl), HW.out⟩
  by_cases hft : p.f = p.t
  · have e1 : (p.f != p.t) = false := by simpa using hft
    have HF : Hid (decide (p.f ≠ p.t) = false) := by simpa [Hid] using hft
    clear hft
    go_enter Try.func24, Try.ntmps24
    go_wp2_with fail
    refine (site_at true H1.out).mono ?_
    rintro e w1 ⟨rfl, rfl⟩
    go_wp2_with fail
    refine (site_at true H2.out).mono ?_
    rintro e w1 ⟨rfl, rfl⟩
    go_wp2_with fail
    go_ret
    exact ⟨ret_bool (by rw [HP.out, HF.out]; rfl), HW.out⟩
  · have e1 : (p.f != p.t) = true := by simpa using hft
    have HF : Hid (decide (p.f ≠ p.t) = true) := by simpa [Hid] using hft
    clear hft
    go_enter Try.func24, Try.ntmps24
    go_wp2_with fail
    refine (site_at true H1.out).mono ?_
    rintro e w1 ⟨rfl, rfl⟩
    go_wp2_with fail
    refine (site_at true H2.out).mono ?_
    rintro e w1 ⟨rfl, rfl⟩
    go_wp2_with fail
    go_ret
    exact ⟨ret_bool (by rw [HP.out, HF.out, Bool.and_self, Bool.and_self, Bool.true_and, decide_eq_decide]; omega), HW.out⟩
theorem rpacket_at {p : Pk} {w : World} (r : Bool) (hr : okP p = r) (hl : p.d.l.length ≤ maxLen) : Calls Try.prog 24 #[.agg #[.int .i64 p.f, .int .i64 p.t, .slice p.d.A p.d.l.length p.d.c]] w (RetB w r) := by
  subst hr; exact rpacket_any p w hl
theorem cmp_at {a b : Int} {w : World} (r : Int) (hr : cmpI a b = r) : Calls Try.prog 36 #[.int .i64 a, .int .i64 b] w fun e w' => e = .returned (.int .i64 r) ∧ w = w' := by
  subst hr; exact cmp_any a b w
set_option maxHeartbeats 800000 in
theorem compare_any (b1 o1 c1 b2 o2 c2 : Nat) (x y : Lk) (w : World) (hx0 : w.cell? ⟨b1, o1, none⟩ = some (.int .i64 x.a)) (hx1 : w.cell? ⟨b1, o1 + 1, none⟩ = some (.int .i64 x.b)) (hy0 : w.cell? ⟨b2, o2, none⟩ = some (.int .i64 y.a)) (hy1 : w.cell? ⟨b2, o2 + 1, none⟩ = some (.int .i64 y.b)) :
    Calls Try.prog 28 #[.slice (some ⟨b1, o1, none⟩) 2 c1, .slice (some ⟨b2, o2, none⟩) 2 c2] w fun e w' => e = .returned (.int .i64 (cmpL x y)) ∧ w = w' := by
  obtain ⟨r1, hr1⟩ : ∃ r, cmpI x.a y.a = r := ⟨_, rfl⟩
  obtain ⟨r2, hr2⟩ : ∃ r, cmpI x.b y.b = r := ⟨_, rfl⟩
  have HC : Hid (cmpL x y = if r1 ≠ 0 then r1 else r2) := by rw [Hid, cmpL, hr1, hr2]
  have H1 := Lib.hid hr1
  have H2 := Lib.hid hr2
  clear hr1 hr2
  go_enter Try.func28, Try.ntmps28
  go_wp2_with fail
  go_loop [11] (fun i => ∃ k : Nat, k ≤ 2 ∧ i = .int .i64 k ∧ Hid (1 ≤ k → r1 = 0) ∧ Hid (2 ≤ k → r2 = 0)) (fun i => 2 - (intOf i).toNat)
  case atStart => exact ⟨0, by decide, rfl, fun h => absurd h (by decide), fun h => absurd h (by decide)⟩
  case round =>
    obtain ⟨k, hk, rfl, HA, HB⟩ := hrel
    obtain rfl | rfl | rfl : k = 0 ∨ k = 1 ∨ k = 2 := by omega
    · by_cases hz : r1 = 0
      · have e1 : (r1 != 0) = false := by simpa using hz
        have HZ := Lib.hid hz
        clear hz
        go_wp2_with fail
        refine (cmp_at r1 H1.out).mono ?_
        rintro e w1 ⟨rfl, rfl⟩
        go_wp2_with fail
        go_round
        case rel => exact ⟨1, by decide, rfl, fun _ => HZ.out, fun h => absurd h (by decide)⟩
        case measure => simp [intOf]
      · have e1 : (r1 != 0) = true := by simpa using hz
        have HZ := Lib.hid hz
        clear hz
        go_wp2_with fail
        refine (cmp_at r1 H1.out).mono ?_
        rintro e w1 ⟨rfl, rfl⟩
        go_wp2_with fail
        go_ret
        exact ⟨ret_int (by rw [HC.out, if_pos HZ.out]), rfl⟩
    · have HZ1 := Lib.hid (HA.out (by decide))
      by_cases hz : r2 = 0
      · have e1 : (r2 != 0) = false := by simpa using hz
        have HZ := Lib.hid hz
        clear hz
        go_wp2_with fail
        refine (cmp_at r2 H2.out).mono ?_
        rintro e w1 ⟨rfl, rfl⟩
        go_wp2_with fail
        go_round
        case rel => exact ⟨2, by decide, rfl, fun _ => HZ1.out, fun _ => HZ.out⟩
        case measure => simp [intOf]
      · have e1 : (r2 != 0) = true := by simpa using hz
        have HZ := Lib.hid hz
        clear hz
        go_wp2_with fail
        refine (cmp_at r2 H2.out).mono ?_
        rintro e w1 ⟨rfl, rfl⟩
        go_wp2_with fail
        go_ret
        exact ⟨ret_int (by rw [HC.out, if_neg (by simpa using HZ1.out)]), rfl⟩
    · have HZ1 := Lib.hid (HA.out (by decide))
      have HZ2 := Lib.hid (HB.out (by decide))
      go_wp2_with fail
      go_ret
      exact ⟨ret_int (by rw [HC.out, if_neg (by simpa using HZ1.out), HZ2.out]), rfl⟩
end Go.Proofs.Ythchcimialclkaa
