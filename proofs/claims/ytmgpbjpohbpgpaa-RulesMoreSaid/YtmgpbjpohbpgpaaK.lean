/- Contracts: cmp.Compare, cmp.Or, slices.Compare; pairs. -/
import Derived.Test.YtmgpbjpohbpgpaaG
import Derived.Test.YtmgpbjpohbpgpaaA
import Derived.Test.YtmgpbjpohbpgpaaPr
import Derived.Test.YtmgpbjpohbpgpaaRf
import Derived.BigFrameIn
set_option linter.unusedSimpArgs false
set_option linter.unusedVariables false
namespace Go.Proofs.Ytmgpbjpohbpgpaa
open Go.RowKit Go.Shelf
attribute [local go_sem] Oper.semAt_some
def cmpI (x y : Int) : Int := if x < y then -1 else if y < x then 1 else 0
theorem nan_any (n : Int) (w : World) : Calls Try.prog 41 #[.int .i64 n] w fun e w' => e = .returned (.bool false) ∧ w = w' := by
  go_enter Try.func41, Try.ntmps41
  go_wp2_with fail
  all_goals
    go_ret
    simp
theorem cmpi_any (x y : Int) (w : World) : Calls Try.prog 25 #[.int .i64 x, .int .i64 y] w fun e w' => e = .returned (.int .i64 (cmpI x y)) ∧ w = w' := by
  unfold cmpI
  by_cases h : x < y
  · go_enter Try.func25, Try.ntmps25
    go_wp2_with fail
    refine (nan_any x _).mono ?_
    rintro e _ ⟨rfl, rfl⟩
    go_wp2_with fail
    refine (nan_any y _).mono ?_
    rintro e _ ⟨rfl, rfl⟩
    go_wp2_with fail
    all_goals
      go_ret
      first | (simp_all; done) | (simp_all; omega)
  · by_cases h2 : y < x
    all_goals
      go_enter Try.func25, Try.ntmps25
      go_wp2_with fail
      refine (nan_any x _).mono ?_
      rintro e _ ⟨rfl, rfl⟩
      go_wp2_with fail
      refine (nan_any y _).mono ?_
      rintro e _ ⟨rfl, rfl⟩
      go_wp2_with fail
      all_goals
        go_ret
        first | (simp_all; done) | (simp_all; omega)
theorem cmpi_at {x y : Int} {w : World} (r : Int) (hr : cmpI x y = r) : Calls Try.prog 25 #[.int .i64 x, .int .i64 y] w (RetE w r) := by
  subst hr; exact (cmpi_any x y w).mono fun e w' h => ⟨h.1, h.2 ▸ ext_refl w⟩
theorem or_any (A : Option Addr) (c : Nat) (x y : Int) (w : World) (ha : Slc w ic 1 A [x, y]) : Calls Try.prog 24 #[.slice A 2 c] w fun e w' => e = .returned (.int .i64 (if x = 0 then y else x)) ∧ Below w.heap.size w w' := by
  obtain ⟨x', b, o, hx, rfl, hb, hd⟩ := ha.at_ (k := 0) (by simp)
  obtain rfl : x = x' := by simpa using hx
  have c0 := hd 0 _ rfl
  clear hd hx
  obtain ⟨y', b', o', hy, hA, hb', hd⟩ := ha.at_ (k := 1) (by simp)
  obtain rfl : y = y' := by simpa using hy
  injection hA with hA
  injection hA with e1 e2
  subst e1 e2
  have c1 := hd 0 _ rfl
  clear hd hy hb'
  have E := Lib.hid (ext_refl w)
  simp only [Nat.add_zero, Nat.zero_mul, Nat.one_mul] at c0 c1
  have HX := Lib.hid c0
  have HY := Lib.hid c1
  clear c0 c1 ha
  go_enter Try.func24, Try.ntmps24
  go_wp2_with fail
  go_loopw [8] (fun i wr => ((i = .int .i64 0) ∨ (i = .int .i64 1 ∧ x = 0) ∨ (i = .int .i64 2 ∧ x = 0 ∧ y = 0)) ∧ w = wr) (fun i _ => 2 - (intOf i).toNat)
  case atStart => exact ⟨.inl rfl, rfl⟩
  case round =>
    obtain ⟨hi, rfl⟩ := hrel
    rcases hi with rfl | ⟨rfl, hx⟩ | ⟨rfl, hx, hy⟩
    · have c0 := HX.out
      by_cases h : x = 0
      · go_wp2_with fail
        go_roundw
        case rel => exact ⟨.inr (.inl ⟨rfl, h⟩), trivial⟩
        case measure => simp [intOf]
      · have h1 : (x != 0) = true := by simp [h]
        go_wp2_with fail
        go_ret
        exact ⟨rfl, ext_refl _⟩
    · have c1 := HY.out
      by_cases h : y = 0
      · go_wp2_with fail
        go_roundw
        case rel => exact ⟨.inr (.inr ⟨rfl, hx, h⟩), trivial⟩
        case measure => simp [intOf]
      · have h1 : (y != 0) = true := by simp [h]
        go_wp2_with fail
        go_ret
        exact ⟨rfl, ext_refl _⟩
    · go_wp2_with fail
      go_ret
      exact ⟨rfl, ext_refl _⟩
theorem or_at {A : Option Addr} {c : Nat} {x y : Int} {w : World} (r : Int) (hr : (if x = 0 then y else x) = r) (ha : Slc w ic 1 A [x, y]) : Calls Try.prog 24 #[.slice A 2 c] w (RetE w r) := by
  subst hr; exact or_any A c x y w ha
/-- slices.Compare. -/
def cmpL : List Nat → List Nat → Int
  | [], [] => 0
  | [], _ :: _ => -1
  | _ :: _, [] => 1
  | a :: x, b :: y => if cmpI a b = 0 then cmpL x y else cmpI a b
theorem cmpL_lt : ∀ a b, cmpL a b < 0 ↔ lexLt a b = true
  | [], [] => by simp [cmpL, lexLt]
  | [], _ :: _ => by simp [cmpL, lexLt]
  | _ :: _, [] => by simp [cmpL, lexLt]
  | a :: x, b :: y => by
    have ih := cmpL_lt x y
    simp only [cmpL, lexLt, Bool.or_eq_true, Bool.and_eq_true, decide_eq_true_eq, ← ih]
    unfold cmpI
    split <;> split at * <;> (try split at *) <;> omega
theorem cmpL_end {l m : List Nat} {k : Nat} (h : l.length ≤ k) : cmpL (l.drop k) (m.drop k) = if k < m.length then -1 else 0 := by
  rw [List.drop_eq_nil_of_le h]
  split
  · rename_i g
    rw [List.drop_eq_getElem_cons g]; rfl
  · rename_i g
    rw [List.drop_eq_nil_of_le (by omega)]; rfl
theorem cmpL_step {l m : List Nat} {k x y : Nat} (h : l[k]? = some x) (g : m[k]? = some y) : cmpL (l.drop k) (m.drop k) = if cmpI x y = 0 then cmpL (l.drop (k + 1)) (m.drop (k + 1)) else cmpI x y := by
  obtain ⟨h1, rfl⟩ := List.getElem?_eq_some_iff.1 h
  obtain ⟨g1, rfl⟩ := List.getElem?_eq_some_iff.1 g
  rw [List.drop_eq_getElem_cons h1, List.drop_eq_getElem_cons g1]; rfl
theorem cmpL_out {l m : List Nat} {k x : Nat} (h : l[k]? = some x) (g : m.length ≤ k) : cmpL (l.drop k) (m.drop k) = 1 := by
  obtain ⟨h1, rfl⟩ := List.getElem?_eq_some_iff.1 h
  rw [List.drop_eq_getElem_cons h1, List.drop_eq_nil_of_le g]; rfl
theorem nc_at {w : World} {A : Option Addr} {l : List Nat} {k : Nat} (h : Slc w nc 1 A l) (hk : k < l.length) : ∃ x b o, l[k]? = some x ∧ A = some ⟨b, o, none⟩ ∧ b < w.heap.size ∧ w.cell? ⟨b, o + k, none⟩ = some (.int .i64 (x : Int)) := by
  obtain ⟨x, b, o, hx, hA, hb, hd⟩ := h.at_ hk
  exact ⟨x, b, o, hx, hA, hb, by have := hd 0 _ rfl; simpa using this⟩
set_option maxHeartbeats 1600000 in
theorem cmpl_any (A B : Option Addr) (c d : Nat) (l m : List Nat) (w : World) (ha : Slc w nc 1 A l) (hb : Slc w nc 1 B m) (hl : l.length < 1000000) (hm : m.length < 1000000) : Calls Try.prog 26 #[.slice A l.length c, .slice B m.length d] w (RetE w (cmpL l m)) := by
  have HA := Lib.hid ha
  have HB := Lib.hid hb
  obtain ⟨r, hr⟩ : ∃ r, cmpL l m = r := ⟨_, rfl⟩
  have HR := Lib.hid (show cmpL (l.drop 0) (m.drop 0) = r from hr)
  rw [hr]
  clear ha hb hr
  go_enter Try.func26, Try.ntmps26
  go_wp2_with fail
  go_loopw [11] (fun i wr => ∃ k : Nat, k ≤ l.length ∧ i = .int .i64 k ∧ cmpL (l.drop k) (m.drop k) = r ∧ Below w.heap.size w wr) (fun i _ => l.length - (intOf i).toNat)
  case atStart => exact ⟨0, Nat.zero_le _, rfl, HR.out, ext_refl _⟩
  case round =>
    obtain ⟨k, hk, rfl, hc, hE⟩ := hrel
    have HC := Lib.hid hc
    clear hc HR
    by_cases hlt : k < l.length
    rotate_left
    · have hge : ¬ (k : Int) < l.length := by omega
      have hend := cmpL_end (l := l) (m := m) (k := k) (by omega)
      rw [HC.out] at hend
      have hkl : k = l.length := by omega
      clear HC
      by_cases g : l.length < m.length
      · have g2 : (l.length : Int) < m.length := by omega
        have HH := Lib.hid (show r = -1 by rw [hend, if_pos (by omega)])
        clear hend hkl g
        go_wp2_with fail
        go_ret
        exact ⟨ret_int HH.out.symm, hE⟩
      · have g2 : ¬ (l.length : Int) < m.length := by omega
        have HH := Lib.hid (show r = 0 by rw [hend, if_neg (by omega)])
        clear hend hkl g
        go_wp2_with fail
        go_ret
        exact ⟨ret_int HH.out.symm, hE⟩
    · obtain ⟨x, b1, o1, hx, hA, hb1, d0⟩ := nc_at (HA.out.ext hE) hlt
      have hlt' : (k : Int) < l.length := by omega
      by_cases hm2 : k < m.length
      · obtain ⟨y, b2, o2, hy, hB, hb2, e0⟩ := nc_at (HB.out.ext hE) hm2
        have hm' : ¬ (m.length : Int) ≤ k := by omega
        have hm3 : (k : Int) < m.length := by omega
        have HS := Lib.hid (cmpL_step hx hy)
        rw [HC.out] at HS
        clear hx hy HC
        obtain ⟨q, hq⟩ : ∃ q, cmpI x y = q := ⟨_, rfl⟩
        have HQ := Lib.hid hq
        rw [hq] at HS
        clear hq
        go_wp2_with fail
        refine (cmpi_at q HQ.out).mono ?_
        rintro e w2 ⟨rfl, B2⟩
        by_cases h0 : q = 0
        · subst h0
          have HS2 := Lib.hid (HS.out.trans (if_pos rfl))
          go_wp2_with fail
          rw [← hA, ← hB]
          go_roundw
          case rel => exact ⟨k + 1, hlt, by go_num, HS2.out.symm, ext_trans hE B2⟩
          case measure => simp [intOf]; omega
        · have HS2 := Lib.hid (HS.out.trans (if_neg h0))
          have h1 : (q != 0) = true := by simp [h0]
          clear h0
          go_wp2_with fail
          go_ret
          exact ⟨ret_int HS2.out.symm, ext_trans hE B2⟩
      · have hm' : (m.length : Int) ≤ k := by omega
        have HS := Lib.hid (cmpL_out (m := m) hx (by omega))
        rw [HC.out] at HS
        clear hx HC
        go_wp2_with fail
        go_ret
        exact ⟨ret_int HS.out.symm, hE⟩
theorem cmpl_at {A B : Option Addr} {n n2 : Nat} (c d : Nat) {l m : List Nat} {w : World} (r : Int) (hr : cmpL l m = r) (hn : n = l.length) (hn2 : n2 = m.length) (ha : Slc w nc 1 A l) (hb : Slc w nc 1 B m) (hl : l.length < 1000000) (hm : m.length < 1000000) : Calls Try.prog 26 #[.slice A n c, .slice B n2 d] w (RetE w r) := by
  subst hr hn hn2; exact cmpl_any A B c d l m w ha hb hl hm
end Go.Proofs.Ytmgpbjpohbpgpaa
