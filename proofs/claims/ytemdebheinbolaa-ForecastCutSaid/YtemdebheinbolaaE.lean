/- Check, the program's and the reference's. -/
import Derived.Test.YtemdebheinbolaaD
import Derived.Test.YtemdebheinbolaaOMap
namespace Go.Proofs.Ytemdebheinbolaa
open Go.RowKit
theorem isnode_at {A : Option Addr} {c : Nat} {l : List Nd} {i : Nat} {w : World} (r : Bool) (hr : okI l i = r) (ha : TOk w A l) (hi : i < l.length) :
    Calls Try.prog 32 #[.slice A l.length c, .int .i64 i] w (RetB w r) := by
  have hx : l[i]? = some l[i] := List.getElem?_eq_getElem hi
  simp only [okI, hx] at hr
  subst hr
  cases hP : okP l i l[i]
  · rw [show okN l i l[i] = false by simp [okN, hP]]
    exact isnode_bad A c l i _ w ha hi hx hP
  · rw [okN_parts l i _ hP]
    exact isnode_good A c l i _ w ha hi hx hP
theorem vld_no {l : List Nd} {k : Nat} (hk : k < l.length) (h : okI l k = false) : chkE l = 180 := by
  unfold chkE
  rw [if_neg]
  intro hv
  simp only [vld, Bool.and_eq_true, List.all_eq_true, List.mem_range] at hv
  rw [hv.2 k hk] at h; cases h
theorem vld_yes {l : List Nd} (h1 : 1 ≤ l.length) (h2 : l.length ≤ 32) (h : ∀ j < l.length, okI l j = true) : chkE l = 0 := by
  unfold chkE
  rw [if_pos]
  simp only [vld, Bool.and_eq_true, decide_eq_true_eq, List.all_eq_true, List.mem_range]
  exact ⟨⟨h1, h2⟩, h⟩
theorem vld_len {l : List Nd} (h : ¬ (1 ≤ l.length ∧ l.length ≤ 32)) : chkE l = 180 := by
  unfold chkE
  rw [if_neg]
  intro hv
  simp only [vld, Bool.and_eq_true, decide_eq_true_eq] at hv
  exact h hv.1
abbrev RetE (w : World) (r : Int) (e : Ending) (w' : World) : Prop := e = .returned (.int .i64 r) ∧ Below w.heap.size w w'
theorem all_step {l : List Nd} {k : Nat} (h : ∀ j < k, okI l j = true) (hk : okI l k = true) : ∀ j < k + 1, okI l j = true := fun j hj => by
  by_cases e : j = k
  · rw [e]; exact hk
  · exact h j (by omega)
set_option maxHeartbeats 400000 in
theorem rcheck_any (A : Option Addr) (c : Nat) (l : List Nd) (w : World) (ha : TOk w A l) : Calls Try.prog 17 #[.slice A l.length c] w (RetE w (chkE l)) := by
  have hl := ha.len
  unfold maxLen at hl
  obtain ⟨r, hr⟩ : ∃ r, chkE l = r := ⟨_, rfl⟩
  have HR := Lib.hid hr
  rw [hr]
  clear hr
  by_cases h1 : 1 ≤ l.length
  rotate_left
  · have HZ : Hid (180 = r) := by rw [← HR.out, vld_len (by omega)]; rfl
    go_enter Try.func17, Try.ntmps17
    go_wp2_with fail
    go_ret
    exact ⟨ret_int HZ.out, ext_refl _⟩
  by_cases h2 : l.length ≤ 32
  rotate_left
  · have HZ : Hid (180 = r) := by rw [← HR.out, vld_len (by omega)]; rfl
    go_enter Try.func17, Try.ntmps17
    go_wp2_with fail
    go_ret
    exact ⟨ret_int HZ.out, ext_refl _⟩
  go_enter Try.func17, Try.ntmps17
  go_wp2_with fail
  go_loopw [3] (fun i wr => ∃ k : Nat, k ≤ l.length ∧ i = .int .i64 k ∧ Hid (∀ j < k, okI l j = true) ∧ Below w.heap.size w wr) (fun i _ => l.length - (intOf i).toNat)
  case atStart => exact ⟨0, Nat.zero_le _, rfl, fun j hj => by omega, ext_refl _⟩
  case round =>
    obtain ⟨k, hk, rfl, HT, hB⟩ := hrel
    by_cases hlt : k < l.length
    · have hlt' : (k : Int) < l.length := by omega
      obtain ⟨b, hb⟩ : ∃ b, okI l k = b := ⟨_, rfl⟩
      have HO := Lib.hid hb
      clear hb
      cases b
      · go_wp2_with fail
        refine (isnode_at _ HO.out (ha.ext hB) hlt).mono ?_
        rintro e w1 ⟨rfl, B1⟩
        go_wp2_with fail
        go_ret
        exact ⟨ret_int (by rw [← HR.out, vld_no hlt HO.out]), ext_trans hB B1⟩
      · go_wp2_with fail
        refine (isnode_at _ HO.out (ha.ext hB) hlt).mono ?_
        rintro e w1 ⟨rfl, B1⟩
        go_wp2_with fail
        go_roundw
        case rel => exact ⟨k + 1, hlt, by go_num, all_step HT.out HO.out, ext_trans hB B1⟩
        case measure => simp [intOf]; omega
    · have hlt' : ¬ (k : Int) < l.length := by omega
      go_wp2_with fail
      go_ret
      exact ⟨ret_int (by rw [← HR.out, vld_yes h1 h2 (fun j hj => HT.out j (by omega))]), hB⟩
/-- When the children of a node are known: what the map holds behind the nodes below k. -/
def kn (l : List Nd) : Nat → Int → Option Int
  | 0, _ => none
  | k + 1, p => if k = 0 then none else if p = par l k then some (frm l k) else kn l k p
theorem kn_spec (l : List Nd) (p : Int) : ∀ k, (kn l k p = none ∧ ∀ j, 1 ≤ j → j < k → par l j ≠ p) ∨ ∃ j, 1 ≤ j ∧ j < k ∧ par l j = p ∧ kn l k p = some (frm l j)
  | 0 => .inl ⟨rfl, fun j _ h => by omega⟩
  | k + 1 => by
    unfold kn
    by_cases h0 : k = 0
    · subst h0; exact .inl ⟨by simp, fun j h1 h2 => by omega⟩
    · rw [if_neg h0]
      by_cases hp : p = par l k
      · rw [if_pos hp]; exact .inr ⟨k, by omega, by omega, hp.symm, rfl⟩
      · rw [if_neg hp]
        rcases kn_spec l p k with ⟨a, b⟩ | ⟨j, a, b, c, d⟩
        · refine .inl ⟨a, fun j h1 h2 => ?_⟩
          by_cases e : j = k
          · rw [e]; exact fun h => hp h.symm
          · exact b j h1 (by omega)
        · exact .inr ⟨j, a, by omega, c, d⟩
theorem ok_node {l : List Nd} {k : Nat} {x : Nd} (h : okI l k = true) (hx : l[k]? = some x) : Node l k x := by
  simp only [okI, hx] at h
  exact (okN_iff l k x (Nat.le_of_lt (List.getElem?_eq_some_iff.1 hx).1)).1 h
/-- The map tells whether there is a clash. -/
theorem kn_clash {l : List Nd} {k : Nat} {x : Nd} (hk : k ≤ l.length) (h : ∀ j < k, okI l j = true) : clash l k x = (match kn l k x.p with | some v => decide (v ≠ x.f) | none => false) := by
  rcases kn_spec l x.p k with ⟨a, b⟩ | ⟨j, a, b, c, d⟩
  · rw [a]; exact noClash_end (fun j h1 h2 h3 => absurd h3 (b j h1 h2))
  · rw [d]
    have get : ∀ i, i < k → ∃ y, l[i]? = some y := fun i hi => ⟨l[i]'(by omega), List.getElem?_eq_getElem (by omega)⟩
    obtain ⟨y, hy⟩ := get j b
    rw [par_at hy] at c
    rw [frm_at hy]
    by_cases e : y.f = x.f
    · simp only [e, ne_eq, not_true_eq_false, decide_false]
      refine noClash_end (fun i h1 h2 h3 => ?_)
      obtain ⟨z, hz⟩ := get i h2
      rw [par_at hz] at h3
      rw [frm_at hz]
      rcases Nat.lt_trichotomy i j with g | g | g
      · rw [← e]; exact ((ok_node (h j b) hy).same i z (by omega) g hz (by omega)).trans rfl
      · subst g; rw [hy] at hz; cases hz; exact e
      · rw [← e]; exact ((ok_node (h i h2) hz).same j y (by omega) g hy (by omega)).symm
    · simp only [ne_eq, e, not_false_eq_true, decide_true]
      exact clash_hit a b hy c e
theorem wf64 {x : Int} (h1 : -1000000 ≤ x) (h2 : x ≤ 1000000) : (Lit.int .i64 x).wf = true := by
  simp [Lit.wf, IntKind.min, IntKind.max, IntKind.signed, IntKind.bits]; omega
theorem zero3 (w : World) : (zeroValue 3).run Try.prog w = .ok (.int .i64 0) w := by kernel_rfl
end Go.Proofs.Ytemdebheinbolaa
