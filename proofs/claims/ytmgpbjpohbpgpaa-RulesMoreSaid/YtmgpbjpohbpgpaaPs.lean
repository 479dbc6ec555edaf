/- The laws of rules, in plain Lean. -/
import Derived.Test.YtmgpbjpohbpgpaaPr
set_option linter.unusedSimpArgs false
set_option linter.unusedVariables false
namespace Go.Proofs.Ytmgpbjpohbpgpaa
/-- How a contradiction of two rules is described. -/
def cpair (x y : Ru) : Bool := decide (x.cl = y.cl) && (decide (x.k = y.k ∧ (x.k = 3 ∨ x.k = 4) ∧ x.n ≠ y.n) || decide (x.k = 2 ∧ y.k = 4 ∧ 0 < y.n))
def dayOf (l : List Ru) (x : Ru) : List Sp := (l.filter (sameG x)).map Ru.h
def conB (l : List Ru) : Bool := l.any fun x => l.any (cpair x) || cov (dayOf l x) ⟨0, 1440⟩
theorem nrm_empty (g : Nat → Bool) : (nrm g).length = 0 ↔ ∀ k < 1440, g k = false := by
  constructor
  · intro h k hk
    rw [← nrm_in g k hk, List.eq_nil_of_length_eq_zero h]; rfl
  · intro h
    cases hn : nrm g with
    | nil => rfl
    | cons s r =>
      exfalso
      have h1 := nrm_norm g
      rw [hn] at h1
      obtain ⟨a, b, c, _⟩ := h1
      have h2 := nrm_in g s.f.toNat (by omega)
      rw [hn, h _ (by omega)] at h2
      simp [inL, inS] at h2
      omega
theorem cov_of (l : List Sp) (s : Sp) (h0 : ¬ s.t ≤ s.f) (h1 : 0 ≤ s.f) (h2 : s.t ≤ 1440) : cov l s = true ↔ ∀ m : Int, s.f ≤ m → m < s.t → inL l m = true := by
  unfold cov
  rw [if_neg h0]
  simp only [h1, h2, decide_true, Bool.true_and, decide_eq_true_eq, nrm_empty, mi]
  constructor
  · intro h m a b
    have := h m.toNat (by omega)
    rw [show ((m.toNat : Nat) : Int) = m by omega] at this
    simpa [inL, inS, a, b] using this
  · intro h k hk
    by_cases a : s.f ≤ k ∧ (k : Int) < s.t
    · simp [h k a.1 a.2]
    · have : inL [s] k = false := by simp [inL, inS]; omega
      simp [this]
theorem cov_full {d : List Sp} : cov d ⟨0, 1440⟩ = true ↔ Full d := by
  rw [cov_of d ⟨0, 1440⟩ (by decide) (by decide) (by decide)]
  constructor
  · intro h m hm; exact h m (by simp) (by show (m : Int) < 1440; omega)
  · intro h m h1 h2
    have h1 : (0 : Int) ≤ m := h1
    have h2 : m < 1440 := h2
    have := h m.toNat (by omega)
    rwa [Int.toNat_of_nonneg h1] at this
theorem cpair_ag {x y : Ru} : agR x y = true ↔ cpair x y = true ∨ cpair y x = true := by
  simp only [ag_iff, cpair, Bool.and_eq_true, Bool.or_eq_true, decide_eq_true_eq]
  omega
theorem conB_iff {l : List Ru} : conB l = true ↔ Con l := by
  simp only [conB, List.any_eq_true, Bool.or_eq_true, cov_full, Con, dayOf]
  constructor
  · rintro ⟨x, hx, (⟨y, hy, h⟩ | h)⟩
    · exact .inl ⟨x, hx, y, hy, cpair_ag.2 (.inl h)⟩
    · exact .inr ⟨x, hx, h⟩
  · rintro (⟨x, hx, y, hy, h⟩ | ⟨x, hx, h⟩)
    · rcases cpair_ag.1 h with h | h
      · exact ⟨x, hx, .inl ⟨y, hy, h⟩⟩
      · exact ⟨y, hy, .inl ⟨x, hx, h⟩⟩
    · exact ⟨x, hx, .inr h⟩
theorem conB_no {l : List Ru} : conB l = false ↔ ¬ Con l := by rw [← conB_iff]; simp
theorem valid_of {nC nA : Int} {l : List Ru} (h : chkR nC nA l = 0) : l.length ≤ 64 ∧ ∀ r ∈ l, wrong nC nA r = false := by
  unfold chkR at h
  split at h
  · cases h
  · next h0 =>
    simp only [Bool.or_eq_true, decide_eq_true_eq, not_or, List.any_eq_true, not_exists, not_and, Bool.not_eq_true] at h0
    exact ⟨by omega, h0.2⟩
theorem chk_of {nC nA : Int} {l : List Ru} (h1 : l.length ≤ 64) (h2 : ∀ r ∈ l, wrong nC nA r = false) : chkR nC nA l = 0 := by
  unfold chkR
  rw [if_neg]
  simp only [Bool.or_eq_true, decide_eq_true_eq, not_or, List.any_eq_true, not_exists, not_and, Bool.not_eq_true]
  exact ⟨by omega, h2⟩
theorem chk_two (nC nA : Int) (l : List Ru) : chkR nC nA l = 0 ∨ chkR nC nA l = 130 := by
  unfold chkR; split <;> simp
theorem hv_of {nC nA : Nat} {l : List Ru} (h : chkR nC nA l = 0) : ∀ r ∈ l, r.k = 1 → 0 ≤ r.cl ∧ r.cl < nC ∧ 0 ≤ r.ap ∧ r.ap < nA := fun r hr h1 => by
  have := (valid_of h).2 r hr
  simp [wrong, valK, h1, val1] at this
  omega
theorem good_k {nC nA : Int} {l : List Ru} (h : chkR nC nA l = 0) : ∀ r ∈ l, (r.k = 1 → 0 ≤ r.f ∧ r.f < r.t ∧ r.t ≤ 1440) ∧ (r.k = 2 → r.n = 0) ∧ (r.k = 4 → 0 ≤ r.n ∧ r.n ≤ 60) := fun r hr => by
  have := (valid_of h).2 r hr
  refine ⟨fun h1 => ?_, fun h1 => ?_, fun h1 => ?_⟩
  · have hv : val1 nA r = true := by
      unfold wrong valK at this
      rw [if_pos h1] at this
      cases hq : val1 nA r with
      | true => rfl
      | false => rw [hq] at this; simp at this
    simp only [val1, badS, Ru.h, Bool.and_eq_true, Bool.not_eq_true', Bool.or_eq_false_iff, decide_eq_true_eq, decide_eq_false_iff_not, Bool.not_eq_eq_eq_not, Bool.not_true] at hv
    have g1 := of_decide_eq_false hv.2.1.1
    have g2 := of_decide_eq_false hv.2.1.2
    have g3 := of_decide_eq_false hv.2.2
    omega
  · simp [wrong, valK, h1, val2] at this; omega
  · simp [wrong, valK, h1, val4] at this; omega
/-- The rule at an index, or a rule of zeros. -/
def ruAt (l : List Ru) (i : Nat) : Ru := match l[i]? with | some r => r | none => ⟨0, ⟨#[]⟩, ⟨#[]⟩, 0, 0, 0, 0, 0⟩
theorem ruAt_eq {l : List Ru} {i : Nat} {r : Ru} (h : l[i]? = some r) : ruAt l i = r := by simp [ruAt, h]
theorem pickR_map {l : List Ru} : ∀ {T : List Nat}, (∀ i ∈ T, i < l.length) → pickR l T = T.map (ruAt l)
  | [], _ => rfl
  | i :: T, h => by
    have hi : i < l.length := h i (List.mem_cons_self ..)
    have hx : l[i]? = some l[i] := List.getElem?_eq_getElem hi
    have := pickR_map (l := l) (T := T) fun k hk => h k (List.mem_cons_of_mem _ hk)
    unfold pickR at this ⊢
    rw [List.filterMap_cons, hx]
    simp only [List.map_cons]
    rw [this, ruAt_eq hx]
theorem pairs_take {l : List Nat} (h : l.Pairwise (· < ·)) (i : Nat) : (l.take i ++ l.drop (i + 1)).Sublist l := by
  have h1 : (l.take i ++ l.drop (i + 1)).Sublist (l.take i ++ l.drop i) := List.Sublist.append (List.Sublist.refl _) (by
    rw [show l.drop (i + 1) = (l.drop i).drop 1 by rw [List.drop_drop]]; exact List.drop_sublist ..)
  rwa [List.take_append_drop] at h1
theorem minimal {nC nA : Nat} {l : List Ru} (h : chkR nC nA l = 0) {R : List Nat} (hR : reasonL nC nA l = R) :
    (R = [] → conB l = false) ∧ (R ≠ [] → Idx l.length R ∧ conB (R.map (ruAt l)) = true ∧ ∀ i < R.length, conB ((R.map (ruAt l)).take i ++ (R.map (ruAt l)).drop (i + 1)) = false) := by
  obtain ⟨r1, r2, r3⟩ := reason_spec nC nA l (hv_of h)
  rw [hR] at r1 r2 r3
  refine ⟨fun e => conB_no.2 (r1 e), fun e => ?_⟩
  obtain ⟨h1, h2⟩ := r2 e
  rw [pickR_map h1.2] at h2
  refine ⟨h1, conB_iff.2 h2, fun i hi => conB_no.2 fun hc => ?_⟩
  have hs := pairs_take h1.1 i
  have hI : Idx l.length (R.take i ++ R.drop (i + 1)) := idx_sub hs h1
  rw [← List.map_take, ← List.map_drop, ← List.map_append, ← pickR_map hI.2] at hc
  have := leO_iff.1 (r3 _ hI hc).2
  simp only [List.length_append, List.length_take, List.length_drop] at this
  omega
theorem any_of_mem {p : Ru → Bool} {l m : List Ru} (h : ∀ r, r ∈ l ↔ r ∈ m) : l.any p = m.any p := by
  rw [Bool.eq_iff_iff]; simp only [List.any_eq_true, h]
theorem chk_mem {nC nA : Int} {l m : List Ru} (hn : l.length = m.length) (h : ∀ r, r ∈ l ↔ r ∈ m) : chkR nC nA l = chkR nC nA m := by
  unfold chkR; rw [hn, any_of_mem h]
theorem chk_app {nC nA : Int} {l : List Ru} {x : Ru} (h : chkR nC nA (l ++ [x]) = 0) : chkR nC nA l = 0 := by
  obtain ⟨h1, h2⟩ := valid_of h
  simp at h1
  exact chk_of (by omega) fun r hr => h2 r (by simp [hr])
theorem lexLt_len : ∀ {a b : List Nat}, a.length = b.length → lexLt a b = false → lexLt b a = false → a = b := fun _ h1 h2 => lex_eq _ _ h1 h2
theorem more_of {nC nA : Nat} {l : List Ru} {x : Ru} (h : chkR nC nA (l ++ [x]) = 0) {R M : List Nat} (hR : reasonL nC nA l = R) (hM : reasonL nC nA (l ++ [x]) = M) (hne : R ≠ []) :
    M ≠ [] ∧ M.length ≤ R.length ∧ (M.length = R.length → R ≠ M → M[M.length - 1]? = some l.length) := by
  obtain ⟨r1, r2, r3⟩ := reason_spec nC nA l (hv_of (chk_app h))
  obtain ⟨m1, m2, m3⟩ := reason_spec nC nA (l ++ [x]) (hv_of h)
  rw [hR] at r1 r2 r3
  rw [hM] at m1 m2 m3
  obtain ⟨a1, a2⟩ := r2 hne
  have hp : ∀ T : List Nat, (∀ i ∈ T, i < l.length) → pickR (l ++ [x]) T = pickR l T := fun T hT => by
    rw [pickR_map hT, pickR_map fun i hi => by have := hT i hi; simp; omega]
    refine List.map_congr_left fun i hi => ?_
    unfold ruAt
    rw [List.getElem?_append_left (hT i hi)]
  have hI : Idx (l ++ [x]).length R := ⟨a1.1, fun i hi => by have := a1.2 i hi; simp; omega⟩
  obtain ⟨b1, b2⟩ := m3 R hI (by rw [hp R a1.2]; exact a2)
  refine ⟨b1, by have := leO_iff.1 b2; omega, fun hl hRM => ?_⟩
  obtain ⟨c1, c2⟩ := m2 b1
  by_cases hall : ∀ i ∈ M, i < l.length
  · exfalso
    rw [hp M hall] at c2
    exact hRM (leO_eq (r3 M ⟨c1.1, hall⟩ c2).2 b2)
  · simp only [Classical.not_forall] at hall
    obtain ⟨i, hi, hi2⟩ := hall
    have hi3 := c1.2 i hi
    simp at hi3
    obtain rfl : i = l.length := by omega
    obtain ⟨k, hk, e⟩ := List.mem_iff_getElem.1 hi
    have : k = M.length - 1 := by
      by_cases hkk : k = M.length - 1
      · exact hkk
      · have := List.pairwise_iff_getElem.1 c1.1 k (M.length - 1) hk (by omega) (by omega)
        have := c1.2 M[M.length - 1] (List.getElem_mem _)
        simp at this
        omega
    subst this
    rw [List.getElem?_eq_getElem hk, e]
theorem num_app {l : List Ru} {x : Ru} {k cl d : Int} (h : x.cl ≠ cl) : numR (l ++ [x]) k cl d = numR l k cl d := by
  unfold numR
  rw [List.find?_append]
  cases hf : l.find? (isR k cl) with
  | some r => rfl
  | none =>
    have : isR k cl x = false := by simp [isR, h]
    simp [this]
theorem num_some {l : List Ru} {k cl d : Int} (h : ∀ r ∈ l, r.k = k → r.cl ≠ cl) : numR l k cl d = d := by
  unfold numR
  have : l.find? (isR k cl) = none := List.find?_eq_none.2 fun r hr => by
    simp [isR]; exact h r hr
  rw [this]
theorem num_all {l : List Ru} {k cl d n : Int} (h : ∀ r ∈ l, r.k = k → r.cl = cl → r.n = n) {x : Ru} (hx : x ∈ l) (h1 : x.k = k) (h2 : x.cl = cl) : numR l k cl d = n := by
  unfold numR
  cases hf : l.find? (isR k cl) with
  | none => exact absurd (List.find?_eq_none.1 hf x hx) (by simp [isR, h1, h2])
  | some r =>
    have := List.find?_some hf
    simp [isR] at this
    exact h r (List.mem_of_find?_eq_some hf) this.1 this.2
theorem con_same {l : List Ru} (h : ¬ Con l) {x y : Ru} (hx : x ∈ l) (hy : y ∈ l) (hc : x.cl = y.cl) (hk : x.k = y.k) (h3 : x.k = 3 ∨ x.k = 4) : x.n = y.n := by
  apply Classical.byContradiction
  intro hn
  exact h (.inl ⟨x, hx, y, hy, ag_iff.2 ⟨hc, .inl ⟨hk, h3, hn⟩⟩⟩)
theorem con_ex {l : List Ru} (h : ¬ Con l) {x y : Ru} (hx : x ∈ l) (hy : y ∈ l) (hc : x.cl = y.cl) (hk : x.k = 2) (h3 : y.k = 4) : ¬ 0 < y.n := fun hn =>
  h (.inl ⟨x, hx, y, hy, ag_iff.2 ⟨hc, .inr ⟨by omega, .inl ⟨hk, h3, hn⟩⟩⟩⟩)
theorem num_mem {l m : List Ru} (h : ∀ r, r ∈ l ↔ r ∈ m) {k cl d : Int} (hs : ∀ x ∈ l, ∀ y ∈ l, x.k = k → y.k = k → x.cl = cl → y.cl = cl → x.n = y.n) : numR l k cl d = numR m k cl d := by
  by_cases hx : ∃ x ∈ l, x.k = k ∧ x.cl = cl
  · obtain ⟨x, hx, h1, h2⟩ := hx
    rw [num_all (n := x.n) (fun r hr a b => hs r hr x hx a h1 b h2) hx h1 h2, num_all (n := x.n) (fun r hr a b => hs r ((h r).2 hr) x hx a h1 b h2) ((h x).1 hx) h1 h2]
  · have e1 : ∀ r ∈ l, r.k = k → r.cl ≠ cl := fun r hr a b => hx ⟨r, hr, a, b⟩
    rw [num_some e1, num_some fun r hr => e1 r ((h r).2 hr)]
/-- No contradiction: what the numbers of a class are. -/
theorem free_num {nC nA : Int} {l : List Ru} (h : chkR nC nA l = 0) (hc : ¬ Con l) {cl : Int} {r : Ru} (hr : r ∈ l) (hcl : r.cl = cl) :
    (r.k = 2 → min (numR l 4 cl 60) (numR l 2 cl 60) = 0) ∧ (r.k = 4 → min (numR l 4 cl 60) (numR l 2 cl 60) = r.n) ∧ (r.k = 3 → numR l 3 cl 1 = r.n) := by
  have hg := good_k h
  refine ⟨fun h2 => ?_, fun h4 => ?_, fun h3 => ?_⟩
  · have e2 : numR l 2 cl 60 = 0 := num_all (n := 0) (fun q hq a _ => (hg q hq).2.1 a) hr h2 hcl
    have e4 : 0 ≤ numR l 4 cl 60 := by
      by_cases hx : ∃ x ∈ l, x.k = 4 ∧ x.cl = cl
      · obtain ⟨x, hx, h1, h2⟩ := hx
        rw [num_all (n := x.n) (fun q hq a b => con_same hc hq hx (by omega) (by omega) (by omega)) hx h1 h2]
        exact ((hg x hx).2.2 h1).1
      · rw [num_some (fun q hq a b => hx ⟨q, hq, a, b⟩)]; omega
    omega
  · have e4 : numR l 4 cl 60 = r.n := num_all (n := r.n) (fun q hq a b => con_same hc hq hr (by omega) (by omega) (by omega)) hr h4 hcl
    have hb := (hg r hr).2.2 h4
    by_cases hx : ∃ x ∈ l, x.k = 2 ∧ x.cl = cl
    · obtain ⟨x, hx, h1, h2⟩ := hx
      have e2 : numR l 2 cl 60 = 0 := num_all (n := 0) (fun q hq a _ => (hg q hq).2.1 a) hx h1 h2
      have := con_ex hc hx hr (by omega) h1 h4
      omega
    · have e2 : numR l 2 cl 60 = 60 := num_some (fun q hq a b => hx ⟨q, hq, a, b⟩)
      omega
  · exact num_all (n := r.n) (fun q hq a b => con_same hc hq hr (by omega) (by omega) (by omega)) hr h3 hcl
/-- The reference's search, from a beginning on. -/
def fromOf (b : List Nat) : Nat := match b.getLast? with | some i => i + 1 | none => 0
def firstG (l : List Ru) : Nat → List Nat → Option (List Nat)
  | 0, b => if conB (pickR l b) then some b else none
  | k + 1, b => (List.range' (fromOf b) (l.length - fromOf b)).findSome? (fun i => firstG l k (b ++ [i]))
def refR (l : List Ru) : List Nat := ((List.range' 1 l.length).findSome? (fun n => firstG l n [])).getD []
theorem fromOf_snoc (b : List Nat) (i : Nat) : fromOf (b ++ [i]) = i + 1 := by simp [fromOf]
theorem idx_snoc {n : Nat} {b : List Nat} {i : Nat} : Idx n (b ++ [i]) ↔ Idx n b ∧ fromOf b ≤ i ∧ i < n := by
  rcases List.eq_nil_or_concat b with rfl | ⟨c, j, rfl⟩
  · simp [Idx, fromOf]
  · rw [List.concat_eq_append, fromOf_snoc]
    unfold Idx
    constructor
    · rintro ⟨h1, h2⟩
      rw [List.pairwise_append] at h1
      exact ⟨⟨h1.1, fun x hx => h2 x (List.mem_append_left _ hx)⟩, h1.2.2 j (by simp) i (by simp), h2 i (by simp)⟩
    · rintro ⟨⟨h1, h2⟩, h3, h4⟩
      refine ⟨List.pairwise_append.2 ⟨h1, List.pairwise_singleton .., fun x hx y hy => ?_⟩, fun x hx => ?_⟩
      · obtain rfl : y = i := by simpa using hy
        rcases List.mem_append.1 hx with hx | hx
        · have := (List.pairwise_append.1 h1).2.2 x hx j (by simp); omega
        · obtain rfl : x = j := by simpa using hx
          omega
      · rcases List.mem_append.1 hx with hx | hx
        · exact h2 x hx
        · obtain rfl : x = i := by simpa using hx
          exact h4
theorem lex_app (c : List Nat) : ∀ {a b : List Nat}, lexLt (c ++ a) (c ++ b) = lexLt a b := by
  induction c with
  | nil => intros; rfl
  | cons x c ih => intro a b; simp [lexLt, ih]
theorem idx_head {n : Nat} {b S : List Nat} {i : Nat} (h : Idx n (b ++ i :: S)) : Idx n (b ++ [i]) := idx_sub (by
  rw [show b ++ i :: S = (b ++ [i]) ++ S by simp]; exact List.sublist_append_left ..) h
theorem first_spec (l : List Ru) : ∀ (k : Nat) (b : List Nat), Idx l.length b →
    (∀ T, firstG l k b = some T → ∃ S, T = b ++ S ∧ S.length = k ∧ Idx l.length T ∧ conB (pickR l T) = true ∧ ∀ S', S'.length = k → Idx l.length (b ++ S') → conB (pickR l (b ++ S')) = true → lexLt (b ++ S') T = false) ∧
    (firstG l k b = none → ∀ S', S'.length = k → Idx l.length (b ++ S') → conB (pickR l (b ++ S')) = false)
  | 0, b, hb => by
    unfold firstG
    refine ⟨fun T hT => ?_, fun hT S' hS' hI => ?_⟩
    · split at hT
      · next h =>
        obtain rfl := Option.some.inj hT
        refine ⟨[], by simp, rfl, hb, h, fun S' hS' _ _ => ?_⟩
        rw [List.eq_nil_of_length_eq_zero hS', List.append_nil]; exact lex_irr _
      · cases hT
    · split at hT
      · cases hT
      · next h =>
        rw [List.eq_nil_of_length_eq_zero hS', List.append_nil]; simpa using h
  | k + 1, b, hb => by
    rw [firstG]
    have hmem : ∀ i, i ∈ List.range' (fromOf b) (l.length - fromOf b) ↔ fromOf b ≤ i ∧ i < l.length := fun i => by
      rw [List.mem_range'_1]; omega
    refine ⟨fun T hT => ?_, fun hT S' hS' hI => ?_⟩
    · obtain ⟨l1, i, l2, hl, hi, hno⟩ := List.findSome?_eq_some_iff.1 hT
      have hi0 := (hmem i).1 (by rw [hl]; simp)
      have hbi : Idx l.length (b ++ [i]) := idx_snoc.2 ⟨hb, hi0⟩
      obtain ⟨S, rfl, s2, s3, s4, s5⟩ := (first_spec l k _ hbi).1 T hi
      refine ⟨i :: S, by simp, by simp [s2], s3, s4, fun S' hS' hI hc => ?_⟩
      cases S' with
      | nil => simp at hS'
      | cons j S' =>
        simp at hS'
        have hj := idx_snoc.1 (idx_head hI)
        rw [show b ++ j :: S' = (b ++ [j]) ++ S' by simp] at hI hc ⊢
        rcases Nat.lt_trichotomy j i with h | h | h
        · exfalso
          have hj1 : j ∈ l1 := by
            have h1 := (hmem j).2 hj.2
            rw [hl] at h1
            rcases List.mem_append.1 h1 with h1 | h1
            · exact h1
            · exfalso
              have hs : (List.range' (fromOf b) (l.length - fromOf b)).Pairwise (· < ·) := List.pairwise_lt_range'
              rw [hl] at hs
              have hs := (List.pairwise_append.1 hs).2.1
              rcases List.mem_cons.1 h1 with rfl | h1
              · omega
              · have := (List.pairwise_cons.1 hs).1 j h1; omega
          have := (first_spec l k _ (idx_snoc.2 hj)).2 (hno j hj1) S' hS' hI
          rw [this] at hc; cases hc
        · subst h
          exact s5 S' hS' hI hc
        · rw [List.append_assoc, List.append_assoc, lex_app]
          simp [lexLt]; omega
    · cases S' with
      | nil => simp at hS'
      | cons j S' =>
        simp at hS'
        have hj := idx_snoc.1 (idx_head hI)
        have := List.findSome?_eq_none_iff.1 hT j ((hmem j).2 hj.2)
        rw [show b ++ j :: S' = (b ++ [j]) ++ S' by simp] at hI ⊢
        exact (first_spec l k _ (idx_snoc.2 hj)).2 this S' hS' hI
theorem ref_eq {nC nA : Nat} {l : List Ru} (h : chkR nC nA l = 0) : refR l = reasonL nC nA l := by
  obtain ⟨r1, r2, r3⟩ := reason_spec nC nA l (hv_of h)
  have hI0 : Idx l.length [] := ⟨List.Pairwise.nil, fun i hi => by cases hi⟩
  unfold refR
  cases hf : (List.range' 1 l.length).findSome? (fun n => firstG l n []) with
  | none =>
    rw [List.findSome?_eq_none_iff] at hf
    by_cases hR : reasonL nC nA l = []
    · rw [hR]; rfl
    · exfalso
      obtain ⟨h1, h2⟩ := r2 hR
      have hlen : (reasonL nC nA l).length ≤ l.length := by
        have := (sub_of_subset h1.1 (List.pairwise_lt_range (n := l.length)) (fun i hi => by simpa using h1.2 i hi)).length_le
        simpa using this
      have hpos : 0 < (reasonL nC nA l).length := List.length_pos_iff.2 hR
      have := (first_spec l _ [] hI0).2 (hf (reasonL nC nA l).length (by rw [List.mem_range'_1]; omega)) (reasonL nC nA l) rfl h1
      rw [List.nil_append, conB_no] at this
      exact this h2
  | some T =>
    obtain ⟨l1, n, l2, hl, hi, hno⟩ := List.findSome?_eq_some_iff.1 hf
    obtain ⟨S, hS, s2, s3, s4, s5⟩ := (first_spec l n [] hI0).1 T hi
    rw [List.nil_append] at hS
    subst hS
    obtain ⟨t1, t2⟩ := r3 T s3 (conB_iff.1 s4)
    refine leO_eq ?_ t2
    show leO T (reasonL nC nA l)
    obtain ⟨h1, h2⟩ := r2 t1
    rw [leO_iff]
    have hpos : 0 < (reasonL nC nA l).length := List.length_pos_iff.2 t1
    rcases Nat.lt_or_ge (reasonL nC nA l).length T.length with hlt | hge
    · exfalso
      have hj : (reasonL nC nA l).length ∈ l1 := by
        have hn := (List.mem_range'_1.1 (show n ∈ List.range' 1 l.length by rw [hl]; simp))
        have h1 : (reasonL nC nA l).length ∈ List.range' 1 l.length := List.mem_range'_1.2 ⟨hpos, by omega⟩
        rw [hl] at h1
        rcases List.mem_append.1 h1 with h1 | h1
        · exact h1
        · exfalso
          have hs : (List.range' 1 l.length).Pairwise (· < ·) := List.pairwise_lt_range'
          rw [hl] at hs
          have hs := (List.pairwise_append.1 hs).2.1
          rcases List.mem_cons.1 h1 with h1 | h1
          · omega
          · have := (List.pairwise_cons.1 hs).1 _ h1; omega
      have := (first_spec l _ [] hI0).2 (hno _ hj) (reasonL nC nA l) rfl h1
      rw [List.nil_append, conB_no] at this
      exact this h2
    · rcases Nat.lt_or_ge T.length (reasonL nC nA l).length with h | h
      · exact .inl h
      · exact .inr ⟨by omega, s5 (reasonL nC nA l) (by omega) h1 (conB_iff.2 h2)⟩
theorem all_stepR {p : Ru → Bool} {l : List Ru} {m : Nat} {y : Ru} (h : ∀ z ∈ l.take m, p z = false) (hy : l[m]? = some y) (hp : p y = false) : ∀ z ∈ l.take (m + 1), p z = false := by
  obtain ⟨hm, rfl⟩ := List.getElem?_eq_some_iff.1 hy
  intro z hz
  rw [← List.take_append_getElem hm] at hz
  rcases List.mem_append.1 hz with hz | hz
  · exact h z hz
  · obtain rfl : z = l[m] := by simpa using hz
    exact hp
end Go.Proofs.Ytmgpbjpohbpgpaa
