/- Reason, in plain Lean: the least contradiction. -/
import Derived.Test.YtmgpbjpohbpgpaaPlain
import Derived.Test.YtmgpbjpohbpgpaaPn
set_option linter.unusedSimpArgs false
set_option linter.unusedVariables false
namespace Go.Proofs.Ytmgpbjpohbpgpaa
/-! Lists of indices: the order of Reason. -/
def lexLt : List Nat → List Nat → Bool
  | [], [] => false
  | [], _ :: _ => true
  | _ :: _, [] => false
  | a :: x, b :: y => decide (a < b) || (decide (a = b) && lexLt x y)
/-- Shorter, or as long and lexically first. -/
def ltO (a b : List Nat) : Bool := decide (a.length < b.length) || (decide (a.length = b.length) && lexLt a b)
theorem lex_irr : ∀ a, lexLt a a = false
  | [] => rfl
  | a :: x => by simp [lexLt, lex_irr x]
theorem lex_trans : ∀ a b c, lexLt b a = false → lexLt c b = false → lexLt c a = false
  | [], [], [], _, _ => rfl
  | [], [], _ :: _, _, _ => rfl
  | [], _ :: _, [], _, h => by simp [lexLt] at h
  | [], _ :: _, _ :: _, _, _ => rfl
  | _ :: _, [], _, h, _ => by simp [lexLt] at h
  | _ :: _, _ :: _, [], _, h => by simp [lexLt] at h
  | a :: x, b :: y, c :: z, h, g => by
    simp only [lexLt, Bool.or_eq_false_iff, Bool.and_eq_false_iff, decide_eq_false_iff_not] at h g ⊢
    refine ⟨by omega, ?_⟩
    by_cases e : c = a
    · right
      have e1 : b = a := by omega
      have e2 : c = b := by omega
      exact lex_trans x y z (h.2.resolve_left (by omega)) (g.2.resolve_left (by omega))
    · exact .inl e
theorem lex_asymm : ∀ a b, lexLt a b = true → lexLt b a = false
  | [], [], h => by simp [lexLt] at h
  | [], _ :: _, _ => rfl
  | _ :: _, [], h => by simp [lexLt] at h
  | a :: x, b :: y, h => by
    simp only [lexLt, Bool.or_eq_true, Bool.and_eq_true, decide_eq_true_eq, Bool.or_eq_false_iff, Bool.and_eq_false_iff, decide_eq_false_iff_not] at h ⊢
    refine ⟨by omega, ?_⟩
    by_cases e : b = a
    · right
      rcases h with h | h
      · omega
      · exact lex_asymm x y h.2
    · exact .inl e
theorem lex_eq : ∀ a b, lexLt a b = false → lexLt b a = false → a = b
  | [], [], _, _ => rfl
  | [], _ :: _, h, _ => by simp [lexLt] at h
  | _ :: _, [], _, h => by simp [lexLt] at h
  | a :: x, b :: y, h, g => by
    simp only [lexLt, Bool.or_eq_false_iff, Bool.and_eq_false_iff, decide_eq_false_iff_not] at h g
    have e : a = b := by omega
    subst e
    rw [lex_eq x y (h.2.resolve_left (fun h => h rfl)) (g.2.resolve_left (fun h => h rfl))]
/-- No later than. -/
def leO (a b : List Nat) : Prop := ltO b a = false
theorem leO_iff {a b : List Nat} : leO a b ↔ a.length < b.length ∨ (a.length = b.length ∧ lexLt b a = false) := by
  unfold leO ltO
  simp only [Bool.or_eq_false_iff, Bool.and_eq_false_iff, decide_eq_false_iff_not]
  constructor
  · rintro ⟨h, g⟩
    by_cases e : a.length = b.length
    · exact .inr ⟨e, g.resolve_left (fun h => h e.symm)⟩
    · exact .inl (by omega)
  · rintro (h | ⟨h, g⟩)
    · exact ⟨by omega, .inl (by omega)⟩
    · exact ⟨by omega, .inr g⟩
theorem leO_refl (a : List Nat) : leO a a := leO_iff.2 (.inr ⟨rfl, lex_irr a⟩)
theorem leO_trans {a b c : List Nat} (h : leO a b) (g : leO b c) : leO a c := by
  rw [leO_iff] at h g ⊢
  rcases h with h | ⟨h, h2⟩ <;> rcases g with g | ⟨g, g2⟩
  · exact .inl (by omega)
  · exact .inl (by omega)
  · exact .inl (by omega)
  · exact .inr ⟨by omega, lex_trans a b c h2 g2⟩
theorem leO_of_lt {a b : List Nat} (h : ltO a b = true) : leO a b := by
  rw [leO_iff]
  simp only [ltO, Bool.or_eq_true, Bool.and_eq_true, decide_eq_true_eq] at h
  exact h.imp id (fun ⟨x, y⟩ => ⟨x, lex_asymm _ _ y⟩)
theorem leO_eq {a b : List Nat} (h : leO a b) (g : leO b a) : a = b := by
  rw [leO_iff] at h g
  rcases h with h | ⟨h, h2⟩ <;> rcases g with g | ⟨g, g2⟩
  · omega
  · omega
  · omega
  · exact lex_eq a b g2 h2
theorem leO_sub {a b : List Nat} (h : a.Sublist b) : leO a b := by
  rcases Nat.lt_or_ge a.length b.length with e | e
  · exact leO_iff.2 (.inl e)
  · rw [h.eq_of_length_le e]; exact leO_refl b
/-- The set that is better: not empty, and the first one or less than the one so far. -/
def better (l set : List Nat) : List Nat := if decide (0 < set.length) && (decide (l.length = 0) || ltO set l) then set else l
theorem better_spec : ∀ (cs : List (List Nat)) (l : List Nat), ((cs.foldl better l = []) → l = [] ∧ ∀ c ∈ cs, c = []) ∧ (cs.foldl better l = l ∨ cs.foldl better l ∈ cs) ∧ ∀ c ∈ l :: cs, c ≠ [] → leO (cs.foldl better l) c
  | [], l => ⟨fun h => ⟨h, fun c hc => by simp at hc⟩, .inl rfl, fun c hc _ => by simp at hc; subst hc; exact leO_refl _⟩
  | x :: cs, l => by
    obtain ⟨h1, h2, h3⟩ := better_spec cs (better l x)
    rw [List.foldl_cons]
    have hb : (better l x = x ∧ x ≠ [] ∧ (l ≠ [] → leO x l)) ∨ (better l x = l ∧ (x ≠ [] → l ≠ [] ∧ leO l x)) := by
      unfold better
      split
      · rename_i h
        simp only [Bool.and_eq_true, Bool.or_eq_true, decide_eq_true_eq] at h
        refine .inl ⟨rfl, fun e => by simp [e] at h, fun e => leO_of_lt (h.2.resolve_left (fun g => e (by simpa using g)))⟩
      · rename_i h
        simp only [Bool.and_eq_true, Bool.or_eq_true, decide_eq_true_eq, not_and, not_or] at h
        refine .inr ⟨rfl, fun e => ?_⟩
        have := h (List.length_pos_iff.2 e)
        exact ⟨fun g => this.1 (by simp [g]), by simpa [leO] using this.2⟩
    obtain ⟨y, hy⟩ : ∃ y, better l x = y := ⟨_, rfl⟩
    rw [hy] at h1 h2 h3 hb ⊢
    refine ⟨fun h => ?_, ?_, fun c hc h0 => ?_⟩
    · obtain ⟨e1, e2⟩ := h1 h
      rcases hb with ⟨b1, b2, -⟩ | ⟨b1, b2⟩
      · exact absurd (b1 ▸ e1) b2
      · refine ⟨b1 ▸ e1, fun c hc => ?_⟩
        rcases List.mem_cons.1 hc with rfl | hc
        · cases c with
          | nil => rfl
          | cons a r => exact absurd (b1 ▸ e1) (b2 (by simp)).1
        · exact e2 c hc
    · rcases h2 with h2 | h2
      · rcases hb with ⟨b1, -⟩ | ⟨b1, -⟩
        · exact .inr (by rw [h2, b1]; exact List.mem_cons_self ..)
        · exact .inl (by rw [h2, b1])
      · exact .inr (List.mem_cons_of_mem _ h2)
    · have hyc : y ≠ [] → leO (cs.foldl better y) y := h3 y (List.mem_cons_self ..)
      rcases List.mem_cons.1 hc with rfl | hc
      · rcases hb with ⟨b1, b2, b3⟩ | ⟨b1, -⟩
        · exact leO_trans (hyc (b1 ▸ b2)) (b1 ▸ b3 h0)
        · exact b1 ▸ hyc (b1 ▸ h0)
      · rcases List.mem_cons.1 hc with rfl | hc
        · rcases hb with ⟨b1, b2, b3⟩ | ⟨b1, b2⟩
          · exact b1 ▸ hyc (b1 ▸ b2)
          · exact leO_trans (hyc (b1 ▸ (b2 h0).1)) (b1 ▸ (b2 h0).2)
        · exact h3 c (List.mem_cons_of_mem _ hc) h0
/-! Pairs. -/
def pairsL (n : Nat) : List (Nat × Nat) := (List.range n).flatMap (fun i => (List.range (n - (i + 1))).map (fun d => (i, i + 1 + d)))
theorem pairs_mem {n i k : Nat} : (i, k) ∈ pairsL n ↔ i < k ∧ k < n := by
  unfold pairsL
  simp only [List.mem_flatMap, List.mem_range, List.mem_map, Prod.mk.injEq]
  constructor
  · rintro ⟨a, ha, d, hd, rfl, rfl⟩; omega
  · rintro ⟨h, g⟩; exact ⟨i, by omega, k - (i + 1), by omega, rfl, by omega⟩
theorem pairs_sorted (n : Nat) : (pairsL n).Pairwise (fun a b => a.1 < b.1 ∨ (a.1 = b.1 ∧ a.2 < b.2)) := by
  unfold pairsL
  rw [List.pairwise_flatMap]
  refine ⟨fun i _ => ?_, ?_⟩
  · rw [List.pairwise_map]
    exact List.pairwise_lt_range.imp (fun {a b} h => .inr ⟨rfl, by simpa using h⟩)
  · refine List.pairwise_lt_range.imp (fun {a b} h x hx y hy => ?_)
    simp only [List.mem_map] at hx hy
    obtain ⟨_, _, rfl⟩ := hx
    obtain ⟨_, _, rfl⟩ := hy
    exact .inl h
theorem pair_first {n : Nat} {p : Nat × Nat → Bool} {x : Nat × Nat} (h : (pairsL n).find? p = some x) : p x = true ∧ x.1 < x.2 ∧ x.2 < n ∧ ∀ i k, i < k → k < n → p (i, k) = true → leO [x.1, x.2] [i, k] := by
  rw [List.find?_eq_some_iff_append] at h
  obtain ⟨h1, as, bs, h2, h3⟩ := h
  have hs := pairs_sorted n
  have hm : x ∈ pairsL n := by rw [h2]; simp
  obtain ⟨m1, m2⟩ := pairs_mem.1 (show (x.1, x.2) ∈ pairsL n from hm)
  refine ⟨h1, m1, m2, fun i k hi hk hp => ?_⟩
  have hm2 := (pairs_mem (n := n)).2 ⟨hi, hk⟩
  rw [h2] at hs hm2
  rw [List.pairwise_append] at hs
  rw [leO_iff]
  refine .inr ⟨rfl, ?_⟩
  rcases List.mem_append.1 hm2 with g | g
  · have := h3 _ g; simp [hp] at this
  · rcases List.mem_cons.1 g with rfl | g
    · simp [lexLt]
    · have := (List.pairwise_cons.1 hs.2.1).1 _ g
      simp only [lexLt, Bool.or_eq_false_iff, Bool.and_eq_false_iff, decide_eq_false_iff_not]
      refine ⟨by omega, ?_⟩
      by_cases e : i = x.1
      · right; exact ⟨by omega, .inl (by omega)⟩
      · exact .inl e
/-! Covers. -/
def hAt (l : List Ru) (i : Nat) : Sp := match l[i]? with | some r => r.h | none => ⟨0, 0⟩
def spI (l : List Ru) (s : List Nat) : List Sp := s.map (hAt l)
def pickC (l : List Ru) (many : Int) (set : List Nat) : List Nat → Option (List Nat × List Nat)
  | [] => none
  | i :: r => if decide (0 ≤ need (spI l (set ++ [i])) (spI l r)) && decide (need (spI l (set ++ [i])) (spI l r) ≤ many - (set.length + 1)) then some (set ++ [i], r) else pickC l many set r
def coverG (l : List Ru) (many : Int) : Nat → List Nat → List Nat → List Nat
  | 0, set, _ => set
  | k + 1, set, S => match pickC l many set S with | some x => coverG l many k x.1 x.2 | none => set
def coverL (l : List Ru) (S : List Nat) : List Nat := if need [] (spI l S) < 0 then [] else coverG l (need [] (spI l S)) (need [] (spI l S)).toNat [] S
theorem full_iff {L : List Sp} : Full L ↔ ∀ m < 1440, ∃ s ∈ L, inS s (m : Nat) = true := by simp [Full, inL]
theorem full_mono {L M : List Sp} (h : ∀ s ∈ L, s ∈ M) (f : Full L) : Full M := by
  rw [full_iff] at f ⊢
  intro m hm
  obtain ⟨s, hs, g⟩ := f m hm
  exact ⟨s, h s hs, g⟩
theorem length_le_of_subset : ∀ {U V : List Nat}, U.Nodup → (∀ x ∈ U, x ∈ V) → U.length ≤ V.length
  | [], _, _, _ => Nat.zero_le _
  | u :: U, V, hd, h => by
    have hd' := List.nodup_cons.1 hd
    have hu := h u (List.mem_cons_self ..)
    have := length_le_of_subset (V := V.erase u) hd'.2 (fun x hx => by
      have hx' := h x (List.mem_cons_of_mem _ hx)
      have : x ≠ u := fun e => by subst e; exact hd'.1 hx
      exact (List.mem_erase_of_ne this).2 hx')
    rw [List.length_erase_of_mem hu] at this
    have := List.length_pos_of_mem hu
    simp; omega
theorem idx_of (l : List Ru) (S : List Nat) : ∀ T : List Sp, (∀ x ∈ T, x ∈ spI l S) → ∃ V : List Nat, (∀ i ∈ V, i ∈ S) ∧ spI l V = T
  | [], _ => ⟨[], by simp, rfl⟩
  | t :: T, h => by
    obtain ⟨V, h1, h2⟩ := idx_of l S T (fun x hx => h x (List.mem_cons_of_mem _ hx))
    obtain ⟨i, hi, rfl⟩ := List.mem_map.1 (h t (List.mem_cons_self ..))
    refine ⟨i :: V, fun j hj => ?_, by simp [spI] at h2 ⊢; exact h2⟩
    rcases List.mem_cons.1 hj with rfl | hj
    · exact hi
    · exact h1 j hj
theorem spI_app (l : List Ru) (a b : List Nat) : spI l (a ++ b) = spI l a ++ spI l b := by simp [spI]
theorem need_idx (l : List Ru) (c S : List Nat) (hS : S.Nodup) : (∃ k : Nat, need (spI l c) (spI l S) = k ∧ (∃ U : List Nat, U.Sublist S ∧ U.length = k ∧ Full (spI l (c ++ U))) ∧ ∀ U : List Nat, U.Sublist S → Full (spI l (c ++ U)) → k ≤ U.length) ∨ (need (spI l c) (spI l S) = -1 ∧ ∀ U : List Nat, U.Sublist S → ¬ Full (spI l (c ++ U))) := by
  have sub : ∀ {U : List Nat}, U.Sublist S → ∀ x ∈ spI l U, x ∈ spI l S := fun h x hx => by
    obtain ⟨i, hi, rfl⟩ := List.mem_map.1 hx
    exact List.mem_map.2 ⟨i, h.subset hi, rfl⟩
  rcases need_spec (spI l c) (spI l S) with ⟨k, h1, ⟨T, h2, h3, h4⟩, h5⟩ | ⟨h1, h2⟩
  · have low : ∀ U : List Nat, U.Sublist S → Full (spI l (c ++ U)) → k ≤ U.length := fun U hU hf => by
      have := h5 (spI l U) (sub hU) (by rw [← spI_app]; exact hf)
      simpa [spI] using this
    refine .inl ⟨k, h1, ?_, low⟩
    obtain ⟨V, hV, rfl⟩ := idx_of l S T h2
    have f : Full (spI l (c ++ S.filter (fun i => decide (i ∈ V)))) := full_mono (fun s hs => by
      rw [← spI_app] at hs
      obtain ⟨i, hi, rfl⟩ := List.mem_map.1 hs
      refine List.mem_map.2 ⟨i, ?_, rfl⟩
      rcases List.mem_append.1 hi with h | h
      · exact List.mem_append.2 (.inl h)
      · exact List.mem_append.2 (.inr (List.mem_filter.2 ⟨hV i h, by simpa using h⟩))) h4
    have u1 := low _ List.filter_sublist f
    have u2 := length_le_of_subset (hS.sublist (List.filter_sublist (p := fun i => decide (i ∈ V)))) (V := V) (fun x hx => by simpa using (List.mem_filter.1 hx).2)
    have u3 : V.length = k := by simpa [spI] using h3
    exact ⟨_, List.filter_sublist, by omega, f⟩
  · exact .inr ⟨h1, fun U hU hf => h2 (spI l U) (sub hU) (by rw [← spI_app]; exact hf)⟩
theorem sub_cons {a : Nat} {W r : List Nat} (h : W.Sublist (a :: r)) : W.Sublist r ∨ ∃ W', W = a :: W' ∧ W'.Sublist r := by
  rcases List.sublist_cons_iff.1 h with h | h
  · exact .inl h
  · exact .inr h
theorem pickC_spec (l : List Ru) (many : Int) (set : List Nat) : ∀ (S : List Nat), S.Pairwise (· < ·) → (∀ W : List Nat, W.Sublist S → Full (spI l (set ++ W)) → many ≤ set.length + W.length) → (∃ W : List Nat, W.Sublist S ∧ (set.length + W.length : Int) = many ∧ Full (spI l (set ++ W)) ∧ W ≠ []) →
    ∃ i r, pickC l many set S = some (set ++ [i], r) ∧ (i :: r).Sublist S ∧ r.Pairwise (· < ·) ∧ (∃ W : List Nat, W.Sublist r ∧ (set.length + 1 + W.length : Int) = many ∧ Full (spI l (set ++ [i] ++ W))) ∧
      ∀ W : List Nat, W.Sublist S → (set.length + W.length : Int) = many → Full (spI l (set ++ W)) → W ≠ [] → (∃ W', W = i :: W' ∧ W'.Sublist r) ∨ ∃ j W', W = j :: W' ∧ i < j
  | [], _, _, ⟨W, h1, _, _, h4⟩ => absurd (List.sublist_nil.1 h1) h4
  | a :: r, hp, lo, ⟨W, h1, h2, h3, h4⟩ => by
    have hp' := List.pairwise_cons.1 hp
    have hnd : r.Nodup := hp'.2.imp (fun h => Nat.ne_of_lt h)
    unfold pickC
    have hn := need_idx l (set ++ [a]) r hnd
    split
    · rename_i hc
      simp only [Bool.and_eq_true, decide_eq_true_eq] at hc
      rcases hn with ⟨k, n1, ⟨U, n2, n3, n4⟩, n5⟩ | ⟨n1, -⟩
      · refine ⟨a, r, rfl, List.Sublist.refl _, hp'.2, ⟨U, n2, ?_, n4⟩, fun W hW hl hf h0 => ?_⟩
        · have := lo (a :: U) (n2.cons_cons a) (by simpa using n4)
          simp at this
          omega
        · rcases sub_cons hW with h | ⟨W', h, g⟩
          · cases W with
            | nil => exact absurd rfl h0
            | cons j W' => exact .inr ⟨j, W', rfl, hp'.1 j (h.subset (List.mem_cons_self ..))⟩
          · exact .inl ⟨W', h, g⟩
      · omega
    · rename_i hc
      simp only [Bool.and_eq_true, decide_eq_true_eq, not_and] at hc
      have no : ∀ W' : List Nat, W'.Sublist r → Full (spI l (set ++ a :: W')) → (set.length + (W'.length + 1) : Int) = many → False := fun W' hW' hf hl => by
        have hf' : Full (spI l (set ++ [a] ++ W')) := by simpa using hf
        rcases hn with ⟨k, n1, -, n5⟩ | ⟨n1, n2⟩
        · have := n5 W' hW' hf'
          have := hc (by omega)
          omega
        · exact n2 W' hW' hf'
      have h5 : W.Sublist r := by
        rcases sub_cons h1 with h | ⟨W', rfl, g⟩
        · exact h
        · exact (no W' g h3 (by simpa using h2)).elim
      obtain ⟨i, r', e1, e2, e3, e4, e5⟩ := pickC_spec l many set r hp'.2 (fun W hW => lo W (hW.cons a)) ⟨W, h5, h2, h3, h4⟩
      refine ⟨i, r', e1, e2.cons a, e3, e4, fun W hW hl hf h0 => ?_⟩
      rcases sub_cons hW with h | ⟨W', rfl, g⟩
      · exact e5 W h hl hf h0
      · exact (no W' g hf (by simpa using hl)).elim
theorem coverG_spec (l : List Ru) (many : Int) : ∀ (k : Nat) (set S : List Nat), (set.length + k : Int) = many → S.Pairwise (· < ·) → (∀ W : List Nat, W.Sublist S → Full (spI l (set ++ W)) → many ≤ set.length + W.length) → (∃ W : List Nat, W.Sublist S ∧ (set.length + W.length : Int) = many ∧ Full (spI l (set ++ W))) →
    ∃ W0 : List Nat, coverG l many k set S = set ++ W0 ∧ W0.Sublist S ∧ W0.length = k ∧ Full (spI l (set ++ W0)) ∧ ∀ W : List Nat, W.Sublist S → W.length = k → Full (spI l (set ++ W)) → lexLt W W0 = false
  | 0, set, S, hk, _, _, ⟨W, h1, h2, h3⟩ => by
    have e : W = [] := List.length_eq_zero_iff.1 (by omega)
    subst e
    exact ⟨[], by simp [coverG], List.nil_sublist _, rfl, h3, fun W _ h _ => by rw [List.length_eq_zero_iff.1 h]; rfl⟩
  | k + 1, set, S, hk, hp, lo, ⟨W, h1, h2, h3⟩ => by
    obtain ⟨i, r, e1, e2, e3, ⟨W1, e4, e5, e6⟩, e7⟩ := pickC_spec l many set S hp lo ⟨W, h1, h2, h3, fun h => by subst h; simp at h2; omega⟩
    obtain ⟨W0, g1, g2, g3, g4, g5⟩ := coverG_spec l many k (set ++ [i]) r (by simp; omega) e3 (fun W hW hf => by
      have := lo (i :: W) ((hW.cons_cons i).trans e2) (by simpa using hf)
      simp at this ⊢; omega) ⟨W1, e4, by simp; omega, e6⟩
    refine ⟨i :: W0, by simp [coverG, e1, g1], (g2.cons_cons i).trans e2, by simp [g3], by simpa using g4, fun W hW hl hf => ?_⟩
    rcases e7 W hW (by omega) hf (fun h => by subst h; simp at hl) with ⟨W', rfl, h⟩ | ⟨j, W', rfl, h⟩
    · have := g5 W' h (by simpa using hl) (by simpa using hf)
      simp [lexLt, this]
    · simp only [lexLt, Bool.or_eq_false_iff, Bool.and_eq_false_iff, decide_eq_false_iff_not]
      exact ⟨by omega, .inl (by omega)⟩
/-- The least cover, or nothing. -/
theorem coverL_spec (l : List Ru) (S : List Nat) (hp : S.Pairwise (· < ·)) : (coverL l S = [] → ∀ W : List Nat, W.Sublist S → ¬ Full (spI l W)) ∧ (coverL l S ≠ [] → (coverL l S).Sublist S ∧ Full (spI l (coverL l S)) ∧ ∀ W : List Nat, W.Sublist S → Full (spI l W) → leO (coverL l S) W) := by
  have hnd : S.Nodup := hp.imp (fun h => Nat.ne_of_lt h)
  have h0 : ∀ L : List Sp, Full L → L ≠ [] := fun L h e => by
    subst e; have := h 0 (by omega); simp [inL] at this
  unfold coverL
  rcases need_idx l [] S hnd with ⟨k, n1, ⟨U, n2, n3, n4⟩, n5⟩ | ⟨n1, n2⟩
  · have n1' : need [] (spI l S) = k := n1
    rw [n1', if_neg (by omega)]
    obtain ⟨W0, g1, g2, g3, g4, g5⟩ := coverG_spec l k k [] S (by simp) hp (fun W hW hf => by have := n5 W hW hf; simp; omega) ⟨U, n2, by simp; omega, n4⟩
    rw [show ((k : Int).toNat) = k by omega, g1, List.nil_append]
    have g4' : Full (spI l W0) := g4
    refine ⟨fun e => ?_, fun _ => ⟨g2, g4', fun W hW hf => ?_⟩⟩
    · subst e; exact absurd rfl (h0 _ g4')
    · have := n5 W hW hf
      rw [leO_iff]
      by_cases e : W.length = k
      · exact .inr ⟨by omega, g5 W hW e hf⟩
      · exact .inl (by omega)
  · have n1' : need [] (spI l S) = -1 := n1
    rw [n1', if_pos (by omega)]
    exact ⟨fun _ W hW => n2 W hW, fun h => absurd rfl h⟩
/-! Contradictions. -/
def sameG (x y : Ru) : Bool := decide (x.k = 1) && decide (y.k = 1) && decide (x.cl = y.cl) && decide (x.ap = y.ap)
/-- Rules contradict each other. -/
def Con (l : List Ru) : Prop := (∃ x ∈ l, ∃ y ∈ l, agR x y = true) ∨ ∃ x ∈ l, Full ((l.filter (sameG x)).map Ru.h)
theorem con_mono {l m : List Ru} (h : ∀ x ∈ l, x ∈ m) : Con l → Con m
  | .inl ⟨x, hx, y, hy, g⟩ => .inl ⟨x, h x hx, y, h y hy, g⟩
  | .inr ⟨x, hx, g⟩ => .inr ⟨x, h x hx, full_mono (fun s hs => by
      obtain ⟨y, hy, rfl⟩ := List.mem_map.1 hs
      exact List.mem_map.2 ⟨y, List.mem_filter.2 ⟨h y (List.mem_filter.1 hy).1, (List.mem_filter.1 hy).2⟩, rfl⟩) g⟩
def pickR (l : List Ru) (T : List Nat) : List Ru := T.filterMap (fun i => l[i]?)
theorem pickR_mem {l : List Ru} {T : List Nat} {x : Ru} : x ∈ pickR l T ↔ ∃ i ∈ T, l[i]? = some x := by simp [pickR, List.mem_filterMap]
/-- Indices of some n, the lesser ones first. -/
def Idx (n : Nat) (T : List Nat) : Prop := T.Pairwise (· < ·) ∧ ∀ i ∈ T, i < n
def isC (c p : Nat) (r : Ru) : Bool := decide (r.k = 1) && decide (r.cl = c) && decide (r.ap = p)
def atI (l : List Ru) (f : Ru → Bool) (i : Nat) : Bool := match l[i]? with | some r => f r | none => false
def someL (l : List Ru) (c p : Nat) : List Nat := (List.range l.length).filter (atI l (isC c p))
def firstP (l : List Ru) : Option (Nat × Nat) := (pairsL l.length).find? (fun x => atI l (fun a => atI l (fun b => agR a b) x.2) x.1)
def pairS (l : List Ru) : List Nat := match firstP l with | some x => [x.1, x.2] | none => []
def candL (nC nA : Nat) (l : List Ru) : List (List Nat) := (List.range nC).flatMap (fun c => (List.range nA).map (fun p => coverL l (someL l c p)))
def reasonL (nC nA : Nat) (l : List Ru) : List Nat := (candL nC nA l).foldl better (better [] (pairS l))
theorem atI_iff {l : List Ru} {f : Ru → Bool} {i : Nat} : atI l f i = true ↔ ∃ r, l[i]? = some r ∧ f r = true := by
  unfold atI; cases l[i]? <;> simp
theorem someL_idx (l : List Ru) (c p : Nat) : Idx l.length (someL l c p) := ⟨List.pairwise_lt_range.filter _, fun i hi => by simpa using (List.mem_filter.1 hi).1⟩
theorem idx_sub {n : Nat} {T S : List Nat} (h : T.Sublist S) (hS : Idx n S) : Idx n T := ⟨hS.1.sublist h, fun i hi => hS.2 i (h.subset hi)⟩
theorem hAt_eq {l : List Ru} {i : Nat} {r : Ru} (h : l[i]? = some r) : hAt l i = r.h := by simp [hAt, h]
theorem agR_ne {l : List Ru} {x y : Ru} (h : agR x y = true) : x ≠ y := fun e => by
  subst e; obtain ⟨-, ⟨-, -, h⟩ | ⟨h, -⟩⟩ := ag_iff.1 h
  · exact h rfl
  · exact h rfl
theorem agR_symm {x y : Ru} (h : agR x y = true) : agR y x = true := by
  obtain ⟨h0, h⟩ := ag_iff.1 h
  refine ag_iff.2 ⟨h0.symm, ?_⟩
  rcases h with ⟨h1, h2, h3⟩ | ⟨h1, h2⟩
  · exact .inl ⟨h1.symm, by omega, fun e => h3 e.symm⟩
  · exact .inr ⟨fun e => h1 e.symm, by rcases h2 with ⟨a, b, c⟩ | ⟨a, b, c⟩; exact .inr ⟨b, a, c⟩; exact .inl ⟨b, a, c⟩⟩
theorem sub_of_subset : ∀ {A B : List Nat}, A.Pairwise (· < ·) → B.Pairwise (· < ·) → (∀ x ∈ A, x ∈ B) → A.Sublist B
  | [], B, _, _, _ => List.nil_sublist B
  | a :: A, [], _, _, h => absurd (h a (List.mem_cons_self ..)) (by simp)
  | a :: A, b :: B, ha, hb, h => by
    have ha' := List.pairwise_cons.1 ha
    have hb' := List.pairwise_cons.1 hb
    by_cases e : a = b
    · subst e
      refine List.Sublist.cons_cons _ (sub_of_subset ha'.2 hb'.2 (fun x hx => ?_))
      rcases List.mem_cons.1 (h x (List.mem_cons_of_mem _ hx)) with rfl | g
      · exact absurd (ha'.1 x hx) (Nat.lt_irrefl _)
      · exact g
    · have haB : a ∈ B := (List.mem_cons.1 (h a (List.mem_cons_self ..))).resolve_left e
      refine List.Sublist.cons _ (sub_of_subset ha hb'.2 (fun x hx => ?_))
      rcases List.mem_cons.1 (h x hx) with rfl | g
      · rcases List.mem_cons.1 hx with rfl | g
        · exact haB
        · have := ha'.1 x g; have := hb'.1 a haB; omega
      · exact g
/-- Curfews of a class at an airport that cover the day are a contradiction. -/
theorem con_of_cover {l : List Ru} {c p : Nat} {T : List Nat} (h : T.Sublist (someL l c p)) (f : Full (spI l T)) : Con (pickR l T) := by
  have hall : ∀ i ∈ T, ∃ r, l[i]? = some r ∧ isC c p r = true := fun i hi => atI_iff.1 (List.mem_filter.1 (h.subset hi)).2
  have f0 := full_iff.1 f 0 (by omega)
  obtain ⟨s, hs, -⟩ := f0
  obtain ⟨i, hi, -⟩ := List.mem_map.1 hs
  obtain ⟨r, hr, hc⟩ := hall i hi
  refine .inr ⟨r, pickR_mem.2 ⟨i, hi, hr⟩, full_mono (fun s hs => ?_) f⟩
  obtain ⟨k, hk, rfl⟩ := List.mem_map.1 hs
  obtain ⟨q, hq, hd⟩ := hall k hk
  rw [hAt_eq hq]
  refine List.mem_map.2 ⟨q, List.mem_filter.2 ⟨pickR_mem.2 ⟨k, hk, hq⟩, ?_⟩, rfl⟩
  simp [isC] at hc hd
  simp [sameG, hc, hd]
/-- What Reason returns is nothing and all rules are no contradiction, or the least contradiction. -/
theorem reason_spec (nC nA : Nat) (l : List Ru) (hv : ∀ r ∈ l, r.k = 1 → 0 ≤ r.cl ∧ r.cl < nC ∧ 0 ≤ r.ap ∧ r.ap < nA) :
    (reasonL nC nA l = [] → ¬ Con l) ∧ (reasonL nC nA l ≠ [] → Idx l.length (reasonL nC nA l) ∧ Con (pickR l (reasonL nC nA l))) ∧
      ∀ T, Idx l.length T → Con (pickR l T) → reasonL nC nA l ≠ [] ∧ leO (reasonL nC nA l) T := by
  obtain ⟨b1, b2, b3⟩ := better_spec (candL nC nA l) (better [] (pairS l))
  have b0 : better [] (pairS l) = pairS l := by
    unfold better
    cases h : pairS l <;> simp
  rw [b0] at b1 b2 b3
  have hR : (candL nC nA l).foldl better (pairS l) = reasonL nC nA l := by unfold reasonL; rw [b0]
  rw [hR] at b1 b2 b3
  -- a candidate ahead of each contradiction
  have key : ∀ T, Idx l.length T → Con (pickR l T) → ∃ c ∈ pairS l :: candL nC nA l, c ≠ [] ∧ leO c T := fun T hT hc => by
    rcases hc with ⟨x, hx, y, hy, g⟩ | ⟨x, hx, g⟩
    · obtain ⟨i, hi, hxi⟩ := pickR_mem.1 hx
      obtain ⟨k, hk, hyk⟩ := pickR_mem.1 hy
      have hp : ∃ i k, i ∈ T ∧ k ∈ T ∧ i < k ∧ atI l (fun a => atI l (fun b => agR a b) k) i = true := by
        have hik : i ≠ k := fun e => by subst e; exact agR_ne (l := l) g (by rw [hxi] at hyk; simpa using hyk)
        rcases Nat.lt_or_ge i k with h | h
        · exact ⟨i, k, hi, hk, h, atI_iff.2 ⟨x, hxi, atI_iff.2 ⟨y, hyk, g⟩⟩⟩
        · exact ⟨k, i, hk, hi, by omega, atI_iff.2 ⟨y, hyk, atI_iff.2 ⟨x, hxi, agR_symm g⟩⟩⟩
      obtain ⟨i, k, hi, hk, h, hp⟩ := hp
      cases hf : firstP l with
      | none =>
        have := List.find?_eq_none.1 hf _ (pairs_mem.2 ⟨h, hT.2 k hk⟩)
        exact absurd hp this
      | some z =>
        obtain ⟨-, -, -, z4⟩ := pair_first hf
        refine ⟨pairS l, List.mem_cons_self .., by simp [pairS, hf], leO_trans (b := [i, k]) ?_ ?_⟩
        · have := z4 i k h (hT.2 k hk) hp
          simpa [pairS, hf] using this
        · refine leO_sub ?_
          exact sub_of_subset (by simp [h]) hT.1 (fun x hx => by simp at hx; rcases hx with rfl | rfl; exact hi; exact hk)
    · obtain ⟨i, hi, hxi⟩ := pickR_mem.1 hx
      have hxl : x ∈ l := List.mem_of_getElem? hxi
      have hx1 : x.k = 1 := by
        have := full_iff.1 g 0 (by omega)
        obtain ⟨s, hs, -⟩ := this
        obtain ⟨y, hy, -⟩ := List.mem_map.1 hs
        have := (List.mem_filter.1 hy).2
        simp [sameG] at this
        exact this.1.1.1
      obtain ⟨v1, v2, v3, v4⟩ := hv x hxl hx1
      obtain ⟨c, hc⟩ := Int.eq_ofNat_of_zero_le v1
      obtain ⟨p, hp⟩ := Int.eq_ofNat_of_zero_le v3
      have hU : (T.filter (atI l (isC c p))).Sublist (someL l c p) := sub_of_subset (hT.1.filter _) (someL_idx l c p).1 (fun i hi => by
        obtain ⟨h1, h2⟩ := List.mem_filter.1 hi
        exact List.mem_filter.2 ⟨by simpa using hT.2 i h1, h2⟩)
      have hF : Full (spI l (T.filter (atI l (isC c p)))) := full_mono (fun s hs => by
        obtain ⟨y, hy, rfl⟩ := List.mem_map.1 hs
        obtain ⟨hy1, hy2⟩ := List.mem_filter.1 hy
        obtain ⟨k, hk, hyk⟩ := pickR_mem.1 hy1
        refine List.mem_map.2 ⟨k, List.mem_filter.2 ⟨hk, atI_iff.2 ⟨y, hyk, ?_⟩⟩, hAt_eq hyk⟩
        simp [sameG] at hy2
        simp [isC]
        omega) g
      obtain ⟨e1, e2⟩ := coverL_spec l (someL l c p) (someL_idx l c p).1
      have hne : coverL l (someL l c p) ≠ [] := fun e => e1 e _ hU hF
      refine ⟨coverL l (someL l c p), List.mem_cons_of_mem _ (List.mem_flatMap.2 ⟨c, by simp; omega, List.mem_map.2 ⟨p, by simp; omega, rfl⟩⟩), hne, ?_⟩
      exact leO_trans ((e2 hne).2.2 _ hU hF) (leO_sub List.filter_sublist)
  have fin : ∀ T, Idx l.length T → Con (pickR l T) → reasonL nC nA l ≠ [] ∧ leO (reasonL nC nA l) T := fun T hT hc => by
    obtain ⟨c, h1, h2, h3⟩ := key T hT hc
    refine ⟨fun e => h2 ?_, leO_trans (b3 c h1 h2) h3⟩
    obtain ⟨a1, a2⟩ := b1 e
    rcases List.mem_cons.1 h1 with rfl | h1
    · exact a1
    · exact a2 c h1
  refine ⟨fun e hc => ?_, fun hne => ?_, fin⟩
  · refine (fin (List.range l.length) ⟨List.pairwise_lt_range, fun i hi => by simpa using hi⟩ (con_mono (fun x hx => ?_) hc)).1 e
    obtain ⟨i, hi, rfl⟩ := List.mem_iff_getElem.1 hx
    exact pickR_mem.2 ⟨i, by simpa using hi, by simp⟩
  · rcases b2 with h | h
    · rw [h] at hne ⊢
      cases hf : firstP l with
      | none => simp [pairS, hf] at hne
      | some z =>
        obtain ⟨z1, z2, z3, -⟩ := pair_first hf
        simp only [pairS, hf]
        refine ⟨⟨by simp [z2], fun i hi => by simp at hi; omega⟩, .inl ?_⟩
        obtain ⟨x, hx, g⟩ := atI_iff.1 z1
        obtain ⟨y, hy, g⟩ := atI_iff.1 g
        exact ⟨x, pickR_mem.2 ⟨z.1, by simp, hx⟩, y, pickR_mem.2 ⟨z.2, by simp, hy⟩, g⟩
    · obtain ⟨c, -, h⟩ := List.mem_flatMap.1 h
      obtain ⟨p, -, h⟩ := List.mem_map.1 h
      rw [← h] at hne ⊢
      obtain ⟨e1, e2⟩ := coverL_spec l (someL l c p) (someL_idx l c p).1
      obtain ⟨f1, f2, -⟩ := e2 hne
      exact ⟨idx_sub f1 (someL_idx l c p), con_of_cover f1 f2⟩
end Go.Proofs.Ytmgpbjpohbpgpaa
