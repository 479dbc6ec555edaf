/- How many spans a cover needs at least, in plain Lean. -/
import Derived.Test.YtmgpbjpohbpgpaaHPlain
set_option linter.unusedSimpArgs false
set_option linter.unusedVariables false
namespace Go.Proofs.Ytmgpbjpohbpgpaa
/-- The first minute of the day that is in no span. -/
@[irreducible] def gap (L : List Sp) : Option Nat := (List.range 1440).find? (fun m => !inL L m)
def betS (p : Int) (b s : Sp) : Bool := decide (s.f ≤ p) && decide (max p b.t < s.t)
def bestS (p : Int) : Sp → List Sp → Sp
  | b, [] => b
  | b, s :: r => bestS p (if betS p b s then s else b) r
def needG (S : List Sp) : Nat → List Sp → Int → Int
  | 0, _, _ => -1
  | k + 1, L, n => match gap L with
    | none => n
    | some p => if (bestS p ⟨0, 0⟩ S).t = 0 then -1 else needG S k (L ++ [bestS p ⟨0, 0⟩ S]) (n + 1)
def need (c S : List Sp) : Int := needG S 1441 c 0
theorem gap_none {L : List Sp} : gap L = none ↔ ∀ m < 1440, inL L (m : Nat) = true := by
  unfold gap
  rw [List.find?_eq_none]
  simp
theorem gap_some {L : List Sp} {p : Nat} (h : gap L = some p) : p < 1440 ∧ inL L p = false ∧ ∀ m < p, inL L (m : Nat) = true := by
  unfold gap at h
  rw [List.find?_eq_some_iff_getElem] at h
  obtain ⟨h1, i, hi, h2, h3⟩ := h
  simp at hi h2
  subst h2
  refine ⟨hi, by simpa using h1, fun m hm => ?_⟩
  have := h3 m hm
  simpa using this
theorem norm_lo : ∀ (l : List Sp) (lo : Int), Norm lo l → ∀ m < lo, inL l m = false
  | [], _, _, _, _ => rfl
  | s :: r, lo, h, m, hm => by
    have ih := norm_lo r (s.t + 1) h.2.2.2 m (by have := h.1; have := h.2.1; omega)
    unfold inL at ih ⊢
    rw [List.any_cons, ih]
    have := h.1
    simp [inS]; omega
theorem rest_gap (L : List Sp) : match gap L with | none => nrm (mi [⟨0, 1440⟩] L) = [] | some p => ∃ s r, nrm (mi [⟨0, 1440⟩] L) = s :: r ∧ s.f = (p : Int) := by
  have hm : ∀ k : Nat, k < 1440 → mi [⟨0, 1440⟩] L k = !inL L k := fun k hk => by
    unfold mi; simp [inL, inS]; omega
  have hN := nrm_norm (mi [⟨0, 1440⟩] L)
  have hI := fun k hk => (nrm_in (mi [⟨0, 1440⟩] L) k hk).trans (hm k hk)
  cases hg : gap L with
  | none =>
    have h0 := gap_none.1 hg
    cases hl : nrm (mi [⟨0, 1440⟩] L) with
    | nil => rfl
    | cons s r =>
      exfalso
      rw [hl] at hN hI
      have h1 := hN.1
      have h2 := hN.2.1
      have h3 := hN.2.2.1
      have := hI s.f.toNat (by omega)
      rw [h0 _ (by omega)] at this
      have e : ((s.f.toNat : Nat) : Int) = s.f := by omega
      rw [e] at this
      simp [inL, inS] at this
      omega
  | some p =>
    obtain ⟨h1, h2, h3⟩ := gap_some hg
    cases hl : nrm (mi [⟨0, 1440⟩] L) with
    | nil =>
      rw [hl] at hI
      have := hI p h1
      rw [h2] at this
      simp [inL] at this
    | cons s r =>
      refine ⟨s, r, rfl, ?_⟩
      rw [hl] at hN hI
      have g1 := hN.1
      have g2 := hN.2.1
      have g3 := hN.2.2.1
      have a1 : p ≤ s.f.toNat := by
        rcases Nat.lt_or_ge s.f.toNat p with h | h
        · have := hI s.f.toNat (by omega)
          rw [h3 _ h] at this
          have e : ((s.f.toNat : Nat) : Int) = s.f := by omega
          rw [e] at this
          simp [inL, inS] at this
          omega
        · exact h
      have a2 : ¬ (p : Int) < s.f := fun h => by
        have := hI p h1
        rw [h2, show inL (s :: r) (p : Int) = false by
          have := norm_lo (s :: r) s.f ⟨Int.le_refl _, hN.2⟩ p h
          exact this] at this
        simp at this
      omega
/-- The best span: none, or one of those that begin by p and end behind it; no other one reaches farther. -/
theorem best_spec (p : Int) : ∀ (S : List Sp) (b : Sp), (bestS p b S = b ∨ (bestS p b S ∈ S ∧ (bestS p b S).f ≤ p ∧ p < (bestS p b S).t)) ∧ b.t ≤ (bestS p b S).t ∧ ∀ s ∈ S, s.f ≤ p → p < s.t → s.t ≤ (bestS p b S).t
  | [], b => ⟨.inl rfl, Int.le_refl _, fun s h => by simp at h⟩
  | s :: r, b => by
    obtain ⟨h1, h2, h3⟩ := best_spec p r (if betS p b s then s else b)
    rw [show bestS p b (s :: r) = bestS p (if betS p b s then s else b) r from rfl]
    by_cases hb : betS p b s = true
    · rw [if_pos hb] at h1 h2 h3 ⊢
      simp only [betS, Bool.and_eq_true, decide_eq_true_eq] at hb
      obtain ⟨x, hx⟩ : ∃ x, bestS p s r = x := ⟨_, rfl⟩
      rw [hx] at h1 h2 h3 ⊢
      refine ⟨.inr ?_, by omega, fun u hu hu1 hu2 => ?_⟩
      · rcases h1 with rfl | ⟨h1, h4, h5⟩
        · exact ⟨List.mem_cons_self .., by omega, by omega⟩
        · exact ⟨List.mem_cons_of_mem _ h1, h4, h5⟩
      · rcases List.mem_cons.1 hu with rfl | hu
        · exact h2
        · exact h3 u hu hu1 hu2
    · rw [if_neg hb] at h1 h2 h3 ⊢
      simp only [betS, Bool.and_eq_true, decide_eq_true_eq, not_and] at hb
      refine ⟨h1.imp id (fun ⟨a, c⟩ => ⟨List.mem_cons_of_mem _ a, c⟩), h2, fun u hu hu1 hu2 => ?_⟩
      rcases List.mem_cons.1 hu with rfl | hu
      · have := hb hu1; omega
      · exact h3 u hu hu1 hu2
theorem nodup_le : ∀ (n : Nat) (l : List Nat), l.Nodup → (∀ x ∈ l, x < n) → l.length ≤ n
  | 0, [], _, _ => Nat.le_refl _
  | 0, x :: _, _, h => absurd (h x (List.mem_cons_self ..)) (by omega)
  | n + 1, l, hd, h => by
    have h1 := nodup_le n (l.erase n) (hd.erase n) (fun x hx => by
      have := h x (List.mem_of_mem_erase hx)
      have : x ≠ n := fun e => by subst e; exact (List.Nodup.not_mem_erase hd) hx
      omega)
    have h2 := List.length_erase (a := n) (l := l)
    split at h2 <;> omega
/-- All minutes of the day are in the list. -/
def Full (L : List Sp) : Prop := ∀ m < 1440, inL L (m : Nat) = true
/-- So many minutes, none in c, no two of them in one span of S: a cover needs as many spans. -/
def Indep (c S : List Sp) (ps : List Nat) : Prop := ps.Pairwise (fun (a b : Nat) => ∀ s ∈ S, ¬ (inS s (a : Int) = true ∧ inS s (b : Int) = true)) ∧ ∀ p ∈ ps, p < 1440 ∧ inL c p = false
theorem inL_app (a b : List Sp) (m : Int) : inL (a ++ b) m = (inL a m || inL b m) := by simp [inL]
theorem indep_le {c S : List Sp} : ∀ (ps : List Nat) (T : List Sp), Indep c S ps → (∀ x ∈ T, x ∈ S) → (∀ p ∈ ps, inL (c ++ T) (p : Nat) = true) → ps.length ≤ T.length
  | [], T, _, _, _ => Nat.zero_le _
  | p :: ps, T, hi, hT, hc => by
    have h1 := hc p (List.mem_cons_self ..)
    rw [inL_app, (hi.2 p (List.mem_cons_self ..)).2, Bool.false_or] at h1
    obtain ⟨s, hs, hsp⟩ := List.any_eq_true.1 h1
    obtain ⟨A, B, rfl⟩ := List.append_of_mem hs
    have := indep_le ps (A ++ B) ⟨(List.pairwise_cons.1 hi.1).2, fun q hq => hi.2 q (List.mem_cons_of_mem _ hq)⟩ (fun x hx => hT x (by simp at hx ⊢; rcases hx with h | h; exact .inl h; exact .inr (.inr h))) (fun q hq => by
      have h2 := hc q (List.mem_cons_of_mem _ hq)
      have h3 := (List.pairwise_cons.1 hi.1).1 q hq s (hT s hs)
      have h4 : inS s q = false := by
        cases e : inS s (q : Int)
        · rfl
        · exact absurd ⟨hsp, e⟩ h3
      simp only [inL, List.any_append, List.any_cons, h4, Bool.false_or] at h2 ⊢
      exact h2)
    simp at this ⊢; omega
/-- What need says: c and some n spans of S cover the day, and fewer do not; or no spans of S do. -/
def NeedIs (c S : List Sp) (n : Int) : Prop := (∃ k : Nat, n = k ∧ (∃ T : List Sp, (∀ x ∈ T, x ∈ S) ∧ T.length = k ∧ Full (c ++ T)) ∧ ∀ T : List Sp, (∀ x ∈ T, x ∈ S) → Full (c ++ T) → k ≤ T.length) ∨ (n = -1 ∧ ∀ T : List Sp, (∀ x ∈ T, x ∈ S) → ¬ Full (c ++ T))
theorem needG_spec (c S : List Sp) : ∀ (k : Nat) (T : List Sp) (ps : List Nat), k + T.length = 1441 → ps.length = T.length → (∀ x ∈ T, x ∈ S) → Indep c S ps → (∀ m < T.length, inL (c ++ T) (m : Nat) = true) →
    (∀ p ∈ ps, ∀ q, gap (c ++ T) = some q → p < q ∧ ∀ s ∈ S, inS s p = true → s.t ≤ q) → NeedIs c S (needG S k (c ++ T) T.length)
  | 0, T, ps, hk, hp, hT, hi, hm, hq => by
    exfalso
    have : T.length = 1441 := by omega
    have hf : Full (c ++ T) := fun m hm' => hm m (by omega)
    -- the minutes found are 1441 in number, all of them below 1440, and they rise
    have h1 : ps.length ≤ 1440 := by
      have hnd : ps.Nodup := hi.1.imp_of_mem (fun {a b} ha hb h e => by
        subst e
        have h1 := hf a (hi.2 a ha).1
        rw [inL_app, (hi.2 a ha).2, Bool.false_or] at h1
        obtain ⟨s, hs, hsp⟩ := List.any_eq_true.1 h1
        exact h s (hT s hs) ⟨hsp, hsp⟩)
      exact nodup_le 1440 ps hnd (fun x hx => (hi.2 x hx).1)
    omega
  | k + 1, T, ps, hk, hp, hT, hi, hm, hq => by
    unfold needG
    cases hg : gap (c ++ T) with
    | none =>
      refine .inl ⟨T.length, rfl, ⟨T, hT, rfl, gap_none.1 hg⟩, fun T' hT' hf => ?_⟩
      rw [← hp]
      exact indep_le ps T' hi hT' (fun p hpp => hf p (hi.2 p hpp).1)
    | some q =>
      obtain ⟨g1, g2, g3⟩ := gap_some hg
      have hb := best_spec q S ⟨0, 0⟩
      obtain ⟨b, hbe⟩ : ∃ b, bestS q ⟨0, 0⟩ S = b := ⟨_, rfl⟩
      simp only [hbe] at hb ⊢
      obtain ⟨b1, b2, b3⟩ := hb
      have gc : inL c q = false := by
        rw [inL_app] at g2; simp at g2; exact g2.1
      by_cases h0 : b.t = 0
      · rw [if_pos h0]
        refine .inr ⟨rfl, fun T' hT' hf => ?_⟩
        have h1 := hf q g1
        rw [inL_app, gc, Bool.false_or] at h1
        obtain ⟨s, hs, hsp⟩ := List.any_eq_true.1 h1
        simp [inS] at hsp
        have := b3 s (hT' s hs) hsp.1 hsp.2
        omega
      · rw [if_neg h0]
        have b1' : b ∈ S ∧ b.f ≤ q ∧ (q : Int) < b.t := by
          rcases b1 with rfl | h
          · exact absurd rfl h0
          · exact h
        obtain ⟨c1, c2, c3⟩ := b1'
        have key : ∀ q', gap (c ++ (T ++ [b])) = some q' → (q : Int) < q' ∧ b.t ≤ q' := fun q' hq' => by
          obtain ⟨e1, e2, e3⟩ := gap_some hq'
          rw [← List.append_assoc, inL_app] at e2
          simp only [Bool.or_eq_false_iff] at e2
          have l1 : ¬ q' < q := fun h => by rw [g3 q' h] at e2; simp at e2
          have e4 : inS b q' = false := by simpa [inL] using e2.2
          simp [inS] at e4
          omega
        have := needG_spec c S k (T ++ [b]) (ps ++ [q]) (by simp; omega) (by simp [hp]) (fun x hx => by
            rcases List.mem_append.1 hx with h | h
            · exact hT x h
            · simp at h; exact h ▸ c1) ⟨by
              rw [List.pairwise_append]
              refine ⟨hi.1, List.pairwise_singleton _ _, fun a ha d hd s hs h => ?_⟩
              simp at hd
              subst hd
              have := (hq a ha _ hg).2 s hs h.1
              have h2 := h.2
              simp [inS] at h2
              omega, fun a ha => by
              rcases List.mem_append.1 ha with h | h
              · exact hi.2 a h
              · simp at h; subst h; exact ⟨g1, gc⟩⟩ (fun m hm' => by
              simp at hm'
              have hTq : T.length ≤ q := by
                rcases Nat.lt_or_ge q T.length with h | h
                · rw [hm q h] at g2; simp at g2
                · exact h
              rw [← List.append_assoc, inL_app]
              by_cases e : m = q
              · subst e; simp [inL, inS]; omega
              · rw [g3 m (by omega)]; rfl) (fun a ha q' hq' => by
              obtain ⟨d1, d2⟩ := key q' hq'
              rcases List.mem_append.1 ha with h | h
              · obtain ⟨f1, f2⟩ := hq a h _ hg
                exact ⟨by omega, fun s hs hsa => by have := f2 s hs hsa; omega⟩
              · simp at h
                subst h
                refine ⟨by omega, fun s hs hsa => ?_⟩
                simp [inS] at hsa
                have := b3 s hs hsa.1 hsa.2
                omega)
        rw [← List.append_assoc] at this
        simpa using this
theorem need_spec (c S : List Sp) : NeedIs c S (need c S) := by
  have := needG_spec c S 1441 [] [] (by simp) rfl (fun x h => by simp at h) ⟨List.Pairwise.nil, fun p h => by simp at h⟩ (fun m h => by simp at h) (fun p h => by simp at h)
  rw [List.append_nil] at this
  exact this
end Go.Proofs.Ytmgpbjpohbpgpaa
