/- Spending, in plain Lean: step by step. -/
import Derived.Test.YtafglcalimcdcaaL
set_option linter.unusedSimpArgs false
set_option linter.unusedVariables false
namespace Go.Proofs.Ytafglcalimcdcaa
/-- Where the spending of m minutes of an airline has come to: the minutes left. -/
def spendM : List Cr → Int → Int → Int → Int
  | [], _, m, _ => m
  | c :: l, al, m, now => if hasC al now c then spendM l al (m - min m c.m) now else spendM l al m now
theorem spendX_snoc (al now : Int) : ∀ (l : List Cr) (m : Int) (x : Cr), spendX (l ++ [x]) al m now = spendX l al m now ++ [if hasC al now x then ⟨x.a, x.m - min (spendM l al m now) x.m, x.u⟩ else x]
  | [], m, x => by simp only [List.nil_append, spendX, spendM]; split <;> rfl
  | c :: l, m, x => by
    simp only [List.cons_append, spendX, spendM]
    split
    · rw [spendX_snoc al now l, List.cons_append]
    · rw [spendX_snoc al now l, List.cons_append]
theorem spendM_snoc (al now : Int) : ∀ (l : List Cr) (m : Int) (x : Cr), spendM (l ++ [x]) al m now = if hasC al now x then spendM l al m now - min (spendM l al m now) x.m else spendM l al m now
  | [], m, x => by simp only [List.nil_append, spendM]
  | c :: l, m, x => by
    simp only [List.cons_append, spendM]
    split
    · rw [spendM_snoc al now l]
    · rw [spendM_snoc al now l]
theorem spendX_len (al now : Int) : ∀ (l : List Cr) (m : Int), (spendX l al m now).length = l.length
  | [], m => rfl
  | c :: l, m => by simp only [spendX]; split <;> simp [spendX_len al now l]
section
variable {l : List Cr} {al now : Int}
/-- What the loop does, whatever it is handed: the list and the minutes. -/
def subC (x : Cr) (n : Int) : Cr := ⟨x.a, x.m - n, x.u⟩
def stepW (s : List Cr × Int) (p : WC l al now) : List Cr × Int := (s.1.set p.1.1 (subC ((s.1[p.1.1]?).getD p.1.2) (min s.2 p.1.2.m)), s.2 - min s.2 p.1.2.m)
def runW (mi : Int) (pre : List (WC l al now)) : List Cr × Int := pre.foldl stepW (l, mi)
theorem runW_snoc (mi : Int) (pre : List (WC l al now)) (p : WC l al now) : runW mi (pre ++ [p]) = stepW (runW mi pre) p := by unfold runW; rw [List.foldl_append]; rfl
theorem snoc_ind {α : Type} {P : List α → Prop} (h0 : P []) (h1 : ∀ l x, P l → P (l ++ [x])) : ∀ l, P l := by
  intro l
  rw [← List.reverse_reverse l]
  induction l.reverse with
  | nil => exact h0
  | cons x xs ih => rw [List.reverse_cons]; exact h1 _ _ ih
theorem runW_ok {mi : Int} (h0 : 0 ≤ mi) (hf : ∀ c ∈ l, 1 ≤ c.m ∧ c.m ≤ 1440) (pre : List (WC l al now)) :
    (runW mi pre).1.length = l.length ∧ (0 ≤ (runW mi pre).2 ∧ (runW mi pre).2 ≤ mi) ∧ ∀ c ∈ (runW mi pre).1, -1440 * (pre.length : Int) ≤ c.m ∧ c.m ≤ 1440 := by
  refine snoc_ind (P := fun pre => (runW mi pre).1.length = l.length ∧ (0 ≤ (runW mi pre).2 ∧ (runW mi pre).2 ≤ mi) ∧ ∀ c ∈ (runW mi pre).1, -1440 * (pre.length : Int) ≤ c.m ∧ c.m ≤ 1440) ?_ ?_ pre
  · exact ⟨rfl, ⟨h0, Int.le_refl _⟩, fun c hc => by have := hf c hc; simp; omega⟩
  · intro pre p ⟨h1, ⟨h2, h3⟩, h4⟩
    rw [runW_snoc]
    have hp := hf p.1.2 (List.mem_of_getElem? p.2.1)
    have hlt : p.1.1 < l.length := (List.getElem?_eq_some_iff.1 p.2.1).1
    generalize runW mi pre = s at *
    obtain ⟨xs, m⟩ := s
    simp only at h1 h2 h3 h4
    unfold stepW
    simp only [List.length_set, List.length_append, List.length_cons, List.length_nil]
    refine ⟨h1, by omega, fun c hc => ?_⟩
    rcases List.mem_or_eq_of_mem_set hc with hc | rfl
    · have := h4 c hc; omega
    · have hx : xs[p.1.1]? = some (xs[p.1.1]'(by omega)) := List.getElem?_eq_getElem (by omega)
      have := h4 _ (List.mem_of_getElem? hx)
      rw [hx]
      simp only [Option.getD_some, subC]
      omega
theorem set_app {α : Type} (X Y : List α) (y : α) (z : α) : (X ++ z :: Y).set X.length y = X ++ y :: Y := by
  rw [List.set_append_right _ _ (Nat.le_refl _), Nat.sub_self]; rfl
theorem runW_hits (mi : Int) : ∀ q, q ≤ l.length → runW mi (hitsW l al now q) = (spendX (l.take q) al mi now ++ l.drop q, spendM (l.take q) al mi now)
  | 0, _ => by simp [hitsW, runW, spendX, spendM]
  | q + 1, h => by
    have ih := runW_hits mi q (by omega)
    have hx : l[q]? = some l[q] := List.getElem?_eq_getElem (by omega)
    have hd : l.drop q = l[q] :: l.drop (q + 1) := List.drop_eq_getElem_cons (by omega)
    have hl : (spendX (l.take q) al mi now).length = q := by rw [spendX_len, List.length_take]; omega
    rw [take_next hx, spendX_snoc, spendM_snoc]
    by_cases hc : hasC al now l[q] = true
    · rw [hits_yes hx hc, runW_snoc, ih, if_pos hc, if_pos hc]
      unfold stepW
      simp only
      rw [hd]
      have hg : (spendX (l.take q) al mi now ++ l[q] :: l.drop (q + 1))[q]? = some l[q] := by
        rw [List.getElem?_append_right (by omega), hl, Nat.sub_self]; rfl
      rw [hg]
      have hs := set_app (spendX (l.take q) al mi now) (l.drop (q + 1)) (subC l[q] (min (spendM (l.take q) al mi now) l[q].m)) l[q]
      rw [hl] at hs
      simp only [Option.getD_some]
      rw [hs, List.append_assoc]
      rfl
    · rw [hits_no hx hc, ih, if_neg hc, if_neg hc, hd, List.append_assoc]; rfl
theorem runW_all (mi : Int) : (runW mi (hitsW l al now l.length)).1 = spendX l al mi now := by
  rw [runW_hits mi l.length (Nat.le_refl _)]; simp
end
theorem spend_bad {l : List Cr} {al mi now : Int} (h : (okC l && decide (0 ≤ mi) && decide (mi ≤ balL l al now)) = false) : spendE l al mi now = 390 ∧ spendL l al mi now = [] := by
  have he : spendE l al mi now = 390 := by unfold spendE; rw [h]; rfl
  exact ⟨he, by unfold spendL; rw [if_neg (by rw [he]; decide)]⟩
theorem spend_good {l : List Cr} {al mi now : Int} (h1 : okC l = true) (h2 : 0 ≤ mi) (h3 : mi ≤ balL l al now) : spendE l al mi now = 0 ∧ spendL l al mi now = (spendX l al mi now).filter (fun c => !decide (c.m = 0)) := by
  have he : spendE l al mi now = 0 := by unfold spendE; rw [h1]; simp [h2, h3]
  exact ⟨he, by unfold spendL; rw [if_pos he]⟩
end Go.Proofs.Ytafglcalimcdcaa
