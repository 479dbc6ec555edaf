/- Earning, in plain Lean: what is known at the place where a credit belongs. -/
import Derived.Test.YtafglcalimcdcaaPlain
set_option linter.unusedSimpArgs false
set_option linter.unusedVariables false
namespace Go.Proofs.Ytafglcalimcdcaa
section
variable {l : List Cr} {c x : Cr} {k : Nat}
theorem met_cut (h : CutAt (fun x => bef x c) l k) : met l c = match l[k]? with | none => none | some x => if bef c x then none else some x := by
  unfold met
  rw [← (cut_while l k h).2]
  cases hd : l.drop k with
  | nil =>
    have : l.length ≤ k := List.drop_eq_nil_iff.1 hd
    rw [List.getElem?_eq_none this]
  | cons y r =>
    have : l[k]? = some y := by
      have := congrArg (·[0]?) hd
      simpa using this
    rw [this]
theorem earn_bad (h : (okC l && fitC c) = false) : earnE l c = 390 ∧ earnL l c = [] := by
  have he : earnE l c = 390 := by unfold earnE; rw [h]; rfl
  exact ⟨he, by unfold earnL; rw [if_neg (by rw [he]; decide)]⟩
theorem earn_new (ho : okC l = true) (hf : fitC c = true) (h : CutAt (fun x => bef x c) l k) (hn : ¬ ∃ x, l[k]? = some x ∧ bef c x = false) : earnE l c = 0 ∧ earnL l c = l.take k ++ c :: l.drop k := by
  have hm : met l c = none := by
    rw [met_cut h]
    cases hx : l[k]? with
    | none => rfl
    | some x =>
      simp only
      cases hb : bef c x with
      | true => rfl
      | false => exact absurd ⟨x, hx, hb⟩ hn
  have he : earnE l c = 0 := by unfold earnE; rw [ho, hf, hm]; rfl
  exact ⟨he, by unfold earnL; rw [if_pos he, hm]; exact (ins_cut h c).symm⟩
theorem earn_sum (ho : okC l = true) (hf : fitC c = true) (h : CutAt (fun x => bef x c) l k) (hx : l[k]? = some x) (hb : bef c x = false) (hs : fitC (sumC c x) = true) : earnE l c = 0 ∧ earnL l c = l.take k ++ sumC c x :: l.drop (k + 1) := by
  have hm : met l c = some x := by rw [met_cut h, hx]; simp [hb]
  have he : earnE l c = 0 := by unfold earnE; rw [ho, hf, hm]; simp [hs]
  refine ⟨he, ?_⟩
  unfold earnL
  rw [if_pos he, hm, ← (cut_while l k h).1, ← (cut_while l k h).2, List.drop_drop]
theorem earn_over (ho : okC l = true) (hf : fitC c = true) (h : CutAt (fun x => bef x c) l k) (hx : l[k]? = some x) (hb : bef c x = false) (hs : fitC (sumC c x) = false) : earnE l c = 390 ∧ earnL l c = [] := by
  have hm : met l c = some x := by rw [met_cut h, hx]; simp [hb]
  have he : earnE l c = 390 := by unfold earnE; rw [ho, hf, hm]; simp [hs]
  exact ⟨he, by unfold earnL; rw [if_neg (by rw [he]; decide)]⟩
/-- The credit at that place is of the same airline and hour. -/
theorem cut_same (h : CutAt (fun x => bef x c) l k) (hx : l[k]? = some x) (hb : bef c x = false) : x.a = c.a ∧ x.u = c.u := bef_same (h.2.2 k x (Nat.le_refl _) hx) hb
theorem sum_eq (h : x.a = c.a ∧ x.u = c.u) : sumC c x = ⟨x.a, x.m + c.m, x.u⟩ := by unfold sumC; rw [h.1, h.2]
theorem set_cut (hx : l[k]? = some x) (y : Cr) : l.set k y = l.take k ++ y :: l.drop (k + 1) := by
  have := (List.getElem?_eq_some_iff.1 hx).1
  rw [List.set_eq_take_append_cons_drop, if_pos this]
theorem ok_fit (ho : okC l = true) (hx : l[k]? = some x) : fitC x = true := (ok_iff.1 ho).1 x (List.mem_of_getElem? hx)
end
end Go.Proofs.Ytafglcalimcdcaa
