/- Earning twice, and spending what was earned: plain Lean. -/
import Derived.Test.YtafglcalimcdcaaPl
import Derived.Test.YtafglcalimcdcaaPs
set_option linter.unusedSimpArgs false
set_option linter.unusedVariables false
namespace Go.Proofs.Ytafglcalimcdcaa
def sk (k x : Cr) : Bool := decide (x.a = k.a ∧ x.u = k.u)
/-- The minutes under a key (airline, hour). -/
def val (l : List Cr) (k : Cr) : Int := ((l.find? (sk k)).map (·.m)).getD 0
theorem sk_iff {k x : Cr} : sk k x = true ↔ x.a = k.a ∧ x.u = k.u := by unfold sk; simp
theorem sk_no {k x : Cr} (h : ¬ (x.a = k.a ∧ x.u = k.u)) : sk k x = false := by unfold sk; simpa using h
theorem cut_ex {c : Cr} : ∀ {l : List Cr}, l.Pairwise (fun x y => bef x y = true) → ∃ k, CutAt (fun x => bef x c) l k
  | [], _ => ⟨0, Nat.le_refl _, fun q x h => absurd h (Nat.not_lt_zero _), fun q x _ hx => by simp at hx⟩
  | x :: r, h => by
    obtain ⟨h1, h2⟩ := List.pairwise_cons.1 h
    cases hb : bef x c with
    | true =>
      obtain ⟨k, k1, k2, k3⟩ := cut_ex (c := c) h2
      refine ⟨k + 1, by simp; omega, fun q y hq hy => ?_, fun q y hq hy => ?_⟩
      · cases q with
        | zero => obtain rfl : x = y := by simpa using hy
                  exact hb
        | succ q => exact k2 q y (by omega) (by simpa using hy)
      · cases q with
        | zero => omega
        | succ q => exact k3 q y (by omega) (by simpa using hy)
    | false =>
      refine ⟨0, Nat.zero_le _, fun q y hq => absurd hq (Nat.not_lt_zero _), fun q y _ hy => ?_⟩
      cases q with
      | zero => obtain rfl : x = y := by simpa using hy
                exact hb
      | succ q =>
        have hy' : y ∈ r := List.mem_of_getElem? (by simpa using hy)
        have h3 := h1 y hy'
        show bef y c = false
        cases h4 : bef y c with
        | false => rfl
        | true => rw [bef_trans h3 h4] at hb; cases hb
section
variable {l : List Cr} {c x : Cr} {k : Nat}
theorem take_none {key : Cr} (h : CutAt (fun x => bef x c) l k) (hk : key.a = c.a ∧ key.u = c.u) : (l.take k).find? (sk key) = none := by
  rw [List.find?_eq_none]
  intro y hy
  obtain ⟨q, hq, rfl⟩ := List.getElem_of_mem hy
  rw [List.length_take] at hq
  have h1 := h.2.1 q (l.take k)[q] (by omega) (by rw [List.getElem_take]; exact List.getElem?_eq_getElem (by omega))
  have h2 := bef_iff.1 h1
  rw [sk_iff]
  omega
theorem drop_bef (ho : OkC l) (h : CutAt (fun x => bef x c) l k) (hn : ¬ ∃ x, l[k]? = some x ∧ bef c x = false) : ∀ y ∈ l.drop k, bef c y = true := by
  intro y hy
  obtain ⟨q, hq, rfl⟩ := List.getElem_of_mem hy
  rw [List.length_drop] at hq
  have hk : k < l.length := by omega
  have h0 : bef c l[k] = true := by
    cases hb : bef c l[k] with
    | true => rfl
    | false => exact absurd ⟨l[k], List.getElem?_eq_getElem hk, hb⟩ hn
  rw [List.getElem_drop]
  by_cases hz : q = 0
  · subst hz; exact h0
  · exact bef_trans h0 (List.pairwise_iff_getElem.1 ho.2 k (k + q) hk (by omega) (by omega))
theorem split_cut (hx : l[k]? = some x) : l = l.take k ++ x :: l.drop (k + 1) := by
  have hlt := (List.getElem?_eq_some_iff.1 hx).1
  have : l.drop k = x :: l.drop (k + 1) := by rw [List.drop_eq_getElem_cons hlt]; rw [(List.getElem?_eq_some_iff.1 hx).2]
  rw [← this, List.take_append_drop]
/-- Whether and what is earned, by the minutes under the key. -/
theorem earn_char (ho : OkC l) (hf : fitC c = true) :
    (fitC ⟨c.a, val l c + c.m, c.u⟩ = true ∧ earnE l c = 0 ∧ OkC (earnL l c) ∧ ∀ key, val (earnL l c) key = if key.a = c.a ∧ key.u = c.u then val l c + c.m else val l key) ∨
    (fitC ⟨c.a, val l c + c.m, c.u⟩ = false ∧ earnE l c = 390) := by
  obtain ⟨k, h⟩ := cut_ex (c := c) ho.2
  have hok := ok_iff.2 ho
  by_cases hn : ∃ x, l[k]? = some x ∧ bef c x = false
  · obtain ⟨x, hx, hb⟩ := hn
    have hs := cut_same h hx hb
    have hl := split_cut hx
    have hv : val l c = x.m := by
      unfold val
      rw [hl, List.find?_append, take_none h ⟨rfl, rfl⟩, Option.none_or, List.find?_cons_of_pos (sk_iff.2 hs)]; rfl
    rw [hv, show (⟨c.a, x.m + c.m, c.u⟩ : Cr) = sumC c x from rfl]
    cases hfs : fitC (sumC c x) with
    | false => exact .inr ⟨rfl, (earn_over hok hf h hx hb hfs).1⟩
    | true =>
      obtain ⟨e1, e2⟩ := earn_sum hok hf h hx hb hfs
      refine .inl ⟨rfl, e1, ?_, fun key => ?_⟩
      · rw [e2]
        have h1 := ho.1
        have h2 := ho.2
        rw [hl] at h1 h2
        obtain ⟨p1, p2, p3⟩ := List.pairwise_append.1 h2
        obtain ⟨p4, p5⟩ := List.pairwise_cons.1 p2
        refine ⟨fun y hy => ?_, List.pairwise_append.2 ⟨p1, List.pairwise_cons.2 ⟨fun y hy => ?_, p5⟩, fun y hy z hz => ?_⟩⟩
        · rcases List.mem_append.1 hy with hy | hy
          · exact h1 y (List.mem_append_left _ hy)
          · rcases List.mem_cons.1 hy with rfl | hy
            · exact hfs
            · exact h1 y (List.mem_append_right _ (List.mem_cons_of_mem _ hy))
        · have := bef_iff.1 (p4 y hy); rw [bef_iff]; unfold sumC; simp only; omega
        · rcases List.mem_cons.1 hz with rfl | hz
          · have := bef_iff.1 (p3 y hy x List.mem_cons_self); rw [bef_iff]; unfold sumC; simp only; omega
          · exact p3 y hy z (List.mem_cons_of_mem _ hz)
      · rw [e2]
        by_cases hk : key.a = c.a ∧ key.u = c.u
        · rw [if_pos hk]
          unfold val
          rw [List.find?_append, take_none h hk, Option.none_or, List.find?_cons_of_pos (show sk key (sumC c x) = true from sk_iff.2 ⟨hk.1.symm, hk.2.symm⟩)]; rfl
        · rw [if_neg hk]
          unfold val
          conv => rhs; rw [hl]
          rw [List.find?_append, List.find?_append, List.find?_cons_of_neg (by rw [sk_no (by unfold sumC; simp only; omega)]; decide), List.find?_cons_of_neg (by rw [sk_no (by omega)]; decide)]
  · have hd := drop_bef ho h hn
    have hdn : ∀ key : Cr, key.a = c.a ∧ key.u = c.u → (l.drop k).find? (sk key) = none := fun key hk => by
      rw [List.find?_eq_none]
      intro y hy
      have := bef_iff.1 (hd y hy)
      rw [sk_iff]; omega
    have hv : val l c = 0 := by
      unfold val
      rw [← List.take_append_drop k l, List.find?_append, take_none h ⟨rfl, rfl⟩, hdn c ⟨rfl, rfl⟩]; rfl
    obtain ⟨e1, e2⟩ := earn_new hok hf h hn
    refine .inl ⟨by rw [hv, Int.zero_add]; exact hf, e1, ?_, fun key => ?_⟩
    · rw [e2]
      have h1 := ho.1
      have h2 := ho.2
      rw [← List.take_append_drop k l] at h1 h2
      obtain ⟨p1, p2, p3⟩ := List.pairwise_append.1 h2
      refine ⟨fun y hy => ?_, List.pairwise_append.2 ⟨p1, List.pairwise_cons.2 ⟨hd, p2⟩, fun y hy z hz => ?_⟩⟩
      · rcases List.mem_append.1 hy with hy | hy
        · exact h1 y (List.mem_append_left _ hy)
        · rcases List.mem_cons.1 hy with rfl | hy
          · exact hf
          · exact h1 y (List.mem_append_right _ hy)
      · rcases List.mem_cons.1 hz with rfl | hz
        · obtain ⟨q, hq, rfl⟩ := List.getElem_of_mem hy
          rw [List.length_take] at hq
          exact h.2.1 q _ (by omega) (by rw [List.getElem_take]; exact List.getElem?_eq_getElem (by omega))
        · exact p3 y hy z hz
    · rw [e2]
      by_cases hk : key.a = c.a ∧ key.u = c.u
      · rw [if_pos hk, hv]
        unfold val
        rw [List.find?_append, take_none h hk, Option.none_or, List.find?_cons_of_pos (sk_iff.2 ⟨hk.1.symm, hk.2.symm⟩)]; simp
      · rw [if_neg hk]
        unfold val
        conv => rhs; rw [← List.take_append_drop k l]
        rw [List.find?_append, List.find?_append, List.find?_cons_of_neg (by rw [sk_no (by omega)]; decide)]
theorem earn_zero (h : earnE l c = 0) : OkC l ∧ fitC c = true := by
  unfold earnE at h
  split at h
  · rename_i h1
    have h1 := Bool.and_eq_true_iff.1 h1
    exact ⟨ok_iff.1 h1.1, h1.2⟩
  · cases h
theorem earn_not (h : ¬ earnE l c = 0) : earnE l c = 390 ∧ earnL l c = [] := by
  have he : earnE l c = 390 := by
    unfold earnE at h ⊢
    split
    · rename_i h1
      rw [if_pos h1] at h
      split
      · rename_i h2; rw [h2] at h; exact absurd rfl h
      · rename_i y h2
        rw [h2] at h
        simp only at h ⊢
        split
        · rename_i h3; rw [if_pos h3] at h; exact absurd rfl h
        · rfl
    · rfl
  exact ⟨he, by unfold earnL; rw [if_neg h]⟩
end
theorem val_mem {l : List Cr} {z : Cr} (ho : OkC l) (hz : z ∈ l) : val l z = z.m := by
  unfold val
  cases hf : l.find? (sk z) with
  | none => exact absurd (sk_iff.2 ⟨rfl, rfl⟩) (by simpa using List.find?_eq_none.1 hf z hz)
  | some y =>
    have h1 := sk_iff.1 (List.find?_some hf)
    have hy := List.mem_of_find?_eq_some hf
    obtain ⟨i, hi, rfl⟩ := List.getElem_of_mem hy
    obtain ⟨j, hj, rfl⟩ := List.getElem_of_mem hz
    have : i = j := by
      rcases Nat.lt_trichotomy i j with h | h | h
      · have := bef_iff.1 (List.pairwise_iff_getElem.1 ho.2 i j hi hj h); omega
      · exact h
      · have := bef_iff.1 (List.pairwise_iff_getElem.1 ho.2 j i hj hi h); omega
    subst this
    rfl
theorem val_ext {l r : List Cr} (h1 : OkC l) (h2 : OkC r) (h : ∀ k, val l k = val r k) : l = r := by
  have key : ∀ {l r : List Cr}, OkC l → OkC r → (∀ k, val l k = val r k) → ∀ z, z ∈ l → z ∈ r := fun {l r} h1 h2 h z hz => by
    have e := val_mem h1 hz
    have hm := (fit_iff.1 (h1.1 z hz)).2.1
    rw [h z] at e
    unfold val at e
    cases hf : r.find? (sk z) with
    | none => rw [hf] at e; simp at e; omega
    | some y =>
      rw [hf] at e
      have e2 : y.m = z.m := by simpa using e
      have h3 := sk_iff.1 (List.find?_some hf)
      have : y = z := by cases y; cases z; simp_all
      rw [← this]; exact List.mem_of_find?_eq_some hf
  exact pw_ext (R := fun x y : Cr => bef x y = true) bef_irr (fun x y z => bef_trans) _ _ h1.2 h2.2 fun z => ⟨key h1 h2 h z, key h2 h1 (fun k => (h k).symm) z⟩
/-- The order of earning has no effect. -/
theorem earn_comm {l : List Cr} {a b : Cr} (ha : earnE l a = 0) (hb : earnE l b = 0) : earnE (earnL l a) b = earnE (earnL l b) a ∧ earnL (earnL l a) b = earnL (earnL l b) a := by
  obtain ⟨ho, fa⟩ := earn_zero ha
  obtain ⟨-, fb⟩ := earn_zero hb
  obtain ⟨a1, -, a2, a3⟩ : _ ∧ _ ∧ _ ∧ _ := (earn_char ho fa).resolve_right (fun h => by rw [ha] at h; cases h.2)
  obtain ⟨b1, -, b2, b3⟩ : _ ∧ _ ∧ _ ∧ _ := (earn_char ho fb).resolve_right (fun h => by rw [hb] at h; cases h.2)
  have key : fitC ⟨b.a, val (earnL l a) b + b.m, b.u⟩ = fitC ⟨a.a, val (earnL l b) a + a.m, a.u⟩ := by
    rw [a3, b3]
    by_cases hk : b.a = a.a ∧ b.u = a.u
    · rw [if_pos hk, if_pos ⟨hk.1.symm, hk.2.symm⟩]
      have hv : val l b = val l a := by unfold val sk; rw [hk.1, hk.2]
      rw [hv, hk.1, hk.2, Int.add_right_comm]
    · rw [if_neg hk, if_neg (fun h => hk ⟨h.1.symm, h.2.symm⟩), a1, b1]
  rcases earn_char a2 fb with ⟨c1, c2, c3, c4⟩ | ⟨c1, c2⟩
  · rcases earn_char b2 fa with ⟨d1, d2, d3, d4⟩ | ⟨d1, d2⟩
    · refine ⟨c2.trans d2.symm, val_ext c3 d3 fun k => ?_⟩
      rw [c4, d4, a3 b, a3 k, b3 a, b3 k]
      by_cases hk : b.a = a.a ∧ b.u = a.u
      · have hv : val l b = val l a := by unfold val sk; rw [hk.1, hk.2]
        have hab : a.a = b.a ∧ a.u = b.u := ⟨hk.1.symm, hk.2.symm⟩
        by_cases h1 : k.a = a.a ∧ k.u = a.u
        · have h2 : k.a = b.a ∧ k.u = b.u := ⟨h1.1.trans hab.1, h1.2.trans hab.2⟩
          rw [if_pos h2, if_pos hk, if_pos h1, if_pos hab, hv]; omega
        · have h2 : ¬ (k.a = b.a ∧ k.u = b.u) := fun h => h1 ⟨h.1.trans hk.1, h.2.trans hk.2⟩
          rw [if_neg h2, if_neg h1, if_neg h1, if_neg h2]
      · have hab : ¬ (a.a = b.a ∧ a.u = b.u) := fun h => hk ⟨h.1.symm, h.2.symm⟩
        by_cases h1 : k.a = b.a ∧ k.u = b.u
        · have h2 : ¬ (k.a = a.a ∧ k.u = a.u) := fun h => hk ⟨h1.1.symm.trans h.1, h1.2.symm.trans h.2⟩
          rw [if_pos h1, if_neg hk, if_neg h2, if_pos h1]
        · rw [if_neg h1, if_neg hab, if_neg h1]
    · rw [key, d1] at c1; cases c1
  · rcases earn_char b2 fa with ⟨d1, d2, d3, d4⟩ | ⟨d1, d2⟩
    · rw [key, d1] at c1; cases c1
    · have e1 := earn_not (l := earnL l a) (c := b) (by rw [c2]; decide)
      have e2 := earn_not (l := earnL l b) (c := a) (by rw [d2]; decide)
      exact ⟨c2.trans d2.symm, e1.2.trans e2.2.symm⟩
/-! Spending what was earned. -/
theorem bal_pos {al now : Int} : ∀ {l : List Cr}, (∀ c ∈ l, 1 ≤ c.m) → balL l al now ≤ 0 → ∀ c ∈ l, hasC al now c = false
  | [], _, _ => by simp
  | x :: r, h, hb => by
    have hr : ∀ {l : List Cr}, (∀ c ∈ l, 1 ≤ c.m) → 0 ≤ balL l al now := by
      intro l
      induction l with
      | nil => intro _; exact Int.le_refl _
      | cons y s ih => intro h; have h1 := ih (fun c hc => h c (List.mem_cons_of_mem _ hc)); have h2 := h y List.mem_cons_self; simp only [balL]; split <;> omega
    have h1 := hr (fun c hc => h c (List.mem_cons_of_mem _ hc))
    have h2 := h x List.mem_cons_self
    simp only [balL] at hb
    have hx : hasC al now x = false := by
      cases hh : hasC al now x with
      | false => rfl
      | true => rw [hh, if_pos rfl] at hb; omega
    rw [hx] at hb
    simp only [Bool.false_eq_true, if_false, Int.zero_add] at hb
    intro c hc
    rcases List.mem_cons.1 hc with rfl | hc
    · exact hx
    · exact bal_pos (fun c hc => h c (List.mem_cons_of_mem _ hc)) hb c hc
theorem bal_none {al now : Int} : ∀ {l : List Cr}, (∀ c ∈ l, hasC al now c = false) → balL l al now = 0
  | [], _ => rfl
  | x :: r, h => by simp only [balL, h x List.mem_cons_self, bal_none (fun c hc => h c (List.mem_cons_of_mem _ hc))]; rfl
theorem bal_one {al now : Int} {a : Cr} {r : List Cr} (ha : hasC al now a = true) (hr : ∀ c ∈ r, hasC al now c = false) : ∀ {p : List Cr}, (∀ c ∈ p, hasC al now c = false) → balL (p ++ a :: r) al now = a.m
  | [], _ => by simp only [List.nil_append, balL, ha, if_true, bal_none hr, Int.add_zero]
  | x :: p, h => by
    have ih := bal_one ha hr (p := p) (fun c hc => h c (List.mem_cons_of_mem _ hc))
    simp only [List.cons_append, balL, h x List.mem_cons_self, ih, Bool.false_eq_true, if_false, Int.zero_add]
theorem spend_none {al now : Int} : ∀ {l : List Cr} (m : Int), (∀ c ∈ l, hasC al now c = false) → spendX l al m now = l
  | [], _, _ => rfl
  | x :: r, m, h => by simp only [spendX, h x List.mem_cons_self, Bool.false_eq_true, if_false]; rw [spend_none m (fun c hc => h c (List.mem_cons_of_mem _ hc))]
theorem spend_one {al now : Int} {a : Cr} {r : List Cr} (ha : hasC al now a = true) (hr : ∀ c ∈ r, hasC al now c = false) : ∀ {p : List Cr}, (∀ c ∈ p, hasC al now c = false) → spendX (p ++ a :: r) al a.m now = p ++ ⟨a.a, 0, a.u⟩ :: r
  | [], _ => by
    simp only [List.nil_append, spendX, ha, if_true]
    rw [spend_none _ hr, Int.min_self, Int.sub_self]
  | x :: p, h => by
    simp only [List.cons_append, spendX, h x List.mem_cons_self, Bool.false_eq_true, if_false]
    rw [spend_one ha hr (fun c hc => h c (List.mem_cons_of_mem _ hc))]
theorem keep_all {l : List Cr} (h : ∀ c ∈ l, 1 ≤ c.m) : l.filter (fun c => !decide (c.m = 0)) = l := by
  rw [List.filter_eq_self]; intro c hc; have := h c hc; simp; omega
theorem spend_back {l : List Cr} {a : Cr} (ha : earnE l a = 0) (hb : balL l a.a 0 ≤ 0) : spendE (earnL l a) a.a a.m 0 = 0 ∧ spendL (earnL l a) a.a a.m 0 = l := by
  obtain ⟨ho, fa⟩ := earn_zero ha
  have hfa := fit_iff.1 fa
  obtain ⟨k, h⟩ := cut_ex (c := a) ho.2
  have hm : ∀ c ∈ l, 1 ≤ c.m := fun c hc => (fit_iff.1 (ho.1 c hc)).2.1.1
  have hno := bal_pos hm hb
  have hn : ¬ ∃ x, l[k]? = some x ∧ bef a x = false := by
    rintro ⟨x, hx, hbx⟩
    have h1 := cut_same h hx hbx
    have h2 := hno x (List.mem_of_getElem? hx)
    rw [show hasC a.a 0 x = true from by unfold hasC; simp; omega] at h2
    cases h2
  obtain ⟨-, e2⟩ := earn_new (ok_iff.2 ho) fa h hn
  have hok : OkC (earnL l a) := by
    rcases earn_char ho fa with h | h
    · exact h.2.2.1
    · rw [ha] at h; cases h.2
  have haa : hasC a.a 0 a = true := by unfold hasC; simp; omega
  have h1 : ∀ c ∈ l.take k, hasC a.a 0 c = false := fun c hc => hno c (List.mem_of_mem_take hc)
  have h2 : ∀ c ∈ l.drop k, hasC a.a 0 c = false := fun c hc => hno c (List.mem_of_mem_drop hc)
  have hbal : balL (earnL l a) a.a 0 = a.m := by rw [e2]; exact bal_one haa h2 h1
  obtain ⟨g1, g2⟩ := spend_good (al := a.a) (mi := a.m) (now := 0) (ok_iff.2 hok) (by omega) (by rw [hbal]; exact Int.le_refl _)
  refine ⟨g1, ?_⟩
  rw [g2, e2, spend_one haa h2 h1, List.filter_append, keep_all (fun c hc => hm c (List.mem_of_mem_take hc)), List.filter_cons_of_neg (by simp), keep_all (fun c hc => hm c (List.mem_of_mem_drop hc)), List.take_append_drop]
theorem earn_len (l : List Cr) (c : Cr) : (earnL l c).length ≤ l.length + 1 := by
  unfold earnL
  split
  · split
    · rw [ins_len]; exact Nat.le_refl _
    · have := congrArg List.length (List.takeWhile_append_dropWhile (p := fun x => bef x c) (l := l))
      simp only [List.length_append, List.length_cons, List.length_drop] at this ⊢
      omega
  · simp
theorem fewc_iff {l : List Cr} (h : fewC l = true) : SmC l ∧ l.length ≤ 40 := by
  unfold fewC at h
  have h := Bool.and_eq_true_iff.1 h
  exact ⟨fun c hc => by have := List.all_eq_true.1 h.1 c hc; simpa using this, by simpa using h.2⟩
theorem sm_earn {l : List Cr} {a : Cr} (ha : earnE l a = 0) : SmC (earnL l a) := by
  obtain ⟨ho, fa⟩ := earn_zero ha
  intro c hc
  rcases earn_char ho fa with h | h
  · have := (fit_iff.1 (h.2.2.1.1 c hc)).2.1; omega
  · rw [ha] at h; cases h.2
end Go.Proofs.Ytafglcalimcdcaa
