/- What a valid list of clearances is, said plainly; the program's test says just that. No program in sight. -/
import Derived.Test.YtjebmcbpiobbaaaPlain
namespace Go.Proofs.Ytjebmcbpiobbaaa

structure Gd (l : List Clr) (i : Nat) (x : Clr) : Prop where
  no : x.no = i
  fl0 : 0 ≤ x.fl
  fl1 : x.fl ≤ 4095
  is0 : 0 ≤ x.iss
  is1 : x.iss < 1440
  fm : fmd x.o = true
  rw_ : (x.rd && x.wd) = false
  mono : ∀ y, 0 < i → l[i - 1]? = some y → y.iss ≤ x.iss
  one : ∀ j y, j < i → l[j]? = some y → y.fl = x.fl → y.wd = false → x.wd = true

def Valid (l : List Clr) : Prop := ∀ i x, l[i]? = some x → Gd l i x

theorem bad_false {i last : Int} {x : Clr} : bad i last x = false ↔ x.no = i ∧ 0 ≤ x.fl ∧ x.fl ≤ 4095 ∧ last ≤ x.iss ∧ x.iss < 1440 ∧ fmd x.o = true ∧ (x.rd && x.wd) = false := by
  simp only [bad, Bool.or_eq_false_iff, decide_eq_false_iff_not, Bool.not_eq_false']
  constructor
  · rintro ⟨⟨⟨⟨⟨⟨h1, h2⟩, h3⟩, h4⟩, h5⟩, h6⟩, h7⟩
    exact ⟨by simpa using h1, by omega, by omega, by omega, by omega, h6, h7⟩
  · rintro ⟨h1, h2, h3, h4, h5, h6, h7⟩
    exact ⟨⟨⟨⟨⟨⟨by simpa using h1, by omega⟩, by omega⟩, by omega⟩, by omega⟩, h6⟩, h7⟩

theorem chkGo_iff (l : List Clr) : ∀ (n k : Nat) (last : Int) (f : Int → Bool), l.length - k = n →
    (∀ y, l[k - 1]? = some y → 0 < k → y.iss = last) → (0 ≤ last) → (k = 0 → last = 0) →
    (∀ j, f j = true ↔ ∃ i y, i < k ∧ l[i]? = some y ∧ y.fl = j ∧ y.wd = false) →
    (chkGo k last f (l.drop k) = true ↔ ∀ i x, k ≤ i → l[i]? = some x → Gd l i x) := by
  intro n
  induction n with
  | zero =>
    intro k last f hk _ _ _ _
    have h0 : l.length ≤ k := by omega
    rw [List.drop_eq_nil_of_le h0]
    simp only [chkGo, true_iff]
    intro i x hi hx
    have := (List.getElem?_eq_some_iff.1 hx).1
    omega
  | succ n ih =>
    intro k last f hk hl h0 hk0 hf
    have hlt : k < l.length := by omega
    have hx : l[k]? = some l[k] := List.getElem?_eq_getElem hlt
    generalize l[k] = x at hx
    rw [drop_at hx]
    have hgd : ∀ {g : Prop}, (Gd l k x → (g ↔ ∀ i x, k + 1 ≤ i → l[i]? = some x → Gd l i x)) → (¬ Gd l k x → ¬ g) → (g ↔ ∀ i x, k ≤ i → l[i]? = some x → Gd l i x) := by
      intro g h1 h2
      by_cases hG : Gd l k x
      · rw [h1 hG]
        constructor
        · intro h i z hi hz
          rcases Nat.lt_or_ge k i with hlt | hge
          · exact h i z hlt hz
          · obtain rfl : i = k := by omega
            rw [hx] at hz; cases hz; exact hG
        · intro h i z hi hz; exact h i z (by omega) hz
      · constructor
        · intro h; exact absurd h (h2 hG)
        · intro h; exact absurd (h k x (Nat.le_refl _) hx) hG
    have hone : (∀ j y, j < k → l[j]? = some y → y.fl = x.fl → y.wd = false → x.wd = true) ↔ (f x.fl = true → x.wd = true) := by
      constructor
      · intro h hfx
        obtain ⟨i, y, hi, hy, hfl, hwd⟩ := (hf _).1 hfx
        exact h i y hi hy hfl hwd
      · intro h j y hj hy hfl hwd
        exact h ((hf _).2 ⟨j, y, hj, hy, hfl, hwd⟩)
    have hgiff : Gd l k x ↔ bad k last x = false ∧ (f x.fl = true → x.wd = true) := by
      rw [bad_false, ← hone]
      constructor
      · intro g
        refine ⟨⟨g.no, g.fl0, g.fl1, ?_, g.is1, g.fm, g.rw_⟩, g.one⟩
        rcases Nat.eq_zero_or_pos k with h | h
        · rw [hk0 h]; exact g.is0
        · have : k - 1 < l.length := by omega
          have hy : l[k-1]? = some l[k-1] := List.getElem?_eq_getElem this
          rw [← hl _ hy h]; exact g.mono _ h hy
      · rintro ⟨⟨h1, h2, h3, h4, h5, h6, h7⟩, h8⟩
        exact ⟨h1, h2, h3, by omega, h5, h6, h7, fun y hk hy => by rw [hl y hy hk]; exact h4, h8⟩
    cases hb : bad (↑k) last x
    · have hb' := bad_false.1 hb
      have hl' : ∀ y, l[k + 1 - 1]? = some y → 0 < k + 1 → y.iss = x.iss := by
        intro y hy _; simp only [Nat.add_sub_cancel] at hy; rw [hx] at hy; cases hy; rfl
      have hlx : 0 ≤ x.iss := by omega
      cases hw : x.wd
      · cases hfx : f x.fl
        · rw [chkGo_one hb hw hfx]
          have := ih (k + 1) x.iss (fun j => if j = x.fl then true else f j) (by omega) hl' hlx (by omega) (by
            intro j
            by_cases hj : j = x.fl
            · simp only [hj, if_true, true_iff]; exact ⟨k, x, by omega, hx, rfl, hw⟩
            · simp only [hj, if_false]; rw [hf]
              constructor
              · rintro ⟨i, y, hi, r⟩; exact ⟨i, y, by omega, r⟩
              · rintro ⟨i, y, hi, hy, r1, r2⟩
                refine ⟨i, y, ?_, hy, r1, r2⟩
                rcases Nat.lt_or_ge i k with h | h
                · exact h
                · obtain rfl : i = k := by omega
                  rw [hx] at hy; cases hy; exact absurd r1.symm hj)
          simp only [Int.natCast_add, Int.cast_ofNat_Int] at this
          exact hgd (fun _ => this) (fun h => absurd (hgiff.2 ⟨hb, by simp [hfx]⟩) h)
        · rw [chkGo_two hb hw hfx]
          refine hgd (fun g => ?_) (fun _ => by simp)
          have := (hgiff.1 g).2 hfx
          rw [hw] at this; cases this
      · rw [chkGo_wd hb hw]
        have := ih (k + 1) x.iss f (by omega) hl' hlx (by omega) (by
            intro j
            rw [hf]
            constructor
            · rintro ⟨i, y, hi, r⟩; exact ⟨i, y, by omega, r⟩
            · rintro ⟨i, y, hi, hy, r1, r2⟩
              refine ⟨i, y, ?_, hy, r1, r2⟩
              rcases Nat.lt_or_ge i k with h | h
              · exact h
              · obtain rfl : i = k := by omega
                rw [hx] at hy; cases hy; rw [hw] at r2; cases r2)
        simp only [Int.natCast_add, Int.cast_ofNat_Int] at this
        exact hgd (fun _ => this) (fun h => absurd (hgiff.2 ⟨hb, fun _ => hw⟩) h)
    · rw [chkGo_bad hb]
      refine hgd (fun g => ?_) (fun _ => by simp)
      have := (hgiff.1 g).1
      rw [hb] at this; cases this

theorem chk_iff (l : List Clr) : chk l = true ↔ Valid l := by
  have := chkGo_iff l l.length 0 0 (fun _ => false) (by omega) (by intro y _ h; omega) (by omega) (by intro; rfl) (by intro j; simp)
  simp only [List.drop_zero, Int.cast_ofNat_Int] at this
  unfold chk Valid
  rw [this]
  constructor
  · intro h i x hx; exact h i x (Nat.zero_le _) hx
  · intro h i x _ hx; exact h i x hx
theorem chk_not {l : List Clr} (h : ¬ Valid l) : chk l = false := by
  cases hc : chk l
  · rfl
  · exact absurd ((chk_iff l).1 hc) h
end Go.Proofs.Ytjebmcbpiobbaaa
