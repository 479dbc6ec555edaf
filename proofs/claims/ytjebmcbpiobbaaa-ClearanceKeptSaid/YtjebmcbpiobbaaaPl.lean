/- The laws in plain Lean. No program in sight. -/
import Derived.Test.YtjebmcbpiobbaaaValid
namespace Go.Proofs.Ytjebmcbpiobbaaa

theorem set_get {l : List Clr} {k : Nat} {y : Clr} {i : Nat} {z : Clr} (h : (l.set k y)[i]? = some z) : (i = k ∧ k < l.length ∧ z = y) ∨ (i ≠ k ∧ l[i]? = some z) := by
  rw [List.getElem?_set] at h
  split at h
  · rename_i e
    split at h
    · left; exact ⟨e.symm, by omega, by simpa using h.symm⟩
    · cases h
  · rename_i e; right; exact ⟨fun h' => e h'.symm, h⟩

theorem valid_set {l : List Clr} {k : Nat} {x y : Clr} (hv : Valid l) (hx : l[k]? = some x) (h1 : y.no = x.no) (h2 : y.fl = x.fl) (h3 : y.iss = x.iss) (h4 : y.o = x.o) (h5 : (y.rd && y.wd) = false) (h6 : y.wd = false → x.wd = false) : Valid (l.set k y) := by
  have hk : k < l.length := (List.getElem?_eq_some_iff.1 hx).1
  have gx := hv k x hx
  -- what a later clearance sees of an earlier one
  have hold : ∀ (j : Nat) (z : Clr), (l.set k y)[j]? = some z → ∃ z' : Clr, l[j]? = some z' ∧ z.fl = z'.fl ∧ z.iss = z'.iss ∧ (z.wd = false → z'.wd = false) := by
    intro j z hz
    rcases set_get hz with ⟨rfl, _, rfl⟩ | ⟨_, h⟩
    · exact ⟨x, hx, h2, h3, h6⟩
    · exact ⟨z, h, rfl, rfl, id⟩
  intro i z hz
  rcases set_get hz with ⟨rfl, _, rfl⟩ | ⟨hne, hz'⟩
  · refine ⟨by rw [h1]; exact gx.no, by rw [h2]; exact gx.fl0, by rw [h2]; exact gx.fl1, by rw [h3]; exact gx.is0, by rw [h3]; exact gx.is1, by rw [h4]; exact gx.fm, h5, ?_, ?_⟩
    · intro u hi hu
      obtain ⟨u', hu', _, e, _⟩ := hold _ _ hu
      rw [e, h3]; exact gx.mono u' hi hu'
    · intro j u hj hu hf hw
      obtain ⟨u', hu', e1, _, e3⟩ := hold _ _ hu
      cases hz9 : z.wd
      · have := gx.one j u' hj hu' (by rw [← e1, hf, h2]) (e3 hw)
        rw [h6 hz9] at this; cases this
      · rfl
  · have g := hv i z hz'
    refine ⟨g.no, g.fl0, g.fl1, g.is0, g.is1, g.fm, g.rw_, ?_, ?_⟩
    · intro u hi hu
      obtain ⟨u', hu', _, e, _⟩ := hold _ _ hu
      rw [e]; exact g.mono u' hi hu'
    · intro j u hj hu hf hw
      obtain ⟨u', hu', e1, _, e3⟩ := hold _ _ hu
      exact g.one j u' hj hu' (by rw [← e1, hf]) (e3 hw)

theorem valid_snoc {l : List Clr} {c : Clr} : Valid (l ++ [c]) ↔ Valid l ∧ Gd l l.length c := by
  have hg : ∀ i x, i ≤ l.length → (Gd (l ++ [c]) i x ↔ Gd l i x) := by
    intro i x hi
    have e : ∀ j, j < l.length → (l ++ [c])[j]? = l[j]? := fun j hj => List.getElem?_append_left hj
    constructor
    · intro g
      refine ⟨g.no, g.fl0, g.fl1, g.is0, g.is1, g.fm, g.rw_, ?_, ?_⟩
      · intro y h0 hy; exact g.mono y h0 (by rw [e _ (by omega)]; exact hy)
      · intro j y hj hy; exact g.one j y hj (by rw [e _ (by omega)]; exact hy)
    · intro g
      refine ⟨g.no, g.fl0, g.fl1, g.is0, g.is1, g.fm, g.rw_, ?_, ?_⟩
      · intro y h0 hy; exact g.mono y h0 (by rw [e _ (by omega)] at hy; exact hy)
      · intro j y hj hy; exact g.one j y hj (by rw [e _ (by omega)] at hy; exact hy)
  constructor
  · intro h
    refine ⟨fun i x hx => ?_, ?_⟩
    · have hi := (List.getElem?_eq_some_iff.1 hx).1
      exact (hg i x (by omega)).1 (h i x (by rw [List.getElem?_append_left hi]; exact hx))
    · exact (hg _ _ (Nat.le_refl _)).1 (h l.length c (by simp))
  · rintro ⟨h1, h2⟩ i x hx
    rw [List.getElem?_append] at hx
    split at hx
    · rename_i hi; exact (hg i x (by omega)).2 (h1 i x hx)
    · rename_i hi
      have hlt := (List.getElem?_eq_some_iff.1 hx).1
      simp at hlt
      obtain rfl : i = l.length := by omega
      simp at hx
      subst hx
      exact (hg _ _ (Nat.le_refl _)).2 h2

/-- None of a flight is in force. -/
theorem inForce_false {l : List Clr} {fl : Int} : (inForce l fl).2 = false ↔ ∀ (i : Nat) (x : Clr), l[i]? = some x → x.fl = fl → x.wd = true := by
  unfold inForce
  split
  · rename_i x h
    have h1 := List.find?_some h
    have h2 := List.mem_of_find?_eq_some h
    simp [inF] at h1
    constructor
    · intro h; cases h
    · intro h9
      obtain ⟨i, hi, rfl⟩ := List.getElem_of_mem h2
      have := h9 i _ (List.getElem?_eq_getElem hi) h1.1
      rw [h1.2] at this; cases this
  · rename_i h
    rw [List.find?_eq_none] at h
    simp only [true_iff]
    intro i x hx hf
    have := h x (List.mem_of_getElem? hx)
    simp [inF, hf] at this
    exact this
theorem inForce_true {l : List Clr} {fl : Int} (h : (inForce l fl).2 = true) : ∃ i : Nat, l[i]? = some (inForce l fl).1 ∧ (inForce l fl).1.fl = fl ∧ (inForce l fl).1.wd = false := by
  unfold inForce at h ⊢
  split at h
  · rename_i x hx
    have h1 := List.find?_some hx
    have h2 := List.mem_of_find?_eq_some hx
    simp [inF] at h1
    obtain ⟨i, hi, e⟩ := List.getElem_of_mem h2
    refine ⟨i, ?_, ?_, ?_⟩
    · simp only; rw [← e]; exact List.getElem?_eq_getElem hi
    · simpa [hx] using h1.1
    · simpa [hx] using h1.2
  · cases h
/-- In a valid list the one in force is what InForce finds. -/
theorem inForce_is {l : List Clr} (hv : Valid l) {k : Nat} {x : Clr} (hx : l[k]? = some x) (hw : x.wd = false) : inForce l x.fl = (x, true) := by
  have hb : (inForce l x.fl).2 = true := by
    cases h : (inForce l x.fl).2
    · have := inForce_false.1 h k x hx rfl
      rw [hw] at this; cases this
    · rfl
  obtain ⟨i, hi, hf, hwd⟩ := inForce_true hb
  have : i = k := by
    rcases Nat.lt_trichotomy i k with h | h | h
    · have := (hv k x hx).one i _ h hi hf hwd; rw [hw] at this; cases this
    · exact h
    · have := (hv i _ hi).one k x h hx hf.symm hw; rw [hwd] at this; cases this
  subst this
  rw [hx] at hi
  have e1 := Option.some.inj hi
  exact Prod.ext e1.symm hb

structure CanIssue (l : List Clr) (fl : Int) (o : Opt) (m : Int) : Prop where
  fl0 : 0 ≤ fl
  fl1 : fl ≤ 4095
  m0 : 0 ≤ m
  m1 : m < 1440
  fm : fmd o = true
  last : ∀ y : Clr, 0 < l.length → l[l.length - 1]? = some y → y.iss ≤ m
  free : (inForce l fl).2 = false
theorem canIssue_iff {l : List Clr} {fl m : Int} {o : Opt} : Gd l l.length (newC l fl o m) ↔ CanIssue l fl o m := by
  constructor
  · intro g
    refine ⟨g.fl0, g.fl1, g.is0, g.is1, g.fm, g.mono, inForce_false.2 ?_⟩
    intro i x hx hf
    cases hw : x.wd
    · have := g.one i x (List.getElem?_eq_some_iff.1 hx).1 hx hf hw
      cases this
    · rfl
  · rintro ⟨h1, h2, h3, h4, h5, h6, h7⟩
    exact ⟨rfl, h1, h2, h3, h4, h5, rfl, h6, fun j y _ hy hf hw => by rw [inForce_false.1 h7 j y hy hf] at hw; cases hw⟩
theorem issue_yes {l : List Clr} {fl m : Int} {o : Opt} (hv : Valid l) (h : CanIssue l fl o m) : Valid (l ++ [newC l fl o m]) ∧ issue l fl o m = (l ++ [newC l fl o m], 0) := by
  have h1 : chk l = true := (chk_iff l).2 hv
  have h2 := valid_snoc.2 ⟨hv, canIssue_iff.2 h⟩
  refine ⟨h2, ?_⟩
  unfold issue
  rw [if_pos h1, if_pos ((chk_iff _).2 h2)]
theorem issue_no {l : List Clr} {fl m : Int} {o : Opt} (h : ¬ CanIssue l fl o m) : issue l fl o m = ([], 340) := by
  unfold issue
  split
  · rw [if_neg]
    intro h9
    exact h (canIssue_iff.1 (valid_snoc.1 ((chk_iff _).1 h9)).2)
  · rfl
theorem issue_ok {l r : List Clr} {fl m : Int} {o : Opt} (h : issue l fl o m = (r, 0)) : Valid l ∧ CanIssue l fl o m ∧ r = l ++ [newC l fl o m] ∧ Valid r := by
  unfold issue at h
  split at h
  · rename_i h1
    split at h
    · rename_i h2
      have h3 := (chk_iff _).1 h2
      cases h
      exact ⟨(chk_iff l).1 h1, canIssue_iff.1 (valid_snoc.1 h3).2, rfl, h3⟩
    · cases h
  · cases h

theorem change_ok {l r : List Clr} {no : Int} {g : Clr → Clr × Int} (h : change l no g = (r, 0)) : ∃ (k : Nat) (x : Clr), no = k ∧ Valid l ∧ l[k]? = some x ∧ x.wd = false ∧ (g x).2 = 0 ∧ r = l.set k (g x).1 := by
  unfold change at h
  split at h
  · rename_i hc
    split at h
    · rename_i x hx
      split at hx
      · rename_i h0
        split at h
        · cases h
        · rename_i hw
          split at h
          · rename_i hg
            refine ⟨no.toNat, x, by omega, (chk_iff l).1 hc, hx, by simpa using hw, hg, ?_⟩
            cases h; rfl
          · rename_i hg
            injection h with _ h2
            exact absurd h2 hg
      · cases hx
    · cases h
  · cases h
theorem change_yes {l : List Clr} {k : Nat} {x : Clr} {g : Clr → Clr × Int} (hv : Valid l) (hx : l[k]? = some x) (hw : x.wd = false) : change l k g = if (g x).2 = 0 then (l.set k (g x).1, 0) else ([], (g x).2) := by
  unfold change
  simp [(chk_iff l).2 hv, hx, hw]
theorem change_no {l : List Clr} {k : Nat} {x : Clr} {g : Clr → Clr × Int} (hv : Valid l) (hx : l[k]? = some x) (hw : x.wd = true) : change l k g = ([], 340) := by
  unfold change
  simp [(chk_iff l).2 hv, hx, hw]
theorem set_at {l : List Clr} {k : Nat} {x y : Clr} (hx : l[k]? = some x) : (l.set k y)[k]? = some y := by
  rw [List.getElem?_set]; simp [(List.getElem?_eq_some_iff.1 hx).1]
theorem read_yes {l : List Clr} {k : Nat} {x : Clr} (hv : Valid l) (hx : l[k]? = some x) (hw : x.wd = false) : read l k = (l.set k { x with rd := true }, 0) := by
  unfold read; rw [change_yes hv hx hw]; rfl
theorem withdraw_yes {l : List Clr} {k : Nat} {x : Clr} (hv : Valid l) (hx : l[k]? = some x) (hw : x.wd = false) : withdraw l k = if x.rd then ([], 341) else (l.set k { x with wd := true }, 0) := by
  unfold withdraw; rw [change_yes hv hx hw]; cases h : x.rd <;> simp [wdG, h]
theorem valid_read {l : List Clr} {k : Nat} {x : Clr} (hv : Valid l) (hx : l[k]? = some x) (hw : x.wd = false) : Valid (l.set k { x with rd := true }) :=
  valid_set hv hx rfl rfl rfl rfl (by simp [hw]) (fun h => h)
theorem valid_withdraw {l : List Clr} {k : Nat} {x : Clr} (hv : Valid l) (hx : l[k]? = some x) (hr : x.rd = false) : Valid (l.set k { x with wd := true }) :=
  valid_set hv hx rfl rfl rfl rfl (by simp [hr]) (fun h => by cases h)
theorem set_same {l : List Clr} {k : Nat} {x y : Clr} (hx : l[k]? = some x) (h : y = x) : l.set k y = l := by
  subst h
  apply List.ext_getElem?
  intro i
  rw [List.getElem?_set]
  split
  · rename_i e; subst e
    have := (List.getElem?_eq_some_iff.1 hx).1
    rw [if_pos this, hx]
  · rfl
end Go.Proofs.Ytjebmcbpiobbaaa
