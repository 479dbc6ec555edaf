/- Fewer reports, more faults, wider shifts: the plain law. No program in sight. -/
import Derived.Test.YtjiojpoiocdnmaaGreatQF
set_option linter.unusedSimpArgs false
set_option linter.unusedVariables false
namespace Go.Proofs.YtjiojpoiocdnmaaGreat
open Go.RowKit
theorem pErr0 {t : Tab} {s : List Stn} {R : List Rep} {l : List Trk} : possErr t s R l = 0 ↔ askE t s R l = 0 ∧ manyB l = false ∧ foundB t s R l = true := by
  unfold possErr
  by_cases h : askE t s R l = 0
  · rw [if_neg (fun q => q h)]
    cases hm : manyB l
    · cases hf : foundB t s R l <;> simp [h]
    · simp
  · rw [if_pos h]
    exact ⟨fun q => absurd q h, fun q => absurd q.1 h⟩
theorem possL_len (t : Tab) (s : List Stn) (R : List Rep) (l : List Trk) : (possL t s R l).length = l.length := by simp [possL]
theorem possV0 {t : Tab} {s : List Stn} {R : List Rep} {l : List Trk} (h : possErr t s R l = 0) : possV t s R l = possL t s R l := by unfold possV; rw [if_pos h]
theorem possL_at {t : Tab} {s : List Stn} {R : List Rep} {l : List Trk} {n : Nat} {x : List Bool} (h : (possL t s R l)[n]? = some x) : x.length = (msT l).getD n 0 ∧ ∀ (k : Nat) (b : Bool), x[k]? = some b → b = possB t s R l n k := by
  unfold possL at h
  rw [List.getElem?_map] at h
  obtain ⟨m, hm, rfl⟩ := Option.map_eq_some_iff.1 h
  have hn := (List.getElem?_eq_some_iff.1 hm).1
  rw [List.length_range] at hn
  rw [List.getElem?_range hn] at hm
  cases hm
  refine ⟨by simp, fun k b hb => ?_⟩
  rw [List.getElem?_map] at hb
  obtain ⟨q, hq, rfl⟩ := Option.map_eq_some_iff.1 hb
  have hk := (List.getElem?_eq_some_iff.1 hq).1
  rw [List.length_range] at hk
  rw [List.getElem?_range hk] at hq
  cases hq
  rfl
/-- All that was possible remains possible. -/
theorem poss_mono {t : Tab} {s s2 : List Stn} {R R2 : List Rep} {l : List Trk} (h : possErr t s R l = 0) (ha : askE t s2 R2 l = 0) (hw : ∀ p : List Nat, worldP t s R l (nums p) = true → worldP t s2 R2 l (nums p) = true) :
    possErr t s2 R2 l = 0 ∧ leL (possV t s R l) (possV t s2 R2 l) = true := by
  obtain ⟨_, hm, hf⟩ := pErr0.1 h
  have h2 : possErr t s2 R2 l = 0 := by
    refine pErr0.2 ⟨ha, hm, ?_⟩
    rw [foundB_iff] at hf ⊢
    obtain ⟨p, h1, h2⟩ := hf
    exact ⟨p, h1, hw p h2⟩
  refine ⟨h2, ?_⟩
  rw [possV0 h, possV0 h2, leL_iff]
  refine ⟨by rw [possL_len, possL_len], fun i x y hx hy => ?_⟩
  obtain ⟨x1, x2⟩ := possL_at hx
  obtain ⟨y1, y2⟩ := possL_at hy
  refine ⟨by rw [x1, y1], fun j a b ha hb hat => ?_⟩
  have e1 := x2 j a ha
  have e2 := y2 j b hb
  rw [hat] at e1
  rw [e2]
  obtain ⟨p, q1, q2, q3⟩ := possB_iff.1 e1.symm
  exact possB_iff.2 ⟨p, q1, q2, hw p q3⟩
theorem poss_same {t : Tab} {s s2 : List Stn} {R R2 : List Rep} {l : List Trk} (h : possErr t s R l = 0) (ha : askE t s2 R2 l = 0) (hw : ∀ p : List Nat, worldP t s R l (nums p) = worldP t s2 R2 l (nums p)) :
    possErr t s2 R2 l = 0 ∧ possV t s R l = possV t s2 R2 l := by
  obtain ⟨_, hm, hf⟩ := pErr0.1 h
  have h2 : possErr t s2 R2 l = 0 := by
    refine pErr0.2 ⟨ha, hm, ?_⟩
    rw [foundB_iff] at hf ⊢
    obtain ⟨p, h1, h2⟩ := hf
    exact ⟨p, h1, by rw [← hw]; exact h2⟩
  refine ⟨h2, ?_⟩
  rw [possV0 h, possV0 h2]
  have hp : ∀ n k, possB t s R l n k = possB t s2 R2 l n k := fun n k => by
    rw [Bool.eq_iff_iff, possB_iff, possB_iff]
    constructor
    · rintro ⟨p, q1, q2, q3⟩; exact ⟨p, q1, q2, by rw [← hw]; exact q3⟩
    · rintro ⟨p, q1, q2, q3⟩; exact ⟨p, q1, q2, by rw [hw]; exact q3⟩
  unfold possL
  simp only [hp]
theorem unitV_pos (k : Nat) : (unitV k).Pos := by
  match k with
  | 0 => simp [unitV, V4.inc, V4.zero, V4.set, V4.get, V4.Pos]
  | 1 => simp [unitV, V4.inc, V4.zero, V4.set, V4.get, V4.Pos]
  | 2 => simp [unitV, V4.inc, V4.zero, V4.set, V4.get, V4.Pos]
  | _ + 3 => simp [unitV, V4.inc, V4.zero, V4.set, V4.get, V4.Pos]
theorem cR_pos (p : Rep → Bool) (r : Rep) : (cR p r).Pos := by
  unfold cR
  split
  · simp [V4.zero, V4.Pos]
  · exact unitV_pos _
theorem vsum_sub (p : Rep → Bool) {R R2 : List Rep} (h : R2.Sublist R) : ∃ e : V4, e.Pos ∧ vsum (R.map (cR p)) = (vsum (R2.map (cR p))).plus e := by
  induction h with
  | slnil => exact ⟨V4.zero, by simp [V4.zero, V4.Pos], by simp [vsum, V4.plus_zero]⟩
  | cons a _ ih =>
    obtain ⟨e, h1, h2⟩ := ih
    refine ⟨(cR p a).plus e, (cR_pos p a).plus h1, ?_⟩
    simp only [List.map_cons, vsum]
    rw [h2, ← V4.plus_assoc, V4.plus_comm (cR p a), V4.plus_assoc]
  | cons_cons a _ ih =>
    obtain ⟨e, h1, h2⟩ := ih
    refine ⟨e, h1, ?_⟩
    simp only [List.map_cons, vsum]
    rw [h2, V4.plus_assoc]
section
variable {t : Tab} {s : List Stn} {R R2 : List Rep} {l : List Trk}
theorem ask0 : askE t s R l = 0 ↔ wchkE t l = 0 ∧ askB t s R = true := by
  unfold askE
  by_cases h : wchkE t l = 0
  · rw [if_neg (fun q => q h)]
    cases askB t s R <;> simp [h]
  · rw [if_pos h]
    exact ⟨fun q => absurd q h, fun q => absurd q.1 h⟩
theorem askB_iff : askB t s R = true ↔ s.length ≤ 4 ∧ R.length ≤ 1024 ∧ (∀ x ∈ s, stnB t.n x = true) ∧ ∀ r ∈ R, repB s.length r = true := by
  unfold askB
  simp only [Bool.and_eq_true, decide_eq_true_eq, List.all_eq_true]
  exact ⟨fun ⟨⟨⟨a, b⟩, c⟩, d⟩ => ⟨a, b, c, d⟩, fun ⟨a, b, c, d⟩ => ⟨⟨⟨a, b⟩, c⟩, d⟩⟩
theorem world_sub (h : R2.Sublist R) (p : List Int) : worldP t s R l p = true → worldP t s R2 l p = true := by
  intro hw
  obtain ⟨x, h1, h2⟩ := worldP_iff.1 hw
  refine worldP_iff.2 ⟨x, h1, ?_⟩
  unfold worldT wrongAll at h2 ⊢
  obtain ⟨e, h3, h4⟩ := vsum_sub (rightAt (stT t l) l p x) h
  rw [h4] at h2
  exact leB_of_plus h3 h2
theorem world_perm (h : R2.Perm R) (p : List Int) : worldP t s R l p = worldP t s R2 l p := by
  unfold worldP worldT wrongAll
  have : ∀ x, vsum (R.map (cR (rightAt (stT t l) l p x))) = vsum (R2.map (cR (rightAt (stT t l) l p x))) := fun x => (vsum_perm (h.map _)).symm
  simp only [this]
theorem ask_sub (h : askE t s R l = 0) (hl : R2.length ≤ 1024) (hm : ∀ r ∈ R2, r ∈ R) : askE t s R2 l = 0 := by
  rw [ask0, askB_iff] at h ⊢
  exact ⟨h.1, h.2.1, hl, h.2.2.2.1, fun r hr => h.2.2.2.2 r (hm r hr)⟩
/-- One station is another one. -/
theorem ask_stn {i : Nat} {x y : Stn} (h : askE t s R l = 0) (hx : s[i]? = some x) (hy : stnB t.n y = true) : askE t (s.set i y) R l = 0 := by
  rw [ask0, askB_iff] at h ⊢
  refine ⟨h.1, by rw [List.length_set]; exact h.2.1, h.2.2.1, fun z hz => ?_, fun r hr => by rw [List.length_set]; exact h.2.2.2.2 r hr⟩
  rcases List.mem_or_eq_of_mem_set hz with h1 | rfl
  · exact h.2.2.2.1 z h1
  · exact hy
end
def moreF (x : Stn) : Stn := ⟨x.vs, x.sh, min (x.fa + 1) 3⟩
def wideF (x : Stn) : Stn := ⟨x.vs, min (x.sh + 1) 3, x.fa⟩
theorem stn_more {n : Int} {x : Stn} (h : stnB n x = true) : stnB n (moreF x) = true := by
  unfold stnB moreF at *
  simp only [Bool.and_eq_true, inn_iff] at h ⊢
  refine ⟨⟨⟨h.1.1.1, ?_⟩, h.1.2⟩, h.2⟩
  have := h.1.1.2
  omega
theorem stn_wide {n : Int} {x : Stn} (h : stnB n x = true) : stnB n (wideF x) = true := by
  unfold stnB wideF at *
  simp only [Bool.and_eq_true, inn_iff] at h ⊢
  refine ⟨⟨⟨⟨h.1.1.1.1, ?_⟩, h.1.1.2⟩, h.1.2⟩, h.2⟩
  have := h.1.1.1.2
  omega
theorem V4.leB_trans {a b c : V4} (h : a.leB b = true) (k : b.leB c = true) : a.leB c = true := by
  unfold V4.leB at *
  simp only [Bool.and_eq_true, decide_eq_true_eq] at *
  omega
theorem bud_le {s s2 : List Stn} (h : ∀ i : Nat, ((s[i]?).map (fun x : Stn => x.fa)).getD 0 ≤ ((s2[i]?).map (fun x : Stn => x.fa)).getD 0) : (budV s).leB (budV s2) = true := by
  unfold V4.leB budV
  simp only [Bool.and_eq_true, decide_eq_true_eq]
  exact ⟨⟨⟨h 0, h 1⟩, h 2⟩, h 3⟩
theorem within_mono : ∀ {ms ms2 y : List Int}, ms.length = ms2.length → (∀ (i : Nat) (a b : Int), ms[i]? = some a → ms2[i]? = some b → a ≤ b) → Within ms y → Within ms2 y
  | [], [], _, _, _, h => h
  | [], _ :: _, _, hl, _, _ => by simp at hl
  | _ :: _, [], _, hl, _, _ => by simp at hl
  | m :: ms, m2 :: ms2, y, hl, hm, h => by
    obtain ⟨n, r, rfl, h1, h2, h3⟩ := h
    have := hm 0 m m2 rfl rfl
    exact ⟨n, r, rfl, by omega, by omega, within_mono (by simpa using hl) (fun i a b ha hb => hm (i + 1) a b (by simpa using ha) (by simpa using hb)) h3⟩
theorem world_more {t : Tab} {s : List Stn} {R : List Rep} {l : List Trk} {i : Nat} {x : Stn} (hx : s[i]? = some x) (h3 : x.fa ≤ 3) (p : List Int) (h : worldP t s R l p = true) : worldP t (s.set i (moreF x)) R l p = true := by
  obtain ⟨q, h1, h2⟩ := worldP_iff.1 h
  have hsh : shiftsL (s.set i (moreF x)) = shiftsL s := by
    unfold shiftsL
    have : (s.set i (moreF x)).map (·.sh) = s.map (·.sh) := by
      rw [List.map_set]
      apply List.ext_getElem?
      intro j
      by_cases e : j = i
      · subst e; rw [List.getElem?_set_self (by simpa using (List.getElem?_eq_some_iff.1 hx).1), List.getElem?_map, hx]; rfl
      · rw [List.getElem?_set_ne (Ne.symm e)]
    rw [this]
  refine worldP_iff.2 ⟨q, by rw [hsh]; exact h1, ?_⟩
  unfold worldT at h2 ⊢
  refine V4.leB_trans h2 (bud_le (fun j => ?_))
  by_cases e : j = i
  · subst e
    rw [List.getElem?_set_self (List.getElem?_eq_some_iff.1 hx).1, hx]
    simp only [Option.map_some, Option.getD_some, moreF]
    omega
  · rw [List.getElem?_set_ne (Ne.symm e)]
    exact Int.le_refl _
theorem world_wide {t : Tab} {s : List Stn} {R : List Rep} {l : List Trk} {i : Nat} {x : Stn} (hx : s[i]? = some x) (h3 : x.sh ≤ 3) (p : List Int) (h : worldP t s R l p = true) : worldP t (s.set i (wideF x)) R l p = true := by
  obtain ⟨q, h1, h2⟩ := worldP_iff.1 h
  have hil := (List.getElem?_eq_some_iff.1 hx).1
  have hb : budV (s.set i (wideF x)) = budV s := by
    have : ∀ j : Nat, (((s.set i (wideF x))[j]?).map (fun x : Stn => x.fa)).getD 0 = ((s[j]?).map (fun x : Stn => x.fa)).getD 0 := fun j => by
      by_cases e : j = i
      · subst e; rw [List.getElem?_set_self hil, hx]; rfl
      · rw [List.getElem?_set_ne (Ne.symm e)]
    unfold budV
    rw [this 0, this 1, this 2, this 3]
  refine worldP_iff.2 ⟨q, ?_, ?_⟩
  · rw [mem_shifts] at h1 ⊢
    refine within_mono (by simp) (fun j a b ha hb => ?_) h1
    rw [List.getElem?_map] at ha hb
    obtain ⟨u, hu, rfl⟩ := Option.map_eq_some_iff.1 ha
    obtain ⟨v, hv, rfl⟩ := Option.map_eq_some_iff.1 hb
    by_cases e : j = i
    · subst e
      rw [List.getElem?_set_self hil] at hv
      rw [hx] at hu
      cases hv; cases hu
      simp only [wideF]; omega
    · rw [List.getElem?_set_ne (Ne.symm e), hu] at hv
      cases hv; exact Int.le_refl _
  · unfold worldT at h2 ⊢
    rw [hb]; exact h2
/-- The law of fewer reports, at place i. -/
theorem law_less {t : Tab} {s : List Stn} {R : List Rep} {l : List Trk} (h : possErr t s R l = 0) (hR : R.length ≤ 100) (i : Nat) :
    possErr t s (R.take i ++ R.drop (i + 1)) l = 0 ∧ leL (possV t s R l) (possV t s (R.take i ++ R.drop (i + 1)) l) = true := by
  have hs : (R.take i ++ R.drop (i + 1)).Sublist R := by
    have := List.eraseIdx_sublist R i
    rwa [List.eraseIdx_eq_take_drop_succ] at this
  have ha := (pErr0.1 h).1
  exact poss_mono h (ask_sub ha (by have := hs.length_le; omega) (fun r hr => hs.subset hr)) (fun p hp => world_sub hs _ hp)
theorem law_turn {t : Tab} {s : List Stn} {R : List Rep} {l : List Trk} (h : possErr t s R l = 0) (i : Nat) :
    possErr t s (R.drop i ++ R.take i) l = 0 ∧ possV t s R l = possV t s (R.drop i ++ R.take i) l := by
  have hs : (R.drop i ++ R.take i).Perm R := by
    have := List.perm_append_comm (l₁ := R.drop i) (l₂ := R.take i)
    rwa [List.take_append_drop] at this
  have ha := (pErr0.1 h).1
  have hl := (askB_iff.1 (ask0.1 ha).2).2.1
  exact poss_same h (ask_sub ha (by rw [hs.length_eq]; exact hl) (fun r hr => hs.mem_iff.1 hr)) (fun p => world_perm hs _)
theorem law_more {t : Tab} {s : List Stn} {R : List Rep} {l : List Trk} (h : possErr t s R l = 0) {i : Nat} {x : Stn} (hx : s[i]? = some x) :
    possErr t (s.set i (moreF x)) R l = 0 ∧ leL (possV t s R l) (possV t (s.set i (moreF x)) R l) = true := by
  have ha := (pErr0.1 h).1
  have hb := (askB_iff.1 (ask0.1 ha).2).2.2.1 x (List.mem_of_getElem? hx)
  refine poss_mono h (ask_stn ha hx (stn_more hb)) (fun p hp => world_more hx ?_ _ hp)
  unfold stnB at hb
  simp only [Bool.and_eq_true, inn_iff] at hb
  exact hb.1.1.2.2
theorem law_wide {t : Tab} {s : List Stn} {R : List Rep} {l : List Trk} (h : possErr t s R l = 0) {i : Nat} {x : Stn} (hx : s[i]? = some x) :
    possErr t (s.set i (wideF x)) R l = 0 ∧ leL (possV t s R l) (possV t (s.set i (wideF x)) R l) = true := by
  have ha := (pErr0.1 h).1
  have hb := (askB_iff.1 (ask0.1 ha).2).2.2.1 x (List.mem_of_getElem? hx)
  refine poss_mono h (ask_stn ha hx (stn_wide hb)) (fun p hp => world_wide hx ?_ _ hp)
  unfold stnB at hb
  simp only [Bool.and_eq_true, inn_iff] at hb
  exact hb.1.1.1.2.2
end Go.Proofs.YtjiojpoiocdnmaaGreat
