/- A drawn region, walked operation by operation in an order of one's own. A condition S on the world serves the loads; one late operation (number k), before which every load must have come up, is free to break it. -/
import Derived.Deep.RegionHeld3
import Derived.WalkKit
set_option linter.unusedSimpArgs false
set_option linter.unusedVariables false
namespace Go.Proofs.YtilocjliplmmpaaGreat
variable {P : Program} {md : Region.Mode} {ops : Array Oper} {Q : Exit → Act → World → Prop} {S : World → Prop} {k : Nat}
/-- What the post says of a panic does not hang on the frame. -/
def Calm (Q : Exit → Act → World → Prop) : Prop := ∀ (d : Option Tmp) (v : Value) c a w, Q (.panic c) (a.put d v) w → Q (.panic c) a w
/-- Whatever order is picked from here on; until number k has come up S holds behind every operation. -/
def WT (P : Program) (md : Region.Mode) (ops : Array Oper) (Q : Exit → Act → World → Prop) (k : Nat) (S : World → Prop) : Nat → Array Bool → Act → World → Prop
  | 0, l, a, w => Region.ready md ops l = [] ∧ Q .normal a w
  | f + 1, l, a, w => (Region.ready md ops l = [] → Q .normal a w) ∧
      ∀ i ∈ Region.ready md ops l, wpOp P ops Q i (fun a' w' => ((l.setIfInBounds i true).getD k false = true ∨ S w') ∧ WT P md ops Q k S f (l.setIfInBounds i true) a' w') a w
theorem WT.any : ∀ (f : Nat) (l : Array Bool) (a : Act) (w : World), WT P md ops Q k S f l a w → wpAny P md ops Q f l a w
  | 0, _, _, _, h => h
  | f + 1, _, _, _, h => ⟨h.1, fun i hi => wpOp_mono (fun a' w' h' => WT.any f _ a' w' h'.2) (h.2 i hi)⟩
/-- Whatever has come up has those before it. -/
def Closed (md : Region.Mode) (ops : Array Oper) (l : Array Bool) : Prop := ∀ j oj, ops[j]? = some oj → l.getD j false = true → ∀ e ∈ oj.after, Region.binds md e = true → l.getD e.on false = true
def closedB (md : Region.Mode) (ops : Array Oper) (l : Array Bool) : Bool := (List.range ops.size).all fun j => !l.getD j false || ((ops[j]?).map (·.after.all fun e => !Region.binds md e || l.getD e.on false)).getD true
theorem closed_of {l : Array Bool} (h : closedB md ops l = true) : Closed md ops l := by
  intro j oj hj hl e he hb
  have hjs : j < ops.size := (Array.getElem?_eq_some_iff.1 hj).1
  have h1 := List.all_eq_true.1 h j (List.mem_range.2 hjs)
  rw [hl, hj] at h1
  simp only [Bool.not_true, Bool.false_or, Option.map_some, Option.getD_some] at h1
  have h2 := Array.all_eq_true.1 h1
  obtain ⟨i, hi, rfl⟩ := Array.mem_iff_getElem.1 he
  have h3 := h2 i hi
  rw [hb] at h3
  simpa using h3
/-- Number i comes before number k. -/
def depB (md : Region.Mode) (ops : Array Oper) : Nat → Nat → Nat → Bool
  | 0, _, _ => false
  | n + 1, k, i => ((ops[k]?).map (·.after.any fun e => Region.binds md e && (e.on == i || depB md ops n e.on i))).getD false
theorem dep_listed {l : Array Bool} (hc : Closed md ops l) {i : Nat} : ∀ (n k : Nat) (ok : Oper), ops[k]? = some ok → (∀ e ∈ ok.after, Region.binds md e = true → l.getD e.on false = true) → depB md ops n k i = true → l.getD i false = true
  | 0, _, _, _, _, h => by cases h
  | n + 1, k, ok, hk, hall, h => by
    unfold depB at h
    rw [hk] at h
    simp only [Option.map_some, Option.getD_some, Array.any_eq_true] at h
    obtain ⟨q, hq, h⟩ := h
    simp only [Bool.and_eq_true, Bool.or_eq_true, beq_iff_eq] at h
    have hon := hall _ (Array.getElem_mem hq) h.1
    rcases h.2 with h2 | h2
    · rw [← h2]; exact hon
    · have : ∃ o, ops[(ok.after[q]).on]? = some o := by
        cases n with
        | zero => cases h2
        | succ n =>
          unfold depB at h2
          cases ho : ops[(ok.after[q]).on]? with
          | none => rw [ho] at h2; cases h2
          | some o => exact ⟨o, rfl⟩
      obtain ⟨o, ho⟩ := this
      exact dep_listed hc n _ o ho (hc _ o ho hon) h2
def Before (md : Region.Mode) (ops : Array Oper) (k i : Nat) : Prop := ∀ l, Closed md ops l → k ∈ Region.ready md ops l → l.getD i false = true
theorem before_of {i : Nat} (h : (decide (ops.size ≤ k) || depB md ops ops.size k i) = true) : Before md ops k i := by
  intro l hc hk
  obtain ⟨hun, ok, hok, hall⟩ := mem_ready.1 hk
  rw [Bool.or_eq_true, decide_eq_true_eq] at h
  rcases h with h | h
  · have := (Array.getElem?_eq_some_iff.1 hok).1; omega
  · exact dep_listed hc _ _ ok hok (fun e he hb => hall e he hb) h
theorem getD_set_other {l : Array Bool} {i j : Nat} (h : i ≠ j) (d : Bool) : (l.setIfInBounds i true).getD j d = l.getD j d := by
  simp [Array.getD_eq_getD_getElem?, Array.getElem?_setIfInBounds, h]
theorem WT.first {i : Nat} {oi : Oper} {v : Value} (hi : ops[i]? = some oi) (hsel : ∀ (j : Nat) (o : Oper) cs b, ops[j]? = some o → o.op ≠ .select cs b)
    (hQ : ∀ c a w, Q (.panic c) (a.put oi.dst v) w → Q (.panic c) a w) (hki : i ≠ k) (hbf : Before md ops k i) :
    ∀ (f : Nat) (l : Array Bool) (a : Act) (w : World), Closed md ops l → l.getD k false = false →
      (∀ j oj, ops[j]? = some oj → j ≠ i → l.getD j true = false → (∀ e ∈ oj.after, Region.binds md e = true → e.on ≠ i) → oi.apart ops oj = true) →
      i ∈ Region.ready md ops l → YieldsIf P ops S oi v a → S w →
      WT P md ops Q k S f (l.setIfInBounds i true) (a.put oi.dst v) w → WT P md ops Q k S (f + 1) l a w := by
  intro f
  induction f with
  | zero =>
    intro l a w _ _ _ hr hy hS H
    refine ⟨fun h => (by rw [h] at hr; cases hr), fun j hj => ?_⟩
    by_cases hji : j = i
    · subst hji; exact hy.wpOp hi hS ⟨.inr hS, H⟩
    · have := ready_mono hj hji
      rw [H.1] at this
      cases this
  | succ f ih =>
    intro l a w hc hk hfree hr hy hS H
    refine ⟨fun h => (by rw [h] at hr; cases hr), fun j hj => ?_⟩
    by_cases hji : j = i
    · subst hji; exact hy.wpOp hi hS ⟨.inr hS, H⟩
    · have h1 := H.2 j (ready_mono hj hji)
      obtain ⟨hjun, oj, hoj, hall⟩ := mem_ready.1 hj
      have hi0 : l.getD i false = false := by
        have h0 := (mem_ready.1 hr).1
        rcases Nat.lt_or_ge i l.size with h' | h'
        · simp [h'] at h0 ⊢; exact h0
        · simp [Array.getElem?_eq_none h']
      have hnot : ∀ e ∈ oj.after, Region.binds md e = true → e.on ≠ i := fun e he hb heq => by
        have h1 := hall e he hb
        rw [heq, hi0] at h1
        cases h1
      have hjk : j ≠ k := fun e => by
        subst e
        have := hbf l hc hj
        rw [hi0] at this; cases this
      have h2 := wpOp_putIf hoj (hfree j oj hoj hji hjun hnot) (fun cs b => hsel i oi cs b hi) (fun cs b => hsel j oj cs b hoj) hQ hy h1
      have hfree' : ∀ q oq, ops[q]? = some oq → q ≠ i → (l.setIfInBounds j true).getD q true = false →
          (∀ e ∈ oq.after, Region.binds md e = true → e.on ≠ i) → oi.apart ops oq = true := fun q oq hq hqi hun hno => by
        refine hfree q oq hq hqi ?_ hno
        by_cases hjq : j = q
        · subst hjq; exact hjun
        · rw [getD_set_other hjq] at hun; exact hun
      have hc' : Closed md ops (l.setIfInBounds j true) := fun q oq hq hl e he hb => by
        by_cases hje : j = e.on
        · rw [← hje]
          have hjl : j < l.size := by
            rcases Nat.lt_or_ge j l.size with h' | h'
            · exact h'
            · have := hjun; simp [Array.getElem?_eq_none h'] at this
          simp [hjl]
        · rw [getD_set_other hje]
          by_cases hjq : j = q
          · subst hjq; rw [hoj] at hq; cases hq; exact hall e he hb
          · rw [getD_set_other hjq] at hl; exact hc q oq hq hl e he hb
      have hk' : (l.setIfInBounds j true).getD k false = false := by rw [getD_set_other hjk]; exact hk
      have hk'' : ((l.setIfInBounds i true).setIfInBounds j true).getD k false = false := by rw [getD_set_other hjk, getD_set_other hki]; exact hk
      refine wpOp_mono (fun a' w' h3 => ?_) h2
      have hS' : S w' := h3.2.1.resolve_left (by rw [hk'']; simp)
      refine ⟨.inr hS', ih (l.setIfInBounds j true) a' w' hc' hk' hfree' (ready_mono hr (Ne.symm hji)) h3.1 hS' ?_⟩
      rw [Array.setIfInBounds_comm _ _ hji]
      exact h3.2.2
/-- An operation that yields in whatever world may be taken first, the late one or not. -/
theorem WT.firstP {i : Nat} {oi : Oper} {v : Value} (hi : ops[i]? = some oi) (hsel : ∀ (j : Nat) (o : Oper) cs b, ops[j]? = some o → o.op ≠ .select cs b)
    (hQ : ∀ c a w, Q (.panic c) (a.put oi.dst v) w → Q (.panic c) a w) (hki : i ≠ k) :
    ∀ (f : Nat) (l : Array Bool) (a : Act) (w : World), (l.getD k false = true ∨ S w) →
      (∀ j oj, ops[j]? = some oj → j ≠ i → l.getD j true = false → (∀ e ∈ oj.after, Region.binds md e = true → e.on ≠ i) → oi.apart ops oj = true) →
      i ∈ Region.ready md ops l → YieldsIf P ops (fun _ => True) oi v a →
      WT P md ops Q k S f (l.setIfInBounds i true) (a.put oi.dst v) w → WT P md ops Q k S (f + 1) l a w := by
  intro f
  induction f with
  | zero =>
    intro l a w hS _ hr hy H
    refine ⟨fun h => (by rw [h] at hr; cases hr), fun j hj => ?_⟩
    by_cases hji : j = i
    · subst hji; exact hy.wpOp hi trivial ⟨by rw [getD_set_other hki]; exact hS, H⟩
    · have := ready_mono hj hji
      rw [H.1] at this
      cases this
  | succ f ih =>
    intro l a w hS hfree hr hy H
    refine ⟨fun h => (by rw [h] at hr; cases hr), fun j hj => ?_⟩
    by_cases hji : j = i
    · subst hji; exact hy.wpOp hi trivial ⟨by rw [getD_set_other hki]; exact hS, H⟩
    · have h1 := H.2 j (ready_mono hj hji)
      obtain ⟨hjun, oj, hoj, hall⟩ := mem_ready.1 hj
      have hi0 : l.getD i false = false := by
        have h0 := (mem_ready.1 hr).1
        rcases Nat.lt_or_ge i l.size with h' | h'
        · simp [h'] at h0 ⊢; exact h0
        · simp [Array.getElem?_eq_none h']
      have hnot : ∀ e ∈ oj.after, Region.binds md e = true → e.on ≠ i := fun e he hb heq => by
        have h1 := hall e he hb
        rw [heq, hi0] at h1
        cases h1
      have h2 := wpOp_putIf hoj (hfree j oj hoj hji hjun hnot) (fun cs b => hsel i oi cs b hi) (fun cs b => hsel j oj cs b hoj) hQ hy h1
      have hfree' : ∀ q oq, ops[q]? = some oq → q ≠ i → (l.setIfInBounds j true).getD q true = false →
          (∀ e ∈ oq.after, Region.binds md e = true → e.on ≠ i) → oi.apart ops oq = true := fun q oq hq hqi hun hno => by
        refine hfree q oq hq hqi ?_ hno
        by_cases hjq : j = q
        · subst hjq; exact hjun
        · rw [getD_set_other hjq] at hun; exact hun
      refine wpOp_mono (fun a' w' h3 => ?_) h2
      have hS' : (l.setIfInBounds j true).getD k false = true ∨ S w' := by
        rcases h3.2.1 with h | h
        · left
          by_cases hjk : j = k
          · subst hjk
            have hjl : j < l.size := by
              rcases Nat.lt_or_ge j l.size with h' | h'
              · exact h'
              · have := hjun; simp [Array.getElem?_eq_none h'] at this
            simp [hjl]
          · rw [getD_set_other hjk] at h ⊢
            rw [getD_set_other hki] at h
            exact h
        · exact .inr h
      refine ⟨hS', ih (l.setIfInBounds j true) a' w' hS' hfree' (ready_mono hr (Ne.symm hji)) h3.1 ?_⟩
      rw [Array.setIfInBounds_comm _ _ hji]
      exact h3.2.2
/-! The moves. -/
theorem rg_begin {id : Nat} {a : Act} {w : World} (k : Nat) (hm : P.follows .mixedOrders = true) (hQ : Calm Q) (hS : S w.drew)
    (h : ∀ Q' : Exit → Act → World → Prop, Calm Q' → (∀ a w, Q .normal a w → Q' .normal a w) → S w.drew → WT P .any ops Q' k S ops.size (Array.replicate ops.size false) a w.drew) : (Code.region id ops true).wp P Q a w :=
  wp_region_any hm (WT.any _ _ _ _ (h Q hQ (fun _ _ h => h) hS))
theorem rg_end {l : Array Bool} {a : Act} {w : World} (hr : Region.ready md ops l = []) (h : Q .normal a w) : ∀ f, WT P md ops Q k S f l a w
  | 0 => ⟨hr, h⟩
  | _ + 1 => ⟨fun _ => h, by rw [hr]; simp⟩
/-- All that the moves ask of the operation's number, at once. -/
def okTake (md : Region.Mode) (ops : Array Oper) (l : Array Bool) (k i : Nat) : Bool :=
  Region.noSelect ops && Region.free md ops l i && (Region.ready md ops l).contains i && closedB md ops l && !l.getD k false && i != k && (decide (ops.size ≤ k) || depB md ops ops.size k i)
theorem rg_tk {i : Nat} {oi : Oper} {d : Option Tmp} {v : Value} {f : Nat} {l : Array Bool} {a : Act} {w : World} (hi : ops[i]? = some oi) (hd : oi.dst = d) (hok : okTake md ops l k i = true)
    (hQ : Calm Q) (hS : S w) (hy : YieldsIf P ops S oi v a)
    (h : WT P md ops Q k S f (l.setIfInBounds i true) (a.put d v) w) : WT P md ops Q k S (f + 1) l a w := by
  subst hd
  unfold okTake at hok
  simp only [Bool.and_eq_true, Bool.not_eq_true', bne_iff_ne, ne_eq] at hok
  obtain ⟨⟨⟨⟨⟨⟨h1, h2⟩, h3⟩, h4⟩, h5⟩, h6⟩, h7⟩ := hok
  exact WT.first hi (Region.noSelect_spec h1) (hQ _ _) h6 (before_of h7) f l a w (closed_of h4) h5 (Region.free_spec hi h2) (by simpa using h3) hy hS h
theorem rg_take {i : Nat} {oi : Oper} (d : Option Tmp) {v : Value} {f : Nat} {l : Array Bool} {a : Act} {w : World} (hi : ops[i]? = some oi) (hd : oi.dst = d) (hok : okTake md ops l k i = true)
    (hw : Region.wanted oi (yielded ops a.tmps) = true) (hQ : Calm Q) (hS : S w) (hy : ∀ w, S w → (execOp a.eval oi).run P w = .ok (.value v) w)
    (h : WT P md ops Q k S f (l.setIfInBounds i true) (a.put d v) w) : WT P md ops Q k S (f + 1) l a w := rg_tk hi hd hok hQ hS (.inl ⟨hw, hy⟩) h
theorem rg_skip {i : Nat} {oi : Oper} (d : Option Tmp) {f : Nat} {l : Array Bool} {a : Act} {w : World} (hi : ops[i]? = some oi) (hd : oi.dst = d) (hok : okTake md ops l k i = true)
    (hw : Region.wanted oi (yielded ops a.tmps) = false) (hQ : Calm Q) (hS : S w)
    (h : WT P md ops Q k S f (l.setIfInBounds i true) (a.put d undef) w) : WT P md ops Q k S (f + 1) l a w := rg_tk hi hd hok hQ hS (.inr ⟨hw, rfl⟩) h
def okPure (md : Region.Mode) (ops : Array Oper) (l : Array Bool) (k i : Nat) : Bool := Region.noSelect ops && Region.free md ops l i && (Region.ready md ops l).contains i && i != k
theorem rg_pure {i : Nat} {oi : Oper} (d : Option Tmp) {v : Value} {f : Nat} {l : Array Bool} {a : Act} {w : World} (hi : ops[i]? = some oi) (hd : oi.dst = d) (hok : okPure md ops l k i = true)
    (hw : Region.wanted oi (yielded ops a.tmps) = true) (hQ : Calm Q) (hS : l.getD k false = true ∨ S w) (hy : ∀ w, (execOp a.eval oi).run P w = .ok (.value v) w)
    (h : WT P md ops Q k S f (l.setIfInBounds i true) (a.put d v) w) : WT P md ops Q k S (f + 1) l a w := by
  subst hd
  unfold okPure at hok
  simp only [Bool.and_eq_true, bne_iff_ne, ne_eq] at hok
  obtain ⟨⟨⟨h1, h2⟩, h3⟩, h4⟩ := hok
  exact WT.firstP hi (Region.noSelect_spec h1) (hQ _ _) h4 f l a w hS (Region.free_spec hi h2) (by simpa using h3) (.inl ⟨hw, fun w _ => hy w⟩) h
theorem run_v {m : Sem Value} {x : Value} {w : World} (h : m.run P w = .ok x w) : (do pure (Next.value (← m)) : Sem Next).run P w = .ok (.value x) w := by simp [h, Result.andThen]
/-- One of those that may come up. -/
def Step (P : Program) (md : Region.Mode) (ops : Array Oper) (Q : Exit → Act → World → Prop) (k : Nat) (S : World → Prop) (f : Nat) (l : Array Bool) (a : Act) (w : World) (i : Nat) : Prop :=
  wpOp P ops Q i (fun a' w' => ((l.setIfInBounds i true).getD k false = true ∨ S w') ∧ WT P md ops Q k S f (l.setIfInBounds i true) a' w') a w
theorem rg_step {i : Nat} {oi : Oper} {f : Nat} {l : Array Bool} {a : Act} {w : World} (hi : ops[i]? = some oi) (hw : Region.wanted oi (yielded ops a.tmps) = true)
    (h : ∀ K' : Act → World → Prop, Shut (∀ a w, S w → (S w → WT P md ops Q k S f (l.setIfInBounds i true) a w) → K' a w) → Oper.wp P oi a w K' Q) : Step P md ops Q k S f l a w i := by
  unfold Step wpOp
  simp only [hi, hw, if_true]
  exact .inl (h _ (fun a w hS hW => ⟨.inr hS, hW hS⟩))
/-- The late operation, and those behind it. -/
theorem rg_late {i : Nat} {oi : Oper} {f : Nat} {l : Array Bool} {a : Act} {w : World} (hi : ops[i]? = some oi) (hw : Region.wanted oi (yielded ops a.tmps) = true) (hk : (l.setIfInBounds i true).getD k false = true)
    (h : ∀ K' : Act → World → Prop, Shut (∀ a w, WT P md ops Q k S f (l.setIfInBounds i true) a w → K' a w) → Oper.wp P oi a w K' Q) : Step P md ops Q k S f l a w i := by
  unfold Step wpOp
  simp only [hi, hw, if_true]
  exact .inl (h _ (fun a w hW => ⟨.inl hk, hW⟩))
theorem rg_one {i f : Nat} {l : Array Bool} {a : Act} {w : World} (hr : Region.ready md ops l = [i]) (h : Step P md ops Q k S f l a w i) : WT P md ops Q k S (f + 1) l a w :=
  ⟨fun h0 => absurd (hr ▸ h0) (by simp), fun j hj => by rw [hr] at hj; obtain rfl := List.mem_singleton.1 hj; exact h⟩
theorem rg_two {i j f : Nat} {l : Array Bool} {a : Act} {w : World} (hr : Region.ready md ops l = [i, j]) (h1 : Step P md ops Q k S f l a w i) (h2 : Step P md ops Q k S f l a w j) : WT P md ops Q k S (f + 1) l a w :=
  ⟨fun h0 => absurd (hr ▸ h0) (by simp), fun q hq => by
    rw [hr] at hq
    rcases List.mem_cons.1 hq with rfl | hq
    · exact h1
    · obtain rfl := List.mem_singleton.1 hq; exact h2⟩
theorem rg_three {i j m f : Nat} {l : Array Bool} {a : Act} {w : World} (hr : Region.ready md ops l = [i, j, m]) (h1 : Step P md ops Q k S f l a w i) (h2 : Step P md ops Q k S f l a w j) (h3 : Step P md ops Q k S f l a w m) : WT P md ops Q k S (f + 1) l a w :=
  ⟨fun h0 => absurd (hr ▸ h0) (by simp), fun q hq => by
    rw [hr] at hq
    rcases List.mem_cons.1 hq with rfl | hq
    · exact h1
    · rcases List.mem_cons.1 hq with rfl | hq
      · exact h2
      · obtain rfl := List.mem_singleton.1 hq; exact h3⟩
/-- append, its run known. -/
theorem rg_append {o : Oper} {a : Act} {w : World} {K : Act → World → Prop} (d : Option Tmp) (s x : Operand) (t ty : TypeId) (hop : o.op = Op.call { callee := Callee.builtin Builtin.append, args := #[s, x], argTypes := #[t, t] }) (hd : o.dst = d) (hty : o.type = ty) (u v : Value) (hs : a.eval s = u) (hx : a.eval x = v)
    {R : Value → World → Prop} (hrun : ∃ v' w', (Builtin.append_ #[t, t] ty #[u, v]).run P w = .ok v' w' ∧ R v' w') (hK : ∀ v' w', R v' w' → K (a.put d v') w') : Oper.wp P o a w K Q := by
  subst hd hty
  obtain ⟨v', w', hr, hR⟩ := hrun
  unfold Oper.wp
  simp [execOp, hop, resolve, invoke, builtin, hs, hx, hr, Result.andThen]
  exact hK v' w' hR
end Go.Proofs.YtilocjliplmmpaaGreat
