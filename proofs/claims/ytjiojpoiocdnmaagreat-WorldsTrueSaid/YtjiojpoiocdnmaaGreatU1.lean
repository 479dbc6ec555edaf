/- A drawn region, walked operation by operation in an order of one's own. A condition S on the world serves the loads; one late operation (number k), before which every load must have come up, is free to break it. -/
import Derived.Deep.RegionHeld3
import Derived.WalkKit
import Derived.Lib.Hide
import Derived.Test.YtjiojpoiocdnmaaGreatU0
import Derived.Maps.AppendAt
import Derived.Deep.RegionLaw
import Derived.ArgAppend
set_option linter.unusedSimpArgs false
set_option linter.unusedVariables false
namespace Go.Proofs.YtjiojpoiocdnmaaGreat
variable {P : Program} {md : Region.Mode} {ops : Array Oper} {Q : Exit → Act → World → Prop} {S : World → Prop} {k : Nat}
/-- What the post says of a panic does not hang on the frame. -/
def Calm (Q : Exit → Act → World → Prop) : Prop := ∀ (d : Option Tmp) (v : Value) c a w, Q (.panic c) (a.put d v) w → Q (.panic c) a w
/-- Whatever order is picked from here on; until number k has come up S holds behind every operation. -/
def WT (P : Program) (md : Region.Mode) (ops : Array Oper) (Q : Exit → Act → World → Prop) (k : Nat) (S : World → Prop) : Nat → Array Bool → Act → World → Prop
  | 0, l, a, w => Region.ready md ops l = [] ∧ Q .normal a w
  | f + 1, l, a, w => (Region.ready md ops l = [] → Q .normal a w) ∧
      ∀ i ∈ Region.ready md ops l, wpOp P ops Q i (fun a' w' => ((l.setIfInBounds i true).getD k false = true ∨ S w') ∧ WT P md ops Q k S f (l.setIfInBounds i true) a' w') a w
theorem WT.any : ∀ (f : Nat) (l : Array Bool) (a : Act) (w : World), WT P md ops Q k S f l a w → wpAny P md ops Q f l a w
  | 0, _, _, _, h => h
  | f + 1, _, _, _, h => ⟨h.1, fun i hi => wpOp_mono (fun a' w' h' => WT.any f _ a' w' h'.2) (h.2 i hi)⟩
/-- Whatever has come up has those before it. -/
def Closed (md : Region.Mode) (ops : Array Oper) (l : Array Bool) : Prop := ∀ j oj, ops[j]? = some oj → l.getD j false = true → ∀ e ∈ oj.after, Region.binds md e = true → l.getD e.on false = true
def closedB (md : Region.Mode) (ops : Array Oper) (l : Array Bool) : Bool := (List.range ops.size).all fun j => !l.getD j false || ((ops[j]?).map (·.after.all fun e => !Region.binds md e || l.getD e.on false)).getD true
theorem closed_of {l : Array Bool} (h : closedB md ops l = true) : Closed md ops l := by
  intro j oj hj hl e he hb
  have hjs : j < ops.size := (Array.getElem?_eq_some_iff.1 hj).1
  have h1 := List.all_eq_true.1 h j (List.mem_range.2 hjs)
  rw [hl, hj] at h1
  simp only [Bool.not_true, Bool.false_or, Option.map_some, Option.getD_some] at h1
  have h2 := Array.all_eq_true.1 h1
  obtain ⟨i, hi, rfl⟩ := Array.mem_iff_getElem.1 he
  have h3 := h2 i hi
  rw [hb] at h3
  simpa using h3
/-- Number i comes before number k. -/
def depB (md : Region.Mode) (ops : Array Oper) : Nat → Nat → Nat → Bool
  | 0, _, _ => false
  | n + 1, k, i => ((ops[k]?).map (·.after.any fun e => Region.binds md e && (e.on == i || depB md ops n e.on i))).getD false
theorem dep_listed {l : Array Bool} (hc : Closed md ops l) {i : Nat} : ∀ (n k : Nat) (ok : Oper), ops[k]? = some ok → (∀ e ∈ ok.after, Region.binds md e = true → l.getD e.on false = true) → depB md ops n k i = true → l.getD i false = true
  | 0, _, _, _, _, h => by cases h
  | n + 1, k, ok, hk, hall, h => by
    unfold depB at h
    rw [hk] at h
    simp only [Option.map_some, Option.getD_some, Array.any_eq_true] at h
    obtain ⟨q, hq, h⟩ := h
    simp only [Bool.and_eq_true, Bool.or_eq_true, beq_iff_eq] at h
    have hon := hall _ (Array.getElem_mem hq) h.1
    rcases h.2 with h2 | h2
    · rw [← h2]; exact hon
    · have : ∃ o, ops[(ok.after[q]).on]? = some o := by
        cases n with
        | zero => cases h2
        | succ n =>
          unfold depB at h2
          cases ho : ops[(ok.after[q]).on]? with
          | none => rw [ho] at h2; cases h2
          | some o => exact ⟨o, rfl⟩
      obtain ⟨o, ho⟩ := this
      exact dep_listed hc n _ o ho (hc _ o ho hon) h2
def Before (md : Region.Mode) (ops : Array Oper) (k i : Nat) : Prop := ∀ l, Closed md ops l → k ∈ Region.ready md ops l → l.getD i false = true
theorem before_of {i : Nat} (h : (decide (ops.size ≤ k) || depB md ops ops.size k i) = true) : Before md ops k i := by
  intro l hc hk
  obtain ⟨hun, ok, hok, hall⟩ := mem_ready.1 hk
  rw [Bool.or_eq_true, decide_eq_true_eq] at h
  rcases h with h | h
  · have := (Array.getElem?_eq_some_iff.1 hok).1; omega
  · exact dep_listed hc _ _ ok hok (fun e he hb => hall e he hb) h
theorem getD_set_other {l : Array Bool} {i j : Nat} (h : i ≠ j) (d : Bool) : (l.setIfInBounds i true).getD j d = l.getD j d := by
  simp [Array.getD_eq_getD_getElem?, Array.getElem?_setIfInBounds, h]
theorem WT.first {i : Nat} {oi : Oper} {v : Value} (hi : ops[i]? = some oi) (hsel : ∀ (j : Nat) (o : Oper) cs b, ops[j]? = some o → o.op ≠ .select cs b)
    (hQ : ∀ c a w, Q (.panic c) (a.put oi.dst v) w → Q (.panic c) a w) (hki : i ≠ k) (hbf : Before md ops k i) :
    ∀ (f : Nat) (l : Array Bool) (a : Act) (w : World), Closed md ops l → l.getD k false = false →
      (∀ j oj, ops[j]? = some oj → j ≠ i → l.getD j true = false → (∀ e ∈ oj.after, Region.binds md e = true → e.on ≠ i) → oi.apart ops oj = true) →
      i ∈ Region.ready md ops l → YieldsIf P ops S oi v a → S w →
      WT P md ops Q k S f (l.setIfInBounds i true) (a.put oi.dst v) w → WT P md ops Q k S (f + 1) l a w := by
  intro f
  induction f with
  | zero =>
    intro l a w _ _ _ hr hy hS H
    refine ⟨fun h => (by rw [h] at hr; cases hr), fun j hj => ?_⟩
    by_cases hji : j = i
    · subst hji; exact hy.wpOp hi hS ⟨.inr hS, H⟩
    · have := ready_mono hj hji
      rw [H.1] at this
      cases this
  | succ f ih =>
    intro l a w hc hk hfree hr hy hS H
    refine ⟨fun h => (by rw [h] at hr; cases hr), fun j hj => ?_⟩
    by_cases hji : j = i
    · subst hji; exact hy.wpOp hi hS ⟨.inr hS, H⟩
    · have h1 := H.2 j (ready_mono hj hji)
      obtain ⟨hjun, oj, hoj, hall⟩ := mem_ready.1 hj
      have hi0 : l.getD i false = false := by
        have h0 := (mem_ready.1 hr).1
        rcases Nat.lt_or_ge i l.size with h' | h'
        · simp [h'] at h0 ⊢; exact h0
        · simp [Array.getElem?_eq_none h']
      have hnot : ∀ e ∈ oj.after, Region.binds md e = true → e.on ≠ i := fun e he hb heq => by
        have h1 := hall e he hb
        rw [heq, hi0] at h1
        cases h1
      have hjk : j ≠ k := fun e => by
        subst e
        have := hbf l hc hj
        rw [hi0] at this; cases this
      have h2 := wpOp_putIf hoj (hfree j oj hoj hji hjun hnot) (fun cs b => hsel i oi cs b hi) (fun cs b => hsel j oj cs b hoj) hQ hy h1
      have hfree' : ∀ q oq, ops[q]? = some oq → q ≠ i → (l.setIfInBounds j true).getD q true = false →
          (∀ e ∈ oq.after, Region.binds md e = true → e.on ≠ i) → oi.apart ops oq = true := fun q oq hq hqi hun hno => by
        refine hfree q oq hq hqi ?_ hno
        by_cases hjq : j = q
        · subst hjq; exact hjun
        · rw [getD_set_other hjq] at hun; exact hun
      have hc' : Closed md ops (l.setIfInBounds j true) := fun q oq hq hl e he hb => by
        by_cases hje : j = e.on
        · rw [← hje]
          have hjl : j < l.size := by
            rcases Nat.lt_or_ge j l.size with h' | h'
            · exact h'
            · have := hjun; simp [Array.getElem?_eq_none h'] at this
          simp [hjl]
        · rw [getD_set_other hje]
          by_cases hjq : j = q
          · subst hjq; rw [hoj] at hq; cases hq; exact hall e he hb
          · rw [getD_set_other hjq] at hl; exact hc q oq hq hl e he hb
      have hk' : (l.setIfInBounds j true).getD k false = false := by rw [getD_set_other hjk]; exact hk
      have hk'' : ((l.setIfInBounds i true).setIfInBounds j true).getD k false = false := by rw [getD_set_other hjk, getD_set_other hki]; exact hk
      refine wpOp_mono (fun a' w' h3 => ?_) h2
      have hS' : S w' := h3.2.1.resolve_left (by rw [hk'']; simp)
      refine ⟨.inr hS', ih (l.setIfInBounds j true) a' w' hc' hk' hfree' (ready_mono hr (Ne.symm hji)) h3.1 hS' ?_⟩
      rw [Array.setIfInBounds_comm _ _ hji]
      exact h3.2.2
/-- An operation that yields in whatever world may be taken first, the late one or not. -/
theorem WT.firstP {i : Nat} {oi : Oper} {v : Value} (hi : ops[i]? = some oi) (hsel : ∀ (j : Nat) (o : Oper) cs b, ops[j]? = some o → o.op ≠ .select cs b)
    (hQ : ∀ c a w, Q (.panic c) (a.put oi.dst v) w → Q (.panic c) a w) (hki : i ≠ k) :
    ∀ (f : Nat) (l : Array Bool) (a : Act) (w : World), (l.getD k false = true ∨ S w) →
      (∀ j oj, ops[j]? = some oj → j ≠ i → l.getD j true = false → (∀ e ∈ oj.after, Region.binds md e = true → e.on ≠ i) → oi.apart ops oj = true) →
      i ∈ Region.ready md ops l → YieldsIf P ops (fun _ => True) oi v a →
      WT P md ops Q k S f (l.setIfInBounds i true) (a.put oi.dst v) w → WT P md ops Q k S (f + 1) l a w := by
  intro f
  induction f with
  | zero =>
    intro l a w hS _ hr hy H
    refine ⟨fun h => (by rw [h] at hr; cases hr), fun j hj => ?_⟩
    by_cases hji : j = i
    · subst hji; exact hy.wpOp hi trivial ⟨by rw [getD_set_other hki]; exact hS, H⟩
    · have := ready_mono hj hji
      rw [H.1] at this
      cases this
  | succ f ih =>
    intro l a w hS hfree hr hy H
    refine ⟨fun h => (by rw [h] at hr; cases hr), fun j hj => ?_⟩
    by_cases hji : j = i
    · subst hji; exact hy.wpOp hi trivial ⟨by rw [getD_set_other hki]; exact hS, H⟩
    · have h1 := H.2 j (ready_mono hj hji)
      obtain ⟨hjun, oj, hoj, hall⟩ := mem_ready.1 hj
      have hi0 : l.getD i false = false := by
        have h0 := (mem_ready.1 hr).1
        rcases Nat.lt_or_ge i l.size with h' | h'
        · simp [h'] at h0 ⊢; exact h0
        · simp [Array.getElem?_eq_none h']
      have hnot : ∀ e ∈ oj.after, Region.binds md e = true → e.on ≠ i := fun e he hb heq => by
        have h1 := hall e he hb
        rw [heq, hi0] at h1
        cases h1
      have h2 := wpOp_putIf hoj (hfree j oj hoj hji hjun hnot) (fun cs b => hsel i oi cs b hi) (fun cs b => hsel j oj cs b hoj) hQ hy h1
      have hfree' : ∀ q oq, ops[q]? = some oq → q ≠ i → (l.setIfInBounds j true).getD q true = false →
          (∀ e ∈ oq.after, Region.binds md e = true → e.on ≠ i) → oi.apart ops oq = true := fun q oq hq hqi hun hno => by
        refine hfree q oq hq hqi ?_ hno
        by_cases hjq : j = q
        · subst hjq; exact hjun
        · rw [getD_set_other hjq] at hun; exact hun
      refine wpOp_mono (fun a' w' h3 => ?_) h2
      have hS' : (l.setIfInBounds j true).getD k false = true ∨ S w' := by
        rcases h3.2.1 with h | h
        · left
          by_cases hjk : j = k
          · subst hjk
            have hjl : j < l.size := by
              rcases Nat.lt_or_ge j l.size with h' | h'
              · exact h'
              · have := hjun; simp [Array.getElem?_eq_none h'] at this
            simp [hjl]
          · rw [getD_set_other hjk] at h ⊢
            rw [getD_set_other hki] at h
            exact h
        · exact .inr h
      refine ⟨hS', ih (l.setIfInBounds j true) a' w' hS' hfree' (ready_mono hr (Ne.symm hji)) h3.1 ?_⟩
      rw [Array.setIfInBounds_comm _ _ hji]
      exact h3.2.2
/-! The moves. -/
theorem rg_begin {id : Nat} {a : Act} {w : World} (k : Nat) (hm : P.follows .mixedOrders = true) (hQ : Calm Q) (hS : S w.drew)
    (h : ∀ Q' : Exit → Act → World → Prop, Calm Q' → (∀ a w, Q .normal a w → Q' .normal a w) → S w.drew → WT P .any ops Q' k S ops.size (Array.replicate ops.size false) a w.drew) : (Code.region id ops true).wp P Q a w :=
  wp_region_any hm (WT.any _ _ _ _ (h Q hQ (fun _ _ h => h) hS))
theorem rg_end {l : Array Bool} {a : Act} {w : World} (hr : Region.ready md ops l = []) (h : Q .normal a w) : ∀ f, WT P md ops Q k S f l a w
  | 0 => ⟨hr, h⟩
  | _ + 1 => ⟨fun _ => h, by rw [hr]; simp⟩
/-- All that the moves ask of the operation's number, at once. -/
def okTake (md : Region.Mode) (ops : Array Oper) (l : Array Bool) (k i : Nat) : Bool :=
  Region.noSelect ops && Region.free md ops l i && (Region.ready md ops l).contains i && closedB md ops l && !l.getD k false && i != k && (decide (ops.size ≤ k) || depB md ops ops.size k i)
theorem rg_tk {i : Nat} {oi : Oper} {d : Option Tmp} {v : Value} {f : Nat} {l : Array Bool} {a : Act} {w : World} (hi : ops[i]? = some oi) (hd : oi.dst = d) (hok : okTake md ops l k i = true)
    (hQ : Calm Q) (hS : S w) (hy : YieldsIf P ops S oi v a)
    (h : WT P md ops Q k S f (l.setIfInBounds i true) (a.put d v) w) : WT P md ops Q k S (f + 1) l a w := by
  subst hd
  unfold okTake at hok
  simp only [Bool.and_eq_true, Bool.not_eq_true', bne_iff_ne, ne_eq] at hok
  obtain ⟨⟨⟨⟨⟨⟨h1, h2⟩, h3⟩, h4⟩, h5⟩, h6⟩, h7⟩ := hok
  exact WT.first hi (Region.noSelect_spec h1) (hQ _ _) h6 (before_of h7) f l a w (closed_of h4) h5 (Region.free_spec hi h2) (by simpa using h3) hy hS h
theorem rg_take {i : Nat} {oi : Oper} (d : Option Tmp) {v : Value} {f : Nat} {l : Array Bool} {a : Act} {w : World} (hi : ops[i]? = some oi) (hd : oi.dst = d) (hok : okTake md ops l k i = true)
    (hw : Region.wanted oi (yielded ops a.tmps) = true) (hQ : Calm Q) (hS : S w) (hy : ∀ w, S w → (execOp a.eval oi).run P w = .ok (.value v) w)
    (h : WT P md ops Q k S f (l.setIfInBounds i true) (a.put d v) w) : WT P md ops Q k S (f + 1) l a w := rg_tk hi hd hok hQ hS (.inl ⟨hw, hy⟩) h
theorem rg_skip {i : Nat} {oi : Oper} (d : Option Tmp) {f : Nat} {l : Array Bool} {a : Act} {w : World} (hi : ops[i]? = some oi) (hd : oi.dst = d) (hok : okTake md ops l k i = true)
    (hw : Region.wanted oi (yielded ops a.tmps) = false) (hQ : Calm Q) (hS : S w)
    (h : WT P md ops Q k S f (l.setIfInBounds i true) (a.put d undef) w) : WT P md ops Q k S (f + 1) l a w := rg_tk hi hd hok hQ hS (.inr ⟨hw, rfl⟩) h
def okPure (md : Region.Mode) (ops : Array Oper) (l : Array Bool) (k i : Nat) : Bool := Region.noSelect ops && Region.free md ops l i && (Region.ready md ops l).contains i && i != k
theorem rg_pure {i : Nat} {oi : Oper} (d : Option Tmp) {v : Value} {f : Nat} {l : Array Bool} {a : Act} {w : World} (hi : ops[i]? = some oi) (hd : oi.dst = d) (hok : okPure md ops l k i = true)
    (hw : Region.wanted oi (yielded ops a.tmps) = true) (hQ : Calm Q) (hS : l.getD k false = true ∨ S w) (hy : ∀ w, (execOp a.eval oi).run P w = .ok (.value v) w)
    (h : WT P md ops Q k S f (l.setIfInBounds i true) (a.put d v) w) : WT P md ops Q k S (f + 1) l a w := by
  subst hd
  unfold okPure at hok
  simp only [Bool.and_eq_true, bne_iff_ne, ne_eq] at hok
  obtain ⟨⟨⟨h1, h2⟩, h3⟩, h4⟩ := hok
  exact WT.firstP hi (Region.noSelect_spec h1) (hQ _ _) h4 f l a w hS (Region.free_spec hi h2) (by simpa using h3) (.inl ⟨hw, fun w _ => hy w⟩) h
theorem run_v {m : Sem Value} {x : Value} {w : World} (h : m.run P w = .ok x w) : (do pure (Next.value (← m)) : Sem Next).run P w = .ok (.value x) w := by simp [h, Result.andThen]
/-- One of those that may come up. -/
def Step (P : Program) (md : Region.Mode) (ops : Array Oper) (Q : Exit → Act → World → Prop) (k : Nat) (S : World → Prop) (f : Nat) (l : Array Bool) (a : Act) (w : World) (i : Nat) : Prop :=
  wpOp P ops Q i (fun a' w' => ((l.setIfInBounds i true).getD k false = true ∨ S w') ∧ WT P md ops Q k S f (l.setIfInBounds i true) a' w') a w
theorem rg_step {i : Nat} {oi : Oper} {f : Nat} {l : Array Bool} {a : Act} {w : World} (hi : ops[i]? = some oi) (hw : Region.wanted oi (yielded ops a.tmps) = true)
    (h : ∀ K' : Act → World → Prop, Shut (∀ a w, S w → (S w → WT P md ops Q k S f (l.setIfInBounds i true) a w) → K' a w) → Oper.wp P oi a w K' Q) : Step P md ops Q k S f l a w i := by
  unfold Step wpOp
  simp only [hi, hw, if_true]
  exact .inl (h _ (fun a w hS hW => ⟨.inr hS, hW hS⟩))
/-- The late operation, and those behind it. -/
theorem rg_late {i : Nat} {oi : Oper} {f : Nat} {l : Array Bool} {a : Act} {w : World} (hi : ops[i]? = some oi) (hw : Region.wanted oi (yielded ops a.tmps) = true) (hk : (l.setIfInBounds i true).getD k false = true)
    (h : ∀ K' : Act → World → Prop, Shut (∀ a w, WT P md ops Q k S f (l.setIfInBounds i true) a w → K' a w) → Oper.wp P oi a w K' Q) : Step P md ops Q k S f l a w i := by
  unfold Step wpOp
  simp only [hi, hw, if_true]
  exact .inl (h _ (fun a w hW => ⟨.inl hk, hW⟩))
theorem rg_one {i f : Nat} {l : Array Bool} {a : Act} {w : World} (hr : Region.ready md ops l = [i]) (h : Step P md ops Q k S f l a w i) : WT P md ops Q k S (f + 1) l a w :=
  ⟨fun h0 => absurd (hr ▸ h0) (by simp), fun j hj => by rw [hr] at hj; obtain rfl := List.mem_singleton.1 hj; exact h⟩
theorem rg_two {i j f : Nat} {l : Array Bool} {a : Act} {w : World} (hr : Region.ready md ops l = [i, j]) (h1 : Step P md ops Q k S f l a w i) (h2 : Step P md ops Q k S f l a w j) : WT P md ops Q k S (f + 1) l a w :=
  ⟨fun h0 => absurd (hr ▸ h0) (by simp), fun q hq => by
    rw [hr] at hq
    rcases List.mem_cons.1 hq with rfl | hq
    · exact h1
    · obtain rfl := List.mem_singleton.1 hq; exact h2⟩
theorem rgT {oi : Oper} {v : Value} {f : Nat} {l : Array Bool} {a a' : Act} {w : World} (i : Nat) (d : Option Tmp) (hQ : Calm Q) (hS : S w) (h : WT P md ops Q k S f (l.setIfInBounds i true) a' w)
    (hi : ops[i]? = some oi := by rfl) (hd : oi.dst = d := by rfl) (hok : okTake md ops l k i = true := by kernel_rfl) (hw : Region.wanted oi (yielded ops a.tmps) = true := by rfl)
    (hy : ∀ w, S w → (execOp a.eval oi).run P w = .ok (.value v) w := by intro w7 hSw; (try dsimp only at hSw); go_simp; all_goals with_reducible rfl)
    (hp : a.put d v = a' := by (try simp only [Act.put, List.setIfInBounds_toArray, List.set_cons_zero, List.set_cons_succ]); with_reducible rfl) : WT P md ops Q k S (f + 1) l a w := by
  subst hp
  exact rg_take d hi hd hok hw hQ hS hy h
theorem rgS {oi : Oper} {f : Nat} {l : Array Bool} {a a' : Act} {w : World} (i : Nat) (d : Option Tmp) (hQ : Calm Q) (hS : S w) (h : WT P md ops Q k S f (l.setIfInBounds i true) a' w)
    (hi : ops[i]? = some oi := by rfl) (hd : oi.dst = d := by rfl) (hok : okTake md ops l k i = true := by kernel_rfl) (hw : Region.wanted oi (yielded ops a.tmps) = false := by rfl)
    (hp : a.put d undef = a' := by (try simp only [Act.put, List.setIfInBounds_toArray, List.set_cons_zero, List.set_cons_succ]); with_reducible rfl) : WT P md ops Q k S (f + 1) l a w := by
  subst hp
  exact rg_skip d hi hd hok hw hQ hS h
theorem rgB {id : Nat} {a : Act} {w W : World} (k : Nat) (SS : RowKit.Hid (∀ w', RowKit.Below W.heap.size W w' → S w')) (hb : RowKit.Below W.heap.size W w.drew)
    (h : ∀ Q' : Exit → Act → World → Prop, Calm Q' → (∀ a w, Q .normal a w → Q' .normal a w) → S w.drew → WT P .any ops Q' k S ops.size (Array.replicate ops.size false) a w.drew)
    (hm : P.follows .mixedOrders = true := by kernel_rfl) (hQ : Calm Q := by intro d; cases d <;> intro _ _ _ _ h <;> exact h) : (Code.region id ops true).wp P Q a w :=
  rg_begin k hm hQ (SS.out _ hb) h
/-- append, its run known. -/
theorem rg_append {o : Oper} {a : Act} {w : World} {K : Act → World → Prop} (d : Option Tmp) (s x : Operand) (t ty : TypeId) (hop : o.op = Op.call { callee := Callee.builtin Builtin.append, args := #[s, x], argTypes := #[t, t] }) (hd : o.dst = d) (hty : o.type = ty) (u v : Value) (hs : a.eval s = u) (hx : a.eval x = v)
    {R : Value → World → Prop} (hrun : ∃ v' w', (Builtin.append_ #[t, t] ty #[u, v]).run P w = .ok v' w' ∧ R v' w') (hK : ∀ v' w', R v' w' → K (a.put d v') w') : Oper.wp P o a w K Q := by
  subst hd hty
  obtain ⟨v', w', hr, hR⟩ := hrun
  unfold Oper.wp
  simp [execOp, hop, resolve, invoke, builtin, hs, hx, hr, Result.andThen]
  exact hK v' w' hR
end Go.Proofs.YtjiojpoiocdnmaaGreat
/- The first place at which a test says yes. No program in sight. -/
namespace Go.Proofs.YtjiojpoiocdnmaaGreat
def idxGo {α : Type} (p : α → Bool) : Nat → List α → Int
  | _, [] => -1
  | k, x :: xs => if p x then k else idxGo p (k + 1) xs
theorem drop_at {α : Type} {l : List α} {k : Nat} {x : α} (h : l[k]? = some x) : l.drop k = x :: l.drop (k + 1) := by
  obtain ⟨hk, rfl⟩ := List.getElem?_eq_some_iff.1 h
  exact List.drop_eq_getElem_cons hk
theorem idxGo_cases {α : Type} (p : α → Bool) : ∀ (k : Nat) (l : List α), (idxGo p k l = -1 ∧ ∀ x ∈ l, p x = false) ∨ ∃ (i : Nat) (x : α), idxGo p k l = (k + i : Nat) ∧ l[i]? = some x ∧ p x = true ∧ ∀ j < i, ∀ y, l[j]? = some y → p y = false
  | k, [] => .inl ⟨rfl, by simp⟩
  | k, x :: xs => by
    unfold idxGo
    cases h : p x
    · rcases idxGo_cases p (k + 1) xs with ⟨h1, h2⟩ | ⟨i, y, h1, h2, h3, h4⟩
      · left; simp [h1, h]; exact h2
      · right
        refine ⟨i + 1, y, ?_, by simpa using h2, h3, ?_⟩
        · simp [h1]; omega
        · intro j hj z hz
          cases j with
          | zero => simp at hz; subst hz; exact h
          | succ j => exact h4 j (by omega) z (by simpa using hz)
    · right; exact ⟨0, x, by simp, rfl, h, by intro j hj; omega⟩
theorem idx_step {α : Type} {p : α → Bool} {l : List α} {k : Nat} {x : α} (hx : l[k]? = some x) (hp : p x = false) (h : idxGo p 0 l = idxGo p k (l.drop k)) : idxGo p 0 l = idxGo p (k + 1) (l.drop (k + 1)) := by
  rw [h, drop_at hx]; simp [idxGo, hp]
theorem idx_hit {α : Type} {p : α → Bool} {l : List α} {k : Nat} {x : α} (hx : l[k]? = some x) (hp : p x = true) (h : idxGo p 0 l = idxGo p k (l.drop k)) : idxGo p 0 l = k := by
  rw [h, drop_at hx]; simp [idxGo, hp]
theorem idx_end {α : Type} {p : α → Bool} {l : List α} {k : Nat} (hk : l.length ≤ k) (h : idxGo p 0 l = idxGo p k (l.drop k)) : idxGo p 0 l = -1 := by
  rw [h, List.drop_eq_nil_of_le hk]; rfl
theorem idx_any {α : Type} (p : α → Bool) (l : List α) : decide (0 ≤ idxGo p 0 l) = l.any p := by
  rcases idxGo_cases p 0 l with ⟨h1, h2⟩ | ⟨i, x, h1, h2, h3, _⟩
  · rw [h1]
    have : l.any p = false := by rw [List.any_eq_false]; intro x hx; simp [h2 x hx]
    rw [this]; rfl
  · rw [h1]
    have : l.any p = true := List.any_eq_true.2 ⟨x, List.mem_of_getElem? h2, h3⟩
    rw [this]; exact decide_eq_true (by omega)
end Go.Proofs.YtjiojpoiocdnmaaGreat
/- append, in words of lists: rows of the call's own; slices that came in. No program in sight. -/
set_option linter.unusedSimpArgs false
set_option linter.unusedVariables false
namespace Go.Proofs.YtjiojpoiocdnmaaGreat
open Go.RowKit

/-- What is known of the slice type t of elements of type e, each encoded by enc in sz cells and taking b bytes. -/
structure EInfo {α : Type} (P : Program) (t e : TypeId) (enc : α → List Value) (sz b : Nat) : Prop where
  ht : P.underlying t = some (.slice e)
  hi : ∃ i z, P.info? e = some i ∧ i.zero = some z ∧ i.size = sz ∧ i.bytes = b ∧ z.cells.size = sz
  hz : 0 < sz
  hl : ∀ x, (enc x).length = sz
  h1 : ∀ x, ∀ u ∈ enc x, u.oneCell' = true

theorem flat_ones {α : Type} {enc : α → List Value} (h : ∀ x, ∀ u ∈ enc x, u.oneCell' = true) (l : List α) : ∀ u ∈ l.flatMap enc, u.oneCell' = true := by
  intro u hu
  obtain ⟨x, _, hx⟩ := List.mem_flatMap.1 hu
  exact h x u hx

/-- v is a slice in memory of the call's own (from block base on) that holds the list l. -/
def Own {α : Type} (w : World) (base : Nat) (e : TypeId) (enc : α → List Value) (sz : Nat) (v : Value) (l : List α) : Prop := w.ownsRow base e sz v l.length (l.flatMap enc)

section
variable {α : Type} {w w' : World} {base : Nat} {e : TypeId} {enc : α → List Value} {sz : Nat} {v : Value} {l : List α}
theorem Own.nil (w : World) (base : Nat) (e : TypeId) (enc : α → List Value) (sz : Nat) : Own w base e enc sz (.slice none 0 0) ([] : List α) := World.ownsRow_nil w _ e sz
theorem Own.made (w : World) (base : Nat) (e : TypeId) (enc : α → List Value) (sz : Nat) (hb : base ≤ w.heap.size) : Own (w.alloc (.cells #[] e)) base e enc sz (.slice (some ⟨w.heap.size, 0, none⟩) 0 0) ([] : List α) :=
  World.ownsRow_made w #[] 0 hb (by decide) (by simp)
theorem Own.form (h : Own w base e enc sz v l) : ∃ A c, v = .slice A l.length c ∧ l.length ≤ c ∧ (A = none → l = []) ∧ ∀ b o s, A = some ⟨b, o, s⟩ → base ≤ b ∧ o = 0 ∧ s = none ∧ b < w.heap.size ∧ ∃ cur, w.heap[b]? = some (.cells cur e (0, 0)) := by
  rcases h.2 with ⟨hv, h0⟩ | ⟨g, cap, cur, hv, hb, hg, hc, _⟩
  · have hl := List.eq_nil_of_length_eq_zero h0
    subst hl
    exact ⟨none, 0, hv, Nat.le_refl _, fun _ => rfl, fun b o s h => by cases h⟩
  · exact ⟨some ⟨g, 0, none⟩, cap, hv, hc, (fun h => by cases h), fun b o s h => by cases h; exact ⟨hb, rfl, rfl, (Array.getElem?_eq_some_iff.1 hg).1, cur, hg⟩⟩
theorem Own.some_ (h : Own w base e enc sz v l) (hn : 0 < l.length) : ∃ g c cur, v = .slice (some ⟨g, 0, none⟩) l.length c ∧ l.length ≤ c ∧ base ≤ g ∧ g < w.heap.size ∧ w.heap[g]? = some (.cells cur e (0, 0)) := by
  rcases h.2 with ⟨hv, h0⟩ | ⟨g, cap, cur, hv, hb, hg, hc, _⟩
  · omega
  · exact ⟨g, cap, cur, hv, hc, hb, (Array.getElem?_eq_some_iff.1 hg).1, hg⟩
theorem Own.slc {A : Option Addr} {n c : Nat} (hs : ∀ x, (enc x).length = sz) (hz : 0 < sz) (h : Own w base e enc sz (.slice A n c) l) : Slc w enc sz A l := by
  have hn : n = l.length := by
    rcases h.2 with ⟨hv, h0⟩ | ⟨g, cap, cur, hv, _⟩
    · injection hv with h1 h2 h3; omega
    · injection hv with h1 h2 h3
  subst hn
  exact Slc.of_own hs hz h
theorem Own.block (h : Own w base e enc sz v l) (hb : ∀ k, v.ownBlock = some k → w'.heap[k]? = w.heap[k]?) : Own w' base e enc sz v l := by
  obtain ⟨h1, h2⟩ := h
  refine ⟨h1, ?_⟩
  rcases h2 with h2 | ⟨g, cap, cur, hv, hbb, hg, r⟩
  · exact .inl h2
  · exact .inr ⟨g, cap, cur, hv, hbb, (hb g (by rw [hv]; rfl)).trans hg, r⟩
theorem Own.lt (h : Own w base e enc sz v l) : ∀ k, v.ownBlock = some k → k < w.heap.size ∧ base ≤ k := by
  intro k hk
  rcases h.2 with ⟨hv, _⟩ | ⟨g, cap, cur, hv, hbb, hg, r⟩
  · rw [hv] at hk; cases hk
  · rw [hv] at hk; cases hk; exact ⟨(Array.getElem?_eq_some_iff.1 hg).1, hbb⟩
theorem Own.ext (h : Own w base e enc sz v l) (hb : Below w.heap.size w w') : Own w' base e enc sz v l :=
  h.block (fun k hk => hb.block k (h.lt k hk).1)
theorem Own.alloc (h : Own w base e enc sz v l) (o : Obj) : Own (w.alloc o) base e enc sz v l := h.ext ((Below.refl _ _).alloc (Nat.le_refl _) _)
theorem Own.low {base' : Nat} (h : Own w base e enc sz v l) (hb : base' ≤ base) : Own w base' e enc sz v l := by
  obtain ⟨h1, h2⟩ := h
  refine ⟨h1, ?_⟩
  rcases h2 with h2 | ⟨g, cap, cur, hv, hbb, r⟩
  · exact .inl h2
  · exact .inr ⟨g, cap, cur, hv, Nat.le_trans hb hbb, r⟩
theorem Own.append {P : Program} {t : TypeId} {b : Nat} (I : EInfo P t e enc sz b) (ty : TypeId) (h : Own w base e enc sz v l) {B : Option Addr} {ys : List α} {m : Nat} (hm : m = ys.length) (c : Nat) (hs : Slc w enc sz B ys) (hby : (l.length + ys.length) * b ≤ 140737488355328) (hml : l.length + ys.length ≤ maxLen) (hbase : base ≤ w.heap.size) :
    ∃ v' w', (Builtin.append_ #[t, t] ty #[v, .slice B m c]).run P w = .ok v' w' ∧ Own w' base e enc sz v' (l ++ ys) ∧ w.grownBy w' v.ownBlock ∧ (v'.ownBlock = v.ownBlock ∨ v'.ownBlock = some w.heap.size) := by
  obtain ⟨i, z, hi, hz, hsz, hbb, hzz⟩ := I.hi
  subst hm
  cases B with
  | none =>
    have h0 : ys = [] := List.eq_nil_of_length_eq_zero (hs.none_len rfl)
    subst h0
    obtain ⟨A, c', rfl, hc, _⟩ := h.form
    refine ⟨_, w, ?_, by simpa using h, ⟨rfl, rfl, rfl, Nat.le_refl _, fun _ _ _ => rfl⟩, .inl rfl⟩
    cases A <;> simp [Builtin.append_, run_underlying I.ht, sizeOf, typeInfo, hi, Builtin.lenOf, Builtin.firstCells, hc, storeCells]
  | some a =>
    obtain ⟨v', w', h1, h2, h3, _, h5⟩ := run_append_own_at (P := P) w base t ty e i z sz b I.ht hi hz hsz hbb hzz I.hz v l.length (l.flatMap enc) h a ys.length c (ys.flatMap enc) (flat_len I.hl ys) (hs.olds I.hl a rfl) (flat_ones I.h1 ys) hml hby hbase
    refine ⟨v', w', h1, ?_, h3, h5⟩
    show w'.ownsRow base e sz v' (l ++ ys).length ((l ++ ys).flatMap enc)
    rw [List.length_append, List.flatMap_append]
    exact h2
/-- append to a slice that is full (or clipped): a new row. -/
theorem Slc.append_full {P : Program} {t : TypeId} {b : Nat} (I : EInfo P t e enc sz b) (ty : TypeId) {A : Option Addr} {n cp : Nat} (hn : n = l.length) (h : Slc w enc sz A l) (hA : A = none → cp = 0) {B : Option Addr} {ys : List α} {m : Nat} (hm : m = ys.length) (c : Nat) (hs : Slc w enc sz B ys) (hfull : cp < l.length + ys.length) (hpos : 0 < ys.length) (hby : (l.length + ys.length) * b ≤ 140737488355328) (hml : l.length + ys.length ≤ maxLen) :
    ∃ v' w', (Builtin.append_ #[t, t] ty #[.slice A n cp, .slice B m c]).run P w = .ok v' w' ∧ Own w' w.heap.size e enc sz v' (l ++ ys) ∧ w.grownBy w' none := by
  obtain ⟨i, z, hi, hz, hsz, hbb, hzz⟩ := I.hi
  subst hm hn
  cases B with
  | none => have := hs.none_len rfl; omega
  | some bd =>
    cases A with
    | none =>
      have hl0 : l = [] := List.eq_nil_of_length_eq_zero (h.none_len rfl)
      obtain rfl := hA rfl
      subst hl0
      obtain ⟨v', w', h1, h2, h3, _⟩ := (Own.nil w w.heap.size e enc sz).append I ty (hm := rfl) c hs hby hml (Nat.le_refl _)
      exact ⟨v', w', h1, h2, h3⟩
    | some a =>
      obtain ⟨v', w', h1, h2, h3⟩ := run_append_arg_grows (P := P) w t ty e i z sz b I.ht hi hz hsz hbb hzz I.hz a l.length cp (l.flatMap enc) (flat_len I.hl l) (h.olds I.hl a rfl) bd ys.length c (ys.flatMap enc) (flat_len I.hl ys) (hs.olds I.hl bd rfl) hfull hml hby
      refine ⟨v', w', h1, ?_, h3⟩
      show w'.ownsRow w.heap.size e sz v' (l ++ ys).length ((l ++ ys).flatMap enc)
      rw [List.length_append, List.flatMap_append]
      exact h2
end
theorem slc_lit {α : Type} {enc : α → List Value} {sz : Nat} (w : World) (l : List α) (cs : Array Value) (e : TypeId) (hs : ∀ x, (enc x).length = sz) (hcs : cs = (l.flatMap enc).toArray) : Slc (w.alloc (.cells cs e)) enc sz (some ⟨w.heap.size, 0, none⟩) l := by
  subst hcs
  intro i x hx
  refine ⟨w.heap.size, 0, rfl, by simp, fun j v hj => ?_⟩
  have := cells_new w (l.flatMap enc) e (i * sz + j) v (flat_put hs l i j x v hx hj)
  rw [show (⟨w.heap.size, 0, none⟩ : Addr).add (i * sz + j) = ⟨w.heap.size, 0 + i * sz + j, none⟩ by unfold Addr.add; split <;> simp_all] at this
  exact this
theorem slc_litH {α : Type} {enc : α → List Value} {sz : Nat} (w : World) (l : List α) (cs : Array Value) (e : TypeId) (hs : ∀ x, (enc x).length = sz) (hcs : cs = (l.flatMap enc).toArray) (H : Nat) (hH : w.heap.size = H) : Slc (w.alloc (.cells cs e)) enc sz (some ⟨H, 0, none⟩) l := by
  subst hH; exact slc_lit w l cs e hs hcs
theorem Own.drew_ {α : Type} {w : World} {base : Nat} {e : TypeId} {enc : α → List Value} {sz : Nat} {v : Value} {l : List α} (h : Own w base e enc sz v l) : Own w.drew base e enc sz v l := h
theorem far {w w' : World} {row : Option Nat} (hg : w.grownBy w' row) (b : Nat) (hlt : b < w.heap.size) (hne : some b ≠ row) (o : Nat) (v : Option Value) (hv : w.cell? ⟨b, o, none⟩ = v) : w'.cell? ⟨b, o, none⟩ = v :=
  (World.cell?_of_block (hg.block b hlt hne)).trans hv
theorem Slc.grown {α : Type} {w w' : World} {enc : α → List Value} {sz : Nat} {A : Option Addr} {l : List α} {row : Option Nat} (h : Slc w enc sz A l) (hg : w.grownBy w' row) (hne : ∀ b o s, A = some ⟨b, o, s⟩ → some b ≠ row) : Slc w' enc sz A l := fun i x hx => by
  obtain ⟨b, o, e, hlt, hc⟩ := h i x hx
  exact ⟨b, o, e, Nat.lt_of_lt_of_le hlt hg.size, fun j v hj => (World.cell?_of_block (w := w) (a := ⟨b, o + i * sz + j, none⟩) (hg.block b hlt (hne b o none e))).trans (hc j v hj)⟩
/-- append in a plain region, its run known. -/
theorem wpList_append_run {P : Program} {w : World} {ops : Array Oper} {rest : List Oper} {o : Oper} {a : Act} {Q : Exit → Act → World → Prop}
    (hg : o.guard = none) (s x : Operand) (t : TypeId) (hop : o.op = Op.call { callee := Callee.builtin Builtin.append, args := #[s, x], argTypes := #[t, t] }) (u v : Value) (hs : a.eval s = u) (hx : a.eval x = v)
    {v' : Value} {w' : World} (hrun : (Builtin.append_ #[t, t] o.type #[u, v]).run P w = .ok v' w') (h : wpList P ops Q rest (a.put o.dst v') w') : wpList P ops Q (o :: rest) a w := by
  refine wpList_plain hg fun K hK' => ?_
  unfold Oper.wp
  simp [execOp, hop, resolve, invoke, builtin, hs, hx, hrun, Result.andThen]
  exact hK' _ _ h
end Go.Proofs.YtjiojpoiocdnmaaGreat
