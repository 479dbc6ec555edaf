/- What offers, acceptances and messages do to a boundary, and to two neighbours. No program in sight. -/
import Derived.Test.YtmnbeikhjbjpiaaPl
set_option linter.unusedSimpArgs false
set_option linter.unusedVariables false
namespace Go.Proofs.Ytmnbeikhjbjpiaa
open Go.RowKit
theorem takeWhile_all {α : Type} {p : α → Bool} : ∀ (l : List α), (∀ x ∈ l, p x = true) → l.takeWhile p = l ∧ l.dropWhile p = []
  | [], _ => by simp
  | x :: r, h => by
    have h0 := h x List.mem_cons_self
    have ih := takeWhile_all r (fun y hy => h y (List.mem_cons_of_mem _ hy))
    simp [h0, ih.1, ih.2]
theorem put_end {l : List Ag} {a : Ag} (h : ∀ x ∈ l, x.no < a.no) : putL l a = l ++ [a] := by
  have := takeWhile_all (p := fun x : Ag => decide (x.no < a.no)) l (fun x hx => by simpa using h x hx)
  unfold putL insL
  rw [this.1, this.2]
/-- What a boundary has become: it is valid, nothing agreed was lost, and one agreement more is known. -/
structure Grew (b c : Bl) (a : Ag) : Prop where
  ok : c.ok = true
  own : c.own = b.own
  ot : c.ot = b.ot
  ag : ∀ x ∈ b.ag, x ∈ c.ag
  mem : ∀ x, (x ∈ c.ag ∨ x ∈ c.op) ↔ (x ∈ b.ag ∨ x ∈ b.op) ∨ x = a
  fit : fits b.own b.ot a = true
/-- .. and nothing more was agreed. -/
def Still (b c : Bl) : Prop := c.ag = b.ag
/-- .. or the agreement was agreed. -/
def Settled (b c : Bl) (a : Ag) : Prop := ∀ x, x ∈ c.ag ↔ x ∈ b.ag ∨ x = a
section
variable {b : Bl}
theorem offE_zero {f t m r : Int} (h : b.offE f t m r = 0) : b.ok = true ∧ fits b.own b.ot ⟨1, f, t, m, r⟩ = true ∧ newNo b.own b.ot b.ag b.op ≤ 1048576 := by
  unfold Bl.offE at h
  split at h
  · rename_i h1
    rw [Bool.and_eq_true] at h1
    split at h
    · cases h
    · exact ⟨h1.1, h1.2, by omega⟩
  · cases h
theorem offE_or (f t m r : Int) : b.offE f t m r = 0 ∨ b.offE f t m r = 480 ∨ b.offE f t m r = 2 := by
  unfold Bl.offE; split
  · split <;> simp
  · simp
theorem off_end {f t m r : Int} : putL b.op (b.offA f t m r) = b.op ++ [b.offA f t m r] := put_end newNo_gt.2.1
theorem off_grew {f t m r : Int} (h : b.offE f t m r = 0) : Grew b (b.offB f t m r) (b.offX f t m r) ∧ Still b (b.offB f t m r) ∧ b.offX f t m r = b.offA f t m r ∧ (b.offB f t m r).op = b.op ++ [b.offA f t m r] := by
  obtain ⟨h1, h2, h3⟩ := offE_zero h
  obtain ⟨g1, g2, g3⟩ := newNo_gt (own := b.own) (ot := b.ot) (ag := b.ag) (op := b.op)
  have hx : b.offX f t m r = b.offA f t m r := by unfold Bl.offX; rw [if_pos h]
  have hb : b.offB f t m r = ⟨b.own, b.ot, b.ag, putL b.op (b.offA f t m r)⟩ := by unfold Bl.offB; rw [if_pos h]
  have hf : fits b.own b.ot (b.offA f t m r) = true := fits_re h2 g3 h3
  rw [hx, hb]
  refine ⟨⟨ok_put h1 hf ⟨fun x hx e => ?_, fun x hx e => ?_⟩, rfl, rfl, fun x hx => hx, fun x => ?_, hf⟩, rfl, rfl, off_end⟩
  · have := g1 x hx; rw [e] at this; exact absurd this (Int.lt_irrefl _)
  · have := g2 x hx; rw [e] at this; exact absurd this (Int.lt_irrefl _)
  · simp only [mem_put]
    constructor
    · rintro (h | h | h)
      · exact .inl (.inl h)
      · exact .inr h
      · exact .inl (.inr h)
    · rintro ((h | h) | h)
      · exact .inl h
      · exact .inr (.inr h)
      · exact .inr (.inl h)
theorem off_new {f t m r : Int} : offd (b.offA f t m r).no b.own b.ot = true ∧ (∀ x ∈ b.ag, x.no < (b.offA f t m r).no) ∧ ∀ x ∈ b.op, x.no < (b.offA f t m r).no :=
  ⟨newNo_ours, newNo_gt.1, newNo_gt.2.1⟩
theorem heaE_zero {a : Ag} (h : b.heaE a = 0) : b.ok = true ∧ fits b.own b.ot a = true ∧ offd a.no b.own b.ot = false ∧ ∀ x, b.any a.no = some x → x = a := by
  unfold Bl.heaE at h
  split at h
  · rename_i h1
    simp only [Bool.and_eq_true, Bool.not_eq_true'] at h1
    refine ⟨h1.1.1, h1.1.2, h1.2, fun x hx => ?_⟩
    rw [hx] at h
    simp only at h
    split at h
    · assumption
    · cases h
  · cases h
theorem heaE_or (a : Ag) : b.heaE a = 0 ∨ b.heaE a = 480 := by
  unfold Bl.heaE; split
  · split
    · split <;> simp
    · simp
  · simp
theorem heaE_mk {a : Ag} (h1 : b.ok = true) (h2 : fits b.own b.ot a = true) (h3 : offd a.no b.own b.ot = false) (h4 : ∀ x, b.any a.no = some x → x = a) : b.heaE a = 0 := by
  unfold Bl.heaE
  rw [if_pos (by rw [h1, h2, h3]; rfl)]
  cases hx : b.any a.no with
  | none => rfl
  | some x => simp only; rw [if_pos (h4 x hx)]
theorem hea_grew {a : Ag} (h : b.heaE a = 0) : Grew b (b.heaB a) a ∧ Still b (b.heaB a) := by
  obtain ⟨h1, h2, h3, h4⟩ := heaE_zero h
  have hb : b.heaB a = if (b.any a.no).isSome then b else ⟨b.own, b.ot, b.ag, putL b.op a⟩ := by unfold Bl.heaB; rw [if_pos h]
  cases hx : b.any a.no with
  | some x =>
    rw [hb, hx, if_pos (show (some x).isSome = true from rfl)]
    have := h4 x hx; subst this
    have hm := (any_some hx).1
    refine ⟨⟨h1, rfl, rfl, fun x hx => hx, fun y => ⟨.inl, ?_⟩, h2⟩, rfl⟩
    rintro (h | rfl)
    · exact h
    · exact hm
  | none =>
    rw [hb, hx, if_neg (show ¬ (none : Option Ag).isSome = true by simp)]
    obtain ⟨n1, n2⟩ := any_none hx
    refine ⟨⟨ok_put h1 h2 ⟨n1, n2⟩, rfl, rfl, fun x hx => hx, fun y => ?_, h2⟩, rfl⟩
    simp only [mem_put]
    constructor
    · rintro (h | h | h)
      · exact .inl (.inl h)
      · exact .inr h
      · exact .inl (.inr h)
    · rintro ((h | h) | h)
      · exact .inl h
      · exact .inr (.inr h)
      · exact .inr (.inl h)
theorem heaB_ok {b : Bl} {a : Ag} (h : b.heaE a = 0) : b.heaB a = if (b.any a.no).isSome then b else ⟨b.own, b.ot, b.ag, putL b.op a⟩ := by unfold Bl.heaB; rw [if_pos h]
theorem accB_ok {b : Bl} {no : Int} (h : b.accE no = 0) : b.accB no = if (numd b.ag no).isSome then b else b.agree ((numd b.op no).getD zeroA) := by unfold Bl.accB; rw [if_pos h]
theorem accX_ok {b : Bl} {no : Int} (h : b.accE no = 0) : b.accX no = (b.any no).getD zeroA := by unfold Bl.accX; rw [if_pos h]
theorem conB_ok {b : Bl} {a : Ag} (h : b.conE a = 0) : b.conB a = if b.ag.contains a then b else b.agree a := by unfold Bl.conB; rw [if_pos h]
theorem hea_again {a : Ag} (h : b.heaE a = 0) : (b.heaB a).heaE a = 0 ∧ (b.heaB a).heaB a = b.heaB a := by
  obtain ⟨h1, h2, h3, h4⟩ := heaE_zero h
  obtain ⟨g, _⟩ := hea_grew h
  have hm : a ∈ (b.heaB a).ag ∨ a ∈ (b.heaB a).op := (g.mem a).2 (.inr rfl)
  have ha := any_mem g.ok hm
  have e0 : (b.heaB a).heaE a = 0 := heaE_mk g.ok (by rw [g.own, g.ot]; exact h2) (by rw [g.own, g.ot]; exact h3) (fun x hx => by rw [ha] at hx; cases hx; rfl)
  refine ⟨e0, ?_⟩
  rw [heaB_ok e0, ha, if_pos (show (some a).isSome = true from rfl)]
theorem accE_zero {no : Int} (h : b.accE no = 0) : b.ok = true ∧ offd no b.own b.ot = false ∧ ∃ x, b.any no = some x := by
  unfold Bl.accE at h
  split at h
  · rename_i h1
    simp only [Bool.and_eq_true, Bool.not_eq_true', Option.isSome_iff_exists] at h1
    exact ⟨h1.1.1, h1.1.2, h1.2⟩
  · cases h
theorem accE_or (no : Int) : b.accE no = 0 ∨ b.accE no = 480 := by unfold Bl.accE; split <;> simp
theorem accE_mk {no : Int} {x : Ag} (h1 : b.ok = true) (h2 : offd no b.own b.ot = false) (h3 : b.any no = some x) : b.accE no = 0 := by
  unfold Bl.accE; rw [if_pos (by rw [h1, h2, h3]; rfl)]
theorem agree_grew (h : b.ok = true) {a : Ag} (ha : a ∈ b.op) : Grew b (b.agree a) a ∧ Settled b (b.agree a) a := by
  refine ⟨⟨ok_agree h ha, rfl, rfl, fun x hx => mem_put.2 (.inr hx), fun x => ?_, ok_fits h (.inr ha)⟩, fun x => ?_⟩
  · simp only [Bl.agree, mem_put, mem_del]
    constructor
    · rintro ((rfl | h) | ⟨h, _⟩)
      · exact .inr rfl
      · exact .inl (.inl h)
      · exact .inl (.inr h)
    · rintro ((h | h') | rfl)
      · exact .inl (.inr h)
      · by_cases e : x.no = a.no
        · exact .inl (.inl (ok_inj h (.inr h') (.inr ha) e))
        · exact .inr ⟨h', e⟩
      · exact .inl (.inl rfl)
  · simp only [Bl.agree, mem_put]
    exact ⟨fun h => h.elim .inr .inl, fun h => h.elim .inr .inl⟩
theorem grew_self (h : b.ok = true) {a : Ag} (ha : a ∈ b.ag) : Grew b b a ∧ Settled b b a := by
  refine ⟨⟨h, rfl, rfl, fun x hx => hx, fun x => ⟨.inl, ?_⟩, ok_fits h (.inl ha)⟩, fun x => ⟨.inl, ?_⟩⟩
  · rintro (h | rfl)
    · exact h
    · exact .inl ha
  · rintro (h | rfl)
    · exact h
    · exact ha
theorem acc_grew {no : Int} (h : b.accE no = 0) : Grew b (b.accB no) (b.accX no) ∧ Settled b (b.accB no) (b.accX no) ∧ (b.accX no).no = no ∧ (b.accX no ∈ b.ag ∨ b.accX no ∈ b.op) := by
  obtain ⟨h1, h2, x, hx⟩ := accE_zero h
  have hX : b.accX no = x := by unfold Bl.accX; rw [if_pos h, hx]; rfl
  have hB : b.accB no = if (numd b.ag no).isSome then b else b.agree ((numd b.op no).getD zeroA) := by unfold Bl.accB; rw [if_pos h]
  have hm := any_some hx
  rw [hX, hB]
  cases hn : numd b.ag no with
  | some y =>
    rw [if_pos (show (some y).isSome = true from rfl)]
    unfold Bl.any at hx; rw [hn] at hx; cases hx
    obtain ⟨g1, g2⟩ := grew_self h1 (numd_some hn).1
    exact ⟨g1, g2, hm.2, hm.1⟩
  | none =>
    rw [if_neg (show ¬ (none : Option Ag).isSome = true by simp)]
    unfold Bl.any at hx; rw [hn] at hx; simp only at hx
    rw [hx]
    obtain ⟨g1, g2⟩ := agree_grew h1 (numd_some hx).1
    exact ⟨g1, g2, hm.2, hm.1⟩
theorem acc_again {no : Int} (h : b.accE no = 0) : (b.accB no).accE no = 0 ∧ (b.accB no).accB no = b.accB no ∧ (b.accB no).accX no = b.accX no := by
  obtain ⟨h1, h2, _⟩ := accE_zero h
  obtain ⟨g, s, hn, _⟩ := acc_grew h
  have hm : b.accX no ∈ (b.accB no).ag := (s _).2 (.inr rfl)
  obtain ⟨_, ⟨_, hp⟩, _⟩ := ok_iff.1 g.ok
  have hnd := numd_mem hp hm
  rw [hn] at hnd
  have ha := any_mem g.ok (.inl hm)
  rw [hn] at ha
  have e0 : (b.accB no).accE no = 0 := accE_mk g.ok (by rw [g.own, g.ot]; exact h2) ha
  refine ⟨e0, ?_, ?_⟩
  · rw [accB_ok e0, hnd, if_pos (show (some (b.accX no)).isSome = true from rfl)]
  · rw [accX_ok e0, ha]; rfl
theorem conE_zero {a : Ag} (h : b.conE a = 0) : b.ok = true ∧ offd a.no b.own b.ot = true ∧ (a ∈ b.ag ∨ a ∈ b.op) := by
  unfold Bl.conE at h
  split at h
  · rename_i h1
    simp only [Bool.and_eq_true, Bool.or_eq_true, List.contains_iff_mem] at h1
    exact ⟨h1.1.1, h1.1.2, h1.2⟩
  · cases h
theorem conE_or (a : Ag) : b.conE a = 0 ∨ b.conE a = 480 := by unfold Bl.conE; split <;> simp
theorem conE_mk {a : Ag} (h1 : b.ok = true) (h2 : offd a.no b.own b.ot = true) (h3 : a ∈ b.ag ∨ a ∈ b.op) : b.conE a = 0 := by
  unfold Bl.conE
  rw [if_pos]
  simp only [Bool.and_eq_true, Bool.or_eq_true, List.contains_iff_mem]
  exact ⟨⟨h1, h2⟩, h3⟩
theorem con_grew {a : Ag} (h : b.conE a = 0) : Grew b (b.conB a) a ∧ Settled b (b.conB a) a := by
  obtain ⟨h1, h2, h3⟩ := conE_zero h
  have hB : b.conB a = if b.ag.contains a then b else b.agree a := by unfold Bl.conB; rw [if_pos h]
  rw [hB]
  split
  · rename_i hc
    exact grew_self h1 (by simpa using hc)
  · rename_i hc
    exact agree_grew h1 (h3.resolve_left (by simpa using hc))
theorem con_again {a : Ag} (h : b.conE a = 0) : (b.conB a).conE a = 0 ∧ (b.conB a).conB a = b.conB a := by
  obtain ⟨h1, h2, h3⟩ := conE_zero h
  obtain ⟨g, s⟩ := con_grew h
  have hm : a ∈ (b.conB a).ag := (s _).2 (.inr rfl)
  have e0 : (b.conB a).conE a = 0 := conE_mk g.ok (by rw [g.own, g.ot]; exact h2) (.inl hm)
  refine ⟨e0, ?_⟩
  rw [conB_ok e0, if_pos (by simpa using hm)]
end
/-! Two neighbours. -/
structure Lt where
  to : Bool
  acc : Bool
  a : Ag
structure Pr where
  x : Bl
  y : Bl
  sent : List Lt
def Pr.s (p : Pr) (i : Bool) : Bl := match i with | false => p.x | true => p.y
def Pr.set (p : Pr) (i : Bool) (b : Bl) : Pr := match i with | false => ⟨b, p.y, p.sent⟩ | true => ⟨p.x, b, p.sent⟩
def Pr.say (p : Pr) (l : Lt) : Pr := ⟨p.x, p.y, p.sent ++ [l]⟩
def Bl.has (b : Bl) (x : Ag) : Prop := x ∈ b.ag ∨ x ∈ b.op
structure Two (p : Pr) : Prop where
  ok : ∀ i, (p.s i).ok = true
  ctr : ∀ i, (p.s i).ot = (p.s (!i)).own
  heard : ∀ i x, (p.s i).has x → offd x.no (p.s i).own (p.s i).ot = false → (p.s (!i)).has x
  agr : ∀ i x, x ∈ (p.s i).ag → offd x.no (p.s i).own (p.s i).ot = true → x ∈ (p.s (!i)).ag
  told : ∀ i x, x ∈ (p.s i).ag → offd x.no (p.s i).own (p.s i).ot = false → ⟨!i, true, x⟩ ∈ p.sent
  acc : ∀ l ∈ p.sent, l.acc = true → offd l.a.no (p.s l.to).own (p.s l.to).ot = true ∧ l.a ∈ (p.s (!l.to)).ag ∧ (p.s l.to).has l.a
  off : ∀ l ∈ p.sent, l.acc = false → offd l.a.no (p.s l.to).own (p.s l.to).ot = false ∧ (p.s (!l.to)).has l.a
theorem Two.flip {p : Pr} (h : Two p) (no : Int) (i : Bool) : offd no (p.s (!i)).own (p.s (!i)).ot = !offd no (p.s i).own (p.s i).ot := by
  have h1 := h.ctr i
  have h2 := h.ctr (!i)
  rw [Bool.not_not] at h2
  rw [← h1, h2]
  exact offd_not (cen_ne (ok_iff.1 (h.ok i)).1)
/-- One number, one agreement, on both sides. -/
theorem Two.same {p : Pr} (h : Two p) {i : Bool} {x y : Ag} (hx : (p.s i).has x) (hy : (p.s (!i)).has y) (e : y.no = x.no) : y = x := by
  cases ho : offd x.no (p.s i).own (p.s i).ot with
  | false => exact ok_inj (h.ok (!i)) hy (h.heard i x hx ho) e
  | true =>
    have h2 : offd y.no (p.s (!i)).own (p.s (!i)).ot = false := by rw [h.flip, e, ho]; rfl
    have h3 := h.heard (!i) y hy h2
    rw [Bool.not_not] at h3
    exact ok_inj (h.ok i) h3 hx e
theorem set_s (p : Pr) (i : Bool) (b : Bl) : (p.set i b).s i = b := by cases i <;> rfl
theorem set_o (p : Pr) (i : Bool) (b : Bl) : (p.set i b).s (!i) = p.s (!i) := by cases i <;> rfl
theorem set_sent (p : Pr) (i : Bool) (b : Bl) : (p.set i b).sent = p.sent := by cases i <;> rfl
theorem say_s (p : Pr) (l : Lt) (i : Bool) : (p.say l).s i = p.s i := by cases i <;> rfl
theorem not_or (i j : Bool) : j = i ∨ j = !i := by cases i <;> cases j <;> simp
theorem nn (i : Bool) : (!(!i)) = i := by cases i <;> rfl
/-- A side learns of an agreement, and nothing is agreed. -/
theorem Two.still {p : Pr} (h : Two p) {i : Bool} {c : Bl} {a : Ag} (g : Grew (p.s i) c a) (s : Still (p.s i) c) (ha : offd a.no (p.s i).own (p.s i).ot = true ∨ (p.s (!i)).has a) : Two (p.set i c) := by
  have gm : ∀ x, (p.s i).has x → c.has x := fun x hx => (g.mem x).2 (.inl hx)
  have gh : ∀ x, c.has x → offd x.no (p.s i).own (p.s i).ot = false → (p.s (!i)).has x := fun x hx ho => by
    rcases (g.mem x).1 hx with hx | rfl
    · exact h.heard i x hx ho
    · rcases ha with ha | ha
      · rw [ha] at ho; cases ho
      · exact ha
  refine ⟨fun j => ?_, fun j => ?_, fun j x => ?_, fun j x => ?_, fun j x => ?_, fun l hl => ?_, fun l hl => ?_⟩
  · rcases not_or i j with rfl | rfl
    · rw [set_s]; exact g.ok
    · rw [set_o]; exact h.ok _
  · rcases not_or i j with rfl | rfl
    · rw [set_s, set_o, g.ot]; exact h.ctr _
    · rw [nn, set_s, set_o, g.own]; have := h.ctr (!i); rwa [nn] at this
  · rcases not_or i j with rfl | rfl
    · rw [set_s, set_o, g.own, g.ot]; exact gh x
    · rw [nn, set_s, set_o]; intro h1 h2; have := h.heard (!i) x h1 h2; rw [nn] at this; exact gm x this
  · rcases not_or i j with rfl | rfl
    · rw [set_s, set_o, g.own, g.ot, s]; exact h.agr _ x
    · rw [nn, set_s, set_o, s]; have := h.agr (!i) x; rwa [nn] at this
  · rw [set_sent]
    rcases not_or i j with rfl | rfl
    · rw [set_s, g.own, g.ot, s]; exact h.told _ x
    · rw [set_o]; exact h.told _ x
  · rw [set_sent] at hl
    intro hc
    obtain ⟨h1, h2, h3⟩ := h.acc l hl hc
    rcases not_or i l.to with e | e
    · rw [e] at h1 h2 h3 ⊢; rw [set_s, set_o, g.own, g.ot]; exact ⟨h1, h2, gm _ h3⟩
    · rw [e] at h1 h2 h3 ⊢; rw [nn] at h2; rw [nn, set_s, set_o, s]; exact ⟨h1, h2, h3⟩
  · rw [set_sent] at hl
    intro hc
    obtain ⟨h1, h2⟩ := h.off l hl hc
    rcases not_or i l.to with e | e
    · rw [e] at h1 h2 ⊢; rw [set_s, set_o, g.own, g.ot]; exact ⟨h1, h2⟩
    · rw [e] at h1 h2 ⊢; rw [nn] at h2; rw [nn, set_s, set_o]; exact ⟨h1, gm _ h2⟩
/-- An offer is sent. -/
theorem Two.sayO {p : Pr} (h : Two p) {i : Bool} {a : Ag} (h1 : offd a.no (p.s i).own (p.s i).ot = true) (h2 : (p.s i).has a) : Two (p.say ⟨!i, false, a⟩) := by
  refine ⟨fun j => ?_, fun j => ?_, fun j x => ?_, fun j x => ?_, fun j x => ?_, fun l hl => ?_, fun l hl => ?_⟩
  · rw [say_s]; exact h.ok j
  · rw [say_s, say_s]; exact h.ctr j
  · rw [say_s, say_s]; exact h.heard j x
  · rw [say_s, say_s]; exact h.agr j x
  · rw [say_s]; intro h3 h4; exact List.mem_append_left _ (h.told j x h3 h4)
  · rw [say_s, say_s]; intro hc
    rcases List.mem_append.1 hl with hl | hl
    · exact h.acc l hl hc
    · obtain rfl := List.mem_singleton.1 hl; cases hc
  · rw [say_s, say_s]; intro hc
    rcases List.mem_append.1 hl with hl | hl
    · exact h.off l hl hc
    · obtain rfl := List.mem_singleton.1 hl
      simp only [nn]
      exact ⟨by rw [h.flip, h1]; rfl, h2⟩
/-- An agreement is settled at a side; the news of it is sent, or it had been settled at the other side. -/
theorem Two.settled {p : Pr} (h : Two p) {i : Bool} {c : Bl} {a : Ag} (g : Grew (p.s i) c a) (s : Settled (p.s i) c a) (hk : (p.s i).has a) (q : List Lt) (hq : q = p.sent ∨ q = p.sent ++ [⟨!i, true, a⟩] ∧ offd a.no (p.s i).own (p.s i).ot = false)
    (ha : offd a.no (p.s i).own (p.s i).ot = true ∧ a ∈ (p.s (!i)).ag ∨ q = p.sent ++ [⟨!i, true, a⟩] ∧ offd a.no (p.s i).own (p.s i).ot = false) : Two ⟨(p.set i c).x, (p.set i c).y, q⟩ := by
  have hs : ∀ j, (Pr.s ⟨(p.set i c).x, (p.set i c).y, q⟩ j) = (p.set i c).s j := fun j => by cases j <;> rfl
  have gm : ∀ x, (p.s i).has x → c.has x := fun x hx => (g.mem x).2 (.inl hx)
  have gm' : ∀ x, c.has x → (p.s i).has x := fun x hx => by
    rcases (g.mem x).1 hx with hx | rfl
    · exact hx
    · exact hk
  have hsub : ∀ l ∈ p.sent, l ∈ q := fun l hl => by
    rcases hq with rfl | ⟨rfl, _⟩
    · exact hl
    · exact List.mem_append_left _ hl
  refine ⟨fun j => ?_, fun j => ?_, fun j x => ?_, fun j x => ?_, fun j x => ?_, fun l hl => ?_, fun l hl => ?_⟩
  · rw [hs]
    rcases not_or i j with rfl | rfl
    · rw [set_s]; exact g.ok
    · rw [set_o]; exact h.ok _
  · rw [hs, hs]
    rcases not_or i j with rfl | rfl
    · rw [set_s, set_o, g.ot]; exact h.ctr _
    · rw [nn, set_s, set_o, g.own]; have := h.ctr (!i); rwa [nn] at this
  · rw [hs, hs]
    rcases not_or i j with rfl | rfl
    · rw [set_s, set_o, g.own, g.ot]; exact fun h1 h2 => h.heard j x (gm' x h1) h2
    · rw [nn, set_s, set_o]; intro h1 h2; have := h.heard (!i) x h1 h2; rw [nn] at this; exact gm x this
  · rw [hs, hs]
    rcases not_or i j with rfl | rfl
    · rw [set_s, set_o, g.own, g.ot]
      intro h1 h2
      rcases (s x).1 h1 with h1 | rfl
      · exact h.agr _ x h1 h2
      · rcases ha with ha | ha
        · exact ha.2
        · rw [h2] at ha; cases ha.2
    · rw [nn, set_s, set_o]; intro h1 h2
      have := h.agr (!i) x h1 h2; rw [nn] at this; exact g.ag x this
  · rw [hs]
    rcases not_or i j with rfl | rfl
    · rw [set_s, g.own, g.ot]
      intro h1 h2
      rcases (s x).1 h1 with h1 | rfl
      · exact hsub _ (h.told _ x h1 h2)
      · rcases ha with ha | ⟨rfl, _⟩
        · rw [h2] at ha; cases ha.1
        · exact List.mem_append_right _ (List.mem_singleton.2 rfl)
    · rw [set_o]; exact fun h1 h2 => hsub _ (h.told _ x h1 h2)
  · rw [hs, hs]
    intro hc
    have old : l ∈ p.sent → _ := fun hl => h.acc l hl hc
    by_cases hl' : l ∈ p.sent
    · obtain ⟨h1, h2, h3⟩ := old hl'
      rcases not_or i l.to with e | e
      · rw [e] at h1 h2 h3 ⊢; rw [set_s, set_o, g.own, g.ot]; exact ⟨h1, h2, gm _ h3⟩
      · rw [e] at h1 h2 h3 ⊢; rw [nn] at h2; rw [nn, set_s, set_o]; exact ⟨h1, g.ag _ h2, h3⟩
    · rcases hq with rfl | ⟨rfl, ho⟩
      · exact absurd hl hl'
      · rcases List.mem_append.1 hl with hl | hl
        · exact absurd hl hl'
        obtain rfl := List.mem_singleton.1 hl
        simp only [nn]
        rw [set_s, set_o]
        refine ⟨by rw [h.flip, ho]; rfl, (s a).2 (.inr rfl), h.heard i a hk ho⟩
  · rw [hs, hs]
    intro hc
    have hl' : l ∈ p.sent := by
      rcases hq with rfl | ⟨rfl, ho⟩
      · exact hl
      · rcases List.mem_append.1 hl with hl | hl
        · exact hl
        · obtain rfl := List.mem_singleton.1 hl; cases hc
    obtain ⟨h1, h2⟩ := h.off l hl' hc
    rcases not_or i l.to with e | e
    · rw [e] at h1 h2 ⊢; rw [set_s, set_o, g.own, g.ot]; exact ⟨h1, h2⟩
    · rw [e] at h1 h2 ⊢; rw [nn] at h2; rw [nn, set_s, set_o]; exact ⟨h1, gm _ h2⟩
theorem Two.start {a b : Int} (h : cen a b = true) : Two ⟨⟨a, b, [], []⟩, ⟨b, a, [], []⟩, []⟩ := by
  have hne := cen_ne h
  have h' : cen b a = true := by unfold cen at h ⊢; simp only [Bool.and_eq_true, decide_eq_true_eq] at h ⊢; omega
  refine ⟨fun j => ?_, fun j => by cases j <;> rfl, fun j x hx => ?_, fun j x hx => ?_, fun j x hx => ?_, (fun l hl => (by cases hl)), (fun l hl => (by cases hl))⟩
  · cases j
    · exact ok_iff.2 ⟨h, by simp [Pr.s], by simp [Pr.s], by simp [Pr.s]⟩
    · exact ok_iff.2 ⟨h', by simp [Pr.s], by simp [Pr.s], by simp [Pr.s]⟩
  · cases j <;> simp [Pr.s, Bl.has] at hx
  · cases j <;> simp [Pr.s] at hx
  · cases j <;> simp [Pr.s] at hx
/-! What may happen. -/
theorem Two.offer {p : Pr} (h : Two p) {i : Bool} {f t m r : Int} (he : (p.s i).offE f t m r = 0) : Two ((p.set i ((p.s i).offB f t m r)).say ⟨!i, false, (p.s i).offX f t m r⟩) := by
  obtain ⟨g, s, hx, _⟩ := off_grew he
  obtain ⟨n1, n2, n3⟩ := off_new (b := p.s i) (f := f) (t := t) (m := m) (r := r)
  rw [← hx] at n1
  have := h.still g s (.inl n1)
  refine this.sayO (i := i) ?_ ?_
  · rw [set_s, g.own, g.ot]; exact n1
  · rw [set_s]; exact (g.mem _).2 (.inr rfl)
theorem Two.hearOk {p : Pr} (h : Two p) {l : Lt} (hl : l ∈ p.sent) (hc : l.acc = false) : (p.s l.to).heaE l.a = 0 ∧ Two (p.set l.to ((p.s l.to).heaB l.a)) := by
  obtain ⟨h1, h2⟩ := h.off l hl hc
  have hf : fits (p.s l.to).own (p.s l.to).ot l.a = true := by
    have hf0 := ok_fits (h.ok (!l.to)) h2
    have e1 := h.ctr l.to
    have e2 := h.ctr (!l.to)
    rw [nn] at e2
    rw [fits_iff] at hf0 ⊢
    rw [e1, ← e2]
    exact ⟨hf0.1.symm, hf0.2⟩
  have he : (p.s l.to).heaE l.a = 0 := heaE_mk (h.ok _) hf h1 (fun x hx => by
    obtain ⟨m1, m2⟩ := any_some hx
    exact (h.same (i := l.to) m1 h2 m2.symm).symm)
  obtain ⟨g, s⟩ := hea_grew he
  exact ⟨he, h.still g s (.inr h2)⟩
theorem Two.confirmOk {p : Pr} (h : Two p) {l : Lt} (hl : l ∈ p.sent) (hc : l.acc = true) : (p.s l.to).conE l.a = 0 ∧ Two (p.set l.to ((p.s l.to).conB l.a)) := by
  obtain ⟨h1, h2, h3⟩ := h.acc l hl hc
  have he : (p.s l.to).conE l.a = 0 := conE_mk (h.ok _) h1 h3
  obtain ⟨g, s⟩ := con_grew he
  have := h.settled g s h3 p.sent (.inl rfl) (.inl ⟨h1, h2⟩)
  refine ⟨he, ?_⟩
  have e : (⟨(p.set l.to ((p.s l.to).conB l.a)).x, (p.set l.to ((p.s l.to).conB l.a)).y, p.sent⟩ : Pr) = p.set l.to ((p.s l.to).conB l.a) := by cases l.to <;> rfl
  rwa [e] at this
theorem Two.acceptOk {p : Pr} (h : Two p) {i : Bool} {a : Ag} (ha : a ∈ (p.s i).op) (ho : offd a.no (p.s i).ot (p.s i).own = true) : (p.s i).accE a.no = 0 ∧ Two ((p.set i ((p.s i).accB a.no)).say ⟨!i, true, (p.s i).accX a.no⟩) := by
  have ho' : offd a.no (p.s i).own (p.s i).ot = false := by
    have := offd_not (no := a.no) (cen_ne (ok_iff.1 (h.ok i)).1)
    rw [ho] at this
    cases hh : offd a.no (p.s i).own (p.s i).ot with
    | false => rfl
    | true => rw [hh] at this; cases this
  have he : (p.s i).accE a.no = 0 := accE_mk (h.ok i) ho' (any_mem (h.ok i) (.inr ha))
  obtain ⟨g, s, hn, hm⟩ := acc_grew he
  have hoX : offd ((p.s i).accX a.no).no (p.s i).own (p.s i).ot = false := by rw [hn]; exact ho'
  have := h.settled g s hm (p.sent ++ [⟨!i, true, (p.s i).accX a.no⟩]) (.inr ⟨rfl, hoX⟩) (.inr ⟨rfl, hoX⟩)
  refine ⟨he, ?_⟩
  have e : (⟨(p.set i ((p.s i).accB a.no)).x, (p.set i ((p.s i).accB a.no)).y, p.sent ++ [⟨!i, true, (p.s i).accX a.no⟩]⟩ : Pr) = (p.set i ((p.s i).accB a.no)).say ⟨!i, true, (p.s i).accX a.no⟩ := by cases i <;> rfl
  rwa [e] at this
/-- All news has arrived: both have agreed to the same. -/
theorem Two.meet {p : Pr} (h : Two p) (hd : ∀ l ∈ p.sent, l.acc = true → l.a ∈ (p.s l.to).ag) : p.x.ag = p.y.ag := by
  have key : ∀ i x, x ∈ (p.s i).ag → x ∈ (p.s (!i)).ag := fun i x hx => by
    cases ho : offd x.no (p.s i).own (p.s i).ot with
    | true => exact h.agr i x hx ho
    | false => exact hd _ (h.told i x hx ho) rfl
  obtain ⟨_, ⟨_, h1⟩, _⟩ := ok_iff.1 (h.ok false)
  obtain ⟨_, ⟨_, h2⟩, _⟩ := ok_iff.1 (h.ok true)
  exact pw_ext (R := fun x y : Ag => x.no < y.no) (fun x => Int.lt_irrefl _) (fun x y z => Int.lt_trans) _ _ h1 h2 fun x => ⟨key false x, key true x⟩
end Go.Proofs.Ytmnbeikhjbjpiaa
