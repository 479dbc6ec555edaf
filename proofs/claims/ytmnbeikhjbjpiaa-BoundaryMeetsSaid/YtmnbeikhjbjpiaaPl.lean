/- What the boundary's functions answer, in plain Lean: offers, acceptances, rates. No program in sight. -/
import Derived.Test.YtmnbeikhjbjpiaaPlain
set_option linter.unusedSimpArgs false
set_option linter.unusedVariables false
namespace Go.Proofs.Ytmnbeikhjbjpiaa
open Go.RowKit
def zeroA : Ag := ⟨0, 0, 0, 0, 0⟩
/-- A boundary as it is seen: its centres and its lists. -/
structure Bl where
  own : Int
  ot : Int
  ag : List Ag
  op : List Ag
deriving DecidableEq
def Bl.ok (b : Bl) : Bool := chkB b.own b.ot b.ag b.op
def zeroB : Bl := ⟨0, 0, [], []⟩
/-! Rates. -/
def cnt (f t m : Int) (a : Ag) : Bool := decide (a.f = f) && decide (a.t = t) && decide (a.m ≤ m)
def later (a b : Ag) : Bool := decide (b.m < a.m) || (decide (a.m = b.m) && decide (b.no ≤ a.no))
def rStep (f t m : Int) (o : Option Ag) (a : Ag) : Option Ag := if cnt f t m a then (match o with | none => some a | some b => if later a b then some a else some b) else o
def rateL (l : List Ag) (f t m : Int) : Option Ag := l.foldl (rStep f t m) none
def rateV (o : Option Ag) : Int := match o with | none => 0 | some a => a.r
theorem rate_take {l : List Ag} {k : Nat} {x : Ag} {f t m : Int} (hx : l[k]? = some x) : rateL (l.take (k + 1)) f t m = rStep f t m (rateL (l.take k) f t m) x := by
  unfold rateL
  rw [List.take_add_one, hx]; simp
theorem foldl_skip {f t m : Int} : ∀ (l : List Ag) (o : Option Ag), (∀ x ∈ l, cnt f t m x = false) → l.foldl (rStep f t m) o = o
  | [], o, _ => rfl
  | x :: r, o, h => by
    rw [List.foldl_cons]
    have : rStep f t m o x = o := by unfold rStep; rw [h x List.mem_cons_self]; rfl
    rw [this]; exact foldl_skip r o (fun y hy => h y (List.mem_cons_of_mem _ hy))
theorem rate_put {l : List Ag} {a : Ag} {f t m : Int} (h : cnt f t m a = false) : rateL (putL l a) f t m = rateL l f t m := by
  unfold rateL putL insL
  rw [List.foldl_append, List.foldl_cons]
  have : ∀ o, rStep f t m o a = o := fun o => by unfold rStep; rw [h]; rfl
  rw [this, ← List.foldl_append, List.takeWhile_append_dropWhile]
theorem foldl_some {f t m : Int} : ∀ (l : List Ag) (o : Option Ag), (∀ b, o = some b → cnt f t m b = true) → (l.foldl (rStep f t m) o).isSome = (o.isSome || l.any (cnt f t m)) ∧
    ∀ b, l.foldl (rStep f t m) o = some b → (o = some b ∨ b ∈ l) ∧ cnt f t m b = true ∧ (∀ x ∈ l, cnt f t m x = true → ¬ (b.m < x.m ∨ x.m = b.m ∧ b.no < x.no)) ∧ ∀ y, o = some y → ¬ (b.m < y.m ∨ y.m = b.m ∧ b.no < y.no)
  | [], o, h => by
    refine ⟨by simp, fun b hb => ⟨.inl hb, h b hb, by simp, fun y hy => ?_⟩⟩
    simp only [List.foldl_nil] at hb
    rw [hy] at hb; cases hb; omega
  | x :: r, o, h => by
    rw [List.foldl_cons, List.any_cons]
    cases hc : cnt f t m x with
    | false =>
      have e : rStep f t m o x = o := by unfold rStep; rw [hc]; rfl
      rw [e]
      obtain ⟨h1, h2⟩ := foldl_some r o h
      refine ⟨by rw [h1]; simp, fun b hb => ?_⟩
      obtain ⟨h3, h4, h5, h6⟩ := h2 b hb
      refine ⟨h3.elim .inl (fun h => .inr (List.mem_cons_of_mem _ h)), h4, fun y hy hyc => ?_, h6⟩
      rcases List.mem_cons.1 hy with rfl | hy
      · rw [hc] at hyc; cases hyc
      · exact h5 y hy hyc
    | true =>
      cases o with
      | none =>
        have e : rStep f t m none x = some x := by unfold rStep; rw [hc]; rfl
        rw [e]
        obtain ⟨h1, h2⟩ := foldl_some r (some x) (fun b hb => by cases hb; exact hc)
        refine ⟨by rw [h1]; simp, fun b hb => ?_⟩
        obtain ⟨h3, h4, h5, h6⟩ := h2 b hb
        refine ⟨.inr ?_, h4, fun y hy hyc => ?_, fun y hy => by cases hy⟩
        · rcases h3 with h3 | h3
          · cases h3; exact List.mem_cons_self
          · exact List.mem_cons_of_mem _ h3
        · rcases List.mem_cons.1 hy with rfl | hy
          · exact h6 y rfl
          · exact h5 y hy hyc
      | some c =>
        have e : rStep f t m (some c) x = if later x c then some x else some c := by unfold rStep; rw [hc]; rfl
        rw [e]
        have hcc := h c rfl
        cases hl : later x c with
        | true =>
          obtain ⟨h1, h2⟩ := foldl_some r (some x) (fun b hb => by cases hb; exact hc)
          refine ⟨by rw [if_pos rfl, h1]; simp, fun b hb => ?_⟩
          rw [if_pos rfl] at hb
          obtain ⟨h3, h4, h5, h6⟩ := h2 b hb
          have h7 := h6 x rfl
          simp only [later, Bool.or_eq_true, Bool.and_eq_true, decide_eq_true_eq] at hl
          refine ⟨.inr ?_, h4, fun y hy hyc => ?_, fun y hy => ?_⟩
          · rcases h3 with h3 | h3
            · cases h3; exact List.mem_cons_self
            · exact List.mem_cons_of_mem _ h3
          · rcases List.mem_cons.1 hy with rfl | hy
            · exact h7
            · exact h5 y hy hyc
          · cases hy; omega
        | false =>
          obtain ⟨h1, h2⟩ := foldl_some r (some c) (fun b hb => by cases hb; exact hcc)
          refine ⟨by rw [if_neg (by simp), h1]; simp, fun b hb => ?_⟩
          rw [if_neg (by simp)] at hb
          obtain ⟨h3, h4, h5, h6⟩ := h2 b hb
          have h7 := h6 c rfl
          simp only [later, Bool.or_eq_false_iff, Bool.and_eq_false_iff, decide_eq_false_iff_not] at hl
          refine ⟨?_, h4, fun y hy hyc => ?_, h6⟩
          · rcases h3 with h3 | h3
            · exact .inl h3
            · exact .inr (List.mem_cons_of_mem _ h3)
          · rcases List.mem_cons.1 hy with rfl | hy
            · omega
            · exact h5 y hy hyc
theorem rate_isSome {l : List Ag} {f t m : Int} : (rateL l f t m).isSome = l.any (cnt f t m) := by
  have := (foldl_some (f := f) (t := t) (m := m) l none (fun b hb => by cases hb)).1
  simpa [rateL] using this
theorem rate_best {l : List Ag} {f t m : Int} {b : Ag} (h : rateL l f t m = some b) : b ∈ l ∧ cnt f t m b = true ∧ ∀ x ∈ l, cnt f t m x = true → ¬ (b.m < x.m ∨ x.m = b.m ∧ b.no < x.no) := by
  obtain ⟨h1, h2, h3, _⟩ := (foldl_some (f := f) (t := t) (m := m) l none (fun b hb => by cases hb)).2 b h
  exact ⟨h1.resolve_left (fun h => by cases h), h2, h3⟩
/-! What the functions answer. -/
def Bl.new (own ot : Int) : Bl := if cen own ot then ⟨own, ot, [], []⟩ else zeroB
def newE (own ot : Int) : Int := if cen own ot then 0 else 480
def Bl.chk (b : Bl) : Int := if b.ok then 0 else 480
def Bl.offA (b : Bl) (f t m r : Int) : Ag := ⟨newNo b.own b.ot b.ag b.op, f, t, m, r⟩
def Bl.offE (b : Bl) (f t m r : Int) : Int := if b.ok && fits b.own b.ot ⟨1, f, t, m, r⟩ then (if 1048576 < newNo b.own b.ot b.ag b.op then 2 else 0) else 480
def Bl.offB (b : Bl) (f t m r : Int) : Bl := if b.offE f t m r = 0 then ⟨b.own, b.ot, b.ag, putL b.op (b.offA f t m r)⟩ else zeroB
def Bl.offX (b : Bl) (f t m r : Int) : Ag := if b.offE f t m r = 0 then b.offA f t m r else zeroA
/-- The agreement with a number, agreed or open. -/
def Bl.any (b : Bl) (no : Int) : Option Ag := match numd b.ag no with | some x => some x | none => numd b.op no
def Bl.heaE (b : Bl) (a : Ag) : Int := if b.ok && fits b.own b.ot a && !offd a.no b.own b.ot then (match b.any a.no with | some x => if x = a then 0 else 480 | none => 0) else 480
def Bl.heaB (b : Bl) (a : Ag) : Bl := if b.heaE a = 0 then (if (b.any a.no).isSome then b else ⟨b.own, b.ot, b.ag, putL b.op a⟩) else zeroB
def Bl.agree (b : Bl) (a : Ag) : Bl := ⟨b.own, b.ot, putL b.ag a, delL b.op a.no⟩
def Bl.accE (b : Bl) (no : Int) : Int := if b.ok && !offd no b.own b.ot && (b.any no).isSome then 0 else 480
def Bl.accX (b : Bl) (no : Int) : Ag := if b.accE no = 0 then (b.any no).getD zeroA else zeroA
def Bl.accB (b : Bl) (no : Int) : Bl := if b.accE no = 0 then (if (numd b.ag no).isSome then b else b.agree ((numd b.op no).getD zeroA)) else zeroB
def Bl.conE (b : Bl) (a : Ag) : Int := if b.ok && offd a.no b.own b.ot && (b.ag.contains a || b.op.contains a) then 0 else 480
def Bl.conB (b : Bl) (a : Ag) : Bl := if b.conE a = 0 then (if b.ag.contains a then b else b.agree a) else zeroB
theorem ok_iff {b : Bl} : b.ok = true ↔ cen b.own b.ot = true ∧ ((∀ x ∈ b.ag, fits b.own b.ot x = true) ∧ b.ag.Pairwise (fun x y => x.no < y.no)) ∧ ((∀ x ∈ b.op, fits b.own b.ot x = true) ∧ b.op.Pairwise (fun x y => x.no < y.no)) ∧ ∀ a ∈ b.op, ∀ x ∈ b.ag, x.no ≠ a.no := chkB_iff
theorem cen_ne {a b : Int} (h : cen a b = true) : a ≠ b := by
  unfold cen at h; simp only [Bool.and_eq_true, decide_eq_true_eq] at h; exact h.2
theorem fits_re {own ot : Int} {f t m r : Int} (h : fits own ot ⟨1, f, t, m, r⟩ = true) {no : Int} (h1 : 1 ≤ no) (h2 : no ≤ 1048576) : fits own ot ⟨no, f, t, m, r⟩ = true := by
  rw [fits_iff] at h ⊢; simp only at h ⊢; omega
theorem any_some {b : Bl} {no : Int} {x : Ag} (h : b.any no = some x) : (x ∈ b.ag ∨ x ∈ b.op) ∧ x.no = no := by
  unfold Bl.any at h
  cases hn : numd b.ag no with
  | some y => rw [hn] at h; cases h; exact ⟨.inl (numd_some hn).1, (numd_some hn).2⟩
  | none => rw [hn] at h; exact ⟨.inr (numd_some h).1, (numd_some h).2⟩
theorem any_none {b : Bl} {no : Int} (h : b.any no = none) : (∀ x ∈ b.ag, x.no ≠ no) ∧ ∀ x ∈ b.op, x.no ≠ no := by
  unfold Bl.any at h
  cases hn : numd b.ag no with
  | some y => rw [hn] at h; cases h
  | none => rw [hn] at h; exact ⟨numd_none hn, numd_none h⟩
/-- A number is that of one agreement. -/
theorem ok_inj {b : Bl} (h : b.ok = true) {x y : Ag} (hx : x ∈ b.ag ∨ x ∈ b.op) (hy : y ∈ b.ag ∨ y ∈ b.op) (e : x.no = y.no) : x = y := by
  obtain ⟨_, ⟨_, h1⟩, ⟨_, h2⟩, h3⟩ := ok_iff.1 h
  rcases hx with hx | hx <;> rcases hy with hy | hy
  · exact no_inj h1 hx hy e
  · exact absurd e (h3 y hy x hx)
  · exact absurd e.symm (h3 x hx y hy)
  · exact no_inj h2 hx hy e
theorem any_mem {b : Bl} (h : b.ok = true) {x : Ag} (hx : x ∈ b.ag ∨ x ∈ b.op) : b.any x.no = some x := by
  cases ha : b.any x.no with
  | none =>
    obtain ⟨h1, h2⟩ := any_none ha
    rcases hx with hx | hx
    · exact absurd rfl (h1 x hx)
    · exact absurd rfl (h2 x hx)
  | some y =>
    obtain ⟨h1, h2⟩ := any_some ha
    rw [ok_inj h h1 hx h2]
theorem ok_fits {b : Bl} (h : b.ok = true) {x : Ag} (hx : x ∈ b.ag ∨ x ∈ b.op) : fits b.own b.ot x = true := by
  obtain ⟨_, ⟨h1, _⟩, ⟨h2, _⟩, _⟩ := ok_iff.1 h
  rcases hx with hx | hx
  · exact h1 x hx
  · exact h2 x hx
/-- A new offer keeps a boundary valid. -/
theorem ok_put {b : Bl} (h : b.ok = true) {a : Ag} (hf : fits b.own b.ot a = true) (hn : (∀ x ∈ b.ag, x.no ≠ a.no) ∧ ∀ x ∈ b.op, x.no ≠ a.no) : (Bl.ok ⟨b.own, b.ot, b.ag, putL b.op a⟩) = true := by
  obtain ⟨h0, h1, ⟨h2, h3⟩, h4⟩ := ok_iff.1 h
  refine ok_iff.2 ⟨h0, h1, ⟨fun x hx => ?_, put_pw h3 hn.2⟩, fun x hx y hy => ?_⟩
  · rcases mem_put.1 hx with rfl | hx
    · exact hf
    · exact h2 x hx
  · rcases mem_put.1 hx with rfl | hx
    · exact hn.1 y hy
    · exact h4 x hx y hy
theorem ok_agree {b : Bl} (h : b.ok = true) {a : Ag} (ha : a ∈ b.op) : (b.agree a).ok = true := by
  obtain ⟨h0, ⟨h1, h1'⟩, ⟨h2, h3⟩, h4⟩ := ok_iff.1 h
  refine ok_iff.2 ⟨h0, ⟨fun x hx => ?_, put_pw h1' (fun x hx => h4 a ha x hx)⟩, ⟨fun x hx => h2 x (mem_del.1 hx).1, filter_pw h3 _⟩, fun x hx y hy => ?_⟩
  · rcases mem_put.1 hx with rfl | hx
    · exact h2 x ha
    · exact h1 x hx
  · rcases mem_put.1 hy with rfl | hy
    · exact fun e => (mem_del.1 hx).2 e.symm
    · exact h4 x (mem_del.1 hx).1 y hy
end Go.Proofs.Ytmnbeikhjbjpiaa
