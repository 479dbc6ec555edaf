/- The main law in plain Lean. No program in sight. -/
import Derived.Test.YtjebmcbpiobbaaaPl
namespace Go.Proofs.Ytjebmcbpiobbaaa

/-- Something that happens. -/
structure Mv where
  kind : Int
  fl : Int
  no : Int
  o : Opt
  m : Int
def Mv.wf (v : Mv) : Prop := 0 ≤ v.kind ∧ v.kind ≤ 255 ∧ 0 ≤ v.fl ∧ v.fl ≤ 255 ∧ 0 ≤ v.no ∧ v.no ≤ 255
def happen (l : List Clr) (v : Mv) : List Clr × Int := if v.kind % 3 = 1 then read l v.no else if v.kind % 3 = 2 then withdraw l v.no else issue l v.fl v.o v.m

/-- What a clearance may turn into. -/
structure Turn (c d : Clr) : Prop where
  no : c.no = d.no
  fl : c.fl = d.fl
  iss : c.iss = d.iss
  o : c.o = d.o
  rd : c.rd = true → d.rd = true ∧ d.wd = false
  wd : c.wd = true → d.wd = true
theorem Turn.refl {c : Clr} (h : (c.rd && c.wd) = false) : Turn c c := ⟨rfl, rfl, rfl, rfl, fun hr => ⟨hr, by rw [hr] at h; simpa using h⟩, id⟩

structure Kept (l r : List Clr) : Prop where
  valid : Valid r
  lo : l.length ≤ r.length
  hi : r.length ≤ l.length + 1
  turn : ∀ (i : Nat) (c : Clr), l[i]? = some c → ∃ d : Clr, r[i]? = some d ∧ Turn c d

theorem kept_set {l : List Clr} {k : Nat} {x y : Clr} (hv : Valid l) (hv' : Valid (l.set k y)) (hx : l[k]? = some x) (ht : Turn x y) : Kept l (l.set k y) := by
  refine ⟨hv', by simp, by simp, ?_⟩
  intro i c hc
  by_cases h : i = k
  · subst h
    rw [hx] at hc; cases hc
    exact ⟨y, set_at hx, ht⟩
  · refine ⟨c, ?_, Turn.refl (hv i c hc).rw_⟩
    rw [List.getElem?_set]; simp [Ne.symm h, hc]
theorem happen_kept {l r : List Clr} {v : Mv} (h : happen l v = (r, 0)) : Kept l r := by
  unfold happen at h
  split at h
  · obtain ⟨k, x, _, hv, hx, hw, _, rfl⟩ := change_ok (g := rdG) h
    exact kept_set hv (valid_read hv hx hw) hx ⟨rfl, rfl, rfl, rfl, fun _ => ⟨rfl, hw⟩, fun h => by rw [hw] at h; cases h⟩
  · split at h
    · obtain ⟨k, x, _, hv, hx, hw, hg, rfl⟩ := change_ok (g := wdG) h
      have hr : x.rd = false := by
        cases h : x.rd
        · rfl
        · simp [wdG, h] at hg
      have e : (wdG x).1 = { x with wd := true } := by simp [wdG, hr]
      rw [e]
      exact kept_set hv (valid_withdraw hv hx hr) hx ⟨rfl, rfl, rfl, rfl, (fun h => by rw [hr] at h; cases h), fun _ => rfl⟩
    · obtain ⟨hv, _, rfl, hv'⟩ := issue_ok h
      refine ⟨hv', by simp, by simp, ?_⟩
      intro i c hc
      refine ⟨c, ?_, Turn.refl (hv i c hc).rw_⟩
      rw [List.getElem?_append_left (List.getElem?_eq_some_iff.1 hc).1]; exact hc
theorem happen_err {l r : List Clr} {e : Int} {v : Mv} (h : happen l v = (r, e)) (he : e ≠ 0) : r = [] := by
  have hch : ∀ (no : Int) (g : Clr → Clr × Int), change l no g = (r, e) → r = [] := by
    intro no g h
    unfold change at h
    split at h
    · split at h
      · split at h
        · cases h; rfl
        · split at h
          · injection h with _ h2; exact absurd h2.symm he
          · cases h; rfl
      · cases h; rfl
    · cases h; rfl
  unfold happen at h
  split at h
  · exact hch _ _ h
  · split at h
    · exact hch _ _ h
    · unfold issue at h
      split at h
      · split at h
        · injection h with _ h2; exact absurd h2.symm he
        · cases h; rfl
      · cases h; rfl

/-- How many of a flight are in force among the first k. -/
def cnt (l : List Clr) (k : Nat) (j : Int) : Int := ((l.take k).filter (fun x => x.fl == j && !x.wd)).length
theorem cnt_step {l : List Clr} {k : Nat} {x : Clr} (hx : l[k]? = some x) (j : Int) : cnt l (k + 1) j = cnt l k j + if x.fl = j ∧ x.wd = false then 1 else 0 := by
  unfold cnt
  rw [List.take_add_one, hx, Option.toList_some, List.filter_append]
  by_cases h : x.fl = j ∧ x.wd = false
  · simp [h]
  · rw [if_neg h]
    have : (x.fl == j && !x.wd) = false := by
      cases hw : x.wd
      · simp [hw] at h ⊢; exact h
      · simp
    simp [this]
theorem cnt_le {l : List Clr} (hv : Valid l) (j : Int) : ∀ k, k ≤ l.length → 0 ≤ cnt l k j ∧ cnt l k j ≤ 1 ∧ (cnt l k j = 1 → ∃ (i : Nat) (x : Clr), i < k ∧ l[i]? = some x ∧ x.fl = j ∧ x.wd = false)
  | 0, _ => by simp [cnt]
  | k + 1, hk => by
    obtain ⟨h0, h1, h2⟩ := cnt_le hv j k (by omega)
    have hx : l[k]? = some l[k] := List.getElem?_eq_getElem (by omega)
    rw [cnt_step hx]
    by_cases h : l[k].fl = j ∧ l[k].wd = false
    · rw [if_pos h]
      have : cnt l k j ≠ 1 := by
        intro h3
        obtain ⟨i, x, hi, hxi, hf, hw⟩ := h2 h3
        have := (hv k _ hx).one i x hi hxi (by rw [hf, h.1]) hw
        rw [h.2] at this; cases this
      refine ⟨by omega, by omega, fun _ => ⟨k, _, by omega, hx, h⟩⟩
    · rw [if_neg h]
      refine ⟨by omega, by omega, fun h3 => ?_⟩
      obtain ⟨i, x, hi, r⟩ := h2 (by omega)
      exact ⟨i, x, by omega, r⟩
end Go.Proofs.Ytjebmcbpiobbaaa
