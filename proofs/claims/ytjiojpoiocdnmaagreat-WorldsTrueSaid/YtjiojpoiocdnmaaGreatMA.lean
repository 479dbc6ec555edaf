/- Sums of vectors; what a scene's numbers are. No program in sight. -/
import Derived.Test.YtjiojpoiocdnmaaGreatU21
set_option linter.unusedSimpArgs false
set_option linter.unusedVariables false
namespace Go.Proofs.YtjiojpoiocdnmaaGreat
open Go.RowKit
theorem V4.plus_comm (x y : V4) : x.plus y = y.plus x := by simp [V4.plus, Int.add_comm]
theorem V4.plus_assoc (x y z : V4) : (x.plus y).plus z = x.plus (y.plus z) := by simp [V4.plus, Int.add_assoc]
theorem V4.plus_zero (x : V4) : x.plus V4.zero = x := by simp [V4.plus, V4.zero]
def vsum : List V4 → V4
  | [] => V4.zero
  | x :: r => x.plus (vsum r)
/-- One of a list's is taken out. -/
theorem sum_take {κ β : Type} [DecidableEq κ] (F : κ → V4) : ∀ {left : List (κ × β)}, (left.map (·.1)).Nodup → ∀ {p : κ × β}, p ∈ left → vsum (left.map (fun q => F q.1)) = (F p.1).plus (vsum ((left.filter (fun q => !decide (q.1 = p.1))).map (fun q => F q.1)))
  | [], _, p, hp => by cases hp
  | q :: r, hn, p, hp => by
    simp only [List.map_cons, List.nodup_cons] at hn
    rcases List.mem_cons.1 hp with rfl | hp
    · have : r.filter (fun q => !decide (q.1 = p.1)) = r := List.filter_eq_self.2 fun x hx => by
        simp only [Bool.not_eq_true', decide_eq_false_iff_not]
        exact fun e => hn.1 (by rw [← e]; exact List.mem_map.2 ⟨x, hx, rfl⟩)
      simp [vsum, this]
    · have hne : ¬ q.1 = p.1 := fun e => hn.1 (by rw [e]; exact List.mem_map.2 ⟨p, hp, rfl⟩)
      have ih := sum_take F hn.2 hp
      simp only [List.map_cons, vsum, ih, List.filter_cons, hne, decide_false, Bool.not_false, if_true]
      rw [← V4.plus_assoc, V4.plus_comm (F q.1), V4.plus_assoc]
theorem GIter.nd {κ : Type} [DecidableEq κ] {enc : κ → Value} {w : World} {r b : Nat} {l left : List (κ × Value)} (h : GIter enc w r b l left) : (left.map (·.1)).Nodup := by
  obtain ⟨_, _, _, _, _, _, _, _, _, _, _, _, _, h⟩ := h
  exact h
theorem GIter.sub {κ : Type} [DecidableEq κ] {enc : κ → Value} {w : World} {r b : Nat} {l left : List (κ × Value)} (h : GIter enc w r b l left) : ∀ p ∈ left, p ∈ l := by
  obtain ⟨_, _, _, _, _, _, _, _, _, _, _, _, h, _⟩ := h
  exact h
theorem GIter.obj {κ : Type} [DecidableEq κ] {enc : κ → Value} {w : World} {r b : Nat} {l left : List (κ × Value)} (h : GIter enc w r b l left) : ∃ o, w.heap[r]? = some o ∧ o.isCells = false := by
  obtain ⟨_, _, _, _, _, _, h, _⟩ := h
  exact ⟨_, h, rfl⟩
theorem GIter.ext {κ : Type} [DecidableEq κ] {enc : κ → Value} {w w' : World} {r b : Nat} {l left : List (κ × Value)} (h : GIter enc w r b l left) (hb : Below w.heap.size w w') : GIter enc w' r b l left :=
  h.of_block (hb.block b h.map.lt) (hb.block r h.lt)
theorem mem_rng {m n : Int} : n ∈ rngM m ↔ -m ≤ n ∧ n ≤ m := by
  unfold rngM
  rw [List.mem_map]
  constructor
  · rintro ⟨i, hi, rfl⟩
    have := List.mem_range.1 hi
    omega
  · intro h
    exact ⟨(n + m).toNat, List.mem_range.2 (by omega), by omega⟩
/-- Numbers between bounds. -/
def Within : List Int → List Int → Prop
  | [], y => y = []
  | m :: ms, y => ∃ n r, y = n :: r ∧ -m ≤ n ∧ n ≤ m ∧ Within ms r
theorem mem_exts : ∀ {ms b x : List Int}, x ∈ exts ms b ↔ ∃ y, x = b ++ y ∧ Within ms y
  | [], b, x => by
    simp only [exts, List.mem_singleton, Within]
    constructor
    · rintro rfl; exact ⟨[], by simp, rfl⟩
    · rintro ⟨y, rfl, rfl⟩; simp
  | m :: ms, b, x => by
    simp only [exts, List.mem_flatMap, mem_exts (ms := ms), Within, mem_rng]
    constructor
    · rintro ⟨n, ⟨h1, h2⟩, y, rfl, hy⟩
      exact ⟨n :: y, by simp, n, y, rfl, h1, h2, hy⟩
    · rintro ⟨y, rfl, n, r, rfl, h1, h2, hr⟩
      exact ⟨n, ⟨h1, h2⟩, r, by simp, hr⟩
theorem Within.len : ∀ {ms y : List Int}, Within ms y → y.length = ms.length
  | [], y, h => by simp only [Within] at h; simp [h]
  | m :: ms, y, h => by
    obtain ⟨n, r, rfl, _, _, hr⟩ := h
    simp [hr.len]
theorem Within.bound {N : Int} : ∀ {ms y : List Int}, Within ms y → (∀ m ∈ ms, m ≤ N) → ∀ n ∈ y, -N ≤ n ∧ n ≤ N
  | [], y, h, _, n, hn => by simp only [Within] at h; subst h; cases hn
  | m :: ms, y, h, hm, n, hn => by
    obtain ⟨k, r, rfl, h1, h2, hr⟩ := h
    rcases List.mem_cons.1 hn with rfl | hn
    · have := hm m List.mem_cons_self; omega
    · exact hr.bound (fun x hx => hm x (List.mem_cons_of_mem _ hx)) n hn
theorem mem_shifts {s : List Stn} {x : List Int} : x ∈ shiftsL s ↔ Within (s.map (·.sh)) x := by
  unfold shiftsL
  rw [mem_exts]
  constructor
  · rintro ⟨y, rfl, h⟩; simpa using h
  · intro h; exact ⟨x, by simp, h⟩
/-- What is known of the numbers of a scene. -/
structure SceneN (X : Scn) (ns : Nat) : Prop where
  tl : ∀ g ∈ X.G, g.ts.length ≤ 12
  tp : ∀ g ∈ X.G, 0 < g.ts.length
  tn : ∀ g ∈ X.G, ∀ n ∈ g.ts, n < X.st.length
  rl : ∀ g ∈ X.G, g.rs.length ≤ 100
  rs : ∀ g ∈ X.G, ∀ r ∈ g.rs, RepS ns r
  hl : ∀ h ∈ X.sh, h.l.length = ns
  hb : ∀ h ∈ X.sh, ∀ n ∈ h.l, -3 ≤ n ∧ n ≤ 3
  sp : ∀ r ∈ X.st, 0 < r.l.length
  sl : ∀ r ∈ X.st, r.l.length ≤ 4096
  gl : X.G.length ≤ 12
  stl : X.st.length ≤ 12
  hn : X.sh.length ≤ 2401
  lo : X.lost.In 100
  bu : X.bud.In 3
theorem ask_ok {t : Tab} {s : List Stn} {R : List Rep} {l : List Trk} (h : askE t s R l = 0) : wchkE t l = 0 ∧ s.length ≤ 4 ∧ (∀ x ∈ s, stnB t.n x = true) ∧ ∀ r ∈ R, repB s.length r = true := by
  unfold askE at h
  split at h
  · rename_i h0; exact absurd h h0
  · rename_i h0
    simp only [ne_eq, Decidable.not_not] at h0
    split at h
    · rename_i h1
      simp only [askB, Bool.and_eq_true, decide_eq_true_eq, List.all_eq_true] at h1
      exact ⟨h0, h1.1.1.1, h1.1.2, h1.2⟩
    · cases h
theorem nodup_le {α : Type} [DecidableEq α] : ∀ {a b : List α}, a.Nodup → (∀ x ∈ a, x ∈ b) → a.length ≤ b.length
  | [], _, _, _ => Nat.zero_le _
  | x :: r, b, hn, hs => by
    obtain ⟨h1, h2⟩ := List.nodup_cons.1 hn
    have hx := hs x List.mem_cons_self
    have ih := nodup_le (a := r) (b := b.erase x) h2 (fun y hy => (List.mem_erase_of_ne (fun e => h1 (by rw [← e]; exact hy))).2 (hs y (List.mem_cons_of_mem _ hy)))
    rw [List.length_erase_of_mem hx] at ih
    have := List.length_pos_of_mem hx
    simp only [List.length_cons]; omega
theorem callsLen {l : List Trk} {G : List Grp} {R : List Rep} (h : GSpec l l.length G R) : G.length ≤ l.length := by
  have h1 : ∀ c ∈ G.map (·.call), c ∈ l.map (fun x : Trk => x.fl.call) := fun c hc => by
    obtain ⟨x, hx, e⟩ := List.any_eq_true.1 ((h.calls c).1 hc)
    exact List.mem_map.2 ⟨x, hx, by simpa using e⟩
  have := nodup_le h.nd h1
  simpa using this
theorem wchk_trk {t : Tab} {l : List Trk} (h : wchkE t l = 0) : chkT t = 0 ∧ l.length ≤ 12 ∧ ∀ y ∈ l, trkB t y = true := by
  unfold wchkE at h
  split at h
  · rename_i h0; exact absurd h h0
  · rename_i h0
    simp only [ne_eq, Decidable.not_not] at h0
    split at h
    · rename_i h1
      simp only [Bool.and_eq_true, decide_eq_true_eq, List.all_eq_true] at h1
      exact ⟨h0, h1.1, h1.2⟩
    · cases h
theorem mem_idxs {l : List Trk} {k : Nat} {c : ByteArray} {i : Nat} : i ∈ idxs l k c ↔ i < k ∧ ∃ x, l[i]? = some x ∧ x.fl.call = c := by
  unfold idxs
  rw [List.mem_filter, List.mem_range]
  simp only [decide_eq_true_eq, Option.map_eq_some_iff]
theorem scene_num {t : Tab} {s : List Stn} {R : List Rep} {l : List Trk} {X : Scn} (h : SceneSpec t s R l X) (ha : askE t s R l = 0) (hR : R.length ≤ 100) : SceneN X s.length := by
  obtain ⟨hw, hs4, hs, hr⟩ := ask_ok ha
  obtain ⟨hc, hl12, htk⟩ := wchk_trk hw
  have hst : X.st.length = l.length := by
    have := congrArg List.length h.st
    simpa [Scn.stays] using this
  have hrow : ∀ r ∈ X.st, ∃ y ∈ l, r.l.map (·.l) = y.ps.l.map (staysL t) := fun r hr => by
    have h1 : r.l.map (·.l) ∈ X.stays := List.mem_map.2 ⟨r, hr, rfl⟩
    rw [h.st] at h1
    obtain ⟨y, hy, e⟩ := List.mem_map.1 h1
    exact ⟨y, hy, e.symm⟩
  have hsh : ∀ m ∈ s.map (·.sh), m ≤ 3 := fun m hm => by
    obtain ⟨x, hx, rfl⟩ := List.mem_map.1 hm
    have := hs x hx
    simp only [stnB, Bool.and_eq_true, inn_iff] at this
    exact this.1.1.1.2.2
  have hrowl : ∀ r ∈ X.st, 0 < r.l.length ∧ r.l.length ≤ 4096 := fun r hr => by
    obtain ⟨y, hy, e⟩ := hrow r hr
    have h1 := congrArg List.length e
    have h2 := htk y hy
    simp only [trkB, Bool.and_eq_true, decide_eq_true_eq] at h2
    simp at h1
    omega
  have hx : ∀ x ∈ X.sh, Within (s.map (·.sh)) x.l := fun x hx => by
    rw [← mem_shifts, ← h.sh]
    exact List.mem_map.2 ⟨x, hx, rfl⟩
  refine ⟨fun g hg => ?_, fun g hg => ?_, fun g hg n hn => ?_, fun g hg => ?_, fun g hg r hr' => ?_, fun x hxx => ?_, fun x hxx n hn => (hx x hxx).bound hsh n hn, fun r hr => (hrowl r hr).1, fun r hr => (hrowl r hr).2, ?_, ?_, ?_, ?_, ?_⟩
  · rw [h.G.ts g hg]
    refine Nat.le_trans (List.length_filter_le _ _) ?_
    rw [List.length_range]; exact hl12
  · rw [h.G.ts g hg]
    obtain ⟨x, hx, e⟩ := h.G.only g hg
    obtain ⟨i, hi⟩ := List.mem_iff_getElem?.1 hx
    exact List.length_pos_of_mem (mem_idxs.2 ⟨(List.getElem?_eq_some_iff.1 hi).1, x, hi, e⟩)
  · rw [h.G.ts g hg] at hn
    rw [hst]; exact (mem_idxs.1 hn).1
  · rw [h.G.rs g hg]
    exact Nat.le_trans (List.length_filter_le _ _) hR
  · rw [h.G.rs g hg] at hr'
    have h1 := hr r (List.mem_filter.1 hr').1
    simp only [repB, Bool.and_eq_true, inn_iff] at h1
    exact ⟨by omega, by omega, by omega, by omega, by omega⟩
  · have := (hx x hxx).len
    simpa using this
  · exact Nat.le_trans (callsLen h.G) hl12
  · rw [hst]; exact hl12
  · have h1 := congrArg List.length h.sh
    rw [List.length_map] at h1
    rw [h1]
    have h2 := exts_len (s.map (·.sh)) [] hsh
    have h3 : 7 ^ (s.map (·.sh)).length ≤ 7 ^ 4 := Nat.pow_le_pow_right (by decide) (by simpa using hs4)
    unfold shiftsL
    omega
  · rw [h.lost]
    have := lost_in l R V4.zero 0 (by simp [V4.In, V4.zero])
    exact this.mono (by omega)
  · rw [h.bud]
    have hb : ∀ i : Nat, 0 ≤ ((s[i]?).map (fun x : Stn => x.fa)).getD 0 ∧ ((s[i]?).map (fun x : Stn => x.fa)).getD 0 ≤ 3 := fun i => by
      cases hi : s[i]? with
      | none => simp
      | some x =>
        have := hs x (List.mem_of_getElem? hi)
        simp only [stnB, Bool.and_eq_true, inn_iff] at this
        have := this.1.1.2
        simpa using this
    exact ⟨(hb 0).1, (hb 0).2, (hb 1).1, (hb 1).2, (hb 2).1, (hb 2).2, (hb 3).1, (hb 3).2⟩
end Go.Proofs.YtjiojpoiocdnmaaGreat
