/- Possible, in plain words. No program in sight. -/
import Derived.Test.YtjiojpoiocdnmaaGreatPA
import Derived.Test.YtjiojpoiocdnmaaGreatML
set_option linter.unusedSimpArgs false
set_option linter.unusedVariables false
namespace Go.Proofs.YtjiojpoiocdnmaaGreat
open Go.RowKit
def combsT (l : List Trk) : List (List Nat) := comb (msT l)
def foundB (t : Tab) (s : List Stn) (R : List Rep) (l : List Trk) : Bool := (combsT l).any (fun x => worldP t s R l (nums x))
def possB (t : Tab) (s : List Stn) (R : List Rep) (l : List Trk) (n k : Nat) : Bool := (combsT l).any (fun x => (x[n]? == some k) && worldP t s R l (nums x))
/-- How many choices the tracks of a call sign have together. -/
def cntC (l : List Trk) (c : ByteArray) : Nat := cnt ((idxs l l.length c).map (fun i => (msT l).getD i 0))
def manyB (l : List Trk) : Bool := l.any (fun x => decide (4096 < cntC l x.fl.call))
def possL (t : Tab) (s : List Stn) (R : List Rep) (l : List Trk) : List (List Bool) := (List.range l.length).map (fun n => (List.range ((msT l).getD n 0)).map (fun k => possB t s R l n k))
def possErr (t : Tab) (s : List Stn) (R : List Rep) (l : List Trk) : Int := if askE t s R l ≠ 0 then askE t s R l else if manyB l then 2 else if foundB t s R l then 0 else 240
def possV (t : Tab) (s : List Stn) (R : List Rep) (l : List Trk) : List (List Bool) := if possErr t s R l = 0 then possL t s R l else []
theorem combsT_iff {l : List Trk} {x : List Nat} : x ∈ combsT l ↔ Choice (msT l) x := ⟨comb_choice, mem_comb⟩
theorem foundB_iff {t : Tab} {s : List Stn} {R : List Rep} {l : List Trk} : foundB t s R l = true ↔ ∃ picks, Choice (msT l) picks ∧ worldP t s R l (nums picks) = true := by
  unfold foundB
  rw [List.any_eq_true]
  exact ⟨fun ⟨x, h1, h2⟩ => ⟨x, combsT_iff.1 h1, h2⟩, fun ⟨x, h1, h2⟩ => ⟨x, combsT_iff.2 h1, h2⟩⟩
theorem possB_iff {t : Tab} {s : List Stn} {R : List Rep} {l : List Trk} {n k : Nat} : possB t s R l n k = true ↔ ∃ picks, Choice (msT l) picks ∧ picks[n]? = some k ∧ worldP t s R l (nums picks) = true := by
  unfold possB
  rw [List.any_eq_true]
  constructor
  · rintro ⟨x, h1, h2⟩
    rw [Bool.and_eq_true, beq_iff_eq] at h2
    exact ⟨x, combsT_iff.1 h1, h2.1, h2.2⟩
  · rintro ⟨x, h1, h2, h3⟩
    exact ⟨x, combsT_iff.2 h1, by rw [h2, h3]; simp⟩
theorem worldP_iff {t : Tab} {s : List Stn} {R : List Rep} {l : List Trk} {p : List Int} : worldP t s R l p = true ↔ ∃ h ∈ shiftsL s, worldT t s R l p h = true := by
  unfold worldP
  rw [List.any_eq_true]
section
variable {t : Tab} {s : List Stn} {R : List Rep} {l : List Trk} {X : Scn}
theorem sh_mem (h : SceneSpec t s R l X) {P : List Int → Prop} : (∃ q ∈ X.sh, P q.l) ↔ ∃ x ∈ shiftsL s, P x := by
  rw [← h.sh]
  constructor
  · rintro ⟨q, h1, h2⟩; exact ⟨q.l, List.mem_map.2 ⟨q, h1, rfl⟩, h2⟩
  · rintro ⟨x, h1, h2⟩
    obtain ⟨q, h3, rfl⟩ := List.mem_map.1 h1
    exact ⟨q, h3, h2⟩
theorem scn_inj (hS : SceneSpec t s R l X) (hnd : (X.G.map (·.b)).Nodup) : ∀ g ∈ X.G, ∀ g' ∈ X.G, g.b = g'.b → g = g' := fun _ hg _ hg' e => nodup_map_eq hnd hg hg' e
theorem scn_lost (hS : SceneSpec t s R l X) (hR : R.length ≤ 100) : X.lost.Pos := by
  rw [hS.lost]
  exact ((lost_in l R V4.zero 0 (by simp [V4.In, V4.zero])).pos)
theorem scn_found (hS : SceneSpec t s R l X) (hR : R.length ≤ 100) (hnd : (X.G.map (·.b)).Nodup) : (∃ h ∈ X.sh, FoundAt X h.l) ↔ foundB t s R l = true := by
  rw [foundB_iff]
  constructor
  · rintro ⟨h, h1, h2⟩
    obtain ⟨p, h3, h4⟩ := (found_iff hS (scn_lost hS hR) (scn_inj hS hnd) hnd).1 h2
    exact ⟨p, h3, worldP_iff.2 ((sh_mem hS (P := fun x => worldT t s R l (nums p) x = true)).1 ⟨h, h1, h4⟩)⟩
  · rintro ⟨p, h3, h4⟩
    obtain ⟨h, h1, h2⟩ := (sh_mem hS (P := fun x => worldT t s R l (nums p) x = true)).2 (worldP_iff.1 h4)
    exact ⟨h, h1, (found_iff hS (scn_lost hS hR) (scn_inj hS hnd) hnd).2 ⟨p, h3, h2⟩⟩
theorem scn_hit (hS : SceneSpec t s R l X) (hR : R.length ≤ 100) (hnd : (X.G.map (·.b)).Nodup) (n k : Nat) : (∃ h ∈ X.sh, SHit X h.l n k) ↔ possB t s R l n k = true := by
  rw [possB_iff]
  constructor
  · rintro ⟨h, h1, h2⟩
    obtain ⟨p, h3, h4, h5⟩ := (shit_iff hS (scn_lost hS hR) (scn_inj hS hnd) hnd n k).1 h2
    exact ⟨p, h3, h4, worldP_iff.2 ((sh_mem hS (P := fun x => worldT t s R l (nums p) x = true)).1 ⟨h, h1, h5⟩)⟩
  · rintro ⟨p, h3, h4, h5⟩
    obtain ⟨h, h1, h2⟩ := (sh_mem hS (P := fun x => worldT t s R l (nums p) x = true)).2 (worldP_iff.1 h5)
    exact ⟨h, h1, (shit_iff hS (scn_lost hS hR) (scn_inj hS hnd) hnd n k).2 ⟨p, h3, h4, h2⟩⟩
theorem grp_cnt (hS : SceneSpec t s R l X) {g : Grp} (hg : g ∈ X.G) : cnt (grpM X g.ts) = cntC l g.call := by
  unfold cntC grpM
  rw [hS.G.ts g hg]
  congr 1
  apply List.map_congr_left
  intro i _
  exact rowN_eq hS i
theorem scn_many (hS : SceneSpec t s R l X) : (∃ g ∈ X.G, 4096 < cnt (grpM X g.ts)) ↔ manyB l = true := by
  unfold manyB
  rw [List.any_eq_true]
  constructor
  · rintro ⟨g, hg, h⟩
    obtain ⟨x, hx, e⟩ := hS.G.only g hg
    exact ⟨x, hx, by rw [decide_eq_true_eq, e, ← grp_cnt hS hg]; exact h⟩
  · rintro ⟨x, hx, h⟩
    rw [decide_eq_true_eq] at h
    obtain ⟨i, hi⟩ := List.mem_iff_getElem?.1 hx
    obtain ⟨g, hg, e⟩ := hS.G.has i x (List.getElem?_eq_some_iff.1 hi).1 hi
    exact ⟨g, hg, by rw [grp_cnt hS hg, e]; exact h⟩
end
/-- What Possible answers: rows of Booleans, and an error. -/
def PossR (w : World) (t : Tab) (s : List Stn) (R : List Rep) (l : List Trk) (e : Ending) (w' : World) : Prop :=
  ∃ (A : Option Addr) (c : Nat) (rows : List BR), e = .returned (.tuple #[.slice A rows.length c, .int .i64 (possErr t s R l)]) ∧ Rows w' w.heap.size (.slice A rows.length c) rows ∧ rows.map (·.l) = possV t s R l ∧ Below w.heap.size w w'
theorem rows_nil (w : World) (base : Nat) : Rows w base (.slice none 0 0) [] := ⟨Own.nil _ _ _ _ _, by simp, List.nodup_nil⟩
theorem rows_poss {t : Tab} {s : List Stn} {R : List Rep} {l : List Trk} {rows : List BR} (hl : rows.map (fun r => r.l.length) = l.map (fun y => y.ps.l.length)) (hh : Holds rows (fun n k => possB t s R l n k = true)) : rows.map (·.l) = possL t s R l := by
  have hn : rows.length = l.length := by simpa using congrArg List.length hl
  apply List.ext_getElem?
  intro n
  unfold possL
  rw [List.getElem?_map, List.getElem?_map]
  by_cases h : n < l.length
  · have hr : n < rows.length := by omega
    rw [List.getElem?_range h, List.getElem?_eq_getElem hr]
    simp only [Option.map_some, Option.some.injEq]
    have hlen : rows[n].l.length = (msT l).getD n 0 := by
      have := congrArg (fun q : List Nat => q[n]?) hl
      simp only [List.getElem?_map, List.getElem?_eq_getElem hr, Option.map_some] at this
      unfold msT
      rw [List.getD_eq_getElem?_getD, List.getElem?_map, ← this]; rfl
    apply List.ext_getElem?
    intro k
    rw [List.getElem?_map]
    by_cases hk : k < rows[n].l.length
    · rw [List.getElem?_range (by omega), List.getElem?_eq_getElem hk]
      simp only [Option.map_some, Option.some.injEq]
      have := hh n rows[n] k rows[n].l[k] (by simp [hr]) (by simp [hk])
      rw [Bool.eq_iff_iff]; exact this
    · rw [List.getElem?_eq_none (by omega), List.getElem?_eq_none (by rw [List.length_range]; omega)]; rfl
  · rw [List.getElem?_eq_none (by omega), List.getElem?_eq_none (by simp; omega)]; rfl
theorem possR_of {w : World} {t : Tab} {s : List Stn} {R : List Rep} {l : List Trk} (hR : R.length ≤ 100) {e : Ending} {w' : World} (h : PossW w t s R l e w') : PossR w t s R l e w' := by
  obtain ⟨hB, (⟨h1, rfl⟩ | ⟨h1, X, hS, hnd, h2⟩)⟩ := h
  · have hE : possErr t s R l = askE t s R l := by unfold possErr; rw [if_pos h1]
    exact ⟨none, 0, [], by rw [hE]; rfl, rows_nil _ _, by unfold possV; rw [if_neg (by rw [hE]; exact h1)]; rfl, hB⟩
  · have hm := scn_many hS
    have hf := scn_found hS hR hnd
    have h0 : ¬ askE t s R l ≠ 0 := fun q => q h1
    rcases h2 with ⟨h2, rfl⟩ | ⟨h2, h3, rfl⟩ | ⟨h2, h3, A, c, rows, rfl, hr, hl, hh⟩
    · have hE : possErr t s R l = 2 := by unfold possErr; rw [if_neg h0, if_pos (hm.1 h2)]
      exact ⟨none, 0, [], by rw [hE]; rfl, rows_nil _ _, by unfold possV; rw [if_neg (by rw [hE]; decide)]; rfl, hB⟩
    · have hm' : ¬ manyB l = true := fun q => by
        obtain ⟨g, hg, q⟩ := hm.2 q
        have := h2 g hg
        omega
      have hE : possErr t s R l = 240 := by unfold possErr; rw [if_neg h0, if_neg hm', if_neg (mt hf.2 h3)]
      exact ⟨none, 0, [], by rw [hE]; rfl, rows_nil _ _, by unfold possV; rw [if_neg (by rw [hE]; decide)]; rfl, hB⟩
    · have hm' : ¬ manyB l = true := fun q => by
        obtain ⟨g, hg, q⟩ := hm.2 q
        have := h2 g hg
        omega
      have hE : possErr t s R l = 0 := by unfold possErr; rw [if_neg h0, if_neg hm', if_pos (hf.1 h3)]
      refine ⟨A, c, rows, by rw [hE], hr, ?_, hB⟩
      unfold possV
      rw [if_pos hE]
      exact rows_poss hl (hh.congr (fun n k => scn_hit hS hR hnd n k))
theorem possR_at (t : Tab) (SA : Option Addr) (sc : Nat) (sl : List Stn) (RA : Option Addr) (rc : Nat) (R : List Rep) (LA : Option Addr) (lc : Nat) (ll : List Trk) (w : World) (ht : Tab.ok w t) (hs : SliceOf.ok Stn.cells 3 Stn.ok w ⟨SA, sc, sl⟩) (hr : Slc w Rep.cells 6 RA R) (hl : SliceOf.ok Trk.cells 14 Trk.ok w ⟨LA, lc, ll⟩)
    (hsn : sl.length ≤ 100) (hrn : R.length ≤ 100) (hln : ll.length ≤ 100) : Calls Tryz.prog 11 #[t.v, .slice SA sl.length sc, .slice RA R.length rc, .slice LA ll.length lc] w (PossR w t sl R ll) :=
  (poss_head t SA sc sl RA rc R LA lc ll w ht hs hr hl hsn hrn hln).mono (fun _ _ h => possR_of hrn h)
/-- What World answers. -/
def worldErr (t : Tab) (s : List Stn) (R : List Rep) (l : List Trk) (picks : List Int) : Int := if askE t s R l ≠ 0 then askE t s R l else if picksB l picks then 0 else 240
def worldV (t : Tab) (s : List Stn) (R : List Rep) (l : List Trk) (picks : List Int) : Bool := if worldErr t s R l picks = 0 then worldP t s R l picks else false
theorem worldR_of {w : World} {t : Tab} {s : List Stn} {R : List Rep} {l : List Trk} {picks : List Int} {e : Ending} {w' : World} (h : WorldR w t s R l picks e w') :
    e = .returned (.tuple #[.bool (worldV t s R l picks), .int .i64 (worldErr t s R l picks)]) ∧ Below w.heap.size w w' := by
  obtain ⟨hB, h⟩ := h
  refine ⟨?_, hB⟩
  rcases h with ⟨h1, rfl⟩ | ⟨h1, h2, rfl⟩ | ⟨h1, h2, X, hS, rfl⟩
  · have hE : worldErr t s R l picks = askE t s R l := by unfold worldErr; rw [if_pos h1]
    unfold worldV
    rw [hE, if_neg h1]
  · have hE : worldErr t s R l picks = 240 := by unfold worldErr; rw [if_neg (fun q => q h1), h2]; rfl
    unfold worldV
    rw [hE]; rfl
  · have hE : worldErr t s R l picks = 0 := by unfold worldErr; rw [if_neg (fun q => q h1), h2]; rfl
    unfold worldV
    rw [hE, if_pos rfl, worldB_eq hS]
end Go.Proofs.YtjiojpoiocdnmaaGreat
