/- Possible, in plain words. No program in sight. -/
import Derived.Test.YtjiojpoiocdnmaaGreatPA
import Derived.Test.YtjiojpoiocdnmaaGreatML
set_option linter.unusedSimpArgs false
set_option linter.unusedVariables false
namespace Go.Proofs.YtjiojpoiocdnmaaGreat
open Go.RowKit
def combsT (l : List Trk) : List (List Nat) := comb (msT l)
def foundB (t : Tab) (s : List Stn) (R : List Rep) (l : List Trk) : Bool := (combsT l).any (fun x => worldP t s R l (nums x))
def possB (t : Tab) (s : List Stn) (R : List Rep) (l : List Trk) (n k : Nat) : Bool := (combsT l).any (fun x => (x[n]? == some k) && worldP t s R l (nums x))
/-- How many choices the tracks of a call sign have together. -/
def cntC (l : List Trk) (c : ByteArray) : Nat := cnt ((idxs l l.length c).map (fun i => (msT l).getD i 0))
def manyB (l : List Trk) : Bool := l.any (fun x => decide (4096 < cntC l x.fl.call))
def possL (t : Tab) (s : List Stn) (R : List Rep) (l : List Trk) : List (List Bool) := (List.range l.length).map (fun n => (List.range ((msT l).getD n 0)).map (fun k => possB t s R l n k))
def possErr (t : Tab) (s : List Stn) (R : List Rep) (l : List Trk) : Int := if askE t s R l ≠ 0 then askE t s R l else if manyB l then 2 else if foundB t s R l then 0 else 240
def possV (t : Tab) (s : List Stn) (R : List Rep) (l : List Trk) : List (List Bool) := if possErr t s R l = 0 then possL t s R l else []
theorem combsT_iff {l : List Trk} {x : List Nat} : x ∈ combsT l ↔ Choice (msT l) x := ⟨comb_choice, mem_comb⟩
theorem foundB_iff {t : Tab} {s : List Stn} {R : List Rep} {l : List Trk} : foundB t s R l = true ↔ ∃ picks, Choice (msT l) picks ∧ worldP t s R l (nums picks) = true := by
  unfold foundB
  rw [List.any_eq_true]
  exact ⟨fun ⟨x, h1, h2⟩ => ⟨x, combsT_iff.1 h1, h2⟩, fun ⟨x, h1, h2⟩ => ⟨x, combsT_iff.2 h1, h2⟩⟩
theorem possB_iff {t : Tab} {s : List Stn} {R : List Rep} {l : List Trk} {n k : Nat} : possB t s R l n k = true ↔ ∃ picks, Choice (msT l) picks ∧ picks[n]? = some k ∧ worldP t s R l (nums picks) = true := by
  unfold possB
  rw [List.any_eq_true]
  constructor
  · rintro ⟨x, h1, h2⟩
    rw [Bool.and_eq_true, beq_iff_eq] at h2
    exact ⟨x, combsT_iff.1 h1, h2.1, h2.2⟩
  · rintro ⟨x, h1, h2, h3⟩
    exact ⟨x, combsT_iff.2 h1, by rw [h2, h3]; simp⟩
theorem worldP_iff {t : Tab} {s : List Stn} {R : List Rep} {l : List Trk} {p : List Int} : worldP t s R l p = true ↔ ∃ h ∈ shiftsL s, worldT t s R l p h = true := by
  unfold worldP
  rw [List.any_eq_true]
section
variable {t : Tab} {s : List Stn} {R : List Rep} {l : List Trk} {X : Scn}
theorem sh_mem (h : SceneSpec t s R l X) {P : List Int → Prop} : (∃ q ∈ X.sh, P q.l) ↔ ∃ x ∈ shiftsL s, P x := by
  rw [← h.sh]
  constructor
  · rintro ⟨q, h1, h2⟩; exact ⟨q.l, List.mem_map.2 ⟨q, h1, rfl⟩, h2⟩
  · rintro ⟨x, h1, h2⟩
    obtain ⟨q, h3, rfl⟩ := List.mem_map.1 h1
    exact ⟨q, h3, h2⟩
theorem scn_inj (hS : SceneSpec t s R l X) (hnd : (X.G.map (·.b)).Nodup) : ∀ g ∈ X.G, ∀ g' ∈ X.G, g.b = g'.b → g = g' := fun _ hg _ hg' e => nodup_map_eq hnd hg hg' e
theorem scn_lost (hS : SceneSpec t s R l X) (hR : R.length ≤ 100) : X.lost.Pos := by
  rw [hS.lost]
  exact ((lost_in l R V4.zero 0 (by simp [V4.In, V4.zero])).pos)
theorem scn_found (hS : SceneSpec t s R l X) (hR : R.length ≤ 100) (hnd : (X.G.map (·.b)).Nodup) : (∃ h ∈ X.sh, FoundAt X h.l) ↔ foundB t s R l = true := by
  rw [foundB_iff]
  constructor
  · rintro ⟨h, h1, h2⟩
    obtain ⟨p, h3, h4⟩ := (found_iff hS (scn_lost hS hR) (scn_inj hS hnd) hnd).1 h2
    exact ⟨p, h3, worldP_iff.2 ((sh_mem hS (P := fun x => worldT t s R l (nums p) x = true)).1 ⟨h, h1, h4⟩)⟩
  · rintro ⟨p, h3, h4⟩
    obtain ⟨h, h1, h2⟩ := (sh_mem hS (P := fun x => worldT t s R l (nums p) x = true)).2 (worldP_iff.1 h4)
    exact ⟨h, h1, (found_iff hS (scn_lost hS hR) (scn_inj hS hnd) hnd).2 ⟨p, h3, h2⟩⟩
theorem scn_hit (hS : SceneSpec t s R l X) (hR : R.length ≤ 100) (hnd : (X.G.map (·.b)).Nodup) (n k : Nat) : (∃ h ∈ X.sh, SHit X h.l n k) ↔ possB t s R l n k = true := by
  rw [possB_iff]
  constructor
  · rintro ⟨h, h1, h2⟩
    obtain ⟨p, h3, h4, h5⟩ := (shit_iff hS (scn_lost hS hR) (scn_inj hS hnd) hnd n k).1 h2
    exact ⟨p, h3, h4, worldP_iff.2 ((sh_mem hS (P := fun x => worldT t s R l (nums p) x = true)).1 ⟨h, h1, h5⟩)⟩
  · rintro ⟨p, h3, h4, h5⟩
    obtain ⟨h, h1, h2⟩ := (sh_mem hS (P := fun x => worldT t s R l (nums p) x = true)).2 (worldP_iff.1 h5)
    exact ⟨h, h1, (shit_iff hS (scn_lost hS hR) (scn_inj hS hnd) hnd n k).2 ⟨p, h3, h4, h2⟩⟩
theorem grp_cnt (hS : SceneSpec t s R l X) {g : Grp} (hg : g ∈ X.G) : cnt (grpM X g.ts) = cntC l g.call := by
  unfold cntC grpM
  rw [hS.G.ts g hg]
  congr 1
  apply List.map_congr_left
  intro i _
  exact rowN_eq hS i
theorem scn_many (hS : SceneSpec t s R l X) : (∃ g ∈ X.G, 4096 < cnt (grpM X g.ts)) ↔ manyB l = true := by
  unfold manyB
  rw [List.any_eq_true]
  constructor
  · rintro ⟨g, hg, h⟩
    obtain ⟨x, hx, e⟩ := hS.G.only g hg
    exact ⟨x, hx, by rw [decide_eq_true_eq, e, ← grp_cnt hS hg]; exact h⟩
  · rintro ⟨x, hx, h⟩
    rw [decide_eq_true_eq] at h
    obtain ⟨i, hi⟩ := List.mem_iff_getElem?.1 hx
    obtain ⟨g, hg, e⟩ := hS.G.has i x (List.getElem?_eq_some_iff.1 hi).1 hi
    exact ⟨g, hg, by rw [grp_cnt hS hg, e]; exact h⟩
end
/-- What Possible answers: rows of Booleans, and an error. -/
def PossR (w : World) (t : Tab) (s : List Stn) (R : List Rep) (l : List Trk) (e : Ending) (w' : World) : Prop :=
  ∃ (A : Option Addr) (c : Nat) (rows : List BR), e = .returned (.tuple #[.slice A rows.length c, .int .i64 (possErr t s R l)]) ∧ Rows w' w.heap.size (.slice A rows.length c) rows ∧ rows.map (·.l) = possV t s R l ∧ Below w.heap.size w w'
theorem rows_nil (w : World) (base : Nat) : Rows w base (.slice none 0 0) [] := ⟨Own.nil _ _ _ _ _, by simp, List.nodup_nil⟩
theorem rows_poss {t : Tab} {s : List Stn} {R : List Rep} {l : List Trk} {rows : List BR} (hl : rows.map (fun r => r.l.length) = l.map (fun y => y.ps.l.length)) (hh : Holds rows (fun n k => possB t s R l n k = true)) : rows.map (·.l) = possL t s R l := by
  have hn : rows.length = l.length := by simpa using congrArg List.length hl
  apply List.ext_getElem?
  intro n
  unfold possL
  rw [List.getElem?_map, List.getElem?_map]
  by_cases h : n < l.length
  · have hr : n < rows.length := by omega
    rw [List.getElem?_range h, List.getElem?_eq_getElem hr]
    simp only [Option.map_some, Option.some.injEq]
    have hlen : rows[n].l.length = (msT l).getD n 0 := by
      have := congrArg (fun q : List Nat => q[n]?) hl
      simp only [List.getElem?_map, List.getElem?_eq_getElem hr, Option.map_some] at this
      unfold msT
      rw [List.getD_eq_getElem?_getD, List.getElem?_map, ← this]; rfl
    apply List.ext_getElem?
    intro k
    rw [List.getElem?_map]
    by_cases hk : k < rows[n].l.length
    · rw [List.getElem?_range (by omega), List.getElem?_eq_getElem hk]
      simp only [Option.map_some, Option.some.injEq]
      have := hh n rows[n] k rows[n].l[k] (by simp [hr]) (by simp [hk])
      rw [Bool.eq_iff_iff]; exact this
    · rw [List.getElem?_eq_none (by omega), List.getElem?_eq_none (by rw [List.length_range]; omega)]; rfl
  · rw [List.getElem?_eq_none (by omega), List.getElem?_eq_none (by simp; omega)]; rfl
theorem possR_of {w : World} {t : Tab} {s : List Stn} {R : List Rep} {l : List Trk} (hR : R.length ≤ 100) {e : Ending} {w' : World} (h : PossW w t s R l e w') : PossR w t s R l e w' := by
  obtain ⟨hB, (⟨h1, rfl⟩ | ⟨h1, X, hS, hnd, h2⟩)⟩ := h
  · have hE : possErr t s R l = askE t s R l := by unfold possErr; rw [if_pos h1]
    exact ⟨none, 0, [], by rw [hE]; rfl, rows_nil _ _, by unfold possV; rw [if_neg (by rw [hE]; exact h1)]; rfl, hB⟩
  · have hm := scn_many hS
    have hf := scn_found hS hR hnd
    have h0 : ¬ askE t s R l ≠ 0 := fun q => q h1
    rcases h2 with ⟨h2, rfl⟩ | ⟨h2, h3, rfl⟩ | ⟨h2, h3, A, c, rows, rfl, hr, hl, hh⟩
    · have hE : possErr t s R l = 2 := by unfold possErr; rw [if_neg h0, if_pos (hm.1 h2)]
      exact ⟨none, 0, [], by rw [hE]; rfl, rows_nil _ _, by unfold possV; rw [if_neg (by rw [hE]; decide)]; rfl, hB⟩
    · have hm' : ¬ manyB l = true := fun q => by
        obtain ⟨g, hg, q⟩ := hm.2 q
        have := h2 g hg
        omega
      have hE : possErr t s R l = 240 := by unfold possErr; rw [if_neg h0, if_neg hm', if_neg (mt hf.2 h3)]
      exact ⟨none, 0, [], by rw [hE]; rfl, rows_nil _ _, by unfold possV; rw [if_neg (by rw [hE]; decide)]; rfl, hB⟩
    · have hm' : ¬ manyB l = true := fun q => by
        obtain ⟨g, hg, q⟩ := hm.2 q
        have := h2 g hg
        omega
      have hE : possErr t s R l = 0 := by unfold possErr; rw [if_neg h0, if_neg hm', if_pos (hf.1 h3)]
      refine ⟨A, c, rows, by rw [hE], hr, ?_, hB⟩
      unfold possV
      rw [if_pos hE]
      exact rows_poss hl (hh.congr (fun n k => scn_hit hS hR hnd n k))
theorem possR_at (t : Tab) (SA : Option Addr) (sc : Nat) (sl : List Stn) (RA : Option Addr) (rc : Nat) (R : List Rep) (LA : Option Addr) (lc : Nat) (ll : List Trk) (w : World) (ht : Tab.ok w t) (hs : SliceOf.ok Stn.cells 3 Stn.ok w ⟨SA, sc, sl⟩) (hr : Slc w Rep.cells 6 RA R) (hl : SliceOf.ok Trk.cells 14 Trk.ok w ⟨LA, lc, ll⟩)
    (hsn : sl.length ≤ 100) (hrn : R.length ≤ 100) (hln : ll.length ≤ 100) : Calls Tryz.prog 11 #[t.v, .slice SA sl.length sc, .slice RA R.length rc, .slice LA ll.length lc] w (PossR w t sl R ll) :=
  (poss_head t SA sc sl RA rc R LA lc ll w ht hs hr hl hsn hrn hln).mono (fun _ _ h => possR_of hrn h)
/-- What World answers. -/
def worldErr (t : Tab) (s : List Stn) (R : List Rep) (l : List Trk) (picks : List Int) : Int := if askE t s R l ≠ 0 then askE t s R l else if picksB l picks then 0 else 240
def worldV (t : Tab) (s : List Stn) (R : List Rep) (l : List Trk) (picks : List Int) : Bool := if worldErr t s R l picks = 0 then worldP t s R l picks else false
theorem worldR_of {w : World} {t : Tab} {s : List Stn} {R : List Rep} {l : List Trk} {picks : List Int} {e : Ending} {w' : World} (h : WorldR w t s R l picks e w') :
    e = .returned (.tuple #[.bool (worldV t s R l picks), .int .i64 (worldErr t s R l picks)]) ∧ Below w.heap.size w w' := by
  obtain ⟨hB, h⟩ := h
  refine ⟨?_, hB⟩
  rcases h with ⟨h1, rfl⟩ | ⟨h1, h2, rfl⟩ | ⟨h1, h2, X, hS, rfl⟩
  · have hE : worldErr t s R l picks = askE t s R l := by unfold worldErr; rw [if_pos h1]
    unfold worldV
    rw [hE, if_neg h1]
  · have hE : worldErr t s R l picks = 240 := by unfold worldErr; rw [if_neg (fun q => q h1), h2]; rfl
    unfold worldV
    rw [hE]; rfl
  · have hE : worldErr t s R l picks = 0 := by unfold worldErr; rw [if_neg (fun q => q h1), h2]; rfl
    unfold worldV
    rw [hE, if_pos rfl, worldB_eq hS]
end Go.Proofs.YtjiojpoiocdnmaaGreat
/- Lists of rows of Booleans compared: Same, within. -/
set_option linter.unusedSimpArgs false
set_option linter.unusedVariables false
namespace Go.Proofs.YtjiojpoiocdnmaaGreat
open Go.RowKit Go.Shelf
theorem take_snoc_eq {α : Type} {a b : List α} {k : Nat} {x y : α} (ha : a[k]? = some x) (hb : b[k]? = some y) (h : a.take k = b.take k) (e : x = y) : a.take (k + 1) = b.take (k + 1) := by
  rw [take_snoc2 ha, take_snoc2 hb, h, e]
theorem map_at {rows : List BR} {k : Nat} {x : BR} (h : rows[k]? = some x) : (rows.map (·.l))[k]? = some x.l := by simp [h]
set_option maxRecDepth 100000 in
set_option maxHeartbeats 8000000 in
theorem same_at {A A2 : Option Addr} {n n2 c c2 : Nat} {r1 r2 : List BR} {w : World} (B : Bool) (hB : decide (r1.map (·.l) = r2.map (·.l)) = B) (hn : n = r1.length) (hn2 : n2 = r2.length) (hl : r1.length ≤ 100000) (h1 : Slc w BR.enc 1 A r1) (h2 : Slc w BR.enc 1 A2 r2) (k1 : ∀ x ∈ r1, x.ok w) (k2 : ∀ x ∈ r2, x.ok w) (hm : ∀ x ∈ r1, x.l.length ≤ 100000) :
    Calls Tryz.prog 13 #[.slice A n c, .slice A2 n2 c2] w (RetB w B) := by
  have HB := Lib.hid hB
  have HN1 := Lib.hid hn
  have HN2 := Lib.hid hn2
  have HL := Lib.hid hl
  have H1 := Lib.hid h1
  have H2 := Lib.hid h2
  have K1 := Lib.hid k1
  have K2 := Lib.hid k2
  have HM := Lib.hid hm
  clear hB hn hn2 hl h1 h2 k1 k2 hm
  have hnl : n ≤ 100000 := by rw [HN1.out]; exact HL.out
  by_cases hlen : n = n2
  rotate_left
  · obtain rfl : B = false := by
      rw [← HB.out]
      refine decide_eq_false (fun e => hlen ?_)
      have := congrArg List.length e
      rw [List.length_map, List.length_map] at this
      rw [HN1.out, HN2.out, this]
    have hbf : ((n : Int) == (n2 : Int)) = false := by rw [beq_eq_false_iff_ne]; omega
    clear hlen
    go_enter Tryz.func13, Tryz.ntmps13
    go_wp2_with fail
    go_ret
    exact ⟨rfl, ext_refl _⟩
  · subst hlen
    go_enter Tryz.func13, Tryz.ntmps13
    go_wp2_with fail
    go_loopw [5] (fun i wr => ∃ k : Nat, k ≤ n ∧ i = .int .i64 k ∧ Hid ((r1.map (·.l)).take k = (r2.map (·.l)).take k) ∧ Hid (Below w.heap.size w wr)) (fun i _ => n - (intOf i).toNat)
    case atStart => exact ⟨0, by omega, rfl, by simp [Hid], ext_refl _⟩
    case round =>
      obtain ⟨k, hk, rfl, HR, HE⟩ := hrel
      obtain ⟨wo, rfl⟩ : ∃ wo, wo = wr := ⟨_, rfl⟩
      by_cases hlt : k < n
      rotate_left
      · obtain rfl : k = n := by omega
        have hkn : ¬ (k : Int) < (k : Int) := by omega
        obtain rfl : B = true := by
          rw [← HB.out]
          have hn1 := HN1.out
          have hn2 := HN2.out
          have := HR.out
          rw [List.take_of_length_le (by simp; omega), List.take_of_length_le (by simp; omega)] at this
          exact decide_eq_true this
        go_wp2_with fail
        go_ret
        exact ⟨rfl, HE.out⟩
      · have hki : (k : Int) < (n : Int) := by omega
        obtain ⟨x1, b1, o1, hx1, hA1, hb1, hc1⟩ := (H1.out.below (Nat.le_refl _) HE.out).at_ (k := k) (by rw [← HN1.out]; exact hlt)
        obtain ⟨x2, b2, o2, hx2, hA2, hb2, hc2⟩ := (H2.out.below (Nat.le_refl _) HE.out).at_ (k := k) (by rw [← HN2.out]; exact hlt)
        have X1 : Hid (x1.ok wo) := Below.cellsB HE.out (K1.out x1 (List.mem_of_getElem? hx1))
        have X2 : Hid (x2.ok wo) := Below.cellsB HE.out (K2.out x2 (List.mem_of_getElem? hx2))
        have HM1 : Hid (x1.l.length ≤ 100000) := HM.out x1 (List.mem_of_getElem? hx1)
        have d1 : wo.cell? ⟨b1, o1 + k, none⟩ = some (.slice (some ⟨x1.b, 0, none⟩) x1.l.length x1.l.length) := by have := hc1 0 _ rfl; simpa using this
        have d2 : wo.cell? ⟨b2, o2 + k, none⟩ = some (.slice (some ⟨x2.b, 0, none⟩) x2.l.length x2.l.length) := by have := hc2 0 _ rfl; simpa using this
        have HX1 := Lib.hid hx1
        have HX2 := Lib.hid hx2
        obtain ⟨m1, hm1⟩ : ∃ m1, x1.l.length = m1 := ⟨_, rfl⟩
        obtain ⟨m2, hm2⟩ : ∃ m2, x2.l.length = m2 := ⟨_, rfl⟩
        obtain ⟨p1, hp1⟩ : ∃ p1, x1.b = p1 := ⟨_, rfl⟩
        obtain ⟨p2, hp2⟩ : ∃ p2, x2.b = p2 := ⟨_, rfl⟩
        rw [hm1, hp1] at d1
        rw [hm2, hp2] at d2
        rw [hm1] at HM1
        have HM1' := Lib.hid hm1
        have HM2' := Lib.hid hm2
        have HP1 := Lib.hid hp1
        have HP2 := Lib.hid hp2
        have hmb : m1 ≤ 100000 := HM1.out
        subst hA1
        subst hA2
        clear hx1 hx2 hc1 hc2 hm1 hm2 hp1 hp2
        by_cases hmm : m1 = m2
        rotate_left
        · have hmf : ((m1 : Int) == (m2 : Int)) = false := by rw [beq_eq_false_iff_ne]; omega
          obtain rfl : B = false := by
            rw [← HB.out]
            refine decide_eq_false (fun e => hmm ?_)
            have h1 := map_at HX1.out
            rw [e, map_at HX2.out] at h1
            injection h1 with h1
            rw [← HM1'.out, ← HM2'.out, h1]
          clear hmm
          go_wp2_with fail
          have SS := Lib.hid (show ∀ w', Below wo.heap.size wo w' → (fun w' => Below wo.heap.size wo w' ∧ w'.cell? ⟨b1, o1 + k, none⟩ = some (.slice (some ⟨p1, 0, none⟩) m1 m1) ∧ w'.cell? ⟨b2, o2 + k, none⟩ = some (.slice (some ⟨p2, 0, none⟩) m2 m2)) w' from fun w' h => ⟨h, (h.cell (p := ⟨b1, o1 + k, none⟩) hb1).trans d1, (h.cell (p := ⟨b2, o2 + k, none⟩) hb2).trans d2⟩)
          refine rgB 11 SS (ext_drew (ext_refl _)) (fun Q7 hQ7 hN7 hHeld => ?_)
          refine rgT 0 (some 18) hQ7 hHeld ?_; refine rgT 1 (some 19) hQ7 hHeld ?_; refine rgT 2 (some 20) hQ7 hHeld ?_; refine rgT 3 (some 21) hQ7 hHeld ?_; refine rgT 4 (some 22) hQ7 hHeld ?_; refine rgT 5 (some 23) hQ7 hHeld ?_; refine rgT 6 (some 24) hQ7 hHeld ?_; refine rgT 7 (some 25) hQ7 hHeld ?_; refine rgT 8 (some 26) hQ7 hHeld ?_; refine rgT 9 (some 27) hQ7 hHeld ?_; refine rgT 10 (some 28) hQ7 hHeld ?_
          refine rg_end (by kernel_rfl) (hN7 _ _ ?_) _
          clear hQ7 hN7 Q7
          have BX := hHeld.1
          clear SS
          have E9 := Lib.hid (HE.out.trans (BX.mono HE.out.size))
          go_wp2_with fail
          go_ret
          exact ⟨rfl, E9.out⟩
        · subst hmm
          go_wp2_with fail
          have SS := Lib.hid (show ∀ w', Below wo.heap.size wo w' → (fun w' => Below wo.heap.size wo w' ∧ w'.cell? ⟨b1, o1 + k, none⟩ = some (.slice (some ⟨p1, 0, none⟩) m1 m1) ∧ w'.cell? ⟨b2, o2 + k, none⟩ = some (.slice (some ⟨p2, 0, none⟩) m1 m1)) w' from fun w' h => ⟨h, (h.cell (p := ⟨b1, o1 + k, none⟩) hb1).trans d1, (h.cell (p := ⟨b2, o2 + k, none⟩) hb2).trans d2⟩)
          refine rgB 11 SS (ext_drew (ext_refl _)) (fun Q7 hQ7 hN7 hHeld => ?_)
          refine rgT 0 (some 18) hQ7 hHeld ?_; refine rgT 1 (some 19) hQ7 hHeld ?_; refine rgT 2 (some 20) hQ7 hHeld ?_; refine rgT 3 (some 21) hQ7 hHeld ?_; refine rgT 4 (some 22) hQ7 hHeld ?_; refine rgT 5 (some 23) hQ7 hHeld ?_; refine rgT 6 (some 24) hQ7 hHeld ?_; refine rgT 7 (some 25) hQ7 hHeld ?_; refine rgT 8 (some 26) hQ7 hHeld ?_; refine rgT 9 (some 27) hQ7 hHeld ?_; refine rgT 10 (some 28) hQ7 hHeld ?_
          refine rg_end (by kernel_rfl) (hN7 _ _ ?_) _
          clear hQ7 hN7 Q7
          have BX := hHeld.1
          clear SS
          have E9 := Lib.hid (HE.out.trans (BX.mono HE.out.size))
          obtain ⟨w5, hw5⟩ : ∃ w5, wo.drew = w5 := ⟨_, rfl⟩
          rw [hw5] at E9 BX ⊢
          have hb1 : b1 < w5.heap.size := Nat.lt_of_lt_of_le hb1 BX.size
          have hb2 : b2 < w5.heap.size := Nat.lt_of_lt_of_le hb2 BX.size
          have d1 : w5.cell? ⟨b1, o1 + k, none⟩ = some (.slice (some ⟨p1, 0, none⟩) m1 m1) := (BX.cell (p := ⟨b1, o1 + k, none⟩) (by assumption)).trans d1
          have d2 : w5.cell? ⟨b2, o2 + k, none⟩ = some (.slice (some ⟨p2, 0, none⟩) m1 m1) := (BX.cell (p := ⟨b2, o2 + k, none⟩) (by assumption)).trans d2
          have Y1 : Hid (x1.ok w5) := Below.cellsB BX X1.out
          have Y2 : Hid (x2.ok w5) := Below.cellsB BX X2.out
          have D1 := Lib.hid d1
          have D2 := Lib.hid d2
          have HB1 := Lib.hid hb1
          have HB2 := Lib.hid hb2
          clear hw5 X1 X2 HE d1 d2 hb1 hb2 BX
          go_wp2_with fail
          go_loopw [6] (fun i wr => ∃ j : Nat, j ≤ m1 ∧ i = .int .i64 j ∧ Hid (x1.l.take j = x2.l.take j) ∧ Hid (Below w5.heap.size w5 wr)) (fun i _ => m1 - (intOf i).toNat)
          case atStart => exact ⟨0, by omega, rfl, by simp [Hid], ext_refl _⟩
          case round =>
            obtain ⟨j, hj, rfl, HJ, HF⟩ := hrel
            obtain ⟨wi, rfl⟩ : ∃ wi, wi = wr := ⟨_, rfl⟩
            have d1 : wi.cell? ⟨b1, o1 + k, none⟩ = some (.slice (some ⟨p1, 0, none⟩) m1 m1) := (HF.out.cell (p := ⟨b1, o1 + k, none⟩) HB1.out).trans D1.out
            have d2 : wi.cell? ⟨b2, o2 + k, none⟩ = some (.slice (some ⟨p2, 0, none⟩) m1 m1) := (HF.out.cell (p := ⟨b2, o2 + k, none⟩) HB2.out).trans D2.out
            have hb1 : b1 < wi.heap.size := Nat.lt_of_lt_of_le HB1.out HF.out.size
            have hb2 : b2 < wi.heap.size := Nat.lt_of_lt_of_le HB2.out HF.out.size
            by_cases hjl : j < m1
            rotate_left
            · obtain rfl : j = m1 := by omega
              have hjn : ¬ (j : Int) < (j : Int) := by omega
              have HR9 : Hid ((r1.map (·.l)).take (k + 1) = (r2.map (·.l)).take (k + 1)) := by
                have hl1 := HM1'.out
                have hl2 := HM2'.out
                have := HJ.out
                rw [List.take_of_length_le (by omega), List.take_of_length_le (by omega)] at this
                exact take_snoc_eq (map_at HX1.out) (map_at HX2.out) HR.out this
              have E10 := Lib.hid (E9.out.trans (HF.out.mono E9.out.size))
              clear d2 hb2
              go_wp2_with fail
              go_roundw
              case rel => exact ⟨k + 1, by omega, by go_num, HR9, E10⟩
              case measure => simp [intOf]; (try omega)
            · have hji : (j : Int) < (m1 : Int) := by omega
              obtain ⟨e1, he1⟩ : ∃ e1, x1.l[j]? = some e1 := ⟨_, List.getElem?_eq_getElem (by rw [HM1'.out]; exact hjl)⟩
              obtain ⟨e2, he2⟩ : ∃ e2, x2.l[j]? = some e2 := ⟨_, List.getElem?_eq_getElem (by rw [HM2'.out]; exact hjl)⟩
              have q1 : wi.cell? ⟨p1, j, none⟩ = some (.bool e1) := by rw [← HP1.out]; exact BR.cell (Below.cellsB HF.out Y1.out) he1
              have q2 : wi.cell? ⟨p2, j, none⟩ = some (.bool e2) := by rw [← HP2.out]; exact BR.cell (Below.cellsB HF.out Y2.out) he2
              have hp1 : p1 < wi.heap.size := by rw [← HP1.out]; exact BR.lt (Below.cellsB HF.out Y1.out)
              have hp2 : p2 < wi.heap.size := by rw [← HP2.out]; exact BR.lt (Below.cellsB HF.out Y2.out)
              have HE1 := Lib.hid he1
              have HE2 := Lib.hid he2
              clear he1 he2
              by_cases hee : e1 = e2
              rotate_left
              · obtain rfl : B = false := by
                  rw [← HB.out]
                  refine decide_eq_false (fun e => hee ?_)
                  have h1 := map_at HX1.out
                  rw [e, map_at HX2.out] at h1
                  injection h1 with h1
                  have h2 := HE2.out
                  rw [h1, HE1.out] at h2
                  injection h2
                have E10 := Lib.hid (E9.out.trans (HF.out.mono E9.out.size))
                cases e1 <;> cases e2
                · exact absurd rfl hee
                · clear hee
                  go_wp2_with fail
                  have SS := Lib.hid (show ∀ w', Below wi.heap.size wi w' → (fun w' => Below wi.heap.size wi w' ∧ w'.cell? ⟨b1, o1 + k, none⟩ = some (.slice (some ⟨p1, 0, none⟩) m1 m1) ∧ w'.cell? ⟨b2, o2 + k, none⟩ = some (.slice (some ⟨p2, 0, none⟩) m1 m1) ∧ w'.cell? ⟨p1, j, none⟩ = some (.bool false) ∧ w'.cell? ⟨p2, j, none⟩ = some (.bool true)) w' from fun w' h => ⟨h, (h.cell (p := ⟨b1, o1 + k, none⟩) hb1).trans d1, (h.cell (p := ⟨b2, o2 + k, none⟩) hb2).trans d2, (h.cell (p := ⟨p1, j, none⟩) hp1).trans q1, (h.cell (p := ⟨p2, j, none⟩) hp2).trans q2⟩)
                  refine rgB 15 SS (ext_drew (ext_refl _)) (fun Q7 hQ7 hN7 hHeld => ?_)
                  refine rgT 0 (some 38) hQ7 hHeld ?_; refine rgT 1 (some 39) hQ7 hHeld ?_; refine rgT 2 (some 40) hQ7 hHeld ?_; refine rgT 3 (some 41) hQ7 hHeld ?_; refine rgT 4 (some 42) hQ7 hHeld ?_; refine rgT 5 (some 43) hQ7 hHeld ?_; refine rgT 6 (some 44) hQ7 hHeld ?_; refine rgT 7 (some 45) hQ7 hHeld ?_; refine rgT 8 (some 46) hQ7 hHeld ?_; refine rgT 9 (some 47) hQ7 hHeld ?_; refine rgT 10 (some 48) hQ7 hHeld ?_
                  refine rgT 11 (some 49) hQ7 hHeld ?_; refine rgT 12 (some 50) hQ7 hHeld ?_; refine rgT 13 (some 51) hQ7 hHeld ?_; refine rgT 14 (some 52) hQ7 hHeld ?_
                  refine rg_end (by kernel_rfl) (hN7 _ _ ?_) _
                  clear hQ7 hN7 Q7
                  have BX := hHeld.1
                  clear SS
                  have E11 := Lib.hid (E10.out.trans (BX.mono E10.out.size))
                  go_wp2_with fail
                  go_ret
                  exact ⟨rfl, E11.out⟩
                · clear hee
                  go_wp2_with fail
                  have SS := Lib.hid (show ∀ w', Below wi.heap.size wi w' → (fun w' => Below wi.heap.size wi w' ∧ w'.cell? ⟨b1, o1 + k, none⟩ = some (.slice (some ⟨p1, 0, none⟩) m1 m1) ∧ w'.cell? ⟨b2, o2 + k, none⟩ = some (.slice (some ⟨p2, 0, none⟩) m1 m1) ∧ w'.cell? ⟨p1, j, none⟩ = some (.bool true) ∧ w'.cell? ⟨p2, j, none⟩ = some (.bool false)) w' from fun w' h => ⟨h, (h.cell (p := ⟨b1, o1 + k, none⟩) hb1).trans d1, (h.cell (p := ⟨b2, o2 + k, none⟩) hb2).trans d2, (h.cell (p := ⟨p1, j, none⟩) hp1).trans q1, (h.cell (p := ⟨p2, j, none⟩) hp2).trans q2⟩)
                  refine rgB 15 SS (ext_drew (ext_refl _)) (fun Q7 hQ7 hN7 hHeld => ?_)
                  refine rgT 0 (some 38) hQ7 hHeld ?_; refine rgT 1 (some 39) hQ7 hHeld ?_; refine rgT 2 (some 40) hQ7 hHeld ?_; refine rgT 3 (some 41) hQ7 hHeld ?_; refine rgT 4 (some 42) hQ7 hHeld ?_; refine rgT 5 (some 43) hQ7 hHeld ?_; refine rgT 6 (some 44) hQ7 hHeld ?_; refine rgT 7 (some 45) hQ7 hHeld ?_; refine rgT 8 (some 46) hQ7 hHeld ?_; refine rgT 9 (some 47) hQ7 hHeld ?_; refine rgT 10 (some 48) hQ7 hHeld ?_
                  refine rgT 11 (some 49) hQ7 hHeld ?_; refine rgT 12 (some 50) hQ7 hHeld ?_; refine rgT 13 (some 51) hQ7 hHeld ?_; refine rgT 14 (some 52) hQ7 hHeld ?_
                  refine rg_end (by kernel_rfl) (hN7 _ _ ?_) _
                  clear hQ7 hN7 Q7
                  have BX := hHeld.1
                  clear SS
                  have E11 := Lib.hid (E10.out.trans (BX.mono E10.out.size))
                  go_wp2_with fail
                  go_ret
                  exact ⟨rfl, E11.out⟩
                · exact absurd rfl hee
              · subst hee
                have HJ9 : Hid (x1.l.take (j + 1) = x2.l.take (j + 1)) := take_snoc_eq HE1.out HE2.out HJ.out rfl
                cases e1
                · go_wp2_with fail
                  have SS := Lib.hid (show ∀ w', Below wi.heap.size wi w' → (fun w' => Below wi.heap.size wi w' ∧ w'.cell? ⟨b1, o1 + k, none⟩ = some (.slice (some ⟨p1, 0, none⟩) m1 m1) ∧ w'.cell? ⟨b2, o2 + k, none⟩ = some (.slice (some ⟨p2, 0, none⟩) m1 m1) ∧ w'.cell? ⟨p1, j, none⟩ = some (.bool false) ∧ w'.cell? ⟨p2, j, none⟩ = some (.bool false)) w' from fun w' h => ⟨h, (h.cell (p := ⟨b1, o1 + k, none⟩) hb1).trans d1, (h.cell (p := ⟨b2, o2 + k, none⟩) hb2).trans d2, (h.cell (p := ⟨p1, j, none⟩) hp1).trans q1, (h.cell (p := ⟨p2, j, none⟩) hp2).trans q2⟩)
                  refine rgB 15 SS (ext_drew (ext_refl _)) (fun Q7 hQ7 hN7 hHeld => ?_)
                  refine rgT 0 (some 38) hQ7 hHeld ?_; refine rgT 1 (some 39) hQ7 hHeld ?_; refine rgT 2 (some 40) hQ7 hHeld ?_; refine rgT 3 (some 41) hQ7 hHeld ?_; refine rgT 4 (some 42) hQ7 hHeld ?_; refine rgT 5 (some 43) hQ7 hHeld ?_; refine rgT 6 (some 44) hQ7 hHeld ?_; refine rgT 7 (some 45) hQ7 hHeld ?_; refine rgT 8 (some 46) hQ7 hHeld ?_; refine rgT 9 (some 47) hQ7 hHeld ?_; refine rgT 10 (some 48) hQ7 hHeld ?_
                  refine rgT 11 (some 49) hQ7 hHeld ?_; refine rgT 12 (some 50) hQ7 hHeld ?_; refine rgT 13 (some 51) hQ7 hHeld ?_; refine rgT 14 (some 52) hQ7 hHeld ?_
                  refine rg_end (by kernel_rfl) (hN7 _ _ ?_) _
                  clear hQ7 hN7 Q7
                  have BX := hHeld.1
                  clear SS
                  have F11 := Lib.hid (HF.out.trans (BX.mono HF.out.size))
                  clear BX
                  go_wp2_with fail
                  go_roundw
                  case rel => exact ⟨j + 1, hjl, by go_num, HJ9, F11⟩
                  case measure => simp [intOf]; (try omega)
                · go_wp2_with fail
                  have SS := Lib.hid (show ∀ w', Below wi.heap.size wi w' → (fun w' => Below wi.heap.size wi w' ∧ w'.cell? ⟨b1, o1 + k, none⟩ = some (.slice (some ⟨p1, 0, none⟩) m1 m1) ∧ w'.cell? ⟨b2, o2 + k, none⟩ = some (.slice (some ⟨p2, 0, none⟩) m1 m1) ∧ w'.cell? ⟨p1, j, none⟩ = some (.bool true) ∧ w'.cell? ⟨p2, j, none⟩ = some (.bool true)) w' from fun w' h => ⟨h, (h.cell (p := ⟨b1, o1 + k, none⟩) hb1).trans d1, (h.cell (p := ⟨b2, o2 + k, none⟩) hb2).trans d2, (h.cell (p := ⟨p1, j, none⟩) hp1).trans q1, (h.cell (p := ⟨p2, j, none⟩) hp2).trans q2⟩)
                  refine rgB 15 SS (ext_drew (ext_refl _)) (fun Q7 hQ7 hN7 hHeld => ?_)
                  refine rgT 0 (some 38) hQ7 hHeld ?_; refine rgT 1 (some 39) hQ7 hHeld ?_; refine rgT 2 (some 40) hQ7 hHeld ?_; refine rgT 3 (some 41) hQ7 hHeld ?_; refine rgT 4 (some 42) hQ7 hHeld ?_; refine rgT 5 (some 43) hQ7 hHeld ?_; refine rgT 6 (some 44) hQ7 hHeld ?_; refine rgT 7 (some 45) hQ7 hHeld ?_; refine rgT 8 (some 46) hQ7 hHeld ?_; refine rgT 9 (some 47) hQ7 hHeld ?_; refine rgT 10 (some 48) hQ7 hHeld ?_
                  refine rgT 11 (some 49) hQ7 hHeld ?_; refine rgT 12 (some 50) hQ7 hHeld ?_; refine rgT 13 (some 51) hQ7 hHeld ?_; refine rgT 14 (some 52) hQ7 hHeld ?_
                  refine rg_end (by kernel_rfl) (hN7 _ _ ?_) _
                  clear hQ7 hN7 Q7
                  have BX := hHeld.1
                  clear SS
                  have F11 := Lib.hid (HF.out.trans (BX.mono HF.out.size))
                  clear BX
                  go_wp2_with fail
                  go_roundw
                  case rel => exact ⟨j + 1, hjl, by go_num, HJ9, F11⟩
                  case measure => simp [intOf]; (try omega)
end Go.Proofs.YtjiojpoiocdnmaaGreat
