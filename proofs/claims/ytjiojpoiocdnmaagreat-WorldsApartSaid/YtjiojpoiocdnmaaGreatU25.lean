/- What a scene says of tracks, stations and reports; the closures of set. -/
import Derived.Test.YtjiojpoiocdnmaaGreatU18
import Derived.Test.YtjiojpoiocdnmaaGreatU24
set_option linter.unusedSimpArgs false
set_option linter.unusedVariables false
namespace Go.Proofs.YtjiojpoiocdnmaaGreat
open Go.RowKit
def idxs (l : List Trk) (k : Nat) (c : ByteArray) : List Nat := (List.range k).filter (fun i => decide ((l[i]?).map (·.fl.call) = some c))
structure GSpec (l : List Trk) (k : Nat) (G : List Grp) (R : List Rep) : Prop where
  nd : (G.map (·.call)).Nodup
  ts : ∀ g ∈ G, g.ts = idxs l k g.call
  has : ∀ (i : Nat) (x : Trk), i < k → l[i]? = some x → ∃ g ∈ G, g.call = x.fl.call
  only : ∀ g ∈ G, ∃ x ∈ l, x.fl.call = g.call
  rs : ∀ g ∈ G, g.rs = R.filter (fun r => decide (r.call = g.call))
theorem idxs_succ {l : List Trk} {k : Nat} {x : Trk} (hx : l[k]? = some x) (c : ByteArray) : idxs l (k + 1) c = if x.fl.call = c then idxs l k c ++ [k] else idxs l k c := by
  unfold idxs
  rw [List.range_succ, List.filter_append]
  by_cases h : x.fl.call = c
  · rw [if_pos h]; simp [hx, h]
  · rw [if_neg h]; simp [hx, h]
theorem GSpec.nil (l : List Trk) : GSpec l 0 [] [] := ⟨List.nodup_nil, by simp, fun i x h => by omega, by simp, by simp⟩
theorem GSpec.new {l : List Trk} {k : Nat} {G : List Grp} {x : Trk} (h : GSpec l k G []) (hx : l[k]? = some x) (hc : x.fl.call ∉ G.map (·.call)) (b : Nat) : GSpec l k (G ++ [newG x.fl.call b]) [] := by
  refine ⟨?_, fun g hg => ?_, fun i y hi hy => ?_, fun g hg => ?_, fun g hg => ?_⟩
  · rw [List.map_append, List.nodup_append]
    exact ⟨h.nd, by simp, fun a ha b hb e => by simp [newG] at hb; subst hb; subst e; exact hc ha⟩
  · rcases List.mem_append.1 hg with hg | hg
    · exact h.ts g hg
    · obtain rfl := List.mem_singleton.1 hg
      show [] = idxs l k x.fl.call
      symm
      unfold idxs
      rw [List.filter_eq_nil_iff]
      intro i hi
      simp only [decide_eq_true_eq]
      intro e
      cases hy : l[i]? with
      | none => rw [hy] at e; cases e
      | some y =>
        rw [hy] at e
        simp only [Option.map_some, Option.some.injEq] at e
        obtain ⟨g, hg, hgc⟩ := h.has i y (List.mem_range.1 hi) hy
        exact hc (List.mem_map.2 ⟨g, hg, hgc.trans e⟩)
  · obtain ⟨g, hg, e⟩ := h.has i y hi hy
    exact ⟨g, List.mem_append.2 (.inl hg), e⟩
  · rcases List.mem_append.1 hg with hg | hg
    · exact h.only g hg
    · obtain rfl := List.mem_singleton.1 hg
      exact ⟨x, List.mem_of_getElem? hx, rfl⟩
  · rcases List.mem_append.1 hg with hg | hg
    · exact h.rs g hg
    · obtain rfl := List.mem_singleton.1 hg
      rfl
theorem updG_calls (G : List Grp) (g' : Grp) : (updG G g').map (·.call) = G.map (·.call) := by
  unfold updG
  rw [List.map_map]
  refine List.map_congr_left fun q _ => ?_
  simp only [Function.comp]
  split
  · rename_i e; exact e.symm
  · rfl
theorem mem_updG_of {G : List Grp} {g g' : Grp} (hg : g ∈ G) (hc : g'.call = g.call) : g' ∈ updG G g' := List.mem_map.2 ⟨g, hg, by rw [if_pos hc.symm]⟩
theorem GSpec.add {l : List Trk} {k : Nat} {G : List Grp} {x : Trk} {g : Grp} (h : GSpec l k G []) (hx : l[k]? = some x) (hg : g ∈ G) (hc : g.call = x.fl.call) (A : Option Addr) (c : Nat) : GSpec l (k + 1) (updG G { g with tA := A, tc := c, ts := g.ts ++ [k] }) [] := by
  refine ⟨by rw [updG_calls]; exact h.nd, fun q hq => ?_, fun i y hi hy => ?_, fun q hq => ?_, fun q hq => ?_⟩
  · rw [idxs_succ hx]
    rcases mem_updG hq with rfl | ⟨hq, hne⟩
    · rw [if_pos hc.symm, h.ts g hg]
    · rw [if_neg (fun e => hne (e.symm.trans hc.symm)), h.ts q hq]
  · have : ∃ q ∈ G, q.call = y.fl.call := by
      rcases Nat.lt_or_ge i k with hik | hik
      · exact h.has i y hik hy
      · obtain rfl : i = k := by omega
        rw [hx] at hy; cases hy; exact ⟨g, hg, hc⟩
    obtain ⟨q, hq, e⟩ := this
    by_cases e2 : q.call = g.call
    · exact ⟨_, mem_updG_of hg rfl, e2.symm.trans e⟩
    · exact ⟨q, List.mem_map.2 ⟨q, hq, by rw [if_neg e2]⟩, e⟩
  · rcases mem_updG hq with rfl | ⟨hq, hne⟩
    · exact h.only g hg
    · exact h.only q hq
  · rcases mem_updG hq with rfl | ⟨hq, hne⟩
    · exact h.rs g hg
    · exact h.rs q hq
theorem GSpec.rep {l : List Trk} {k : Nat} {G : List Grp} {R : List Rep} {r : Rep} {g : Grp} (h : GSpec l k G R) (hg : g ∈ G) (hc : g.call = r.call) (A : Option Addr) (c : Nat) : GSpec l k (updG G { g with rA := A, rc := c, rs := g.rs ++ [r] }) (R ++ [r]) := by
  refine ⟨by rw [updG_calls]; exact h.nd, fun q hq => ?_, fun i y hi hy => ?_, fun q hq => ?_, fun q hq => ?_⟩
  · rcases mem_updG hq with rfl | ⟨hq, hne⟩
    · exact h.ts g hg
    · exact h.ts q hq
  · obtain ⟨q, hq, e⟩ := h.has i y hi hy
    by_cases e2 : q.call = g.call
    · exact ⟨_, mem_updG_of hg rfl, e2.symm.trans e⟩
    · exact ⟨q, List.mem_map.2 ⟨q, hq, by rw [if_neg e2]⟩, e⟩
  · rcases mem_updG hq with rfl | ⟨hq, hne⟩
    · exact h.only g hg
    · exact h.only q hq
  · rw [List.filter_append]
    rcases mem_updG hq with rfl | ⟨hq, hne⟩
    · show g.rs ++ [r] = _
      rw [h.rs g hg]; simp [hc]
    · rw [h.rs q hq]
      have : ¬ r.call = q.call := fun e => hne (by rw [← e]; exact hc.symm)
      simp [this]
theorem GSpec.norep {l : List Trk} {k : Nat} {G : List Grp} {R : List Rep} {r : Rep} (h : GSpec l k G R) (hc : r.call ∉ G.map (·.call)) : GSpec l k G (R ++ [r]) :=
  ⟨h.nd, h.ts, h.has, h.only, fun q hq => by
    rw [List.filter_append, h.rs q hq]
    have : ¬ r.call = q.call := fun e => hc (List.mem_map.2 ⟨q, hq, e.symm⟩)
    simp [this]⟩
theorem GSpec.calls {l : List Trk} {G : List Grp} {R : List Rep} (h : GSpec l l.length G R) (c : ByteArray) : c ∈ G.map (·.call) ↔ l.any (fun x => decide (x.fl.call = c)) = true := by
  constructor
  · intro hm
    obtain ⟨g, hg, rfl⟩ := List.mem_map.1 hm
    obtain ⟨x, hx, e⟩ := h.only g hg
    exact List.any_eq_true.2 ⟨x, hx, by simp [e]⟩
  · intro hm
    obtain ⟨x, hx, e0⟩ := List.any_eq_true.1 hm
    obtain rfl : x.fl.call = c := by simpa using e0
    obtain ⟨i, hi⟩ := List.mem_iff_getElem?.1 hx
    obtain ⟨g, hg, e⟩ := h.has i x (List.getElem?_eq_some_iff.1 hi).1 hi
    exact List.mem_map.2 ⟨g, hg, e⟩
def hasC (l : List Trk) (c : ByteArray) : Bool := l.any (fun x => decide (x.fl.call = c))
def lostStep (l : List Trk) (v : V4) (r : Rep) : V4 := if hasC l r.call then v else v.inc r.st.toNat
def lostV (l : List Trk) (R : List Rep) : V4 := R.foldl (lostStep l) V4.zero
theorem lost_in (l : List Trk) : ∀ (R : List Rep) (v : V4) (N : Int), v.In N → (R.foldl (lostStep l) v).In (N + R.length)
  | [], v, N, h => by simpa using h
  | r :: R, v, N, h => by
    have h1 : (lostStep l v r).In (N + 1) := by
      unfold lostStep
      split
      · exact h.mono (by omega)
      · exact h.inc _
    have := lost_in l R _ (N + 1) h1
    simp only [List.foldl_cons, List.length_cons]
    exact this.mono (by omega)
def budV (s : List Stn) : V4 := ⟨((s[0]?).map (·.fa)).getD 0, ((s[1]?).map (·.fa)).getD 0, ((s[2]?).map (·.fa)).getD 0, ((s[3]?).map (·.fa)).getD 0⟩
theorem budV_step {s : List Stn} {k : Nat} {x : Stn} (hx : s[k]? = some x) (h : k < 4) : (budV (s.take k)).set k x.fa = budV (s.take (k + 1)) := by
  match k, h with
  | 0, _ => simp [budV, V4.set, List.getElem?_take, hx]
  | 1, _ => simp [budV, V4.set, List.getElem?_take, hx]
  | 2, _ => simp [budV, V4.set, List.getElem?_take, hx]
  | 3, _ => simp [budV, V4.set, List.getElem?_take, hx]
structure SceneSpec (t : Tab) (s : List Stn) (R : List Rep) (l : List Trk) (X : Scn) : Prop where
  st : X.stays = l.map (fun y => y.ps.l.map (staysL t))
  G : GSpec l l.length X.G R
  lost : X.lost = lostV l R
  bud : X.bud = budV s
  sh : X.sh.map (·.l) = shiftsL s
def askB (t : Tab) (s : List Stn) (R : List Rep) : Bool := decide (s.length ≤ 4) && decide (R.length ≤ 1024) && s.all (stnB t.n) && R.all (repB s.length)
def askE (t : Tab) (s : List Stn) (R : List Rep) (l : List Trk) : Int := if wchkE t l ≠ 0 then wchkE t l else if askB t s R then 0 else 240
theorem setCell_self {W : World} {b j : Nat} {v : Value} (h : W.cell? ⟨b, j, none⟩ = some v) : W.setCell ⟨b, j, none⟩ v = W := by
  have hh : (W.setCell ⟨b, j, none⟩ v).heap = W.heap := by
    refine Array.ext_getElem? fun i => ?_
    by_cases e : i = b
    · subst e
      unfold World.cell? at h
      cases hb : W.heap[i]? with
      | none => rw [hb] at h; cases h
      | some o =>
        rw [hb] at h
        obtain ⟨hlt, hk⟩ := Array.getElem?_eq_some_iff.1 hb
        cases o with
        | cells c t f =>
          have hj : c[j]? = some v := by simpa using h
          obtain ⟨hj1, hj2⟩ := Array.getElem?_eq_some_iff.1 hj
          show (W.heap.modify i _)[i]? = _
          rw [Array.getElem?_eq_getElem (by rw [Array.size_modify]; exact hlt), Array.getElem_modify_self, hk]
          have : c.setIfInBounds j v = c := by
            refine Array.ext (by rw [Array.size_setIfInBounds]) fun q q1 q2 => ?_
            rw [Array.getElem_setIfInBounds (by simpa using q2)]
            split
            · rename_i e; subst e; exact hj2.symm
            · rfl
          show some (Obj.cells (c.setIfInBounds j v) t f) = _
          rw [this]
        | _ => simp at h
    · exact Below.heap_setCell W ⟨b, j, none⟩ v i e
  calc W.setCell ⟨b, j, none⟩ v = { W with heap := (W.setCell ⟨b, j, none⟩ v).heap } := rfl
    _ = W := by rw [hh]
theorem entersS1 : Enters Tryz.prog 46 := fun args w => by kernel_rfl
theorem set1_any (t : Tab) (b : Nat) (x : Stn) (w : World) (hx : Stn.ok w x) (hb : Blk w b t.cells) : Calls Tryz.prog 46 #[x.v, .pointer (some ⟨b, 0, none⟩)] w fun e w' => e = .returned (.bool (!stnB t.n x)) ∧ Below w.heap.size w w' := by
  have HE := Lib.hid (ext_alloc (ext_refl w) (.cells #[.slice x.vs.A x.vs.l.length x.vs.c, .int .i64 x.sh, .int .i64 x.fa] 41))
  have HB := hb.alloc (.cells #[.slice x.vs.A x.vs.l.length x.vs.c, .int .i64 x.sh, .int .i64 x.fa] 41)
  have HX := Lib.hid hx
  have c0 := HB.c 0 _ rfl
  have bl := HB.lt
  clear hx hb HB
  go_enter Tryz.func46, Tryz.ntmps46
  go_wp2_with fail
  cases hs : stnB t.n x
  all_goals
    refine (stn_at _ (stnE_of hs) (HX.out.ext HE.out)).mono ?_
    rintro e w2 ⟨rfl, B⟩
    have HS := Lib.hid hs
    clear hs
    simp only [Bool.false_eq_true, if_false, if_true]
    go_wp2_with fail
    go_ret
    rw [HS.out]
    exact ⟨rfl, ext_trans HE.out B⟩
theorem entersS2 : Enters Tryz.prog 49 := fun args w => by kernel_rfl
theorem set2_any (A : Option Addr) (n c : Nat) (b : Nat) (x : Rep) (w : World) (hn : n ≤ 100000) (hb : Blk w b [.slice A n c]) : Calls Tryz.prog 49 #[x.v, .pointer (some ⟨b, 0, none⟩)] w fun e w' => e = .returned (.bool (!repB n x)) ∧ Below w.heap.size w w' := by
  have HE := Lib.hid (ext_alloc (ext_refl w) (.cells #[.int .i64 x.st, .int .i64 x.no, .int .i64 x.mi, .int .i64 x.ar, .string x.call, .int .i64 x.vol] 55))
  have HB := hb.alloc (.cells #[.int .i64 x.st, .int .i64 x.no, .int .i64 x.mi, .int .i64 x.ar, .string x.call, .int .i64 x.vol] 55)
  have c0 := HB.c 0 _ rfl
  have bl := HB.lt
  clear hb HB
  go_enter Tryz.func49, Tryz.ntmps49
  go_wp2_with fail
  cases hs : repB n x
  all_goals
    refine (rep_at _ (repE_of hs) (by omega) (by omega)).mono ?_
    rintro e w2 ⟨rfl, B⟩
    have HS := Lib.hid hs
    clear hs
    simp only [Bool.false_eq_true, if_false, if_true]
    go_wp2_with fail
    go_ret
    rw [HS.out]
    exact ⟨rfl, ext_trans HE.out B⟩
set_option maxHeartbeats 400000 in
theorem indexRep (g : Nat) (cap1 : Value) (p : Rep → Bool) (A : Option Addr) (c : Nat) (l : List (Rep)) (w : World) (ha : Slc w Rep.cells 6 A l) (hn : l.length ≤ maxLen) (hE : Enters Tryz.prog g)
    (hp : ∀ (x : Rep) (W : World), x ∈ l → Below w.heap.size w W → Calls Tryz.prog g #[x.v, cap1] W fun e W' => e = .returned (.bool (p x)) ∧ Below W.heap.size W W') :
    Calls Tryz.prog 77 #[.slice A l.length c, .func (.func g) #[] #[cap1]] w fun e w' => e = .returned (.int .i64 (idxGo p 0 l)) ∧ Below w.heap.size w w' := by
  have HP := Lib.hid hp
  have HE := Lib.hid hE
  clear hp hE
  unfold maxLen at hn
  go_enter Tryz.func77, Tryz.ntmps77
  go_wp2
  go_loopw [8] (fun i wr => ∃ k : Nat, k ≤ l.length ∧ i = .int .i64 k ∧ idxGo p 0 l = idxGo p k (l.drop k) ∧ Below w.heap.size w wr) (fun i _ => l.length - (intOf i).toNat)
  case atStart => exact ⟨0, Nat.zero_le _, rfl, rfl, ext_refl _⟩
  case round =>
    obtain ⟨k, hk, rfl, heq, hB⟩ := hrel
    have HQ := Lib.hid heq
    clear heq
    by_cases hlt : k < l.length
    · obtain ⟨x, b1, o1, hx, rfl, hb1, hc⟩ := (ha.ext hB).at_ hlt
      have HX := Lib.hid hx
      clear hx
      have c0 := hc 0 _ rfl
      have c1 := hc 1 _ rfl
      have c2 := hc 2 _ rfl
      have c3 := hc 3 _ rfl
      have c4 := hc 4 _ rfl
      have c5 := hc 5 _ rfl
      simp only [Nat.mul_one, Nat.add_zero] at c0 c1 c2 c3 c4 c5
      clear hc
      have hlt' : (k : Int) < l.length := by omega
      have hE2 := HE.out #[x.v, cap1] wr
      cases hpx : p x
      · go_wp2_with fail
        refine (HP.out x wr (List.mem_of_getElem? HX.out) hB).mono ?_
        rintro e w1 ⟨rfl, hB1⟩
        clear hE2
        go_wp2_with fail
        go_roundw
        case rel => exact ⟨k + 1, hlt, by go_num, idx_step HX.out hpx HQ.out, ext_trans hB hB1⟩
        case measure => simp [intOf]; omega
      · go_wp2_with fail
        refine (HP.out x wr (List.mem_of_getElem? HX.out) hB).mono ?_
        rintro e w1 ⟨rfl, hB1⟩
        clear hE2
        go_wp2_with fail
        go_ret
        exact ⟨ret_int (idx_hit HX.out hpx HQ.out).symm, ext_trans hB hB1⟩
    · go_wp2_with fail
      go_ret
      exact ⟨ret_int (idx_end (by omega) HQ.out).symm, hB⟩
theorem containsRep (g : Nat) (cap1 : Value) (p : Rep → Bool) (A : Option Addr) (c : Nat) (l : List (Rep)) (w : World) (ha : Slc w Rep.cells 6 A l) (hn : l.length ≤ maxLen) (hE : Enters Tryz.prog g)
    (hp : ∀ (x : Rep) (W : World), x ∈ l → Below w.heap.size w W → Calls Tryz.prog g #[x.v, cap1] W fun e W' => e = .returned (.bool (p x)) ∧ Below W.heap.size W W') :
    Calls Tryz.prog 48 #[.slice A l.length c, .func (.func g) #[] #[cap1]] w fun e w' => e = .returned (.bool (l.any p)) ∧ Below w.heap.size w w' := by
  have HP := Lib.hid hp
  have HE := Lib.hid hE
  clear hp hE
  go_enter Tryz.func48, Tryz.ntmps48
  go_wp2_with fail
  refine (indexRep g cap1 p A c l _ ha hn HE.out HP.out).mono ?_
  rintro e w1 ⟨rfl, hB1⟩
  go_wp2_with fail
  go_ret
  exact ⟨ret_bool (idx_any p l), hB1⟩

end Go.Proofs.YtjiojpoiocdnmaaGreat
/- Sums of vectors; what a scene's numbers are. No program in sight. -/
set_option linter.unusedSimpArgs false
set_option linter.unusedVariables false
namespace Go.Proofs.YtjiojpoiocdnmaaGreat
open Go.RowKit
theorem V4.plus_comm (x y : V4) : x.plus y = y.plus x := by simp [V4.plus, Int.add_comm]
theorem V4.plus_assoc (x y z : V4) : (x.plus y).plus z = x.plus (y.plus z) := by simp [V4.plus, Int.add_assoc]
theorem V4.plus_zero (x : V4) : x.plus V4.zero = x := by simp [V4.plus, V4.zero]
def vsum : List V4 → V4
  | [] => V4.zero
  | x :: r => x.plus (vsum r)
/-- One of a list's is taken out. -/
theorem sum_take {κ β : Type} [DecidableEq κ] (F : κ → V4) : ∀ {left : List (κ × β)}, (left.map (·.1)).Nodup → ∀ {p : κ × β}, p ∈ left → vsum (left.map (fun q => F q.1)) = (F p.1).plus (vsum ((left.filter (fun q => !decide (q.1 = p.1))).map (fun q => F q.1)))
  | [], _, p, hp => by cases hp
  | q :: r, hn, p, hp => by
    simp only [List.map_cons, List.nodup_cons] at hn
    rcases List.mem_cons.1 hp with rfl | hp
    · have : r.filter (fun q => !decide (q.1 = p.1)) = r := List.filter_eq_self.2 fun x hx => by
        simp only [Bool.not_eq_true', decide_eq_false_iff_not]
        exact fun e => hn.1 (by rw [← e]; exact List.mem_map.2 ⟨x, hx, rfl⟩)
      simp [vsum, this]
    · have hne : ¬ q.1 = p.1 := fun e => hn.1 (by rw [e]; exact List.mem_map.2 ⟨p, hp, rfl⟩)
      have ih := sum_take F hn.2 hp
      simp only [List.map_cons, vsum, ih, List.filter_cons, hne, decide_false, Bool.not_false, if_true]
      rw [← V4.plus_assoc, V4.plus_comm (F q.1), V4.plus_assoc]
theorem GIter.nd {κ : Type} [DecidableEq κ] {enc : κ → Value} {w : World} {r b : Nat} {l left : List (κ × Value)} (h : GIter enc w r b l left) : (left.map (·.1)).Nodup := by
  obtain ⟨_, _, _, _, _, _, _, _, _, _, _, _, _, h⟩ := h
  exact h
theorem GIter.sub {κ : Type} [DecidableEq κ] {enc : κ → Value} {w : World} {r b : Nat} {l left : List (κ × Value)} (h : GIter enc w r b l left) : ∀ p ∈ left, p ∈ l := by
  obtain ⟨_, _, _, _, _, _, _, _, _, _, _, _, h, _⟩ := h
  exact h
theorem GIter.obj {κ : Type} [DecidableEq κ] {enc : κ → Value} {w : World} {r b : Nat} {l left : List (κ × Value)} (h : GIter enc w r b l left) : ∃ o, w.heap[r]? = some o ∧ o.isCells = false := by
  obtain ⟨_, _, _, _, _, _, h, _⟩ := h
  exact ⟨_, h, rfl⟩
theorem GIter.ext {κ : Type} [DecidableEq κ] {enc : κ → Value} {w w' : World} {r b : Nat} {l left : List (κ × Value)} (h : GIter enc w r b l left) (hb : Below w.heap.size w w') : GIter enc w' r b l left :=
  h.of_block (hb.block b h.map.lt) (hb.block r h.lt)
theorem mem_rng {m n : Int} : n ∈ rngM m ↔ -m ≤ n ∧ n ≤ m := by
  unfold rngM
  rw [List.mem_map]
  constructor
  · rintro ⟨i, hi, rfl⟩
    have := List.mem_range.1 hi
    omega
  · intro h
    exact ⟨(n + m).toNat, List.mem_range.2 (by omega), by omega⟩
/-- Numbers between bounds. -/
def Within : List Int → List Int → Prop
  | [], y => y = []
  | m :: ms, y => ∃ n r, y = n :: r ∧ -m ≤ n ∧ n ≤ m ∧ Within ms r
theorem mem_exts : ∀ {ms b x : List Int}, x ∈ exts ms b ↔ ∃ y, x = b ++ y ∧ Within ms y
  | [], b, x => by
    simp only [exts, List.mem_singleton, Within]
    constructor
    · rintro rfl; exact ⟨[], by simp, rfl⟩
    · rintro ⟨y, rfl, rfl⟩; simp
  | m :: ms, b, x => by
    simp only [exts, List.mem_flatMap, mem_exts (ms := ms), Within, mem_rng]
    constructor
    · rintro ⟨n, ⟨h1, h2⟩, y, rfl, hy⟩
      exact ⟨n :: y, by simp, n, y, rfl, h1, h2, hy⟩
    · rintro ⟨y, rfl, n, r, rfl, h1, h2, hr⟩
      exact ⟨n, ⟨h1, h2⟩, r, by simp, hr⟩
theorem Within.len : ∀ {ms y : List Int}, Within ms y → y.length = ms.length
  | [], y, h => by simp only [Within] at h; simp [h]
  | m :: ms, y, h => by
    obtain ⟨n, r, rfl, _, _, hr⟩ := h
    simp [hr.len]
theorem Within.bound {N : Int} : ∀ {ms y : List Int}, Within ms y → (∀ m ∈ ms, m ≤ N) → ∀ n ∈ y, -N ≤ n ∧ n ≤ N
  | [], y, h, _, n, hn => by simp only [Within] at h; subst h; cases hn
  | m :: ms, y, h, hm, n, hn => by
    obtain ⟨k, r, rfl, h1, h2, hr⟩ := h
    rcases List.mem_cons.1 hn with rfl | hn
    · have := hm m List.mem_cons_self; omega
    · exact hr.bound (fun x hx => hm x (List.mem_cons_of_mem _ hx)) n hn
theorem mem_shifts {s : List Stn} {x : List Int} : x ∈ shiftsL s ↔ Within (s.map (·.sh)) x := by
  unfold shiftsL
  rw [mem_exts]
  constructor
  · rintro ⟨y, rfl, h⟩; simpa using h
  · intro h; exact ⟨x, by simp, h⟩
/-- What is known of the numbers of a scene. -/
structure SceneN (X : Scn) (ns : Nat) : Prop where
  tl : ∀ g ∈ X.G, g.ts.length ≤ 12
  tp : ∀ g ∈ X.G, 0 < g.ts.length
  tn : ∀ g ∈ X.G, ∀ n ∈ g.ts, n < X.st.length
  rl : ∀ g ∈ X.G, g.rs.length ≤ 100
  rs : ∀ g ∈ X.G, ∀ r ∈ g.rs, RepS ns r
  hl : ∀ h ∈ X.sh, h.l.length = ns
  hb : ∀ h ∈ X.sh, ∀ n ∈ h.l, -3 ≤ n ∧ n ≤ 3
  sp : ∀ r ∈ X.st, 0 < r.l.length
  sl : ∀ r ∈ X.st, r.l.length ≤ 4096
  gl : X.G.length ≤ 12
  stl : X.st.length ≤ 12
  hn : X.sh.length ≤ 2401
  lo : X.lost.In 100
  bu : X.bud.In 3
theorem ask_ok {t : Tab} {s : List Stn} {R : List Rep} {l : List Trk} (h : askE t s R l = 0) : wchkE t l = 0 ∧ s.length ≤ 4 ∧ (∀ x ∈ s, stnB t.n x = true) ∧ ∀ r ∈ R, repB s.length r = true := by
  unfold askE at h
  split at h
  · rename_i h0; exact absurd h h0
  · rename_i h0
    simp only [ne_eq, Decidable.not_not] at h0
    split at h
    · rename_i h1
      simp only [askB, Bool.and_eq_true, decide_eq_true_eq, List.all_eq_true] at h1
      exact ⟨h0, h1.1.1.1, h1.1.2, h1.2⟩
    · cases h
theorem nodup_le {α : Type} [DecidableEq α] : ∀ {a b : List α}, a.Nodup → (∀ x ∈ a, x ∈ b) → a.length ≤ b.length
  | [], _, _, _ => Nat.zero_le _
  | x :: r, b, hn, hs => by
    obtain ⟨h1, h2⟩ := List.nodup_cons.1 hn
    have hx := hs x List.mem_cons_self
    have ih := nodup_le (a := r) (b := b.erase x) h2 (fun y hy => (List.mem_erase_of_ne (fun e => h1 (by rw [← e]; exact hy))).2 (hs y (List.mem_cons_of_mem _ hy)))
    rw [List.length_erase_of_mem hx] at ih
    have := List.length_pos_of_mem hx
    simp only [List.length_cons]; omega
theorem callsLen {l : List Trk} {G : List Grp} {R : List Rep} (h : GSpec l l.length G R) : G.length ≤ l.length := by
  have h1 : ∀ c ∈ G.map (·.call), c ∈ l.map (fun x : Trk => x.fl.call) := fun c hc => by
    obtain ⟨x, hx, e⟩ := List.any_eq_true.1 ((h.calls c).1 hc)
    exact List.mem_map.2 ⟨x, hx, by simpa using e⟩
  have := nodup_le h.nd h1
  simpa using this
theorem wchk_trk {t : Tab} {l : List Trk} (h : wchkE t l = 0) : chkT t = 0 ∧ l.length ≤ 12 ∧ ∀ y ∈ l, trkB t y = true := by
  unfold wchkE at h
  split at h
  · rename_i h0; exact absurd h h0
  · rename_i h0
    simp only [ne_eq, Decidable.not_not] at h0
    split at h
    · rename_i h1
      simp only [Bool.and_eq_true, decide_eq_true_eq, List.all_eq_true] at h1
      exact ⟨h0, h1.1, h1.2⟩
    · cases h
theorem mem_idxs {l : List Trk} {k : Nat} {c : ByteArray} {i : Nat} : i ∈ idxs l k c ↔ i < k ∧ ∃ x, l[i]? = some x ∧ x.fl.call = c := by
  unfold idxs
  rw [List.mem_filter, List.mem_range]
  simp only [decide_eq_true_eq, Option.map_eq_some_iff]
theorem scene_num {t : Tab} {s : List Stn} {R : List Rep} {l : List Trk} {X : Scn} (h : SceneSpec t s R l X) (ha : askE t s R l = 0) (hR : R.length ≤ 100) : SceneN X s.length := by
  obtain ⟨hw, hs4, hs, hr⟩ := ask_ok ha
  obtain ⟨hc, hl12, htk⟩ := wchk_trk hw
  have hst : X.st.length = l.length := by
    have := congrArg List.length h.st
    simpa [Scn.stays] using this
  have hrow : ∀ r ∈ X.st, ∃ y ∈ l, r.l.map (·.l) = y.ps.l.map (staysL t) := fun r hr => by
    have h1 : r.l.map (·.l) ∈ X.stays := List.mem_map.2 ⟨r, hr, rfl⟩
    rw [h.st] at h1
    obtain ⟨y, hy, e⟩ := List.mem_map.1 h1
    exact ⟨y, hy, e.symm⟩
  have hsh : ∀ m ∈ s.map (·.sh), m ≤ 3 := fun m hm => by
    obtain ⟨x, hx, rfl⟩ := List.mem_map.1 hm
    have := hs x hx
    simp only [stnB, Bool.and_eq_true, inn_iff] at this
    exact this.1.1.1.2.2
  have hrowl : ∀ r ∈ X.st, 0 < r.l.length ∧ r.l.length ≤ 4096 := fun r hr => by
    obtain ⟨y, hy, e⟩ := hrow r hr
    have h1 := congrArg List.length e
    have h2 := htk y hy
    simp only [trkB, Bool.and_eq_true, decide_eq_true_eq] at h2
    simp at h1
    omega
  have hx : ∀ x ∈ X.sh, Within (s.map (·.sh)) x.l := fun x hx => by
    rw [← mem_shifts, ← h.sh]
    exact List.mem_map.2 ⟨x, hx, rfl⟩
  refine ⟨fun g hg => ?_, fun g hg => ?_, fun g hg n hn => ?_, fun g hg => ?_, fun g hg r hr' => ?_, fun x hxx => ?_, fun x hxx n hn => (hx x hxx).bound hsh n hn, fun r hr => (hrowl r hr).1, fun r hr => (hrowl r hr).2, ?_, ?_, ?_, ?_, ?_⟩
  · rw [h.G.ts g hg]
    refine Nat.le_trans (List.length_filter_le _ _) ?_
    rw [List.length_range]; exact hl12
  · rw [h.G.ts g hg]
    obtain ⟨x, hx, e⟩ := h.G.only g hg
    obtain ⟨i, hi⟩ := List.mem_iff_getElem?.1 hx
    exact List.length_pos_of_mem (mem_idxs.2 ⟨(List.getElem?_eq_some_iff.1 hi).1, x, hi, e⟩)
  · rw [h.G.ts g hg] at hn
    rw [hst]; exact (mem_idxs.1 hn).1
  · rw [h.G.rs g hg]
    exact Nat.le_trans (List.length_filter_le _ _) hR
  · rw [h.G.rs g hg] at hr'
    have h1 := hr r (List.mem_filter.1 hr').1
    simp only [repB, Bool.and_eq_true, inn_iff] at h1
    exact ⟨by omega, by omega, by omega, by omega, by omega⟩
  · have := (hx x hxx).len
    simpa using this
  · exact Nat.le_trans (callsLen h.G) hl12
  · rw [hst]; exact hl12
  · have h1 := congrArg List.length h.sh
    rw [List.length_map] at h1
    rw [h1]
    have h2 := exts_len (s.map (·.sh)) [] hsh
    have h3 : 7 ^ (s.map (·.sh)).length ≤ 7 ^ 4 := Nat.pow_le_pow_right (by decide) (by simpa using hs4)
    unfold shiftsL
    omega
  · rw [h.lost]
    have := lost_in l R V4.zero 0 (by simp [V4.In, V4.zero])
    exact this.mono (by omega)
  · rw [h.bud]
    have hb : ∀ i : Nat, 0 ≤ ((s[i]?).map (fun x : Stn => x.fa)).getD 0 ∧ ((s[i]?).map (fun x : Stn => x.fa)).getD 0 ≤ 3 := fun i => by
      cases hi : s[i]? with
      | none => simp
      | some x =>
        have := hs x (List.mem_of_getElem? hi)
        simp only [stnB, Bool.and_eq_true, inn_iff] at this
        have := this.1.1.2
        simpa using this
    exact ⟨(hb 0).1, (hb 0).2, (hb 1).1, (hb 1).2, (hb 2).1, (hb 2).2, (hb 3).1, (hb 3).2⟩
end Go.Proofs.YtjiojpoiocdnmaaGreat
