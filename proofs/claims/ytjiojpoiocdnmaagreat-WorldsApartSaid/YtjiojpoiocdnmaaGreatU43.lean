/- Fewer reports, more faults, wider shifts: the plain law. No program in sight. -/
import Derived.Test.YtjiojpoiocdnmaaGreatQF
set_option linter.unusedSimpArgs false
set_option linter.unusedVariables false
namespace Go.Proofs.YtjiojpoiocdnmaaGreat
open Go.RowKit
theorem pErr0 {t : Tab} {s : List Stn} {R : List Rep} {l : List Trk} : possErr t s R l = 0 ↔ askE t s R l = 0 ∧ manyB l = false ∧ foundB t s R l = true := by
  unfold possErr
  by_cases h : askE t s R l = 0
  · rw [if_neg (fun q => q h)]
    cases hm : manyB l
    · cases hf : foundB t s R l <;> simp [h]
    · simp
  · rw [if_pos h]
    exact ⟨fun q => absurd q h, fun q => absurd q.1 h⟩
theorem possL_len (t : Tab) (s : List Stn) (R : List Rep) (l : List Trk) : (possL t s R l).length = l.length := by simp [possL]
theorem possV0 {t : Tab} {s : List Stn} {R : List Rep} {l : List Trk} (h : possErr t s R l = 0) : possV t s R l = possL t s R l := by unfold possV; rw [if_pos h]
theorem possL_at {t : Tab} {s : List Stn} {R : List Rep} {l : List Trk} {n : Nat} {x : List Bool} (h : (possL t s R l)[n]? = some x) : x.length = (msT l).getD n 0 ∧ ∀ (k : Nat) (b : Bool), x[k]? = some b → b = possB t s R l n k := by
  unfold possL at h
  rw [List.getElem?_map] at h
  obtain ⟨m, hm, rfl⟩ := Option.map_eq_some_iff.1 h
  have hn := (List.getElem?_eq_some_iff.1 hm).1
  rw [List.length_range] at hn
  rw [List.getElem?_range hn] at hm
  cases hm
  refine ⟨by simp, fun k b hb => ?_⟩
  rw [List.getElem?_map] at hb
  obtain ⟨q, hq, rfl⟩ := Option.map_eq_some_iff.1 hb
  have hk := (List.getElem?_eq_some_iff.1 hq).1
  rw [List.length_range] at hk
  rw [List.getElem?_range hk] at hq
  cases hq
  rfl
section
variable {t : Tab} {s : List Stn} {R R2 : List Rep} {l : List Trk}
end
end Go.Proofs.YtjiojpoiocdnmaaGreat
/- Slices cut; stations changed; law 3. -/
set_option linter.unusedSimpArgs false
set_option linter.unusedVariables false
namespace Go.Proofs.YtjiojpoiocdnmaaGreat
open Go.RowKit Go.Shelf
def fromT (A : Option Addr) (c k : Nat) : Option Addr := if c = k then A else A.map (·.add (k * 14))
set_option maxRecDepth 100000 in
theorem slice_fromT (A : Option Addr) (len c k : Nat) (i : Int) (hi : i = k) (h1 : k ≤ len) (h2 : len ≤ c) (w : World) : (Instr.sliceAt 31 (.slice A len c) (some (.int .i64 i)) none none).run Tryz.prog w = .ok (.slice (fromT A c k) (len - k) (c - k)) w := by
  subst hi
  have hs : (sizeOf (Tryz.prog.elem 31)).run Tryz.prog w = .ok 14 w := by kernel_rfl
  rw [run_sliceAt_slice w 31 _ _ _ _ Tryz.underlying31, run_slice_l w 31 A len c Tryz.underlying31 _ _ (by omega) (by omega)]
  simp only [hs, Result.andThen, sliced, fromT]
  rfl
set_option maxRecDepth 100000 in
theorem slice_headT (A : Option Addr) (len c k : Nat) (i : Int) (hi : i = k) (h2 : k ≤ c) (w : World) : (Instr.sliceAt 31 (.slice A len c) none (some (.int .i64 i)) none).run Tryz.prog w = .ok (.slice A k c) w := by
  subst hi
  have hs : (sizeOf (Tryz.prog.elem 31)).run Tryz.prog w = .ok 14 w := by kernel_rfl
  rw [run_sliceAt_slice w 31 _ _ _ _ Tryz.underlying31, run_slice_h w 31 A len c Tryz.underlying31 _ _ (by omega) (by omega)]
  simp only [hs, Result.andThen, sliced]
  have : (fun x : Addr => x.add (0 * 14)) = id := by funext a; simp [Addr.add]
  rw [this]
  simp
theorem Slc.fromT {α : Type} {w : World} {enc : α → List Value} {A : Option Addr} {l : List α} (h : Slc w enc 14 A l) (k c : Nat) (hc : l.length ≤ c) : Slc w enc 14 (Go.Proofs.YtjiojpoiocdnmaaGreat.fromT A c k) (l.drop k) := by
  unfold Go.Proofs.YtjiojpoiocdnmaaGreat.fromT
  split
  · rename_i e
    subst e
    rw [List.drop_of_length_le hc]
    exact Slc.nil
  · exact h.drop k
def fromB (A : Option Addr) (c k : Nat) : Option Addr := if c = k then A else A.map (·.add (k * 1))
set_option maxRecDepth 100000 in
theorem slice_fromB (A : Option Addr) (len c k : Nat) (i : Int) (hi : i = k) (h1 : k ≤ len) (h2 : len ≤ c) (w : World) : (Instr.sliceAt 34 (.slice A len c) (some (.int .i64 i)) none none).run Tryz.prog w = .ok (.slice (fromB A c k) (len - k) (c - k)) w := by
  subst hi
  have hs : (sizeOf (Tryz.prog.elem 34)).run Tryz.prog w = .ok 1 w := by kernel_rfl
  rw [run_sliceAt_slice w 34 _ _ _ _ Tryz.underlying34, run_slice_l w 34 A len c Tryz.underlying34 _ _ (by omega) (by omega)]
  simp only [hs, Result.andThen, sliced, fromB]
  rfl
set_option maxRecDepth 100000 in
theorem slice_headB (A : Option Addr) (len c k : Nat) (i : Int) (hi : i = k) (h2 : k ≤ c) (w : World) : (Instr.sliceAt 34 (.slice A len c) none (some (.int .i64 i)) none).run Tryz.prog w = .ok (.slice A k c) w := by
  subst hi
  have hs : (sizeOf (Tryz.prog.elem 34)).run Tryz.prog w = .ok 1 w := by kernel_rfl
  rw [run_sliceAt_slice w 34 _ _ _ _ Tryz.underlying34, run_slice_h w 34 A len c Tryz.underlying34 _ _ (by omega) (by omega)]
  simp only [hs, Result.andThen, sliced]
  have : (fun x : Addr => x.add (0 * 1)) = id := by funext a; simp [Addr.add]
  rw [this]
  simp
theorem Slc.fromB {α : Type} {w : World} {enc : α → List Value} {A : Option Addr} {l : List α} (h : Slc w enc 1 A l) (k c : Nat) (hc : l.length ≤ c) : Slc w enc 1 (Go.Proofs.YtjiojpoiocdnmaaGreat.fromB A c k) (l.drop k) := by
  unfold Go.Proofs.YtjiojpoiocdnmaaGreat.fromB
  split
  · rename_i e
    subst e
    rw [List.drop_of_length_le hc]
    exact Slc.nil
  · exact h.drop k
def StnS (W : World) (A : Option Addr) (c : Nat) (l : List Stn) : Prop := SliceOf.ok Stn.cells 3 Stn.ok W ⟨A, c, l⟩
theorem StnS.ext {W W' : World} {A : Option Addr} {c : Nat} {l : List Stn} (h : StnS W A c l) (hb : Below W.heap.size W W') : StnS W' A c l := SliceOf.ok.ext h hb (fun _ k => k.ext hb)
theorem light_at {t : Tab} {SA RA LA : Option Addr} {sn sc rn rc ln lc : Nat} {s : List Stn} {R : List Rep} {l : List Trk} {w : World} (most : Nat) (m : Int) (hm : m = most) (hm1 : 1 ≤ most) (hm2 : most ≤ 1000) (hsn : sn = s.length) (hrn : rn = R.length) (hln : ln = l.length) (hrm : rn ≤ maxLen) (ht : Tab.ok w t) (hs : StnS w SA sc s) (hl : TrkS w LA lc l) :
    Calls Tryz.prog 10 #[t.v, .slice SA sn sc, .slice RA rn rc, .slice LA ln lc, .int .i64 m] w (FewR w (LightP most s R l)) := by
  subst hm hsn hln
  exact light10 most hm1 hm2 t SA sc s RA rn rc LA lc l R w hrn hrm ht hs hl
theorem Own.addr {α : Type} {W : World} {base : Nat} {e : TypeId} {enc : α → List Value} {sz : Nat} {A : Option Addr} {n c : Nat} {l : List α} (h : Own W base e enc sz (.slice A n c) l) (hn : 0 < n) : ∃ g, A = some ⟨g, 0, none⟩ ∧ base ≤ g ∧ g < W.heap.size ∧ n = l.length := by
  rcases h.2 with ⟨hv, h0⟩ | ⟨g, cap, cur, hv, hb, hg, _⟩
  · injection hv with _ e1 _
    omega
  · injection hv with e1 e2 e3
    exact ⟨g, e1, hb, (Array.getElem?_eq_some_iff.1 hg).1, e2⟩
theorem L_bounds {t : Tab} {s : List Stn} {R : List Rep} {l : List Trk} (hl : l.length ≤ 5) (hp : ∀ y ∈ l, y.ps.l.length ≤ 20) : (possV t s R l).length ≤ 100000 ∧ ∀ x ∈ possV t s R l, x.length ≤ 100000 := by
  unfold possV
  split
  · refine ⟨by rw [possL_len]; omega, fun x hx => ?_⟩
    obtain ⟨n, hn⟩ := List.mem_iff_getElem?.1 hx
    rw [(possL_at hn).1]
    unfold msT
    rw [List.getD_eq_getElem?_getD, List.getElem?_map]
    cases hy : l[n]? with
    | none => simp
    | some y => have := hp y (List.mem_of_getElem? hy); simp; omega
  · exact ⟨by simp, by simp⟩
end Go.Proofs.YtjiojpoiocdnmaaGreat
/- One more track that nobody mentions: the plain law. No program in sight. -/
set_option linter.unusedSimpArgs false
set_option linter.unusedVariables false
namespace Go.Proofs.YtjiojpoiocdnmaaGreat
open Go.RowKit
/-- A list with one more element at place i. -/
def insA {α : Type} (l : List α) (i : Nat) (x : α) : List α := l.take i ++ x :: l.drop i
theorem insA_len {α : Type} {l : List α} {i : Nat} {x : α} (h : i ≤ l.length) : (insA l i x).length = l.length + 1 := by
  unfold insA
  rw [List.length_append, List.length_cons, List.length_take, List.length_drop]
  omega
theorem insA_lt {α : Type} {l : List α} {i n : Nat} {x : α} (h : i ≤ l.length) (hn : n < i) : (insA l i x)[n]? = l[n]? := by
  unfold insA
  rw [List.getElem?_append_left (by rw [List.length_take]; omega), List.getElem?_take, if_pos hn]
theorem insA_eq {α : Type} {l : List α} {i : Nat} {x : α} (h : i ≤ l.length) : (insA l i x)[i]? = some x := by
  unfold insA
  rw [List.getElem?_append_right (by rw [List.length_take]; omega), List.length_take, Nat.min_eq_left h, Nat.sub_self]; rfl
theorem insA_gt {α : Type} {l : List α} {i n : Nat} {x : α} (h : i ≤ l.length) (hn : i ≤ n) : (insA l i x)[n + 1]? = l[n]? := by
  unfold insA
  rw [List.getElem?_append_right (by rw [List.length_take]; omega), List.length_take, Nat.min_eq_left h, show n + 1 - i = (n - i) + 1 by omega, List.getElem?_cons_succ, List.getElem?_drop, show i + (n - i) = n by omega]
theorem insA_map {α β : Type} (f : α → β) (l : List α) (i : Nat) (x : α) : (insA l i x).map f = insA (l.map f) i (f x) := by
  unfold insA
  rw [List.map_append, List.map_cons, List.map_take, List.map_drop]
theorem insA_mem {α : Type} {l : List α} {i : Nat} {x y : α} : y ∈ insA l i x ↔ y = x ∨ y ∈ l := by
  unfold insA
  rw [List.mem_append, List.mem_cons]
  have : y ∈ l ↔ y ∈ l.take i ∨ y ∈ l.drop i := by rw [← List.mem_append, List.take_append_drop]
  rw [this]
  exact ⟨fun h => h.elim (fun h => .inr (.inl h)) (fun h => h.elim .inl (fun h => .inr (.inr h))), fun h => h.elim (fun h => .inr (.inl h)) (fun h => h.elim .inl (fun h => .inr (.inr h)))⟩
theorem cnt_filter (p : Nat → Bool) (f : Nat → Nat) : ∀ L : List Nat, cnt ((L.filter p).map f) ≤ cnt (L.map (fun i => max (f i) 1))
  | [] => Nat.le_refl _
  | a :: L => by
    have ih := cnt_filter p f L
    by_cases h : p a = true
    · rw [List.filter_cons_of_pos h]
      simp only [List.map_cons, cnt]
      exact Nat.mul_le_mul (Nat.le_max_left _ _) ih
    · rw [List.filter_cons_of_neg h]
      simp only [List.map_cons, cnt]
      exact Nat.le_trans ih (Nat.le_mul_of_pos_left _ (by omega))
theorem cntC_le (l : List Trk) (c : ByteArray) : cntC l c ≤ cnt (mxT l) := by
  unfold cntC idxs
  refine Nat.le_trans (cnt_filter _ _ _) (Nat.le_of_eq ?_)
  congr 1
  unfold mxT msT
  apply List.ext_getElem?
  intro n
  rw [List.getElem?_map, List.getElem?_map]
  by_cases h : n < l.length
  · rw [List.getElem?_range h, List.getElem?_eq_getElem h]
    simp [h]
  · rw [List.getElem?_eq_none (by rw [List.length_range]; omega), List.getElem?_eq_none (by omega)]; rfl
theorem few_many {l : List Trk} (h : cnt (mxT l) ≤ 4096) : manyB l = false := by
  unfold manyB
  rw [List.any_eq_false]
  intro x _
  rw [decide_eq_true_eq]
  have := cntC_le l x.fl.call
  omega
theorem mx_ins (l : List Trk) (i : Nat) (x : Trk) : cnt (mxT l) ≤ cnt (mxT (insA l i x)) := by
  have e1 : mxT l = mxT (l.take i) ++ mxT (l.drop i) := by unfold mxT; rw [← List.map_append, List.take_append_drop]
  have e2 : mxT (insA l i x) = mxT (l.take i) ++ (max x.ps.l.length 1 :: mxT (l.drop i)) := by unfold mxT insA; rw [List.map_append, List.map_cons]
  rw [e1, e2, cnt_app, cnt_app]
  refine Nat.mul_le_mul_left _ ?_
  simp only [cnt]
  exact Nat.le_mul_of_pos_left _ (by omega)
section
variable {t : Tab} {s : List Stn} {R : List Rep} {l : List Trk} {x : Trk} {i : Nat}
/-- Is the report right, said by the tracks. -/
theorem right_iff (picks : List Nat) (shs : List Int) (r : Rep) : rightAt (stT t l) l (nums picks) shs r = true ↔ ∃ (n : Nat) (y : Trk), l[n]? = some y ∧ y.fl.call = r.call ∧ fliesB (((y.ps.l.map (staysL t))[picks.getD n 0]?).getD []) r.vol (r.mi + shs.getD r.st.toNat 0) = true := by
  unfold rightAt
  rw [List.any_eq_true]
  constructor
  · rintro ⟨n, hn, h⟩
    rw [Bool.and_eq_true, decide_eq_true_eq] at h
    obtain ⟨y, hy, hc⟩ := Option.map_eq_some_iff.1 h.1
    refine ⟨n, y, hy, hc, ?_⟩
    have := h.2
    unfold staysAt stT at this
    rw [List.getElem?_map, hy, nums_getD] at this
    simpa using this
  · rintro ⟨n, y, hy, hc, h⟩
    refine ⟨n, List.mem_range.2 (List.getElem?_eq_some_iff.1 hy).1, ?_⟩
    rw [Bool.and_eq_true, decide_eq_true_eq]
    refine ⟨by rw [hy, Option.map_some, hc], ?_⟩
    unfold staysAt stT
    rw [List.getElem?_map, hy, nums_getD]
    simpa using h
theorem getD_of {a b : List Nat} {n m : Nat} (h : a[n]? = b[m]?) : a.getD n 0 = b.getD m 0 := by
  rw [List.getD_eq_getElem?_getD, List.getD_eq_getElem?_getD, h]
theorem right_ins (hi : i ≤ l.length) {p : List Nat} (hp : p.length = l.length) (k : Nat) (shs : List Int) {r : Rep} (hr : r.call ≠ x.fl.call) :
    rightAt (stT t (insA l i x)) (insA l i x) (nums (insA p i k)) shs r = rightAt (stT t l) l (nums p) shs r := by
  have hip : i ≤ p.length := by omega
  rw [Bool.eq_iff_iff, right_iff, right_iff]
  constructor
  · rintro ⟨n, y, hy, hc, h⟩
    by_cases h1 : n < i
    · rw [insA_lt hi h1] at hy
      exact ⟨n, y, hy, hc, by rw [getD_of (insA_lt hip h1)] at h; exact h⟩
    · by_cases h2 : n = i
      · subst h2
        rw [insA_eq hi] at hy
        cases hy
        exact absurd hc.symm hr
      · obtain ⟨m, rfl⟩ : ∃ m, n = m + 1 := ⟨n - 1, by omega⟩
        rw [insA_gt hi (by omega)] at hy
        exact ⟨m, y, hy, hc, by rw [getD_of (insA_gt hip (by omega))] at h; exact h⟩
  · rintro ⟨n, y, hy, hc, h⟩
    by_cases h1 : n < i
    · exact ⟨n, y, by rw [insA_lt hi h1]; exact hy, hc, by rw [getD_of (insA_lt hip h1)]; exact h⟩
    · exact ⟨n + 1, y, by rw [insA_gt hi (by omega)]; exact hy, hc, by rw [getD_of (insA_gt hip (by omega))]; exact h⟩
theorem world_ins (hi : i ≤ l.length) {p : List Nat} (hp : p.length = l.length) (k : Nat) (hR : ∀ r ∈ R, r.call ≠ x.fl.call) : worldP t s R (insA l i x) (nums (insA p i k)) = worldP t s R l (nums p) := by
  unfold worldP worldT wrongAll
  have : ∀ h : List Int, R.map (cR (rightAt (stT t (insA l i x)) (insA l i x) (nums (insA p i k)) h)) = R.map (cR (rightAt (stT t l) l (nums p) h)) := fun h =>
    List.map_congr_left (fun r hr => by unfold cR; rw [right_ins hi hp k h (hR r hr)])
  simp only [this]
theorem choice_ins (hi : i ≤ l.length) {p : List Nat} {k : Nat} : Choice (msT l) p → k < x.ps.l.length → Choice (msT (insA l i x)) (insA p i k) := by
  intro h hk
  have hpl : p.length = l.length := by rw [h.1]; simp [msT]
  have hip : i ≤ p.length := by omega
  have hm : msT (insA l i x) = insA (msT l) i x.ps.l.length := insA_map _ _ _ _
  have him : i ≤ (msT l).length := by simpa [msT] using hi
  refine ⟨by rw [hm, insA_len hip, insA_len him, h.1], fun n m q h1 h2 => ?_⟩
  rw [hm] at h1
  by_cases c1 : n < i
  · rw [insA_lt him c1] at h1
    rw [insA_lt hip c1] at h2
    exact h.2 n m q h1 h2
  · by_cases c2 : n = i
    · subst c2
      rw [insA_eq him] at h1
      rw [insA_eq hip] at h2
      cases h1; cases h2; exact hk
    · obtain ⟨n', rfl⟩ : ∃ n', n = n' + 1 := ⟨n - 1, by omega⟩
      rw [insA_gt him (by omega)] at h1
      rw [insA_gt hip (by omega)] at h2
      exact h.2 n' m q h1 h2
theorem choice_del (hi : i ≤ l.length) {q : List Nat} (h : Choice (msT (insA l i x)) q) : ∃ p k, q = insA p i k ∧ Choice (msT l) p ∧ k < x.ps.l.length := by
  have hm : msT (insA l i x) = insA (msT l) i x.ps.l.length := insA_map _ _ _ _
  have him : i ≤ (msT l).length := by simpa [msT] using hi
  have hql : q.length = l.length + 1 := by rw [h.1, hm, insA_len him]; simp [msT]
  have hiq : i < q.length := by omega
  have e : q = insA (q.take i ++ q.drop (i + 1)) i q[i] := by
    have hl : (q.take i).length = i := by rw [List.length_take]; omega
    unfold insA
    rw [List.take_append_of_le_length (by omega), List.take_of_length_le (by omega), List.drop_append_of_le_length (by omega), List.drop_of_length_le (by omega), List.nil_append, ← List.drop_eq_getElem_cons hiq, List.take_append_drop]
  have hpl : (q.take i ++ q.drop (i + 1)).length = l.length := by rw [List.length_append, List.length_take, List.length_drop]; omega
  refine ⟨_, _, e, ⟨by rw [hpl]; simp [msT], fun n m k h1 h2 => ?_⟩, ?_⟩
  · by_cases c : n < i
    · refine h.2 n m k (by rw [hm, insA_lt him c]; exact h1) ?_
      rw [e, insA_lt (by omega) c]; exact h2
    · refine h.2 (n + 1) m k (by rw [hm, insA_gt him (by omega)]; exact h1) ?_
      rw [e, insA_gt (by omega) (by omega)]; exact h2
  · exact h.2 i _ _ (by rw [hm, insA_eq him]) (by simp [hiq])
theorem found_ins (hi : i ≤ l.length) (hx : 0 < x.ps.l.length) (hR : ∀ r ∈ R, r.call ≠ x.fl.call) : foundB t s R (insA l i x) = foundB t s R l := by
  rw [Bool.eq_iff_iff, foundB_iff, foundB_iff]
  constructor
  · rintro ⟨q, h1, h2⟩
    obtain ⟨p, k, rfl, h3, _⟩ := choice_del hi h1
    exact ⟨p, h3, by rw [← world_ins hi (by rw [h3.1]; simp [msT]) k hR]; exact h2⟩
  · rintro ⟨p, h1, h2⟩
    exact ⟨insA p i 0, choice_ins hi h1 hx, by rw [world_ins hi (by rw [h1.1]; simp [msT]) 0 hR]; exact h2⟩
theorem poss_at (hi : i ≤ l.length) (hR : ∀ r ∈ R, r.call ≠ x.fl.call) (hf : foundB t s R l = true) {k : Nat} (hk : k < x.ps.l.length) : possB t s R (insA l i x) i k = true := by
  obtain ⟨p, h1, h2⟩ := foundB_iff.1 hf
  have hpl : p.length = l.length := by rw [h1.1]; simp [msT]
  exact possB_iff.2 ⟨insA p i k, choice_ins hi h1 hk, insA_eq (by omega), by rw [world_ins hi hpl k hR]; exact h2⟩
theorem poss_off (hi : i ≤ l.length) (hx : 0 < x.ps.l.length) (hR : ∀ r ∈ R, r.call ≠ x.fl.call) {n m : Nat} (hnm : ∀ (p : List Nat) (k : Nat), p.length = l.length → (insA p i k)[m]? = p[n]?) (k : Nat) : possB t s R (insA l i x) m k = possB t s R l n k := by
  rw [Bool.eq_iff_iff, possB_iff, possB_iff]
  constructor
  · rintro ⟨q, h1, h2, h3⟩
    obtain ⟨p, j, rfl, h4, _⟩ := choice_del hi h1
    have hpl : p.length = l.length := by rw [h4.1]; simp [msT]
    exact ⟨p, h4, by rw [← hnm p j hpl]; exact h2, by rw [← world_ins hi hpl j hR]; exact h3⟩
  · rintro ⟨p, h1, h2, h3⟩
    have hpl : p.length = l.length := by rw [h1.1]; simp [msT]
    exact ⟨insA p i 0, choice_ins hi h1 hx, by rw [hnm p 0 hpl]; exact h2, by rw [world_ins hi hpl 0 hR]; exact h3⟩
/-- What is possible with the further track. -/
theorem possL_ins (hi : i ≤ l.length) (hx : 0 < x.ps.l.length) (hR : ∀ r ∈ R, r.call ≠ x.fl.call) (hf : foundB t s R l = true) : possL t s R (insA l i x) = insA (possL t s R l) i (List.replicate x.ps.l.length true) := by
  have hil : i ≤ (possL t s R l).length := by rw [possL_len]; exact hi
  have him : i ≤ (msT l).length := by simpa [msT] using hi
  have hm : msT (insA l i x) = insA (msT l) i x.ps.l.length := insA_map _ _ _ _
  have row : ∀ (l : List Trk) (n : Nat), n < l.length → (possL t s R l)[n]? = some ((List.range ((msT l).getD n 0)).map (fun k => possB t s R l n k)) := fun l n hn => by
    unfold possL
    rw [List.getElem?_map, List.getElem?_range hn]; rfl
  apply List.ext_getElem?
  intro n
  by_cases hn : n < (insA l i x).length
  · rw [row _ n hn]
    rw [insA_len hi] at hn
    by_cases c1 : n < i
    · rw [insA_lt hil c1, row l n (by omega), hm, getD_of (insA_lt him c1)]
      congr 1
      apply List.map_congr_left
      intro k _
      exact poss_off hi hx hR (fun p j hp => insA_lt (by omega) c1) k
    · by_cases c2 : n = i
      · subst c2
        rw [insA_eq hil, hm, List.getD_eq_getElem?_getD, insA_eq him, Option.getD_some]
        congr 1
        apply List.ext_getElem?
        intro k
        rw [List.getElem?_map]
        by_cases hk : k < x.ps.l.length
        · rw [List.getElem?_range hk, List.getElem?_replicate, if_pos hk, Option.map_some, poss_at hi hR hf hk]
        · rw [List.getElem?_eq_none (by rw [List.length_range]; omega), List.getElem?_replicate, if_neg hk]; rfl
      · obtain ⟨m, rfl⟩ : ∃ m, n = m + 1 := ⟨n - 1, by omega⟩
        rw [insA_gt hil (by omega), row l m (by omega), hm, getD_of (insA_gt him (by omega))]
        congr 1
        apply List.map_congr_left
        intro k _
        exact poss_off hi hx hR (fun p j hp => insA_gt (by omega) (by omega)) k
  · rw [List.getElem?_eq_none (by rw [possL_len]; omega)]
    rw [insA_len hi] at hn
    rw [List.getElem?_eq_none (by rw [insA_len hil, possL_len]; omega)]
theorem wchk_one (h : wchkE t [x] = 0) : chkT t = 0 ∧ trkB t x = true := by
  obtain ⟨h1, _, h2⟩ := wchk_trk h
  exact ⟨h1, h2 x (by simp)⟩
theorem wchk_ins (hl : l.length < 12) (h : wchkE t [x] = 0) (hi : i ≤ l.length) : wchkE t (insA l i x) = wchkE t l := by
  obtain ⟨h1, h2⟩ := wchk_one h
  have e : (insA l i x).all (trkB t) = l.all (trkB t) := by
    rw [Bool.eq_iff_iff, List.all_eq_true, List.all_eq_true]
    exact ⟨fun q y hy => q y (insA_mem.2 (.inr hy)), fun q y hy => (insA_mem.1 hy).elim (fun e => e ▸ h2) (q y)⟩
  unfold wchkE
  rw [e, insA_len hi]
  have a1 : decide (l.length + 1 ≤ 12) = true := by rw [decide_eq_true_eq]; omega
  have a2 : decide (l.length ≤ 12) = true := by rw [decide_eq_true_eq]; omega
  rw [a1, a2]
theorem err_ins (hl : l.length < 12) (h : wchkE t [x] = 0) (hi : i ≤ l.length) (hR : ∀ r ∈ R, r.call ≠ x.fl.call) (hc : cnt (mxT (insA l i x)) ≤ 4096) : possErr t s R (insA l i x) = possErr t s R l := by
  obtain ⟨_, h2⟩ := wchk_one h
  have hx : 0 < x.ps.l.length := by
    simp only [trkB, Bool.and_eq_true, decide_eq_true_eq] at h2
    omega
  unfold possErr askE
  rw [wchk_ins hl h hi, few_many hc, few_many (Nat.le_trans (mx_ins l i x) hc), found_ins hi hx hR]
end
end Go.Proofs.YtjiojpoiocdnmaaGreat
