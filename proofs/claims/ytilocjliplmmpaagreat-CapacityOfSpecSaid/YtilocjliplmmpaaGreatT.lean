/- Add: comparing, a place in a sorted list, slices.Clone, slices.Insert. -/
import Derived.Test.YtilocjliplmmpaaGreatS
import Derived.Test.YtilocjliplmmpaaGreatLA
import Derived.Test.YtilocjliplmmpaaGreatIns
import Derived.Lib.SliceRun
set_option linter.unusedSimpArgs false
set_option linter.unusedVariables false
namespace Go.Proofs.YtilocjliplmmpaaGreat
open Go.RowKit
def cmpI (a b : Int) : Int := if a < b then -1 else if b < a then 1 else 0
theorem nan_int (a : Int) (w : World) : Calls Tryz.prog 59 #[.int .i64 a] w fun e w' => e = .returned (.bool false) ∧ w = w' := by
  go_enter Tryz.func59, Tryz.ntmps59
  have e1 : (a != a) = false := by simp
  go_wp2_with fail
  all_goals go_ret
  all_goals exact ⟨rfl, rfl⟩
theorem cmp_int (a b : Int) (w : World) : Calls Tryz.prog 27 #[.int .i64 a, .int .i64 b] w fun e w' => e = .returned (.int .i64 (cmpI a b)) ∧ w = w' := by
  go_enter Tryz.func27, Tryz.ntmps27
  go_wp2_with fail
  refine (nan_int _ _).mono ?_
  rintro e w1 ⟨rfl, rfl⟩
  go_wp2_with fail
  refine (nan_int _ _).mono ?_
  rintro e w1 ⟨rfl, rfl⟩
  by_cases h1 : a < b
  · have e1 : decide (a < b) = true := decide_eq_true h1
    go_wp2_with fail
    go_ret
    exact ⟨ret_int (by unfold cmpI; rw [if_pos h1]), rfl⟩
  have e1 : decide (a < b) = false := decide_eq_false h1
  by_cases h2 : b < a
  · have e2 : decide (a > b) = true := decide_eq_true h2
    go_wp2_with fail
    go_ret
    exact ⟨ret_int (by unfold cmpI; rw [if_neg (by omega), if_pos (by omega)]), rfl⟩
  · have e2 : decide (a > b) = false := decide_eq_false h2
    go_wp2_with fail
    go_ret
    exact ⟨ret_int (by unfold cmpI; rw [if_neg (by omega), if_neg (by omega)]), rfl⟩
theorem enters31c : Enters Tryz.prog 26 := fun args w => by kernel_rfl
theorem cmp_ch (x : Chg) (v : Int) (w : World) : Calls Tryz.prog 26 #[x.v, .int .i64 v] w (RetE w (cmpI x.f v)) := by
  go_enter Tryz.func26, Tryz.ntmps26
  go_wp2_with fail
  refine (cmp_int _ _ _).mono ?_
  rintro e w1 ⟨rfl, rfl⟩
  go_wp2_with fail
  go_ret
  exact ⟨rfl, ext_alloc (ext_refl _) _⟩
theorem cmp_at {x : Chg} {v : Int} {w : World} (r : Int) (hr : cmpI x.f v = r) : Calls Tryz.prog 26 #[x.v, .int .i64 v] w (RetE w r) := by
  subst hr; exact cmp_ch x v w
theorem mono_ch {l : List Chg} (hl : Inc l) {i j : Nat} {x y : Chg} (hij : i < j) (hx : l[i]? = some x) (hy : l[j]? = some y) : x.f < y.f := by
  obtain ⟨hi, rfl⟩ := List.getElem?_eq_some_iff.1 hx
  obtain ⟨hj, rfl⟩ := List.getElem?_eq_some_iff.1 hy
  exact List.pairwise_iff_getElem.1 hl i j hi hj hij
def bsR (l : List Chg) (v : Int) (w : World) (e : Ending) (w' : World) : Prop := ∃ (k : Nat) (r : Bool), e = .returned (.tuple #[.int .i64 k, .bool r]) ∧ CutAt (fun x => decide (x.f < v)) l k ∧ (r = true ↔ ∃ x, l[k]? = some x ∧ x.f = v) ∧ Below w.heap.size w w'
set_option maxHeartbeats 4000000 in
theorem bsearch_any (v : Int) (A : Option Addr) (c : Nat) (l : List Chg) (w : World) (ha : Slc w Chg.cells 3 A l) (hn : l.length ≤ 1048576) (hl : Inc l) :
    Calls Tryz.prog 25 #[.slice A l.length c, .int .i64 v, .func (.func 26) #[] #[]] w (bsR l v w) := by
  have HL := Lib.hid hl
  have HA := Lib.hid ha
  clear hl ha
  go_enter Tryz.func25, Tryz.ntmps25
  go_wp2_with fail
  go_loopw [9, 10] (fun i j wr => ∃ p q : Nat, p ≤ q ∧ q ≤ l.length ∧ i = .int .i64 p ∧ j = .int .i64 q ∧ Hid (∀ z x, z < p → l[z]? = some x → decide (x.f < v) = true) ∧ Hid (∀ z x, q ≤ z → l[z]? = some x → decide (x.f < v) = false) ∧ Hid (Below w.heap.size w wr)) (fun i j _ => (intOf j - intOf i).toNat)
  case atStart => exact ⟨0, l.length, Nat.zero_le _, Nat.le_refl _, rfl, rfl, (fun z x h => by omega), (fun z x h hx => by have := (List.getElem?_eq_some_iff.1 hx).1; omega), ext_refl _⟩
  case round =>
    obtain ⟨p, q, hpq, hql, rfl, rfl, HP, HQ, E⟩ := hrel
    by_cases hlt : p < q
    · obtain ⟨m, hm⟩ : ∃ m, (p + q) / 2 = m := ⟨_, rfl⟩
      have hm1 : p ≤ m ∧ m < q := by omega
      obtain ⟨hm1, hm2⟩ := hm1
      have HM := Lib.hid (show ((p : Int) + q) / 2 = (m : Int) by omega)
      have hlt' : (p : Int) < q := by omega
      obtain ⟨x, b1, o1, hx, rfl, hb1, hc⟩ := (HA.out.ext E.out).at_ (k := m) (by omega)
      have c0 := hc 0 _ rfl
      have c1 := hc 1 _ rfl
      have c2 := hc 2 _ rfl
      simp only [Nat.add_zero] at c0
      have HX := Lib.hid hx
      have hml : (m : Int) < l.length := by omega
      clear hc hx hm
      have hmi := HM.out
      by_cases hxa : x.f < v
      · have HXA := Lib.hid hxa
        clear hxa
        go_wp2_with fail
        refine (cmp_at (-1) (by simp [cmpI, HXA.out])).mono ?_
        rintro e w1 ⟨rfl, B⟩
        have E1 := Lib.hid (ext_trans E.out B)
        clear hmi c0 c1 c2 B
        have HP2 : Hid (∀ z x, z < m + 1 → l[z]? = some x → decide (x.f < v) = true) := fun z y hz hy => by
          by_cases h : z = m
          · subst h; rw [HX.out] at hy; cases hy; simpa using HXA.out
          · have := mono_ch HL.out (show z < m by omega) hy HX.out; have h2 := HXA.out; simp; omega
        go_wp2_with fail
        first | exact ⟨⟨m + 1, q, by omega, hql, by go_num, by first | rfl | trivial, HP2, HQ, E1.out⟩, by simp [intOf] <;> omega⟩ | (go_roundw; all_goals first | exact ⟨m + 1, q, by omega, hql, by go_num, by first | rfl | trivial, HP2, HQ, E1.out⟩ | (simp [intOf] <;> omega))
      · have HXA := Lib.hid hxa
        clear hxa
        go_wp2_with fail
        obtain ⟨r, hr⟩ : ∃ r, cmpI x.f v = r := ⟨_, rfl⟩
        have hr0 : decide (r < 0) = false := by
          rw [← hr]; unfold cmpI; rw [if_neg (by have := HXA.out; omega)]; split <;> rfl
        refine (cmp_at r hr).mono ?_
        rintro e w1 ⟨rfl, B⟩
        have E1 := Lib.hid (ext_trans E.out B)
        clear hmi c0 c1 c2 B hr
        have HQ2 : Hid (∀ z x, m ≤ z → l[z]? = some x → decide (x.f < v) = false) := fun z y hz hy => by
          by_cases h : z = m
          · subst h; rw [HX.out] at hy; cases hy; simpa using HXA.out
          · have := mono_ch HL.out (show m < z by omega) HX.out hy; have h2 := HXA.out; simp; omega
        go_wp2_with fail
        first | exact ⟨⟨p, m, by omega, by omega, by go_num, by first | rfl | trivial, HP, HQ2, E1.out⟩, by simp [intOf] <;> omega⟩ | (go_roundw; all_goals first | exact ⟨p, m, by omega, by omega, by go_num, by first | rfl | trivial, HP, HQ2, E1.out⟩ | (simp [intOf] <;> omega))
    · have hlt' : decide ((p : Int) < q) = false := decide_eq_false (by omega)
      obtain rfl : p = q := by omega
      have HC := Lib.hid (show CutAt (fun x : Chg => decide (x.f < v)) l p from ⟨hql, HP.out, HQ.out⟩)
      by_cases hp : p < l.length
      · have hp' : (p : Int) < l.length := by omega
        obtain ⟨x, b1, o1, hx, rfl, hb1, hc⟩ := (HA.out.ext E.out).at_ hp
        have c0 := hc 0 _ rfl
        have c1 := hc 1 _ rfl
        have c2 := hc 2 _ rfl
        simp only [Nat.add_zero] at c0
        have HX := Lib.hid hx
        clear hc hx
        go_wp2_with fail
        obtain ⟨r, hr⟩ : ∃ r, cmpI x.f v = r := ⟨_, rfl⟩
        refine (cmp_at r hr).mono ?_
        rintro e w1 ⟨rfl, B⟩
        have E1 := Lib.hid (ext_trans E.out B)
        have HR := Lib.hid hr
        clear c0 c1 c2 B hr
        obtain ⟨s, hs⟩ : ∃ s, (r == 0) = s := ⟨_, rfl⟩
        go_wp2_with fail
        go_ret2
        refine ⟨p, s, rfl, HC.out, ?_, E1.out⟩
        have := HR.out
        rw [← hs]
        simp only [beq_iff_eq]
        constructor
        · intro h0
          refine ⟨x, HX.out, ?_⟩
          rw [h0] at this
          unfold cmpI at this
          split at this
          · cases this
          · split at this
            · cases this
            · omega
        · rintro ⟨y, hy, hv⟩
          cases HX.out.symm.trans hy
          rw [← this, hv]
          simp [cmpI]
      · have hp' : decide ((p : Int) < l.length) = false := decide_eq_false (by omega)
        go_wp2_with fail
        go_ret2
        refine ⟨p, false, rfl, HC.out, ?_, E.out⟩
        constructor
        · intro h; cases h
        · rintro ⟨y, hy, hv⟩
          have := (List.getElem?_eq_some_iff.1 hy).1
          omega
theorem ch_info : (Tryz.prog.info? 34).map (fun i => (i.zero, i.size, i.bytes)) = some (some (.agg #[.int .i64 0, .int .i64 0, .slice none 0 0]), 3, 40) := by kernel_rfl
theorem chI : EInfo Tryz.prog 29 34 Chg.cells 3 40 := by
  obtain ⟨i, h1, h2, h3, h4⟩ := iparts ch_info
  exact ⟨Tryz.underlying29, ⟨i, _, h1, h2, h3, h4, rfl⟩, by decide, fun _ => rfl, fun x u hu => by simp [Chg.cells] at hu; rcases hu with rfl | rfl | rfl <;> rfl⟩
def CloneR (w : World) (l : List Chg) (e : Ending) (w' : World) : Prop := ∃ A c, e = .returned (.slice A l.length c) ∧ Own w' w.heap.size 34 Chg.cells 3 (.slice A l.length c) l ∧ Below w.heap.size w w'
theorem eqnil29 (w : World) (a : Option Addr) (n c : Nat) : (binOp .eql 29 (.slice a n c) (.slice none 0 0)).run Tryz.prog w = .ok (.bool a.isNone) w := by
  exact Lib.run_eql_slice_nil w 29 34 a n c 0 0 Tryz.underlying29
set_option maxRecDepth 100000 in
set_option maxHeartbeats 400000 in
theorem clone_any (A : Option Addr) (c n : Nat) (l : List Chg) (w : World) (hn : n = l.length) (ha : Slc w Chg.cells 3 A l) (hl : l.length ≤ 1048576) : Calls Tryz.prog 24 #[.slice A n c] w (CloneR w l) := by
  subst hn
  cases A with
  | none =>
    have hl0 : l = [] := List.eq_nil_of_length_eq_zero (ha.none_len rfl)
    subst hl0
    clear ha hl
    have hnil := fun w => eqnil29 w none 0 c
    simp only [Option.isNone_none] at hnil
    go_enter Tryz.func24, Tryz.ntmps24
    go_wp2_with fail
    all_goals
      go_ret
      exact ⟨none, 0, rfl, Own.nil _ _ _ _ _, ext_refl w⟩
  | some a =>
    obtain ⟨v', w', hrun, A', c', rfl, hO', hE', _, _, _⟩ := Own.append_to (w0 := w) chI 29 (Own.made w w.heap.size 34 Chg.cells 3 (Nat.le_refl _)) (ext_alloc (ext_refl w) _) (ys := l) (m := l.length) rfl c (ha.ext (ext_alloc (ext_refl w) _)) (by simp; omega) (by unfold maxLen; simp; omega)
    have HR := Lib.hid hrun
    have HO := Lib.hid hO'
    clear hrun hO' hl
    have SA := Lib.hid ha
    clear ha
    clear SA
    have hnil := fun w => eqnil29 w (some a) l.length c
    simp only [Option.isNone_some] at hnil
    go_enter Tryz.func24, Tryz.ntmps24
    go_wp2_with (first | (at_builtin; refine wpList_append_run rfl (.tmp 5) (.tmp 6) 29 rfl (.slice (some ⟨w.heap.size, 0, none⟩) 0 0) (.slice (some a) l.length c) rfl rfl HR.out ?_) | fail)
    go_ret
    exact ⟨A', c', by simp, by simpa using HO.out, hE'⟩
/-- A slice's tail and head, as Go lays them. -/
def fromAChg (A : Option Addr) (c k : Nat) : Option Addr := if c = k then A else A.map (·.add (k * 3))
set_option maxRecDepth 100000 in
theorem slice_fromChg (A : Option Addr) (len c k : Nat) (i : Int) (hi : i = k) (h1 : k ≤ len) (h2 : len ≤ c) (w : World) : (Instr.sliceAt 29 (.slice A len c) (some (.int .i64 i)) none none).run Tryz.prog w = .ok (.slice (fromAChg A c k) (len - k) (c - k)) w := by
  subst hi
  have hs : (sizeOf (Tryz.prog.elem 29)).run Tryz.prog w = .ok 3 w := by kernel_rfl
  rw [run_sliceAt_slice w 29 _ _ _ _ Tryz.underlying29, run_slice_l w 29 A len c Tryz.underlying29 _ _ (by omega) (by omega)]
  simp only [hs, Result.andThen, sliced, fromAChg]
  rfl
set_option maxRecDepth 100000 in
theorem slice_headChg (A : Option Addr) (len c k : Nat) (i : Int) (hi : i = k) (h2 : k ≤ c) (w : World) : (Instr.sliceAt 29 (.slice A len c) none (some (.int .i64 i)) none).run Tryz.prog w = .ok (.slice A k c) w := by
  subst hi
  have hs : (sizeOf (Tryz.prog.elem 29)).run Tryz.prog w = .ok 3 w := by kernel_rfl
  rw [run_sliceAt_slice w 29 _ _ _ _ Tryz.underlying29, run_slice_h w 29 A len c Tryz.underlying29 _ _ (by omega) (by omega)]
  simp only [hs, Result.andThen, sliced]
  have : (fun x : Addr => x.add (0 * 3)) = id := by funext a; simp [Addr.add]
  rw [this]
  simp
set_option maxRecDepth 100000 in
theorem overlapsChg (w : World) (b g o la ca lb cb kA kB : Nat) (tA tB : TypeId) (hne : b ≠ g) (hsa : w.shape? b = some (tA, kA)) (hsb : w.shape? g = some (tB, kB)) (hkB : kB ≠ 0) (hfa : w.frozen? ⟨b, 0, none⟩ = false) (hfe : w.frozen? ⟨b, kA, none⟩ = false) :
    (callFunc 60 #[.slice (some ⟨b, 0, none⟩) la ca, .slice (some ⟨g, o, none⟩) lb cb]).run Tryz.prog w = .ok (.value (.bool false)) w := by
  rw [run_callFunc_extern Tryz.func60 (by kernel_rfl) (by kernel_rfl) (by kernel_rfl) (e := Extern.SlicesOverlaps.overlaps #[29, 29] #[4]) (by kernel_rfl),
    Lib.run_overlaps_apart w 29 4 34 Tryz.underlying29 3 (fun w => by kernel_rfl) ⟨b, 0, none⟩ ⟨g, o, none⟩ la ca lb cb hne tA tB kA kB hsa hsb hkB hfa hfe]
  rfl

set_option maxHeartbeats 8000000 in
set_option maxRecDepth 100000 in
theorem insertChg (w0 w : World) (A : Option Addr) (n c : Nat) (l : List Chg) (k : Nat) (x : Chg) (vb : Nat) (hn : n = l.length) (hk : k ≤ l.length) (hO : Own w w0.heap.size 34 Chg.cells 3 (.slice A n c) l) (hE : Below w0.heap.size w0 w) (hm : l.length ≤ 1048576)
    (hv : w.heap[vb]? = some (.cells (Chg.cells x).toArray 34 (0, 0))) (hne : ∀ g, (Value.slice A n c).ownBlock = some g → vb ≠ g) :
    Calls Tryz.prog 28 #[.slice A n c, .int .i64 k, .slice (some ⟨vb, 0, none⟩) 1 1] w fun e w' => ∃ A' c', e = .returned (.slice A' (l.length + 1) c') ∧ Own w' w0.heap.size 34 Chg.cells 3 (.slice A' (l.length + 1) c') (l.take k ++ x :: l.drop k) ∧ Below w0.heap.size w0 w' := by
  subst hn
  obtain ⟨hnc, hcm⟩ : l.length ≤ c ∧ c ≤ maxLen := by obtain ⟨_, _, h1, h2, h3, _⟩ := hO.cap; injection h1 with _ _ h1; subst h1; exact ⟨h2, h3⟩
  unfold maxLen at hcm
  have hvl : vb < w.heap.size := (Array.getElem?_eq_some_iff.1 hv).1
  have hxs : Slc w Chg.cells 3 (some ⟨vb, 0, none⟩) [x] := by
    intro i y hy
    obtain ⟨rfl, rfl⟩ : i = 0 ∧ y = x := by cases i <;> simp at hy; exact ⟨rfl, hy.symm⟩
    exact ⟨vb, 0, rfl, hvl, fun j u hj => row_cell (cur := Chg.cells y) hv (by simpa using hj)⟩
  have hsf : ∀ w : World, (Instr.sliceAt 29 (.slice A l.length c) (some (.int .i64 k)) none none).run Tryz.prog w = .ok (.slice (fromAChg A c k) (l.length - k) (c - k)) w := fun w => slice_fromChg A _ c k _ rfl hk hnc w
  by_cases hkn : k = l.length
  · subst hkn
    obtain ⟨v', w', hrun, A', c', rfl, hO', hE', _, _, _⟩ := Own.append_to (w0 := w0) chI 29 hO hE (ys := [x]) (m := 1) rfl 1 hxs (by simp; omega) (by unfold maxLen; simp; omega)
    have HR := Lib.hid hrun
    have HO := Lib.hid hO'
    clear hrun hO' hO hxs
    go_enter Tryz.func28, Tryz.ntmps28
    go_wp2_with (first | (at_builtin; refine wpList_append_run rfl (.tmp 23) (.tmp 24) 29 rfl (.slice A l.length c) (.slice (some ⟨vb, 0, none⟩) 1 1) rfl rfl HR.out ?_) | fail)
    go_ret
    refine ⟨A', c', by simp, ?_, hE'⟩
    have := HO.out
    simp only [List.length_append, List.length_cons, List.length_nil] at this
    simpa using this
  have hlt : k < l.length := by omega
  obtain ⟨g0, c', cur0, hv0, -⟩ := hO.some_ (by omega)
  injection hv0 with hA _ hcc
  subst hA
  clear cur0 hcc c'
  obtain ⟨-, hbg, hgl, -, -, cur, hg, hcz, hct⟩ := hO.row
  have SL := Lib.hid (hO.slc chI.hl chI.hz)
  have hvg : vb ≠ g0 := hne g0 rfl
  have HXS := Lib.hid hxs
  have HEE := Lib.hid hE
  have HOO := Lib.hid hO
  have HG := Lib.hid hg
  have HV := Lib.hid hv
  have HCT := Lib.hid hct
  have HCZ := Lib.hid hcz
  have w1 : IntKind.i64.wrap ((l.length : Int) + 1) = (l.length : Int) + 1 := IntWalk.i64_in _ (by omega)
  have w2 : IntKind.i64.wrap ((k : Int) + 1) = (k : Int) + 1 := IntWalk.i64_in _ (by omega)
  have w3 : IntKind.i64.wrap ((l.length : Int) + 1 - (k : Int)) = (l.length : Int) + 1 - (k : Int) := IntWalk.i64_in _ (by omega)
  have hkn' : ¬ ((k : Int) = (l.length : Int)) := by omega
  have hsf0 : ∀ w : World, (Instr.sliceAt 29 (.slice (some ⟨g0, 0, none⟩) l.length c) (some (.int .i64 k)) none none).run Tryz.prog w = .ok (.slice (some ⟨g0, k * 3, none⟩) (l.length - k) (c - k)) w := fun w => by
    rw [hsf w]; unfold fromAChg; rw [from0 g0 c k 3 (by omega)]
  clear hxs hE hO hg hv hct hcz hne hsf
  by_cases hroom : l.length + 1 ≤ c
  · have hr : ¬ ((c : Int) < (l.length : Int) + 1) := by omega
    have hsh : ∀ w : World, (Instr.sliceAt 29 (.slice (some ⟨g0, 0, none⟩) l.length c) none (some (.int .i64 ((l.length : Int) + 1))) none).run Tryz.prog w = .ok (.slice (some ⟨g0, 0, none⟩) (l.length + 1) c) w := fun w => slice_headChg _ _ c _ _ (by omega) hroom w
    have hs1 : ∀ w : World, (Instr.sliceAt 29 (.slice (some ⟨g0, 0, none⟩) (l.length + 1) c) (some (.int .i64 ((k : Int) + 1))) none none).run Tryz.prog w = .ok (.slice (some ⟨g0, (k + 1) * 3, none⟩) (l.length - k) (c - (k + 1))) w := fun w => by
      rw [slice_fromChg _ _ c (k + 1) _ (by omega) (by omega) hroom w]; unfold fromAChg; rw [from0 g0 c (k + 1) 3 (by omega), show l.length + 1 - (k + 1) = l.length - k by omega]
    have hs2 : ∀ w : World, (Instr.sliceAt 29 (.slice (some ⟨g0, 0, none⟩) (l.length + 1) c) (some (.int .i64 k)) none none).run Tryz.prog w = .ok (.slice (some ⟨g0, k * 3, none⟩) (l.length + 1 - k) (c - k)) w := fun w => by
      rw [slice_fromChg _ _ c k _ rfl (by omega) hroom w]; unfold fromAChg; rw [from0 g0 c k 3 (by omega)]
    have hcl : cur.length ≠ 0 := by rw [HCZ.out]; omega
    have hov : ∀ (lb cb : Nat), (callFunc 60 #[.slice (some ⟨vb, 0, none⟩) 1 1, .slice (some ⟨g0, (k + 1) * 3, none⟩) lb cb]).run Tryz.prog w = .ok (.value (.bool false)) w := fun lb cb =>
      overlapsChg w vb g0 _ 1 1 lb cb _ _ _ _ hvg (row_shape HV.out) (row_shape HG.out) hcl (row_frozen HV.out _) (row_frozen HV.out _)
    have hle := Nat.mul_le_mul_right 3 hroom
    obtain ⟨v1, W1, hr1, hg1, hb1⟩ := run_copyG chI w.drew 29 3 g0 ((k + 1) * 3) (l.length - k) (c - (k + 1)) ⟨g0, k * 3, none⟩ (l.length + 1 - k) (c - k) cur 34 (l.drop k) HG.out (by simp only [List.length_drop, Nat.min_def]; split <;> omega) (SL.out.drew_.tailCells chI.hl k) (by rw [HCZ.out]; simp only [List.length_drop]; omega)
    have hlen1 : (splice cur ((k + 1) * 3) ((l.drop k).flatMap Chg.cells)).length = cur.length := splice_len (by rw [flat_len chI.hl, HCZ.out]; simp only [List.length_drop]; omega)
    have hx1 : Slc W1 Chg.cells 3 (some ⟨vb, 0, none⟩) [x] := HXS.out.drew_.keep (hb1.block vb (by exact hvl) (by intro e; injection e with e; exact hvg e)) hb1.size
    obtain ⟨v2, W2, hr2, hg2, hb2⟩ := run_copyG chI W1 29 3 g0 (k * 3) (l.length + 1 - k) (c - k) ⟨vb, 0, none⟩ 1 1 _ 34 [x] hg1 (by simp only [List.length_cons, List.length_nil, Nat.min_def]; split <;> omega) (hx1.olds chI.hl _ rfl) (by rw [hlen1, HCZ.out]; simp only [List.length_cons, List.length_nil]; omega)
    have HR1 := Lib.hid hr1
    have HR2 := Lib.hid hr2
    have HG2 := Lib.hid hg2
    have HB1 := Lib.hid hb1
    have HB2 := Lib.hid hb2
    clear hr1 hr2 hg1 hg2 hb1 hb2 hx1 hle hlen1 hkn
    go_enter Tryz.func28, Tryz.ntmps28
    go_wp2_with (first | (simp only [hov]) | fail)
    refine rg_begin (S := (fun _ => True)) 9 (by kernel_rfl) (by intro d; cases d <;> intro _ _ _ _ h <;> exact h) ?_ (fun Q7 hQ7 hN7 hHeld => ?_)
    · trivial
    refine rg_pure (i := 0) (some 69) (v := ?_) rfl rfl (by kernel_rfl) (by rfl) hQ7 (by first | exact .inr hHeld | exact .inl (by kernel_rfl)) ?_ ?_
    rotate_left
    · intro w7; go_simp; all_goals with_reducible rfl
    try simp only [Act.put, List.setIfInBounds_toArray, List.set_cons_zero, List.set_cons_succ]
    refine rg_pure (i := 1) (some 70) (v := ?_) rfl rfl (by kernel_rfl) (by rfl) hQ7 (by first | exact .inr hHeld | exact .inl (by kernel_rfl)) ?_ ?_
    rotate_left
    · intro w7; go_simp; all_goals with_reducible rfl
    try simp only [Act.put, List.setIfInBounds_toArray, List.set_cons_zero, List.set_cons_succ]
    refine rg_pure (i := 2) (some 71) (v := ?_) rfl rfl (by kernel_rfl) (by rfl) hQ7 (by first | exact .inr hHeld | exact .inl (by kernel_rfl)) ?_ ?_
    rotate_left
    · intro w7; go_simp; all_goals with_reducible rfl
    try simp only [Act.put, List.setIfInBounds_toArray, List.set_cons_zero, List.set_cons_succ]
    refine rg_pure (i := 3) (some 72) (v := ?_) rfl rfl (by kernel_rfl) (by rfl) hQ7 (by first | exact .inr hHeld | exact .inl (by kernel_rfl)) ?_ ?_
    rotate_left
    · intro w7; go_simp; all_goals with_reducible rfl
    try simp only [Act.put, List.setIfInBounds_toArray, List.set_cons_zero, List.set_cons_succ]
    refine rg_pure (i := 4) (some 73) (v := .slice (some ⟨g0, (k + 1) * 3, none⟩) (l.length - k) (c - (k + 1))) rfl rfl (by kernel_rfl) (by rfl) hQ7 (by first | exact .inr hHeld | exact .inl (by kernel_rfl)) (fun w7 => run_v (hs1 w7)) ?_
    try simp only [Act.put, List.setIfInBounds_toArray, List.set_cons_zero, List.set_cons_succ]
    refine rg_pure (i := 5) (some 74) (v := ?_) rfl rfl (by kernel_rfl) (by rfl) hQ7 (by first | exact .inr hHeld | exact .inl (by kernel_rfl)) ?_ ?_
    rotate_left
    · intro w7; go_simp; all_goals with_reducible rfl
    try simp only [Act.put, List.setIfInBounds_toArray, List.set_cons_zero, List.set_cons_succ]
    refine rg_pure (i := 6) (some 75) (v := ?_) rfl rfl (by kernel_rfl) (by rfl) hQ7 (by first | exact .inr hHeld | exact .inl (by kernel_rfl)) ?_ ?_
    rotate_left
    · intro w7; go_simp; all_goals with_reducible rfl
    try simp only [Act.put, List.setIfInBounds_toArray, List.set_cons_zero, List.set_cons_succ]
    refine rg_pure (i := 7) (some 76) (v := .slice (some ⟨g0, k * 3, none⟩) (l.length + 1 - k) (c - k)) rfl rfl (by kernel_rfl) (by rfl) hQ7 (by first | exact .inr hHeld | exact .inl (by kernel_rfl)) (fun w7 => run_v (hs2 w7)) ?_
    try simp only [Act.put, List.setIfInBounds_toArray, List.set_cons_zero, List.set_cons_succ]
    refine rg_one (i := 8) (by kernel_rfl) (rg_step rfl (by rfl) (fun K hK => ?_))
    refine rg_copy (some 77) _ _ 29 3 rfl rfl rfl _ _ rfl rfl (runs_eq HR1.out) ?_
    rintro _ _ ⟨rfl, rfl⟩
    refine hK.out _ _ ?_ (fun hHeld2 => ?_)
    · trivial
    clear hHeld
    have hHeld := hHeld2
    clear hHeld2
    clear hK K
    try simp only [Act.put, List.setIfInBounds_toArray, List.set_cons_zero, List.set_cons_succ]
    refine rg_end (by kernel_rfl) (hN7 _ _ ?_) _
    clear hQ7 hN7 Q7
    have hB1 := HB1.out
    go_wp2_with (first | (refine wpList_copy_of (o := ⟨some 82, _, _, _, _, _⟩) rfl (.tmp 80) (.tmp 81) 29 rfl (.slice (some ⟨g0, k * 3, none⟩) (l.length + 1 - k) (c - k)) (.slice (some ⟨vb, 0, none⟩) 1 1) rfl rfl (R := fun v w => v = v2 ∧ w = W2) ⟨v2, W2, HR2.out, rfl, rfl⟩ ?_; rintro _ _ ⟨rfl, rfl⟩) | fail)
    go_ret
    have hE1 := ext_grown (ext_grown (ext_drew HEE.out) HB1.out (fun r e => by injection e with e; omega)) HB2.out (fun r e => by injection e with e; omega)
    exact ⟨_, _, rfl, own_shift chI.hl hbg hk hroom (by unfold maxLen; omega) HCZ.out HCT.out HG2.out, hE1⟩
  · have hr : (c : Int) < (l.length : Int) + 1 := by omega
    have hkk : (l.length : Int) + 1 - (k : Int) = ((l.length + 1 - k : Nat) : Int) := by omega
    have hsh : ∀ w : World, (Instr.sliceAt 29 (.slice (some ⟨g0, 0, none⟩) l.length c) none (some (.int .i64 k)) none).run Tryz.prog w = .ok (.slice (some ⟨g0, 0, none⟩) k c) w := fun w => slice_headChg _ _ c k _ rfl (by omega) w
    obtain ⟨vz, W0, GC, cur1, hr0, hvz, hG1, hG2, hgz, hcz1, hct1, hb0⟩ := HOO.out.zeros chI (tn := 3) Tryz.underlying3 29 k (l.length + 1 - k) hk (by omega) (by omega) (by unfold maxLen; omega) (by omega)
    rw [show k + (l.length + 1 - k) = l.length + 1 by omega] at hvz hG1
    subst hvz
    rw [← hkk] at hr0
    unfold maxLen at hG2
    have hsz : w.heap.size < W0.heap.size := (Array.getElem?_eq_some_iff.1 hgz).1
    obtain ⟨g1, hg1e⟩ : ∃ g1, w.heap.size = g1 := ⟨_, rfl⟩
    have HSZ := Lib.hid hg1e
    rw [hg1e] at hr0 hgz hsz
    have hle := Nat.mul_le_mul_right 3 hG1
    have hs1 : ∀ w : World, (Instr.sliceAt 29 (.slice (some ⟨g1, 0, none⟩) (l.length + 1) GC) (some (.int .i64 k)) none none).run Tryz.prog w = .ok (.slice (some ⟨g1, k * 3, none⟩) (l.length + 1 - k) (GC - k)) w := fun w => by
      rw [slice_fromChg _ _ GC k _ rfl (by omega) hG1 w]; unfold fromAChg; rw [from0 g1 GC k 3 (by omega)]
    have hs2 : ∀ w : World, (Instr.sliceAt 29 (.slice (some ⟨g1, 0, none⟩) (l.length + 1) GC) (some (.int .i64 ((k : Int) + 1))) none none).run Tryz.prog w = .ok (.slice (some ⟨g1, (k + 1) * 3, none⟩) (l.length - k) (GC - (k + 1))) w := fun w => by
      rw [slice_fromChg _ _ GC (k + 1) _ (by omega) (by omega) hG1 w]; unfold fromAChg; rw [from0 g1 GC (k + 1) 3 (by omega), show l.length + 1 - (k + 1) = l.length - k by omega]
    have hx1 : Slc W0 Chg.cells 3 (some ⟨vb, 0, none⟩) [x] := HXS.out.ext hb0
    obtain ⟨v1, W1, hr1, hg1, hb1⟩ := run_copyG chI W0 29 3 g1 (k * 3) (l.length + 1 - k) (GC - k) ⟨vb, 0, none⟩ 1 1 cur1 34 [x] hgz (by simp only [List.length_cons, List.length_nil, Nat.min_def]; split <;> omega) (hx1.olds chI.hl _ rfl) (by rw [hcz1]; simp only [List.length_cons, List.length_nil]; omega)
    have hlen1 : (splice cur1 (k * 3) (([x] : List Chg).flatMap Chg.cells)).length = cur1.length := splice_len (by rw [flat_len chI.hl, hcz1]; simp only [List.length_cons, List.length_nil]; omega)
    have hgne : g0 ≠ g1 := by omega
    have hS1 : Slc W1.drew Chg.cells 3 (some ⟨g0, 0, none⟩) l := ((SL.out.ext hb0).keep (hb1.block g0 (by omega) (by intro e; injection e with e; exact hgne e)) hb1.size).drew_
    obtain ⟨v2, W2, hr2, hg2, hb2⟩ := run_copyG chI W1.drew 29 3 g1 ((k + 1) * 3) (l.length - k) (GC - (k + 1)) ⟨g0, k * 3, none⟩ (l.length - k) (c - k) _ 34 (l.drop k) hg1 (by simp only [List.length_drop, Nat.min_def]; split <;> omega) (hS1.tailCells chI.hl k) (by rw [hlen1, hcz1]; simp only [List.length_drop]; omega)
    have HR0 := Lib.hid hr0
    have HR1 := Lib.hid hr1
    have HR2 := Lib.hid hr2
    have HG2 := Lib.hid hg2
    have HB0 := Lib.hid hb0
    have HB1 := Lib.hid hb1
    have HB2 := Lib.hid hb2
    have HC1 := Lib.hid (show _ ∧ _ from ⟨hcz1, hct1⟩)
    have HBG := Lib.hid (show w0.heap.size ≤ g1 by have := HEE.out.size; have := HSZ.out; omega)
    clear hr0 hr1 hr2 hg1 hg2 hb0 hb1 hb2 hx1 hle hlen1 hkn hkk hgz hcz1 hct1 hS1 hg1e
    go_enter Tryz.func28, Tryz.ntmps28
    go_wp2_with (first | (at_builtin; refine Lib.wpList_append_run _ rfl (.tmp 34) (.tmp 39) 29 3 rfl (.slice (some ⟨g0, 0, none⟩) k c) (.int .i64 ((l.length : Int) + 1 - (k : Int))) rfl rfl _ _ HR0.out ?_) | (refine wpList_copy_of (o := ⟨some 45, _, _, _, _, _⟩) rfl (.tmp 43) (.tmp 44) 29 rfl (.slice (some ⟨g1, k * 3, none⟩) (l.length + 1 - k) (GC - k)) (.slice (some ⟨vb, 0, none⟩) 1 1) rfl rfl (R := fun v w => v = v1 ∧ w = W1) ⟨v1, W1, HR1.out, rfl, rfl⟩ ?_; rintro _ _ ⟨rfl, rfl⟩) | fail)
    refine rg_begin (S := (fun _ => True)) 9 (by kernel_rfl) (by intro d; cases d <;> intro _ _ _ _ h <;> exact h) ?_ (fun Q7 hQ7 hN7 hHeld => ?_)
    · trivial
    refine rg_pure (i := 0) (some 46) (v := ?_) rfl rfl (by kernel_rfl) (by rfl) hQ7 (by first | exact .inr hHeld | exact .inl (by kernel_rfl)) ?_ ?_
    rotate_left
    · intro w7; go_simp; all_goals with_reducible rfl
    try simp only [Act.put, List.setIfInBounds_toArray, List.set_cons_zero, List.set_cons_succ]
    refine rg_pure (i := 1) (some 47) (v := ?_) rfl rfl (by kernel_rfl) (by rfl) hQ7 (by first | exact .inr hHeld | exact .inl (by kernel_rfl)) ?_ ?_
    rotate_left
    · intro w7; go_simp; all_goals with_reducible rfl
    try simp only [Act.put, List.setIfInBounds_toArray, List.set_cons_zero, List.set_cons_succ]
    refine rg_pure (i := 2) (some 48) (v := ?_) rfl rfl (by kernel_rfl) (by rfl) hQ7 (by first | exact .inr hHeld | exact .inl (by kernel_rfl)) ?_ ?_
    rotate_left
    · intro w7; go_simp; all_goals with_reducible rfl
    try simp only [Act.put, List.setIfInBounds_toArray, List.set_cons_zero, List.set_cons_succ]
    refine rg_pure (i := 3) (some 49) (v := ?_) rfl rfl (by kernel_rfl) (by rfl) hQ7 (by first | exact .inr hHeld | exact .inl (by kernel_rfl)) ?_ ?_
    rotate_left
    · intro w7; go_simp; all_goals with_reducible rfl
    try simp only [Act.put, List.setIfInBounds_toArray, List.set_cons_zero, List.set_cons_succ]
    refine rg_pure (i := 4) (some 50) (v := .slice (some ⟨g1, (k + 1) * 3, none⟩) (l.length - k) (GC - (k + 1))) rfl rfl (by kernel_rfl) (by rfl) hQ7 (by first | exact .inr hHeld | exact .inl (by kernel_rfl)) (fun w7 => run_v (hs2 w7)) ?_
    try simp only [Act.put, List.setIfInBounds_toArray, List.set_cons_zero, List.set_cons_succ]
    refine rg_pure (i := 5) (some 51) (v := ?_) rfl rfl (by kernel_rfl) (by rfl) hQ7 (by first | exact .inr hHeld | exact .inl (by kernel_rfl)) ?_ ?_
    rotate_left
    · intro w7; go_simp; all_goals with_reducible rfl
    try simp only [Act.put, List.setIfInBounds_toArray, List.set_cons_zero, List.set_cons_succ]
    refine rg_pure (i := 6) (some 52) (v := ?_) rfl rfl (by kernel_rfl) (by rfl) hQ7 (by first | exact .inr hHeld | exact .inl (by kernel_rfl)) ?_ ?_
    rotate_left
    · intro w7; go_simp; all_goals with_reducible rfl
    try simp only [Act.put, List.setIfInBounds_toArray, List.set_cons_zero, List.set_cons_succ]
    refine rg_pure (i := 7) (some 53) (v := .slice (some ⟨g0, k * 3, none⟩) (l.length - k) (c - k)) rfl rfl (by kernel_rfl) (by rfl) hQ7 (by first | exact .inr hHeld | exact .inl (by kernel_rfl)) (fun w7 => run_v (hsf0 w7)) ?_
    try simp only [Act.put, List.setIfInBounds_toArray, List.set_cons_zero, List.set_cons_succ]
    refine rg_one (i := 8) (by kernel_rfl) (rg_step rfl (by rfl) (fun K hK => ?_))
    refine rg_copy (some 54) _ _ 29 3 rfl rfl rfl _ _ rfl rfl (runs_eq HR2.out) ?_
    rintro _ _ ⟨rfl, rfl⟩
    refine hK.out _ _ ?_ (fun hHeld2 => ?_)
    · trivial
    clear hHeld
    have hHeld := hHeld2
    clear hHeld2
    clear hK K
    try simp only [Act.put, List.setIfInBounds_toArray, List.set_cons_zero, List.set_cons_succ]
    refine rg_end (by kernel_rfl) (hN7 _ _ ?_) _
    clear hQ7 hN7 Q7
    go_wp2_with fail
    go_ret
    have hE1 := ext_grown (ext_drew (ext_grown (ext_trans HEE.out HB0.out) HB1.out (fun r e => by injection e with e; have := HBG.out; omega))) HB2.out (fun r e => by injection e with e; have := HBG.out; omega)
    exact ⟨_, _, rfl, own_fill chI.hl HBG.out hk hG1 (by unfold maxLen; omega) HC1.out.1 HC1.out.2 HG2.out, hE1⟩
end Go.Proofs.YtilocjliplmmpaaGreat
