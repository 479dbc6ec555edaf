/- slices.Insert and slices.Clone at credits. -/
import Derived.Test.YtafglcalimcdcaaA
import Derived.Test.YtafglcalimcdcaaRg
set_option linter.unusedSimpArgs false
set_option linter.unusedVariables false
namespace Go.Proofs.Ytafglcalimcdcaa
open Go.RowKit
/-- A slice's tail and head, as Go lays them. -/
def fromACr (A : Option Addr) (c k : Nat) : Option Addr := if c = k then A else A.map (·.add (k * 3))
theorem slice_fromCr (A : Option Addr) (len c k : Nat) (i : Int) (hi : i = k) (h1 : k ≤ len) (h2 : len ≤ c) (w : World) : (Instr.sliceAt 22 (.slice A len c) (some (.int .i64 i)) none none).run Try.prog w = .ok (.slice (fromACr A c k) (len - k) (c - k)) w := by
  subst hi
  have hs : (sizeOf (Try.prog.elem 22)).run Try.prog w = .ok 3 w := by kernel_rfl
  rw [run_sliceAt_slice w 22 _ _ _ _ Try.underlying22, run_slice_l w 22 A len c Try.underlying22 _ _ (by omega) (by omega)]
  simp only [hs, Result.andThen, sliced, fromACr]
  rfl
theorem slice_headCr (A : Option Addr) (len c k : Nat) (i : Int) (hi : i = k) (h2 : k ≤ c) (w : World) : (Instr.sliceAt 22 (.slice A len c) none (some (.int .i64 i)) none).run Try.prog w = .ok (.slice A k c) w := by
  subst hi
  have hs : (sizeOf (Try.prog.elem 22)).run Try.prog w = .ok 3 w := by kernel_rfl
  rw [run_sliceAt_slice w 22 _ _ _ _ Try.underlying22, run_slice_h w 22 A len c Try.underlying22 _ _ (by omega) (by omega)]
  simp only [hs, Result.andThen, sliced]
  have : (fun x : Addr => x.add (0 * 3)) = id := by funext a; simp [Addr.add]
  rw [this]
  simp
theorem overlapsCr (w : World) (b g o la ca lb cb kA kB : Nat) (tA tB : TypeId) (hne : b ≠ g) (hsa : w.shape? b = some (tA, kA)) (hsb : w.shape? g = some (tB, kB)) (hkB : kB ≠ 0) (hfa : w.frozen? ⟨b, 0, none⟩ = false) (hfe : w.frozen? ⟨b, kA, none⟩ = false) :
    (callFunc 30 #[.slice (some ⟨b, 0, none⟩) la ca, .slice (some ⟨g, o, none⟩) lb cb]).run Try.prog w = .ok (.value (.bool false)) w := by
  rw [run_callFunc_extern Try.func30 (by kernel_rfl) (by kernel_rfl) (by kernel_rfl) (e := Extern.SlicesOverlaps.overlaps #[22, 22] #[4]) (by kernel_rfl),
    Lib.run_overlaps_apart w 22 4 24 Try.underlying22 3 (fun w => by kernel_rfl) ⟨b, 0, none⟩ ⟨g, o, none⟩ la ca lb cb hne tA tB kA kB hsa hsb hkB hfa hfe]
  rfl

set_option maxHeartbeats 8000000 in
set_option maxRecDepth 100000 in
theorem insertCr (w0 w : World) (A : Option Addr) (n c : Nat) (l : List Cr) (k : Nat) (x : Cr) (vb : Nat) (hn : n = l.length) (hk : k ≤ l.length) (hO : Own w w0.heap.size 24 Cr.cells 3 (.slice A n c) l) (hE : Below w0.heap.size w0 w) (hm : l.length ≤ 1048576)
    (hv : w.heap[vb]? = some (.cells (Cr.cells x).toArray 24 (0, 0))) (hne : ∀ g, (Value.slice A n c).ownBlock = some g → vb ≠ g) :
    Calls Try.prog 21 #[.slice A n c, .int .i64 k, .slice (some ⟨vb, 0, none⟩) 1 1] w fun e w' => ∃ A' c', e = .returned (.slice A' (l.length + 1) c') ∧ Own w' w0.heap.size 24 Cr.cells 3 (.slice A' (l.length + 1) c') (l.take k ++ x :: l.drop k) ∧ Below w0.heap.size w0 w' := by
  subst hn
  obtain ⟨hnc, hcm⟩ : l.length ≤ c ∧ c ≤ maxLen := by obtain ⟨_, _, h1, h2, h3, _⟩ := hO.cap; injection h1 with _ _ h1; subst h1; exact ⟨h2, h3⟩
  unfold maxLen at hcm
  have hvl : vb < w.heap.size := (Array.getElem?_eq_some_iff.1 hv).1
  have hxs : Slc w Cr.cells 3 (some ⟨vb, 0, none⟩) [x] := by
    intro i y hy
    obtain ⟨rfl, rfl⟩ : i = 0 ∧ y = x := by cases i <;> simp at hy; exact ⟨rfl, hy.symm⟩
    exact ⟨vb, 0, rfl, hvl, fun j u hj => row_cell (cur := Cr.cells y) hv (by simpa using hj)⟩
  have hsf : ∀ w : World, (Instr.sliceAt 22 (.slice A l.length c) (some (.int .i64 k)) none none).run Try.prog w = .ok (.slice (fromACr A c k) (l.length - k) (c - k)) w := fun w => slice_fromCr A _ c k _ rfl hk hnc w
  by_cases hkn : k = l.length
  · subst hkn
    obtain ⟨v', w', hrun, A', c', rfl, hO', hE', _, _, _⟩ := Own.append_to (w0 := w0) crI 22 hO hE (ys := [x]) (m := 1) rfl 1 hxs (by simp; omega) (by unfold maxLen; simp; omega)
    have HR := Lib.hid hrun
    have HO := Lib.hid hO'
    clear hrun hO' hO hxs
    go_enter Try.func21, Try.ntmps21
    go_wp2_with (first | (at_builtin; refine wpList_append_run rfl (.tmp 23) (.tmp 24) 22 rfl (.slice A l.length c) (.slice (some ⟨vb, 0, none⟩) 1 1) rfl rfl HR.out ?_) | fail)
    go_ret
    refine ⟨A', c', by simp, ?_, hE'⟩
    have := HO.out
    simp only [List.length_append, List.length_cons, List.length_nil] at this
    simpa using this
  have hlt : k < l.length := by omega
  obtain ⟨g0, c', cur0, hv0, -⟩ := hO.some_ (by omega)
  injection hv0 with hA _ hcc
  subst hA
  clear cur0 hcc c'
  obtain ⟨-, hbg, hgl, -, -, cur, hg, hcz, hct⟩ := hO.row
  have SL := Lib.hid (hO.slc crI.hl crI.hz)
  have hvg : vb ≠ g0 := hne g0 rfl
  have HXS := Lib.hid hxs
  have HEE := Lib.hid hE
  have HOO := Lib.hid hO
  have HG := Lib.hid hg
  have HV := Lib.hid hv
  have HCT := Lib.hid hct
  have HCZ := Lib.hid hcz
  have w1 : IntKind.i64.wrap ((l.length : Int) + 1) = (l.length : Int) + 1 := IntWalk.i64_in _ (by omega)
  have w2 : IntKind.i64.wrap ((k : Int) + 1) = (k : Int) + 1 := IntWalk.i64_in _ (by omega)
  have w3 : IntKind.i64.wrap ((l.length : Int) + 1 - (k : Int)) = (l.length : Int) + 1 - (k : Int) := IntWalk.i64_in _ (by omega)
  have hkn' : ¬ ((k : Int) = (l.length : Int)) := by omega
  have hsf0 : ∀ w : World, (Instr.sliceAt 22 (.slice (some ⟨g0, 0, none⟩) l.length c) (some (.int .i64 k)) none none).run Try.prog w = .ok (.slice (some ⟨g0, k * 3, none⟩) (l.length - k) (c - k)) w := fun w => by
    rw [hsf w]; unfold fromACr; rw [from0 g0 c k 3 (by omega)]
  clear hxs hE hO hg hv hct hcz hne hsf
  by_cases hroom : l.length + 1 ≤ c
  · have hr : ¬ ((c : Int) < (l.length : Int) + 1) := by omega
    have hsh : ∀ w : World, (Instr.sliceAt 22 (.slice (some ⟨g0, 0, none⟩) l.length c) none (some (.int .i64 ((l.length : Int) + 1))) none).run Try.prog w = .ok (.slice (some ⟨g0, 0, none⟩) (l.length + 1) c) w := fun w => slice_headCr _ _ c _ _ (by omega) hroom w
    have hs1 : ∀ w : World, (Instr.sliceAt 22 (.slice (some ⟨g0, 0, none⟩) (l.length + 1) c) (some (.int .i64 ((k : Int) + 1))) none none).run Try.prog w = .ok (.slice (some ⟨g0, (k + 1) * 3, none⟩) (l.length - k) (c - (k + 1))) w := fun w => by
      rw [slice_fromCr _ _ c (k + 1) _ (by omega) (by omega) hroom w]; unfold fromACr; rw [from0 g0 c (k + 1) 3 (by omega), show l.length + 1 - (k + 1) = l.length - k by omega]
    have hs2 : ∀ w : World, (Instr.sliceAt 22 (.slice (some ⟨g0, 0, none⟩) (l.length + 1) c) (some (.int .i64 k)) none none).run Try.prog w = .ok (.slice (some ⟨g0, k * 3, none⟩) (l.length + 1 - k) (c - k)) w := fun w => by
      rw [slice_fromCr _ _ c k _ rfl (by omega) hroom w]; unfold fromACr; rw [from0 g0 c k 3 (by omega)]
    have hcl : cur.length ≠ 0 := by rw [HCZ.out]; omega
    have hov : ∀ (lb cb : Nat), (callFunc 30 #[.slice (some ⟨vb, 0, none⟩) 1 1, .slice (some ⟨g0, (k + 1) * 3, none⟩) lb cb]).run Try.prog w = .ok (.value (.bool false)) w := fun lb cb =>
      overlapsCr w vb g0 _ 1 1 lb cb _ _ _ _ hvg (row_shape HV.out) (row_shape HG.out) hcl (row_frozen HV.out _) (row_frozen HV.out _)
    have hle := Nat.mul_le_mul_right 3 hroom
    obtain ⟨v1, W1, hr1, hg1, hb1⟩ := run_copyG crI w.drew 22 3 g0 ((k + 1) * 3) (l.length - k) (c - (k + 1)) ⟨g0, k * 3, none⟩ (l.length + 1 - k) (c - k) cur 24 (l.drop k) HG.out (by simp only [List.length_drop, Nat.min_def]; split <;> omega) (SL.out.drew_.tailCells crI.hl k) (by rw [HCZ.out]; simp only [List.length_drop]; omega)
    have hlen1 : (splice cur ((k + 1) * 3) ((l.drop k).flatMap Cr.cells)).length = cur.length := splice_len (by rw [flat_len crI.hl, HCZ.out]; simp only [List.length_drop]; omega)
    have hx1 : Slc W1 Cr.cells 3 (some ⟨vb, 0, none⟩) [x] := HXS.out.drew_.keep (hb1.block vb (by exact hvl) (by intro e; injection e with e; exact hvg e)) hb1.size
    obtain ⟨v2, W2, hr2, hg2, hb2⟩ := run_copyG crI W1 22 3 g0 (k * 3) (l.length + 1 - k) (c - k) ⟨vb, 0, none⟩ 1 1 _ 24 [x] hg1 (by simp only [List.length_cons, List.length_nil, Nat.min_def]; split <;> omega) (hx1.olds crI.hl _ rfl) (by rw [hlen1, HCZ.out]; simp only [List.length_cons, List.length_nil]; omega)
    have HR1 := Lib.hid hr1
    have HR2 := Lib.hid hr2
    have HG2 := Lib.hid hg2
    have HB1 := Lib.hid hb1
    have HB2 := Lib.hid hb2
    clear hr1 hr2 hg1 hg2 hb1 hb2 hx1 hle hlen1 hkn
    go_enter Try.func21, Try.ntmps21
    go_wp2_with (first | (simp only [hov]) | fail)
    refine rg_begin (S := (fun _ => True)) 9 (by kernel_rfl) (by intro d; cases d <;> intro _ _ _ _ h <;> exact h) ?_ (fun Q7 hQ7 hN7 hHeld => ?_)
    · trivial
    refine rg_pure (i := 0) (some 69) (v := ?_) rfl rfl (by kernel_rfl) (by rfl) hQ7 (by first | exact .inr hHeld | exact .inl (by kernel_rfl)) ?_ ?_
    rotate_left
    · intro w7; go_simp; all_goals with_reducible rfl
    try simp only [Act.put, List.setIfInBounds_toArray, List.set_cons_zero, List.set_cons_succ]
    refine rg_pure (i := 1) (some 70) (v := ?_) rfl rfl (by kernel_rfl) (by rfl) hQ7 (by first | exact .inr hHeld | exact .inl (by kernel_rfl)) ?_ ?_
    rotate_left
    · intro w7; go_simp; all_goals with_reducible rfl
    try simp only [Act.put, List.setIfInBounds_toArray, List.set_cons_zero, List.set_cons_succ]
    refine rg_pure (i := 2) (some 71) (v := ?_) rfl rfl (by kernel_rfl) (by rfl) hQ7 (by first | exact .inr hHeld | exact .inl (by kernel_rfl)) ?_ ?_
    rotate_left
    · intro w7; go_simp; all_goals with_reducible rfl
    try simp only [Act.put, List.setIfInBounds_toArray, List.set_cons_zero, List.set_cons_succ]
    refine rg_pure (i := 3) (some 72) (v := ?_) rfl rfl (by kernel_rfl) (by rfl) hQ7 (by first | exact .inr hHeld | exact .inl (by kernel_rfl)) ?_ ?_
    rotate_left
    · intro w7; go_simp; all_goals with_reducible rfl
    try simp only [Act.put, List.setIfInBounds_toArray, List.set_cons_zero, List.set_cons_succ]
    refine rg_pure (i := 4) (some 73) (v := .slice (some ⟨g0, (k + 1) * 3, none⟩) (l.length - k) (c - (k + 1))) rfl rfl (by kernel_rfl) (by rfl) hQ7 (by first | exact .inr hHeld | exact .inl (by kernel_rfl)) (fun w7 => run_v (hs1 w7)) ?_
    try simp only [Act.put, List.setIfInBounds_toArray, List.set_cons_zero, List.set_cons_succ]
    refine rg_pure (i := 5) (some 74) (v := ?_) rfl rfl (by kernel_rfl) (by rfl) hQ7 (by first | exact .inr hHeld | exact .inl (by kernel_rfl)) ?_ ?_
    rotate_left
    · intro w7; go_simp; all_goals with_reducible rfl
    try simp only [Act.put, List.setIfInBounds_toArray, List.set_cons_zero, List.set_cons_succ]
    refine rg_pure (i := 6) (some 75) (v := ?_) rfl rfl (by kernel_rfl) (by rfl) hQ7 (by first | exact .inr hHeld | exact .inl (by kernel_rfl)) ?_ ?_
    rotate_left
    · intro w7; go_simp; all_goals with_reducible rfl
    try simp only [Act.put, List.setIfInBounds_toArray, List.set_cons_zero, List.set_cons_succ]
    refine rg_pure (i := 7) (some 76) (v := .slice (some ⟨g0, k * 3, none⟩) (l.length + 1 - k) (c - k)) rfl rfl (by kernel_rfl) (by rfl) hQ7 (by first | exact .inr hHeld | exact .inl (by kernel_rfl)) (fun w7 => run_v (hs2 w7)) ?_
    try simp only [Act.put, List.setIfInBounds_toArray, List.set_cons_zero, List.set_cons_succ]
    refine rg_one (i := 8) (by kernel_rfl) (rg_step rfl (by rfl) (fun K hK => ?_))
    refine rg_copy (some 77) _ _ 22 3 rfl rfl rfl _ _ rfl rfl (runs_eq HR1.out) ?_
    rintro _ _ ⟨rfl, rfl⟩
    refine hK.out _ _ ?_ (fun hHeld2 => ?_)
    · trivial
    clear hHeld
    have hHeld := hHeld2
    clear hHeld2
    clear hK K
    try simp only [Act.put, List.setIfInBounds_toArray, List.set_cons_zero, List.set_cons_succ]
    refine rg_end (by kernel_rfl) (hN7 _ _ ?_) _
    clear hQ7 hN7 Q7
    have hB1 := HB1.out
    go_wp2_with (first | (refine wpList_copy_of (o := ⟨some 82, _, _, _, _, _⟩) rfl (.tmp 80) (.tmp 81) 22 rfl (.slice (some ⟨g0, k * 3, none⟩) (l.length + 1 - k) (c - k)) (.slice (some ⟨vb, 0, none⟩) 1 1) rfl rfl (R := fun v w => v = v2 ∧ w = W2) ⟨v2, W2, HR2.out, rfl, rfl⟩ ?_; rintro _ _ ⟨rfl, rfl⟩) | fail)
    go_ret
    have hE1 := ext_grown (ext_grown (ext_drew HEE.out) HB1.out (fun r e => by injection e with e; omega)) HB2.out (fun r e => by injection e with e; omega)
    exact ⟨_, _, rfl, own_shift crI.hl hbg hk hroom (by unfold maxLen; omega) HCZ.out HCT.out HG2.out, hE1⟩
  · have hr : (c : Int) < (l.length : Int) + 1 := by omega
    have hkk : (l.length : Int) + 1 - (k : Int) = ((l.length + 1 - k : Nat) : Int) := by omega
    have hsh : ∀ w : World, (Instr.sliceAt 22 (.slice (some ⟨g0, 0, none⟩) l.length c) none (some (.int .i64 k)) none).run Try.prog w = .ok (.slice (some ⟨g0, 0, none⟩) k c) w := fun w => slice_headCr _ _ c k _ rfl (by omega) w
    obtain ⟨vz, W0, GC, cur1, hr0, hvz, hG1, hG2, hgz, hcz1, hct1, hb0⟩ := HOO.out.zeros crI (tn := 3) Try.underlying3 22 k (l.length + 1 - k) hk (by omega) (by omega) (by unfold maxLen; omega) (by omega)
    rw [show k + (l.length + 1 - k) = l.length + 1 by omega] at hvz hG1
    subst hvz
    rw [← hkk] at hr0
    unfold maxLen at hG2
    have hsz : w.heap.size < W0.heap.size := (Array.getElem?_eq_some_iff.1 hgz).1
    obtain ⟨g1, hg1e⟩ : ∃ g1, w.heap.size = g1 := ⟨_, rfl⟩
    have HSZ := Lib.hid hg1e
    rw [hg1e] at hr0 hgz hsz
    have hle := Nat.mul_le_mul_right 3 hG1
    have hs1 : ∀ w : World, (Instr.sliceAt 22 (.slice (some ⟨g1, 0, none⟩) (l.length + 1) GC) (some (.int .i64 k)) none none).run Try.prog w = .ok (.slice (some ⟨g1, k * 3, none⟩) (l.length + 1 - k) (GC - k)) w := fun w => by
      rw [slice_fromCr _ _ GC k _ rfl (by omega) hG1 w]; unfold fromACr; rw [from0 g1 GC k 3 (by omega)]
    have hs2 : ∀ w : World, (Instr.sliceAt 22 (.slice (some ⟨g1, 0, none⟩) (l.length + 1) GC) (some (.int .i64 ((k : Int) + 1))) none none).run Try.prog w = .ok (.slice (some ⟨g1, (k + 1) * 3, none⟩) (l.length - k) (GC - (k + 1))) w := fun w => by
      rw [slice_fromCr _ _ GC (k + 1) _ (by omega) (by omega) hG1 w]; unfold fromACr; rw [from0 g1 GC (k + 1) 3 (by omega), show l.length + 1 - (k + 1) = l.length - k by omega]
    have hx1 : Slc W0 Cr.cells 3 (some ⟨vb, 0, none⟩) [x] := HXS.out.ext hb0
    obtain ⟨v1, W1, hr1, hg1, hb1⟩ := run_copyG crI W0 22 3 g1 (k * 3) (l.length + 1 - k) (GC - k) ⟨vb, 0, none⟩ 1 1 cur1 24 [x] hgz (by simp only [List.length_cons, List.length_nil, Nat.min_def]; split <;> omega) (hx1.olds crI.hl _ rfl) (by rw [hcz1]; simp only [List.length_cons, List.length_nil]; omega)
    have hlen1 : (splice cur1 (k * 3) (([x] : List Cr).flatMap Cr.cells)).length = cur1.length := splice_len (by rw [flat_len crI.hl, hcz1]; simp only [List.length_cons, List.length_nil]; omega)
    have hgne : g0 ≠ g1 := by omega
    have hS1 : Slc W1.drew Cr.cells 3 (some ⟨g0, 0, none⟩) l := ((SL.out.ext hb0).keep (hb1.block g0 (by omega) (by intro e; injection e with e; exact hgne e)) hb1.size).drew_
    obtain ⟨v2, W2, hr2, hg2, hb2⟩ := run_copyG crI W1.drew 22 3 g1 ((k + 1) * 3) (l.length - k) (GC - (k + 1)) ⟨g0, k * 3, none⟩ (l.length - k) (c - k) _ 24 (l.drop k) hg1 (by simp only [List.length_drop, Nat.min_def]; split <;> omega) (hS1.tailCells crI.hl k) (by rw [hlen1, hcz1]; simp only [List.length_drop]; omega)
    have HR0 := Lib.hid hr0
    have HR1 := Lib.hid hr1
    have HR2 := Lib.hid hr2
    have HG2 := Lib.hid hg2
    have HB0 := Lib.hid hb0
    have HB1 := Lib.hid hb1
    have HB2 := Lib.hid hb2
    have HC1 := Lib.hid (show _ ∧ _ from ⟨hcz1, hct1⟩)
    have HBG := Lib.hid (show w0.heap.size ≤ g1 by have := HEE.out.size; have := HSZ.out; omega)
    clear hr0 hr1 hr2 hg1 hg2 hb0 hb1 hb2 hx1 hle hlen1 hkn hkk hgz hcz1 hct1 hS1 hg1e
    go_enter Try.func21, Try.ntmps21
    go_wp2_with (first | (at_builtin; refine Lib.wpList_append_run _ rfl (.tmp 34) (.tmp 39) 22 3 rfl (.slice (some ⟨g0, 0, none⟩) k c) (.int .i64 ((l.length : Int) + 1 - (k : Int))) rfl rfl _ _ HR0.out ?_) | (refine wpList_copy_of (o := ⟨some 45, _, _, _, _, _⟩) rfl (.tmp 43) (.tmp 44) 22 rfl (.slice (some ⟨g1, k * 3, none⟩) (l.length + 1 - k) (GC - k)) (.slice (some ⟨vb, 0, none⟩) 1 1) rfl rfl (R := fun v w => v = v1 ∧ w = W1) ⟨v1, W1, HR1.out, rfl, rfl⟩ ?_; rintro _ _ ⟨rfl, rfl⟩) | fail)
    refine rg_begin (S := (fun _ => True)) 9 (by kernel_rfl) (by intro d; cases d <;> intro _ _ _ _ h <;> exact h) ?_ (fun Q7 hQ7 hN7 hHeld => ?_)
    · trivial
    refine rg_pure (i := 0) (some 46) (v := ?_) rfl rfl (by kernel_rfl) (by rfl) hQ7 (by first | exact .inr hHeld | exact .inl (by kernel_rfl)) ?_ ?_
    rotate_left
    · intro w7; go_simp; all_goals with_reducible rfl
    try simp only [Act.put, List.setIfInBounds_toArray, List.set_cons_zero, List.set_cons_succ]
    refine rg_pure (i := 1) (some 47) (v := ?_) rfl rfl (by kernel_rfl) (by rfl) hQ7 (by first | exact .inr hHeld | exact .inl (by kernel_rfl)) ?_ ?_
    rotate_left
    · intro w7; go_simp; all_goals with_reducible rfl
    try simp only [Act.put, List.setIfInBounds_toArray, List.set_cons_zero, List.set_cons_succ]
    refine rg_pure (i := 2) (some 48) (v := ?_) rfl rfl (by kernel_rfl) (by rfl) hQ7 (by first | exact .inr hHeld | exact .inl (by kernel_rfl)) ?_ ?_
    rotate_left
    · intro w7; go_simp; all_goals with_reducible rfl
    try simp only [Act.put, List.setIfInBounds_toArray, List.set_cons_zero, List.set_cons_succ]
    refine rg_pure (i := 3) (some 49) (v := ?_) rfl rfl (by kernel_rfl) (by rfl) hQ7 (by first | exact .inr hHeld | exact .inl (by kernel_rfl)) ?_ ?_
    rotate_left
    · intro w7; go_simp; all_goals with_reducible rfl
    try simp only [Act.put, List.setIfInBounds_toArray, List.set_cons_zero, List.set_cons_succ]
    refine rg_pure (i := 4) (some 50) (v := .slice (some ⟨g1, (k + 1) * 3, none⟩) (l.length - k) (GC - (k + 1))) rfl rfl (by kernel_rfl) (by rfl) hQ7 (by first | exact .inr hHeld | exact .inl (by kernel_rfl)) (fun w7 => run_v (hs2 w7)) ?_
    try simp only [Act.put, List.setIfInBounds_toArray, List.set_cons_zero, List.set_cons_succ]
    refine rg_pure (i := 5) (some 51) (v := ?_) rfl rfl (by kernel_rfl) (by rfl) hQ7 (by first | exact .inr hHeld | exact .inl (by kernel_rfl)) ?_ ?_
    rotate_left
    · intro w7; go_simp; all_goals with_reducible rfl
    try simp only [Act.put, List.setIfInBounds_toArray, List.set_cons_zero, List.set_cons_succ]
    refine rg_pure (i := 6) (some 52) (v := ?_) rfl rfl (by kernel_rfl) (by rfl) hQ7 (by first | exact .inr hHeld | exact .inl (by kernel_rfl)) ?_ ?_
    rotate_left
    · intro w7; go_simp; all_goals with_reducible rfl
    try simp only [Act.put, List.setIfInBounds_toArray, List.set_cons_zero, List.set_cons_succ]
    refine rg_pure (i := 7) (some 53) (v := .slice (some ⟨g0, k * 3, none⟩) (l.length - k) (c - k)) rfl rfl (by kernel_rfl) (by rfl) hQ7 (by first | exact .inr hHeld | exact .inl (by kernel_rfl)) (fun w7 => run_v (hsf0 w7)) ?_
    try simp only [Act.put, List.setIfInBounds_toArray, List.set_cons_zero, List.set_cons_succ]
    refine rg_one (i := 8) (by kernel_rfl) (rg_step rfl (by rfl) (fun K hK => ?_))
    refine rg_copy (some 54) _ _ 22 3 rfl rfl rfl _ _ rfl rfl (runs_eq HR2.out) ?_
    rintro _ _ ⟨rfl, rfl⟩
    refine hK.out _ _ ?_ (fun hHeld2 => ?_)
    · trivial
    clear hHeld
    have hHeld := hHeld2
    clear hHeld2
    clear hK K
    try simp only [Act.put, List.setIfInBounds_toArray, List.set_cons_zero, List.set_cons_succ]
    refine rg_end (by kernel_rfl) (hN7 _ _ ?_) _
    clear hQ7 hN7 Q7
    go_wp2_with fail
    go_ret
    have hE1 := ext_grown (ext_drew (ext_grown (ext_trans HEE.out HB0.out) HB1.out (fun r e => by injection e with e; have := HBG.out; omega))) HB2.out (fun r e => by injection e with e; have := HBG.out; omega)
    exact ⟨_, _, rfl, own_fill crI.hl HBG.out hk hG1 (by unfold maxLen; omega) HC1.out.1 HC1.out.2 HG2.out, hE1⟩
end Go.Proofs.Ytafglcalimcdcaa
