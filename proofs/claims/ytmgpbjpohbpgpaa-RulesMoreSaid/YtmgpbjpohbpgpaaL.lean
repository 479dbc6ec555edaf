/- Contracts: the iterator over the pairs of indices. -/
import Derived.Test.YtmgpbjpohbpgpaaK
import Derived.Test.YtmgpbjpohbpgpaaHE
set_option linter.unusedSimpArgs false
set_option linter.unusedVariables false
namespace Go.Proofs.Ytmgpbjpohbpgpaa
open Go.RowKit Go.Shelf
attribute [local go_sem] Oper.semAt_some
def rowP (n i : Nat) : List (Nat × Nat) := (List.range (n - (i + 1))).map (fun d => (i, i + 1 + d))
/-- The pairs ahead of (i, i + 1 + d). -/
def prs (n i d : Nat) : List (Nat × Nat) := (List.range i).flatMap (rowP n) ++ (rowP n i).take d
theorem pairsL_eq (n : Nat) : pairsL n = prs n n 0 := by simp [prs, pairsL, rowP]; rfl
theorem prs_zero (n : Nat) : prs n 0 0 = [] := by simp [prs]
theorem rowP_len (n i : Nat) : (rowP n i).length = n - (i + 1) := by simp [rowP]
theorem prs_next (n i d : Nat) (h : i + 1 + d < n) : prs n i (d + 1) = prs n i d ++ [(i, i + 1 + d)] := by
  unfold prs
  have hd : d < (rowP n i).length := by rw [rowP_len]; omega
  rw [List.append_assoc, ← List.take_append_getElem hd]
  congr 2
  simp [rowP]
theorem prs_row (n i d : Nat) (h : n ≤ i + 1 + d) : prs n (i + 1) 0 = prs n i d := by
  unfold prs
  rw [List.range_succ, List.flatMap_append, show (rowP n i).take d = rowP n i from List.take_of_length_le (by rw [rowP_len]; omega)]
  simp
theorem prs_pre (n i d : Nat) (h : i < n) : prs n i d <+: pairsL n := by
  have h1 : pairsL n = (List.range i).flatMap (rowP n) ++ (rowP n i ++ ((List.range' (i + 1) (n - (i + 1))).flatMap (rowP n))) := by
    have h2 : List.range n = List.range i ++ i :: List.range' (i + 1) (n - (i + 1)) := by
      have h3 : List.range' i (n - i) = i :: List.range' (i + 1) (n - (i + 1)) := by
        rw [show n - i = (n - (i + 1)) + 1 by omega, List.range'_succ]
      have h4 := List.range'_append_1 (s := 0) (m := i) (n := n - i)
      rw [Nat.zero_add, show i + (n - i) = n by omega] at h4
      rw [← h3, List.range_eq_range', List.range_eq_range', ← h4]
    show (List.range n).flatMap (rowP n) = _
    rw [h2, List.flatMap_append, List.flatMap_cons]
  rw [h1]
  unfold prs
  refine (List.prefix_append_right_inj _).2 ?_
  exact (List.take_prefix d _).trans (List.prefix_append _ _)
def encP (p : Nat × Nat) : Array Value := #[.int .i64 (p.1 : Int), .int .i64 (p.2 : Int)]
/-- What the iterator reads: its captured box. -/
structure PCap (W : World) (B : Nat) (ex : Nat → Prop) (bn N : Nat) : Prop where
  nB : bn < B
  nx : ¬ ex bn
  n : W.cell? ⟨bn, 0, none⟩ = some (.int .i64 (N : Int))
theorem PCap.keep {W W' : World} {B : Nat} {ex : Nat → Prop} {bn N : Nat} (h : PCap W B ex bn N) (hk : Kx B ex W W') : PCap W' B ex bn N :=
  ⟨h.nB, h.nx, (World.cell?_of_block (w := W) (a := ⟨bn, 0, none⟩) (hk bn h.nB h.nx)).trans h.n⟩
set_option maxRecDepth 100000 in
set_option maxHeartbeats 1600000 in
theorem pairs1_in (n : Nat) (hn : 1 ≤ n) (l : Nat) (B : Nat) (ex : Nat → Prop) (bn N : Nat) (hN : N ≤ 1000)
    (J Jx : List (Nat × Nat) → World → Prop) (W : World) (hBW : B ≤ W.heap.size)
    (hY : ∀ pre x W1, x.1 < x.2 → x.2 < N → J pre W1 → pre.length < (pairsL N).length → YieldAt Fence.wide (n - 1) Try.prog l (encP x) W1 fun e W' =>
      (e = .returned (.bool true) ∧ J (pre ++ [x]) W' ∧ (Kx B ex W1 W' ∧ W1.heap.size ≤ W'.heap.size)) ∨ (e = .returned (.bool false) ∧ Jx (pre ++ [x]) W'))
    (hC : PCap W B ex bn N) (hJ0 : J [] W) :
    CallsIn Fence.wide n Try.prog 42 #[.func (.yield l) #[] #[], .pointer (some ⟨bn, 0, none⟩)] W fun e W' => (∃ v, e = .returned v) ∧
      ((∃ ys, ys = pairsL N ∧ J ys W') ∨ (∃ pre, pre <+: pairsL N ∧ Jx pre W')) := by
  have HY := Lib.hid hY
  have HC := Lib.hid hC
  have cn := hC.n
  clear hY hC
  refine callsIn_of_wp Try.func42 rfl trivial ?_ rfl
  simp only [Try.ntmps42, List.size_toArray, List.length_cons, List.length_nil, Nat.reduceAdd, Nat.reduceSub, Array.replicate_succ, Array.replicate_zero, List.push_toArray, List.append_toArray, List.nil_append, List.cons_append]
  gi_wp2
  gi_loopw [6] (fun i wr => ∃ q : Nat, q ≤ N ∧ i = .int .i64 q ∧ J (prs N q 0) wr ∧ Hid (Kx B ex W wr) ∧ W.heap.size ≤ wr.heap.size) (fun i _ => N - (intOf i).toNat)
  case atStart => exact ⟨0, Nat.zero_le _, rfl, by rw [prs_zero]; exact hJ0, Kx.refl _, Nat.le_refl _⟩
  case round =>
    obtain ⟨q, hq, rfl, hJs, HK, hsz⟩ := hrel
    obtain ⟨wo, rfl⟩ : ∃ wo, wo = wr := ⟨_, rfl⟩
    by_cases hlt : q < N
    · have hlt' : (q : Int) < N := by omega
      gi_wp2_with fail
      gi_loopw [4] (fun i wr => ∃ d : Nat, q + 1 + d ≤ N ∧ i = .int .i64 ((q + 1 + d : Nat) : Int) ∧ J (prs N q d) wr ∧ Hid (Kx B ex W wr) ∧ W.heap.size ≤ wr.heap.size) (fun i _ => N - (intOf i).toNat)
      case atStart => exact ⟨0, by omega, by go_num, hJs, HK.out, hsz⟩
      case round =>
        obtain ⟨d, hd, rfl, hJs, HK, hsz⟩ := hrel
        have hc := HC.out.keep HK.out
        have kn := hc.n
        have sn : bn < wr.heap.size := by have := hc.nB; omega
        clear hc cn
        by_cases h2 : q + 1 + d < N
        · have h2' : ((q + 1 + d : Nat) : Int) < N := by omega
          have HNx := Lib.hid (prs_next N q d h2)
          have hpl : (prs N q d).length < (pairsL N).length := by
            have := (prs_pre N q (d + 1) hlt).length_le
            rw [HNx.out] at this
            simp at this; omega
          obtain ⟨fn, tmps, assign, body, hy, hR⟩ := HY.out (prs N q d) (q, q + 1 + d) _ (show q < q + 1 + d by omega) h2 hJs hpl
          simp only [encP] at hy
          clear hpl
          obtain ⟨kk, hkk⟩ : ∃ kk : Int, ((q + 1 + d : Nat) : Int) = kk := ⟨_, rfl⟩
          have HKK := Lib.hid hkk
          rw [hkk] at hy h2' ⊢
          clear hkk
          gi_wp2_with fail
          refine hR.mono ?_
          rintro e W3 (⟨rfl, hJ3, hk3, hs3⟩ | ⟨rfl, hJx3⟩)
          · clear hy hR
            have hkk := HKK.out
            gi_wp2_with fail
            go_roundw
            case rel => exact ⟨d + 1, h2, by go_num, by rw [HNx.out]; exact hJ3, HK.out.t hk3, by omega⟩
            case measure => simp [intOf]; omega
          · clear hy hR
            gi_wp2_with fail
            refine bodyPost_ret (results_none rfl _ _ _) rfl ?_
            refine ⟨⟨_, rfl⟩, .inr ⟨prs N q (d + 1), prs_pre N q (d + 1) hlt, by rw [HNx.out]; exact hJx3⟩⟩
        · have h2' : ¬ ((q + 1 + d : Nat) : Int) < N := by omega
          have HRw := Lib.hid (prs_row N q d (by omega))
          gi_wp2_with fail
          go_roundw
          case rel => exact ⟨q + 1, hlt, by go_num, by rw [HRw.out]; exact hJs, HK.out, hsz⟩
          case measure => simp [intOf]; omega
    · have hge : ¬ (q : Int) < N := by omega
      gi_wp2
      go_end0
      exact ⟨⟨_, rfl⟩, .inl (by rw [pairsL_eq]; rw [show q = N by omega] at hJs; exact hJs)⟩
/-- 'pairs' boxes what it was handed, and hands back a function over the box. -/
theorem pairs_any (N : Int) (w : World) : Calls Try.prog 27 #[.int .i64 N] w fun e w' => e = .returned (.func (.func 42) #[] #[.pointer (some ⟨w.heap.size, 0, none⟩)]) ∧ w.alloc (.cells #[.int .i64 N] 3) = w' := by
  go_enter Try.func27, Try.ntmps27
  go_wp2
  go_ret
  exact ⟨rfl, rfl⟩
/-- A pair of indices below N, the lesser one first. -/
def PX (N : Nat) := { p : Nat × Nat // p.1 < p.2 ∧ p.2 < N }
def encX {N : Nat} (p : PX N) : Array Value := encP p.1
/-- The pairs as they are. -/
def rawX {N : Nat} (l : List (PX N)) : List (Nat × Nat) := l.map (fun p => p.1)
theorem rawX_nil {N : Nat} : rawX ([] : List (PX N)) = [] := rfl
theorem rawX_snoc {N : Nat} (l : List (PX N)) (x : PX N) : rawX (l ++ [x]) = rawX l ++ [x.1] := by simp [rawX]
theorem pairs_stops (n : Nat) (hn : 1 ≤ n) (B : Nat) (ex : Nat → Prop) (bn N : Nat) (hN : N ≤ 1000) (w : World) (hB : B ≤ w.heap.size) (hC : PCap w B ex bn N) :
    SeqStopsK Fence.wide n Try.prog 42 #[.pointer (some ⟨bn, 0, none⟩)] (encX (N := N)) (KpE B ex) (fun ys => rawX ys = pairsL N) (fun pre => rawX pre <+: pairsL N) (pairsL N).length w :=
  fun l J Jx W hW _ _ hY hJ0 => by
    refine (pairs1_in n hn l B ex bn N hN (fun p X => ∃ q, rawX q = p ∧ J q X) (fun p X => ∃ q, rawX q = p ∧ Jx q X) W (Nat.le_trans hB hW.size) ?_ (hC.keep (Kx.below hW hB)) ⟨[], rfl, hJ0⟩).mono ?_
    · rintro pre x W1 h1 h2 ⟨q, rfl, hq⟩ hl
      have hl2 : q.length < (pairsL N).length := by simpa [rawX] using hl
      obtain ⟨fn, tmps, assign, body, hy, hR⟩ := hY q ⟨x, h1, h2⟩ W1 hq hl2
      refine ⟨fn, tmps, assign, body, hy, hR.mono ?_⟩
      rintro e W' (⟨a, b, c⟩ | ⟨a, b⟩)
      · exact .inl ⟨a, ⟨_, rawX_snoc _ _, b⟩, c⟩
      · exact .inr ⟨a, ⟨_, rawX_snoc _ _, b⟩⟩
    · rintro e W' ⟨h1, ⟨ys, h2, q, h3, h4⟩ | ⟨pre, h2, q, h3, h4⟩⟩
      · exact ⟨h1, .inl ⟨q, h3.trans h2, h4⟩⟩
      · exact ⟨h1, .inr ⟨q, by show rawX q <+: _; rw [h3]; exact h2, h4⟩⟩
end Go.Proofs.Ytmgpbjpohbpgpaa
