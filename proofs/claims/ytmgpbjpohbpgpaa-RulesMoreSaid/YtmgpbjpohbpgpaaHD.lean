/- The longest spans of a set of minutes, one after the other. -/
import Derived.Test.YtmgpbjpohbpgpaaHC
import Derived.Test.YtmgpbjpohbpgpaaRf
import Derived.BigFrameIn
import Derived.BigRegionIn
set_option linter.unusedSimpArgs false
set_option linter.unusedVariables false
namespace Go.Proofs.Ytmgpbjpohbpgpaa
open Go.RowKit Go.Shelf
attribute [local go_sem] Oper.semAt_some
theorem stp_len (l : List Sp) (m : Nat) : (stp l m).length ≤ l.length + 1 := by
  rcases nil_or_snoc l with rfl | ⟨r, s, rfl⟩
  · simp [stp]
  · rw [stp_snoc]; split <;> simp
theorem runs_len (f : Nat → Bool) : ∀ m, (runs f m).length ≤ m
  | 0 => by simp [runs]
  | m + 1 => by
    have ih := runs_len f m
    unfold runs
    split
    · exact Nat.le_trans (stp_len _ _) (by omega)
    · omega
theorem endOf_snoc (lo : Int) (l : List Sp) (s : Sp) : endOf lo (l ++ [s]) = s.t + 1 := by simp [endOf]
theorem runs_span (f : Nat → Bool) (a : Nat) (ha : endOf 0 (runs f a) ≤ a) : ∀ d : Nat, (∀ k, a ≤ k → k ≤ a + d → f k = true) → runs f (a + d + 1) = runs f a ++ [⟨a, ((a + d : Nat) : Int) + 1⟩]
  | 0, h => by
    rw [Nat.add_zero, runs_yes (h a (Nat.le_refl _) (Nat.le_refl _))]
    rcases nil_or_snoc (runs f a) with e | ⟨r, s, e⟩
    · rw [e]; rfl
    · rw [e] at ha ⊢
      rw [endOf_snoc] at ha
      rw [stp_snoc, if_neg (by omega), Nat.add_zero]
  | d + 1, h => by
    have ih := runs_span f a ha d (fun k h1 h2 => h k h1 (by omega))
    rw [show a + (d + 1) + 1 = (a + d + 1) + 1 by omega, runs_yes (h _ (by omega) (by omega)), ih, stp_snoc, if_pos (by simp)]
    rfl
theorem runs_to {f : Nat → Bool} {a t : Nat} (ha : endOf 0 (runs f a) ≤ a) (hat : a < t) (h : ∀ k, a ≤ k → k < t → f k = true) : runs f t = runs f a ++ [⟨a, t⟩] := by
  obtain ⟨d, rfl⟩ : ∃ d, t = a + d + 1 := ⟨t - a - 1, by omega⟩
  rw [runs_span f a ha d (fun k h1 h2 => h k h1 (by omega))]
  simp
/-- The set that the iterator reads: its captured box, the row of minutes. -/
structure DCap (W : World) (B : Nat) (ex : Nat → Prop) (bd b : Nat) (f : Nat → Bool) : Prop where
  dB : bd < B
  bB : b < B
  dx : ¬ ex bd
  bx : ¬ ex b
  d : W.cell? ⟨bd, 0, none⟩ = some (.pointer (some ⟨b, 0, none⟩))
  c : ∀ k < 1440, W.cell? ⟨b, k, none⟩ = some (.bool (f k))
theorem Kx.cell {B : Nat} {ex : Nat → Prop} {W W' : World} (h : Kx B ex W W') {b o : Nat} (hb : b < B) (hx : ¬ ex b) : W'.cell? ⟨b, o, none⟩ = W.cell? ⟨b, o, none⟩ := World.cell?_of_block (w := W) (a := ⟨b, o, none⟩) (h b hb hx)
theorem DCap.keep {W W' : World} {B : Nat} {ex : Nat → Prop} {bd b : Nat} {f : Nat → Bool} (h : DCap W B ex bd b f) (hk : Kx B ex W W') : DCap W' B ex bd b f :=
  ⟨h.dB, h.bB, h.dx, h.bx, (hk.cell h.dB h.dx).trans h.d, fun k hk' => (hk.cell h.bB h.bx).trans (h.c k hk')⟩
theorem one_true {f : Nat → Bool} {q : Nat} (h : f q = true) : ∀ k, q ≤ k → k < q + 1 → f k = true := fun k h1 h2 => by
  obtain rfl : k = q := by omega
  exact h
def encS (s : Sp) : Array Value := #[s.v]
set_option maxRecDepth 100000 in
set_option maxHeartbeats 400000 in
theorem spans1_in (n : Nat) (hn : 1 ≤ n) (l : Nat) (B : Nat) (ex : Nat → Prop) (bd b : Nat) (f : Nat → Bool)
    (J Jx : List Sp → World → Prop) (W : World) (hBW : B ≤ W.heap.size) (hJ : AbidesFrom W.heap.size J)
    (hY : ∀ pre x W1, J pre W1 → pre.length < 1440 → YieldAt Fence.wide (n - 1) Try.prog l (encS x) W1 fun e W' =>
      (e = .returned (.bool true) ∧ J (pre ++ [x]) W' ∧ (Kx B ex W1 W' ∧ W1.heap.size ≤ W'.heap.size)) ∨ (e = .returned (.bool false) ∧ Jx (pre ++ [x]) W'))
    (hC : DCap W B ex bd b f) (hJ0 : J [] W) :
    CallsIn Fence.wide n Try.prog 71 #[.func (.yield l) #[] #[], .pointer (some ⟨bd, 0, none⟩)] W fun e W' => (∃ v, e = .returned v) ∧
      ((∃ ys, ys = nrm f ∧ J ys W') ∨ (∃ pre, True ∧ Jx pre W')) := by
  have HY := Lib.hid hY
  have HJ := Lib.hid hJ
  have HC := Lib.hid hC
  clear hY hJ hC
  refine callsIn_of_wp Try.func71 rfl trivial ?_ rfl
  simp only [Try.ntmps71, List.size_toArray, List.length_cons, List.length_nil, Nat.reduceAdd, Nat.reduceSub, Array.replicate_succ, Array.replicate_zero, List.push_toArray, List.append_toArray, List.nil_append, List.cons_append]
  gi_wp2
  gi_loopw [3] (fun i wr => ∃ q : Nat, q ≤ 1441 ∧ i = .int .i64 q ∧ J (runs f (min q 1440)) wr ∧ Hid (endOf 0 (runs f (min q 1440)) ≤ q) ∧ Hid (Kx B ex W wr) ∧ W.heap.size ≤ wr.heap.size) (fun i _ => 1441 - (intOf i).toNat)
  case atStart => exact ⟨0, by omega, rfl, by simpa [runs] using hJ0, by simp [runs, endOf, Hid], Kx.refl _, Nat.le_refl _⟩
  case round =>
    obtain ⟨q, hq, rfl, hJs, HE, HK, hsz⟩ := hrel
    by_cases hlt : q < 1440
    · have hc := HC.out.keep HK.out
      have cd := hc.d
      have cq := hc.c q hlt
      have hmin : min q 1440 = q := by omega
      rw [hmin] at hJs HE
      obtain ⟨wo, rfl⟩ : ∃ wo, wo = wr := ⟨_, rfl⟩
      cases hfq : f q
      · rw [hfq] at cq
        gi_wp2_with fail
        go_roundw
        case rel =>
          have e : min (q + 1) 1440 = q + 1 := by omega
          refine ⟨q + 1, by omega, by go_num, ?_, ?_, HK, hsz⟩
          · rw [e, runs_no hfq]; exact hJs
          · rw [e, runs_no hfq]; have := HE.out; unfold Hid; omega
        case measure => simp [intOf]; omega
      · rw [hfq] at cq
        have HQ : Hid (f q = true) := hfq
        clear hfq
        gi_wp2_with fail
        gi_loopw [4] (fun i wr => ∃ t : Nat, q < t ∧ t ≤ 1440 ∧ i = .int .i64 t ∧ wr = wo ∧ Hid (∀ k, q ≤ k → k < t → f k = true)) (fun i _ => 1440 - (intOf i).toNat)
        case atStart => exact ⟨q + 1, by omega, by omega, by go_num, rfl, one_true HQ.out⟩
        case round =>
          obtain ⟨t, hqt, ht, rfl, rfl, HT⟩ := hrel
          by_cases htl : t < 1440 ∧ f t = true
          · obtain ⟨h1, h2⟩ := htl
            have ct := hc.c t h1
            rw [h2] at ct
            have HF : Hid (f t = true) := h2
            clear h2
            have ht' : (t : Int) < 1440 := by omega
            gi_wp2_with fail
            go_roundw
            case rel => exact ⟨t + 1, by omega, by omega, by go_num, trivial, fun k h1 h2 => by
              by_cases e : k = t
              · rw [e]; exact HF.out
              · exact HT.out k h1 (by omega)⟩
            case measure => simp [intOf]; omega
          · have HR : Hid (runs f t = runs f q ++ [⟨q, t⟩]) := runs_to HE.out hqt HT.out
            have HR2 : Hid (runs f (min (t + 1) 1440) = runs f q ++ [⟨q, t⟩]) := by
              unfold Hid
              by_cases h1 : t < 1440
              · have h2 : f t = false := by simpa [h1] using htl
                rw [show min (t + 1) 1440 = t + 1 by omega, runs_no h2]; exact HR.out
              · rw [show min (t + 1) 1440 = t by omega]; exact HR.out
            have hexit : t < 1440 → f t = false := fun h1 => by simpa [h1] using htl
            clear htl
            obtain ⟨fn, tmps, assign, body, hy, hR⟩ := HY.out (runs f q) ⟨q, t⟩ wr hJs (by have := runs_len f q; omega)
            simp only [encS] at hy
            by_cases h1 : t < 1440
            · have ct := hc.c t h1
              rw [hexit h1] at ct
              have ht' : (t : Int) < 1440 := by omega
              gi_wp2_with fail
              refine hR.mono ?_
              rintro e W3 (⟨rfl, hJ3, hk3, hs3⟩ | ⟨rfl, hJx3⟩)
              · clear hy hR
                gi_wp2_with fail
                go_roundw
                case rel => exact ⟨t + 1, by omega, by go_num, by rw [HR2.out]; exact hJ3, by rw [HR2.out, endOf_snoc]; simp [Hid], HK.out.t hk3, by omega⟩
                case measure => simp [intOf]; omega
              · clear hy hR
                gi_wp2_with fail
                refine bodyPost_ret (results_none rfl _ _ _) rfl ?_
                exact ⟨⟨_, rfl⟩, .inr ⟨_, trivial, hJx3⟩⟩
            · have ht' : ¬ (t : Int) < 1440 := by omega
              gi_wp2_with fail
              refine hR.mono ?_
              rintro e W3 (⟨rfl, hJ3, hk3, hs3⟩ | ⟨rfl, hJx3⟩)
              · clear hy hR
                gi_wp2_with fail
                go_roundw
                case rel => exact ⟨t + 1, by omega, by go_num, by rw [HR2.out]; exact hJ3, by rw [HR2.out, endOf_snoc]; simp [Hid], HK.out.t hk3, by omega⟩
                case measure => simp [intOf]; omega
              · clear hy hR
                gi_wp2_with fail
                refine bodyPost_ret (results_none rfl _ _ _) rfl ?_
                exact ⟨⟨_, rfl⟩, .inr ⟨_, trivial, hJx3⟩⟩
    · gi_wp2
      go_end0
      rw [show min q 1440 = 1440 by omega] at hJs
      exact ⟨⟨_, rfl⟩, .inl ⟨_, rfl, hJs⟩⟩
end Go.Proofs.Ytmgpbjpohbpgpaa
