/- hours.Normal. -/
import Derived.Test.YtjiojpoiocdnmaaGreatNJ
import Derived.Test.YtjiojpoiocdnmaaGreatU4
import Derived.BigFrameIn
import Derived.BigRegionIn
set_option linter.unusedSimpArgs false
set_option linter.unusedVariables false
namespace Go.Proofs.YtjiojpoiocdnmaaGreat
open Go.RowKit Go.Shelf
attribute [local go_sem] Oper.semAt_some
def inSp (s : Sp) (m : Int) : Bool := decide (s.f ≤ m) && decide (m < s.t)
def inL (l : List Sp) (m : Int) : Bool := l.any (fun s => inSp s m)
def stp (out : List Sp) (m : Nat) : List Sp :=
 match out.getLast? with
 | some s => if s.t = m then out.dropLast ++ [⟨s.f, m + 1⟩] else out ++ [⟨m, m + 1⟩]
 | none => [⟨m, m + 1⟩]
def runs (f : Nat → Bool) : Nat → List Sp
 | 0 => []
 | m + 1 => if f m then stp (runs f m) m else runs f m
def nrm (f : Nat → Bool) : List Sp := runs f 1440
def un (a b : List Sp) (m : Nat) : Bool := inL a m || inL b m
theorem stp_snoc (l : List Sp) (s : Sp) (m : Nat) : stp (l ++ [s]) m = if s.t = m then l ++ [⟨s.f, m + 1⟩] else l ++ [s] ++ [⟨m, m + 1⟩] := by
 simp [stp]
theorem nil_or_snoc (l : List Sp) : l = [] ∨ ∃ (r : List Sp) (s : Sp), l = r ++ [s] := by
 rcases List.eq_nil_or_concat l with h | ⟨r, s, h⟩
 ·exact .inl h
 ·exact .inr ⟨r, s, by simpa using h⟩
theorem runs_no {f : Nat → Bool} {m : Nat} (h : f m = false) : runs f (m + 1) = runs f m := by simp [runs, h]
theorem runs_yes {f : Nat → Bool} {m : Nat} (h : f m = true) : runs f (m + 1) = stp (runs f m) m := by simp [runs, h]
theorem runs_congr {f g : Nat → Bool} : ∀ m, (∀ k < m, f k = g k) → runs f m = runs g m
 | 0, _ => rfl
 | m + 1, h => by
  have ih := runs_congr m (fun k hk => h k (by omega))
  simp only [runs, ih, h m (by omega)]
theorem nrm_congr {f g : Nat → Bool} (h : ∀ k < 1440, f k = g k) : nrm f = nrm g := runs_congr _ h

def endOf (lo : Int) (l : List Sp) : Int := match l.getLast? with | some s => s.t + 1 | none => lo
theorem bcell {W w1 : World} (hb : Below W.heap.size W w1) : (∀ b o, b < W.heap.size → w1.cell? ⟨b, o, none⟩ = W.cell? ⟨b, o, none⟩) ∧ (∀ b o, b < W.heap.size → w1.frozen? ⟨b, o, none⟩ = W.frozen? ⟨b, o, none⟩) :=
 ⟨fun b o h => hb.cell (p := ⟨b, o, none⟩) h, fun b o h => hb.frozen (p := ⟨b, o, none⟩) h⟩
/-- A row of n minutes at block b, that may be written. -/
def Arr (W : World) (b n : Nat) (f : Nat → Bool) : Prop := b < W.heap.size ∧ ∀ k < n, W.cell? ⟨b, k, none⟩ = some (.bool (f k)) ∧ W.frozen? ⟨b, k, none⟩ = false
theorem Arr.ext {W W' : World} {b n : Nat} {f : Nat → Bool} (h : Arr W b n f) (hb : Below W.heap.size W W') : Arr W' b n f :=
 ⟨Nat.lt_of_lt_of_le h.1 hb.size, fun k hk => ⟨((bcell hb).1 b k h.1).trans (h.2 k hk).1, ((bcell hb).2 b k h.1).trans (h.2 k hk).2⟩⟩
theorem Arr.set {W : World} {b n : Nat} {f : Nat → Bool} (h : Arr W b n f) (m : Nat) (hm : m < n) (x : Bool) : Arr (W.setCell ⟨b, m, none⟩ (.bool x)) b n (fun k => if k = m then x else f k) := by
 refine ⟨by simpa using h.1, fun k hk => ⟨?_, by rw [World.frozen?_setCell]; exact (h.2 k hk).2⟩⟩
 by_cases e : k = m
 ·subst e
  rw [World.cell?_setCell_same' _ _ _ (by rw [(h.2 k hk).1]; rfl)]; simp
 ·rw [World.cell?_setCell_other _ _ _ _ (by intro e2; injection e2 with _ e3; exact e e3.symm), (h.2 k hk).1]; simp [e]
theorem Arr.congr {W : World} {b n : Nat} {f g : Nat → Bool} (h : Arr W b n f) (e : ∀ k < n, f k = g k) : Arr W b n g := ⟨h.1, fun k hk => ⟨by rw [(h.2 k hk).1, e k hk], (h.2 k hk).2⟩⟩
theorem Arr.drew_ {W : World} {b n : Nat} {f : Nat → Bool} (h : Arr W b n f) (k : Nat) : Arr (W.drewN k) b n f := h
def zs : Array Value := Array.replicate 1440 (.bool false)
theorem zv53 (w : World) : (zeroValue 229).run Tryz.prog w = .ok (.agg zs) w := by kernel_rfl
theorem zs_ne : ¬ zs = #[] := by unfold zs; simp
theorem Arr.new (w : World) (t : TypeId) : Arr (w.alloc (.cells zs t)) w.heap.size 1440 (fun _ => false) := by
 refine ⟨by simp, fun k hk => ⟨?_, by simp⟩⟩
 rw [cell_of_row _ w.heap.size k zs t (0, 0) (heap_alloc_new w _)]
 simp [zs, hk]
theorem set_ok (i m : Nat) (g : Nat → Bool) (f : Int) (hf : f ≤ m) : (if i = m then true else (g i || (decide (f ≤ (i : Int)) && decide ((i : Int) < (m : Int))))) = (g i || (decide (f ≤ (i : Int)) && decide ((i : Int) < (m : Int) + 1))) := by
 by_cases e : i = m
 ·subst e; simp [hf]; right; omega
 ·have : decide ((i : Int) < m) = decide ((i : Int) < (m : Int) + 1) := by rw [decide_eq_decide]; omega
  simp only [e, if_false, this]
set_option maxHeartbeats 800000 in
set_option maxRecDepth 100000 in
theorem of_any (A : Option Addr) (c : Nat) (l : List Sp) (w : World) (ha : Slc w Sp.cells 2 A l) (hn : l.length < 1000000) :
  Calls Tryz.prog 148 #[.slice A l.length c] w fun e w' => (∃ b, e = .returned (.pointer (some ⟨b, 0, none⟩)) ∧ w.heap.size ≤ b ∧ Arr w' b 1440 (fun m => inL l m)) ∧ Below w.heap.size w w' := by
 have hz := zv53
 have hzn := zs_ne
 go_enter Tryz.func148, Tryz.ntmps148
 go_wp2_with fail
 go_loopw [9] (fun i W => ∃ k : Nat, k ≤ l.length ∧ i = .int .i64 k ∧ Arr W w.heap.size 1440 (fun m => inL (l.take k) m) ∧ Below w.heap.size w W) (fun i _ => l.length - (intOf i).toNat)
 case atStart => exact ⟨0, Nat.zero_le _, rfl, (Arr.new w 229).congr (by simp [inL]), ext_alloc (ext_refl _) _⟩
 case round =>
  obtain ⟨k, hk, rfl, har, hB⟩ := hrel
  by_cases hlt : k < l.length
  rotate_left
  ·go_wp2_with fail
   go_ret
   rw [List.take_of_length_le (by omega)] at har
   exact ⟨⟨_, rfl, Nat.le_refl _, har⟩, hB⟩
  obtain ⟨x, b1, o1, hx, rfl, hb1, hc⟩ := (ha.ext hB).at_ hlt
  have c0 := hc 0 _ rfl
  have c1 := hc 1 _ rfl
  simp only [Nat.add_zero] at c0
  clear hc
  have hi1 : (k : Int) < l.length := by omega
  have HX := Lib.hid hx
  clear hx
  obtain ⟨wo, rfl⟩ : ∃ wo, wo = wr := ⟨_, rfl⟩
  go_wp2_with fail
  all_goals
   have hboxes : (wo.alloc (.cells #[.int .i64 x.f, .int .i64 x.t] 44)).cell? ⟨wo.heap.size, 0, none⟩ = some (.int .i64 x.f) ∧ (wo.alloc (.cells #[.int .i64 x.f, .int .i64 x.t] 44)).cell? ⟨wo.heap.size, 1, none⟩ = some (.int .i64 x.t) := ⟨by simp, by simp⟩
   have hnew : wo.heap.size < (wo.alloc (.cells #[.int .i64 x.f, .int .i64 x.t] 44)).heap.size := by simp
   have hBo : Below w.heap.size w (wo.alloc (.cells #[.int .i64 x.f, .int .i64 x.t] 44)) := ext_alloc hB _
   have haro := har.ext (ext_alloc (ext_refl wo) (.cells #[.int .i64 x.f, .int .i64 x.t] 44))
   have hwlt := har.1
   generalize wo.alloc (.cells #[.int .i64 x.f, .int .i64 x.t] 44) = w2 at hboxes hnew hBo haro ⊢
   go_loopw [6] (fun i W => ∃ j : Int, i = .int .i64 j ∧ 0 ≤ j ∧ x.f ≤ j ∧ (j = x.f ∨ j = 0 ∨ (j ≤ x.t ∧ j ≤ 1440)) ∧ Arr W w.heap.size 1440 (fun m => inL (l.take k) m || (decide (x.f ≤ m) && decide ((m : Int) < j))) ∧ Below w.heap.size w W ∧ wo.heap.size < W.heap.size ∧ W.cell? ⟨wo.heap.size, 0, none⟩ = some (.int .i64 x.f) ∧ W.cell? ⟨wo.heap.size, 1, none⟩ = some (.int .i64 x.t)) (fun i _ => (1440 - intOf i).toNat)
   case atStart => exact ⟨_, rfl, by omega, by omega, by omega, haro.congr (fun m _ => by simp; intro a b; omega), hBo, hnew, hboxes.1, hboxes.2⟩
   case round =>
    obtain ⟨j, rfl, j0, j1, j2, ha2, hB2, hs2, q0, q1⟩ := hrel
    by_cases hj : j < x.t ∧ j < 1440
    ·obtain ⟨hja, hjb⟩ := hj
     obtain ⟨m, rfl⟩ : ∃ m : Nat, j = m := ⟨j.toNat, by omega⟩
     have hm : m < 1440 := by omega
     obtain ⟨hcm, hfm⟩ := ha2.2 m hm
     go_wp2_with fail
     all_goals first | (exfalso; omega) | skip
     all_goals
      refine ⟨⟨(m : Int) + 1, rfl, by omega, by omega, by omega, (ha2.set m hm true).congr (fun i _ => set_ok i m (fun i => inL (l.take k) i) x.f j1), hB2.setCell (p := ⟨w.heap.size, m, none⟩) (Nat.le_refl _) _, by simpa using hs2, ?_, ?_⟩, by simp [intOf]; omega⟩
      ·rw [World.cell?_setCell_other _ _ _ _ (by intro e; injection e with e _; omega)]; exact q0
      ·rw [World.cell?_setCell_other _ _ _ _ (by intro e; injection e with e _; omega)]; exact q1
    ·have hfin : Arr wr w.heap.size 1440 (fun m => inL (l.take (k + 1)) m) := ha2.congr (fun i hi => by
      rw [List.take_add_one, HX.out]
      simp only [inL, Option.toList_some, List.any_append, List.any_cons, List.any_nil, Bool.or_false, inSp]
      congr 1
      by_cases e : x.f ≤ i <;> simp [e] <;> omega)
     go_wp2_with fail
     all_goals first | (exfalso; omega) | skip
     all_goals
      go_roundw
      case rel => exact ⟨k + 1, hlt, by go_num, hfin, hB2⟩
      case measure => simp [intOf]; omega
theorem stp_len (l : List Sp) (m : Nat) : (stp l m).length ≤ l.length + 1 := by
 rcases nil_or_snoc l with rfl | ⟨r, s, rfl⟩
 ·simp [stp]
 ·rw [stp_snoc]; split <;> simp
theorem runs_len (f : Nat → Bool) : ∀ m, (runs f m).length ≤ m
 | 0 => by simp [runs]
 | m + 1 => by
  have ih := runs_len f m
  unfold runs
  split
  ·exact Nat.le_trans (stp_len _ _) (by omega)
  ·omega
theorem endOf_snoc (lo : Int) (l : List Sp) (s : Sp) : endOf lo (l ++ [s]) = s.t + 1 := by simp [endOf]
theorem runs_span (f : Nat → Bool) (a : Nat) (ha : endOf 0 (runs f a) ≤ a) : ∀ d : Nat, (∀ k, a ≤ k → k ≤ a + d → f k = true) → runs f (a + d + 1) = runs f a ++ [⟨a, ((a + d : Nat) : Int) + 1⟩]
 | 0, h => by
  rw [Nat.add_zero, runs_yes (h a (Nat.le_refl _) (Nat.le_refl _))]
  rcases nil_or_snoc (runs f a) with e | ⟨r, s, e⟩
  ·rw [e]; rfl
  ·rw [e] at ha ⊢
   rw [endOf_snoc] at ha
   rw [stp_snoc, if_neg (by omega), Nat.add_zero]
 | d + 1, h => by
  have ih := runs_span f a ha d (fun k h1 h2 => h k h1 (by omega))
  rw [show a + (d + 1) + 1 = (a + d + 1) + 1 by omega, runs_yes (h _ (by omega) (by omega)), ih, stp_snoc, if_pos (by simp)]
  rfl
theorem runs_to {f : Nat → Bool} {a t : Nat} (ha : endOf 0 (runs f a) ≤ a) (hat : a < t) (h : ∀ k, a ≤ k → k < t → f k = true) : runs f t = runs f a ++ [⟨a, t⟩] := by
 obtain ⟨d, rfl⟩ : ∃ d, t = a + d + 1 := ⟨t - a - 1, by omega⟩
 rw [runs_span f a ha d (fun k h1 h2 => h k h1 (by omega))]
 simp
/-- The set that the iterator reads: its captured box, the row of minutes. -/
structure DCap (W : World) (B : Nat) (ex : Nat → Prop) (bd b : Nat) (f : Nat → Bool) : Prop where
 dB : bd < B
 bB : b < B
 dx : ¬ ex bd
 bx : ¬ ex b
 d : W.cell? ⟨bd, 0, none⟩ = some (.pointer (some ⟨b, 0, none⟩))
 c : ∀ k < 1440, W.cell? ⟨b, k, none⟩ = some (.bool (f k))
theorem DCap.keep {W W' : World} {B : Nat} {ex : Nat → Prop} {bd b : Nat} {f : Nat → Bool} (h : DCap W B ex bd b f) (hk : Kx B ex W W') : DCap W' B ex bd b f :=
 ⟨h.dB, h.bB, h.dx, h.bx, (hk.cell h.dB h.dx).trans h.d, fun k hk' => (hk.cell h.bB h.bx).trans (h.c k hk')⟩
theorem one_true {f : Nat → Bool} {q : Nat} (h : f q = true) : ∀ k, q ≤ k → k < q + 1 → f k = true := fun k h1 h2 => by
 obtain rfl : k = q := by omega
 exact h
def encS (s : Sp) : Array Value := #[s.v]
set_option maxRecDepth 100000 in
set_option maxHeartbeats 400000 in
theorem spans1_in (n : Nat) (hn : 1 ≤ n) (l : Nat) (B : Nat) (ex : Nat → Prop) (bd b : Nat) (f : Nat → Bool)
  (J Jx : List Sp → World → Prop) (W : World) (hBW : B ≤ W.heap.size) (hJ : AbidesFrom W.heap.size J)
  (hY : ∀ pre x W1, J pre W1 → pre.length < 1440 → YieldAt Fence.wide (n - 1) Tryz.prog l (encS x) W1 fun e W' =>
   (e = .returned (.bool true) ∧ J (pre ++ [x]) W' ∧ (Kx B ex W1 W' ∧ W1.heap.size ≤ W'.heap.size)) ∨ (e = .returned (.bool false) ∧ Jx (pre ++ [x]) W'))
  (hC : DCap W B ex bd b f) (hJ0 : J [] W) :
  CallsIn Fence.wide n Tryz.prog 154 #[.func (.yield l) #[] #[], .pointer (some ⟨bd, 0, none⟩)] W fun e W' => (∃ v, e = .returned v) ∧
   ((∃ ys, ys = nrm f ∧ J ys W') ∨ (∃ pre, True ∧ Jx pre W')) := by
 have HY := Lib.hid hY
 have HJ := Lib.hid hJ
 have HC := Lib.hid hC
 clear hY hJ hC
 refine callsIn_of_wp Tryz.func154 rfl trivial ?_ rfl
 simp only [Tryz.ntmps154, List.size_toArray, List.length_cons, List.length_nil, Nat.reduceAdd, Nat.reduceSub, Array.replicate_succ, Array.replicate_zero, List.push_toArray, List.append_toArray, List.nil_append, List.cons_append]
 gi_wp2
 gi_loopw [3] (fun i wr => ∃ q : Nat, q ≤ 1441 ∧ i = .int .i64 q ∧ J (runs f (min q 1440)) wr ∧ Hid (endOf 0 (runs f (min q 1440)) ≤ q) ∧ Hid (Kx B ex W wr) ∧ W.heap.size ≤ wr.heap.size) (fun i _ => 1441 - (intOf i).toNat)
 case atStart => exact ⟨0, by omega, rfl, by simpa [runs] using hJ0, by simp [runs, endOf, Hid], Kx.refl _, Nat.le_refl _⟩
 case round =>
  obtain ⟨q, hq, rfl, hJs, HE, HK, hsz⟩ := hrel
  by_cases hlt : q < 1440
  ·have hc := HC.out.keep HK.out
   have cd := hc.d
   have cq := hc.c q hlt
   have hmin : min q 1440 = q := by omega
   rw [hmin] at hJs HE
   obtain ⟨wo, rfl⟩ : ∃ wo, wo = wr := ⟨_, rfl⟩
   cases hfq : f q
   ·rw [hfq] at cq
    gi_wp2_with fail
    go_roundw
    case rel =>
     have e : min (q + 1) 1440 = q + 1 := by omega
     refine ⟨q + 1, by omega, by go_num, ?_, ?_, HK, hsz⟩
     ·rw [e, runs_no hfq]; exact hJs
     ·rw [e, runs_no hfq]; have := HE.out; unfold Hid; omega
    case measure => simp [intOf]; omega
   ·rw [hfq] at cq
    have HQ : Hid (f q = true) := hfq
    clear hfq
    gi_wp2_with fail
    gi_loopw [4] (fun i wr => ∃ t : Nat, q < t ∧ t ≤ 1440 ∧ i = .int .i64 t ∧ wr = wo ∧ Hid (∀ k, q ≤ k → k < t → f k = true)) (fun i _ => 1440 - (intOf i).toNat)
    case atStart => exact ⟨q + 1, by omega, by omega, by go_num, rfl, one_true HQ.out⟩
    case round =>
     obtain ⟨t, hqt, ht, rfl, rfl, HT⟩ := hrel
     by_cases htl : t < 1440 ∧ f t = true
     ·obtain ⟨h1, h2⟩ := htl
      have ct := hc.c t h1
      rw [h2] at ct
      have HF : Hid (f t = true) := h2
      clear h2
      have ht' : (t : Int) < 1440 := by omega
      gi_wp2_with fail
      go_roundw
      case rel => exact ⟨t + 1, by omega, by omega, by go_num, trivial, fun k h1 h2 => by
       by_cases e : k = t
       ·rw [e]; exact HF.out
       ·exact HT.out k h1 (by omega)⟩
      case measure => simp [intOf]; omega
     ·have HR : Hid (runs f t = runs f q ++ [⟨q, t⟩]) := runs_to HE.out hqt HT.out
      have HR2 : Hid (runs f (min (t + 1) 1440) = runs f q ++ [⟨q, t⟩]) := by
       unfold Hid
       by_cases h1 : t < 1440
       ·have h2 : f t = false := by simpa [h1] using htl
        rw [show min (t + 1) 1440 = t + 1 by omega, runs_no h2]; exact HR.out
       ·rw [show min (t + 1) 1440 = t by omega]; exact HR.out
      have hexit : t < 1440 → f t = false := fun h1 => by simpa [h1] using htl
      clear htl
      obtain ⟨fn, tmps, assign, body, hy, hR⟩ := HY.out (runs f q) ⟨q, t⟩ wr hJs (by have := runs_len f q; omega)
      simp only [encS] at hy
      by_cases h1 : t < 1440
      ·have ct := hc.c t h1
       rw [hexit h1] at ct
       have ht' : (t : Int) < 1440 := by omega
       gi_wp2_with fail
       refine hR.mono ?_
       rintro e W3 (⟨rfl, hJ3, hk3, hs3⟩ | ⟨rfl, hJx3⟩)
       ·clear hy hR
        gi_wp2_with fail
        go_roundw
        case rel => exact ⟨t + 1, by omega, by go_num, by rw [HR2.out]; exact hJ3, by rw [HR2.out, endOf_snoc]; simp [Hid], HK.out.t hk3, by omega⟩
        case measure => simp [intOf]; omega
       ·clear hy hR
        gi_wp2_with fail
        refine bodyPost_ret (results_none rfl _ _ _) rfl ?_
        exact ⟨⟨_, rfl⟩, .inr ⟨_, trivial, hJx3⟩⟩
      ·have ht' : ¬ (t : Int) < 1440 := by omega
       gi_wp2_with fail
       refine hR.mono ?_
       rintro e W3 (⟨rfl, hJ3, hk3, hs3⟩ | ⟨rfl, hJx3⟩)
       ·clear hy hR
        gi_wp2_with fail
        go_roundw
        case rel => exact ⟨t + 1, by omega, by go_num, by rw [HR2.out]; exact hJ3, by rw [HR2.out, endOf_snoc]; simp [Hid], HK.out.t hk3, by omega⟩
        case measure => simp [intOf]; omega
       ·clear hy hR
        gi_wp2_with fail
        refine bodyPost_ret (results_none rfl _ _ _) rfl ?_
        exact ⟨⟨_, rfl⟩, .inr ⟨_, trivial, hJx3⟩⟩
  ·gi_wp2
   go_end0
   rw [show min q 1440 = 1440 by omega] at hJs
   exact ⟨⟨_, rfl⟩, .inl ⟨_, rfl, hJs⟩⟩
theorem spans_stops (n : Nat) (hn : 1 ≤ n) (B : Nat) (ex : Nat → Prop) (bd b : Nat) (f : Nat → Bool) (w : World) (hB : B ≤ w.heap.size) (hC : DCap w B ex bd b f) :
  SeqStopsK Fence.wide n Tryz.prog 154 #[.pointer (some ⟨bd, 0, none⟩)] encS (KpE B ex) (fun ys => ys = nrm f) (fun _ => True) 1440 w :=
 fun l J Jx W hW hJ _ hY hJ0 => spans1_in n hn l B ex bd b f J Jx W (Nat.le_trans hB hW.size) hJ hY (hC.keep (Kx.below hW hB)) hJ0
theorem info31 : (Tryz.prog.info? 44).map (fun i => (i.zero, i.size, i.bytes)) = some (some (.agg #[.int .i64 0, .int .i64 0]), 2, 16) := by kernel_rfl
theorem I22 : EInfo Tryz.prog 114 44 Sp.cells 2 16 := by
 obtain ⟨i0, hi, hz0, hz1, hz2⟩ := info_parts info31
 exact ⟨Tryz.underlying114, ⟨i0, _, hi, hz0, hz1, hz2, rfl⟩, by decide, fun _ => rfl, fun x => by simp [Sp.cells, Value.oneCell']⟩
theorem spans_any (b : Nat) (w : World) : Calls Tryz.prog 150 #[.pointer (some ⟨b, 0, none⟩)] w fun e w' => e = .returned (.func (.func 154) #[] #[.pointer (some ⟨w.heap.size, 0, none⟩)]) ∧ w.alloc (.cells #[.pointer (some ⟨b, 0, none⟩)] 226) = w' := by
 go_enter Tryz.func150, Tryz.ntmps150
 go_wp2
 go_ret
 exact ⟨rfl, rfl⟩
/-- What hands back a list of spans. -/
def RetS (w : World) (l : List Sp) (e : Ending) (w' : World) : Prop :=
 ∃ A c, e = .returned (.slice A l.length c) ∧ Own w' w.heap.size 44 Sp.cells 2 (.slice A l.length c) l ∧ Below w.heap.size w w'
set_option maxRecDepth 100000 in
set_option maxHeartbeats 3200000 in
theorem appendSeq_any (bd b : Nat) (f : Nat → Bool) (w : World) (hC0 : DCap w w.heap.size (fun _ => False) bd b f) :
  Calls Tryz.prog 153 #[.slice none 0 0, .func (.func 154) #[] #[.pointer (some ⟨bd, 0, none⟩)]] w (RetS w (nrm f)) := by
 refine (callsIn_wide (n := 5)).1 ?_
 refine callsIn_of_wp_marks Tryz.func153 rfl trivial ?_ rfl
 simp only [Tryz.ntmps153, List.size_toArray, List.length_cons, List.length_nil, Nat.reduceAdd, Nat.reduceSub, Array.replicate_succ, Array.replicate_zero, List.push_toArray, List.append_toArray, List.nil_append, List.cons_append]
 gi_wp2_with fail
 obtain ⟨w2, hw2⟩ : ∃ w2, w.alloc (.cells #[.slice none 0 0] 114) = w2 := ⟨_, rfl⟩
 have hz2 : w2.heap.size = w.heap.size + 1 := by rw [← hw2]; simp
 have hb2 : Below w.heap.size w w2 := by rw [← hw2]; exact ext_alloc (ext_refl w) _
 have bO : Boxed w2 w.heap.size 114 (.slice none 0 0) := by rw [← hw2]; exact Boxed.new w 114 _
 have hC : DCap w2 w2.heap.size (fun k => k = w.heap.size) bd b f := by
  have h1 := hC0.dB
  have h2 := hC0.bB
  exact ⟨by omega, by omega, by omega, by omega, (hb2.cell (p := ⟨bd, 0, none⟩) h1).trans hC0.d, fun k hk => (hb2.cell (p := ⟨b, k, none⟩) h2).trans (hC0.c k hk)⟩
 rw [hw2]
 have HBB2 := Lib.hid hb2
 have HCC := Lib.hid hC
 have HBO2 := Lib.hid bO
 have hwl : w.heap.size < w2.heap.size := by omega
 clear hw2 hz2 hC bO hC0 hb2
 refine wpIn_rangeFunc_ownH (F := Fence.wide) rfl (by decide) (gf := 154) (lb := #[.pointer (some ⟨bd, 0, none⟩)]) rfl trivial (enters_of Tryz.func154 (by kernel_rfl) rfl)
  (spans_stops 4 (by decide) w2.heap.size (fun k => k = w.heap.size) bd b f w2 (Nat.le_refl _) HCC.out) KpE.t (KpE.b (Nat.le_refl _)) (Below.refl _ _) (fun _ => rfl)
  (fun pre W => ∃ v, Boxed W w.heap.size 114 v ∧ Own W w2.heap.size 44 Sp.cells 2 v pre ∧ Below w.heap.size w W ∧ w2.heap.size ≤ W.heap.size)
  (fun _ _ _ => False)
  (fun s X Y row hs hg hr => by
   obtain ⟨v, h1, h2, h3, h4⟩ := hs
   exact ⟨v, Boxed.turn h1 hg (fun r e => (hr r e).2), h2.turn hg (fun r e => (hr r e).2), h3.grown hg (Nat.le_trans HBB2.out.size h4) (fun r e => Nat.le_trans HBB2.out.size (hr r e).1), Nat.le_trans h4 hg.size⟩)
  (fun _ _ _ _ _ hs _ _ => hs)
  ⟨_, HBO2.out, Own.nil _ _ _ _ _, HBB2.out, Nat.le_refl _⟩
  (fun x a' W => ∃ Bx, W.heap[Bx]? = some (.cells #[.int .i64 x.f, .int .i64 x.t] 44 (0, 0)) ∧ a' = { tmps := #[.slice none 0 0, .func (.func 154) #[] #[.pointer (some ⟨bd, 0, none⟩)], .pointer (some ⟨w.heap.size, 0, none⟩), undef, .slice none 0 0, .pointer (some ⟨Bx, 0, none⟩), .func (.func 154) #[] #[.pointer (some ⟨bd, 0, none⟩)], x.v, undef, undef, undef, undef, undef], defers := [] })
  (fun x a' _ X Y row hs hg hr => by
   obtain ⟨Bx, h1, h2⟩ := hs
   exact ⟨Bx, (hg.block Bx (Array.getElem?_eq_some_iff.1 h1).1 (fun e' => by obtain ⟨ob, h3, h4⟩ := (hr Bx e'.symm).2; rw [h1] at h3; cases h3; cases h4)).trans h1, h2⟩) ?assign ?body ?done ?stop
 case assign =>
  rintro l pre x W K ⟨v, h1, h2, h3, h4⟩ hK
  simp only [encS]
  gi_wp2
  exact hK _ _ ((KeepsOthers.alloc _ _).from _) ⟨Kx.below (ext_alloc (ext_refl W) _) h4, by simp⟩ ⟨v, h1.alloc _, h2.alloc _, ext_alloc h3 _, by simp; omega⟩ ⟨W.heap.size, World.alloc_heap_new W _, rfl⟩
 case body =>
  rintro l pre x a' W _ _ ⟨v, h1, h2, h3, h4⟩ ⟨Bx, hx, rfl⟩ hlt
  have c0 : W.cell? ⟨Bx, 0, none⟩ = some (.int .i64 x.f) := by simp [World.cell?, hx]
  have c1 : W.cell? ⟨Bx, 1, none⟩ = some (.int .i64 x.t) := by simp [World.cell?, hx]
  have cv := h1.cell
  have hS := slc_litH W [x] #[.int .i64 x.f, .int .i64 x.t] 44 (enc := Sp.cells) (sz := 2) (fun _ => rfl) rfl W.heap.size rfl
  obtain ⟨v', w5, hrun, hO5, hg5, hat5⟩ := (h2.alloc (.cells #[.int .i64 x.f, .int .i64 x.t] 44)).append I22 114 (ys := [x]) (m := 1) rfl 1 hS (by simp; omega) (by unfold maxLen; simp; omega) (by simp; omega)
  obtain ⟨g5, c5, cur5, hv5, _, hbg5, _, _⟩ := hO5.some_ (by simp)
  rw [show (pre ++ [x]).length = pre.length + 1 by simp] at hv5
  subst hv5
  have hw2 : w.heap.size ≤ w2.heap.size := by omega
  obtain ⟨hv1, hv2, hr2, hk2, hb2⟩ := h1.appended (by decide) (h2.low hw2) (by omega) (Nat.le_refl _) (hO5.low hw2) hg5
  have hc1 := hv1.cell
  have hf1 := hv1.frozen
  have hO6 := hO5.block (w' := w5.setCell ⟨w.heap.size, 0, none⟩ (.slice (some ⟨g5, 0, none⟩) (pre.length + 1) c5)) (fun kk e => by cases e; exact Below.heap_setCell _ _ _ _ (by simp; omega))
  have hkx : KpE w2.heap.size (fun k => k = w.heap.size) W (w5.setCell ⟨w.heap.size, 0, none⟩ (.slice (some ⟨g5, 0, none⟩) (pre.length + 1) c5)) := by
   refine ⟨((Kx.below (ext_alloc (ext_refl W) _) h4).t (Kx.grown hg5 (by simp; omega) (fun r e => .inl (h2.lt r e).2))).t (Kx.set _ _ (.inr rfl)), ?_⟩
   have := hg5.size; simp at this; simp [World.setCell]; omega
  have HOUT : Hid (ownPostG w2.heap.size (KpE w2.heap.size fun k => k = w.heap.size) (fun pre W => ∃ v, Boxed W w.heap.size 114 v ∧ Own W w2.heap.size 44 Sp.cells 2 v pre ∧ Below w.heap.size w W ∧ w2.heap.size ≤ W.heap.size) (fun _ _ _ => False) (pre ++ [x]) W Exit.normal { tmps := #[], defers := [] } (w5.setCell ⟨w.heap.size, 0, none⟩ (.slice (some ⟨g5, 0, none⟩) (pre.length + 1) c5))) :=
   ⟨hk2.from _, hkx, _, hv2, hO6, h3.trans hb2, Nat.le_trans h4 hkx.2⟩
  have HRUN := Lib.hid hrun
  clear hrun hk2 hkx hb2 hr2 hO6 hv2 hg5 hO5 hat5 hS
  gi_wp2_with (gi_at_builtin; refine wpListIn_append_run rfl (.tmp 8) (.tmp 10) 114 rfl v (.slice (some ⟨W.heap.size, 0, none⟩) 1 1) rfl rfl HRUN.out ?_)
  exact HOUT.out
 case done =>
  rintro D ys W hD rfl ⟨v, h1, h2, h3, h4⟩ hK
  obtain ⟨A5, c5, hv5, hc5, hA5, _⟩ := h2.form
  subst hv5
  have hc1 := h1.cell
  have hO2 := h2.turn (grownBy_putObj' W D (.deferred none)) (fun r e => by cases e; exact ⟨_, hK, rfl⟩)
  have hB5 : Below w.heap.size w (W.putObj D (.deferred none)) := h3.grown (grownBy_putObj' _ D _) h3.size (fun r e => by cases e; omega)
  gi_wp2
  refine ⟨by simp, .inl ⟨_, _, rfl, run_takeDeferred hK, ?_⟩⟩
  refine ⟨.slice A5 (nrm f).length c5, by simp [results, Tryz.results153, go_sem], ?_⟩
  exact ⟨A5, c5, rfl, hO2.low (by omega), hB5⟩
 case stop =>
  rintro D cc pre W _ _ h _
  exact h.elim
theorem collect_any (bd b : Nat) (f : Nat → Bool) (w : World) (hC0 : DCap w w.heap.size (fun _ => False) bd b f) :
  Calls Tryz.prog 149 #[.func (.func 154) #[] #[.pointer (some ⟨bd, 0, none⟩)]] w (RetS w (nrm f)) := by
 go_enter Tryz.func149, Tryz.ntmps149
 go_wp2_with fail
 refine (appendSeq_any bd b f w hC0).mono ?_
 rintro e w1 ⟨A, c, rfl, hs, hB⟩
 go_wp2_with fail
 go_ret
 exact ⟨A, c, rfl, hs, hB⟩
/-- A condition of two bools. -/
def Cnd (g : Nat) (p : Bool → Bool → Bool) : Prop := ∀ (x y : Bool) (W : World), Calls Tryz.prog g #[.bool x, .bool y] W fun e W' => e = .returned (.bool (p x y)) ∧ W' = W
theorem cnd133 : Cnd 133 (fun x y => x || y) := fun x y W => by
 cases x <;> cases y
 all_goals
  go_enter Tryz.func133, Tryz.ntmps133
  go_wp2
  go_ret
  exact ⟨rfl, rfl⟩
theorem Arr.other {W : World} {b n : Nat} {f : Nat → Bool} (h : Arr W b n f) {b' m : Nat} (hb : b' ≠ b) (x : Value) : Arr (W.setCell ⟨b', m, none⟩ x) b n f := by
 refine ⟨by simpa using h.1, fun k hk => ⟨?_, by rw [World.frozen?_setCell]; exact (h.2 k hk).2⟩⟩
 rw [World.cell?_setCell_other _ _ _ _ (by intro e2; injection e2 with e3 _; exact hb e3), (h.2 k hk).1]
/-- Up to m the one, from m on the other. -/
def upto (m : Nat) (f g : Nat → Bool) : Nat → Bool := fun k => if k < m then f k else g k
theorem upto_step (m : Nat) (f g : Nat → Bool) : ∀ k, (if k = m then f m else upto m f g k) = upto (m + 1) f g k := by
 intro k
 unfold upto
 by_cases e : k = m
 ·subst e; simp
 ·by_cases h : k < m
  ·simp [e, h, show k < m + 1 by omega]
  ·simp [e, h, show ¬ k < m + 1 by omega]
set_option maxRecDepth 100000 in
set_option maxHeartbeats 800000 in
theorem combine_any (g : Nat) (p : Bool → Bool → Bool) (hg : g = 133 ∧ p = fun x y => x || y) (A1 A2 : Option Addr) (c1 c2 : Nat) (a b : List Sp) (w : World) (ha : Slc w Sp.cells 2 A1 a) (hb : Slc w Sp.cells 2 A2 b) (hna : a.length < 1000000) (hnb : b.length < 1000000) :
  Calls Tryz.prog 132 #[.slice A1 a.length c1, .slice A2 b.length c2, .func (.func g) #[] #[]] w (RetS w (nrm fun m => p (inL a m) (inL b m))) := by
 have HG := Lib.hid hg
 clear hg
 go_enter Tryz.func132, Tryz.ntmps132
 go_wp2_with fail
 refine (of_any A1 c1 a w ha hna).mono ?_
 rintro e w1 ⟨⟨b1, rfl, hb1, ar1⟩, B1⟩
 go_wp2_with fail
 refine (of_any A2 c2 b w1 (hb.ext B1) hnb).mono ?_
 rintro e w2 ⟨⟨b2, rfl, hb2, ar2⟩, B2⟩
 have ar1' := ar1.ext B2
 have B12 := ext_trans B1 B2
 have hne : b1 ≠ b2 := by have := ar1.1; omega
 have hne' : b2 ≠ b1 := fun e => hne e.symm
 clear ar1 B1 B2 ha hb
 go_wp2_with fail
 go_loopw [14] (fun i W => ∃ k : Nat, k ≤ 1440 ∧ i = .int .i64 k ∧ Arr W b1 1440 (upto k (fun m => p (inL a m) (inL b m)) (fun m => inL a m)) ∧ Arr W b2 1440 (fun m => inL b m) ∧ Below w.heap.size w W) (fun i _ => 1440 - (intOf i).toNat)
 case atStart => exact ⟨0, Nat.zero_le _, rfl, ar1'.congr (by simp [upto]), ar2, B12⟩
 case round =>
  obtain ⟨k, hk, rfl, hr1, hr2, hB⟩ := hrel
  by_cases hlt : k < 1440
  ·have hlt' : (k : Int) < 1440 := by omega
   obtain ⟨d1, f1⟩ := hr1.2 k hlt
   obtain ⟨d2, f2⟩ := hr2.2 k hlt
   have e1 : upto k (fun m => p (inL a m) (inL b m)) (fun m => inL a m) k = inL a k := by simp [upto]
   rw [e1] at d1
   clear e1
   have hres := (hr1.set k hlt (p (inL a k) (inL b k))).congr (fun i _ => upto_step k (fun m => p (inL a m) (inL b m)) (fun m => inL a m) i)
   have hres2 := hr2.other hne (.bool (p (inL a k) (inL b k))) (m := k)
   have hB2 := hB.setCell (p := ⟨b1, k, none⟩) hb1 (.bool (p (inL a k) (inL b k)))
   have HR : Hid (Arr (wr.setCell ⟨b1, k, none⟩ (.bool (p (inL a k) (inL b k)))) b1 1440 (upto (k + 1) (fun m => p (inL a m) (inL b m)) fun m => inL a m) ∧ Arr (wr.setCell ⟨b1, k, none⟩ (.bool (p (inL a k) (inL b k)))) b2 1440 (fun m => inL b m) ∧ Below w.heap.size w (wr.setCell ⟨b1, k, none⟩ (.bool (p (inL a k) (inL b k))))) := ⟨hres, hres2, hB2⟩
   clear hres hres2 hB2 hr1 hr2 ar2 ar1' B12
   obtain ⟨wo, rfl⟩ : ∃ wo, wo = wr := ⟨_, rfl⟩
   obtain ⟨rfl, rfl⟩ := HG.out
   go_wp2_with fail
   go_region_law (go_simp; go_at_call 133; refine (cnd133 _ _ _).mono ?_; rintro e w' ⟨rfl, rfl⟩)
   all_goals
    go_wp2_with fail
    go_roundw
    case rel => exact ⟨k + 1, hlt, by go_num, HR.out.1, HR.out.2.1, HR.out.2.2.drew⟩
    case measure => simp [intOf]; omega
  ·have hlt' : ¬ (k : Int) < 1440 := by omega
   have har : Arr wr b1 1440 (fun m => p (inL a m) (inL b m)) := hr1.congr (fun i hi => by simp [upto, show i < k by omega])
   clear hr1 hr2 ar2 ar1' B12
   go_wp2_with fail
   refine (spans_any b1 wr).mono ?_
   rintro e w3 ⟨rfl, rfl⟩
   have hB3 : Below wr.heap.size wr (wr.alloc (.cells #[.pointer (some ⟨b1, 0, none⟩)] 226)) := ext_alloc (ext_refl wr) _
   go_wp2_with fail
   refine (collect_any wr.heap.size b1 (fun m => p (inL a m) (inL b m)) _ ⟨by simp, by have := har.1; simp; omega, by simp, by simp, by simp, fun i hi => ((har.ext hB3).2 i hi).1⟩).mono ?_
   rintro e w4 ⟨A, c, rfl, hs, hB4⟩
   go_wp2_with fail
   go_ret
   exact ⟨A, c, rfl, hs.low (ext_trans hB hB3).size, ext_trans hB (ext_trans hB3 hB4)⟩
theorem union_any (A1 A2 : Option Addr) (c1 c2 : Nat) (a b : List Sp) (w : World) (ha : Slc w Sp.cells 2 A1 a) (hb : Slc w Sp.cells 2 A2 b) (hna : a.length < 1000000) (hnb : b.length < 1000000) :
  Calls Tryz.prog 104 #[.slice A1 a.length c1, .slice A2 b.length c2] w (RetS w (nrm (un a b))) := by
 go_enter Tryz.func104, Tryz.ntmps104
 go_wp2_with fail
 refine (combine_any 133 _ ⟨rfl, rfl⟩ A1 A2 c1 c2 a b w ha hb hna hnb).mono ?_
 rintro e w1 ⟨A, c, rfl, hs, hB⟩
 go_wp2_with fail
 go_ret
 exact ⟨A, c, rfl, hs, hB⟩
def nor (a : List Sp) : List Sp := nrm (fun m => inL a m)
theorem nor_un (a : List Sp) : nrm (un a []) = nor a := nrm_congr (fun k _ => by simp [un, inL])
theorem normal_any (A1 : Option Addr) (c1 : Nat) (a : List Sp) (w : World) (ha : Slc w Sp.cells 2 A1 a) (hna : a.length < 1000000) :
  Calls Tryz.prog 58 #[.slice A1 a.length c1] w (RetS w (nor a)) := by
 go_enter Tryz.func58, Tryz.ntmps58
 go_wp2_with fail
 refine (union_any A1 none c1 0 a [] w ha Slc.nil hna (by simp)).mono ?_
 rintro e w1 ⟨A, c, rfl, hs, hB⟩
 rw [nor_un] at hs ⊢
 go_wp2_with fail
 go_ret
 exact ⟨A, c, rfl, hs, hB⟩
end Go.Proofs.YtjiojpoiocdnmaaGreat
