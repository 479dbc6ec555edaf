/- combine: the minutes that fulfil a condition, as spans. -/
import Derived.Test.YtmgpbjpohbpgpaaHE
set_option linter.unusedSimpArgs false
set_option linter.unusedVariables false
namespace Go.Proofs.Ytmgpbjpohbpgpaa
open Go.RowKit Go.Shelf
theorem collect_any (bd b : Nat) (f : Nat → Bool) (w : World) (hC0 : DCap w w.heap.size (fun _ => False) bd b f) :
    Calls Try.prog 66 #[.func (.func 71) #[] #[.pointer (some ⟨bd, 0, none⟩)]] w (RetS w (nrm f)) := by
  go_enter Try.func66, Try.ntmps66
  go_wp2_with fail
  refine (appendSeq_any bd b f w hC0).mono ?_
  rintro e w1 ⟨A, c, rfl, hs, hB⟩
  go_wp2_with fail
  go_ret
  exact ⟨A, c, rfl, hs, hB⟩
theorem enters33 : Enters Try.prog 64 := fun args w => by kernel_rfl
theorem enters35 : Enters Try.prog 53 := fun args w => by kernel_rfl
/-- A condition of two bools. -/
def Cnd (g : Nat) (p : Bool → Bool → Bool) : Prop := ∀ (x y : Bool) (W : World), Calls Try.prog g #[.bool x, .bool y] W fun e W' => e = .returned (.bool (p x y)) ∧ W' = W
theorem cnd33 : Cnd 64 (fun x y => x || y) := fun x y W => by
  cases x <;> cases y
  all_goals
    go_enter Try.func64, Try.ntmps64
    go_wp2
    go_ret
    exact ⟨rfl, rfl⟩
theorem cnd35 : Cnd 53 (fun x y => x && !y) := fun x y W => by
  cases x <;> cases y
  all_goals
    go_enter Try.func53, Try.ntmps53
    go_wp2
    go_ret
    exact ⟨rfl, rfl⟩
theorem Arr.other {W : World} {b n : Nat} {f : Nat → Bool} (h : Arr W b n f) {b' m : Nat} (hb : b' ≠ b) (x : Value) : Arr (W.setCell ⟨b', m, none⟩ x) b n f := by
  refine ⟨by simpa using h.1, fun k hk => ⟨?_, by rw [World.frozen?_setCell]; exact (h.2 k hk).2⟩⟩
  rw [World.cell?_setCell_other _ _ _ _ (by intro e2; injection e2 with e3 _; exact hb e3), (h.2 k hk).1]
/-- Up to m the one, from m on the other. -/
def upto (m : Nat) (f g : Nat → Bool) : Nat → Bool := fun k => if k < m then f k else g k
theorem upto_step (m : Nat) (f g : Nat → Bool) : ∀ k, (if k = m then f m else upto m f g k) = upto (m + 1) f g k := by
  intro k
  unfold upto
  by_cases e : k = m
  · subst e; simp
  · by_cases h : k < m
    · simp [e, h, show k < m + 1 by omega]
    · simp [e, h, show ¬ k < m + 1 by omega]
set_option maxRecDepth 100000 in
set_option maxHeartbeats 800000 in
theorem combine_any (g : Nat) (p : Bool → Bool → Bool) (hg : (g = 64 ∧ p = fun x y => x || y) ∨ (g = 53 ∧ p = fun x y => x && !y)) (A1 A2 : Option Addr) (c1 c2 : Nat) (a b : List Sp) (w : World) (ha : Slc w Sp.cells 2 A1 a) (hb : Slc w Sp.cells 2 A2 b) (hna : a.length < 1000000) (hnb : b.length < 1000000) :
    Calls Try.prog 52 #[.slice A1 a.length c1, .slice A2 b.length c2, .func (.func g) #[] #[]] w (RetS w (nrm fun m => p (inL a m) (inL b m))) := by
  have HG := Lib.hid hg
  clear hg
  go_enter Try.func52, Try.ntmps52
  go_wp2_with fail
  refine (of_any A1 c1 a w ha hna).mono ?_
  rintro e w1 ⟨⟨b1, rfl, hb1, ar1⟩, B1⟩
  go_wp2_with fail
  refine (of_any A2 c2 b w1 (hb.ext B1) hnb).mono ?_
  rintro e w2 ⟨⟨b2, rfl, hb2, ar2⟩, B2⟩
  have ar1' := ar1.ext B2
  have B12 := ext_trans B1 B2
  have hne : b1 ≠ b2 := by have := ar1.1; omega
  have hne' : b2 ≠ b1 := fun e => hne e.symm
  clear ar1 B1 B2 ha hb
  go_wp2_with fail
  go_loopw [14] (fun i W => ∃ k : Nat, k ≤ 1440 ∧ i = .int .i64 k ∧ Arr W b1 1440 (upto k (fun m => p (inL a m) (inL b m)) (fun m => inL a m)) ∧ Arr W b2 1440 (fun m => inL b m) ∧ Below w.heap.size w W) (fun i _ => 1440 - (intOf i).toNat)
  case atStart => exact ⟨0, Nat.zero_le _, rfl, ar1'.congr (by simp [upto]), ar2, B12⟩
  case round =>
    obtain ⟨k, hk, rfl, hr1, hr2, hB⟩ := hrel
    by_cases hlt : k < 1440
    · have hlt' : (k : Int) < 1440 := by omega
      obtain ⟨d1, f1⟩ := hr1.2 k hlt
      obtain ⟨d2, f2⟩ := hr2.2 k hlt
      have e1 : upto k (fun m => p (inL a m) (inL b m)) (fun m => inL a m) k = inL a k := by simp [upto]
      rw [e1] at d1
      clear e1
      have hres := (hr1.set k hlt (p (inL a k) (inL b k))).congr (fun i _ => upto_step k (fun m => p (inL a m) (inL b m)) (fun m => inL a m) i)
      have hres2 := hr2.other hne (.bool (p (inL a k) (inL b k))) (m := k)
      have hB2 := hB.setCell (p := ⟨b1, k, none⟩) hb1 (.bool (p (inL a k) (inL b k)))
      have HR : Hid (Arr (wr.setCell ⟨b1, k, none⟩ (.bool (p (inL a k) (inL b k)))) b1 1440 (upto (k + 1) (fun m => p (inL a m) (inL b m)) fun m => inL a m) ∧ Arr (wr.setCell ⟨b1, k, none⟩ (.bool (p (inL a k) (inL b k)))) b2 1440 (fun m => inL b m) ∧ Below w.heap.size w (wr.setCell ⟨b1, k, none⟩ (.bool (p (inL a k) (inL b k))))) := ⟨hres, hres2, hB2⟩
      clear hres hres2 hB2 hr1 hr2 ar2 ar1' B12
      obtain ⟨wo, rfl⟩ : ∃ wo, wo = wr := ⟨_, rfl⟩
      rcases HG.out with ⟨rfl, rfl⟩ | ⟨rfl, rfl⟩
      · go_wp2_with fail
        go_region_law (go_simp; go_at_call 64; refine (cnd33 _ _ _).mono ?_; rintro e w' ⟨rfl, rfl⟩)
        all_goals
          go_wp2_with fail
          go_roundw
          case rel => exact ⟨k + 1, hlt, by go_num, HR.out.1, HR.out.2.1, HR.out.2.2.drew⟩
          case measure => simp [intOf]; omega
      · go_wp2_with fail
        go_region_law (go_simp; go_at_call 53; refine (cnd35 _ _ _).mono ?_; rintro e w' ⟨rfl, rfl⟩)
        all_goals
          go_wp2_with fail
          go_roundw
          case rel => exact ⟨k + 1, hlt, by go_num, HR.out.1, HR.out.2.1, HR.out.2.2.drew⟩
          case measure => simp [intOf]; omega
    · have hlt' : ¬ (k : Int) < 1440 := by omega
      have har : Arr wr b1 1440 (fun m => p (inL a m) (inL b m)) := hr1.congr (fun i hi => by simp [upto, show i < k by omega])
      clear hr1 hr2 ar2 ar1' B12
      go_wp2_with fail
      refine (spans_any b1 wr).mono ?_
      rintro e w3 ⟨rfl, rfl⟩
      have hB3 : Below wr.heap.size wr (wr.alloc (.cells #[.pointer (some ⟨b1, 0, none⟩)] 93)) := ext_alloc (ext_refl wr) _
      go_wp2_with fail
      refine (collect_any wr.heap.size b1 (fun m => p (inL a m) (inL b m)) _ ⟨by simp, by have := har.1; simp; omega, by simp, by simp, by simp, fun i hi => ((har.ext hB3).2 i hi).1⟩).mono ?_
      rintro e w4 ⟨A, c, rfl, hs, hB4⟩
      go_wp2_with fail
      go_ret
      exact ⟨A, c, rfl, hs, ext_trans hB (ext_trans hB3 hB4)⟩
theorem union_any (A1 A2 : Option Addr) (c1 c2 : Nat) (a b : List Sp) (w : World) (ha : Slc w Sp.cells 2 A1 a) (hb : Slc w Sp.cells 2 A2 b) (hna : a.length < 1000000) (hnb : b.length < 1000000) :
    Calls Try.prog 50 #[.slice A1 a.length c1, .slice A2 b.length c2] w (RetS w (nrm (un a b))) := by
  go_enter Try.func50, Try.ntmps50
  go_wp2_with fail
  refine (combine_any 64 _ (.inl ⟨rfl, rfl⟩) A1 A2 c1 c2 a b w ha hb hna hnb).mono ?_
  rintro e w1 ⟨A, c, rfl, hs, hB⟩
  go_wp2_with fail
  go_ret
  exact ⟨A, c, rfl, hs, hB⟩
theorem minus_any (A1 A2 : Option Addr) (c1 c2 : Nat) (a b : List Sp) (w : World) (ha : Slc w Sp.cells 2 A1 a) (hb : Slc w Sp.cells 2 A2 b) (hna : a.length < 1000000) (hnb : b.length < 1000000) :
    Calls Try.prog 36 #[.slice A1 a.length c1, .slice A2 b.length c2] w (RetS w (nrm (mi a b))) := by
  go_enter Try.func36, Try.ntmps36
  go_wp2_with fail
  refine (combine_any 53 _ (.inr ⟨rfl, rfl⟩) A1 A2 c1 c2 a b w ha hb hna hnb).mono ?_
  rintro e w1 ⟨A, c, rfl, hs, hB⟩
  go_wp2_with fail
  go_ret
  exact ⟨A, c, rfl, hs, hB⟩
def nor (a : List Sp) : List Sp := nrm (fun m => inL a m)
theorem nor_un (a : List Sp) : nrm (un a []) = nor a := nrm_congr (fun k _ => by simp [un, inL])
theorem normal_any (A1 : Option Addr) (c1 : Nat) (a : List Sp) (w : World) (ha : Slc w Sp.cells 2 A1 a) (hna : a.length < 1000000) :
    Calls Try.prog 33 #[.slice A1 a.length c1] w (RetS w (nor a)) := by
  go_enter Try.func33, Try.ntmps33
  go_wp2_with fail
  refine (union_any A1 none c1 0 a [] w ha Slc.nil hna (by simp)).mono ?_
  rintro e w1 ⟨A, c, rfl, hs, hB⟩
  rw [nor_un] at hs ⊢
  go_wp2_with fail
  go_ret
  exact ⟨A, c, rfl, hs, hB⟩
end Go.Proofs.Ytmgpbjpohbpgpaa
