/- Minutes of a list: the two arrays of the day. -/
import Derived.Test.YtmgpbjpohbpgpaaHA
set_option linter.unusedSimpArgs false
set_option linter.unusedVariables false
namespace Go.Proofs.Ytmgpbjpohbpgpaa
open Go.RowKit
/-- A row of n minutes at block b, that may be written. -/
def Arr (W : World) (b n : Nat) (f : Nat → Bool) : Prop := b < W.heap.size ∧ ∀ k < n, W.cell? ⟨b, k, none⟩ = some (.bool (f k)) ∧ W.frozen? ⟨b, k, none⟩ = false
theorem Arr.ext {W W' : World} {b n : Nat} {f : Nat → Bool} (h : Arr W b n f) (hb : Below W.heap.size W W') : Arr W' b n f :=
  ⟨Nat.lt_of_lt_of_le h.1 hb.size, fun k hk => ⟨((bcell hb).1 b k h.1).trans (h.2 k hk).1, ((bcell hb).2 b k h.1).trans (h.2 k hk).2⟩⟩
theorem Arr.set {W : World} {b n : Nat} {f : Nat → Bool} (h : Arr W b n f) (m : Nat) (hm : m < n) (x : Bool) : Arr (W.setCell ⟨b, m, none⟩ (.bool x)) b n (fun k => if k = m then x else f k) := by
  refine ⟨by simpa using h.1, fun k hk => ⟨?_, by rw [World.frozen?_setCell]; exact (h.2 k hk).2⟩⟩
  by_cases e : k = m
  · subst e
    rw [World.cell?_setCell_same' _ _ _ (by rw [(h.2 k hk).1]; rfl)]; simp
  · rw [World.cell?_setCell_other _ _ _ _ (by intro e2; injection e2 with _ e3; exact e e3.symm), (h.2 k hk).1]; simp [e]
theorem Arr.congr {W : World} {b n : Nat} {f g : Nat → Bool} (h : Arr W b n f) (e : ∀ k < n, f k = g k) : Arr W b n g := ⟨h.1, fun k hk => ⟨by rw [(h.2 k hk).1, e k hk], (h.2 k hk).2⟩⟩
theorem Arr.drew_ {W : World} {b n : Nat} {f : Nat → Bool} (h : Arr W b n f) (k : Nat) : Arr (W.drewN k) b n f := h
def zs : Array Value := Array.replicate 1440 (.bool false)
theorem zv53 (w : World) : (zeroValue 96).run Try.prog w = .ok (.agg zs) w := by kernel_rfl
theorem zs_ne : ¬ zs = #[] := by unfold zs; simp
theorem Arr.new (w : World) (t : TypeId) : Arr (w.alloc (.cells zs t)) w.heap.size 1440 (fun _ => false) := by
  refine ⟨by simp, fun k hk => ⟨?_, by simp⟩⟩
  rw [cell_of_row _ w.heap.size k zs t (0, 0) (heap_alloc_new w _)]
  simp [zs, hk]
theorem set_ok (i m : Nat) (g : Nat → Bool) (f : Int) (hf : f ≤ m) : (if i = m then true else (g i || (decide (f ≤ (i : Int)) && decide ((i : Int) < (m : Int))))) = (g i || (decide (f ≤ (i : Int)) && decide ((i : Int) < (m : Int) + 1))) := by
  by_cases e : i = m
  · subst e; simp [hf]; right; omega
  · have : decide ((i : Int) < m) = decide ((i : Int) < (m : Int) + 1) := by rw [decide_eq_decide]; omega
    simp only [e, if_false, this]
set_option maxHeartbeats 800000 in
set_option maxRecDepth 100000 in
theorem of_any (A : Option Addr) (c : Nat) (l : List Sp) (w : World) (ha : Slc w Sp.cells 2 A l) (hn : l.length < 1000000) :
    Calls Try.prog 65 #[.slice A l.length c] w fun e w' => (∃ b, e = .returned (.pointer (some ⟨b, 0, none⟩)) ∧ w.heap.size ≤ b ∧ Arr w' b 1440 (fun m => inL l m)) ∧ Below w.heap.size w w' := by
  have hz := zv53
  have hzn := zs_ne
  go_enter Try.func65, Try.ntmps65
  go_wp2_with fail
  go_loopw [9] (fun i W => ∃ k : Nat, k ≤ l.length ∧ i = .int .i64 k ∧ Arr W w.heap.size 1440 (fun m => inL (l.take k) m) ∧ Below w.heap.size w W) (fun i _ => l.length - (intOf i).toNat)
  case atStart => exact ⟨0, Nat.zero_le _, rfl, (Arr.new w 96).congr (by simp [inL]), ext_alloc (ext_refl _) _⟩
  case round =>
    obtain ⟨k, hk, rfl, har, hB⟩ := hrel
    by_cases hlt : k < l.length
    rotate_left
    · go_wp2_with fail
      go_ret
      rw [List.take_of_length_le (by omega)] at har
      exact ⟨⟨_, rfl, Nat.le_refl _, har⟩, hB⟩
    obtain ⟨x, b1, o1, hx, rfl, hb1, hc⟩ := (ha.ext hB).at_ hlt
    have c0 := hc 0 _ rfl
    have c1 := hc 1 _ rfl
    simp only [Nat.add_zero] at c0
    clear hc
    have hi1 : (k : Int) < l.length := by omega
    have HX := Lib.hid hx
    clear hx
    obtain ⟨wo, rfl⟩ : ∃ wo, wo = wr := ⟨_, rfl⟩
    go_wp2_with fail
    all_goals
      have hboxes : (wo.alloc (.cells #[.int .i64 x.f, .int .i64 x.t] 40)).cell? ⟨wo.heap.size, 0, none⟩ = some (.int .i64 x.f) ∧ (wo.alloc (.cells #[.int .i64 x.f, .int .i64 x.t] 40)).cell? ⟨wo.heap.size, 1, none⟩ = some (.int .i64 x.t) := ⟨by simp, by simp⟩
      have hnew : wo.heap.size < (wo.alloc (.cells #[.int .i64 x.f, .int .i64 x.t] 40)).heap.size := by simp
      have hBo : Below w.heap.size w (wo.alloc (.cells #[.int .i64 x.f, .int .i64 x.t] 40)) := ext_alloc hB _
      have haro := har.ext (ext_alloc (ext_refl wo) (.cells #[.int .i64 x.f, .int .i64 x.t] 40))
      have hwlt := har.1
      generalize wo.alloc (.cells #[.int .i64 x.f, .int .i64 x.t] 40) = w2 at hboxes hnew hBo haro ⊢
      go_loopw [6] (fun i W => ∃ j : Int, i = .int .i64 j ∧ 0 ≤ j ∧ x.f ≤ j ∧ (j = x.f ∨ j = 0 ∨ (j ≤ x.t ∧ j ≤ 1440)) ∧ Arr W w.heap.size 1440 (fun m => inL (l.take k) m || (decide (x.f ≤ m) && decide ((m : Int) < j))) ∧ Below w.heap.size w W ∧ wo.heap.size < W.heap.size ∧ W.cell? ⟨wo.heap.size, 0, none⟩ = some (.int .i64 x.f) ∧ W.cell? ⟨wo.heap.size, 1, none⟩ = some (.int .i64 x.t)) (fun i _ => (1440 - intOf i).toNat)
      case atStart => exact ⟨_, rfl, by omega, by omega, by omega, haro.congr (fun m _ => by simp; intro a b; omega), hBo, hnew, hboxes.1, hboxes.2⟩
      case round =>
        obtain ⟨j, rfl, j0, j1, j2, ha2, hB2, hs2, q0, q1⟩ := hrel
        by_cases hj : j < x.t ∧ j < 1440
        · obtain ⟨hja, hjb⟩ := hj
          obtain ⟨m, rfl⟩ : ∃ m : Nat, j = m := ⟨j.toNat, by omega⟩
          have hm : m < 1440 := by omega
          obtain ⟨hcm, hfm⟩ := ha2.2 m hm
          go_wp2_with fail
          all_goals first | (exfalso; omega) | skip
          all_goals
            refine ⟨⟨(m : Int) + 1, rfl, by omega, by omega, by omega, (ha2.set m hm true).congr (fun i _ => set_ok i m (fun i => inL (l.take k) i) x.f j1), hB2.setCell (p := ⟨w.heap.size, m, none⟩) (Nat.le_refl _) _, by simpa using hs2, ?_, ?_⟩, by simp [intOf]; omega⟩
            · rw [World.cell?_setCell_other _ _ _ _ (by intro e; injection e with e _; omega)]; exact q0
            · rw [World.cell?_setCell_other _ _ _ _ (by intro e; injection e with e _; omega)]; exact q1
        · have hfin : Arr wr w.heap.size 1440 (fun m => inL (l.take (k + 1)) m) := ha2.congr (fun i hi => by
            rw [List.take_add_one, HX.out]
            simp only [inL, Option.toList_some, List.any_append, List.any_cons, List.any_nil, Bool.or_false, inS]
            congr 1
            by_cases e : x.f ≤ i <;> simp [e] <;> omega)
          go_wp2_with fail
          all_goals first | (exfalso; omega) | skip
          all_goals
            go_roundw
            case rel => exact ⟨k + 1, hlt, by go_num, hfin, hB2⟩
            case measure => simp [intOf]; omega
end Go.Proofs.Ytmgpbjpohbpgpaa
