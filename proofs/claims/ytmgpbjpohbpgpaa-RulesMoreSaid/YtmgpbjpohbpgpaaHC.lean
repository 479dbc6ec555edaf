/- The reference's minutes. -/
import Derived.Test.YtmgpbjpohbpgpaaHB
set_option linter.unusedSimpArgs false
set_option linter.unusedVariables false
namespace Go.Proofs.Ytmgpbjpohbpgpaa
open Go.RowKit
theorem info4 : (Try.prog.info? 4).map (fun i => (i.zero, i.size, i.bytes)) = some (some (.bool false), 1, 1) := by kernel_rfl
theorem info_parts {P : Program} {e : TypeId} {z : Value} {sz b : Nat} (h : (P.info? e).map (fun i => (i.zero, i.size, i.bytes)) = some (some z, sz, b)) : ∃ i, P.info? e = some i ∧ i.zero = some z ∧ i.size = sz ∧ i.bytes = b := by
  cases hi : P.info? e with
  | none => rw [hi] at h; cases h
  | some i =>
    rw [hi] at h
    simp only [Option.map_some, Option.some.injEq, Prod.mk.injEq] at h
    exact ⟨i, rfl, h.1, h.2.1, h.2.2⟩
theorem made_zs (n : Nat) : madeCells (Value.bool false).cells n = Array.replicate n (.bool false) := by
  apply Array.ext
  · simp [madeCells]
  · intro i h1 h2
    simp [madeCells, Value.cells, Nat.mod_one]
theorem mk45 (w : World) : (Instr.makeSlice 103 (.int .i64 1440) (.int .i64 1440)).run Try.prog w = .ok (.slice (some ⟨w.heap.size, 0, none⟩) 1440 1440) (w.alloc (.cells zs 4)) := by
  obtain ⟨i, hi, hz, hs, hb⟩ := info_parts info4
  have := run_make (w := w) 103 4 i _ Try.underlying103 hi hz .i64 .i64 1440 1440 (by decide) (by decide) (by rw [hb]; decide) (by decide)
  rw [this, hs, made_zs]; rfl
set_option maxHeartbeats 800000 in
set_option maxRecDepth 100000 in
theorem minutes_any (A : Option Addr) (c : Nat) (l : List Sp) (w : World) (ha : Slc w Sp.cells 2 A l) (hn : l.length < 1000000) :
    Calls Try.prog 73 #[.slice A l.length c] w fun e w' => (∃ b, e = .returned (.slice (some ⟨b, 0, none⟩) 1440 1440) ∧ w.heap.size ≤ b ∧ Arr w' b 1440 (fun m => inL l m)) ∧ Below w.heap.size w w' := by
  have hmk := mk45
  go_enter Try.func73, Try.ntmps73
  go_wp2_with fail
  go_loopw [4] (fun i W => ∃ k : Nat, k ≤ l.length ∧ i = .int .i64 k ∧ Arr W w.heap.size 1440 (fun m => inL (l.take k) m) ∧ Below w.heap.size w W) (fun i _ => l.length - (intOf i).toNat)
  case atStart => exact ⟨0, Nat.zero_le _, rfl, (Arr.new w 4).congr (by simp [inL]), ext_alloc (ext_refl _) _⟩
  case round =>
    obtain ⟨k, hk, rfl, har, hB⟩ := hrel
    by_cases hlt : k < l.length
    rotate_left
    · go_wp2_with fail
      go_ret
      rw [List.take_of_length_le (by omega)] at har
      exact ⟨⟨_, rfl, Nat.le_refl _, har⟩, hB⟩
    obtain ⟨x, b1, o1, hx, rfl, hb1, hc⟩ := (ha.ext hB).at_ hlt
    have c0 := hc 0 _ rfl
    have c1 := hc 1 _ rfl
    simp only [Nat.add_zero] at c0
    clear hc
    have hi1 : (k : Int) < l.length := by omega
    have HX := Lib.hid hx
    clear hx
    obtain ⟨wo, rfl⟩ : ∃ wo, wo = wr := ⟨_, rfl⟩
    go_wp2_with fail
    all_goals
      go_loopw [5] (fun i W => ∃ j : Int, i = .int .i64 j ∧ 0 ≤ j ∧ x.f ≤ j ∧ (j = x.f ∨ j = 0 ∨ (j ≤ x.t ∧ j ≤ 1440)) ∧ Arr W w.heap.size 1440 (fun m => inL (l.take k) m || (decide (x.f ≤ m) && decide ((m : Int) < j))) ∧ Below w.heap.size w W) (fun i _ => (1440 - intOf i).toNat)
      case atStart => exact ⟨_, rfl, by omega, by omega, by omega, har.congr (fun m _ => by simp; intro a b; omega), hB⟩
      case round =>
        obtain ⟨j, rfl, j0, j1, j2, ha2, hB2⟩ := hrel
        obtain ⟨x', b1', o1', hx', he', hb1', hc'⟩ := (ha.ext hB2).at_ hlt
        cases he'
        obtain rfl : x = x' := Option.some.inj (HX.out.symm.trans hx')
        have q1 := hc' 1 _ rfl
        clear hx' hc'
        by_cases hj : j < x.t ∧ j < 1440
        · obtain ⟨hja, hjb⟩ := hj
          obtain ⟨m, rfl⟩ : ∃ m : Nat, j = m := ⟨j.toNat, by omega⟩
          have hm : m < 1440 := by omega
          obtain ⟨hcm, hfm⟩ := ha2.2 m hm
          go_wp2_with fail
          all_goals first | (exfalso; omega) | skip
          all_goals
            exact ⟨⟨(m : Int) + 1, rfl, by omega, by omega, by omega, (ha2.set m hm true).congr (fun i _ => set_ok i m (fun i => inL (l.take k) i) x.f j1), hB2.setCell (p := ⟨w.heap.size, m, none⟩) (Nat.le_refl _) _⟩, by simp [intOf]; omega⟩
        · have hfin : Arr wr w.heap.size 1440 (fun m => inL (l.take (k + 1)) m) := ha2.congr (fun i hi => by
            rw [List.take_add_one, HX.out]
            simp only [inL, Option.toList_some, List.any_append, List.any_cons, List.any_nil, Bool.or_false, inS]
            congr 1
            by_cases e : x.f ≤ i <;> simp [e] <;> omega)
          go_wp2_with fail
          all_goals first | (exfalso; omega) | skip
          all_goals
            go_roundw
            case rel => exact ⟨k + 1, hlt, by go_num, hfin, hB2⟩
            case measure => simp [intOf]; omega
end Go.Proofs.Ytmgpbjpohbpgpaa
