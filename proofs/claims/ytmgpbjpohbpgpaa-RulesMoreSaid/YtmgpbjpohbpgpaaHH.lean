/- The reference's spans. -/
import Derived.Test.YtmgpbjpohbpgpaaHG
import Derived.Test.YtmgpbjpohbpgpaaOSet
set_option linter.unusedSimpArgs false
set_option linter.unusedVariables false
namespace Go.Proofs.Ytmgpbjpohbpgpaa
open Go.RowKit Go.Shelf
set_option maxRecDepth 100000 in
set_option maxHeartbeats 800000 in
theorem rspans_any (b : Nat) (f : Nat → Bool) (w : World) (har : Arr w b 1440 f) :
    Calls Try.prog 72 #[.slice (some ⟨b, 0, none⟩) 1440 1440] w (RetS w (nrm f)) := by
  go_enter Try.func72, Try.ntmps72
  go_wp2_with fail
  go_loopw [3, 4] (fun v i W => ∃ k : Nat, k ≤ 1440 ∧ i = .int .i64 k ∧ Own W w.heap.size 40 Sp.cells 2 v (runs f k) ∧ Below w.heap.size w W) (fun _ i _ => 1440 - (intOf i).toNat)
  case atStart => exact ⟨0, Nat.zero_le _, rfl, Own.made w _ 40 Sp.cells 2 (Nat.le_refl _), ext_alloc (ext_refl w) _⟩
  case round =>
    obtain ⟨k, hk, rfl, hO, hB⟩ := hrel
    by_cases hlt : k < 1440
    rotate_left
    · obtain rfl : k = 1440 := by omega
      obtain ⟨A, c, rfl, hc, _, _⟩ := hO.form
      go_wp2_with fail
      go_ret
      exact ⟨A, c, rfl, hO.slc (fun _ => rfl) (by decide), hB⟩
    have hlt' : (k : Int) < 1440 := by omega
    have cq := ((har.ext hB).2 k hlt).1
    cases hfk : f k
    · rw [hfk] at cq
      go_wp2_with fail
      go_roundw
      case rel => exact ⟨k + 1, hlt, by go_num, by rw [runs_no hfk]; exact hO, hB⟩
      case measure => simp [intOf]; omega
    · rw [hfk] at cq
      have HR : Hid (runs f (k + 1) = stp (runs f k) k) := runs_yes hfk
      have hlen := runs_len f k
      clear hfk
      rcases nil_or_snoc (runs f k) with e | ⟨r, s, e⟩
      · rw [e] at hO HR
        obtain ⟨A, c, rfl, hc, _, _⟩ := hO.form
        have hS := slc_litH wr [(⟨k, k + 1⟩ : Sp)] #[.int .i64 k, .int .i64 (k + 1)] 40 (enc := Sp.cells) (sz := 2) (fun _ => rfl) rfl wr.heap.size rfl
        obtain ⟨v', w5, hrun, hO5, hg5, hat5⟩ := (hO.alloc (.cells #[.int .i64 k, .int .i64 (k + 1)] 40)).append I22 46 (ys := [(⟨k, k + 1⟩ : Sp)]) (m := 1) rfl 1 hS (by simp only [List.length_append, List.length_cons, List.length_nil]; omega) (by unfold maxLen; simp only [List.length_append, List.length_cons, List.length_nil]; omega) (by have := hB.size; simp; omega)
        have hB5 : Below w.heap.size w w5 := (ext_alloc hB _).grown hg5 (by have := hB.size; simp; omega) (fun r e => (hO.lt r e).2)
        have HRUN := Lib.hid hrun
        have HO5 := Lib.hid hO5
        clear hrun hO5 hg5 hat5 hS har
        go_wp2_with (at_builtin; refine wpList_append_run rfl (.tmp 39) (.tmp 44) 46 rfl (.slice A 0 c) (.slice (some ⟨wr.heap.size, 0, none⟩) 1 1) rfl rfl HRUN.out ?_)
        go_roundw
        case rel => exact ⟨k + 1, hlt, by go_num, by rw [HR.out, stp_nil]; exact HO5.out, hB5⟩
        case measure => simp [intOf]; omega
      · have hrl : (runs f k).length = r.length + 1 := by rw [e]; simp
        rw [e] at hO HR
        obtain ⟨g, c, cur, rfl, hc, hg1, hg2, hg3⟩ := hO.some_ (by simp)
        have hS : Slc wr Sp.cells 2 _ (r ++ [s]) := hO.slc (fun _ => rfl) (by decide)
        obtain ⟨_, _, e1, _, hcs⟩ := hS r.length s (by simp)
        cases e1
        have t1 := hcs 1 _ rfl
        have hfz := hO.frozen (r.length * 2 + 1)
        have hlr : (r ++ [s]).length = r.length + 1 := by simp
        simp only [Nat.zero_add] at t1
        rw [hlr] at hO hc ⊢
        have hrk : r.length + 1 ≤ k := by omega
        clear hcs hS hg3 e hlen hrl
        have hr0 : (0 : Int) < (r.length : Int) + 1 := by omega
        have hsub : (r.length : Int) + 1 - 1 = r.length := by omega
        by_cases hst : s.t = k
        · have ht : (s.t == (k : Int)) = true := by simpa using hst
          have hO5 := Own.set_ (enc := Sp.cells) (sz := 2) (l := r ++ [s]) (fun _ => rfl) hO (k := r.length) (r := 1) (x := s) (y := ⟨s.f, k + 1⟩) (v := .int .i64 (k + 1)) (by simp) (by decide) rfl
          have hB5 := hB.setCell (p := ⟨g, r.length * 2 + 1, none⟩) hg1 (.int .i64 ((k : Int) + 1))
          have HO5 := Lib.hid hO5
          have HST := Lib.hid hst
          clear hO5 har hst
          go_wp2_with fail
          exact ⟨⟨k + 1, hlt, by go_num, by rw [HR.out, stp_snoc, if_pos HST.out]; have := HO5.out; rwa [List.set_append_right _ _ (Nat.le_refl _), Nat.sub_self] at this, hB5⟩, by simp [intOf]; omega⟩
        · have ht : (s.t == (k : Int)) = false := by simpa using hst
          have HST := Lib.hid hst
          clear hst
          have hS := slc_litH wr [(⟨k, k + 1⟩ : Sp)] #[.int .i64 k, .int .i64 (k + 1)] 40 (enc := Sp.cells) (sz := 2) (fun _ => rfl) rfl wr.heap.size rfl
          obtain ⟨v', w5, hrun, hO5, hg5, hat5⟩ := (hO.alloc (.cells #[.int .i64 k, .int .i64 (k + 1)] 40)).append I22 46 (ys := [(⟨k, k + 1⟩ : Sp)]) (m := 1) rfl 1 hS (by simp only [List.length_append, List.length_cons, List.length_nil]; omega) (by unfold maxLen; simp only [List.length_append, List.length_cons, List.length_nil]; omega) (by have := hB.size; simp; omega)
          have hB5 : Below w.heap.size w w5 := (ext_alloc hB _).grown hg5 (by have := hB.size; simp; omega) (fun r e => (hO.lt r e).2)
          have HRUN := Lib.hid hrun
          have HO5 := Lib.hid hO5
          clear hrun hO5 hg5 hat5 hS har
          go_wp2_with (at_builtin; refine wpList_append_run rfl (.tmp 39) (.tmp 44) 46 rfl (.slice (some ⟨g, 0, none⟩) (r.length + 1) c) (.slice (some ⟨wr.heap.size, 0, none⟩) 1 1) rfl rfl HRUN.out ?_)
          go_roundw
          case rel => exact ⟨k + 1, hlt, by go_num, by rw [HR.out, stp_snoc, if_neg HST.out]; exact HO5.out, hB5⟩
          case measure => simp [intOf]; omega
end Go.Proofs.Ytmgpbjpohbpgpaa
