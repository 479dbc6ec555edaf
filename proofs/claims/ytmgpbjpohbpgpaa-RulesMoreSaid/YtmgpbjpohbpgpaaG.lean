/- Contracts: slices.Clone. -/
import Derived.Test.YtmgpbjpohbpgpaaHE
import Derived.Test.YtmgpbjpohbpgpaaApp3
import Derived.Lib.SliceRun
set_option linter.unusedSimpArgs false
set_option linter.unusedVariables false
namespace Go.Proofs.Ytmgpbjpohbpgpaa
open Go.RowKit
/-- An index in memory. -/
def nc (k : Nat) : List Value := [.int .i64 (k : Int)]
theorem info3 : (Try.prog.info? 3).map (fun i => (i.zero, i.size, i.bytes)) = some (some (.int .i64 0), 1, 8) := by kernel_rfl
theorem I34 : EInfo Try.prog 34 3 nc 1 8 := by
  obtain ⟨i0, hi, hz0, hz1, hz2⟩ := info_parts info3
  exact ⟨Try.underlying34, ⟨i0, _, hi, hz0, hz1, hz2, rfl⟩, by decide, fun _ => rfl, fun x => by simp [nc, Value.oneCell']⟩
def CloneRS (w : World) (l : List Sp) (e : Ending) (w' : World) : Prop := ∃ A c, e = .returned (.slice A l.length c) ∧ Own w' w.heap.size 40 Sp.cells 2 (.slice A l.length c) l ∧ Below w.heap.size w w'
theorem eqnilS (w : World) (a : Option Addr) (n c : Nat) : (binOp .eql 46 (.slice a n c) (.slice none 0 0)).run Try.prog w = .ok (.bool a.isNone) w := by
  exact Lib.run_eql_slice_nil w 46 40 a n c 0 0 Try.underlying46
set_option maxRecDepth 100000 in
set_option maxHeartbeats 400000 in
theorem cloneS_any (A : Option Addr) (c n : Nat) (l : List Sp) (w : World) (hn : n = l.length) (ha : Slc w Sp.cells 2 A l) (hl : l.length ≤ 1048576) : Calls Try.prog 61 #[.slice A n c] w (CloneRS w l) := by
  subst hn
  cases A with
  | none =>
    have hl0 : l = [] := List.eq_nil_of_length_eq_zero (ha.none_len rfl)
    subst hl0
    clear ha hl
    have hnil := fun w => eqnilS w none 0 c
    simp only [Option.isNone_none] at hnil
    go_enter Try.func61, Try.ntmps61
    go_wp2_with fail
    all_goals
      go_ret
      exact ⟨none, 0, rfl, Own.nil _ _ _ _ _, ext_refl w⟩
  | some a =>
    obtain ⟨v', w', hrun, A', c', rfl, hO', hE', _, _, _⟩ := Own.append_to (w0 := w) I22 46 (Own.made w w.heap.size 40 Sp.cells 2 (Nat.le_refl _)) (ext_alloc (ext_refl w) _) (ys := l) (m := l.length) rfl c (ha.ext (ext_alloc (ext_refl w) _)) (by simp; omega) (by unfold maxLen; simp; omega)
    have HR := Lib.hid hrun
    have HO := Lib.hid hO'
    clear hrun hO' hl
    have SA := Lib.hid ha
    clear ha
    clear SA
    have hnil := fun w => eqnilS w (some a) l.length c
    simp only [Option.isNone_some] at hnil
    go_enter Try.func61, Try.ntmps61
    go_wp2_with (first | (at_builtin; refine wpList_append_run rfl (.tmp 5) (.tmp 6) 46 rfl (.slice (some ⟨w.heap.size, 0, none⟩) 0 0) (.slice (some a) l.length c) rfl rfl HR.out ?_) | fail)
    go_ret
    exact ⟨A', c', by simp, by simpa using HO.out, hE'⟩
def CloneRN (w : World) (l : List Nat) (e : Ending) (w' : World) : Prop := ∃ A c, e = .returned (.slice A l.length c) ∧ Own w' w.heap.size 3 nc 1 (.slice A l.length c) l ∧ Below w.heap.size w w'
theorem eqnilN (w : World) (a : Option Addr) (n c : Nat) : (binOp .eql 34 (.slice a n c) (.slice none 0 0)).run Try.prog w = .ok (.bool a.isNone) w := by
  exact Lib.run_eql_slice_nil w 34 3 a n c 0 0 Try.underlying34
set_option maxRecDepth 100000 in
set_option maxHeartbeats 400000 in
theorem cloneN_any (A : Option Addr) (c n : Nat) (l : List Nat) (w : World) (hn : n = l.length) (ha : Slc w nc 1 A l) (hl : l.length ≤ 1048576) : Calls Try.prog 45 #[.slice A n c] w (CloneRN w l) := by
  subst hn
  cases A with
  | none =>
    have hl0 : l = [] := List.eq_nil_of_length_eq_zero (ha.none_len rfl)
    subst hl0
    clear ha hl
    have hnil := fun w => eqnilN w none 0 c
    simp only [Option.isNone_none] at hnil
    go_enter Try.func45, Try.ntmps45
    go_wp2_with fail
    all_goals
      go_ret
      exact ⟨none, 0, rfl, Own.nil _ _ _ _ _, ext_refl w⟩
  | some a =>
    obtain ⟨v', w', hrun, A', c', rfl, hO', hE', _, _, _⟩ := Own.append_to (w0 := w) I34 34 (Own.made w w.heap.size 3 nc 1 (Nat.le_refl _)) (ext_alloc (ext_refl w) _) (ys := l) (m := l.length) rfl c (ha.ext (ext_alloc (ext_refl w) _)) (by simp; omega) (by unfold maxLen; simp; omega)
    have HR := Lib.hid hrun
    have HO := Lib.hid hO'
    clear hrun hO' hl
    have SA := Lib.hid ha
    clear ha
    clear SA
    have hnil := fun w => eqnilN w (some a) l.length c
    simp only [Option.isNone_some] at hnil
    go_enter Try.func45, Try.ntmps45
    go_wp2_with (first | (at_builtin; refine wpList_append_run rfl (.tmp 5) (.tmp 6) 34 rfl (.slice (some ⟨w.heap.size, 0, none⟩) 0 0) (.slice (some a) l.length c) rfl rfl HR.out ?_) | fail)
    go_ret
    exact ⟨A', c', by simp, by simpa using HO.out, hE'⟩
end Go.Proofs.Ytmgpbjpohbpgpaa
