/- Contracts: slices.Clone; an agreement put at its place. -/
import Derived.Test.YtmnbeikhjbjpiaaF
import Derived.Test.YtmnbeikhjbjpiaaI
import Derived.Lib.SliceRun
set_option linter.unusedSimpArgs false
set_option linter.unusedVariables false
namespace Go.Proofs.Ytmnbeikhjbjpiaa
open Go.RowKit
def CloneR (w : World) (l : List Ag) (e : Ending) (w' : World) : Prop := ∃ A c, e = .returned (.slice A l.length c) ∧ Own w' w.heap.size 26 Ag.cells 5 (.slice A l.length c) l ∧ Below w.heap.size w w'
theorem eqnil22 (w : World) (a : Option Addr) (n c : Nat) : (binOp .eql 22 (.slice a n c) (.slice none 0 0)).run Try.prog w = .ok (.bool a.isNone) w := by
  exact Lib.run_eql_slice_nil w 22 26 a n c 0 0 Try.underlying22
set_option maxRecDepth 100000 in
set_option maxHeartbeats 400000 in
theorem clone_any (A : Option Addr) (c n : Nat) (l : List Ag) (w : World) (hn : n = l.length) (ha : Slc w Ag.cells 5 A l) (hl : l.length ≤ 1048576) : Calls Try.prog 58 #[.slice A n c] w (CloneR w l) := by
  subst hn
  cases A with
  | none =>
    have hl0 : l = [] := List.eq_nil_of_length_eq_zero (ha.none_len rfl)
    subst hl0
    clear ha hl
    have hnil := fun w => eqnil22 w none 0 c
    simp only [Option.isNone_none] at hnil
    go_enter Try.func58, Try.ntmps58
    go_wp2_with fail
    all_goals
      go_ret
      exact ⟨none, 0, rfl, Own.nil _ _ _ _ _, ext_refl w⟩
  | some a =>
    obtain ⟨v', w', hrun, A', c', rfl, hO', hE', _, _, _⟩ := Own.append_to (w0 := w) agI 22 (Own.made w w.heap.size 26 Ag.cells 5 (Nat.le_refl _)) (ext_alloc (ext_refl w) _) (ys := l) (m := l.length) rfl c (ha.ext (ext_alloc (ext_refl w) _)) (by simp; omega) (by unfold maxLen; simp; omega)
    have HR := Lib.hid hrun
    have HO := Lib.hid hO'
    clear hrun hO' hl
    have SA := Lib.hid ha
    clear ha
    clear SA
    have hnil := fun w => eqnil22 w (some a) l.length c
    simp only [Option.isNone_some] at hnil
    go_enter Try.func58, Try.ntmps58
    go_wp2_with (first | (at_builtin; refine wpList_append_run rfl (.tmp 5) (.tmp 6) 22 rfl (.slice (some ⟨w.heap.size, 0, none⟩) 0 0) (.slice (some a) l.length c) rfl rfl HR.out ?_) | fail)
    go_ret
    exact ⟨A', c', by simp, by simpa using HO.out, hE'⟩
def PutR (w : World) (l : List Ag) (e : Ending) (w' : World) : Prop := ∃ A c, e = .returned (.slice A l.length c) ∧ Own w' w.heap.size 26 Ag.cells 5 (.slice A l.length c) l ∧ Below w.heap.size w w'
set_option maxHeartbeats 800000 in
theorem put_any (a : Ag) (A : Option Addr) (c n : Nat) (l : List Ag) (w : World) (hn : n = l.length) (ha : Slc w Ag.cells 5 A l) (hlm : l.length ≤ 1000) (hl : l.Pairwise (fun x y => x.no < y.no)) (hb : ∀ x ∈ l, 1 ≤ x.no ∧ x.no ≤ 1048576) (hab : 1 ≤ a.no ∧ a.no ≤ 1048576) :
    Calls Try.prog 37 #[.slice A n c, a.v] w (PutR w (putL l a)) := by
  subst hn
  have HL := Lib.hid hl
  have HB := Lib.hid hb
  have HA := Lib.hid hab
  have SL := Lib.hid ha
  clear hl hb hab ha
  have E := Lib.hid (ext_refl w)
  replace E := Lib.hid (ext_alloc E.out (.cells #[.int .i64 a.no, .int .i64 a.f, .int .i64 a.t, .int .i64 a.m, .int .i64 a.r] 26))
  replace SL := Lib.hid (SL.out.alloc (.cells #[.int .i64 a.no, .int .i64 a.f, .int .i64 a.t, .int .i64 a.m, .int .i64 a.r] 26))
  have X := Lib.hid (Blk.newH w [.int .i64 a.no, .int .i64 a.f, .int .i64 a.t, .int .i64 a.m, .int .i64 a.r] 26 (w.heap.size) (by first | rfl | simp))
  go_enter Try.func37, Try.ntmps37
  go_wp2_with fail
  refine (bsearch_any a A c l _ SL.out (by omega) HL.out HB.out HA.out).mono ?_
  rintro e v1 ⟨k, r, rfl, hcut, B⟩
  replace E := Lib.hid (ext_trans E.out B)
  replace SL := Lib.hid (SL.out.ext B)
  replace X := Lib.hid (X.out.ext B)
  clear B
  have HC := Lib.hid hcut
  clear hcut
  go_wp2_with fail
  have SS := Lib.hid (show ∀ w', Below v1.heap.size v1 w' → (fun w' => Below v1.heap.size v1 w' ∧ w'.cell? ⟨w.heap.size, 0, none⟩ = some (.int .i64 a.no) ∧ w'.cell? ⟨w.heap.size, 1, none⟩ = some (.int .i64 a.f) ∧ w'.cell? ⟨w.heap.size, 2, none⟩ = some (.int .i64 a.t) ∧ w'.cell? ⟨w.heap.size, 3, none⟩ = some (.int .i64 a.m) ∧ w'.cell? ⟨w.heap.size, 4, none⟩ = some (.int .i64 a.r)) w' from fun w' h => ⟨h, (X.out.ext h).c 0 _ rfl, (X.out.ext h).c 1 _ rfl, (X.out.ext h).c 2 _ rfl, (X.out.ext h).c 3 _ rfl, (X.out.ext h).c 4 _ rfl⟩)
  refine rg_begin (S := (fun w' => Below v1.heap.size v1 w' ∧ w'.cell? ⟨w.heap.size, 0, none⟩ = some (.int .i64 a.no) ∧ w'.cell? ⟨w.heap.size, 1, none⟩ = some (.int .i64 a.f) ∧ w'.cell? ⟨w.heap.size, 2, none⟩ = some (.int .i64 a.t) ∧ w'.cell? ⟨w.heap.size, 3, none⟩ = some (.int .i64 a.m) ∧ w'.cell? ⟨w.heap.size, 4, none⟩ = some (.int .i64 a.r))) 7 (by kernel_rfl) (by intro d; cases d <;> intro _ _ _ _ h <;> exact h) ?_ (fun Q7 hQ7 hN7 hHeld => ?_)
  · exact SS.out _ (ext_drew (ext_refl _))
  refine rg_take (i := 0) (some 13) (v := ?_) rfl rfl (by kernel_rfl) (by rfl) hQ7 hHeld ?_ ?_
  rotate_left
  · intro w7 hSw; (try dsimp only at hSw); go_simp; all_goals with_reducible rfl
  try simp only [Act.put, List.setIfInBounds_toArray, List.set_cons_zero, List.set_cons_succ]
  refine rg_take (i := 2) (some 15) (v := ?_) rfl rfl (by kernel_rfl) (by rfl) hQ7 hHeld ?_ ?_
  rotate_left
  · intro w7 hSw; (try dsimp only at hSw); go_simp; all_goals with_reducible rfl
  try simp only [Act.put, List.setIfInBounds_toArray, List.set_cons_zero, List.set_cons_succ]
  refine rg_take (i := 3) (some 16) (v := ?_) rfl rfl (by kernel_rfl) (by rfl) hQ7 hHeld ?_ ?_
  rotate_left
  · intro w7 hSw; (try dsimp only at hSw); go_simp; all_goals with_reducible rfl
  try simp only [Act.put, List.setIfInBounds_toArray, List.set_cons_zero, List.set_cons_succ]
  refine rg_two (i := 1) (j := 4) (by kernel_rfl) (rg_step rfl (by rfl) (fun K hK => ?_)) (rg_step rfl (by rfl) (fun K hK => ?_))
  · go_simp
    refine (clone_any A c _ l _ rfl (SL.out.ext hHeld.1) (by omega)).mono ?_
    rintro e w1 ⟨A1, c1, rfl, hO1, B1⟩
    go_wp2_with fail
    refine hK.out _ _ ?_ (fun hHeld2 => ?_)
    · exact SS.out _ (ext_trans hHeld.1 B1)
    clear hHeld
    have hHeld := hHeld2
    clear hHeld2
    clear hK K
    try simp only [Act.put, List.setIfInBounds_toArray, List.set_cons_zero, List.set_cons_succ]
    refine rg_one (i := 4) (by kernel_rfl) (rg_step rfl (by rfl) (fun K hK => ?_))
    go_simp
    refine hK.out _ _ ?_ (fun hHeld2 => ?_)
    · exact SS.out _ (ext_alloc hHeld.1 _)
    clear hHeld
    have hHeld := hHeld2
    clear hHeld2
    clear hK K
    try simp only [Act.put, List.setIfInBounds_toArray, List.set_cons_zero, List.set_cons_succ]
    refine rg_one (i := 5) (by kernel_rfl) (rg_step rfl (by rfl) (fun K hK => ?_))
    go_simp
    refine (insertAg v1 _ A1 l.length c1 l k a w1.heap.size rfl HC.out.1 (Own.low (hO1.alloc _) (by simp)) hHeld.1 (by omega) (heap_alloc_new w1 _) (fun g hg => by have := (hO1.lt g hg).1; omega)).mono ?_
    rintro e w2 ⟨A2, c2, rfl, hO2, B2⟩
    go_wp2_with fail
    refine hK.out _ _ ?_ (fun hHeld2 => ?_)
    · exact SS.out _ B2
    clear hHeld
    have hHeld := hHeld2
    clear hHeld2
    clear hK K
    try simp only [Act.put, List.setIfInBounds_toArray, List.set_cons_zero, List.set_cons_succ]
    refine rg_take (i := 6) (some 4) (v := ?_) rfl rfl (by kernel_rfl) (by rfl) hQ7 hHeld ?_ ?_
    rotate_left
    · intro w7 hSw; (try dsimp only at hSw); go_simp; all_goals with_reducible rfl
    try simp only [Act.put, List.setIfInBounds_toArray, List.set_cons_zero, List.set_cons_succ]
    refine rg_end (by kernel_rfl) (hN7 _ _ ?_) _
    clear hQ7 hN7 Q7
    have BX := hHeld.1
    clear SS
    go_wp2_with fail
    go_ret
    have HP := ins_cut HC.out a
    have hlen := ins_len (p := fun x : Ag => decide (x.no < a.no)) (l := l) (a := a)
    unfold PutR putL
    rw [hlen, ← HP]
    exact ⟨A2, c2, rfl, hO2.low E.out.size, ext_trans E.out B2⟩
  · go_simp
    refine hK.out _ _ ?_ (fun hHeld2 => ?_)
    · exact SS.out _ (ext_alloc hHeld.1 _)
    clear hHeld
    have hHeld := hHeld2
    clear hHeld2
    clear hK K
    try simp only [Act.put, List.setIfInBounds_toArray, List.set_cons_zero, List.set_cons_succ]
    refine rg_one (i := 1) (by kernel_rfl) (rg_step rfl (by rfl) (fun K hK => ?_))
    go_simp
    refine (clone_any A c _ l _ rfl (SL.out.ext hHeld.1) (by omega)).mono ?_
    rintro e w1 ⟨A1, c1, rfl, hO1, B1⟩
    go_wp2_with fail
    refine hK.out _ _ ?_ (fun hHeld2 => ?_)
    · exact SS.out _ (ext_trans hHeld.1 B1)
    clear hHeld
    have hHeld := hHeld2
    clear hHeld2
    clear hK K
    try simp only [Act.put, List.setIfInBounds_toArray, List.set_cons_zero, List.set_cons_succ]
    refine rg_one (i := 5) (by kernel_rfl) (rg_step rfl (by rfl) (fun K hK => ?_))
    go_simp
    refine (insertAg v1 _ A1 l.length c1 l k a v1.heap.size rfl HC.out.1 (Own.low hO1 (by simp)) hHeld.1 (by omega) ((B1.block _ (by simp)).trans (heap_alloc_new _ _)) (fun g hg => by have := (hO1.lt g hg).2; simp at this; omega)).mono ?_
    rintro e w2 ⟨A2, c2, rfl, hO2, B2⟩
    go_wp2_with fail
    refine hK.out _ _ ?_ (fun hHeld2 => ?_)
    · exact SS.out _ B2
    clear hHeld
    have hHeld := hHeld2
    clear hHeld2
    clear hK K
    try simp only [Act.put, List.setIfInBounds_toArray, List.set_cons_zero, List.set_cons_succ]
    refine rg_take (i := 6) (some 4) (v := ?_) rfl rfl (by kernel_rfl) (by rfl) hQ7 hHeld ?_ ?_
    rotate_left
    · intro w7 hSw; (try dsimp only at hSw); go_simp; all_goals with_reducible rfl
    try simp only [Act.put, List.setIfInBounds_toArray, List.set_cons_zero, List.set_cons_succ]
    refine rg_end (by kernel_rfl) (hN7 _ _ ?_) _
    clear hQ7 hN7 Q7
    have BX := hHeld.1
    clear SS
    go_wp2_with fail
    go_ret
    have HP := ins_cut HC.out a
    have hlen := ins_len (p := fun x : Ag => decide (x.no < a.no)) (l := l) (a := a)
    unfold PutR putL
    rw [hlen, ← HP]
    exact ⟨A2, c2, rfl, hO2.low E.out.size, ext_trans E.out B2⟩
end Go.Proofs.Ytmnbeikhjbjpiaa
