/- Contracts: slices.Clone; a credit is earned. -/
import Derived.Test.YtafglcalimcdcaaD
import Derived.Test.YtafglcalimcdcaaF
import Derived.Test.YtafglcalimcdcaaI
import Derived.Test.YtafglcalimcdcaaPl
import Derived.Test.YtafglcalimcdcaaOSet
import Derived.Lib.SliceRun
set_option linter.unusedSimpArgs false
set_option linter.unusedVariables false
namespace Go.Proofs.Ytafglcalimcdcaa
open Go.RowKit
def CloneR (w : World) (l : List Cr) (e : Ending) (w' : World) : Prop := ∃ A c, e = .returned (.slice A l.length c) ∧ Own w' w.heap.size 24 Cr.cells 3 (.slice A l.length c) l ∧ Below w.heap.size w w'
theorem eqnil22 (w : World) (a : Option Addr) (n c : Nat) : (binOp .eql 22 (.slice a n c) (.slice none 0 0)).run Try.prog w = .ok (.bool a.isNone) w := by
  exact Lib.run_eql_slice_nil w 22 24 a n c 0 0 Try.underlying22
set_option maxRecDepth 100000 in
set_option maxHeartbeats 400000 in
theorem clone_any (A : Option Addr) (c n : Nat) (l : List Cr) (w : World) (hn : n = l.length) (ha : Slc w Cr.cells 3 A l) (hl : l.length ≤ 1048576) : Calls Try.prog 18 #[.slice A n c] w (CloneR w l) := by
  subst hn
  cases A with
  | none =>
    have hl0 : l = [] := List.eq_nil_of_length_eq_zero (ha.none_len rfl)
    subst hl0
    clear ha hl
    have hnil := fun w => eqnil22 w none 0 c
    simp only [Option.isNone_none] at hnil
    go_enter Try.func18, Try.ntmps18
    go_wp2_with fail
    all_goals
      go_ret
      exact ⟨none, 0, rfl, Own.nil _ _ _ _ _, ext_refl w⟩
  | some a =>
    obtain ⟨v', w', hrun, A', c', rfl, hO', hE', _, _, _⟩ := Own.append_to (w0 := w) crI 22 (Own.made w w.heap.size 24 Cr.cells 3 (Nat.le_refl _)) (ext_alloc (ext_refl w) _) (ys := l) (m := l.length) rfl c (ha.ext (ext_alloc (ext_refl w) _)) (by simp; omega) (by unfold maxLen; simp; omega)
    have HR := Lib.hid hrun
    have HO := Lib.hid hO'
    clear hrun hO' hl
    have SA := Lib.hid ha
    clear ha
    clear SA
    have hnil := fun w => eqnil22 w (some a) l.length c
    simp only [Option.isNone_some] at hnil
    go_enter Try.func18, Try.ntmps18
    go_wp2_with (first | (at_builtin; refine wpList_append_run rfl (.tmp 5) (.tmp 6) 22 rfl (.slice (some ⟨w.heap.size, 0, none⟩) 0 0) (.slice (some a) l.length c) rfl rfl HR.out ?_) | fail)
    go_ret
    exact ⟨A', c', by simp, by simpa using HO.out, hE'⟩
/-- A list and an error. -/
def LeR (w : World) (L : List Cr) (err : Int) (e : Ending) (w' : World) : Prop := ∃ A c, e = .returned (.tuple #[.slice A L.length c, .int .i64 err]) ∧ Own w' w.heap.size 24 Cr.cells 3 (.slice A L.length c) L ∧ Below w.heap.size w w'
theorem LeR.bad {w w' : World} {L : List Cr} {err : Int} {e : Ending} (h : err = 390 ∧ L = []) (he : e = .returned (.tuple #[.slice none 0 0, .int .i64 390])) (hb : Below w.heap.size w w') : LeR w L err e w' := by
  obtain ⟨rfl, rfl⟩ := h
  exact ⟨none, 0, he, Own.nil _ _ _ _ _, hb⟩
theorem LeR.good {w w' : World} {L M : List Cr} {err : Int} {e : Ending} {A : Option Addr} {n c : Nat} (h : err = 0 ∧ L = M) (he : e = .returned (.tuple #[.slice A n c, .int .i64 0])) (hO : Own w' w.heap.size 24 Cr.cells 3 (.slice A n c) M) (hn : n = M.length) (hb : Below w.heap.size w w') : LeR w L err e w' := by
  obtain ⟨rfl, rfl⟩ := h
  subst hn
  exact ⟨A, c, he, hO, hb⟩
set_option maxHeartbeats 1600000 in
set_option maxRecDepth 100000 in
theorem earn_any (a : Cr) (A : Option Addr) (c : Nat) (l : List Cr) (w : World) (ha : Slc w Cr.cells 3 A l) (hn : l.length ≤ 1000) : Calls Try.prog 8 #[.slice A l.length c, a.v] w (LeR w (earnL l a) (earnE l a)) := by
  obtain ⟨ok, hok⟩ : ∃ v, okC l = v := ⟨_, rfl⟩
  obtain ⟨ft, hft⟩ : ∃ v, fitC a = v := ⟨_, rfl⟩
  have HV := Lib.hid hok
  have HF := Lib.hid hft
  clear hok hft
  cases ok
  · have E := Lib.hid (ext_refl w)
    have SL := Lib.hid (ha)
    clear ha
    replace E := Lib.hid (ext_alloc E.out (.cells #[.int .i64 a.a, .int .i64 a.m, .int .i64 a.u] 24))
    replace SL := Lib.hid (SL.out.alloc (.cells #[.int .i64 a.a, .int .i64 a.m, .int .i64 a.u] 24))
    have X := Lib.hid (Blk.newH w [.int .i64 a.a, .int .i64 a.m, .int .i64 a.u] 24 (w.heap.size) (by first | rfl | simp))
    go_enter Try.func8, Try.ntmps8
    go_wp2_with fail
    refine (check_at 390 (by unfold chkC; rw [HV.out]; rfl) rfl SL.out (by unfold maxLen; omega)).mono ?_
    rintro e v1 ⟨rfl, B⟩
    replace E := Lib.hid (ext_trans E.out B)
    replace SL := Lib.hid (SL.out.ext B)
    replace X := Lib.hid (X.out.ext B)
    clear B
    go_wp2_with fail
    refine bodyPost_ret (v := .tuple #[.slice none 0 0, .int .i64 390]) (by simp [results, Try.results8, go_sem, *]) rfl ?_
    exact LeR.bad (earn_bad (by rw [HV.out]; rfl)) rfl E.out
  cases ft
  · have E := Lib.hid (ext_refl w)
    have SL := Lib.hid (ha)
    clear ha
    replace E := Lib.hid (ext_alloc E.out (.cells #[.int .i64 a.a, .int .i64 a.m, .int .i64 a.u] 24))
    replace SL := Lib.hid (SL.out.alloc (.cells #[.int .i64 a.a, .int .i64 a.m, .int .i64 a.u] 24))
    have X := Lib.hid (Blk.newH w [.int .i64 a.a, .int .i64 a.m, .int .i64 a.u] 24 (w.heap.size) (by first | rfl | simp))
    go_enter Try.func8, Try.ntmps8
    go_wp2_with fail
    refine (check_at 0 (by unfold chkC; rw [HV.out]; rfl) rfl SL.out (by unfold maxLen; omega)).mono ?_
    rintro e v1 ⟨rfl, B⟩
    replace E := Lib.hid (ext_trans E.out B)
    replace SL := Lib.hid (SL.out.ext B)
    replace X := Lib.hid (X.out.ext B)
    clear B
    have c0 := X.out.c 0 _ rfl
    have c1 := X.out.c 1 _ rfl
    have c2 := X.out.c 2 _ rfl
    go_wp2_with fail
    refine (fits_at false HF.out).mono ?_
    rintro e v2 ⟨rfl, B⟩
    clear c0 c1 c2
    replace E := Lib.hid (ext_trans E.out B)
    replace SL := Lib.hid (SL.out.ext B)
    replace X := Lib.hid (X.out.ext B)
    clear B
    go_wp2_with fail
    refine bodyPost_ret (v := .tuple #[.slice none 0 0, .int .i64 390]) (by simp [results, Try.results8, go_sem, *]) rfl ?_
    exact LeR.bad (earn_bad (by rw [HV.out, HF.out]; rfl)) rfl E.out
  · have E := Lib.hid (ext_refl w)
    have SL := Lib.hid (ha)
    clear ha
    replace E := Lib.hid (ext_alloc E.out (.cells #[.int .i64 a.a, .int .i64 a.m, .int .i64 a.u] 24))
    replace SL := Lib.hid (SL.out.alloc (.cells #[.int .i64 a.a, .int .i64 a.m, .int .i64 a.u] 24))
    have X := Lib.hid (Blk.newH w [.int .i64 a.a, .int .i64 a.m, .int .i64 a.u] 24 (w.heap.size) (by first | rfl | simp))
    go_enter Try.func8, Try.ntmps8
    go_wp2_with fail
    refine (check_at 0 (by unfold chkC; rw [HV.out]; rfl) rfl SL.out (by unfold maxLen; omega)).mono ?_
    rintro e v1 ⟨rfl, B⟩
    replace E := Lib.hid (ext_trans E.out B)
    replace SL := Lib.hid (SL.out.ext B)
    replace X := Lib.hid (X.out.ext B)
    clear B
    have c0 := X.out.c 0 _ rfl
    have c1 := X.out.c 1 _ rfl
    have c2 := X.out.c 2 _ rfl
    go_wp2_with fail
    refine (fits_at true HF.out).mono ?_
    rintro e v2 ⟨rfl, B⟩
    clear c0 c1 c2
    replace E := Lib.hid (ext_trans E.out B)
    replace SL := Lib.hid (SL.out.ext B)
    replace X := Lib.hid (X.out.ext B)
    clear B
    have HSZ := Lib.hid E.out.size
    go_wp2_with fail
    refine (clone_any A c _ l _ rfl SL.out (by omega)).mono ?_
    rintro e v3 ⟨A1, C1, rfl, hO1, B⟩
    replace E := Lib.hid (ext_trans E.out B)
    replace SL := Lib.hid (SL.out.ext B)
    replace X := Lib.hid (X.out.ext B)
    clear B
    have O1 := Lib.hid hO1
    clear hO1
    have c0 := X.out.c 0 _ rfl
    have c1 := X.out.c 1 _ rfl
    have c2 := X.out.c 2 _ rfl
    go_wp2_with fail
    refine (bsearch_at rfl (O1.out.slc (fun _ => rfl) (by decide)) (by omega) (ok_iff.1 HV.out)).mono ?_
    rintro e v4 ⟨k, r, rfl, hcut, hr, B⟩
    clear c0 c1 c2
    replace E := Lib.hid (ext_trans E.out B)
    replace SL := Lib.hid (SL.out.ext B)
    replace X := Lib.hid (X.out.ext B)
    replace O1 := Lib.hid (O1.out.ext B)
    clear B
    have HC := Lib.hid hcut
    have HR := Lib.hid hr
    have hkl : k ≤ l.length := hcut.1
    clear hcut hr
    cases r
    · have HNO := Lib.hid (show ¬ ∃ x, l[k]? = some x ∧ bef a x = false from fun h => by have := HR.out.2 h; cases this)
      have c0 := X.out.c 0 _ rfl
      have c1 := X.out.c 1 _ rfl
      have c2 := X.out.c 2 _ rfl
      go_wp2_with fail
      have O2 := Lib.hid (O1.out.low (base' := w.heap.size) HSZ.out)
      refine (insertCr w _ _ l.length C1 l k a v4.heap.size rfl hkl (O2.out.alloc _) (ext_alloc E.out _) (by omega) (heap_alloc_new v4 _) (fun g hg => by have := (O1.out.lt g hg).1; omega)).mono ?_
      rintro e w9 ⟨A2, c2, rfl, hO2, B2⟩
      go_wp2_with fail
      refine bodyPost_ret (v := .tuple #[.slice A2 (l.length + 1) c2, .int .i64 0]) (by simp [results, Try.results8, go_sem, *]) rfl ?_
      exact LeR.good (earn_new HV.out HF.out HC.out HNO.out) rfl hO2 (by simp; omega) B2
    · obtain ⟨x, hx, hb⟩ := HR.out.1 rfl
      have HX := Lib.hid hx
      have HB := Lib.hid hb
      have hlt : k < l.length := (List.getElem?_eq_some_iff.1 hx).1
      have hlt1 : (k : Int) < l.length := by omega
      have hfx := fit_iff.1 (ok_fit HV.out hx)
      have hfa := fit_iff.1 HF.out
      have hwr : IntKind.i64.wrap (x.m + a.m) = x.m + a.m := IntWalk.i64_in _ (by omega)
      have HSM := Lib.hid (sum_eq (cut_same HC.out hx hb))
      have O2 := Lib.hid (O1.out.low (base' := w.heap.size) HSZ.out)
      obtain ⟨g, c', cur, hv0, -, hbg, hgl, -⟩ := O2.out.some_ (show 0 < l.length by omega)
      injection hv0 with hA _ hcc
      subst hA hcc
      clear hfx hfa hx hb
      clear O1 SL
      have SO := Lib.hid (show Slc _ Cr.cells 3 _ l from O2.out.slc (fun _ => rfl) (by decide))
      obtain ⟨b1, o1, hA1, hb1, hd⟩ := SO.out k x HX.out
      injection hA1 with hA1
      injection hA1 with e1 e2
      subst e1 e2
      have d0 := hd 0 _ rfl
      have d1 := hd 1 _ rfl
      have d2 := hd 2 _ rfl
      simp only [Nat.add_zero, Nat.zero_add] at d0 d1 d2
      clear hd
      go_wp2_with fail
      have SS := Lib.hid (show ∀ w', Below v4.heap.size v4 w' → (fun w' => Below v4.heap.size v4 w' ∧ w'.cell? ⟨w.heap.size, 1, none⟩ = some (.int .i64 a.m) ∧ w'.cell? ⟨g, k * 3, none⟩ = some (.int .i64 x.a) ∧ w'.cell? ⟨g, k * 3 + 1, none⟩ = some (.int .i64 x.m) ∧ w'.cell? ⟨g, k * 3 + 2, none⟩ = some (.int .i64 x.u)) w' from fun w' h => ⟨h, (X.out.ext h).c 1 _ rfl, (h.cell (p := ⟨g, k * 3, none⟩) hb1).trans d0, (h.cell (p := ⟨g, k * 3 + 1, none⟩) hb1).trans d1, (h.cell (p := ⟨g, k * 3 + 2, none⟩) hb1).trans d2⟩)
      refine rg_begin (S := (fun w' => Below v4.heap.size v4 w' ∧ w'.cell? ⟨w.heap.size, 1, none⟩ = some (.int .i64 a.m) ∧ w'.cell? ⟨g, k * 3, none⟩ = some (.int .i64 x.a) ∧ w'.cell? ⟨g, k * 3 + 1, none⟩ = some (.int .i64 x.m) ∧ w'.cell? ⟨g, k * 3 + 2, none⟩ = some (.int .i64 x.u))) 10 (by kernel_rfl) (by intro d; cases d <;> intro _ _ _ _ h <;> exact h) ?_ (fun Q7 hQ7 hN7 hHeld => ?_)
      · exact SS.out _ (ext_drew (ext_refl _))
      refine rg_take (i := 0) (some 31) (v := ?_) rfl rfl (by kernel_rfl) (by rfl) hQ7 hHeld ?_ ?_
      rotate_left
      · intro w7 hSw; (try dsimp only at hSw); go_simp; all_goals with_reducible rfl
      try simp only [Act.put, List.setIfInBounds_toArray, List.set_cons_zero, List.set_cons_succ]
      refine rg_take (i := 1) (some 32) (v := ?_) rfl rfl (by kernel_rfl) (by rfl) hQ7 hHeld ?_ ?_
      rotate_left
      · intro w7 hSw; (try dsimp only at hSw); go_simp; all_goals with_reducible rfl
      try simp only [Act.put, List.setIfInBounds_toArray, List.set_cons_zero, List.set_cons_succ]
      refine rg_take (i := 2) (some 33) (v := ?_) rfl rfl (by kernel_rfl) (by rfl) hQ7 hHeld ?_ ?_
      rotate_left
      · intro w7 hSw; (try dsimp only at hSw); go_simp; all_goals with_reducible rfl
      try simp only [Act.put, List.setIfInBounds_toArray, List.set_cons_zero, List.set_cons_succ]
      refine rg_take (i := 3) (some 34) (v := ?_) rfl rfl (by kernel_rfl) (by rfl) hQ7 hHeld ?_ ?_
      rotate_left
      · intro w7 hSw; (try dsimp only at hSw); go_simp; all_goals with_reducible rfl
      try simp only [Act.put, List.setIfInBounds_toArray, List.set_cons_zero, List.set_cons_succ]
      refine rg_take (i := 4) (some 35) (v := ?_) rfl rfl (by kernel_rfl) (by rfl) hQ7 hHeld ?_ ?_
      rotate_left
      · intro w7 hSw; (try dsimp only at hSw); go_simp; all_goals with_reducible rfl
      try simp only [Act.put, List.setIfInBounds_toArray, List.set_cons_zero, List.set_cons_succ]
      refine rg_take (i := 5) (some 36) (v := ?_) rfl rfl (by kernel_rfl) (by rfl) hQ7 hHeld ?_ ?_
      rotate_left
      · intro w7 hSw; (try dsimp only at hSw); go_simp; all_goals with_reducible rfl
      try simp only [Act.put, List.setIfInBounds_toArray, List.set_cons_zero, List.set_cons_succ]
      refine rg_take (i := 6) (some 37) (v := ?_) rfl rfl (by kernel_rfl) (by rfl) hQ7 hHeld ?_ ?_
      rotate_left
      · intro w7 hSw; (try dsimp only at hSw); go_simp; all_goals with_reducible rfl
      try simp only [Act.put, List.setIfInBounds_toArray, List.set_cons_zero, List.set_cons_succ]
      refine rg_take (i := 7) (some 38) (v := ?_) rfl rfl (by kernel_rfl) (by rfl) hQ7 hHeld ?_ ?_
      rotate_left
      · intro w7 hSw; (try dsimp only at hSw); go_simp; all_goals with_reducible rfl
      try simp only [Act.put, List.setIfInBounds_toArray, List.set_cons_zero, List.set_cons_succ]
      refine rg_take (i := 8) (some 39) (v := ?_) rfl rfl (by kernel_rfl) (by rfl) hQ7 hHeld ?_ ?_
      rotate_left
      · intro w7 hSw; (try dsimp only at hSw); go_simp; all_goals with_reducible rfl
      try simp only [Act.put, List.setIfInBounds_toArray, List.set_cons_zero, List.set_cons_succ]
      refine rg_take (i := 9) (some 40) (v := ?_) rfl rfl (by kernel_rfl) (by rfl) hQ7 hHeld ?_ ?_
      rotate_left
      · intro w7 hSw; (try dsimp only at hSw); go_simp; all_goals with_reducible rfl
      try simp only [Act.put, List.setIfInBounds_toArray, List.set_cons_zero, List.set_cons_succ]
      have gf := O2.out.frozen (k * 3 + 1)
      refine rg_one (i := 10) (by kernel_rfl) (rg_late rfl (by rfl) (by kernel_rfl) (fun K hK => ?_))
      go_simp
      refine hK.out _ _ ?_
      clear hK K
      try simp only [Act.put, List.setIfInBounds_toArray, List.set_cons_zero, List.set_cons_succ]
      refine rg_end (by kernel_rfl) (hN7 _ _ ?_) _
      clear hQ7 hN7 Q7
      have BX := hHeld.1
      clear SS
      have OS := Lib.hid ((Own.set_ (enc := Cr.cells) (sz := 3) (fun _ => rfl) O2.out HX.out (r := 1) (by decide) (y := ⟨x.a, x.m + a.m, x.u⟩) (v := .int .i64 (x.m + a.m)) rfl).drew_)
      have ES := Lib.hid (ext_drew (ext_set E.out ⟨g, k * 3 + 1, none⟩ (.int .i64 (x.m + a.m)) hbg))
      have hlS : (l.set k ⟨x.a, x.m + a.m, x.u⟩)[k]? = some ⟨x.a, x.m + a.m, x.u⟩ := by rw [List.getElem?_set_self hlt]
      obtain ⟨W1, hW1⟩ : ∃ W1, W1 = (v4.setCell ⟨g, k * 3 + 1, none⟩ (.int .i64 (x.m + a.m))).drew := ⟨_, rfl⟩
      rw [← hW1] at OS ES ⊢
      clear hW1 d0 d1 d2 O2 E X SO BX
      have SO := Lib.hid (show Slc _ Cr.cells 3 _ (l.set k ⟨x.a, x.m + a.m, x.u⟩) from OS.out.slc (fun _ => rfl) (by decide))
      obtain ⟨b1, o1, hA1, hb1, hd⟩ := SO.out k _ hlS
      injection hA1 with hA1
      injection hA1 with e1 e2
      subst e1 e2
      have d0 := hd 0 _ rfl
      have d1 := hd 1 _ rfl
      have d2 := hd 2 _ rfl
      simp only [Nat.add_zero, Nat.zero_add] at d0 d1 d2
      clear hd hlS
      obtain ⟨fs, hfs⟩ : ∃ v, fitC (sumC a x) = v := ⟨_, rfl⟩
      have HFS := Lib.hid hfs
      clear hfs
      go_wp2_with fail
      refine (fits_at (x := ⟨x.a, x.m + a.m, x.u⟩) fs (by rw [← HSM.out]; exact HFS.out)).mono ?_
      rintro e w9 ⟨rfl, B⟩
      cases fs
      · go_wp2_with fail
        refine bodyPost_ret (v := .tuple #[.slice none 0 0, .int .i64 390]) (by simp [results, Try.results8, go_sem, *]) rfl ?_
        exact LeR.bad (earn_over HV.out HF.out HC.out HX.out HB.out HFS.out) rfl (ext_trans ES.out B)
      · go_wp2_with fail
        refine bodyPost_ret (v := .tuple #[.slice (some ⟨g, 0, none⟩) l.length C1, .int .i64 0]) (by simp [results, Try.results8, go_sem, *]) rfl ?_
        exact LeR.good (earn_sum HV.out HF.out HC.out HX.out HB.out HFS.out) rfl (by rw [HSM.out, ← set_cut HX.out]; exact OS.out.ext B) (by simp; omega) (ext_trans ES.out B)
theorem earn_at {a : Cr} {A : Option Addr} {c n : Nat} {l : List Cr} {w : World} (L : List Cr) (err : Int) (hL : earnL l a = L) (hE : earnE l a = err) (hl : n = l.length) (ha : Slc w Cr.cells 3 A l) (hn : l.length ≤ 1000) : Calls Try.prog 8 #[.slice A n c, .agg #[.int .i64 a.a, .int .i64 a.m, .int .i64 a.u]] w (LeR w L err) := by
  subst hL hE hl; exact earn_any a A c l w ha hn
end Go.Proofs.Ytafglcalimcdcaa
