/- Contracts: minutes are spent. -/
import Derived.Test.YtafglcalimcdcaaPs
import Derived.Test.YtafglcalimcdcaaG
import Derived.Test.YtafglcalimcdcaaJ2
set_option linter.unusedSimpArgs false
set_option linter.unusedVariables false
namespace Go.Proofs.Ytafglcalimcdcaa
open Go.RowKit Go.Shelf
attribute [local go_sem] Oper.semAt_some
/-- A drawn region inside a fence: the post at its end alone. -/
def OnlyN (Q : Exit → Act → World → Prop) : Exit → Act → World → Prop
  | .normal, a, w => Q .normal a w
  | _, _, _ => False
theorem onlyN {Q : Exit → Act → World → Prop} {a : Act} {w : World} (h : Q .normal a w) : OnlyN Q .normal a w := h
theorem region_in {n : Nat} {P : Program} {id : Nat} {ops : Array Oper} {Q : Exit → Act → World → Prop} {a : Act} {w : World} (h : (Code.region id ops true).wp P (OnlyN Q) a w) : (Code.region id ops true).wpIn Fence.wide n P Q a w :=
  wpIn_wide.2 (wp_mono h (fun e a w h => by cases e <;> first | exact h | exact h.elim))
/-- The world's first n blocks. -/
def cutW (W : World) (n : Nat) : World := { W with heap := W.heap.extract 0 n }
theorem cut_size {W : World} {n : Nat} (h : n ≤ W.heap.size) : (cutW W n).heap.size = n := by simp [cutW]; omega
theorem cut_get {W : World} {n b : Nat} (h : n ≤ W.heap.size) (hb : b < n) : (cutW W n).heap[b]? = W.heap[b]? := by
  have h1 : b < (cutW W n).heap.size := by rw [cut_size h]; exact hb
  rw [Array.getElem?_eq_getElem h1, Array.getElem?_eq_getElem (show b < W.heap.size by omega)]
  simp [cutW]
theorem cut_below {W : World} {n : Nat} (h : n ≤ W.heap.size) : Below (cutW W n).heap.size (cutW W n) W := by
  rw [cut_size h]
  exact ⟨rfl, rfl, rfl, by rw [cut_size h]; exact h, fun b hb => (cut_get h hb).symm⟩
theorem below_cut {w W w' : World} {m n : Nat} (hE : Below m w W) (hm : m ≤ n) (hw : w.heap.size ≤ n) (hn : n ≤ W.heap.size) (hB : Below n (cutW W n) w') : Below m w w' :=
  ⟨hB.os.trans hE.os, hB.tape.trans hE.tape, hB.output.trans hE.output, Nat.le_trans hw (by have := hB.size; rwa [cut_size hn] at this), fun b hb => (hB.block b (by omega)).trans ((cut_get hn (by omega)).trans (hE.block b hb))⟩
theorem IAt.of_block {w w' : World} {b : Nat} {x : Value} (h : IAt w b x) (hb : w'.heap[b]? = w.heap[b]?) : IAt w' b x :=
  ⟨(World.cell?_of_block (w := w) (a := ⟨b, 0, none⟩) hb).trans h.1, (World.frozen?_of_block (w := w) (a := ⟨b, 0, none⟩) hb).trans h.2⟩
theorem zero26_any (x : Cr) (w : World) : Calls Try.prog 26 #[x.v] w (RetB w (decide (x.m = 0))) := by
  go_enter Try.func26, Try.ntmps26
  go_wp2_with fail
  all_goals
    go_ret
    exact ⟨ret_bool (by first | rfl | simp), ext_alloc (ext_refl w) _⟩
set_option maxRecDepth 100000 in
set_option maxHeartbeats 6400000 in
theorem spend_any (A : Option Addr) (c : Nat) (ls : List Cr) (al mi now : Int) (w : World) (ha : Slc w Cr.cells 3 A ls) (hn : ls.length ≤ 1000) (hsm : SmC ls) :
    Calls Try.prog 16 #[.slice A ls.length c, .int .i64 al, .int .i64 mi, .int .i64 now] w (LeR w (spendL ls al mi now) (spendE ls al mi now)) := by
  have HSM := Lib.hid hsm
  have HSL := Lib.hid ha
  obtain ⟨ok, hok⟩ : ∃ v, okC ls = v := ⟨_, rfl⟩
  have HV := Lib.hid hok
  obtain ⟨bal, hbal⟩ : ∃ v, balL ls al now = v := ⟨_, rfl⟩
  have HBAL := Lib.hid hbal
  clear hsm hok hbal
  refine (callsIn_wide (n := 5)).1 ?_
  refine callsIn_of_wp_marks Try.func16 rfl trivial ?_ rfl
  simp only [Try.ntmps16, List.size_toArray, List.length_cons, List.length_nil, Nat.reduceAdd, Nat.reduceSub, Array.replicate_succ, Array.replicate_zero, List.push_toArray, List.append_toArray, List.nil_append, List.cons_append]
  gi_wp2_with fail
  have E := Lib.hid (ext_refl w)
  have SL := Lib.hid (ha)
  clear ha
  replace E := Lib.hid (ext_alloc E.out (.cells #[.int .i64 mi] 3))
  replace SL := Lib.hid (SL.out.alloc (.cells #[.int .i64 mi] 3))
  have B6 := Lib.hid (Blk.newH w [.int .i64 mi] 3 (w.heap.size) (by first | rfl | simp))
  replace E := Lib.hid (ext_alloc E.out (.cells #[.slice none 0 0] 22))
  replace SL := Lib.hid (SL.out.alloc (.cells #[.slice none 0 0] 22))
  replace B6 := Lib.hid (B6.out.alloc (.cells #[.slice none 0 0] 22))
  have B8 := Lib.hid (Blk.newH (w.alloc (.cells #[.int .i64 mi] 3)) [.slice none 0 0] 22 (w.heap.size + 1) (by first | rfl | simp))
  obtain ⟨w1, hNw1⟩ : ∃ W0, W0 = ((w.alloc (.cells #[.int .i64 mi] 3)).alloc (.cells #[.slice none 0 0] 22)) := ⟨_, rfl⟩
  rw [← hNw1] at E SL B6 B8 ⊢
  clear hNw1
  refine region_in ?_
  cases ok
  · have SS := Lib.hid (show ∀ w', Below w1.heap.size w1 w' → (fun w' => Below w1.heap.size w1 w' ∧ w'.cell? ⟨w.heap.size, 0, none⟩ = some (.int .i64 mi)) w' from fun w' h => ⟨h, (B6.out.ext h).c 0 _ rfl⟩)
    refine rg_begin (S := (fun w' => Below w1.heap.size w1 w' ∧ w'.cell? ⟨w.heap.size, 0, none⟩ = some (.int .i64 mi))) 15 (by kernel_rfl) (by intro d; cases d <;> intro _ _ _ _ h <;> exact h) ?_ (fun Q7 hQ7 hN7 hHeld => ?_)
    · exact SS.out _ (ext_drew (ext_refl _))
    refine rg_take (i := 0) (some 13) (v := ?_) rfl rfl (by kernel_rfl) (by rfl) hQ7 hHeld ?_ ?_
    rotate_left
    · intro w7 hSw; (try dsimp only at hSw); go_simp; all_goals with_reducible rfl
    try simp only [Act.put, List.setIfInBounds_toArray, List.set_cons_zero, List.set_cons_succ]
    refine rg_one (i := 1) (by kernel_rfl) (rg_step rfl (by rfl) (fun K hK => ?_))
    go_simp
    refine (check_at 390 (by unfold chkC; rw [HV.out]; rfl) rfl (SL.out.ext hHeld.1) (by unfold maxLen; omega)).mono ?_
    rintro e u1 ⟨rfl, B1⟩
    go_wp2_with fail
    refine hK.out _ _ ?_ (fun hHeld2 => ?_)
    · exact SS.out _ (ext_trans hHeld.1 B1)
    clear hHeld
    have hHeld := hHeld2
    clear hHeld2
    clear hK K
    try simp only [Act.put, List.setIfInBounds_toArray, List.set_cons_zero, List.set_cons_succ]
    refine rg_take (i := 2) (some 15) (v := ?_) rfl rfl (by kernel_rfl) (by rfl) hQ7 hHeld ?_ ?_
    rotate_left
    · intro w7 hSw; (try dsimp only at hSw); go_simp; all_goals with_reducible rfl
    try simp only [Act.put, List.setIfInBounds_toArray, List.set_cons_zero, List.set_cons_succ]
    refine rg_take (i := 3) (some 16) (v := ?_) rfl rfl (by kernel_rfl) (by rfl) hQ7 hHeld ?_ ?_
    rotate_left
    · intro w7 hSw; (try dsimp only at hSw); go_simp; all_goals with_reducible rfl
    try simp only [Act.put, List.setIfInBounds_toArray, List.set_cons_zero, List.set_cons_succ]
    refine rg_skip (i := 4) (some 17) rfl rfl (by kernel_rfl) (by rfl) hQ7 hHeld ?_
    try simp only [Act.put, List.setIfInBounds_toArray, List.set_cons_zero, List.set_cons_succ]
    refine rg_skip (i := 5) (some 18) rfl rfl (by kernel_rfl) (by rfl) hQ7 hHeld ?_
    try simp only [Act.put, List.setIfInBounds_toArray, List.set_cons_zero, List.set_cons_succ]
    refine rg_take (i := 6) (some 19) (v := ?_) rfl rfl (by kernel_rfl) (by rfl) hQ7 hHeld ?_ ?_
    rotate_left
    · intro w7 hSw; (try dsimp only at hSw); go_simp; all_goals with_reducible rfl
    try simp only [Act.put, List.setIfInBounds_toArray, List.set_cons_zero, List.set_cons_succ]
    refine rg_take (i := 7) (some 20) (v := ?_) rfl rfl (by kernel_rfl) (by rfl) hQ7 hHeld ?_ ?_
    rotate_left
    · intro w7 hSw; (try dsimp only at hSw); go_simp; all_goals with_reducible rfl
    try simp only [Act.put, List.setIfInBounds_toArray, List.set_cons_zero, List.set_cons_succ]
    refine rg_skip (i := 8) (some 21) rfl rfl (by kernel_rfl) (by rfl) hQ7 hHeld ?_
    try simp only [Act.put, List.setIfInBounds_toArray, List.set_cons_zero, List.set_cons_succ]
    refine rg_skip (i := 9) (some 22) rfl rfl (by kernel_rfl) (by rfl) hQ7 hHeld ?_
    try simp only [Act.put, List.setIfInBounds_toArray, List.set_cons_zero, List.set_cons_succ]
    refine rg_skip (i := 10) (some 23) rfl rfl (by kernel_rfl) (by rfl) hQ7 hHeld ?_
    try simp only [Act.put, List.setIfInBounds_toArray, List.set_cons_zero, List.set_cons_succ]
    refine rg_skip (i := 11) (some 24) rfl rfl (by kernel_rfl) (by rfl) hQ7 hHeld ?_
    try simp only [Act.put, List.setIfInBounds_toArray, List.set_cons_zero, List.set_cons_succ]
    refine rg_skip (i := 12) (some 25) rfl rfl (by kernel_rfl) (by rfl) hQ7 hHeld ?_
    try simp only [Act.put, List.setIfInBounds_toArray, List.set_cons_zero, List.set_cons_succ]
    refine rg_skip (i := 13) (some 26) rfl rfl (by kernel_rfl) (by rfl) hQ7 hHeld ?_
    try simp only [Act.put, List.setIfInBounds_toArray, List.set_cons_zero, List.set_cons_succ]
    refine rg_take (i := 14) (some 27) (v := ?_) rfl rfl (by kernel_rfl) (by rfl) hQ7 hHeld ?_ ?_
    rotate_left
    · intro w7 hSw; (try dsimp only at hSw); go_simp; all_goals with_reducible rfl
    try simp only [Act.put, List.setIfInBounds_toArray, List.set_cons_zero, List.set_cons_succ]
    refine rg_end (by kernel_rfl) (hN7 _ _ ?_) _
    clear hQ7 hN7 Q7
    have BX := hHeld.1
    clear SS
    refine onlyN ?_
    replace E := Lib.hid (ext_trans E.out BX)
    replace SL := Lib.hid (SL.out.ext BX)
    replace B6 := Lib.hid (B6.out.ext BX)
    replace B8 := Lib.hid (B8.out.ext BX)
    clear BX
    have y0 := B8.out.c 0 _ rfl
    have yf := B8.out.f 0
    have yl := B8.out.lt
    have hc0 := (B8.out.set (j := 0) (by simp) (.slice none 0 0)).c 0 _ rfl
    have HB9 := Lib.hid (E.out.setCell (p := ⟨w.heap.size + 1, 0, none⟩) (Nat.le_succ _) (.slice none 0 0))
    gi_wp2_with fail
    refine ⟨.tuple #[.slice none 0 0, .int .i64 390], by simp [results, Try.results16, go_sem, *], ?_⟩
    exact LeR.bad (spend_bad (by rw [HV.out]; rfl)) rfl HB9.out
  by_cases hmi : mi < 0
  · have HMI := Lib.hid hmi
    have hm1 : decide (mi < 0) = true := by simpa using hmi
    clear hmi
    have SS := Lib.hid (show ∀ w', Below w1.heap.size w1 w' → (fun w' => Below w1.heap.size w1 w' ∧ w'.cell? ⟨w.heap.size, 0, none⟩ = some (.int .i64 mi)) w' from fun w' h => ⟨h, (B6.out.ext h).c 0 _ rfl⟩)
    refine rg_begin (S := (fun w' => Below w1.heap.size w1 w' ∧ w'.cell? ⟨w.heap.size, 0, none⟩ = some (.int .i64 mi))) 15 (by kernel_rfl) (by intro d; cases d <;> intro _ _ _ _ h <;> exact h) ?_ (fun Q7 hQ7 hN7 hHeld => ?_)
    · exact SS.out _ (ext_drew (ext_refl _))
    refine rg_take (i := 0) (some 13) (v := ?_) rfl rfl (by kernel_rfl) (by rfl) hQ7 hHeld ?_ ?_
    rotate_left
    · intro w7 hSw; (try dsimp only at hSw); go_simp; all_goals with_reducible rfl
    try simp only [Act.put, List.setIfInBounds_toArray, List.set_cons_zero, List.set_cons_succ]
    refine rg_one (i := 1) (by kernel_rfl) (rg_step rfl (by rfl) (fun K hK => ?_))
    go_simp
    refine (check_at 0 (by unfold chkC; rw [HV.out]; rfl) rfl (SL.out.ext hHeld.1) (by unfold maxLen; omega)).mono ?_
    rintro e u1 ⟨rfl, B1⟩
    go_wp2_with fail
    refine hK.out _ _ ?_ (fun hHeld2 => ?_)
    · exact SS.out _ (ext_trans hHeld.1 B1)
    clear hHeld
    have hHeld := hHeld2
    clear hHeld2
    clear hK K
    try simp only [Act.put, List.setIfInBounds_toArray, List.set_cons_zero, List.set_cons_succ]
    refine rg_take (i := 2) (some 15) (v := ?_) rfl rfl (by kernel_rfl) (by rfl) hQ7 hHeld ?_ ?_
    rotate_left
    · intro w7 hSw; (try dsimp only at hSw); go_simp; all_goals with_reducible rfl
    try simp only [Act.put, List.setIfInBounds_toArray, List.set_cons_zero, List.set_cons_succ]
    refine rg_take (i := 3) (some 16) (v := ?_) rfl rfl (by kernel_rfl) (by rfl) hQ7 hHeld ?_ ?_
    rotate_left
    · intro w7 hSw; (try dsimp only at hSw); go_simp; all_goals with_reducible rfl
    try simp only [Act.put, List.setIfInBounds_toArray, List.set_cons_zero, List.set_cons_succ]
    refine rg_take (i := 4) (some 17) (v := ?_) rfl rfl (by kernel_rfl) (by rfl) hQ7 hHeld ?_ ?_
    rotate_left
    · intro w7 hSw; (try dsimp only at hSw); go_simp; all_goals with_reducible rfl
    try simp only [Act.put, List.setIfInBounds_toArray, List.set_cons_zero, List.set_cons_succ]
    refine rg_take (i := 5) (some 18) (v := ?_) rfl rfl (by kernel_rfl) (by rfl) hQ7 hHeld ?_ ?_
    rotate_left
    · intro w7 hSw; (try dsimp only at hSw); go_simp; all_goals with_reducible rfl
    try simp only [Act.put, List.setIfInBounds_toArray, List.set_cons_zero, List.set_cons_succ]
    refine rg_take (i := 6) (some 19) (v := ?_) rfl rfl (by kernel_rfl) (by rfl) hQ7 hHeld ?_ ?_
    rotate_left
    · intro w7 hSw; (try dsimp only at hSw); go_simp; all_goals with_reducible rfl
    try simp only [Act.put, List.setIfInBounds_toArray, List.set_cons_zero, List.set_cons_succ]
    refine rg_take (i := 7) (some 20) (v := ?_) rfl rfl (by kernel_rfl) (by rfl) hQ7 hHeld ?_ ?_
    rotate_left
    · intro w7 hSw; (try dsimp only at hSw); go_simp; all_goals with_reducible rfl
    try simp only [Act.put, List.setIfInBounds_toArray, List.set_cons_zero, List.set_cons_succ]
    refine rg_skip (i := 8) (some 21) rfl rfl (by kernel_rfl) (by rfl) hQ7 hHeld ?_
    try simp only [Act.put, List.setIfInBounds_toArray, List.set_cons_zero, List.set_cons_succ]
    refine rg_skip (i := 9) (some 22) rfl rfl (by kernel_rfl) (by rfl) hQ7 hHeld ?_
    try simp only [Act.put, List.setIfInBounds_toArray, List.set_cons_zero, List.set_cons_succ]
    refine rg_skip (i := 10) (some 23) rfl rfl (by kernel_rfl) (by rfl) hQ7 hHeld ?_
    try simp only [Act.put, List.setIfInBounds_toArray, List.set_cons_zero, List.set_cons_succ]
    refine rg_skip (i := 11) (some 24) rfl rfl (by kernel_rfl) (by rfl) hQ7 hHeld ?_
    try simp only [Act.put, List.setIfInBounds_toArray, List.set_cons_zero, List.set_cons_succ]
    refine rg_skip (i := 12) (some 25) rfl rfl (by kernel_rfl) (by rfl) hQ7 hHeld ?_
    try simp only [Act.put, List.setIfInBounds_toArray, List.set_cons_zero, List.set_cons_succ]
    refine rg_skip (i := 13) (some 26) rfl rfl (by kernel_rfl) (by rfl) hQ7 hHeld ?_
    try simp only [Act.put, List.setIfInBounds_toArray, List.set_cons_zero, List.set_cons_succ]
    refine rg_take (i := 14) (some 27) (v := ?_) rfl rfl (by kernel_rfl) (by rfl) hQ7 hHeld ?_ ?_
    rotate_left
    · intro w7 hSw; (try dsimp only at hSw); go_simp; all_goals with_reducible rfl
    try simp only [Act.put, List.setIfInBounds_toArray, List.set_cons_zero, List.set_cons_succ]
    refine rg_end (by kernel_rfl) (hN7 _ _ ?_) _
    clear hQ7 hN7 Q7
    have BX := hHeld.1
    clear SS
    refine onlyN ?_
    replace E := Lib.hid (ext_trans E.out BX)
    replace SL := Lib.hid (SL.out.ext BX)
    replace B6 := Lib.hid (B6.out.ext BX)
    replace B8 := Lib.hid (B8.out.ext BX)
    clear BX
    have y0 := B8.out.c 0 _ rfl
    have yf := B8.out.f 0
    have yl := B8.out.lt
    have hc0 := (B8.out.set (j := 0) (by simp) (.slice none 0 0)).c 0 _ rfl
    have HB9 := Lib.hid (E.out.setCell (p := ⟨w.heap.size + 1, 0, none⟩) (Nat.le_succ _) (.slice none 0 0))
    gi_wp2_with fail
    refine ⟨.tuple #[.slice none 0 0, .int .i64 390], by simp [results, Try.results16, go_sem, *], ?_⟩
    exact LeR.bad (spend_bad (by rw [show decide (0 ≤ mi) = false by simpa using HMI.out]; simp)) rfl HB9.out
  have HMI := Lib.hid (show 0 ≤ mi by omega)
  have hm1 : decide (mi < 0) = false := by simpa using hmi
  clear hmi
  have SS := Lib.hid (show ∀ w', Below w1.heap.size w1 w' → (fun w' => Below w1.heap.size w1 w' ∧ w'.cell? ⟨w.heap.size, 0, none⟩ = some (.int .i64 mi)) w' from fun w' h => ⟨h, (B6.out.ext h).c 0 _ rfl⟩)
  refine rg_begin (S := (fun w' => Below w1.heap.size w1 w' ∧ w'.cell? ⟨w.heap.size, 0, none⟩ = some (.int .i64 mi))) 15 (by kernel_rfl) (by intro d; cases d <;> intro _ _ _ _ h <;> exact h) ?_ (fun Q7 hQ7 hN7 hHeld => ?_)
  · exact SS.out _ (ext_drew (ext_refl _))
  refine rg_take (i := 0) (some 13) (v := ?_) rfl rfl (by kernel_rfl) (by rfl) hQ7 hHeld ?_ ?_
  rotate_left
  · intro w7 hSw; (try dsimp only at hSw); go_simp; all_goals with_reducible rfl
  try simp only [Act.put, List.setIfInBounds_toArray, List.set_cons_zero, List.set_cons_succ]
  refine rg_one (i := 1) (by kernel_rfl) (rg_step rfl (by rfl) (fun K hK => ?_))
  go_simp
  refine (check_at 0 (by unfold chkC; rw [HV.out]; rfl) rfl (SL.out.ext hHeld.1) (by unfold maxLen; omega)).mono ?_
  rintro e u1 ⟨rfl, B1⟩
  go_wp2_with fail
  refine hK.out _ _ ?_ (fun hHeld2 => ?_)
  · exact SS.out _ (ext_trans hHeld.1 B1)
  clear hHeld
  have hHeld := hHeld2
  clear hHeld2
  clear hK K
  try simp only [Act.put, List.setIfInBounds_toArray, List.set_cons_zero, List.set_cons_succ]
  refine rg_take (i := 2) (some 15) (v := ?_) rfl rfl (by kernel_rfl) (by rfl) hQ7 hHeld ?_ ?_
  rotate_left
  · intro w7 hSw; (try dsimp only at hSw); go_simp; all_goals with_reducible rfl
  try simp only [Act.put, List.setIfInBounds_toArray, List.set_cons_zero, List.set_cons_succ]
  refine rg_take (i := 3) (some 16) (v := ?_) rfl rfl (by kernel_rfl) (by rfl) hQ7 hHeld ?_ ?_
  rotate_left
  · intro w7 hSw; (try dsimp only at hSw); go_simp; all_goals with_reducible rfl
  try simp only [Act.put, List.setIfInBounds_toArray, List.set_cons_zero, List.set_cons_succ]
  refine rg_take (i := 4) (some 17) (v := ?_) rfl rfl (by kernel_rfl) (by rfl) hQ7 hHeld ?_ ?_
  rotate_left
  · intro w7 hSw; (try dsimp only at hSw); go_simp; all_goals with_reducible rfl
  try simp only [Act.put, List.setIfInBounds_toArray, List.set_cons_zero, List.set_cons_succ]
  refine rg_take (i := 5) (some 18) (v := ?_) rfl rfl (by kernel_rfl) (by rfl) hQ7 hHeld ?_ ?_
  rotate_left
  · intro w7 hSw; (try dsimp only at hSw); go_simp; all_goals with_reducible rfl
  try simp only [Act.put, List.setIfInBounds_toArray, List.set_cons_zero, List.set_cons_succ]
  refine rg_take (i := 6) (some 19) (v := ?_) rfl rfl (by kernel_rfl) (by rfl) hQ7 hHeld ?_ ?_
  rotate_left
  · intro w7 hSw; (try dsimp only at hSw); go_simp; all_goals with_reducible rfl
  try simp only [Act.put, List.setIfInBounds_toArray, List.set_cons_zero, List.set_cons_succ]
  refine rg_take (i := 7) (some 20) (v := ?_) rfl rfl (by kernel_rfl) (by rfl) hQ7 hHeld ?_ ?_
  rotate_left
  · intro w7 hSw; (try dsimp only at hSw); go_simp; all_goals with_reducible rfl
  try simp only [Act.put, List.setIfInBounds_toArray, List.set_cons_zero, List.set_cons_succ]
  refine rg_take (i := 8) (some 21) (v := ?_) rfl rfl (by kernel_rfl) (by rfl) hQ7 hHeld ?_ ?_
  rotate_left
  · intro w7 hSw; (try dsimp only at hSw); go_simp; all_goals with_reducible rfl
  try simp only [Act.put, List.setIfInBounds_toArray, List.set_cons_zero, List.set_cons_succ]
  refine rg_take (i := 9) (some 22) (v := ?_) rfl rfl (by kernel_rfl) (by rfl) hQ7 hHeld ?_ ?_
  rotate_left
  · intro w7 hSw; (try dsimp only at hSw); go_simp; all_goals with_reducible rfl
  try simp only [Act.put, List.setIfInBounds_toArray, List.set_cons_zero, List.set_cons_succ]
  refine rg_take (i := 10) (some 23) (v := ?_) rfl rfl (by kernel_rfl) (by rfl) hQ7 hHeld ?_ ?_
  rotate_left
  · intro w7 hSw; (try dsimp only at hSw); go_simp; all_goals with_reducible rfl
  try simp only [Act.put, List.setIfInBounds_toArray, List.set_cons_zero, List.set_cons_succ]
  refine rg_take (i := 12) (some 25) (v := ?_) rfl rfl (by kernel_rfl) (by rfl) hQ7 hHeld ?_ ?_
  rotate_left
  · intro w7 hSw; (try dsimp only at hSw); go_simp; all_goals with_reducible rfl
  try simp only [Act.put, List.setIfInBounds_toArray, List.set_cons_zero, List.set_cons_succ]
  refine rg_one (i := 11) (by kernel_rfl) (rg_step rfl (by rfl) (fun K hK => ?_))
  go_simp
  refine (balance_at bal HBAL.out rfl (SL.out.ext hHeld.1) hn HSM.out).mono ?_
  rintro e u2 ⟨rfl, B2⟩
  go_wp2_with fail
  refine hK.out _ _ ?_ (fun hHeld2 => ?_)
  · exact SS.out _ (ext_trans hHeld.1 B2)
  clear hHeld
  have hHeld := hHeld2
  clear hHeld2
  clear hK K
  try simp only [Act.put, List.setIfInBounds_toArray, List.set_cons_zero, List.set_cons_succ]
  refine rg_take (i := 13) (some 26) (v := ?_) rfl rfl (by kernel_rfl) (by rfl) hQ7 hHeld ?_ ?_
  rotate_left
  · intro w7 hSw; (try dsimp only at hSw); go_simp; all_goals with_reducible rfl
  try simp only [Act.put, List.setIfInBounds_toArray, List.set_cons_zero, List.set_cons_succ]
  refine rg_take (i := 14) (some 27) (v := ?_) rfl rfl (by kernel_rfl) (by rfl) hQ7 hHeld ?_ ?_
  rotate_left
  · intro w7 hSw; (try dsimp only at hSw); go_simp; all_goals with_reducible rfl
  try simp only [Act.put, List.setIfInBounds_toArray, List.set_cons_zero, List.set_cons_succ]
  refine rg_end (by kernel_rfl) (hN7 _ _ ?_) _
  clear hQ7 hN7 Q7
  have BX := hHeld.1
  clear SS
  refine onlyN ?_
  replace E := Lib.hid (ext_trans E.out BX)
  replace SL := Lib.hid (SL.out.ext BX)
  replace B6 := Lib.hid (B6.out.ext BX)
  replace B8 := Lib.hid (B8.out.ext BX)
  clear BX
  by_cases hb : bal < mi
  · have HBB := Lib.hid (show decide (mi ≤ balL ls al now) = false by rw [HBAL.out]; simpa using hb)
    have y0 := B8.out.c 0 _ rfl
    have yf := B8.out.f 0
    have yl := B8.out.lt
    have hc0 := (B8.out.set (j := 0) (by simp) (.slice none 0 0)).c 0 _ rfl
    have HB9 := Lib.hid (E.out.setCell (p := ⟨w.heap.size + 1, 0, none⟩) (Nat.le_succ _) (.slice none 0 0))
    gi_wp2_with fail
    refine ⟨.tuple #[.slice none 0 0, .int .i64 390], by simp [results, Try.results16, go_sem, *], ?_⟩
    exact LeR.bad (spend_bad (by rw [HBB.out]; simp)) rfl HB9.out
  have HBB := Lib.hid (show mi ≤ balL ls al now by rw [HBAL.out]; omega)
  have hb1 : ¬ bal < mi := hb
  clear hb
  gi_wp2_with fail
  have HSZ := Lib.hid E.out.size
  refine ⟨trivial, (callsIn_wide.2 (clone_any A c _ ls _ rfl SL.out (by omega))).mono ?_⟩
  rintro e w3 ⟨A1, C1, rfl, hO1, B⟩
  have O1 := Lib.hid hO1
  clear hO1
  have B8u := Lib.hid (show w.heap.size + 1 < u2.heap.size from B8.out.lt)
  have B3s := Lib.hid B.size
  replace E := Lib.hid (ext_trans E.out B)
  replace SL := Lib.hid (SL.out.ext B)
  replace B6 := Lib.hid (B6.out.ext B)
  replace B8 := Lib.hid (B8.out.ext B)
  clear B
  have y0 := B8.out.c 0 _ rfl
  have yf := B8.out.f 0
  have yl := B8.out.lt
  gi_wp2_with fail
  have hbs := B8.out.set (j := 0) (by simp) (.slice A1 ls.length C1)
  obtain ⟨w4, hw4⟩ : ∃ W, W = w3.setCell ⟨w.heap.size + 1, 0, none⟩ (.slice A1 ls.length C1) := ⟨_, rfl⟩
  have HB8 := Lib.hid (show Blk w4 (w.heap.size + 1) [.slice A1 ls.length C1] by rw [hw4]; exact hbs)
  have HB6 := Lib.hid (show Blk w4 w.heap.size [.int .i64 mi] by rw [hw4]; exact B6.out.other (p := ⟨w.heap.size + 1, 0, none⟩) _ (by simp))
  have HU4 := Lib.hid (show u2.heap.size ≤ w4.heap.size by rw [hw4]; simpa using B3s.out)
  have HE4 := Lib.hid (show Below w.heap.size w w4 by rw [hw4]; exact E.out.setCell (p := ⟨w.heap.size + 1, 0, none⟩) (Nat.le_succ _) _)
  have HO4 := Lib.hid (show Own w4 u2.heap.size 24 Cr.cells 3 (.slice A1 ls.length C1) ls by
    rw [hw4]; exact O1.out.block (fun g hg => Below.heap_setCell w3 _ _ g (by have := (O1.out.lt g hg).2; have h8 := B8u.out; show g ≠ w.heap.size + 1; omega)))
  rw [← hw4]
  clear hw4 hbs y0 yf yl B6 B8 E O1 SL
  refine ⟨trivial, (callsIn_wide.2 (of_any A c ls.length al now _)).mono ?_⟩
  rintro e w2 ⟨rfl, rfl⟩
  gi_wp2_with fail
  obtain ⟨w2, hw2⟩ : ∃ w2, (((w4.alloc (.cells #[.slice A ls.length c] 22)).alloc (.cells #[.int .i64 al] 3)).alloc (.cells #[.int .i64 now] 3)) = w2 := ⟨_, rfl⟩
  have hz2 : w2.heap.size = w4.heap.size + 1 + 1 + 1 := by rw [← hw2]; simp
  have hb4 : Below w4.heap.size w4 w2 := by rw [← hw2]; exact ext_alloc (ext_alloc (ext_alloc (ext_refl w4) _) _) _
  have b1 : Blk w2 w4.heap.size [.slice A ls.length c] := by rw [← hw2]; exact ((Blk.newH w4 [.slice A ls.length c] 22 w4.heap.size (by simp)).alloc _).alloc _
  have b2 : Blk w2 (w4.heap.size + 1) [.int .i64 al] := by rw [← hw2]; exact (Blk.newH (w4.alloc (.cells #[.slice A ls.length c] 22)) [.int .i64 al] 3 (w4.heap.size + 1) (by simp)).alloc _
  have b3 : Blk w2 (w4.heap.size + 1 + 1) [.int .i64 now] := by rw [← hw2]; exact Blk.newH ((w4.alloc (.cells #[.slice A ls.length c] 22)).alloc (.cells #[.int .i64 al] 3)) [.int .i64 now] 3 (w4.heap.size + 1 + 1) (by simp)
  have hb2 := ext_trans HE4.out hb4
  have B6' := HB6.out.ext hb4
  have B8' := HB8.out.ext hb4
  have HO2 := Lib.hid (HO4.out.ext hb4)
  rw [hw2]
  have hszo : w.heap.size + 1 < u2.heap.size := B8u.out
  have hszw : w2.heap.size = w4.heap.size + 3 := by omega
  have HOB := Lib.hid (show ∀ g, (Value.slice A1 ls.length C1).ownBlock = some g → u2.heap.size ≤ g ∧ g < w4.heap.size from fun g e => ⟨(HO4.out.lt g e).2, (HO4.out.lt g e).1⟩)
  have hw4s : u2.heap.size ≤ w4.heap.size := HU4.out
  have hC : Caps w2 w2.heap.size (fun b => b = w.heap.size ∨ (Value.slice A1 ls.length C1).ownBlock = some b) w4.heap.size (w4.heap.size + 1) (w4.heap.size + 1 + 1) A c ls al now := by
    have hex : ∀ b, w4.heap.size ≤ b → ¬ (b = w.heap.size ∨ (Value.slice A1 ls.length C1).ownBlock = some b) := by
      rintro b hb (rfl | e)
      · omega
      · have := (HOB.out b e).2; omega
    refine ⟨by omega, by omega, by omega, hex _ (Nat.le_refl _), hex _ (by omega), hex _ (by omega), b1.c 0 _ rfl, b2.c 0 _ rfl, b3.c 0 _ rfl, HSL.out.ext hb2, ?_⟩
    rintro h0 b o st rfl
    obtain ⟨x, b', o', _, e, hlt, _⟩ := HSL.out.at_ h0
    cases e
    refine ⟨by omega, ?_⟩
    rintro (e | e)
    · omega
    · have := (HOB.out _ e).1; omega
  have HFIT := Lib.hid (show ∀ c ∈ ls, 1 ≤ c.m ∧ c.m ≤ 1440 from fun c hc => (fit_iff.1 ((ok_iff.1 HV.out).1 c hc)).2.1)
  have HMB := Lib.hid (show mi ≤ 1099511627776000 by
    have h1 := HBB.out
    have h2 := (sumW_small (al := al) (now := now) HSM.out (hitsW ls al now ls.length)).2
    have h3 := hits_len (l := ls) (al := al) (now := now) ls.length
    rw [sumW_hits ls.length (Nat.le_refl _), List.take_length] at h2
    omega)
  have HE2 := Lib.hid (hits_len (l := ls) (al := al) (now := now) ls.length)
  have HBB2 := Lib.hid hb2
  have HCC := Lib.hid hC
  have HI6 := Lib.hid (show IAt w2 w.heap.size (.int .i64 mi) from ⟨B6'.c 0 _ rfl, B6'.f 0⟩)
  have HI8 := Lib.hid (show IAt w2 (w.heap.size + 1) (.slice A1 ls.length C1) from ⟨B8'.c 0 _ rfl, B8'.f 0⟩)
  clear hw2 hz2 hb4 hb2 hC b1 b2 b3 B6' B8' HB6 HB8
  refine wpIn_rangeFunc_ownH (F := Fence.wide) rfl (by decide) (gf := 32) (lb := #[.pointer (some ⟨w4.heap.size, 0, none⟩), .pointer (some ⟨w4.heap.size + 1, 0, none⟩), .pointer (some ⟨w4.heap.size + 1 + 1, 0, none⟩)]) rfl trivial (enters_of Try.func32 (by kernel_rfl) rfl)
    (of_stops 4 (by decide) w2.heap.size (fun b => b = w.heap.size ∨ (Value.slice A1 ls.length C1).ownBlock = some b) w4.heap.size (w4.heap.size + 1) (w4.heap.size + 1 + 1) A c ls al now hn w2 (Nat.le_refl _) HCC.out) KpE.t (KpE.b (Nat.le_refl _)) (Below.refl _ _) (fun _ => rfl)
    (fun pre W => IAt W w.heap.size (.int .i64 (runW mi pre).2) ∧ IAt W (w.heap.size + 1) (.slice A1 ls.length C1) ∧ Own W u2.heap.size 24 Cr.cells 3 (.slice A1 ls.length C1) (runW mi pre).1 ∧ Below w.heap.size w W ∧ w2.heap.size ≤ W.heap.size ∧ pre.length ≤ (hitsW ls al now ls.length).length)
    (fun _ _ _ => False)
    (fun s X Y row hs hg hr => by
      obtain ⟨h1, h2, h6, h3, h4, h5⟩ := hs
      exact ⟨h1.turn hg (fun r e => (hr r e).2), h2.turn hg (fun r e => (hr r e).2), h6.turn hg (fun r e => (hr r e).2), h3.grown hg (Nat.le_trans HBB2.out.size h4) (fun r e => Nat.le_trans HBB2.out.size (hr r e).1), Nat.le_trans h4 hg.size, h5⟩)
    (fun _ _ _ _ _ hs _ _ => hs)
    ⟨HI6.out, HI8.out, HO2.out, HBB2.out, Nat.le_refl _, Nat.zero_le _⟩
    (fun x a' W => ∃ Bx, w2.heap.size ≤ Bx ∧ W.heap[Bx]? = some (.cells #[.int .i64 x.1.2.a, .int .i64 x.1.2.m, .int .i64 x.1.2.u] 24 (0, 0)) ∧ a' = { tmps := #[.slice A ls.length c, .int .i64 al, .int .i64 mi, .int .i64 now, undef, undef, .pointer (some ⟨w.heap.size, 0, none⟩), undef, .pointer (some ⟨w.heap.size + 1, 0, none⟩), .int .i64 0, .int .i64 x.1.1, .pointer (some ⟨Bx, 0, none⟩), undef, .slice A ls.length c, .int .i64 0, .bool false, .bool false, .int .i64 mi, .bool false, .bool false, .bool false, .slice A ls.length c, .int .i64 al, .int .i64 now, .int .i64 bal, .int .i64 mi, .bool (decide (bal < mi)), .bool (decide (bal < mi)), .slice A ls.length c, .slice A1 ls.length C1, .slice A ls.length c, .int .i64 al, .int .i64 now, .func (.func 32) #[] #[.pointer (some ⟨w4.heap.size, 0, none⟩), .pointer (some ⟨w4.heap.size + 1, 0, none⟩), .pointer (some ⟨w4.heap.size + 1 + 1, 0, none⟩)], .int .i64 x.1.1, x.1.2.v, undef, undef, undef, undef, undef, undef, undef, undef, undef, undef, undef, undef, undef, undef, undef, undef, undef, undef], defers := [] })
    (fun x a' _ X Y row hs hg hr => by
      obtain ⟨Bx, h9, h1, h2⟩ := hs
      exact ⟨Bx, h9, (hg.block Bx (Array.getElem?_eq_some_iff.1 h1).1 (fun e' => by obtain ⟨ob, h3, h4⟩ := (hr Bx e'.symm).2; rw [h1] at h3; cases h3; cases h4)).trans h1, h2⟩) ?assign ?body ?done ?stop
  case assign =>
    rintro l pre x W K ⟨h1, h2, h6, h3, h4, h5⟩ hK
    simp only [encC]
    gi_wp2
    exact hK _ _ ((KeepsOthers.alloc _ _).from _) ⟨Kx.below (ext_alloc (ext_refl W) _) h4, by simp⟩ ⟨h1.turn (grown_below (ext_alloc (ext_refl W) _)) (by simp), h2.turn (grown_below (ext_alloc (ext_refl W) _)) (by simp), h6.alloc _, ext_alloc h3 _, by simp; omega, h5⟩ ⟨W.heap.size, h4, World.alloc_heap_new W _, rfl⟩
  case body =>
    rintro l pre x a' W _ _ ⟨h1, h2, h6, h3, h4, h5⟩ ⟨Bx, h9, hx, rfl⟩ hlt
    obtain ⟨⟨i, cc⟩, hi, hh⟩ := x
    simp only at hx hi hh ⊢
    have c0 : W.cell? ⟨Bx, 0, none⟩ = some (.int .i64 cc.a) := by simp [World.cell?, hx]
    have c1 : W.cell? ⟨Bx, 1, none⟩ = some (.int .i64 cc.m) := by simp [World.cell?, hx]
    have hpl : pre.length < 1000 := by have := HE2.out; omega
    obtain ⟨r1, ⟨r2, r3⟩, r4⟩ := runW_ok (al := al) (now := now) HMI.out HFIT.out pre
    obtain ⟨f1, f2⟩ := HFIT.out cc (List.mem_of_getElem? hi)
    have hil : i < ls.length := (List.getElem?_eq_some_iff.1 hi).1
    have HS := Lib.hid (runW_snoc mi pre ⟨(i, cc), hi, hh⟩)
    have H1 := Lib.hid h1
    have H2 := Lib.hid h2
    have H6 := Lib.hid h6
    obtain ⟨e0, e1⟩ := h1
    obtain ⟨e2, e3⟩ := h2
    have HM := HMB.out
    generalize hrun : runW mi pre = S at *
    obtain ⟨xs, m⟩ := S
    simp only at r1 r2 r3 r4 e0 h6 H1 H6
    obtain ⟨g, c', cur, hv0, -, hbg, hgl, -⟩ := H6.out.some_ (show 0 < xs.length by omega)
    injection hv0 with hA hln hcc
    clear hln
    subst hA hcc
    have hxi : xs[i]? = some (xs[i]'(by omega)) := List.getElem?_eq_getElem (by omega)
    generalize xs[i]'(by omega) = y at hxi
    have hy := r4 y (List.mem_of_getElem? hxi)
    have HST := Lib.hid (show stepW (xs, m) ⟨(i, cc), hi, hh⟩ = (xs.set i (subC y (min m cc.m)), m - min m cc.m) by unfold stepW; simp only; rw [hxi]; rfl)
    have SO := Lib.hid (show Slc W Cr.cells 3 _ xs from H6.out.slc (fun _ => rfl) (by decide))
    obtain ⟨b1, o1, hA1, hb1, hd⟩ := SO.out i y hxi
    injection hA1 with hA1
    injection hA1 with e4 e5 e6
    clear e6
    subst e4 e5
    have d1 := hd 1 _ rfl
    simp only [Nat.add_zero, Nat.zero_add] at d1
    have gf := H6.out.frozen (i * 3 + 1)
    have hi1 : (i : Int) < ls.length := by omega
    have hg6 : g ≠ w.heap.size := by omega
    have hg8 : g ≠ w.heap.size + 1 := by omega
    have hBg : Bx ≠ g := by have := (HOB.out g rfl).2; omega
    have hB6 : Bx ≠ w.heap.size := by omega
    have HSS := Lib.hid (show runW mi (pre ++ [⟨(i, cc), hi, hh⟩]) = (xs.set i (subC y (min m cc.m)), m - min m cc.m) from HS.out.trans HST.out)
    have HOUT := Lib.hid (show ∀ v1 v2, v1 = y.m - min m cc.m → v2 = m - min m cc.m → ownPostG w2.heap.size (KpE w2.heap.size fun b => b = w.heap.size ∨ (Value.slice (some ⟨g, 0, none⟩) ls.length C1).ownBlock = some b) (fun pre W => IAt W w.heap.size (.int .i64 (runW mi pre).2) ∧ IAt W (w.heap.size + 1) (.slice (some ⟨g, 0, none⟩) ls.length C1) ∧ Own W u2.heap.size 24 Cr.cells 3 (.slice (some ⟨g, 0, none⟩) ls.length C1) (runW mi pre).1 ∧ Below w.heap.size w W ∧ w2.heap.size ≤ W.heap.size ∧ pre.length ≤ (hitsW ls al now ls.length).length) (fun _ _ _ => False) (pre ++ [⟨(i, cc), hi, hh⟩]) W Exit.normal { tmps := #[], defers := [] } ((W.setCell ⟨g, i * 3 + 1, none⟩ (.int .i64 v1)).setCell ⟨w.heap.size, 0, none⟩ (.int .i64 v2)) from by
      intro v1 v2 hv1 hv2
      have hO := Own.set_ (enc := Cr.cells) (sz := 3) (fun _ => rfl) H6.out hxi (r := 1) (by decide) (y := subC y (min m cc.m)) (v := .int .i64 v1) (by rw [hv1]; rfl)
      refine ⟨((KeepsOthers.setCell W ⟨g, i * 3 + 1, none⟩ (.int .i64 v1)).trans (KeepsOthers.setCell _ ⟨w.heap.size, 0, none⟩ (.int .i64 v2))).from _, ⟨Kx.t (Kx.set (ex := fun b => b = w.heap.size ∨ (Value.slice (some ⟨g, 0, none⟩) ls.length C1).ownBlock = some b) ⟨g, i * 3 + 1, none⟩ _ (.inr (.inr rfl))) (Kx.set ⟨w.heap.size, 0, none⟩ _ (.inr (.inl rfl))), by simp [World.setCell]⟩, ?_, ?_, ?_, (h3.setCell (p := ⟨g, i * 3 + 1, none⟩) (by show w.heap.size ≤ g; omega) _).setCell (p := ⟨w.heap.size, 0, none⟩) (Nat.le_refl _) _, by simpa [World.setCell] using h4, by simp; omega⟩
      · rw [HSS.out, ← hv2]; exact (H1.out.other ⟨g, i * 3 + 1, none⟩ _ hg6).set _
      · exact (H2.out.other ⟨g, i * 3 + 1, none⟩ _ hg8).other ⟨w.heap.size, 0, none⟩ _ (by simp)
      · rw [HSS.out]; exact hO.block (fun k hk => Below.heap_setCell _ _ _ k (by cases hk; exact hg6)))
    have hw0 : IntKind.i64.wrap 0 = 0 := by decide
    have hw1 : IntKind.i64.wrap (y.m - m) = y.m - m ∨ cc.m < m := by by_cases h : cc.m < m; exact .inr h; exact .inl (IntWalk.i64_in _ (by omega))
    have hw3 : IntKind.i64.wrap (y.m - cc.m) = y.m - cc.m := IntWalk.i64_in _ (by omega)
    have hw4 : IntKind.i64.wrap (m - cc.m) = m - cc.m := IntWalk.i64_in _ (by omega)
    clear SO hd hx hrun HS HST r1 r4 r2 r3 hlt h5 h6 hxi hy f1 f2 hpl HM hb1 hbg hgl hil h9 H1 H2 H6 hszo hszw hw4s HCC HOB
    by_cases hmc : m ≤ cc.m
    · have hw1' : IntKind.i64.wrap (y.m - m) = y.m - m := hw1.resolve_right (by omega)
      have hmc2 : ¬ cc.m < m := by omega
      clear hw1 hw3 hw4
      gi_wp2
      exact HOUT.out _ _ (by omega) (by omega)
    · have hmc2 : cc.m < m := by omega
      clear hw1
      gi_wp2
      exact HOUT.out _ _ (by omega) (by omega)
  case done =>
    rintro D ys W hD rfl ⟨h1, h2, h6, h3, h4, h5⟩ hK
    rw [runW_all mi] at h6
    have hnW : u2.heap.size ≤ W.heap.size := by omega
    have H2 := Lib.hid h2
    have H6 := Lib.hid h6
    have H3 := Lib.hid h3
    have HK := Lib.hid hK
    have HNW := Lib.hid hnW
    have HXL := Lib.hid (spendX_len al now ls mi)
    obtain ⟨e2, e3⟩ := h2
    have hDn := Lib.hid (show ∀ k, (Value.slice A1 ls.length C1).ownBlock = some k → D ≠ k from fun k e => by have := (HOB.out k e).2; omega)
    have hD8 : D ≠ w.heap.size + 1 := by omega
    clear h1 h6 h3 hK hnW h5 h4
    gi_wp2_with fail
    refine ⟨trivial, (callsIn_wide.2 (deleteCrD D (.deferred (some [])) (cutW W u2.heap.size) W 26 (fun x => decide (x.m = 0)) A1 ls.length C1 (spendX ls al mi now) HXL.out.symm (by rw [cut_size HNW.out]; exact H6.out) (cut_below HNW.out) (by rw [HXL.out]; omega) HK.out hDn.out enters26 (fun x W' _ _ => zero26_any x W'))).mono ?_⟩
    rintro e w5 ⟨A2, C2, rfl, hO5, hB5, hD5⟩
    rw [cut_size HNW.out] at hO5 hB5
    have HB5 := Lib.hid (below_cut H3.out (show w.heap.size ≤ u2.heap.size by omega) (by omega) HNW.out hB5)
    have I8 := H2.out.of_block ((hB5.block (w.heap.size + 1) hszo).trans (cut_get HNW.out hszo))
    have hsz5 : u2.heap.size ≤ w5.heap.size := by have := hB5.size; rwa [cut_size HNW.out] at this
    obtain ⟨M, hM⟩ : ∃ M, (spendX ls al mi now).filter (fun x => !decide (x.m = 0)) = M := ⟨_, rfl⟩
    rw [hM] at hO5 ⊢
    have HMM := Lib.hid hM
    have hKs : (w5.setCell ⟨w.heap.size + 1, 0, none⟩ (.slice A2 M.length C2)).heap[D]? = some (.deferred (some [])) := (Below.heap_setCell w5 ⟨w.heap.size + 1, 0, none⟩ _ D hD8).trans hD5
    have hbx := (I8.set (.slice A2 M.length C2)).turn (grownBy_putObj' _ D (.deferred none)) (fun r e => by cases e; exact ⟨_, hKs, rfl⟩)
    have hc0 := hbx.1
    have hdlt : D < w5.heap.size := (Array.getElem?_eq_some_iff.1 hD5).1
    have hO6 : Own (w5.setCell ⟨w.heap.size + 1, 0, none⟩ (.slice A2 M.length C2)) u2.heap.size 24 Cr.cells 3 (.slice A2 M.length C2) M := hO5.block (fun k hk => Below.heap_setCell w5 ⟨w.heap.size + 1, 0, none⟩ _ k (by have := (hO5.lt k hk).2; show k ≠ w.heap.size + 1; omega))
    have hO7 := Lib.hid ((hO6.turn (grownBy_putObj' _ D (.deferred none)) (fun r e => by cases e; exact ⟨_, hKs, rfl⟩)).low (base' := w.heap.size) (by omega))
    have hB7 := Lib.hid (show Below w.heap.size w ((w5.setCell ⟨w.heap.size + 1, 0, none⟩ (.slice A2 M.length C2)).putObj D (.deferred none)) from (HB5.out.setCell (p := ⟨w.heap.size + 1, 0, none⟩) (Nat.le_succ _) _).grown (grownBy_putObj' _ D _) (by simp [World.setCell]; omega) (fun r e => by cases e; have := HBB2.out.size; omega))
    obtain ⟨y0, y1⟩ := I8
    clear hM hO5 hB5 hO6 hbx
    gi_wp2_with fail
    refine ⟨by simp, .inl ⟨_, _, rfl, run_takeDeferred hKs, ?_⟩⟩
    refine ⟨.tuple #[.slice A2 M.length C2, .int .i64 0], by simp [results, Try.results16, go_sem, hc0], ?_⟩
    exact LeR.good (by rw [← HMM.out]; exact spend_good HV.out HMI.out HBB.out) rfl hO7.out rfl hB7.out
  case stop =>
    rintro D cc pre W _ _ h _
    exact h.elim
theorem spend_at {A : Option Addr} {c n : Nat} {l : List Cr} {al mi now : Int} {w : World} (L : List Cr) (err : Int) (hL : spendL l al mi now = L) (hE : spendE l al mi now = err) (hl : n = l.length) (ha : Slc w Cr.cells 3 A l) (hn : l.length ≤ 1000) (hs : SmC l) : Calls Try.prog 16 #[.slice A n c, .int .i64 al, .int .i64 mi, .int .i64 now] w (LeR w L err) := by
  subst hL hE hl; exact spend_any A c l al mi now w ha hn hs
end Go.Proofs.Ytafglcalimcdcaa
