/- The program's Check. -/
import Derived.Test.YthchcimialclkaaB
import Derived.Test.YthchcimialclkaaRg
set_option linter.unusedSimpArgs false
set_option linter.unusedVariables false
namespace Go.Proofs.Ythchcimialclkaa
open Go.RowKit
theorem compare_at {b1 o1 c1 b2 o2 c2 : Nat} {x y : Lk} {w : World} (r : Int) (hr : cmpL x y = r) (hx0 : w.cell? ⟨b1, o1, none⟩ = some (.int .i64 x.a)) (hx1 : w.cell? ⟨b1, o1 + 1, none⟩ = some (.int .i64 x.b)) (hy0 : w.cell? ⟨b2, o2, none⟩ = some (.int .i64 y.a)) (hy1 : w.cell? ⟨b2, o2 + 1, none⟩ = some (.int .i64 y.b)) :
    Calls Try.prog 28 #[.slice (some ⟨b1, o1, none⟩) 2 c1, .slice (some ⟨b2, o2, none⟩) 2 c2] w fun e w' => e = .returned (.int .i64 r) ∧ w = w' := by
  subst hr; exact compare_any b1 o1 c1 b2 o2 c2 x y w hx0 hx1 hy0 hy1
set_option maxHeartbeats 3200000 in
set_option maxRecDepth 100000 in
theorem check_any0 (q : SliceOf Pk) (aA : Option Addr) (ac : Nat) (al : List Lk) (n : Nt) (hnn : n = ⟨q, ⟨aA, ac, al⟩⟩) (w : World) (hn : NOk w n) : Calls Try.prog 12 #[.agg #[.slice q.A q.l.length q.c, .slice aA al.length ac]] w (RetE w (chkE n)) := by
  have hnq : n.q = q := by rw [hnn]
  have hna : n.ap.l = al := by rw [hnn]
  have hq0 := hn.q
  have ha0 : Slc w Lk.cells 2 aA al := by have := hn.ap; rw [hnn] at this; exact this
  have hdl := hn.dl
  have hqm := hn.ql
  have hql := hn.ql
  have hal := hn.al
  rw [hnq] at hq0 hdl hqm hql
  rw [hna] at hal
  have HNQ := Lib.hid hnq
  have HNA := Lib.hid hna
  unfold maxLen at hql hal
  obtain ⟨r, hr⟩ : ∃ r, chkE n = r := ⟨_, rfl⟩
  have HR := Lib.hid hr
  rw [hr]
  have HW : Hid (Below w.heap.size w (w.alloc (.cells #[.slice q.A q.l.length q.c, .slice aA al.length ac] 25))) := ext_alloc (ext_refl w) _
  have HBX : BoxN (w.alloc (.cells #[.slice q.A q.l.length q.c, .slice aA al.length ac] 25)) w.heap.size ⟨q, ⟨aA, ac, al⟩⟩ := BoxN.new w ⟨q, ⟨aA, ac, al⟩⟩
  clear hnq hna hnn hn
  clear hr
  by_cases hq : q.l.length ≤ 4096
  rotate_left
  · have HZ : Hid (460 = r) := by rw [← HR.out, chk_no (.inl (by rw [HNQ.out]; exact hq))]; rfl
    have g1 : (4096 : Int) < q.l.length := by omega
    go_enter Try.func12, Try.ntmps12
    go_wp2_with fail
    go_ret
    exact ⟨ret_int HZ.out, HW.out⟩
  have g1 : ¬ (4096 : Int) < q.l.length := by omega
  obtain ⟨bad, hbad⟩ : ∃ b, q.l.any (fun p => !okP p) = b := ⟨_, rfl⟩
  have hall : q.l.all okP = !bad := by rw [← hbad, Bool.eq_iff_iff]; simp
  have HBAD := Lib.hid hbad
  have HALL := Lib.hid hall
  clear hbad hall
  go_enter Try.func12, Try.ntmps12
  go_wp2_with fail
  refine (containsPk 26 (fun p => !okP p) q.A q.c q.l _ (hq0.ext HW.out) hqm enters26 (fun p W hp _ => check1_any p W (hdl p hp))).mono ?_
  rintro e w1 ⟨rfl, B1⟩
  rw [HBAD.out]
  have hbx := HBX.ext B1
  have hB1 := ext_trans HW.out B1
  have HBX1 := Lib.hid hbx
  obtain ⟨n0, n1, n2⟩ := hbx
  clear HBX B1
  cases bad
  rotate_left
  · have HZ : Hid (460 = r) := by rw [← HR.out, chk_no (.inr (.inl (by rw [HNQ.out]; exact HALL.out)))]; rfl
    go_wp2_with fail
    go_ret
    exact ⟨ret_int HZ.out, hB1⟩
  go_wp2_with fail
  go_loopw [17] (fun i wr => ∃ k : Nat, k ≤ al.length ∧ i = .int .i64 k ∧ Hid (okGo none (al.take k) = true) ∧ Below w.heap.size w wr ∧ BoxN wr w.heap.size ⟨q, ⟨aA, ac, al⟩⟩) (fun i _ => al.length - (intOf i).toNat)
  case atStart => exact ⟨0, Nat.zero_le _, rfl, by simp [Hid, okGo], hB1, HBX1.out⟩
  case round =>
    clear n0 n1 n2
    obtain ⟨k, hk, rfl, HT2, hB, hbx⟩ := hrel
    have HBX2 := Lib.hid hbx
    obtain ⟨n0, n1, n2⟩ := hbx
    by_cases hlk : k < al.length
    rotate_left
    · have hlk' : ¬ (k : Int) < al.length := by omega
      have HZ : Hid (0 = r) := by
        rw [← HR.out, chk_yes (by rw [HNQ.out]; exact hq) (by rw [HNQ.out]; exact HALL.out) (by rw [HNA.out, okA_go, ← List.take_of_length_le (show al.length ≤ k by omega)]; exact HT2.out)]; rfl
      go_wp2_with fail
      go_ret
      exact ⟨ret_int HZ.out, hB⟩
    rename_i K1 a1
    clear a1
    obtain ⟨x, b1, o1, hx, rfl, hb1, hc⟩ := (ha0.ext hB).at_ hlk
    have c0 := hc 0 _ rfl
    have c1 := hc 1 _ rfl
    simp only [Nat.add_zero] at c0
    have HX := Lib.hid hx
    have hlk' : (k : Int) < al.length := by omega
    obtain ⟨wo2, rfl⟩ : ∃ wo2, wo2 = wr := ⟨_, rfl⟩
    have hbl := ext_alloc (ext_refl wo2) (.cells #[.int .i64 x.a, .int .i64 x.b] 53)
    have hB2 := ext_trans hB hbl
    have HB2 := Lib.hid hB2
    have HBL := Lib.hid hbl
    obtain ⟨m0, m1, m2⟩ := HBX2.out.ext hbl
    have x0 : (wo2.alloc (.cells #[.int .i64 x.a, .int .i64 x.b] 53)).cell? ⟨wo2.heap.size, 0, none⟩ = some (.int .i64 x.a) := by simp
    have x1 : (wo2.alloc (.cells #[.int .i64 x.a, .int .i64 x.b] 53)).cell? ⟨wo2.heap.size, 1, none⟩ = some (.int .i64 x.b) := by simp
    have xs : wo2.heap.size < (wo2.alloc (.cells #[.int .i64 x.a, .int .i64 x.b] 53)).heap.size := by simp
    have X0 := Lib.hid x0
    have X1 := Lib.hid x1
    have XS := Lib.hid xs
    obtain ⟨r1, hr1⟩ : ∃ r, okL x = r := ⟨_, rfl⟩
    have H1 := Lib.hid hr1
    clear hbl hB2 hx hc x0 x1 xs hr1
    have SS : ∀ w', Below (wo2.alloc (.cells #[.int .i64 x.a, .int .i64 x.b] 53)).heap.size (wo2.alloc (.cells #[.int .i64 x.a, .int .i64 x.b] 53)) w' → (fun w' : World => w'.cell? ⟨wo2.heap.size, 0, none⟩ = some (.int .i64 x.a) ∧ w'.cell? ⟨wo2.heap.size, 1, none⟩ = some (.int .i64 x.b) ∧ w'.cell? ⟨w.heap.size, 1, none⟩ = some (.slice (some ⟨b1, o1, none⟩) al.length ac)) w' := fun w' bw => ⟨(bw.cell (p := ⟨wo2.heap.size, 0, none⟩) XS.out).trans X0.out, (bw.cell (p := ⟨wo2.heap.size, 1, none⟩) XS.out).trans X1.out, (bw.cell (p := ⟨w.heap.size, 1, none⟩) m0).trans m2⟩
    have HSS := Lib.hid SS
    clear SS
    cases r1
    · have HZ : Hid (460 = r) := by rw [Hid, ← HR.out, chk_no (.inr (.inr (by rw [HNA.out]; exact okGo_no HX.out (step_no H1.out))))]
      clear n0 n1 n2
      go_wp2_with fail
      refine rg_begin (S := (fun w' => w'.cell? ⟨wo2.heap.size, 0, none⟩ = some (.int .i64 x.a) ∧ w'.cell? ⟨wo2.heap.size, 1, none⟩ = some (.int .i64 x.b) ∧ w'.cell? ⟨w.heap.size, 1, none⟩ = some (.slice (some ⟨b1, o1, none⟩) al.length ac))) 18 (by kernel_rfl) (by intro d; cases d <;> intro _ _ _ _ h <;> exact h) ?_ (fun Q7 hQ7 hN7 hHeld => ?_)
      · exact HSS.out _ (ext_drew (ext_refl _))
      refine rg_take (i := 0) (some 22) (v := ?_) rfl rfl (by kernel_rfl) (by rfl) hQ7 hHeld ?_ ?_
      rotate_left
      · intro w7 hSw; (try dsimp only at hSw); go_simp; all_goals with_reducible rfl
      try simp only [Act.put, List.setIfInBounds_toArray, List.set_cons_zero, List.set_cons_succ]
      refine rg_one (i := 1) (by kernel_rfl) (rg_step rfl (by rfl) (fun K hK => ?_))
      go_simp
      refine (valid_at false H1.out).mono ?_
      rintro e w7 ⟨rfl, B7⟩; have BW7 := ext_trans (ext_drew (ext_refl (wo2.alloc (.cells #[.int .i64 x.a, .int .i64 x.b] 53)))) B7
      go_wp2_with fail
      refine hK.out _ _ ?_ (fun hHeld => ?_)
      · exact HSS.out _ BW7
      clear hK K
      try simp only [Act.put, List.setIfInBounds_toArray, List.set_cons_zero, List.set_cons_succ]
      refine rg_take (i := 2) (some 24) (v := ?_) rfl rfl (by kernel_rfl) (by rfl) hQ7 hHeld ?_ ?_
      rotate_left
      · intro w7 hSw; (try dsimp only at hSw); go_simp; all_goals with_reducible rfl
      try simp only [Act.put, List.setIfInBounds_toArray, List.set_cons_zero, List.set_cons_succ]
      refine rg_take (i := 3) (some 25) (v := ?_) rfl rfl (by kernel_rfl) (by rfl) hQ7 hHeld ?_ ?_
      rotate_left
      · intro w7 hSw; (try dsimp only at hSw); go_simp; all_goals with_reducible rfl
      try simp only [Act.put, List.setIfInBounds_toArray, List.set_cons_zero, List.set_cons_succ]
      refine rg_skip (i := 4) (some 26) rfl rfl (by kernel_rfl) (by rfl) hQ7 hHeld ?_
      try simp only [Act.put, List.setIfInBounds_toArray, List.set_cons_zero, List.set_cons_succ]
      refine rg_skip (i := 5) (some 27) rfl rfl (by kernel_rfl) (by rfl) hQ7 hHeld ?_
      try simp only [Act.put, List.setIfInBounds_toArray, List.set_cons_zero, List.set_cons_succ]
      refine rg_skip (i := 6) (some 28) rfl rfl (by kernel_rfl) (by rfl) hQ7 hHeld ?_
      try simp only [Act.put, List.setIfInBounds_toArray, List.set_cons_zero, List.set_cons_succ]
      refine rg_skip (i := 7) (some 29) rfl rfl (by kernel_rfl) (by rfl) hQ7 hHeld ?_
      try simp only [Act.put, List.setIfInBounds_toArray, List.set_cons_zero, List.set_cons_succ]
      refine rg_skip (i := 8) (some 30) rfl rfl (by kernel_rfl) (by rfl) hQ7 hHeld ?_
      try simp only [Act.put, List.setIfInBounds_toArray, List.set_cons_zero, List.set_cons_succ]
      refine rg_skip (i := 9) (some 31) rfl rfl (by kernel_rfl) (by rfl) hQ7 hHeld ?_
      try simp only [Act.put, List.setIfInBounds_toArray, List.set_cons_zero, List.set_cons_succ]
      refine rg_skip (i := 10) (some 32) rfl rfl (by kernel_rfl) (by rfl) hQ7 hHeld ?_
      try simp only [Act.put, List.setIfInBounds_toArray, List.set_cons_zero, List.set_cons_succ]
      refine rg_skip (i := 11) (some 33) rfl rfl (by kernel_rfl) (by rfl) hQ7 hHeld ?_
      try simp only [Act.put, List.setIfInBounds_toArray, List.set_cons_zero, List.set_cons_succ]
      refine rg_skip (i := 12) (some 34) rfl rfl (by kernel_rfl) (by rfl) hQ7 hHeld ?_
      try simp only [Act.put, List.setIfInBounds_toArray, List.set_cons_zero, List.set_cons_succ]
      refine rg_skip (i := 13) (some 35) rfl rfl (by kernel_rfl) (by rfl) hQ7 hHeld ?_
      try simp only [Act.put, List.setIfInBounds_toArray, List.set_cons_zero, List.set_cons_succ]
      refine rg_skip (i := 14) (some 36) rfl rfl (by kernel_rfl) (by rfl) hQ7 hHeld ?_
      try simp only [Act.put, List.setIfInBounds_toArray, List.set_cons_zero, List.set_cons_succ]
      refine rg_skip (i := 15) (some 37) rfl rfl (by kernel_rfl) (by rfl) hQ7 hHeld ?_
      try simp only [Act.put, List.setIfInBounds_toArray, List.set_cons_zero, List.set_cons_succ]
      refine rg_skip (i := 16) (some 38) rfl rfl (by kernel_rfl) (by rfl) hQ7 hHeld ?_
      try simp only [Act.put, List.setIfInBounds_toArray, List.set_cons_zero, List.set_cons_succ]
      refine rg_take (i := 17) (some 39) (v := ?_) rfl rfl (by kernel_rfl) (by rfl) hQ7 hHeld ?_ ?_
      rotate_left
      · intro w7 hSw; (try dsimp only at hSw); go_simp; all_goals with_reducible rfl
      try simp only [Act.put, List.setIfInBounds_toArray, List.set_cons_zero, List.set_cons_succ]
      refine rg_end (by kernel_rfl) (hN7 _ _ ?_) _
      clear hQ7 hN7 Q7
      go_wp2_with fail
      go_ret
      exact ⟨ret_int HZ.out, ext_trans HB2.out BW7⟩
    by_cases h0 : (0 : Int) < k
    rotate_left
    · have hst := okGo_take HX.out
      rw [HT2.out, Bool.true_and] at hst
      have hstep : step (prevL al k) x = true := by simp [prevL, show k = 0 by omega, step, H1.out]
      rw [hstep] at hst
      have HST := Lib.hid hst
      clear hst hstep n0 n1 n2
      have g0 : decide ((0 : Int) < (k : Int)) = false := decide_eq_false h0
      have g0n : decide (0 < k) = false := decide_eq_false (by omega)
      clear h0
      go_wp2_with fail
      refine rg_begin (S := (fun w' => w'.cell? ⟨wo2.heap.size, 0, none⟩ = some (.int .i64 x.a) ∧ w'.cell? ⟨wo2.heap.size, 1, none⟩ = some (.int .i64 x.b) ∧ w'.cell? ⟨w.heap.size, 1, none⟩ = some (.slice (some ⟨b1, o1, none⟩) al.length ac))) 18 (by kernel_rfl) (by intro d; cases d <;> intro _ _ _ _ h <;> exact h) ?_ (fun Q7 hQ7 hN7 hHeld => ?_)
      · exact HSS.out _ (ext_drew (ext_refl _))
      refine rg_take (i := 0) (some 22) (v := ?_) rfl rfl (by kernel_rfl) (by rfl) hQ7 hHeld ?_ ?_
      rotate_left
      · intro w7 hSw; (try dsimp only at hSw); go_simp; all_goals with_reducible rfl
      try simp only [Act.put, List.setIfInBounds_toArray, List.set_cons_zero, List.set_cons_succ]
      refine rg_one (i := 1) (by kernel_rfl) (rg_step rfl (by rfl) (fun K hK => ?_))
      go_simp
      refine (valid_at true H1.out).mono ?_
      rintro e w7 ⟨rfl, B7⟩; have BW7 := ext_trans (ext_drew (ext_refl (wo2.alloc (.cells #[.int .i64 x.a, .int .i64 x.b] 53)))) B7
      go_wp2_with fail
      refine hK.out _ _ ?_ (fun hHeld => ?_)
      · exact HSS.out _ BW7
      clear hK K
      try simp only [Act.put, List.setIfInBounds_toArray, List.set_cons_zero, List.set_cons_succ]
      refine rg_take (i := 2) (some 24) (v := ?_) rfl rfl (by kernel_rfl) (by rfl) hQ7 hHeld ?_ ?_
      rotate_left
      · intro w7 hSw; (try dsimp only at hSw); go_simp; all_goals with_reducible rfl
      try simp only [Act.put, List.setIfInBounds_toArray, List.set_cons_zero, List.set_cons_succ]
      refine rg_take (i := 3) (some 25) (v := ?_) rfl rfl (by kernel_rfl) (by rfl) hQ7 hHeld ?_ ?_
      rotate_left
      · intro w7 hSw; (try dsimp only at hSw); go_simp; all_goals with_reducible rfl
      try simp only [Act.put, List.setIfInBounds_toArray, List.set_cons_zero, List.set_cons_succ]
      refine rg_take (i := 4) (some 26) (v := ?_) rfl rfl (by kernel_rfl) (by rfl) hQ7 hHeld ?_ ?_
      rotate_left
      · intro w7 hSw; (try dsimp only at hSw); go_simp; all_goals with_reducible rfl
      try simp only [Act.put, List.setIfInBounds_toArray, List.set_cons_zero, List.set_cons_succ]
      refine rg_take (i := 5) (some 27) (v := ?_) rfl rfl (by kernel_rfl) (by rfl) hQ7 hHeld ?_ ?_
      rotate_left
      · intro w7 hSw; (try dsimp only at hSw); go_simp; all_goals with_reducible rfl
      try simp only [Act.put, List.setIfInBounds_toArray, List.set_cons_zero, List.set_cons_succ]
      refine rg_take (i := 6) (some 28) (v := ?_) rfl rfl (by kernel_rfl) (by rfl) hQ7 hHeld ?_ ?_
      rotate_left
      · intro w7 hSw; (try dsimp only at hSw); go_simp; all_goals with_reducible rfl
      try simp only [Act.put, List.setIfInBounds_toArray, List.set_cons_zero, List.set_cons_succ]
      refine rg_skip (i := 7) (some 29) rfl rfl (by kernel_rfl) (by rfl) hQ7 hHeld ?_
      try simp only [Act.put, List.setIfInBounds_toArray, List.set_cons_zero, List.set_cons_succ]
      refine rg_skip (i := 8) (some 30) rfl rfl (by kernel_rfl) (by rfl) hQ7 hHeld ?_
      try simp only [Act.put, List.setIfInBounds_toArray, List.set_cons_zero, List.set_cons_succ]
      refine rg_skip (i := 9) (some 31) rfl rfl (by kernel_rfl) (by rfl) hQ7 hHeld ?_
      try simp only [Act.put, List.setIfInBounds_toArray, List.set_cons_zero, List.set_cons_succ]
      refine rg_skip (i := 10) (some 32) rfl rfl (by kernel_rfl) (by rfl) hQ7 hHeld ?_
      try simp only [Act.put, List.setIfInBounds_toArray, List.set_cons_zero, List.set_cons_succ]
      refine rg_skip (i := 11) (some 33) rfl rfl (by kernel_rfl) (by rfl) hQ7 hHeld ?_
      try simp only [Act.put, List.setIfInBounds_toArray, List.set_cons_zero, List.set_cons_succ]
      refine rg_skip (i := 12) (some 34) rfl rfl (by kernel_rfl) (by rfl) hQ7 hHeld ?_
      try simp only [Act.put, List.setIfInBounds_toArray, List.set_cons_zero, List.set_cons_succ]
      refine rg_skip (i := 13) (some 35) rfl rfl (by kernel_rfl) (by rfl) hQ7 hHeld ?_
      try simp only [Act.put, List.setIfInBounds_toArray, List.set_cons_zero, List.set_cons_succ]
      refine rg_skip (i := 14) (some 36) rfl rfl (by kernel_rfl) (by rfl) hQ7 hHeld ?_
      try simp only [Act.put, List.setIfInBounds_toArray, List.set_cons_zero, List.set_cons_succ]
      refine rg_skip (i := 15) (some 37) rfl rfl (by kernel_rfl) (by rfl) hQ7 hHeld ?_
      try simp only [Act.put, List.setIfInBounds_toArray, List.set_cons_zero, List.set_cons_succ]
      refine rg_take (i := 16) (some 38) (v := ?_) rfl rfl (by kernel_rfl) (by rfl) hQ7 hHeld ?_ ?_
      rotate_left
      · intro w7 hSw; (try dsimp only at hSw); go_simp; all_goals with_reducible rfl
      try simp only [Act.put, List.setIfInBounds_toArray, List.set_cons_zero, List.set_cons_succ]
      refine rg_take (i := 17) (some 39) (v := ?_) rfl rfl (by kernel_rfl) (by rfl) hQ7 hHeld ?_ ?_
      rotate_left
      · intro w7 hSw; (try dsimp only at hSw); go_simp; all_goals with_reducible rfl
      try simp only [Act.put, List.setIfInBounds_toArray, List.set_cons_zero, List.set_cons_succ]
      refine rg_end (by kernel_rfl) (hN7 _ _ ?_) _
      clear hQ7 hN7 Q7
      go_wp2_with fail
      go_roundw
      case rel => exact ⟨k + 1, hlk, by go_num, HST.out, ext_trans HB2.out BW7, (HBX2.out.ext HBL.out).ext BW7⟩
      case measure => simp [intOf]; omega
    · obtain ⟨j, rfl⟩ : ∃ j, k = j + 1 := ⟨k - 1, by omega⟩
      obtain ⟨y, b2, o2, hy, hA2, hb2, hcy⟩ := (ha0.ext hB).at_ (show j < al.length by omega)
      cases hA2
      have y0 := hcy 0 _ rfl
      have y1 := hcy 1 _ rfl
      simp only [Nat.add_zero] at y0
      have hst := okGo_take HX.out
      rw [HT2.out, Bool.true_and] at hst
      have hprev : prevL al (j + 1) = some y := by unfold prevL; rw [if_neg (by omega)]; exact hy
      have hstep : step (prevL al (j + 1)) x = decide (cmpL y x < 0) := by rw [hprev]; simp [step, H1.out]
      obtain ⟨rr, hrr⟩ : ∃ r, cmpL y x = r := ⟨_, rfl⟩
      rw [hstep, hrr] at hst
      have HC := Lib.hid hrr
      have HST := Lib.hid hst
      have hbad2 : decide (rr < 0) = false → Hid (460 = r) := fun h => by
        rw [Hid, ← HR.out, chk_no (.inr (.inr (by rw [HNA.out]; exact okGo_no HX.out (by rw [hstep, hrr]; exact h))))]
      have HBAD2 := Lib.hid hbad2
      have SB : ∀ w', Below (wo2.alloc (.cells #[.int .i64 x.a, .int .i64 x.b] 53)).heap.size (wo2.alloc (.cells #[.int .i64 x.a, .int .i64 x.b] 53)) w' → (fun w' : World => w'.cell? ⟨wo2.heap.size, 0, none⟩ = some (.int .i64 x.a) ∧ w'.cell? ⟨wo2.heap.size, 1, none⟩ = some (.int .i64 x.b) ∧ w'.cell? ⟨w.heap.size, 1, none⟩ = some (.slice (some ⟨b1, o1, none⟩) al.length ac) ∧ w'.cell? ⟨b1, o1 + j * 2, none⟩ = some (.int .i64 y.a) ∧ w'.cell? ⟨b1, o1 + j * 2 + 1, none⟩ = some (.int .i64 y.b)) w' := fun w' bw =>
        ⟨(HSS.out w' bw).1, (HSS.out w' bw).2.1, (bw.cell (p := ⟨w.heap.size, 1, none⟩) m0).trans m2, (bw.cell (p := ⟨b1, _, none⟩) (Nat.lt_trans hb1 XS.out)).trans ((HBL.out.cell (p := ⟨b1, _, none⟩) hb1).trans y0), (bw.cell (p := ⟨b1, _, none⟩) (Nat.lt_trans hb1 XS.out)).trans ((HBL.out.cell (p := ⟨b1, _, none⟩) hb1).trans y1)⟩
      have HSB := Lib.hid SB
      have hj1 : (j : Int) < al.length := by omega
      have hlk2 : j < al.length := by omega
      have hw1 : IntKind.i64.wrap ((j : Int) + 1 - 1) = j := by rw [show (j : Int) + 1 - 1 = j by omega]; exact IntWalk.i64_in _ (by omega)
      clear hst hstep hprev hy hcy hbad2 hrr SB n0 n1 n2
      have hw2 : IntKind.i64.wrap (((j + 1 : Nat) : Int) - 1) = j := by rw [show (((j + 1 : Nat) : Int)) - 1 = j by omega]; exact IntWalk.i64_in _ (by omega)
      have hw3 : IntKind.i64.wrap (j : Int) = j := IntWalk.i64_in _ (by omega)
      have hj0 : (0 : Int) ≤ j := by omega
      have hjn : (j : Int).toNat = j := by omega
      by_cases z : 0 ≤ rr
      · have HZ := HBAD2.out (decide_eq_false (by omega))
        go_wp2_with fail
        refine rg_begin (S := (fun w' => w'.cell? ⟨wo2.heap.size, 0, none⟩ = some (.int .i64 x.a) ∧ w'.cell? ⟨wo2.heap.size, 1, none⟩ = some (.int .i64 x.b) ∧ w'.cell? ⟨w.heap.size, 1, none⟩ = some (.slice (some ⟨b1, o1, none⟩) al.length ac) ∧ w'.cell? ⟨b1, o1 + j * 2, none⟩ = some (.int .i64 y.a) ∧ w'.cell? ⟨b1, o1 + j * 2 + 1, none⟩ = some (.int .i64 y.b))) 18 (by kernel_rfl) (by intro d; cases d <;> intro _ _ _ _ h <;> exact h) ?_ (fun Q7 hQ7 hN7 hHeld => ?_)
        · exact HSB.out _ (ext_drew (ext_refl _))
        refine rg_take (i := 0) (some 22) (v := ?_) rfl rfl (by kernel_rfl) (by rfl) hQ7 hHeld ?_ ?_
        rotate_left
        · intro w7 hSw; (try dsimp only at hSw); go_simp; all_goals with_reducible rfl
        try simp only [Act.put, List.setIfInBounds_toArray, List.set_cons_zero, List.set_cons_succ]
        refine rg_one (i := 1) (by kernel_rfl) (rg_step rfl (by rfl) (fun K hK => ?_))
        go_simp
        refine (valid_at true H1.out).mono ?_
        rintro e w7 ⟨rfl, B7⟩; have BW7 := ext_trans (ext_drew (ext_refl (wo2.alloc (.cells #[.int .i64 x.a, .int .i64 x.b] 53)))) B7
        go_wp2_with fail
        refine hK.out _ _ ?_ (fun hHeld => ?_)
        · exact HSB.out _ BW7
        clear hK K
        try simp only [Act.put, List.setIfInBounds_toArray, List.set_cons_zero, List.set_cons_succ]
        refine rg_take (i := 2) (some 24) (v := ?_) rfl rfl (by kernel_rfl) (by rfl) hQ7 hHeld ?_ ?_
        rotate_left
        · intro w7 hSw; (try dsimp only at hSw); go_simp; all_goals with_reducible rfl
        try simp only [Act.put, List.setIfInBounds_toArray, List.set_cons_zero, List.set_cons_succ]
        refine rg_take (i := 3) (some 25) (v := ?_) rfl rfl (by kernel_rfl) (by rfl) hQ7 hHeld ?_ ?_
        rotate_left
        · intro w7 hSw; (try dsimp only at hSw); go_simp; all_goals with_reducible rfl
        try simp only [Act.put, List.setIfInBounds_toArray, List.set_cons_zero, List.set_cons_succ]
        refine rg_take (i := 4) (some 26) (v := ?_) rfl rfl (by kernel_rfl) (by rfl) hQ7 hHeld ?_ ?_
        rotate_left
        · intro w7 hSw; (try dsimp only at hSw); go_simp; all_goals with_reducible rfl
        try simp only [Act.put, List.setIfInBounds_toArray, List.set_cons_zero, List.set_cons_succ]
        refine rg_take (i := 5) (some 27) (v := ?_) rfl rfl (by kernel_rfl) (by rfl) hQ7 hHeld ?_ ?_
        rotate_left
        · intro w7 hSw; (try dsimp only at hSw); go_simp; all_goals with_reducible rfl
        try simp only [Act.put, List.setIfInBounds_toArray, List.set_cons_zero, List.set_cons_succ]
        refine rg_take (i := 6) (some 28) (v := ?_) rfl rfl (by kernel_rfl) (by rfl) hQ7 hHeld ?_ ?_
        rotate_left
        · intro w7 hSw; (try dsimp only at hSw); go_simp; all_goals with_reducible rfl
        try simp only [Act.put, List.setIfInBounds_toArray, List.set_cons_zero, List.set_cons_succ]
        refine rg_take (i := 7) (some 29) (v := ?_) rfl rfl (by kernel_rfl) (by rfl) hQ7 hHeld ?_ ?_
        rotate_left
        · intro w7 hSw; (try dsimp only at hSw); go_simp; all_goals with_reducible rfl
        try simp only [Act.put, List.setIfInBounds_toArray, List.set_cons_zero, List.set_cons_succ]
        refine rg_take (i := 8) (some 30) (v := ?_) rfl rfl (by kernel_rfl) (by rfl) hQ7 hHeld ?_ ?_
        rotate_left
        · intro w7 hSw; (try dsimp only at hSw); go_simp; all_goals with_reducible rfl
        try simp only [Act.put, List.setIfInBounds_toArray, List.set_cons_zero, List.set_cons_succ]
        refine rg_take (i := 9) (some 31) (v := ?_) rfl rfl (by kernel_rfl) (by rfl) hQ7 hHeld ?_ ?_
        rotate_left
        · intro w7 hSw; (try dsimp only at hSw); go_simp; all_goals with_reducible rfl
        try simp only [Act.put, List.setIfInBounds_toArray, List.set_cons_zero, List.set_cons_succ]
        refine rg_take (i := 10) (some 32) (v := ?_) rfl rfl (by kernel_rfl) (by rfl) hQ7 hHeld ?_ ?_
        rotate_left
        · intro w7 hSw; (try dsimp only at hSw); go_simp; all_goals with_reducible rfl
        try simp only [Act.put, List.setIfInBounds_toArray, List.set_cons_zero, List.set_cons_succ]
        refine rg_take (i := 11) (some 33) (v := ?_) rfl rfl (by kernel_rfl) (by rfl) hQ7 hHeld ?_ ?_
        rotate_left
        · intro w7 hSw; (try dsimp only at hSw); go_simp; all_goals with_reducible rfl
        try simp only [Act.put, List.setIfInBounds_toArray, List.set_cons_zero, List.set_cons_succ]
        refine rg_take (i := 12) (some 34) (v := ?_) rfl rfl (by kernel_rfl) (by rfl) hQ7 hHeld ?_ ?_
        rotate_left
        · intro w7 hSw; (try dsimp only at hSw); go_simp; all_goals with_reducible rfl
        try simp only [Act.put, List.setIfInBounds_toArray, List.set_cons_zero, List.set_cons_succ]
        refine rg_take (i := 13) (some 35) (v := ?_) rfl rfl (by kernel_rfl) (by rfl) hQ7 hHeld ?_ ?_
        rotate_left
        · intro w7 hSw; (try dsimp only at hSw); go_simp; all_goals with_reducible rfl
        try simp only [Act.put, List.setIfInBounds_toArray, List.set_cons_zero, List.set_cons_succ]
        refine rg_one (i := 14) (by kernel_rfl) (rg_step rfl (by rfl) (fun K hK => ?_))
        go_simp
        refine (compare_at rr HC.out hHeld.2.2.2.1 hHeld.2.2.2.2 hHeld.1 hHeld.2.1).mono ?_
        rintro e w9 ⟨rfl, rfl⟩
        go_wp2_with fail
        refine hK.out _ _ ?_ (fun hHeld => ?_)
        · exact hHeld
        clear hK K
        try simp only [Act.put, List.setIfInBounds_toArray, List.set_cons_zero, List.set_cons_succ]
        refine rg_take (i := 15) (some 37) (v := ?_) rfl rfl (by kernel_rfl) (by rfl) hQ7 hHeld ?_ ?_
        rotate_left
        · intro w7 hSw; (try dsimp only at hSw); go_simp; all_goals with_reducible rfl
        try simp only [Act.put, List.setIfInBounds_toArray, List.set_cons_zero, List.set_cons_succ]
        refine rg_take (i := 16) (some 38) (v := ?_) rfl rfl (by kernel_rfl) (by rfl) hQ7 hHeld ?_ ?_
        rotate_left
        · intro w7 hSw; (try dsimp only at hSw); go_simp; all_goals with_reducible rfl
        try simp only [Act.put, List.setIfInBounds_toArray, List.set_cons_zero, List.set_cons_succ]
        refine rg_take (i := 17) (some 39) (v := ?_) rfl rfl (by kernel_rfl) (by rfl) hQ7 hHeld ?_ ?_
        rotate_left
        · intro w7 hSw; (try dsimp only at hSw); go_simp; all_goals with_reducible rfl
        try simp only [Act.put, List.setIfInBounds_toArray, List.set_cons_zero, List.set_cons_succ]
        refine rg_end (by kernel_rfl) (hN7 _ _ ?_) _
        clear hQ7 hN7 Q7
        clear hw1 hw2 hw3 hj0 hjn
        go_wp2_with fail
        go_ret
        exact ⟨ret_int HZ.out, ext_trans HB2.out (BW7)⟩
      · have HS1 : Hid (okGo none (al.take (j + 1 + 1)) = true) := by rw [Hid, HST.out]; exact decide_eq_true (by omega)
        go_wp2_with fail
        refine rg_begin (S := (fun w' => w'.cell? ⟨wo2.heap.size, 0, none⟩ = some (.int .i64 x.a) ∧ w'.cell? ⟨wo2.heap.size, 1, none⟩ = some (.int .i64 x.b) ∧ w'.cell? ⟨w.heap.size, 1, none⟩ = some (.slice (some ⟨b1, o1, none⟩) al.length ac) ∧ w'.cell? ⟨b1, o1 + j * 2, none⟩ = some (.int .i64 y.a) ∧ w'.cell? ⟨b1, o1 + j * 2 + 1, none⟩ = some (.int .i64 y.b))) 18 (by kernel_rfl) (by intro d; cases d <;> intro _ _ _ _ h <;> exact h) ?_ (fun Q7 hQ7 hN7 hHeld => ?_)
        · exact HSB.out _ (ext_drew (ext_refl _))
        refine rg_take (i := 0) (some 22) (v := ?_) rfl rfl (by kernel_rfl) (by rfl) hQ7 hHeld ?_ ?_
        rotate_left
        · intro w7 hSw; (try dsimp only at hSw); go_simp; all_goals with_reducible rfl
        try simp only [Act.put, List.setIfInBounds_toArray, List.set_cons_zero, List.set_cons_succ]
        refine rg_one (i := 1) (by kernel_rfl) (rg_step rfl (by rfl) (fun K hK => ?_))
        go_simp
        refine (valid_at true H1.out).mono ?_
        rintro e w7 ⟨rfl, B7⟩; have BW7 := ext_trans (ext_drew (ext_refl (wo2.alloc (.cells #[.int .i64 x.a, .int .i64 x.b] 53)))) B7
        go_wp2_with fail
        refine hK.out _ _ ?_ (fun hHeld => ?_)
        · exact HSB.out _ BW7
        clear hK K
        try simp only [Act.put, List.setIfInBounds_toArray, List.set_cons_zero, List.set_cons_succ]
        refine rg_take (i := 2) (some 24) (v := ?_) rfl rfl (by kernel_rfl) (by rfl) hQ7 hHeld ?_ ?_
        rotate_left
        · intro w7 hSw; (try dsimp only at hSw); go_simp; all_goals with_reducible rfl
        try simp only [Act.put, List.setIfInBounds_toArray, List.set_cons_zero, List.set_cons_succ]
        refine rg_take (i := 3) (some 25) (v := ?_) rfl rfl (by kernel_rfl) (by rfl) hQ7 hHeld ?_ ?_
        rotate_left
        · intro w7 hSw; (try dsimp only at hSw); go_simp; all_goals with_reducible rfl
        try simp only [Act.put, List.setIfInBounds_toArray, List.set_cons_zero, List.set_cons_succ]
        refine rg_take (i := 4) (some 26) (v := ?_) rfl rfl (by kernel_rfl) (by rfl) hQ7 hHeld ?_ ?_
        rotate_left
        · intro w7 hSw; (try dsimp only at hSw); go_simp; all_goals with_reducible rfl
        try simp only [Act.put, List.setIfInBounds_toArray, List.set_cons_zero, List.set_cons_succ]
        refine rg_take (i := 5) (some 27) (v := ?_) rfl rfl (by kernel_rfl) (by rfl) hQ7 hHeld ?_ ?_
        rotate_left
        · intro w7 hSw; (try dsimp only at hSw); go_simp; all_goals with_reducible rfl
        try simp only [Act.put, List.setIfInBounds_toArray, List.set_cons_zero, List.set_cons_succ]
        refine rg_take (i := 6) (some 28) (v := ?_) rfl rfl (by kernel_rfl) (by rfl) hQ7 hHeld ?_ ?_
        rotate_left
        · intro w7 hSw; (try dsimp only at hSw); go_simp; all_goals with_reducible rfl
        try simp only [Act.put, List.setIfInBounds_toArray, List.set_cons_zero, List.set_cons_succ]
        refine rg_take (i := 7) (some 29) (v := ?_) rfl rfl (by kernel_rfl) (by rfl) hQ7 hHeld ?_ ?_
        rotate_left
        · intro w7 hSw; (try dsimp only at hSw); go_simp; all_goals with_reducible rfl
        try simp only [Act.put, List.setIfInBounds_toArray, List.set_cons_zero, List.set_cons_succ]
        refine rg_take (i := 8) (some 30) (v := ?_) rfl rfl (by kernel_rfl) (by rfl) hQ7 hHeld ?_ ?_
        rotate_left
        · intro w7 hSw; (try dsimp only at hSw); go_simp; all_goals with_reducible rfl
        try simp only [Act.put, List.setIfInBounds_toArray, List.set_cons_zero, List.set_cons_succ]
        refine rg_take (i := 9) (some 31) (v := ?_) rfl rfl (by kernel_rfl) (by rfl) hQ7 hHeld ?_ ?_
        rotate_left
        · intro w7 hSw; (try dsimp only at hSw); go_simp; all_goals with_reducible rfl
        try simp only [Act.put, List.setIfInBounds_toArray, List.set_cons_zero, List.set_cons_succ]
        refine rg_take (i := 10) (some 32) (v := ?_) rfl rfl (by kernel_rfl) (by rfl) hQ7 hHeld ?_ ?_
        rotate_left
        · intro w7 hSw; (try dsimp only at hSw); go_simp; all_goals with_reducible rfl
        try simp only [Act.put, List.setIfInBounds_toArray, List.set_cons_zero, List.set_cons_succ]
        refine rg_take (i := 11) (some 33) (v := ?_) rfl rfl (by kernel_rfl) (by rfl) hQ7 hHeld ?_ ?_
        rotate_left
        · intro w7 hSw; (try dsimp only at hSw); go_simp; all_goals with_reducible rfl
        try simp only [Act.put, List.setIfInBounds_toArray, List.set_cons_zero, List.set_cons_succ]
        refine rg_take (i := 12) (some 34) (v := ?_) rfl rfl (by kernel_rfl) (by rfl) hQ7 hHeld ?_ ?_
        rotate_left
        · intro w7 hSw; (try dsimp only at hSw); go_simp; all_goals with_reducible rfl
        try simp only [Act.put, List.setIfInBounds_toArray, List.set_cons_zero, List.set_cons_succ]
        refine rg_take (i := 13) (some 35) (v := ?_) rfl rfl (by kernel_rfl) (by rfl) hQ7 hHeld ?_ ?_
        rotate_left
        · intro w7 hSw; (try dsimp only at hSw); go_simp; all_goals with_reducible rfl
        try simp only [Act.put, List.setIfInBounds_toArray, List.set_cons_zero, List.set_cons_succ]
        refine rg_one (i := 14) (by kernel_rfl) (rg_step rfl (by rfl) (fun K hK => ?_))
        go_simp
        refine (compare_at rr HC.out hHeld.2.2.2.1 hHeld.2.2.2.2 hHeld.1 hHeld.2.1).mono ?_
        rintro e w9 ⟨rfl, rfl⟩
        go_wp2_with fail
        refine hK.out _ _ ?_ (fun hHeld => ?_)
        · exact hHeld
        clear hK K
        try simp only [Act.put, List.setIfInBounds_toArray, List.set_cons_zero, List.set_cons_succ]
        refine rg_take (i := 15) (some 37) (v := ?_) rfl rfl (by kernel_rfl) (by rfl) hQ7 hHeld ?_ ?_
        rotate_left
        · intro w7 hSw; (try dsimp only at hSw); go_simp; all_goals with_reducible rfl
        try simp only [Act.put, List.setIfInBounds_toArray, List.set_cons_zero, List.set_cons_succ]
        refine rg_take (i := 16) (some 38) (v := ?_) rfl rfl (by kernel_rfl) (by rfl) hQ7 hHeld ?_ ?_
        rotate_left
        · intro w7 hSw; (try dsimp only at hSw); go_simp; all_goals with_reducible rfl
        try simp only [Act.put, List.setIfInBounds_toArray, List.set_cons_zero, List.set_cons_succ]
        refine rg_take (i := 17) (some 39) (v := ?_) rfl rfl (by kernel_rfl) (by rfl) hQ7 hHeld ?_ ?_
        rotate_left
        · intro w7 hSw; (try dsimp only at hSw); go_simp; all_goals with_reducible rfl
        try simp only [Act.put, List.setIfInBounds_toArray, List.set_cons_zero, List.set_cons_succ]
        refine rg_end (by kernel_rfl) (hN7 _ _ ?_) _
        clear hQ7 hN7 Q7
        clear hw1 hw2 hw3 hj0 hjn
        go_wp2_with fail
        go_roundw
        case rel => exact ⟨j + 1 + 1, hlk, by go_num, HS1.out, ext_trans HB2.out (BW7), (HBX2.out.ext HBL.out).ext (BW7)⟩
        case measure => simp [intOf]; omega
end Go.Proofs.Ythchcimialclkaa
