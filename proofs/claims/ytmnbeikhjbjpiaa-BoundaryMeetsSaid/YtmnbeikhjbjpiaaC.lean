/- Contracts: centres; what a list contains; agreements that fit. -/
import Derived.Test.YtmnbeikhjbjpiaaB
import Derived.ChangeKeysEq
set_option linter.unusedSimpArgs false
set_option linter.unusedVariables false
namespace Go.Proofs.Ytmnbeikhjbjpiaa
open Go.RowKit
set_option maxHeartbeats 800000 in
theorem indexEAg (x : Ag) (A : Option Addr) (c : Nat) (l : List Ag) (w : World) (ha : Slc w Ag.cells 5 A l) (hn : l.length ≤ maxLen) :
    Calls Try.prog 62 #[.slice A l.length c, x.v] w (RetE w (idxGo (fun y => decide (x = y)) 0 l)) := by
  unfold maxLen at hn
  have HBX := Lib.hid (Blk.new w (Ag.cells x) 26)
  have HW := Lib.hid (ext_alloc (ext_refl w) (.cells (Ag.cells x).toArray 26))
  simp only [Ag.cells] at HBX HW
  go_enter Try.func62, Try.ntmps62
  go_wp2_with fail
  go_loopw [8] (fun i wr => ∃ k : Nat, k ≤ l.length ∧ i = .int .i64 k ∧ Hid (idxGo (fun y => decide (x = y)) 0 l = idxGo (fun y => decide (x = y)) k (l.drop k)) ∧ Hid (Blk wr w.heap.size (Ag.cells x)) ∧ Hid (Below w.heap.size w wr)) (fun i _ => l.length - (intOf i).toNat)
  case atStart => exact ⟨0, Nat.zero_le _, rfl, rfl, HBX.out, HW.out⟩
  case round =>
    obtain ⟨k, hk, rfl, HQ, HBX1, HB⟩ := hrel
    by_cases hlt : k < l.length
    · obtain ⟨y, b1, o1, hy, rfl, hb1, hc⟩ := (ha.ext HB.out).at_ hlt
      have HX := Lib.hid hy
      clear hy
      have c0 := hc 0 _ rfl
      have c1 := hc 1 _ rfl
      have c2 := hc 2 _ rfl
      have c3 := hc 3 _ rfl
      have c4 := hc 4 _ rfl
      have HBX2 := HBX1.out
      have d0 := HBX2.c 0 _ rfl
      have d1 := HBX2.c 1 _ rfl
      have d2 := HBX2.c 2 _ rfl
      have d3 := HBX2.c 3 _ rfl
      have d4 := HBX2.c 4 _ rfl
      simp only [Nat.mul_one, Nat.add_zero] at c0 c1 c2 c3 c4
      have hb0 := HBX2.lt
      clear hc HBX2
      have hlt' : (k : Int) < l.length := by omega
      have heq := fun w => run_eql26 x y w
      by_cases hxy : x = y
      · have HXY := Lib.hid hxy
        have hd : decide (x = y) = true := by simpa using hxy
        clear hxy
        rw [hd] at heq
        go_wp2_with fail
        go_quiet (fail)
        go_wp2_with fail
        go_ret
        exact ⟨ret_int (idx_hit HX.out (by simpa using HXY.out) HQ.out).symm, ext_drewN HB.out _⟩
      · have HXY := Lib.hid hxy
        have hd : decide (x = y) = false := by simpa using hxy
        clear hxy
        rw [hd] at heq
        go_wp2_with fail
        go_quiet (fail)
        go_wp2_with fail
        go_roundw
        case rel => exact ⟨k + 1, hlt, by go_num, idx_step HX.out (by simpa using HXY.out) HQ.out, HBX1.out.ext (ext_drewN (ext_refl _) _), ext_drewN HB.out _⟩
        case measure => simp [intOf]; omega
    · go_wp2_with fail
      go_ret
      exact ⟨ret_int (idx_end (by omega) HQ.out).symm, HB.out⟩
theorem containsEAg (x : Ag) (A : Option Addr) (c : Nat) (l : List Ag) (w : World) (ha : Slc w Ag.cells 5 A l) (hn : l.length ≤ maxLen) :
    Calls Try.prog 45 #[.slice A l.length c, x.v] w (RetB w (l.any (fun y => decide (x = y)))) := by
  go_enter Try.func45, Try.ntmps45
  go_wp2_with fail
  refine (indexEAg x A c l _ (ha.alloc _) hn).mono ?_
  rintro e w1 ⟨rfl, hB1⟩
  go_wp2_with fail
  go_ret
  exact ⟨ret_bool (idx_any _ l), ext_trans (ext_alloc (ext_refl w) _) hB1⟩
theorem info3 : (Try.prog.info? 3).map (fun i => (i.zero, i.size, i.bytes)) = some (some (.int .i64 0), 1, 8) := by kernel_rfl
theorem cells3 : Try.prog.cellsOf 3 = 1 := by kernel_rfl
theorem eqW (x y : Wy) (d : Nat) (w : World) : (Op.equalIn (d + 2) 56 x.v y.v).run Try.prog w = .ok (decide (x = y)) w := by
  obtain ⟨i, hi, _⟩ := info_parts info3
  rw [run_equalIn_array (P := Try.prog) w (d + 1) _ _ Try.underlying56 hi, cells3]
  simp only [show List.range 2 = [0, 1] from rfl, Op.eqItems]
  go_simp
  simp only [Wy.eq_iff]
  repeat' split
  all_goals simp_all
theorem run_eql56 (x y : Wy) (w : World) : (binOp .eql 56 x.v y.v).run Try.prog w = .ok (.bool (decide (x = y))) w := by
  rw [run_eql_struct, eqW x y 9998 w]; rfl
set_option maxHeartbeats 800000 in
theorem indexEWy (x : Wy) (A : Option Addr) (c : Nat) (l : List Wy) (w : World) (ha : Slc w Wy.cells 2 A l) (hn : l.length ≤ maxLen) :
    Calls Try.prog 64 #[.slice A l.length c, x.v] w (RetE w (idxGo (fun y => decide (x = y)) 0 l)) := by
  unfold maxLen at hn
  have HBX := Lib.hid (Blk.new w (Wy.cells x) 56)
  have HW := Lib.hid (ext_alloc (ext_refl w) (.cells (Wy.cells x).toArray 56))
  simp only [Wy.cells] at HBX HW
  go_enter Try.func64, Try.ntmps64
  go_wp2_with fail
  go_loopw [8] (fun i wr => ∃ k : Nat, k ≤ l.length ∧ i = .int .i64 k ∧ Hid (idxGo (fun y => decide (x = y)) 0 l = idxGo (fun y => decide (x = y)) k (l.drop k)) ∧ Hid (Blk wr w.heap.size (Wy.cells x)) ∧ Hid (Below w.heap.size w wr)) (fun i _ => l.length - (intOf i).toNat)
  case atStart => exact ⟨0, Nat.zero_le _, rfl, rfl, HBX.out, HW.out⟩
  case round =>
    obtain ⟨k, hk, rfl, HQ, HBX1, HB⟩ := hrel
    by_cases hlt : k < l.length
    · obtain ⟨y, b1, o1, hy, rfl, hb1, hc⟩ := (ha.ext HB.out).at_ hlt
      have HX := Lib.hid hy
      clear hy
      have c0 := hc 0 _ rfl
      have c1 := hc 1 _ rfl
      have HBX2 := HBX1.out
      have d0 := HBX2.c 0 _ rfl
      have d1 := HBX2.c 1 _ rfl
      simp only [Nat.mul_one, Nat.add_zero] at c0 c1
      have hb0 := HBX2.lt
      clear hc HBX2
      have hlt' : (k : Int) < l.length := by omega
      have heq := fun w => run_eql56 x y w
      by_cases hxy : x = y
      · have HXY := Lib.hid hxy
        have hd : decide (x = y) = true := by simpa using hxy
        clear hxy
        rw [hd] at heq
        go_wp2_with fail
        go_quiet (fail)
        go_wp2_with fail
        go_ret
        exact ⟨ret_int (idx_hit HX.out (by simpa using HXY.out) HQ.out).symm, ext_drewN HB.out _⟩
      · have HXY := Lib.hid hxy
        have hd : decide (x = y) = false := by simpa using hxy
        clear hxy
        rw [hd] at heq
        go_wp2_with fail
        go_quiet (fail)
        go_wp2_with fail
        go_roundw
        case rel => exact ⟨k + 1, hlt, by go_num, idx_step HX.out (by simpa using HXY.out) HQ.out, HBX1.out.ext (ext_drewN (ext_refl _) _), ext_drewN HB.out _⟩
        case measure => simp [intOf]; omega
    · go_wp2_with fail
      go_ret
      exact ⟨ret_int (idx_end (by omega) HQ.out).symm, HB.out⟩
theorem containsEWy (x : Wy) (A : Option Addr) (c : Nat) (l : List Wy) (w : World) (ha : Slc w Wy.cells 2 A l) (hn : l.length ≤ maxLen) :
    Calls Try.prog 53 #[.slice A l.length c, x.v] w (RetB w (l.any (fun y => decide (x = y)))) := by
  go_enter Try.func53, Try.ntmps53
  go_wp2_with fail
  refine (indexEWy x A c l _ (ha.alloc _) hn).mono ?_
  rintro e w1 ⟨rfl, hB1⟩
  go_wp2_with fail
  go_ret
  exact ⟨ret_bool (idx_any _ l), ext_trans (ext_alloc (ext_refl w) _) hB1⟩
theorem cen_any (a b : Int) (w : World) : Calls Try.prog 46 #[.int .i64 a, .int .i64 b] w (RetB w (cen a b)) := by
  obtain ⟨r, hr⟩ : ∃ r, btw3 [a, 0, 3, b, 0, 3] = r := ⟨_, rfl⟩
  have HR := Lib.hid hr
  have HC := Lib.hid (show cen a b = (r && decide (a ≠ b)) by rw [← hr]; simp [cen, btw3])
  clear hr
  go_enter Try.func46, Try.ntmps46
  go_wp2_with fail
  refine (btw_at [a, 0, 3, b, 0, 3] r HR.out rfl ⟨2, rfl, by decide⟩ (slc_litH _ [a, 0, 3, b, 0, 3] _ 3 (enc := ic) (sz := 1) (fun _ => rfl) rfl _ (by first | rfl | simp))).mono ?_
  rintro e w1 ⟨rfl, B1⟩
  have E1 := ext_trans (ext_alloc (ext_refl w) _) B1
  cases r
  · go_wp2_with fail
    go_ret
    exact ⟨ret_bool (by rw [HC.out]; rfl), E1⟩
  · go_wp2_with fail
    go_ret
    exact ⟨ret_bool (by rw [HC.out, Bool.true_and]; by_cases h : a = b <;> simp [h]), E1⟩
theorem rcen_any (a b : Int) (w : World) : Calls Try.prog 47 #[.int .i64 a, .int .i64 b] w fun e w' => e = .returned (.bool (cen a b)) ∧ w = w' := by
  have HC := Lib.hid (show cen a b = ((decide (0 ≤ a) && decide (a ≤ 3) && (decide (0 ≤ b) && decide (b ≤ 3))) && decide (a ≠ b)) from rfl)
  by_cases h1 : 0 ≤ a
  · by_cases h2 : a < 4
    · by_cases h3 : 0 ≤ b
      · by_cases h4 : b < 4
        · have k1 : decide (0 ≤ a) = true := by simpa using h1
          have k2 : decide (a ≤ 3) = true := by simp; omega
          have k3 : decide (0 ≤ b) = true := by simpa using h3
          have k4 : decide (b ≤ 3) = true := by simp; omega
          have HK := Lib.hid (show cen a b = decide (a ≠ b) by rw [HC.out, k1, k2, k3, k4]; rfl)
          clear k1 k2 k3 k4
          go_enter Try.func47, Try.ntmps47
          go_wp2_with fail
          go_ret
          exact ⟨ret_bool (by rw [HK.out]; by_cases h : a = b <;> simp [h]), rfl⟩
        · have HK := Lib.hid (show cen a b = false by rw [HC.out, decide_eq_false (show ¬ b ≤ 3 by omega)]; simp)
          go_enter Try.func47, Try.ntmps47
          go_wp2_with fail
          go_ret
          exact ⟨ret_bool HK.out.symm, rfl⟩
      · have HK := Lib.hid (show cen a b = false by rw [HC.out, decide_eq_false h3]; simp)
        go_enter Try.func47, Try.ntmps47
        go_wp2_with fail
        go_ret
        exact ⟨ret_bool HK.out.symm, rfl⟩
    · have HK := Lib.hid (show cen a b = false by rw [HC.out, decide_eq_false (show ¬ a ≤ 3 by omega)]; simp)
      go_enter Try.func47, Try.ntmps47
      go_wp2_with fail
      go_ret
      exact ⟨ret_bool HK.out.symm, rfl⟩
  · have HK := Lib.hid (show cen a b = false by rw [HC.out, decide_eq_false h1]; simp)
    go_enter Try.func47, Try.ntmps47
    go_wp2_with fail
    go_ret
    exact ⟨ret_bool HK.out.symm, rfl⟩
theorem order_any (x y : Ag) (w : World) (hx : 1 ≤ x.no ∧ x.no ≤ 1048576) (hy : 1 ≤ y.no ∧ y.no ≤ 1048576) : Calls Try.prog 56 #[x.v, y.v] w (RetE w (x.no - y.no)) := by
  obtain ⟨h1, h2⟩ := hx
  obtain ⟨h3, h4⟩ := hy
  go_enter Try.func56, Try.ntmps56
  go_wp2_with fail
  go_ret
  exact ⟨rfl, ext_alloc (ext_alloc (ext_refl w) _) _⟩
theorem num1_any (x : Ag) (no : Int) (b o : Nat) (w : World) (hc : w.cell? ⟨b, o, none⟩ = some (.int .i64 no)) (hb : b < w.heap.size) : Calls Try.prog 59 #[x.v, .pointer (some ⟨b, o, none⟩)] w (RetB w (x.no == no)) := by
  have hne : b ≠ w.heap.size := by omega
  go_enter Try.func59, Try.ntmps59
  go_wp2_with fail
  go_ret
  exact ⟨rfl, ext_alloc (ext_refl w) _⟩
theorem agr1_any (x : Ag) (no : Int) (b o : Nat) (w : World) (hc : w.cell? ⟨b, o, none⟩ = some (.int .i64 no)) (hb : b < w.heap.size) : Calls Try.prog 61 #[x.v, .pointer (some ⟨b, o, none⟩)] w (RetB w (x.no == no)) := by
  have hne : b ≠ w.heap.size := by omega
  go_enter Try.func61, Try.ntmps61
  go_wp2_with fail
  go_ret
  exact ⟨rfl, ext_alloc (ext_refl w) _⟩
theorem contains_at {x : Wy} {A : Option Addr} {c n : Nat} {l : List Wy} {w : World} (r : Bool) (hr : l.any (fun y => decide (x = y)) = r) (hn : n = l.length) (ha : Slc w Wy.cells 2 A l) (hm : l.length ≤ 1000) :
    Calls Try.prog 53 #[.slice A n c, .agg #[.int .i64 x.a, .int .i64 x.b]] w (RetB w r) := by
  subst hr hn; exact containsEWy x A c l w ha (by unfold maxLen; omega)

theorem ways_any (own ot f t : Int) : [(⟨own, ot⟩ : Wy), ⟨ot, own⟩].any (fun y => decide ((⟨f, t⟩ : Wy) = y)) = (decide (f = own ∧ t = ot) || decide (f = ot ∧ t = own)) := by
  simp [Wy.eq_iff]
set_option maxHeartbeats 1600000 in
theorem fits_any (b : Bd) (x : Ag) (w : World) : Calls Try.prog 34 #[b.v, x.v] w (RetB w (fits b.own b.ot x)) := by
  obtain ⟨r1, hr1⟩ : ∃ r, [(⟨b.own, b.ot⟩ : Wy), ⟨b.ot, b.own⟩].any (fun y => decide ((⟨x.f, x.t⟩ : Wy) = y)) = r := ⟨_, rfl⟩
  obtain ⟨r2, hr2⟩ : ∃ r, btw3 [x.no, 1, 1048576, x.m, 0, 1439, x.r, 0, 60] = r := ⟨_, rfl⟩
  have HF := Lib.hid (show fits b.own b.ot x = (r1 && r2) by rw [← hr1, ← hr2, ways_any]; simp only [fits, btw3, Bool.and_true, Bool.and_assoc])
  have H1 := Lib.hid hr1
  have H2 := Lib.hid hr2
  clear hr1 hr2
  have E := Lib.hid (ext_refl w)
  replace E := Lib.hid (ext_alloc E.out (.cells #[.int .i64 b.own, .int .i64 b.ot, .slice b.ag.A b.ag.l.length b.ag.c, .slice b.op.A b.op.l.length b.op.c] 64))
  replace E := Lib.hid (ext_alloc E.out (.cells #[.int .i64 x.no, .int .i64 x.f, .int .i64 x.t, .int .i64 x.m, .int .i64 x.r] 26))
  have X := Lib.hid (Blk.newH (w.alloc (.cells #[.int .i64 b.own, .int .i64 b.ot, .slice b.ag.A b.ag.l.length b.ag.c, .slice b.op.A b.op.l.length b.op.c] 64)) [.int .i64 x.no, .int .i64 x.f, .int .i64 x.t, .int .i64 x.m, .int .i64 x.r] 26 (w.heap.size + 1) (by first | rfl | simp))
  replace E := Lib.hid (ext_alloc E.out (.cells #[.int .i64 b.own, .int .i64 b.ot, .int .i64 b.ot, .int .i64 b.own] 80))
  replace X := Lib.hid (X.out.alloc (.cells #[.int .i64 b.own, .int .i64 b.ot, .int .i64 b.ot, .int .i64 b.own] 80))
  have Y := Lib.hid (Blk.newH ((w.alloc (.cells #[.int .i64 b.own, .int .i64 b.ot, .slice b.ag.A b.ag.l.length b.ag.c, .slice b.op.A b.op.l.length b.op.c] 64)).alloc (.cells #[.int .i64 x.no, .int .i64 x.f, .int .i64 x.t, .int .i64 x.m, .int .i64 x.r] 26)) [.int .i64 b.own, .int .i64 b.ot, .int .i64 b.ot, .int .i64 b.own] 80 (w.heap.size + 1 + 1) (by first | rfl | simp))
  go_enter Try.func34, Try.ntmps34
  go_wp2_with fail
  obtain ⟨W0, hNW0⟩ : ∃ W0, W0 = (((w.alloc (.cells #[.int .i64 b.own, .int .i64 b.ot, .slice b.ag.A b.ag.l.length b.ag.c, .slice b.op.A b.op.l.length b.op.c] 64)).alloc (.cells #[.int .i64 x.no, .int .i64 x.f, .int .i64 x.t, .int .i64 x.m, .int .i64 x.r] 26)).alloc (.cells #[.int .i64 b.own, .int .i64 b.ot, .int .i64 b.ot, .int .i64 b.own] 80)) := ⟨_, rfl⟩
  have hzW0 : W0.heap.size = w.heap.size + 1 + 1 + 1 := by rw [hNW0]; simp
  have ZW0 := Lib.hid hzW0
  rw [← hNW0] at E X Y ⊢
  clear hNW0 hzW0
  have SW : Hid (Slc W0 Wy.cells 2 (some ⟨w.heap.size + 1 + 1, 0, none⟩) [⟨b.own, b.ot⟩, ⟨b.ot, b.own⟩]) := by
    intro i y hy
    have hl := Y.out.lt
    match i, hy with
    | 0, hy => cases hy; exact ⟨_, 0, rfl, hl, fun j v hj => by match j, hj with | 0, hj => exact Y.out.c 0 _ hj | 1, hj => exact Y.out.c 1 _ hj⟩
    | 1, hy => cases hy; exact ⟨_, 0, rfl, hl, fun j v hj => by match j, hj with | 0, hj => exact Y.out.c 2 _ hj | 1, hj => exact Y.out.c 3 _ hj⟩
  cases r1
  · have SS := Lib.hid (show ∀ w', Below W0.heap.size W0 w' → (fun w' => Below W0.heap.size W0 w' ∧ w'.cell? ⟨w.heap.size + 1, 0, none⟩ = some (.int .i64 x.no) ∧ w'.cell? ⟨w.heap.size + 1, 1, none⟩ = some (.int .i64 x.f) ∧ w'.cell? ⟨w.heap.size + 1, 2, none⟩ = some (.int .i64 x.t) ∧ w'.cell? ⟨w.heap.size + 1, 3, none⟩ = some (.int .i64 x.m) ∧ w'.cell? ⟨w.heap.size + 1, 4, none⟩ = some (.int .i64 x.r)) w' from fun w' h => ⟨h, (X.out.ext h).c 0 _ rfl, (X.out.ext h).c 1 _ rfl, (X.out.ext h).c 2 _ rfl, (X.out.ext h).c 3 _ rfl, (X.out.ext h).c 4 _ rfl⟩)
    refine rg_begin (S := (fun w' => Below W0.heap.size W0 w' ∧ w'.cell? ⟨w.heap.size + 1, 0, none⟩ = some (.int .i64 x.no) ∧ w'.cell? ⟨w.heap.size + 1, 1, none⟩ = some (.int .i64 x.f) ∧ w'.cell? ⟨w.heap.size + 1, 2, none⟩ = some (.int .i64 x.t) ∧ w'.cell? ⟨w.heap.size + 1, 3, none⟩ = some (.int .i64 x.m) ∧ w'.cell? ⟨w.heap.size + 1, 4, none⟩ = some (.int .i64 x.r))) 18 (by kernel_rfl) (by intro d; cases d <;> intro _ _ _ _ h <;> exact h) ?_ (fun Q7 hQ7 hN7 hHeld => ?_)
    · exact SS.out _ (ext_drew (ext_refl _))
    refine rg_take (i := 0) (some 21) (v := ?_) rfl rfl (by kernel_rfl) (by rfl) hQ7 hHeld ?_ ?_
    rotate_left
    · intro w7 hSw; (try dsimp only at hSw); go_simp; all_goals with_reducible rfl
    try simp only [Act.put, List.setIfInBounds_toArray, List.set_cons_zero, List.set_cons_succ]
    refine rg_take (i := 1) (some 22) (v := ?_) rfl rfl (by kernel_rfl) (by rfl) hQ7 hHeld ?_ ?_
    rotate_left
    · intro w7 hSw; (try dsimp only at hSw); go_simp; all_goals with_reducible rfl
    try simp only [Act.put, List.setIfInBounds_toArray, List.set_cons_zero, List.set_cons_succ]
    refine rg_take (i := 2) (some 23) (v := ?_) rfl rfl (by kernel_rfl) (by rfl) hQ7 hHeld ?_ ?_
    rotate_left
    · intro w7 hSw; (try dsimp only at hSw); go_simp; all_goals with_reducible rfl
    try simp only [Act.put, List.setIfInBounds_toArray, List.set_cons_zero, List.set_cons_succ]
    refine rg_take (i := 3) (some 24) (v := ?_) rfl rfl (by kernel_rfl) (by rfl) hQ7 hHeld ?_ ?_
    rotate_left
    · intro w7 hSw; (try dsimp only at hSw); go_simp; all_goals with_reducible rfl
    try simp only [Act.put, List.setIfInBounds_toArray, List.set_cons_zero, List.set_cons_succ]
    refine rg_take (i := 4) (some 25) (v := ?_) rfl rfl (by kernel_rfl) (by rfl) hQ7 hHeld ?_ ?_
    rotate_left
    · intro w7 hSw; (try dsimp only at hSw); go_simp; all_goals with_reducible rfl
    try simp only [Act.put, List.setIfInBounds_toArray, List.set_cons_zero, List.set_cons_succ]
    refine rg_take (i := 5) (some 26) (v := ?_) rfl rfl (by kernel_rfl) (by rfl) hQ7 hHeld ?_ ?_
    rotate_left
    · intro w7 hSw; (try dsimp only at hSw); go_simp; all_goals with_reducible rfl
    try simp only [Act.put, List.setIfInBounds_toArray, List.set_cons_zero, List.set_cons_succ]
    refine rg_one (i := 6) (by kernel_rfl) (rg_step rfl (by rfl) (fun K hK => ?_))
    go_simp
    refine (contains_at (x := ⟨x.f, x.t⟩) false H1.out rfl (SW.out.ext hHeld.1) (by simp)).mono ?_
    rintro e w1 ⟨rfl, B1⟩
    go_wp2_with fail
    refine hK.out _ _ ?_ (fun hHeld2 => ?_)
    · exact SS.out _ (ext_trans hHeld.1 B1)
    clear hHeld
    have hHeld := hHeld2
    clear hHeld2
    clear hK K
    try simp only [Act.put, List.setIfInBounds_toArray, List.set_cons_zero, List.set_cons_succ]
    refine rg_take (i := 7) (some 28) (v := ?_) rfl rfl (by kernel_rfl) (by rfl) hQ7 hHeld ?_ ?_
    rotate_left
    · intro w7 hSw; (try dsimp only at hSw); go_simp; all_goals with_reducible rfl
    try simp only [Act.put, List.setIfInBounds_toArray, List.set_cons_zero, List.set_cons_succ]
    refine rg_skip (i := 8) (some 29) rfl rfl (by kernel_rfl) (by rfl) hQ7 hHeld ?_
    try simp only [Act.put, List.setIfInBounds_toArray, List.set_cons_zero, List.set_cons_succ]
    refine rg_skip (i := 9) (some 30) rfl rfl (by kernel_rfl) (by rfl) hQ7 hHeld ?_
    try simp only [Act.put, List.setIfInBounds_toArray, List.set_cons_zero, List.set_cons_succ]
    refine rg_skip (i := 10) (some 31) rfl rfl (by kernel_rfl) (by rfl) hQ7 hHeld ?_
    try simp only [Act.put, List.setIfInBounds_toArray, List.set_cons_zero, List.set_cons_succ]
    refine rg_skip (i := 11) (some 32) rfl rfl (by kernel_rfl) (by rfl) hQ7 hHeld ?_
    try simp only [Act.put, List.setIfInBounds_toArray, List.set_cons_zero, List.set_cons_succ]
    refine rg_skip (i := 12) (some 33) rfl rfl (by kernel_rfl) (by rfl) hQ7 hHeld ?_
    try simp only [Act.put, List.setIfInBounds_toArray, List.set_cons_zero, List.set_cons_succ]
    refine rg_skip (i := 13) (some 34) rfl rfl (by kernel_rfl) (by rfl) hQ7 hHeld ?_
    try simp only [Act.put, List.setIfInBounds_toArray, List.set_cons_zero, List.set_cons_succ]
    refine rg_skip (i := 14) (some 35) rfl rfl (by kernel_rfl) (by rfl) hQ7 hHeld ?_
    try simp only [Act.put, List.setIfInBounds_toArray, List.set_cons_zero, List.set_cons_succ]
    refine rg_skip (i := 15) (some 36) rfl rfl (by kernel_rfl) (by rfl) hQ7 hHeld ?_
    try simp only [Act.put, List.setIfInBounds_toArray, List.set_cons_zero, List.set_cons_succ]
    refine rg_take (i := 16) (some 37) (v := ?_) rfl rfl (by kernel_rfl) (by rfl) hQ7 hHeld ?_ ?_
    rotate_left
    · intro w7 hSw; (try dsimp only at hSw); go_simp; all_goals with_reducible rfl
    try simp only [Act.put, List.setIfInBounds_toArray, List.set_cons_zero, List.set_cons_succ]
    refine rg_take (i := 17) (some 4) (v := ?_) rfl rfl (by kernel_rfl) (by rfl) hQ7 hHeld ?_ ?_
    rotate_left
    · intro w7 hSw; (try dsimp only at hSw); go_simp; all_goals with_reducible rfl
    try simp only [Act.put, List.setIfInBounds_toArray, List.set_cons_zero, List.set_cons_succ]
    refine rg_end (by kernel_rfl) (hN7 _ _ ?_) _
    clear hQ7 hN7 Q7
    have BX := hHeld.1
    clear SS
    replace E := Lib.hid (ext_trans E.out BX)
    replace X := Lib.hid (X.out.ext BX)
    replace SW := Lib.hid (SW.out.ext BX)
    clear BX
    go_wp2_with fail
    go_ret
    exact ⟨ret_bool (by rw [HF.out]; rfl), E.out⟩
  · have SS := Lib.hid (show ∀ w', Below W0.heap.size W0 w' → (fun w' => Below W0.heap.size W0 w' ∧ w'.cell? ⟨w.heap.size + 1, 0, none⟩ = some (.int .i64 x.no) ∧ w'.cell? ⟨w.heap.size + 1, 1, none⟩ = some (.int .i64 x.f) ∧ w'.cell? ⟨w.heap.size + 1, 2, none⟩ = some (.int .i64 x.t) ∧ w'.cell? ⟨w.heap.size + 1, 3, none⟩ = some (.int .i64 x.m) ∧ w'.cell? ⟨w.heap.size + 1, 4, none⟩ = some (.int .i64 x.r)) w' from fun w' h => ⟨h, (X.out.ext h).c 0 _ rfl, (X.out.ext h).c 1 _ rfl, (X.out.ext h).c 2 _ rfl, (X.out.ext h).c 3 _ rfl, (X.out.ext h).c 4 _ rfl⟩)
    refine rg_begin (S := (fun w' => Below W0.heap.size W0 w' ∧ w'.cell? ⟨w.heap.size + 1, 0, none⟩ = some (.int .i64 x.no) ∧ w'.cell? ⟨w.heap.size + 1, 1, none⟩ = some (.int .i64 x.f) ∧ w'.cell? ⟨w.heap.size + 1, 2, none⟩ = some (.int .i64 x.t) ∧ w'.cell? ⟨w.heap.size + 1, 3, none⟩ = some (.int .i64 x.m) ∧ w'.cell? ⟨w.heap.size + 1, 4, none⟩ = some (.int .i64 x.r))) 18 (by kernel_rfl) (by intro d; cases d <;> intro _ _ _ _ h <;> exact h) ?_ (fun Q7 hQ7 hN7 hHeld => ?_)
    · exact SS.out _ (ext_drew (ext_refl _))
    refine rg_take (i := 0) (some 21) (v := ?_) rfl rfl (by kernel_rfl) (by rfl) hQ7 hHeld ?_ ?_
    rotate_left
    · intro w7 hSw; (try dsimp only at hSw); go_simp; all_goals with_reducible rfl
    try simp only [Act.put, List.setIfInBounds_toArray, List.set_cons_zero, List.set_cons_succ]
    refine rg_take (i := 1) (some 22) (v := ?_) rfl rfl (by kernel_rfl) (by rfl) hQ7 hHeld ?_ ?_
    rotate_left
    · intro w7 hSw; (try dsimp only at hSw); go_simp; all_goals with_reducible rfl
    try simp only [Act.put, List.setIfInBounds_toArray, List.set_cons_zero, List.set_cons_succ]
    refine rg_take (i := 2) (some 23) (v := ?_) rfl rfl (by kernel_rfl) (by rfl) hQ7 hHeld ?_ ?_
    rotate_left
    · intro w7 hSw; (try dsimp only at hSw); go_simp; all_goals with_reducible rfl
    try simp only [Act.put, List.setIfInBounds_toArray, List.set_cons_zero, List.set_cons_succ]
    refine rg_take (i := 3) (some 24) (v := ?_) rfl rfl (by kernel_rfl) (by rfl) hQ7 hHeld ?_ ?_
    rotate_left
    · intro w7 hSw; (try dsimp only at hSw); go_simp; all_goals with_reducible rfl
    try simp only [Act.put, List.setIfInBounds_toArray, List.set_cons_zero, List.set_cons_succ]
    refine rg_take (i := 4) (some 25) (v := ?_) rfl rfl (by kernel_rfl) (by rfl) hQ7 hHeld ?_ ?_
    rotate_left
    · intro w7 hSw; (try dsimp only at hSw); go_simp; all_goals with_reducible rfl
    try simp only [Act.put, List.setIfInBounds_toArray, List.set_cons_zero, List.set_cons_succ]
    refine rg_take (i := 5) (some 26) (v := ?_) rfl rfl (by kernel_rfl) (by rfl) hQ7 hHeld ?_ ?_
    rotate_left
    · intro w7 hSw; (try dsimp only at hSw); go_simp; all_goals with_reducible rfl
    try simp only [Act.put, List.setIfInBounds_toArray, List.set_cons_zero, List.set_cons_succ]
    refine rg_one (i := 6) (by kernel_rfl) (rg_step rfl (by rfl) (fun K hK => ?_))
    go_simp
    refine (contains_at (x := ⟨x.f, x.t⟩) true H1.out rfl (SW.out.ext hHeld.1) (by simp)).mono ?_
    rintro e w1 ⟨rfl, B1⟩
    go_wp2_with fail
    refine hK.out _ _ ?_ (fun hHeld2 => ?_)
    · exact SS.out _ (ext_trans hHeld.1 B1)
    clear hHeld
    have hHeld := hHeld2
    clear hHeld2
    clear hK K
    try simp only [Act.put, List.setIfInBounds_toArray, List.set_cons_zero, List.set_cons_succ]
    refine rg_take (i := 7) (some 28) (v := ?_) rfl rfl (by kernel_rfl) (by rfl) hQ7 hHeld ?_ ?_
    rotate_left
    · intro w7 hSw; (try dsimp only at hSw); go_simp; all_goals with_reducible rfl
    try simp only [Act.put, List.setIfInBounds_toArray, List.set_cons_zero, List.set_cons_succ]
    refine rg_take (i := 8) (some 29) (v := ?_) rfl rfl (by kernel_rfl) (by rfl) hQ7 hHeld ?_ ?_
    rotate_left
    · intro w7 hSw; (try dsimp only at hSw); go_simp; all_goals with_reducible rfl
    try simp only [Act.put, List.setIfInBounds_toArray, List.set_cons_zero, List.set_cons_succ]
    refine rg_take (i := 9) (some 30) (v := ?_) rfl rfl (by kernel_rfl) (by rfl) hQ7 hHeld ?_ ?_
    rotate_left
    · intro w7 hSw; (try dsimp only at hSw); go_simp; all_goals with_reducible rfl
    try simp only [Act.put, List.setIfInBounds_toArray, List.set_cons_zero, List.set_cons_succ]
    refine rg_take (i := 10) (some 31) (v := ?_) rfl rfl (by kernel_rfl) (by rfl) hQ7 hHeld ?_ ?_
    rotate_left
    · intro w7 hSw; (try dsimp only at hSw); go_simp; all_goals with_reducible rfl
    try simp only [Act.put, List.setIfInBounds_toArray, List.set_cons_zero, List.set_cons_succ]
    refine rg_take (i := 11) (some 32) (v := ?_) rfl rfl (by kernel_rfl) (by rfl) hQ7 hHeld ?_ ?_
    rotate_left
    · intro w7 hSw; (try dsimp only at hSw); go_simp; all_goals with_reducible rfl
    try simp only [Act.put, List.setIfInBounds_toArray, List.set_cons_zero, List.set_cons_succ]
    refine rg_take (i := 12) (some 33) (v := ?_) rfl rfl (by kernel_rfl) (by rfl) hQ7 hHeld ?_ ?_
    rotate_left
    · intro w7 hSw; (try dsimp only at hSw); go_simp; all_goals with_reducible rfl
    try simp only [Act.put, List.setIfInBounds_toArray, List.set_cons_zero, List.set_cons_succ]
    refine rg_take (i := 13) (some 34) (v := ?_) rfl rfl (by kernel_rfl) (by rfl) hQ7 hHeld ?_ ?_
    rotate_left
    · intro w7 hSw; (try dsimp only at hSw); go_simp; all_goals with_reducible rfl
    try simp only [Act.put, List.setIfInBounds_toArray, List.set_cons_zero, List.set_cons_succ]
    refine rg_one (i := 14) (by kernel_rfl) (rg_step rfl (by rfl) (fun K hK => ?_))
    go_simp
    refine hK.out _ _ ?_ (fun hHeld2 => ?_)
    · exact SS.out _ (ext_alloc hHeld.1 _)
    clear hHeld
    have hHeld := hHeld2
    clear hHeld2
    clear hK K
    try simp only [Act.put, List.setIfInBounds_toArray, List.set_cons_zero, List.set_cons_succ]
    refine rg_one (i := 15) (by kernel_rfl) (rg_step rfl (by rfl) (fun K hK => ?_))
    go_simp
    refine (btw_at [x.no, 1, 1048576, x.m, 0, 1439, x.r, 0, 60] r2 H2.out rfl ⟨3, rfl, by decide⟩ (slc_litH _ [x.no, 1, 1048576, x.m, 0, 1439, x.r, 0, 60] _ 3 (enc := ic) (sz := 1) (fun _ => rfl) rfl _ (by first | rfl | simp))).mono ?_
    rintro e w2 ⟨rfl, B2⟩
    go_wp2_with fail
    refine hK.out _ _ ?_ (fun hHeld2 => ?_)
    · exact SS.out _ (ext_trans hHeld.1 B2)
    clear hHeld
    have hHeld := hHeld2
    clear hHeld2
    clear hK K
    try simp only [Act.put, List.setIfInBounds_toArray, List.set_cons_zero, List.set_cons_succ]
    refine rg_take (i := 16) (some 37) (v := ?_) rfl rfl (by kernel_rfl) (by rfl) hQ7 hHeld ?_ ?_
    rotate_left
    · intro w7 hSw; (try dsimp only at hSw); go_simp; all_goals with_reducible rfl
    try simp only [Act.put, List.setIfInBounds_toArray, List.set_cons_zero, List.set_cons_succ]
    refine rg_take (i := 17) (some 4) (v := ?_) rfl rfl (by kernel_rfl) (by rfl) hQ7 hHeld ?_ ?_
    rotate_left
    · intro w7 hSw; (try dsimp only at hSw); go_simp; all_goals with_reducible rfl
    try simp only [Act.put, List.setIfInBounds_toArray, List.set_cons_zero, List.set_cons_succ]
    refine rg_end (by kernel_rfl) (hN7 _ _ ?_) _
    clear hQ7 hN7 Q7
    have BX := hHeld.1
    clear SS
    replace E := Lib.hid (ext_trans E.out BX)
    replace X := Lib.hid (X.out.ext BX)
    replace SW := Lib.hid (SW.out.ext BX)
    clear BX
    go_wp2_with fail
    go_ret
    exact ⟨ret_bool (by rw [HF.out]; rfl), E.out⟩
theorem fits_at {b : Bd} {x : Ag} {w : World} (r : Bool) (hr : fits b.own b.ot x = r) : Calls Try.prog 34 #[.agg #[.int .i64 b.own, .int .i64 b.ot, .slice b.ag.A b.ag.l.length b.ag.c, .slice b.op.A b.op.l.length b.op.c], .agg #[.int .i64 x.no, .int .i64 x.f, .int .i64 x.t, .int .i64 x.m, .int .i64 x.r]] w (RetB w r) := by
  subst hr; exact fits_any b x w
end Go.Proofs.Ytmnbeikhjbjpiaa
