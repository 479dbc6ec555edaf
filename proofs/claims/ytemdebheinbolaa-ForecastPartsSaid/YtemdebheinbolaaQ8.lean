/- The law of the parts. -/
import Derived.Test.YtemdebheinbolaaPk3
namespace Go.Proofs.Ytemdebheinbolaa
open Go.RowKit
set_option maxHeartbeats 8000000 in
set_option maxRecDepth 100000 in
theorem law8 (A : Option Addr) (c : Nat) (l : List Nd) (node : Int) (w : World) (hl : TOk w A l) : Calls Try.prog 8 #[.slice A l.length c, .int .i64 node] w (Tru w) := by
  cases hv : vld l
  · have HV := Lib.hid (chk_no hv)
    clear hv
    go_enter Try.func8, Try.ntmps8
    go_wp2_with fail
    refine (sane_any _).mono ?_
    rintro e w1 ⟨rfl, B⟩
    have X : Below w.heap.size w w1 := by first | exact B | exact ext_trans (ext_alloc (ext_refl _) _) B | exact ext_trans (ext_alloc (ext_alloc (ext_refl _) _) _) B | exact ext_trans (ext_alloc (ext_alloc (ext_alloc (ext_refl _) _) _) _) B | exact ext_trans (ext_alloc (ext_alloc (ext_alloc (ext_alloc (ext_refl _) _) _) _) _) B
    have Ew1 := ext_trans (ext_refl w) X
    clear X B
    replace hl := hl.ext Ew1
    go_wp2_with fail
    refine (few_b rfl (by first | exact hl | exact (hl).alloc _ | exact ((hl).alloc _).alloc _ | exact (((hl).alloc _).alloc _).alloc _)).mono ?_
    rintro e w2 ⟨⟨rf, rfl⟩, B⟩
    have X : Below w1.heap.size w1 w2 := by first | exact B | exact ext_trans (ext_alloc (ext_refl _) _) B | exact ext_trans (ext_alloc (ext_alloc (ext_refl _) _) _) B | exact ext_trans (ext_alloc (ext_alloc (ext_alloc (ext_refl _) _) _) _) B | exact ext_trans (ext_alloc (ext_alloc (ext_alloc (ext_alloc (ext_refl _) _) _) _) _) B
    have Ew2 := ext_trans Ew1 X
    replace hl := hl.ext X
    clear X B Ew1
    cases rf
    · go_wp2_with fail
      go_ret
      exact ⟨rfl, Ew2⟩
    go_wp2_with fail
    refine (check_at (l := l) 180 HV.out rfl (by first | exact hl | exact (hl).alloc _ | exact ((hl).alloc _).alloc _ | exact (((hl).alloc _).alloc _).alloc _)).mono ?_
    rintro e w3 ⟨rfl, B⟩
    have X : Below w2.heap.size w2 w3 := by first | exact B | exact ext_trans (ext_alloc (ext_refl _) _) B | exact ext_trans (ext_alloc (ext_alloc (ext_refl _) _) _) B | exact ext_trans (ext_alloc (ext_alloc (ext_alloc (ext_refl _) _) _) _) B | exact ext_trans (ext_alloc (ext_alloc (ext_alloc (ext_alloc (ext_refl _) _) _) _) _) B
    have Ew3 := ext_trans Ew2 X
    clear X B Ew2 hl
    go_wp2_with fail
    go_ret
    exact ⟨rfl, Ew3⟩
  have HC := Lib.hid (chk_yes hv)
  have HV := Lib.hid hv
  by_cases h0 : 0 ≤ node
  rotate_left
  · clear hv
    go_enter Try.func8, Try.ntmps8
    go_wp2_with fail
    refine (sane_any _).mono ?_
    rintro e w1 ⟨rfl, B⟩
    have X : Below w.heap.size w w1 := by first | exact B | exact ext_trans (ext_alloc (ext_refl _) _) B | exact ext_trans (ext_alloc (ext_alloc (ext_refl _) _) _) B | exact ext_trans (ext_alloc (ext_alloc (ext_alloc (ext_refl _) _) _) _) B | exact ext_trans (ext_alloc (ext_alloc (ext_alloc (ext_alloc (ext_refl _) _) _) _) _) B
    have Ew1 := ext_trans (ext_refl w) X
    clear X B
    replace hl := hl.ext Ew1
    go_wp2_with fail
    refine (few_b rfl (by first | exact hl | exact (hl).alloc _ | exact ((hl).alloc _).alloc _ | exact (((hl).alloc _).alloc _).alloc _)).mono ?_
    rintro e w2 ⟨⟨rf, rfl⟩, B⟩
    have X : Below w1.heap.size w1 w2 := by first | exact B | exact ext_trans (ext_alloc (ext_refl _) _) B | exact ext_trans (ext_alloc (ext_alloc (ext_refl _) _) _) B | exact ext_trans (ext_alloc (ext_alloc (ext_alloc (ext_refl _) _) _) _) B | exact ext_trans (ext_alloc (ext_alloc (ext_alloc (ext_alloc (ext_refl _) _) _) _) _) B
    have Ew2 := ext_trans Ew1 X
    replace hl := hl.ext X
    clear X B Ew1
    cases rf
    · go_wp2_with fail
      go_ret
      exact ⟨rfl, Ew2⟩
    go_wp2_with fail
    refine (check_at (l := l) 0 HC.out rfl (by first | exact hl | exact (hl).alloc _ | exact ((hl).alloc _).alloc _ | exact (((hl).alloc _).alloc _).alloc _)).mono ?_
    rintro e w3 ⟨rfl, B⟩
    have X : Below w2.heap.size w2 w3 := by first | exact B | exact ext_trans (ext_alloc (ext_refl _) _) B | exact ext_trans (ext_alloc (ext_alloc (ext_refl _) _) _) B | exact ext_trans (ext_alloc (ext_alloc (ext_alloc (ext_refl _) _) _) _) B | exact ext_trans (ext_alloc (ext_alloc (ext_alloc (ext_alloc (ext_refl _) _) _) _) _) B
    have Ew3 := ext_trans Ew2 X
    clear X B Ew2 hl
    go_wp2_with fail
    go_ret
    exact ⟨rfl, Ew3⟩
  by_cases h1 : node < l.length
  rotate_left
  · clear hv
    go_enter Try.func8, Try.ntmps8
    go_wp2_with fail
    refine (sane_any _).mono ?_
    rintro e w1 ⟨rfl, B⟩
    have X : Below w.heap.size w w1 := by first | exact B | exact ext_trans (ext_alloc (ext_refl _) _) B | exact ext_trans (ext_alloc (ext_alloc (ext_refl _) _) _) B | exact ext_trans (ext_alloc (ext_alloc (ext_alloc (ext_refl _) _) _) _) B | exact ext_trans (ext_alloc (ext_alloc (ext_alloc (ext_alloc (ext_refl _) _) _) _) _) B
    have Ew1 := ext_trans (ext_refl w) X
    clear X B
    replace hl := hl.ext Ew1
    go_wp2_with fail
    refine (few_b rfl (by first | exact hl | exact (hl).alloc _ | exact ((hl).alloc _).alloc _ | exact (((hl).alloc _).alloc _).alloc _)).mono ?_
    rintro e w2 ⟨⟨rf, rfl⟩, B⟩
    have X : Below w1.heap.size w1 w2 := by first | exact B | exact ext_trans (ext_alloc (ext_refl _) _) B | exact ext_trans (ext_alloc (ext_alloc (ext_refl _) _) _) B | exact ext_trans (ext_alloc (ext_alloc (ext_alloc (ext_refl _) _) _) _) B | exact ext_trans (ext_alloc (ext_alloc (ext_alloc (ext_alloc (ext_refl _) _) _) _) _) B
    have Ew2 := ext_trans Ew1 X
    replace hl := hl.ext X
    clear X B Ew1
    cases rf
    · go_wp2_with fail
      go_ret
      exact ⟨rfl, Ew2⟩
    go_wp2_with fail
    refine (check_at (l := l) 0 HC.out rfl (by first | exact hl | exact (hl).alloc _ | exact ((hl).alloc _).alloc _ | exact (((hl).alloc _).alloc _).alloc _)).mono ?_
    rintro e w3 ⟨rfl, B⟩
    have X : Below w2.heap.size w2 w3 := by first | exact B | exact ext_trans (ext_alloc (ext_refl _) _) B | exact ext_trans (ext_alloc (ext_alloc (ext_refl _) _) _) B | exact ext_trans (ext_alloc (ext_alloc (ext_alloc (ext_refl _) _) _) _) B | exact ext_trans (ext_alloc (ext_alloc (ext_alloc (ext_alloc (ext_refl _) _) _) _) _) B
    have Ew3 := ext_trans Ew2 X
    clear X B Ew2 hl
    go_wp2_with fail
    go_ret
    exact ⟨rfl, Ew3⟩
  have T := tree_of hv
  have h32 := T.hi
  have HT := Lib.hid T
  obtain ⟨x, hx⟩ : ∃ x, aliveL l [node] = x := ⟨_, rfl⟩
  have hr := aliveR_one hv h0 h1
  have hxl := aliveR_len l [node]
  rw [hr, hx] at hxl
  rw [hx] at hr
  have hxn := T.alive_one h0 h1
  rw [hx] at hxn
  simp only at hxl
  have HR := Lib.hid hr
  have HX := Lib.hid hx
  have e1 : ((x.length : Int) == 0) = false := by simpa using hxn
  clear hv T hr hx hxn
  go_enter Try.func8, Try.ntmps8
  go_wp2_with fail
  refine (sane_any _).mono ?_
  rintro e w1 ⟨rfl, B⟩
  have X : Below w.heap.size w w1 := by first | exact B | exact ext_trans (ext_alloc (ext_refl _) _) B | exact ext_trans (ext_alloc (ext_alloc (ext_refl _) _) _) B | exact ext_trans (ext_alloc (ext_alloc (ext_alloc (ext_refl _) _) _) _) B | exact ext_trans (ext_alloc (ext_alloc (ext_alloc (ext_alloc (ext_refl _) _) _) _) _) B
  have Ew1 := ext_trans (ext_refl w) X
  clear X B
  replace hl := hl.ext Ew1
  go_wp2_with fail
  refine (few_b rfl (by first | exact hl | exact (hl).alloc _ | exact ((hl).alloc _).alloc _ | exact (((hl).alloc _).alloc _).alloc _)).mono ?_
  rintro e w2 ⟨⟨rf, rfl⟩, B⟩
  have X : Below w1.heap.size w1 w2 := by first | exact B | exact ext_trans (ext_alloc (ext_refl _) _) B | exact ext_trans (ext_alloc (ext_alloc (ext_refl _) _) _) B | exact ext_trans (ext_alloc (ext_alloc (ext_alloc (ext_refl _) _) _) _) B | exact ext_trans (ext_alloc (ext_alloc (ext_alloc (ext_alloc (ext_refl _) _) _) _) _) B
  have Ew2 := ext_trans Ew1 X
  replace hl := hl.ext X
  clear X B Ew1
  cases rf
  · go_wp2_with fail
    go_ret
    exact ⟨rfl, Ew2⟩
  go_wp2_with fail
  refine (check_at (l := l) 0 HC.out rfl (by first | exact hl | exact (hl).alloc _ | exact ((hl).alloc _).alloc _ | exact (((hl).alloc _).alloc _).alloc _)).mono ?_
  rintro e w3 ⟨rfl, B⟩
  have X : Below w2.heap.size w2 w3 := by first | exact B | exact ext_trans (ext_alloc (ext_refl _) _) B | exact ext_trans (ext_alloc (ext_alloc (ext_refl _) _) _) B | exact ext_trans (ext_alloc (ext_alloc (ext_alloc (ext_refl _) _) _) _) B | exact ext_trans (ext_alloc (ext_alloc (ext_alloc (ext_alloc (ext_refl _) _) _) _) _) B
  have Ew3 := ext_trans Ew2 X
  replace hl := hl.ext X
  clear X B Ew2
  go_wp2_with fail
  refine (alive_at (k := x.length) (l := l) (seen := [node]) _ HR.out rfl rfl (by first | exact hl | exact (hl).alloc _ | exact ((hl).alloc _).alloc _ | exact (((hl).alloc _).alloc _).alloc _) (by first | exact slc_litH _ [node] _ 3 (enc := ic) (sz := 1) (fun _ => rfl) rfl _ (by first | rfl | simp) | exact (slc_litH _ [node] _ 3 (enc := ic) (sz := 1) (fun _ => rfl) rfl _ (by first | rfl | simp)).alloc _ | exact ((slc_litH _ [node] _ 3 (enc := ic) (sz := 1) (fun _ => rfl) rfl _ (by first | rfl | simp)).alloc _).alloc _ | exact (((slc_litH _ [node] _ 3 (enc := ic) (sz := 1) (fun _ => rfl) rfl _ (by first | rfl | simp)).alloc _).alloc _).alloc _) (by simp [maxLen]) rfl).mono ?_
  rintro e w4 ⟨A1, c1, rfl, S1, B⟩
  have X : Below w3.heap.size w3 w4 := by first | exact B | exact ext_trans (ext_alloc (ext_refl _) _) B | exact ext_trans (ext_alloc (ext_alloc (ext_refl _) _) _) B | exact ext_trans (ext_alloc (ext_alloc (ext_alloc (ext_refl _) _) _) _) B | exact ext_trans (ext_alloc (ext_alloc (ext_alloc (ext_alloc (ext_refl _) _) _) _) _) B
  have Ew4 := ext_trans Ew3 X
  replace hl := hl.ext X
  clear X B Ew3
  go_wp2_with fail
  have HEE := Lib.hid Ew4
  go_loopw [7, 8, 50] (fun ch m i wr => ∃ (k n s : Nat), k ≤ l.length ∧ i = .int .i64 k ∧ ch = .int .i64 n ∧ m = .int .i64 s ∧ Hid (n = partN l node k) ∧ Hid (s = partS l node k) ∧ n ≤ k ∧ s ≤ k * l.length ∧ Below w4.heap.size w4 wr) (fun _ _ i _ => l.length - (intOf i).toNat)
  case atStart => exact ⟨0, 0, 0, Nat.zero_le _, rfl, rfl, rfl, rfl, rfl, Nat.le_refl _, Nat.zero_le _, ext_refl _⟩
  case round =>
    obtain ⟨k, n, s, hk, rfl, rfl, rfl, HN, HS, hnk, hsk, hB⟩ := hrel
    obtain ⟨wo, rfl⟩ : ∃ wo, wo = wr := ⟨_, rfl⟩
    have hs32 : s ≤ 32 * 32 := Nat.le_trans hsk (Nat.mul_le_mul (by omega) h32)
    by_cases hlt : k < l.length
    rotate_left
    · have hlt' : ¬ (k : Int) < l.length := by omega
      obtain rfl : k = l.length := by omega
      cases hlf : leafB l node
      · obtain ⟨p1, p2⟩ := HT.out.parts h0 h1 hlf
        rw [← HN.out] at p1
        rw [← HS.out, HX.out] at p2
        have e2 : ((n : Int) == 0) = false := by simp; omega
        have e3 : decide ((0 : Int) < n) = true := by simp; omega
        have e4 : decide (0 < n) = true := by simp; omega
        have e5 : ((s : Int) == x.length) = true := by simp [p2]
        clear p2 hlf
        go_wp2_with fail
        go_ret
        exact ⟨rfl, ext_trans HEE.out hB⟩
      · obtain ⟨p1, p2⟩ := HT.out.no_parts hlf
        rw [← HN.out] at p1
        rw [HX.out] at p2
        obtain ⟨y, b1, o1, hy, rfl, hb1, hc⟩ := (S1.ext hB).at_ (k := 0) (by rw [p2]; simp)
        have d0 := hc 0 _ rfl
        simp only [Nat.zero_mul, Nat.add_zero] at d0
        obtain rfl : y = node := by rw [p2] at hy; simpa using hy.symm
        have e2 : ((n : Int) == 0) = true := by simp [p1]
        have e5 : ((x.length : Int) == 1) = true := by simp [p2]
        have e6 : (0 : Int) < x.length := by simp [p2]
        clear p1 p2 hlf hy hc e1
        go_wp2_with fail
        go_ret
        exact ⟨rfl, ext_trans HEE.out hB⟩
    obtain ⟨nd, b1, o1, hnd, rfl, hb1, hc⟩ := (hl.ext hB).nd.at_ hlt
    have d0 := hc 0 _ rfl
    simp only [Nat.add_zero] at d0
    have hlt' : (k : Int) < l.length := by omega
    have hpk := par_at hnd
    have hst := partN_step (l := l) (n := node) (k := k)
    have hss : partS l node (k + 1) = partS l node k + if par l k = node then (aliveL l [node, (k : Int)]).length else 0 := rfl
    have hle := partS_le l node (k + 1)
    clear hnd hc
    by_cases hp : nd.p = node
    rotate_left
    · rw [hpk, if_neg hp] at hst hss
      have e2 : (nd.p != node) = true := by simpa using hp
      have H1 := Lib.hid hst
      have H2 := Lib.hid hss
      rw [hss, ← HS.out] at hle
      clear hst hss hpk hp
      go_wp2_with fail
      go_roundw
      case rel => exact ⟨k + 1, n, s, hlt, by go_num, rfl, rfl, by unfold Hid; rw [H1.out, HN.out]; rfl, by unfold Hid; rw [H2.out, HS.out]; rfl, by omega, by omega, hB⟩
      case measure => simp [intOf]; omega
    · obtain ⟨y, hy⟩ : ∃ y, aliveL l [node, (k : Int)] = y := ⟨_, rfl⟩
      have hr2 := aliveR_two HV.out hlt (by rw [hpk]; exact hp) h0
      have hyn := alive_child HV.out hlt (by rw [hpk]; exact hp) h0
      have hyl := aliveR_len l [node, (k : Int)]
      rw [hr2, hy] at hyl
      rw [hy] at hr2 hyn
      rw [hpk, if_pos hp] at hst hss
      rw [hy] at hss
      rw [hss, ← HS.out] at hle
      have e2 : (nd.p != node) = false := by simpa using hp
      have e3 : ((y.length : Int) == 0) = false := by simpa using hyn
      have H1 := Lib.hid hst
      have H2 := Lib.hid hss
      have HR2 := Lib.hid hr2
      have hsub : ∀ z ∈ y, decide (z ∈ x) = true := fun z hz => by
        rw [← hy] at hz; rw [← HX.out]; simpa using alive_sub hz
      have HSUB := Lib.hid hsub
      simp only at hyl
      clear hst hss hpk hp hy hr2 hyn hsub
      go_wp2_with fail
      refine (alive_at (k := y.length) (l := l) (seen := [node, (k : Int)]) _ HR2.out rfl rfl ((hl.ext hB).ext (ext_alloc (ext_refl _) _)) (slc_litH _ [node, (k : Int)] _ 3 (enc := ic) (sz := 1) (fun _ => rfl) rfl _ rfl) (by simp [maxLen]) rfl).mono ?_
      rintro e w7 ⟨A2, c2, rfl, S2, B7⟩
      have hB7 := ext_trans hB (ext_trans (ext_alloc (ext_refl _) _) B7)
      go_wp2_with fail
      go_loopw [83] (fun i wr => ∃ j : Nat, j ≤ y.length ∧ i = .int .i64 j ∧ Below w7.heap.size w7 wr) (fun i _ => y.length - (intOf i).toNat)
      case atStart => exact ⟨0, Nat.zero_le _, rfl, ext_refl _⟩
      case round =>
        obtain ⟨j, hj, rfl, hBj⟩ := hrel
        by_cases hlj : j < y.length
        · obtain ⟨z, b2, o2, hz, rfl, hb2, hc2⟩ := (S2.ext hBj).at_ hlj
          have u0 := hc2 0 _ rfl
          simp only [Nat.mul_one, Nat.add_zero] at u0
          have HZ := Lib.hid (HSUB.out z (List.mem_of_getElem? hz))
          have hlj' : (j : Int) < y.length := by omega
          clear hz hc2
          go_wp2_with fail
          refine (has_at (a := x) true HZ.out rfl ((S1.ext hB7).ext hBj) (by unfold maxLen; omega)).mono ?_
          rintro e w8 ⟨rfl, B8⟩
          go_wp2_with fail
          go_roundw
          case rel => exact ⟨j + 1, hlj, by go_num, ext_trans hBj B8⟩
          case measure => simp [intOf]; omega
        · have hlj' : ¬ (j : Int) < y.length := by omega
          go_wp2_with fail
          go_roundw
          case rel => exact ⟨k + 1, n + 1, s + y.length, hlt, by go_num, by go_num, by go_num, by unfold Hid; rw [H1.out, HN.out], by unfold Hid; rw [H2.out, HS.out], by omega, by omega, ext_trans hB7 hBj⟩
          case measure => simp [intOf]; omega
end Go.Proofs.Ytemdebheinbolaa
