/- The law of Alive. -/
import Derived.Test.YtemdebheinbolaaPk2
namespace Go.Proofs.Ytemdebheinbolaa
open Go.RowKit
set_option maxHeartbeats 8000000 in
set_option maxRecDepth 100000 in
theorem law7 (A : Option Addr) (c : Nat) (l : List Nd) (B : Option Addr) (d : Nat) (seen : List Int) (w : World) (hl : TOk w A l) (hs : Slc w ic 1 B seen) (ls : seen.length ≤ maxLen) : Calls Try.prog 7 #[.slice A l.length c, .slice B seen.length d] w (Tru w) := by
  by_cases h20 : seen.length ≤ 20
  rotate_left
  · have g1 : (20 : Int) < seen.length := by omega
    go_enter Try.func7, Try.ntmps7
    go_wp2_with fail
    refine (sane_any _).mono ?_
    rintro e w1 ⟨rfl, B⟩
    have X : Below w.heap.size w w1 := by first | exact B | exact ext_trans (ext_alloc (ext_refl _) _) B | exact ext_trans (ext_alloc (ext_alloc (ext_refl _) _) _) B | exact ext_trans (ext_alloc (ext_alloc (ext_alloc (ext_refl _) _) _) _) B | exact ext_trans (ext_alloc (ext_alloc (ext_alloc (ext_alloc (ext_refl _) _) _) _) _) B
    have Ew1 := ext_trans (ext_refl w) X
    clear X B
    replace hl := hl.ext Ew1
    replace hs := hs.ext Ew1
    go_wp2_with fail
    refine (few_b rfl (by first | exact hl | exact (hl).alloc _ | exact ((hl).alloc _).alloc _ | exact (((hl).alloc _).alloc _).alloc _)).mono ?_
    rintro e w2 ⟨⟨rf, rfl⟩, B⟩
    have X : Below w1.heap.size w1 w2 := by first | exact B | exact ext_trans (ext_alloc (ext_refl _) _) B | exact ext_trans (ext_alloc (ext_alloc (ext_refl _) _) _) B | exact ext_trans (ext_alloc (ext_alloc (ext_alloc (ext_refl _) _) _) _) B | exact ext_trans (ext_alloc (ext_alloc (ext_alloc (ext_alloc (ext_refl _) _) _) _) _) B
    have Ew2 := ext_trans Ew1 X
    clear X B Ew1 hl hs
    cases rf
    · go_wp2_with fail
      go_ret
      exact ⟨rfl, Ew2⟩
    go_wp2_with fail
    go_ret
    exact ⟨rfl, Ew2⟩
  have g1 : ¬ (20 : Int) < seen.length := by omega
  have g2 : decide ((20 : Int) < seen.length) = false := by simpa using g1
  cases hv : vld l
  · have H1 := Lib.hid (leavesR_no hv)
    have H2 := Lib.hid (aliveR_no (s := seen) hv)
    have H3 := Lib.hid (aliveR_no (s := []) hv)
    clear hv
    go_enter Try.func7, Try.ntmps7
    go_wp2_with fail
    refine (sane_any _).mono ?_
    rintro e w1 ⟨rfl, B⟩
    have X : Below w.heap.size w w1 := by first | exact B | exact ext_trans (ext_alloc (ext_refl _) _) B | exact ext_trans (ext_alloc (ext_alloc (ext_refl _) _) _) B | exact ext_trans (ext_alloc (ext_alloc (ext_alloc (ext_refl _) _) _) _) B | exact ext_trans (ext_alloc (ext_alloc (ext_alloc (ext_alloc (ext_refl _) _) _) _) _) B
    have Ew1 := ext_trans (ext_refl w) X
    clear X B
    replace hl := hl.ext Ew1
    replace hs := hs.ext Ew1
    go_wp2_with fail
    refine (few_b rfl (by first | exact hl | exact (hl).alloc _ | exact ((hl).alloc _).alloc _ | exact (((hl).alloc _).alloc _).alloc _)).mono ?_
    rintro e w2 ⟨⟨rf, rfl⟩, B⟩
    have X : Below w1.heap.size w1 w2 := by first | exact B | exact ext_trans (ext_alloc (ext_refl _) _) B | exact ext_trans (ext_alloc (ext_alloc (ext_refl _) _) _) B | exact ext_trans (ext_alloc (ext_alloc (ext_alloc (ext_refl _) _) _) _) B | exact ext_trans (ext_alloc (ext_alloc (ext_alloc (ext_alloc (ext_refl _) _) _) _) _) B
    have Ew2 := ext_trans Ew1 X
    replace hl := hl.ext X
    replace hs := hs.ext X
    clear X B Ew1
    cases rf
    · go_wp2_with fail
      go_ret
      exact ⟨rfl, Ew2⟩
    go_wp2_with fail
    refine (leaves_at (k := 0) (l := l) _ H1.out rfl (by first | exact hl | exact (hl).alloc _ | exact ((hl).alloc _).alloc _ | exact (((hl).alloc _).alloc _).alloc _) rfl).mono ?_
    rintro e w3 ⟨A1, c1, rfl, _, B⟩
    have X : Below w2.heap.size w2 w3 := by first | exact B | exact ext_trans (ext_alloc (ext_refl _) _) B | exact ext_trans (ext_alloc (ext_alloc (ext_refl _) _) _) B | exact ext_trans (ext_alloc (ext_alloc (ext_alloc (ext_refl _) _) _) _) B | exact ext_trans (ext_alloc (ext_alloc (ext_alloc (ext_alloc (ext_refl _) _) _) _) _) B
    have Ew3 := ext_trans Ew2 X
    replace hl := hl.ext X
    replace hs := hs.ext X
    clear X B Ew2
    go_wp2_with fail
    refine (alive_at (k := 0) (l := l) (seen := seen) _ H2.out rfl rfl (by first | exact hl | exact (hl).alloc _ | exact ((hl).alloc _).alloc _ | exact (((hl).alloc _).alloc _).alloc _) (by first | exact hs | exact (hs).alloc _ | exact ((hs).alloc _).alloc _ | exact (((hs).alloc _).alloc _).alloc _) ls rfl).mono ?_
    rintro e w4 ⟨A2, c2, rfl, _, B⟩
    have X : Below w3.heap.size w3 w4 := by first | exact B | exact ext_trans (ext_alloc (ext_refl _) _) B | exact ext_trans (ext_alloc (ext_alloc (ext_refl _) _) _) B | exact ext_trans (ext_alloc (ext_alloc (ext_alloc (ext_refl _) _) _) _) B | exact ext_trans (ext_alloc (ext_alloc (ext_alloc (ext_alloc (ext_refl _) _) _) _) _) B
    have Ew4 := ext_trans Ew3 X
    replace hl := hl.ext X
    clear X B Ew3 hs
    go_wp2_with fail
    refine (alive_at (k := 0) (l := l) (seen := []) _ H3.out rfl rfl (by first | exact hl | exact (hl).alloc _ | exact ((hl).alloc _).alloc _ | exact (((hl).alloc _).alloc _).alloc _) Slc.nil (by decide) rfl).mono ?_
    rintro e w5 ⟨A3, c3, rfl, _, B⟩
    have X : Below w4.heap.size w4 w5 := by first | exact B | exact ext_trans (ext_alloc (ext_refl _) _) B | exact ext_trans (ext_alloc (ext_alloc (ext_refl _) _) _) B | exact ext_trans (ext_alloc (ext_alloc (ext_alloc (ext_refl _) _) _) _) B | exact ext_trans (ext_alloc (ext_alloc (ext_alloc (ext_alloc (ext_refl _) _) _) _) _) B
    have Ew5 := ext_trans Ew4 X
    clear X B Ew4 hl
    go_wp2_with fail
    go_ret
    exact ⟨rfl, Ew5⟩
  have T := tree_of hv
  have h32 := T.hi
  have hll := leaves_len T
  have HT := Lib.hid T
  have HV := Lib.hid hv
  have H1 := Lib.hid (leavesR_ok hv)
  have H3 := Lib.hid (aliveR_all hv)
  obtain ⟨⟨x, f⟩, hr⟩ : ∃ r, aliveR l seen = r := ⟨_, rfl⟩
  have hxl := aliveR_len l seen
  rw [hr] at hxl
  simp only at hxl
  have H2 := Lib.hid hr
  obtain ⟨lx, hlx⟩ : ∃ lx, leaves l = lx := ⟨_, rfl⟩
  have HLX := Lib.hid hlx
  rw [hlx] at H1 H3 hll
  clear hv T hr hlx
  go_enter Try.func7, Try.ntmps7
  go_wp2_with fail
  refine (sane_any _).mono ?_
  rintro e w1 ⟨rfl, B⟩
  have X : Below w.heap.size w w1 := by first | exact B | exact ext_trans (ext_alloc (ext_refl _) _) B | exact ext_trans (ext_alloc (ext_alloc (ext_refl _) _) _) B | exact ext_trans (ext_alloc (ext_alloc (ext_alloc (ext_refl _) _) _) _) B | exact ext_trans (ext_alloc (ext_alloc (ext_alloc (ext_alloc (ext_refl _) _) _) _) _) B
  have Ew1 := ext_trans (ext_refl w) X
  clear X B
  replace hl := hl.ext Ew1
  replace hs := hs.ext Ew1
  go_wp2_with fail
  refine (few_b rfl (by first | exact hl | exact (hl).alloc _ | exact ((hl).alloc _).alloc _ | exact (((hl).alloc _).alloc _).alloc _)).mono ?_
  rintro e w2 ⟨⟨rf, rfl⟩, B⟩
  have X : Below w1.heap.size w1 w2 := by first | exact B | exact ext_trans (ext_alloc (ext_refl _) _) B | exact ext_trans (ext_alloc (ext_alloc (ext_refl _) _) _) B | exact ext_trans (ext_alloc (ext_alloc (ext_alloc (ext_refl _) _) _) _) B | exact ext_trans (ext_alloc (ext_alloc (ext_alloc (ext_alloc (ext_refl _) _) _) _) _) B
  have Ew2 := ext_trans Ew1 X
  replace hl := hl.ext X
  replace hs := hs.ext X
  clear X B Ew1
  cases rf
  · go_wp2_with fail
    go_ret
    exact ⟨rfl, Ew2⟩
  go_wp2_with fail
  refine (leaves_at (k := lx.length) (l := l) _ H1.out rfl (by first | exact hl | exact (hl).alloc _ | exact ((hl).alloc _).alloc _ | exact (((hl).alloc _).alloc _).alloc _) rfl).mono ?_
  rintro e w3 ⟨A1, c1, rfl, S1, B⟩
  have X : Below w2.heap.size w2 w3 := by first | exact B | exact ext_trans (ext_alloc (ext_refl _) _) B | exact ext_trans (ext_alloc (ext_alloc (ext_refl _) _) _) B | exact ext_trans (ext_alloc (ext_alloc (ext_alloc (ext_refl _) _) _) _) B | exact ext_trans (ext_alloc (ext_alloc (ext_alloc (ext_alloc (ext_refl _) _) _) _) _) B
  have Ew3 := ext_trans Ew2 X
  replace hl := hl.ext X
  replace hs := hs.ext X
  clear X B Ew2
  go_wp2_with fail
  refine (alive_at (k := x.length) (l := l) (seen := seen) _ H2.out rfl rfl (by first | exact hl | exact (hl).alloc _ | exact ((hl).alloc _).alloc _ | exact (((hl).alloc _).alloc _).alloc _) (by first | exact hs | exact (hs).alloc _ | exact ((hs).alloc _).alloc _ | exact (((hs).alloc _).alloc _).alloc _) ls rfl).mono ?_
  rintro e w4 ⟨A2, c2, rfl, S2, B⟩
  have X : Below w3.heap.size w3 w4 := by first | exact B | exact ext_trans (ext_alloc (ext_refl _) _) B | exact ext_trans (ext_alloc (ext_alloc (ext_refl _) _) _) B | exact ext_trans (ext_alloc (ext_alloc (ext_alloc (ext_refl _) _) _) _) B | exact ext_trans (ext_alloc (ext_alloc (ext_alloc (ext_alloc (ext_refl _) _) _) _) _) B
  have Ew4 := ext_trans Ew3 X
  replace hl := hl.ext X
  replace hs := hs.ext X
  replace S1 := S1.ext X
  clear X B Ew3
  go_wp2_with fail
  refine (alive_at (k := lx.length) (l := l) (seen := []) _ H3.out rfl rfl (by first | exact hl | exact (hl).alloc _ | exact ((hl).alloc _).alloc _ | exact (((hl).alloc _).alloc _).alloc _) Slc.nil (by decide) rfl).mono ?_
  rintro e w5 ⟨A3, c3, rfl, S3, B⟩
  have X : Below w4.heap.size w4 w5 := by first | exact B | exact ext_trans (ext_alloc (ext_refl _) _) B | exact ext_trans (ext_alloc (ext_alloc (ext_refl _) _) _) B | exact ext_trans (ext_alloc (ext_alloc (ext_alloc (ext_refl _) _) _) _) B | exact ext_trans (ext_alloc (ext_alloc (ext_alloc (ext_alloc (ext_refl _) _) _) _) _) B
  have Ew5 := ext_trans Ew4 X
  replace hl := hl.ext X
  replace hs := hs.ext X
  replace S1 := S1.ext X
  replace S2 := S2.ext X
  clear X B Ew4
  go_wp2_with fail
  refine (same_at (a := lx) (b := lx) true (by simp) rfl rfl (by first | exact S3 | exact (S3).alloc _ | exact ((S3).alloc _).alloc _ | exact (((S3).alloc _).alloc _).alloc _) (by first | exact S1 | exact (S1).alloc _ | exact ((S1).alloc _).alloc _ | exact (((S1).alloc _).alloc _).alloc _) (by omega)).mono ?_
  rintro e w6 ⟨rfl, B⟩
  have X : Below w5.heap.size w5 w6 := by first | exact B | exact ext_trans (ext_alloc (ext_refl _) _) B | exact ext_trans (ext_alloc (ext_alloc (ext_refl _) _) _) B | exact ext_trans (ext_alloc (ext_alloc (ext_alloc (ext_refl _) _) _) _) B | exact ext_trans (ext_alloc (ext_alloc (ext_alloc (ext_alloc (ext_refl _) _) _) _) _) B
  have Ew6 := ext_trans Ew5 X
  replace hl := hl.ext X
  replace hs := hs.ext X
  replace S1 := S1.ext X
  replace S2 := S2.ext X
  clear X B Ew5 S3
  go_wp2_with fail
  have HEE := Lib.hid Ew6
  go_loop [72] (fun i => ∃ k : Nat, k ≤ seen.length ∧ i = .int .i64 k ∧ Hid ((seen.take k).all (inT l) = true)) (fun i => seen.length - (intOf i).toNat)
  case atStart => exact ⟨0, Nat.zero_le _, rfl, by simp [Hid]⟩
  case round =>
    obtain ⟨k, hk, rfl, HK⟩ := hrel
    by_cases hlt : k < seen.length
    · obtain ⟨s, bb, oo, hx, rfl, hbb, hc⟩ := hs.at_ hlt
      have d0 := hc 0 _ rfl
      simp only [Nat.mul_one, Nat.add_zero] at d0
      have HX := Lib.hid hx
      have hlt' : (k : Int) < seen.length := by omega
      clear hx hc
      cases hin : inT l s
      · have hr := H2.out
        rw [aliveR_out (all_no HX.out hin)] at hr
        injection hr with e1 e2
        subst e1 e2
        have hbad : s < 0 ∨ (l.length : Int) ≤ s := by
          simp only [inT, Bool.and_eq_false_iff, decide_eq_false_iff_not] at hin; omega
        clear hin
        rcases hbad with hb | hb
        · go_wp2_with fail
          go_ret
          exact ⟨rfl, HEE.out⟩
        · by_cases hb0 : s < 0
          · go_wp2_with fail
            go_ret
            exact ⟨rfl, HEE.out⟩
          · go_wp2_with fail
            go_ret
            exact ⟨rfl, HEE.out⟩
      · have HIN := Lib.hid hin
        simp only [inT, Bool.and_eq_true, decide_eq_true_eq] at hin
        obtain ⟨i0, i1⟩ := hin
        have i0' : ¬ s < 0 := by omega
        have i1' : ¬ (l.length : Int) ≤ s := by omega
        go_wp2_with fail
        go_round
        case rel => exact ⟨k + 1, hlt, by go_num, by unfold Hid; rw [all_take HX.out, HK.out, HIN.out]; rfl⟩
        case measure => simp [intOf]; omega
    · have hlt' : ¬ (k : Int) < seen.length := by omega
      have hin : seen.all (inT l) = true := by rw [← all_end (k := k) (by omega)]; exact HK.out
      have hr := H2.out
      rw [aliveR_in HV.out hin] at hr
      injection hr with e1 e2
      have HX1 := Lib.hid e1
      have HX2 := Lib.hid e2
      have HIN := Lib.hid hin
      clear hin e1 e2 hxl
      go_wp2_with fail
      go_loopw [13, 94] (fun m i wr => ∃ (q n : Nat), q ≤ lx.length ∧ i = .int .i64 q ∧ m = .int .i64 n ∧ Hid (n = manyK l seen q) ∧ n ≤ q ∧ Below w6.heap.size w6 wr) (fun _ i _ => lx.length - (intOf i).toNat)
      case atStart => exact ⟨0, 0, Nat.zero_le _, rfl, rfl, by simp [Hid, manyK], Nat.le_refl _, ext_refl _⟩
      case round =>
        obtain ⟨q, n, hq, rfl, rfl, HN, hnq, hB⟩ := hrel
        obtain ⟨wo, rfl⟩ : ∃ wo, wo = wr := ⟨_, rfl⟩
        by_cases hlq : q < lx.length
        rotate_left
        · have hlq' : ¬ (q : Int) < lx.length := by omega
          have hn : n = x.length := by rw [HN.out, manyK_end (by rw [HLX.out]; omega), HX1.out]
          have hf := HX2.out
          rw [HX1.out, ← hn] at hf
          have hnx : ((n : Int) == (x.length : Int)) = true := by simp [hn]
          by_cases hz : n = 0
          · rw [if_pos hz] at hf
            have hz1 : decide ((0 : Int) < (n : Int)) = false := by simp; omega
            have hz2 : decide (0 < n) = false := by simp; omega
            have hz3 : ¬ 0 < n := by omega
            subst hf
            clear hn hz
            go_wp2_with fail
            go_ret
            exact ⟨rfl, ext_trans HEE.out hB⟩
          · rw [if_neg hz] at hf
            have hz1 : decide ((0 : Int) < (n : Int)) = true := by simp; omega
            have hz3 : 0 < n := by omega
            have hz2 : decide (0 < n) = true := by simp; omega
            subst hf
            clear hn hz
            go_wp2_with fail
            go_ret
            exact ⟨rfl, ext_trans HEE.out hB⟩
        obtain ⟨y, bb, oo, hy, rfl, hbb, hc⟩ := (S1.ext hB).at_ hlq
        have d0 := hc 0 _ rfl
        simp only [Nat.mul_one, Nat.add_zero] at d0
        have hyl : y ∈ leaves l := by rw [HLX.out]; exact List.mem_of_getElem? hy
        have HYL := Lib.hid hyl
        have HST : Hid (manyK l seen (q + 1) = manyK l seen q + if seen.all (below l y) then 1 else 0) := manyK_step (by rw [HLX.out]; exact hy)
        have hlq' : (q : Int) < lx.length := by omega
        clear hy hc hyl
        go_wp2_with fail
        go_loopw [16, 100] (fun ok i wr => ∃ (j : Nat) (b : Bool), j ≤ seen.length ∧ i = .int .i64 j ∧ ok = .bool b ∧ Hid (b = (seen.take j).all (below l y)) ∧ Below wo.heap.size wo wr) (fun _ i _ => seen.length - (intOf i).toNat)
        case atStart => exact ⟨0, true, Nat.zero_le _, rfl, rfl, by simp [Hid], ext_refl _⟩
        case round =>
          obtain ⟨j, b, hj, rfl, rfl, HBJ, hBj⟩ := hrel
          have hBB := ext_trans hB hBj
          by_cases hlj : j < seen.length
          · obtain ⟨s, b2, o2, hsx, rfl, hb2, hc2⟩ := (hs.ext hBB).at_ hlj
            have u0 := hc2 0 _ rfl
            simp only [Nat.mul_one, Nat.add_zero] at u0
            have HSX := Lib.hid hsx
            have hin : inT l s = true := (List.all_eq_true.1 HIN.out) s (List.mem_of_getElem? hsx)
            obtain ⟨nn, hat, hbe⟩ := at_below HT.out HV.out HYL.out hin
            simp only [inT, Bool.and_eq_true, decide_eq_true_eq] at hin
            obtain ⟨i0, i1⟩ := hin
            obtain ⟨nd, b3, o3, hnd, rfl, hb3, hc3⟩ := (hl.ext hBB).nd.at_ (k := s.toNat) (by omega)
            have v1 := hc3 1 _ rfl
            rw [frm_at hnd] at hat
            have HAT := Lib.hid hat
            have HBE := Lib.hid hbe
            have hlj' : (j : Int) < seen.length := by omega
            have hta := all_take (p := below l y) HSX.out
            rw [HBE.out, ← HBJ.out] at hta
            have HTA := Lib.hid hta
            have g6 : s < l.length := i1
            clear hta hsx hc2 hnd hc3 hat hbe
            cases b
            · go_wp2_with fail
              refine (at_at (l := l) _ HAT.out rfl (hl.ext hBB)).mono ?_
              rintro e w7 ⟨rfl, B7⟩
              go_wp2_with fail
              go_roundw
              case rel => exact ⟨j + 1, false, hlj, by go_num, rfl, by unfold Hid; rw [HTA.out]; rfl, ext_trans hBj B7⟩
              case measure => simp [intOf]; omega
            · by_cases hns : nn = s
              · have e5 : (nn == s) = true := by simpa using hns
                have e6 : Hid (decide (nn = s) = true) := by simpa [Hid] using hns
                clear hns
                go_wp2_with fail
                refine (at_at (l := l) _ HAT.out rfl (hl.ext hBB)).mono ?_
                rintro e w7 ⟨rfl, B7⟩
                go_wp2_with fail
                go_roundw
                case rel => exact ⟨j + 1, true, hlj, by go_num, rfl, by unfold Hid; rw [HTA.out, e6.out]; rfl, ext_trans hBj B7⟩
                case measure => simp [intOf]; omega
              · have e5 : (nn == s) = false := by simpa using hns
                have e6 : Hid (decide (nn = s) = false) := by simpa [Hid] using hns
                clear hns
                go_wp2_with fail
                refine (at_at (l := l) _ HAT.out rfl (hl.ext hBB)).mono ?_
                rintro e w7 ⟨rfl, B7⟩
                go_wp2_with fail
                go_roundw
                case rel => exact ⟨j + 1, false, hlj, by go_num, rfl, by unfold Hid; rw [HTA.out, e6.out]; rfl, ext_trans hBj B7⟩
                case measure => simp [intOf]; omega
          · have hlj' : ¬ (j : Int) < seen.length := by omega
            have hbj := HBJ.out
            rw [all_end (by omega)] at hbj
            have hmem : decide (y ∈ x) = b := by rw [hbj, ← mem_alive HYL.out, HX1.out]
            have hst := HST.out
            rw [← hbj, ← HN.out] at hst
            have HMEM := Lib.hid hmem
            have HST2 := Lib.hid hst
            clear hbj hmem hst
            cases b
            · go_wp2_with fail
              refine (has_at (a := x) _ HMEM.out rfl (S2.ext hBB) (by have := aliveR_len l seen; rw [H2.out] at this; simp only at this; unfold maxLen; omega)).mono ?_
              rintro e w7 ⟨rfl, B7⟩
              go_wp2_with fail
              go_roundw
              case rel => exact ⟨q + 1, n, hlq, by go_num, rfl, by unfold Hid; rw [HST2.out]; simp, by omega, ext_trans hBB B7⟩
              case measure => simp [intOf]; omega
            · go_wp2_with fail
              refine (has_at (a := x) _ HMEM.out rfl (S2.ext hBB) (by have := aliveR_len l seen; rw [H2.out] at this; simp only at this; unfold maxLen; omega)).mono ?_
              rintro e w7 ⟨rfl, B7⟩
              go_wp2_with fail
              go_roundw
              case rel => exact ⟨q + 1, n + 1, hlq, by go_num, by go_num, by unfold Hid; rw [HST2.out]; simp, by omega, ext_trans hBB B7⟩
              case measure => simp [intOf]; omega
end Go.Proofs.Ytemdebheinbolaa
