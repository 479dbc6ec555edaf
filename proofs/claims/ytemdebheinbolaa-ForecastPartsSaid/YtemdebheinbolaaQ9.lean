/- The law of the order. -/
import Derived.Test.YtemdebheinbolaaPk3
namespace Go.Proofs.Ytemdebheinbolaa
open Go.RowKit
theorem int_same {x y : Int} (h : x = y) : Value.int .i64 x = .int .i64 y := by rw [h]
set_option maxHeartbeats 8000000 in
set_option maxRecDepth 100000 in
theorem law9 (A : Option Addr) (c : Nat) (l : List Nd) (B : Option Addr) (d : Nat) (seen : List Int) (w : World) (hl : TOk w A l) (hs : Slc w ic 1 B seen) (ls : seen.length ≤ maxLen) : Calls Try.prog 9 #[.slice A l.length c, .slice B seen.length d] w (Tru w) := by
  by_cases h20 : seen.length ≤ 20
  rotate_left
  · have g1 : (20 : Int) < seen.length := by omega
    go_enter Try.func9, Try.ntmps9
    go_wp2_with fail
    refine (sane_any _).mono ?_
    rintro e w1 ⟨rfl, B⟩
    have X : Below w.heap.size w w1 := by first | exact B | exact ext_trans (ext_alloc (ext_refl _) _) B | exact ext_trans (ext_alloc (ext_alloc (ext_refl _) _) _) B | exact ext_trans (ext_alloc (ext_alloc (ext_alloc (ext_refl _) _) _) _) B | exact ext_trans (ext_alloc (ext_alloc (ext_alloc (ext_alloc (ext_refl _) _) _) _) _) B
    have Ew1 := ext_trans (ext_refl w) X
    clear X B
    replace hl := hl.ext Ew1
    replace hs := hs.ext Ew1
    go_wp2_with fail
    refine (few_b rfl (by first | exact hl | exact (hl).alloc _ | exact ((hl).alloc _).alloc _ | exact (((hl).alloc _).alloc _).alloc _)).mono ?_
    rintro e w2 ⟨⟨rf, rfl⟩, B⟩
    have X : Below w1.heap.size w1 w2 := by first | exact B | exact ext_trans (ext_alloc (ext_refl _) _) B | exact ext_trans (ext_alloc (ext_alloc (ext_refl _) _) _) B | exact ext_trans (ext_alloc (ext_alloc (ext_alloc (ext_refl _) _) _) _) B | exact ext_trans (ext_alloc (ext_alloc (ext_alloc (ext_alloc (ext_refl _) _) _) _) _) B
    have Ew2 := ext_trans Ew1 X
    clear X B Ew1 hl hs
    cases rf
    · go_wp2_with fail
      go_ret
      exact ⟨rfl, Ew2⟩
    go_wp2_with fail
    go_ret
    exact ⟨rfl, Ew2⟩
  have g1 : ¬ (20 : Int) < seen.length := by omega
  have g2 : decide ((20 : Int) < seen.length) = false := by simpa using g1
  obtain ⟨⟨x, f⟩, hr⟩ : ∃ r, aliveR l seen = r := ⟨_, rfl⟩
  have hxl := aliveR_len l seen
  rw [hr] at hxl
  simp only at hxl
  obtain ⟨hx1, hx2⟩ := aliveR_e hr
  have HX1 := Lib.hid hx1
  have HX2 := Lib.hid hx2
  have H2 := Lib.hid hr
  have H3 : Hid (aliveR l (revd seen) = (x, f)) := by rw [Hid, aliveR_same l (revd seen) seen (mem_revd seen)]; exact hr
  have hs0 := hs
  clear hr hx1 hx2
  go_enter Try.func9, Try.ntmps9
  go_wp2_with fail
  refine (sane_any _).mono ?_
  rintro e w1 ⟨rfl, B⟩
  have X : Below w.heap.size w w1 := by first | exact B | exact ext_trans (ext_alloc (ext_refl _) _) B | exact ext_trans (ext_alloc (ext_alloc (ext_refl _) _) _) B | exact ext_trans (ext_alloc (ext_alloc (ext_alloc (ext_refl _) _) _) _) B | exact ext_trans (ext_alloc (ext_alloc (ext_alloc (ext_alloc (ext_refl _) _) _) _) _) B
  have Ew1 := ext_trans (ext_refl w) X
  clear X B
  replace hl := hl.ext Ew1
  replace hs := hs.ext Ew1
  go_wp2_with fail
  refine (few_b rfl (by first | exact hl | exact (hl).alloc _ | exact ((hl).alloc _).alloc _ | exact (((hl).alloc _).alloc _).alloc _)).mono ?_
  rintro e w2 ⟨⟨rf, rfl⟩, B⟩
  have X : Below w1.heap.size w1 w2 := by first | exact B | exact ext_trans (ext_alloc (ext_refl _) _) B | exact ext_trans (ext_alloc (ext_alloc (ext_refl _) _) _) B | exact ext_trans (ext_alloc (ext_alloc (ext_alloc (ext_refl _) _) _) _) B | exact ext_trans (ext_alloc (ext_alloc (ext_alloc (ext_alloc (ext_refl _) _) _) _) _) B
  have Ew2 := ext_trans Ew1 X
  replace hl := hl.ext X
  replace hs := hs.ext X
  clear X B Ew1
  cases rf
  · go_wp2_with fail
    go_ret
    exact ⟨rfl, Ew2⟩
  go_wp2_with fail
  refine (alive_at (k := x.length) (l := l) (seen := seen) _ H2.out rfl rfl (by first | exact hl | exact (hl).alloc _ | exact ((hl).alloc _).alloc _ | exact (((hl).alloc _).alloc _).alloc _) (by first | exact hs | exact (hs).alloc _ | exact ((hs).alloc _).alloc _ | exact (((hs).alloc _).alloc _).alloc _) ls rfl).mono ?_
  rintro e w3 ⟨A1, c1, rfl, S1, B⟩
  have X : Below w2.heap.size w2 w3 := by first | exact B | exact ext_trans (ext_alloc (ext_refl _) _) B | exact ext_trans (ext_alloc (ext_alloc (ext_refl _) _) _) B | exact ext_trans (ext_alloc (ext_alloc (ext_alloc (ext_refl _) _) _) _) B | exact ext_trans (ext_alloc (ext_alloc (ext_alloc (ext_alloc (ext_refl _) _) _) _) _) B
  have Ew3 := ext_trans Ew2 X
  replace hl := hl.ext X
  replace hs := hs.ext X
  clear X B Ew2
  go_wp2_with fail
  have HEE := Lib.hid Ew3
  clear Ew3
  go_loopw [7, 8] (fun v i wr => ∃ (k : Nat) (Y : List Int), k ≤ seen.length ∧ i = .int .i64 ((k : Int) - 1) ∧ Own wr w3.heap.size 3 ic 1 v Y ∧ Hid (Y = revd (seen.drop k)) ∧ Below w3.heap.size w3 wr) (fun _ i _ => (intOf i + 1).toNat)
  case atStart => exact ⟨seen.length, [], Nat.le_refl _, int_same (by omega), Own.nil _ _ _ _ _, by rw [Hid, List.drop_length]; rfl, ext_refl _⟩
  case round =>
    obtain ⟨k, Y, hk, rfl, hO, HYD, hB⟩ := hrel
    obtain ⟨A2, c2, rfl, hc2, -, -⟩ := hO.form
    by_cases hk0 : 0 < k
    · obtain ⟨q, rfl⟩ : ∃ q, k = q + 1 := ⟨k - 1, by omega⟩
      obtain ⟨s, b1, o1, hsx, rfl, hb1, hc⟩ := hs.at_ (k := q) (by omega)
      have hdrop : seen.drop q = s :: seen.drop (q + 1) := drop_at hsx
      have c0 := (hB.cell (p := ⟨b1, _, none⟩) hb1).trans (hc 0 _ rfl)
      simp only [Nat.mul_one, Nat.add_zero] at c0
      have hqi : ((q + 1 : Nat) : Int) - 1 = q := by omega
      have hq1 : (q : Int) < seen.length := by omega
      have hS := slc_litH wr [s, s] #[.int .i64 s, .int .i64 s] 3 (enc := ic) (sz := 1) (fun _ => rfl) rfl wr.heap.size rfl
      have hrl : Y.length ≤ 40 := by rw [HYD.out, revd_len]; simp; omega
      have hrun := ((hO.alloc (.cells #[.int .i64 s, .int .i64 s] 3)).drew_.append I25 25 (ys := [s, s]) (m := 2) rfl 2 hS.drew_ (by simp only [List.length_cons, List.length_nil]; omega) (by unfold maxLen; simp only [List.length_cons, List.length_nil]; omega) (by have := hB.size; simp; omega))
      have HRUN := Lib.hid hrun
      have HBr := Lib.hid hB
      have SS : ∀ w', Below w3.heap.size w3 w' → w'.cell? ⟨b1, o1 + q, none⟩ = some (.int .i64 s) := fun w' bw =>
        (bw.cell (p := ⟨b1, _, none⟩) hb1).trans (by have := hc 0 _ rfl; simpa only [Nat.mul_one, Nat.add_zero] using this)
      have HLT : ∀ r, (Value.slice A2 Y.length c2).ownBlock = some r → r < wr.heap.size ∧ w3.heap.size ≤ r := fun r e => hO.lt r e
      have HDR := Lib.hid hdrop
      have HSS := Lib.hid SS
      have HHLT := Lib.hid HLT
      rw [hqi]
      rename_i K1 a1
      clear a1
      clear hrun hS hc hsx hB hdrop hqi hk0 SS HLT
      go_wp2_with fail
      go_region_held3 (fun w' => w'.cell? ⟨b1, o1 + q, none⟩ = some (.int .i64 s)) (first | exact c0 | exact HSS.out _ BW9 | exact HSS.out _ (ext_drew (ext_alloc HBr.out _)) | exact HSS.out _ (ext_alloc (ext_drew HBr.out) _) | exact HSS.out _ (ext_drew HBr.out))
        ((refine step_append_of rfl (.tmp 36) (.tmp 45) 25 rfl (.slice A2 Y.length c2) (.slice (some ⟨wr.heap.size, 0, none⟩) 2 2) (by rfl) (by rfl) HRUN.out ?_; rintro v9 w9 ⟨hO9, hg9, hat9⟩; have BW9 : Below w3.heap.size w3 w9 := (ext_drew (ext_alloc HBr.out _)).grown hg9 (by have := HBr.out.size; simp; omega) (fun r e => (HHLT.out r e).2)))
      all_goals
        go_wp2_with fail
        exact ⟨⟨q, Y ++ [s, s], by omega, by congr 1, hO9, by rw [Hid, HDR.out, revd_cons, HYD.out], BW9⟩, by simp [intOf]⟩
    · obtain rfl : k = 0 := by omega
      have hyd := HYD.out
      rw [List.drop_zero] at hyd
      have H5 := H3
      rw [← hyd] at H5
      have hqi : ((0 : Nat) : Int) - 1 = -1 := by omega
      rw [hqi]
      have HO := Lib.hid hO
      have HBo := Lib.hid hB
      have hYl : Y.length ≤ 40 := by rw [hyd, revd_len]; omega
      have HYY := Lib.hid hyd
      clear hqi hk0 hO hyd
      obtain ⟨wo, rfl⟩ : ∃ wo, wo = wr := ⟨_, rfl⟩
      go_wp2_with fail
      refine (alive_at (k := x.length) (l := l) (seen := Y) _ H5.out rfl rfl (hl.ext hB) (HO.out.slc (fun _ => rfl) (by decide)) (by unfold maxLen; omega) rfl).mono ?_
      rintro e w7 ⟨A3, c3, rfl, S3, B7⟩
      have hB7 := ext_trans hB B7
      have HO7 := Lib.hid (HO.out.ext B7)
      go_wp2_with fail
      refine (same_at (a := x) (b := x) true (by simp) rfl rfl ((S1.ext hB).ext B7) S3 (by omega)).mono ?_
      rintro e w8 ⟨rfl, B8⟩
      have hB8 := ext_trans hB7 B8
      have HO8 := Lib.hid (HO7.out.ext B8)
      by_cases hf : f = 0
      rotate_left
      · have hxn := HX1.out hf
        subst hxn
        have e1 : (f != 0) = true := by simpa using hf
        clear hf
        go_wp2_with fail
        go_ret
        exact ⟨rfl, ext_trans HEE.out hB8⟩
      obtain ⟨hv, hin⟩ := HX2.out hf
      have e1 : (f != 0) = false := by simpa using hf
      have h4 : aliveR l (revd seen ++ pars l seen) = (x, 0) := by rw [order_R hv hin, H2.out, hf]
      have HT := Lib.hid (tree_of hv)
      have H4 := Lib.hid h4
      have HIN := Lib.hid hin
      have HHF := Lib.hid hf
      clear hf hv hin h4 hB B7 B8 hB7
      go_wp2_with fail
      have hXs := (S1.ext HBo.out)
      go_loopw [7, 69] (fun v i wr => ∃ (k : Nat) (Z : List Int), k ≤ seen.length ∧ i = .int .i64 k ∧ Own wr w3.heap.size 3 ic 1 v Z ∧ Hid (Z = revd seen ++ pars l (seen.take k)) ∧ Below w3.heap.size w3 wr) (fun _ i _ => seen.length - (intOf i).toNat)
      case atStart => exact ⟨0, Y, Nat.zero_le _, rfl, HO8.out, by rw [Hid, HYY.out]; simp [pars], hB8⟩
      case round =>
        obtain ⟨k, Z, hk, rfl, hO, HZ, hBB⟩ := hrel
        obtain ⟨A4, c4, rfl, hc4, -, -⟩ := hO.form
        have hpl := pars_len (l := l) (seen.take k)
        have htl : (seen.take k).length ≤ k := List.length_take_le _ _
        have hYP : Z.length ≤ 60 := by rw [HZ.out, List.length_append, revd_len]; omega
        by_cases hlt : k < seen.length
        rotate_left
        · have hlt' : ¬ (k : Int) < seen.length := by omega
          have hz := HZ.out
          rw [List.take_of_length_le (by omega)] at hz
          have h4' := H4.out
          rw [← hz] at h4'
          have H4' := Lib.hid h4'
          have HOk := Lib.hid hO
          clear hO hpl htl hz h4'
          go_wp2_with fail
          refine (alive_at (k := x.length) (l := l) (seen := Z) _ H4'.out rfl rfl (hl.ext hBB) (HOk.out.slc (fun _ => rfl) (by decide)) (by unfold maxLen; omega) rfl).mono ?_
          rintro e w9 ⟨A5, c5, rfl, S5, B9⟩
          go_wp2_with fail
          refine (same_at (a := x) (b := x) true (by simp) rfl rfl ((S1.ext hBB).ext B9) S5 (by omega)).mono ?_
          rintro e w10 ⟨rfl, B10⟩
          go_wp2_with fail
          go_ret
          exact ⟨rfl, ext_trans HEE.out (ext_trans hBB (ext_trans B9 B10))⟩
        obtain ⟨s, b1, o1, hsx, rfl, hb1, hc⟩ := (hs.ext hBB).at_ hlt
        have d0 := hc 0 _ rfl
        simp only [Nat.mul_one, Nat.add_zero] at d0
        have hin : inT l s = true := (List.all_eq_true.1 HIN.out) s (List.mem_of_getElem? hsx)
        simp only [inT, Bool.and_eq_true, decide_eq_true_eq] at hin
        obtain ⟨i0, i1⟩ := hin
        obtain ⟨nd, b3, o3, hnd, rfl, hb3, hc3⟩ := (hl.ext hBB).nd.at_ (k := s.toNat) (by omega)
        have u0 := hc3 0 _ rfl
        simp only [Nat.add_zero] at u0
        have hlt' : (k : Int) < seen.length := by omega
        have hps := pars_snoc (l := l) (seen.take k) s
        have htk : seen.take (k + 1) = seen.take k ++ [s] := by rw [List.take_add_one, hsx]; rfl
        rw [par_at hnd] at hps
        clear hsx hc hnd hc3
        by_cases hp : 0 ≤ nd.p
        · rw [if_pos hp] at hps
          have hS := slc_litH wr [nd.p] #[.int .i64 nd.p] 3 (enc := ic) (sz := 1) (fun _ => rfl) rfl wr.heap.size rfl
          obtain ⟨v', w5, hrun, hO5, hg5, hat5⟩ := (hO.alloc (.cells #[.int .i64 nd.p] 3)).append I25 25 (ys := [nd.p]) (m := 1) rfl 1 hS (by simp only [List.length_cons, List.length_nil]; omega) (by unfold maxLen; simp only [List.length_cons, List.length_nil]; omega) (by have := hBB.size; simp; omega)
          have hB5 : Below w3.heap.size w3 w5 := (ext_alloc hBB _).grown hg5 (by have := hBB.size; simp; omega) (fun r e => (hO.lt r e).2)
          have HRUN := Lib.hid hrun
          have HO5 := Lib.hid hO5
          have HPS : Hid (Z ++ [nd.p] = revd seen ++ pars l (seen.take (k + 1))) := by rw [Hid, htk, hps, HZ.out, List.append_assoc]
          clear hrun hO5 hg5 hat5 hS htk hps hpl htl
          go_wp2_with (at_builtin; refine wpList_append_run rfl (.tmp 79) (.tmp 85) 25 rfl (.slice A4 Z.length c4) (.slice (some ⟨wr.heap.size, 0, none⟩) 1 1) rfl rfl HRUN.out ?_)
          go_roundw
          case rel => exact ⟨k + 1, Z ++ [nd.p], hlt, by go_num, HO5.out, HPS.out, hB5⟩
          case measure => simp [intOf]; omega
        · rw [if_neg hp, List.append_nil] at hps
          have HPS : Hid (Z = revd seen ++ pars l (seen.take (k + 1))) := by rw [Hid, htk, hps, HZ.out]
          clear htk hps hpl htl
          go_wp2_with fail
          go_roundw
          case rel => exact ⟨k + 1, Z, hlt, by go_num, hO, HPS.out, hBB⟩
          case measure => simp [intOf]; omega
end Go.Proofs.Ytemdebheinbolaa
