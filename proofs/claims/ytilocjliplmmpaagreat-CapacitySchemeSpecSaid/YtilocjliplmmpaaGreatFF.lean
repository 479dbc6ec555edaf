/- The program's Check. -/
import Derived.Test.YtilocjliplmmpaaGreatFA
import Derived.WalkMore
set_option linter.unusedSimpArgs false
set_option linter.unusedVariables false
namespace Go.Proofs.YtilocjliplmmpaaGreat
open Go.RowKit
theorem frm_pos {l : List Nd} {k : Nat} (hk : k ≤ l.length) (h : ∀ j < k, okI l j = true) : ∀ n q : Nat, q ≤ n → q < k → 0 ≤ frm l q ∧ frm l q < 1440
  | n, q, hq, hqk => by
    have hy : l[q]? = some (l[q]'(by omega)) := List.getElem?_eq_getElem (by omega)
    have N := ok_node (h q hqk) hy
    rw [frm_at hy]
    rcases Nat.eq_zero_or_pos q with e | e
    · have := N.root e; omega
    · have h1 := N.par0 e
      cases n with
      | zero => omega
      | succ n =>
        have := frm_pos hk h n (l[q]'(by omega)).p.toNat (by omega) (by omega)
        omega
theorem in_q {n a b : Int} {w : World} (r : Bool) (hr : (decide (a ≤ n) && decide (n ≤ b)) = r) : Calls Tryz.prog 98 #[.int .i64 n, .int .i64 a, .int .i64 b] w fun e w' => e = .returned (.bool r) ∧ w' = w := (in_at r hr).mono fun _ _ ⟨a, b⟩ => ⟨a, b.symm⟩
theorem mk53 (w : World) : (Instr.makeMap 145 none).run Tryz.prog w = .ok (.map (some w.heap.size)) (w.alloc (.map #[] 0)) := by kernel_rfl
theorem okI_false {l : List Nd} {k : Nat} {x : Nd} (hx : l[k]? = some x) (h : okP l k x = false ∨ clash l k x = true ∨ x.cuts.l.any (badC x.f) = true ∨ ¬ x.cuts.l.length ≤ 64) : okI l k = false := by
  simp only [okI, hx, okN]
  rcases h with h | h | h | h <;> simp [h]
theorem okI_true {l : List Nd} {k : Nat} {x : Nd} (hx : l[k]? = some x) (h1 : okP l k x = true) (h2 : clash l k x = false) (h3 : x.cuts.l.any (badC x.f) = false) (h4 : x.cuts.l.length ≤ 64) : okI l k = true := by
  simp only [okI, hx, okN]; simp [h1, h2, h3, h4]
theorem chk_first {l : List Nd} {x : Nd} (hx : l[0]? = some x) (h : ¬ (x.p = -1 ∧ x.f = 0)) : chkE l = 180 :=
  vld_no (List.getElem?_eq_some_iff.1 hx).1 (okI_false hx (.inl (by simp [okP]; intro a; exact fun b => h ⟨a, b⟩)))
theorem kn_step {l : List Nd} {k : Nat} {x : Nd} (hk : 0 < k) (hx : l[k]? = some x) : ∀ j, (if j = x.p then some x.f else kn l k j) = kn l (k + 1) j := fun j => by
  show _ = (if k = 0 then none else if j = par l k then some (frm l k) else kn l k j)
  rw [if_neg (Nat.ne_of_gt hk), par_at hx, frm_at hx]
theorem kn_zero (l : List Nd) : kn l 0 = fun _ => none := rfl
theorem kn_one (l : List Nd) : kn l 1 = fun _ => none := by funext p; simp [kn]
set_option maxHeartbeats 3200000 in
set_option maxRecDepth 100000 in
theorem check_any (A : Option Addr) (c : Nat) (l : List Nd) (w : World) (ha : TOk w A l) : Calls Tryz.prog 68 #[.slice A l.length c] w (RetE w (chkE l)) := by
  have hl := ha.len
  unfold maxLen at hl
  have hmm := mk53
  obtain ⟨r, hr⟩ : ∃ r, chkE l = r := ⟨_, rfl⟩
  have HR := Lib.hid hr
  rw [hr]
  clear hr
  by_cases h12 : 1 ≤ l.length ∧ l.length ≤ 32
  rotate_left
  · have HZ : Hid (180 = r) := by rw [← HR.out, vld_len h12]; rfl
    go_enter Tryz.func68, Tryz.ntmps68
    go_wp2_with fail
    go_step3
    go_wp2_with fail
    refine (in_at (n := l.length) (a := 1) (b := 32) false (by simp; omega)).mono ?_
    rintro e w1 ⟨rfl, rfl⟩
    go_wp2_with fail
    go_ret
    exact ⟨ret_int HZ.out, ext_refl _⟩
  obtain ⟨h1, h2⟩ := h12
  obtain ⟨x0, b0, o0, hx0, rfl, hb0, hc0⟩ := ha.nd.at_ (show 0 < l.length by omega)
  have a0 := hc0 0 _ rfl
  have a1 := hc0 1 _ rfl
  simp only [Nat.zero_mul, Nat.add_zero] at a0 a1
  have i0 : (0 : Int) < l.length := by omega
  have HX0 := Lib.hid hx0
  clear hx0 hc0
  by_cases hp0 : x0.p = -1
  rotate_left
  · have HZ : Hid (180 = r) := by rw [← HR.out, chk_first HX0.out (fun h => hp0 h.1)]; rfl
    have e1 : (x0.p != -1) = true := by simpa using hp0
    clear hp0
    go_enter Tryz.func68, Tryz.ntmps68
    go_wp2_with fail
    go_step3
    go_wp2_with fail
    refine (in_at (n := l.length) (a := 1) (b := 32) true (by simp; omega)).mono ?_
    rintro e w1 ⟨rfl, rfl⟩
    go_wp2_with fail
    go_ret
    exact ⟨ret_int HZ.out, ext_refl _⟩
  by_cases hf0 : x0.f = 0
  rotate_left
  · have HZ : Hid (180 = r) := by rw [← HR.out, chk_first HX0.out (fun h => hf0 h.2)]; rfl
    have e1 : (x0.p != -1) = false := by simpa using hp0
    have e2 : (x0.f != 0) = true := by simpa using hf0
    clear hp0 hf0
    go_enter Tryz.func68, Tryz.ntmps68
    go_wp2_with fail
    go_step3
    go_wp2_with fail
    refine (in_at (n := l.length) (a := 1) (b := 32) true (by simp; omega)).mono ?_
    rintro e w1 ⟨rfl, rfl⟩
    go_wp2_with fail
    go_ret
    exact ⟨ret_int HZ.out, ext_refl _⟩
  have e1 : (x0.p != -1) = false := by simpa using hp0
  have e2 : (x0.f != 0) = false := by simpa using hf0
  have HP0 : Hid (x0.p = -1 ∧ x0.f = 0) := ⟨hp0, hf0⟩
  clear hp0 hf0
  have HM : OMap Tryz.prog 3 3 (w.alloc (.map #[] 0)) w.heap.size 0 (kn l 0) := OMap.made w
  go_enter Tryz.func68, Tryz.ntmps68
  go_wp2_with fail
  go_step3
  go_wp2_with fail
  refine (in_at (n := l.length) (a := 1) (b := 32) true (by simp; omega)).mono ?_
  rintro e w1 ⟨rfl, rfl⟩
  go_wp2_with fail
  go_step3
  go_wp2_with fail
  clear e1 e2
  have HA : TOk w (some ⟨b0, o0, none⟩) l := ha
  clear ha a0 a1
  go_loopw [30] (fun i wr => ∃ k : Nat, k ≤ l.length ∧ i = .int .i64 k ∧ Hid (∀ j < k, okI l j = true) ∧ Below w.heap.size w wr ∧ OMap Tryz.prog 3 3 wr w.heap.size k (kn l k)) (fun i _ => l.length - (intOf i).toNat)
  case atStart => exact ⟨0, Nat.zero_le _, rfl, fun j hj => by omega, ext_alloc (ext_refl _) _, HM⟩
  case round =>
    clear HM
    obtain ⟨k, hk, rfl, HT, hB, hM⟩ := hrel
    by_cases hlt : k < l.length
    rotate_left
    · have hlt' : ¬ (k : Int) < l.length := by omega
      go_wp2_with fail
      go_ret
      exact ⟨ret_int (by rw [← HR.out, vld_yes h1 h2 (fun j hj => HT.out j (by omega))]), hB⟩
    obtain ⟨x, b1, o1, hx, ea, hb1, hc⟩ := (HA.nd.ext hB).at_ hlt
    cases ea
    have c0 := hc 0 _ rfl
    have c1 := hc 1 _ rfl
    have c2 := hc 2 _ rfl
    simp only [Nat.add_zero] at c0
    have HX := Lib.hid hx
    have hlt' : (k : Int) < l.length := by omega
    have hxm := HA.cl x (List.mem_of_getElem? hx)
    unfold maxLen at hxm
    clear hx hc
    obtain ⟨wo, rfl⟩ : ∃ wo, wo = wr := ⟨_, rfl⟩
    have HBX := BoxN.new wo x 63
    have hBb := ext_alloc (ext_refl wo) (.cells #[.int .i64 x.p, .int .i64 x.f, .slice x.cuts.A x.cuts.l.length x.cuts.c] 63)
    obtain ⟨bad, hbad⟩ : ∃ b, x.cuts.l.any (badC x.f) = b := ⟨_, rfl⟩
    have HBAD := Lib.hid hbad
    clear hbad
    have hM1 := hM.ext hBb
    go_wp2_with fail
    refine (containsCut 100 (.pointer (some ⟨wo.heap.size, 0, none⟩)) (badC x.f) x.cuts.A x.cuts.c x.cuts.l _ (((HA.ct x (List.mem_of_getElem? HX.out)).ext hB).ext hBb) (HA.cl x (List.mem_of_getElem? HX.out)) enters31 (fun cu W _ hW => badcut_any cu _ x.f W (HBX.ext hW).lt (HBX.ext hW).f)).mono ?_
    rintro e w2 ⟨rfl, B2⟩
    rw [HBAD.out]
    have HBX2 := HBX.ext B2
    have hM2 := hM1.ext B2
    have hB2 := ext_trans hB (ext_trans hBb B2)
    obtain ⟨n0, n1, n2, n3⟩ := HBX2
    have HBB := Lib.hid hBb
    clear HBX hM1 hM c0 c1 c2 hB hBb B2
    cases bad
    rotate_left
    · have HO : Hid (okI l k = false) := okI_false HX.out (.inr (.inr (.inl HBAD.out)))
      go_wp2_with fail
      go_ret
      exact ⟨ret_int (by rw [← HR.out, vld_no hlt HO.out]), hB2⟩
    by_cases h64 : x.cuts.l.length ≤ 64
    rotate_left
    · have HO : Hid (okI l k = false) := okI_false HX.out (.inr (.inr (.inr h64)))
      have g1 : (64 : Int) < x.cuts.l.length := by omega
      go_wp2_with fail
      go_ret
      exact ⟨ret_int (by rw [← HR.out, vld_no hlt HO.out]), hB2⟩
    have g1 : ¬ (64 : Int) < x.cuts.l.length := by omega
    rcases Nat.eq_zero_or_pos k with h0 | h0
    · have HO : Hid (okI l k = true) := by
        have hx := HX.out
        have hbb := HBAD.out
        subst h0
        obtain rfl : x0 = x := Option.some.inj (HX0.out.symm.trans hx)
        exact okI_true hx (by simp [okP, HP0.out.1, HP0.out.2]) (by simp [clash]) hbb h64
      have HK : Hid (kn l k = kn l (k + 1)) := by rw [h0]; exact (kn_one l).symm
      have e0 : ((k : Int) == 0) = true := by simp [h0]
      clear h0
      go_wp2_with fail
      go_roundw
      case rel => exact ⟨k + 1, hlt, by go_num, all_step HT.out HO.out, hB2, by rw [← HK.out]; exact hM2.mono_ (by omega)⟩
      case measure => simp [intOf]; omega
    have e0 : ((k : Int) == 0) = false := by simp; omega
    obtain ⟨r1, hr1⟩ : ∃ r, (decide (0 ≤ x.p) && decide (x.p ≤ (k : Int) - 1)) = r := ⟨_, rfl⟩
    have H1 := Lib.hid hr1
    cases r1
    · have HO : Hid (okI l k = false) := okI_false HX.out (.inl (by
        simp only [okP, if_neg (Nat.ne_of_gt h0)]
        simp only [Bool.and_eq_false_iff, decide_eq_false_iff_not] at hr1 ⊢
        omega))
      clear hr1
      have hw1 : IntKind.i64.wrap ((k : Int) - 1) = (k : Int) - 1 := IntWalk.i64_in _ (by omega)
      go_wp2_with fail
      go_quiet ((go_at_call 98; exact Calls.quiet_of_same (in_q false H1.out)))
      go_wp2_with fail
      go_ret
      exact ⟨ret_int (by rw [← HR.out, vld_no hlt HO.out]), ext_drewN hB2 _⟩
    simp only [Bool.and_eq_true, decide_eq_true_eq] at hr1
    obtain ⟨q, hq⟩ : ∃ q : Nat, x.p = q := ⟨x.p.toNat, by omega⟩
    have g5 : x.p < l.length := by omega
    have g6 : x.p.toNat = q := by omega
    have g7 : (0 : Int) ≤ x.p := by omega
    obtain ⟨y, b2, o2, hy, ey, hb2, hcy⟩ := (HA.nd.ext hB2).at_ (show q < l.length by omega)
    cases ey
    have d1 := hcy 1 _ rfl
    have hfy : frm l x.p.toNat = y.f := by rw [hq, Int.toNat_natCast, frm_at hy]
    obtain ⟨r2, hr2⟩ : ∃ r, (decide (y.f + 1 ≤ x.f) && decide (x.f ≤ 1439)) = r := ⟨_, rfl⟩
    have H2 := Lib.hid hr2
    have hyb : 0 ≤ y.f ∧ y.f < 1440 := by
      have := frm_pos hk HT.out q q (Nat.le_refl _) (by omega)
      rwa [frm_at hy] at this
    obtain ⟨y0, y1⟩ := hyb
    have HQ := Lib.hid hq
    have HY := Lib.hid hfy
    clear hq hfy hy hcy
    cases r2
    · have HO : Hid (okI l k = false) := okI_false HX.out (.inl (by
        simp only [okP, if_neg (Nat.ne_of_gt h0), HY.out]
        simp only [Bool.and_eq_false_iff, decide_eq_false_iff_not] at hr2 ⊢
        omega))
      clear hr2
      have hw1 : IntKind.i64.wrap ((k : Int) - 1) = (k : Int) - 1 := IntWalk.i64_in _ (by omega)
      have hw2 : IntKind.i64.wrap (y.f + 1) = y.f + 1 := IntWalk.i64_in _ (by omega)
      go_wp2_with fail
      go_quiet ((go_at_call 98; first | exact Calls.quiet_of_same (in_q true H1.out) | exact Calls.quiet_of_same (in_q false H2.out)))
      go_wp2_with fail
      go_ret
      exact ⟨ret_int (by rw [← HR.out, vld_no hlt HO.out]), ext_drewN hB2 _⟩
    simp only [Bool.and_eq_true, decide_eq_true_eq] at hr2
    have HOP : Hid (okP l k x = true) := by
      simp only [Hid, okP, if_neg (Nat.ne_of_gt h0), HY.out, Bool.and_eq_true, decide_eq_true_eq]
      omega
    have hwp : (Lit.int .i64 x.p).wf = true := wf64 (by omega) (by omega)
    have hwf : (Lit.int .i64 x.f).wf = true := wf64 (by omega) (by omega)
    have hcl := kn_clash (l := l) (k := k) (x := x) hk HT.out
    have HWP := Lib.hid hwp
    have HWF := Lib.hid hwf
    have hM3 : ∀ n, OMap Tryz.prog 3 3 (w2.drewN n) w.heap.size k (kn l k) := fun n => hM2.ext (ext_drewN (ext_refl _) n)
    have hw1 : IntKind.i64.wrap ((k : Int) - 1) = (k : Int) - 1 := IntWalk.i64_in _ (by omega)
    have hw2 : IntKind.i64.wrap (y.f + 1) = y.f + 1 := IntWalk.i64_in _ (by omega)
    clear hwp hwf hr1 hr2 hM2
    obtain ⟨o, ho⟩ : ∃ o, kn l k x.p = o := ⟨_, rfl⟩
    have HO := Lib.hid ho
    rw [ho] at hcl
    have hlk : ∀ n, (Instr.lookup 145 (.map (some w.heap.size)) (.int .i64 x.p) true).run Tryz.prog (w2.drewN n) = .ok (.tuple #[.int .i64 (o.getD 0), .bool o.isSome]) (w2.drewN n) := fun n => by
      have := (hM3 n).look Tryz.underlying3 Tryz.underlying145 Tryz.underlying3 (zero3 _) x.p HWP.out
      rw [ho] at this; exact this
    have HCL := Lib.hid hcl
    clear ho hcl
    cases o with
    | none =>
      simp only [Option.getD_none, Option.isSome_none] at hlk
      go_wp2_with fail
      go_quiet ((go_at_call 98; first | exact Calls.quiet_of_same (in_q true H1.out) | exact Calls.quiet_of_same (in_q true H2.out)))
      obtain ⟨w3, hput, hM4, hg3⟩ := (hM3 nq).put Tryz.underlying3 Tryz.underlying145 Tryz.underlying3 (by unfold maxLen; omega) x.p x.f HWP.out HWF.out
      have hB3 : Below w.heap.size w w3 := (ext_drewN hB2 nq).grown hg3 hB2.size (fun r e => by cases e; exact Nat.le_refl _)
      have HO' : Hid (okI l k = true) := okI_true HX.out HOP.out HCL.out HBAD.out h64
      have HMK := Lib.hid (hM4.congr (kn_step (by omega) HX.out))
      have HB3 := Lib.hid hB3
      clear hM3 hM4 hg3 hB3 hw1 hw2
      go_wp2_with fail
      go_roundw
      case rel => exact ⟨k + 1, hlt, by go_num, all_step HT.out HO'.out, HB3.out, HMK.out⟩
      case measure => simp [intOf]; omega
    | some v =>
      simp only [Option.getD_some, Option.isSome_some] at hlk
      have hcl := HCL.out
      simp only at hcl
      by_cases hv : v = x.f
      · have ev : (v != x.f) = false := by simpa using hv
        have hnc : clash l k x = false := by rw [hcl]; simp [hv]
        have HO' : Hid (okI l k = true) := okI_true HX.out HOP.out hnc HBAD.out h64
        clear hcl hv hnc
        go_wp2_with fail
        go_quiet ((go_at_call 98; first | exact Calls.quiet_of_same (in_q true H1.out) | exact Calls.quiet_of_same (in_q true H2.out)))
        obtain ⟨w3, hput, hM4, hg3⟩ := (hM3 nq).put Tryz.underlying3 Tryz.underlying145 Tryz.underlying3 (by unfold maxLen; omega) x.p x.f HWP.out HWF.out
        have hB3 : Below w.heap.size w w3 := (ext_drewN hB2 nq).grown hg3 hB2.size (fun r e => by cases e; exact Nat.le_refl _)
        have HMK := Lib.hid (hM4.congr (kn_step (by omega) HX.out))
        have HB3 := Lib.hid hB3
        clear hM3 hM4 hg3 hB3 hw1 hw2
        go_wp2_with fail
        go_roundw
        case rel => exact ⟨k + 1, hlt, by go_num, all_step HT.out HO'.out, HB3.out, HMK.out⟩
        case measure => simp [intOf]; omega
      · have ev : (v != x.f) = true := by simpa using hv
        have hnc : clash l k x = true := by rw [hcl]; simp [hv]
        have HO' : Hid (okI l k = false) := okI_false HX.out (.inr (.inl hnc))
        clear hcl hv hnc
        go_wp2_with fail
        go_quiet ((go_at_call 98; first | exact Calls.quiet_of_same (in_q true H1.out) | exact Calls.quiet_of_same (in_q true H2.out)))
        clear hw1 hw2
        go_wp2_with fail
        go_ret
        exact ⟨ret_int (by rw [← HR.out, vld_no hlt HO'.out]), ext_drewN hB2 _⟩
end Go.Proofs.YtilocjliplmmpaaGreat
