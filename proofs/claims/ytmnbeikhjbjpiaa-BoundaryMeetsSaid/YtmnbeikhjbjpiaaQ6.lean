/- BoundaryMeets, walked. -/
import Derived.Test.YtmnbeikhjbjpiaaT6
import Derived.Test.YtmnbeikhjbjpiaaT7
set_option linter.unusedSimpArgs false
set_option linter.unusedVariables false
namespace Go.Proofs.Ytmnbeikhjbjpiaa
open Go.RowKit
theorem cen_comm (a b : Int) : cen a b = cen b a := by
  unfold cen
  rw [Bool.and_comm (decide (0 ≤ a) && decide (a ≤ 3)), show decide (a ≠ b) = decide (b ≠ a) from by simp [eq_comm]]
set_option maxHeartbeats 6400000 in
set_option maxRecDepth 100000 in
theorem law6 (lo hi : Int) (A0 : Option Addr) (cS : Nat) (S : List Sp) (w : World) (hS : Slc w Sp.cells 6 A0 S) (hc : S.length ≤ maxLen) (hok : ∀ s ∈ S, s.ok) : Calls Try.prog 6 #[.int .i64 lo, .int .i64 hi, .slice A0 S.length cS] w (Tru w) := by
  have HS0 := Lib.hid hS
  have HOK := Lib.hid hok
  unfold maxLen at hc
  clear hS hok
  have E := Lib.hid (ext_refl w)
  go_enter Try.func6, Try.ntmps6
  go_wp2_with fail
  refine (sane_any _).mono ?_
  rintro e v1 ⟨rfl, B⟩
  replace E := Lib.hid (ext_trans E.out B)
  clear B
  by_cases hlen : 25 < S.length
  · have hlen1 : (25 : Int) < S.length := by omega
    go_wp2_with fail
    go_ret
    exact ⟨rfl, E.out⟩
  have hlen1 : ¬ (25 : Int) < S.length := by omega
  obtain ⟨cv, hcv⟩ : ∃ v, cen lo hi = v := ⟨_, rfl⟩
  have HV := Lib.hid hcv
  clear hcv
  cases cv
  · go_wp2_with fail
    refine (new_at (own := lo) (ot := hi) (fun _ => True) zeroB 480 (by unfold Bl.new; rw [HV.out]; rfl) (by unfold newE; rw [HV.out]; rfl)).mono ?_
    rintro e v2 ⟨m0, rfl, hm, hk, B, -⟩
    replace E := Lib.hid (ext_trans E.out B)
    clear B
    clear hm hk
    replace E := Lib.hid (ext_alloc E.out (.cells #[.int .i64 m0.own, .int .i64 m0.ot, .slice m0.ag.A m0.ag.l.length m0.ag.c, .slice m0.op.A m0.op.l.length m0.op.c] 24))
    go_wp2_with fail
    refine (new_at (own := hi) (ot := lo) (fun _ => True) zeroB 480 (by unfold Bl.new; rw [(cen_comm hi lo).trans HV.out]; rfl) (by unfold newE; rw [(cen_comm hi lo).trans HV.out]; rfl)).mono ?_
    rintro e v3 ⟨m1, rfl, hm, hk, B, -⟩
    replace E := Lib.hid (ext_trans E.out B)
    clear B
    clear hm hk
    replace E := Lib.hid (ext_alloc E.out (.cells #[.int .i64 m1.own, .int .i64 m1.ot, .slice m1.ag.A m1.ag.l.length m1.ag.c, .slice m1.op.A m1.op.l.length m1.op.c] 24))
    go_wp2_with fail
    go_ret
    exact ⟨rfl, E.out⟩
  go_wp2_with fail
  refine (new_at (own := lo) (ot := hi) (fun _ => True) ⟨lo, hi, [], []⟩ 0 (by unfold Bl.new; rw [HV.out]; rfl) (by unfold newE; rw [HV.out]; rfl)).mono ?_
  rintro e v2 ⟨m0, rfl, hm, hk, B, -⟩
  replace E := Lib.hid (ext_trans E.out B)
  clear B
  have Hm0 := Lib.hid hm
  have Nm0 := Lib.hid hk
  clear hm hk
  replace E := Lib.hid (ext_alloc E.out (.cells #[.int .i64 m0.own, .int .i64 m0.ot, .slice m0.ag.A m0.ag.l.length m0.ag.c, .slice m0.op.A m0.op.l.length m0.op.c] 24))
  replace Nm0 := Lib.hid (Nm0.out.alloc (.cells #[.int .i64 m0.own, .int .i64 m0.ot, .slice m0.ag.A m0.ag.l.length m0.ag.c, .slice m0.op.A m0.op.l.length m0.op.c] 24))
  have Bm0 := Lib.hid (Blk.newH v2 [.int .i64 m0.own, .int .i64 m0.ot, .slice m0.ag.A m0.ag.l.length m0.ag.c, .slice m0.op.A m0.op.l.length m0.op.c] 24 (v2.heap.size) (by first | rfl | simp))
  go_wp2_with fail
  refine (new_at (own := hi) (ot := lo) (fun _ => True) ⟨hi, lo, [], []⟩ 0 (by unfold Bl.new; rw [(cen_comm hi lo).trans HV.out]; rfl) (by unfold newE; rw [(cen_comm hi lo).trans HV.out]; rfl)).mono ?_
  rintro e v3 ⟨m1, rfl, hm, hk, B, -⟩
  replace E := Lib.hid (ext_trans E.out B)
  replace Nm0 := Lib.hid (Nm0.out.ext B)
  replace Bm0 := Lib.hid (Bm0.out.ext B)
  clear B
  have Hm1 := Lib.hid hm
  have Nm1 := Lib.hid hk
  clear hm hk
  replace E := Lib.hid (ext_alloc E.out (.cells #[.int .i64 m1.own, .int .i64 m1.ot, .slice m1.ag.A m1.ag.l.length m1.ag.c, .slice m1.op.A m1.op.l.length m1.op.c] 24))
  replace Nm0 := Lib.hid (Nm0.out.alloc (.cells #[.int .i64 m1.own, .int .i64 m1.ot, .slice m1.ag.A m1.ag.l.length m1.ag.c, .slice m1.op.A m1.op.l.length m1.op.c] 24))
  replace Bm0 := Lib.hid (Bm0.out.alloc (.cells #[.int .i64 m1.own, .int .i64 m1.ot, .slice m1.ag.A m1.ag.l.length m1.ag.c, .slice m1.op.A m1.op.l.length m1.op.c] 24))
  replace Nm1 := Lib.hid (Nm1.out.alloc (.cells #[.int .i64 m1.own, .int .i64 m1.ot, .slice m1.ag.A m1.ag.l.length m1.ag.c, .slice m1.op.A m1.op.l.length m1.op.c] 24))
  have Bm1 := Lib.hid (Blk.newH v3 [.int .i64 m1.own, .int .i64 m1.ot, .slice m1.ag.A m1.ag.l.length m1.ag.c, .slice m1.op.A m1.op.l.length m1.op.c] 24 (v3.heap.size) (by first | rfl | simp))
  have c0 := Bm0.out.c 0 _ rfl
  have c1 := Bm0.out.c 1 _ rfl
  have c2 := Bm0.out.c 2 _ rfl
  have c3 := Bm0.out.c 3 _ rfl
  have e0 := Bm1.out.c 0 _ rfl
  have e1 := Bm1.out.c 1 _ rfl
  have e2 := Bm1.out.c 2 _ rfl
  have e3 := Bm1.out.c 3 _ rfl
  go_wp2_with fail
  clear c0 c1 c2 c3 e0 e1 e2 e3
  have HO0 := Lib.hid (Nm0.out.off (c := v3.heap.size + 1) (by simp))
  have HO1 := Lib.hid (Nm1.out.off (c := v3.heap.size + 1) (by simp))
  have HPG := Lib.hid (show w.heap.size ≤ v3.heap.size + 1 by have := E.out.size; simpa using this)
  clear Bm0 Bm1
  replace E := Lib.hid (ext_alloc E.out (.cells #[.int .i64 m0.own, .int .i64 m0.ot, .slice m0.ag.A m0.ag.l.length m0.ag.c, .slice m0.op.A m0.op.l.length m0.op.c, .int .i64 m1.own, .int .i64 m1.ot, .slice m1.ag.A m1.ag.l.length m1.ag.c, .slice m1.op.A m1.op.l.length m1.op.c, .slice none 0 0] 48))
  replace Nm0 := Lib.hid (Nm0.out.alloc (.cells #[.int .i64 m0.own, .int .i64 m0.ot, .slice m0.ag.A m0.ag.l.length m0.ag.c, .slice m0.op.A m0.op.l.length m0.op.c, .int .i64 m1.own, .int .i64 m1.ot, .slice m1.ag.A m1.ag.l.length m1.ag.c, .slice m1.op.A m1.op.l.length m1.op.c, .slice none 0 0] 48))
  replace Nm1 := Lib.hid (Nm1.out.alloc (.cells #[.int .i64 m0.own, .int .i64 m0.ot, .slice m0.ag.A m0.ag.l.length m0.ag.c, .slice m0.op.A m0.op.l.length m0.op.c, .int .i64 m1.own, .int .i64 m1.ot, .slice m1.ag.A m1.ag.l.length m1.ag.c, .slice m1.op.A m1.op.l.length m1.op.c, .slice none 0 0] 48))
  have PB := Lib.hid (Blk.newH (v3.alloc (.cells #[.int .i64 m1.own, .int .i64 m1.ot, .slice m1.ag.A m1.ag.l.length m1.ag.c, .slice m1.op.A m1.op.l.length m1.op.c] 24)) [.int .i64 m0.own, .int .i64 m0.ot, .slice m0.ag.A m0.ag.l.length m0.ag.c, .slice m0.op.A m0.op.l.length m0.op.c, .int .i64 m1.own, .int .i64 m1.ot, .slice m1.ag.A m1.ag.l.length m1.ag.c, .slice m1.op.A m1.op.l.length m1.op.c, .slice none 0 0] 48 (v3.heap.size + 1) (by first | rfl | simp))
  obtain ⟨P, hP⟩ : ∃ s, s = v3.heap.size + 1 := ⟨_, rfl⟩
  rw [← hP] at PB HO0 HO1 HPG ⊢
  clear hP
  have PP := Lib.hid (show PR _ P m0 m1 none 0 0 [] from ⟨PB.out.lt, Nm0.out, Nm1.out, HO0.out, HO1.out, Own.nil _ _ 53 _ _, (fun g hg => by cases hg), rfl, Nat.le_refl _, by decide⟩)
  have H2 := Lib.hid (show Two ⟨m0.bl, m1.bl, []⟩ by rw [Hm0.out, Hm1.out]; exact Two.start HV.out)
  have L0 := Lib.hid (show LenS 0 m0.bl by rw [Hm0.out]; exact ⟨Nat.le_refl _, Nat.le_refl _⟩)
  have L1 := Lib.hid (show LenS 0 m1.bl by rw [Hm1.out]; exact ⟨Nat.le_refl _, Nat.le_refl _⟩)
  go_loopw [58] (fun i wr => ∃ k : Nat, k ≤ S.length ∧ i = .int .i64 k ∧ ∃ (x y : Bd) (A : Option Addr) (n c : Nat) (l : List Lt), Hid (Two ⟨x.bl, y.bl, l⟩) ∧ Hid (LenS k x.bl) ∧ Hid (LenS k y.bl) ∧ n ≤ k ∧ Hid (Blk wr P (Pc x y A n c)) ∧ Hid (PR wr P x y A n c l) ∧ Hid (Below w.heap.size w wr)) (fun i _ => S.length - (intOf i).toNat)
  case atStart => exact ⟨0, Nat.zero_le _, rfl, m0, m1, none, 0, 0, [], H2.out, L0.out, L1.out, Nat.le_refl _, PB.out, PP.out, E.out⟩
  clear PB PP E H2 L0 L1 Nm0 Nm1 HO0 HO1
  case round =>
    obtain ⟨k, hk, rfl, x, y, A, n, c, l, H2, LX, LY, hn, PB, PP, E⟩ := hrel
    by_cases hlt : k < S.length
    · have hlt1 : (k : Int) < S.length := by omega
      obtain ⟨s, b1, o1, hx1, rfl, hb1, hd⟩ := (HS0.out.ext E.out).at_ hlt
      have HM := Lib.hid (List.mem_of_getElem? hx1)
      have d0 := hd 0 _ rfl
      have d1 := hd 1 _ rfl
      have d2 := hd 2 _ rfl
      have d3 := hd 3 _ rfl
      have d4 := hd 4 _ rfl
      have d5 := hd 5 _ rfl
      simp only [Nat.add_zero] at d0
      clear hd hx1
      replace PB := Lib.hid (PB.out.alloc (.cells #[.int .u8 s.k, .int .u8 s.si, .int .u8 s.n, .bool s.back, .int .i64 s.mi, .int .i64 s.ra] 50))
      replace PP := Lib.hid (PP.out.alloc (.cells #[.int .u8 s.k, .int .u8 s.si, .int .u8 s.n, .bool s.back, .int .i64 s.mi, .int .i64 s.ra] 50))
      replace E := Lib.hid (ext_alloc E.out (.cells #[.int .u8 s.k, .int .u8 s.si, .int .u8 s.n, .bool s.back, .int .i64 s.mi, .int .i64 s.ra] 50))
      have SX := Lib.hid (Blk.newH wr [.int .u8 s.k, .int .u8 s.si, .int .u8 s.n, .bool s.back, .int .i64 s.mi, .int .i64 s.ra] 50 (wr.heap.size) (by first | rfl | simp))
      have c0 := SX.out.c 0 _ rfl
      have c1 := SX.out.c 1 _ rfl
      have c2 := SX.out.c 2 _ rfl
      have c3 := SX.out.c 3 _ rfl
      have c4 := SX.out.c 4 _ rfl
      have c5 := SX.out.c 5 _ rfl
      go_wp2_with fail
      refine (step_any PB.out PP.out H2.out LX.out LY.out (by omega) (by omega) (HOK.out s HM.out)).mono ?_
      rintro e u1 ⟨⟨qx, qy, qs⟩, ⟨rfl, x2, y2, A2, n2, cc2, hx2, hy2, hPB, hPP, hB⟩, t2, tx, ty, tn⟩
      simp only at hx2 hy2 hPP tx ty tn
      subst hx2 hy2
      clear hb1 d0 d1 d2 d3 d4 d5
      clear c0 c1 c2 c3 c4 c5 SX H2
      replace E := Lib.hid (E.out.trans (hB.mono HPG.out))
      replace PB := Lib.hid hPB
      replace PP := Lib.hid hPP
      have H2 := Lib.hid t2
      have TX := Lib.hid tx
      have TY := Lib.hid ty
      have hn2 : n2 ≤ k + 1 := by have := hPP.hn; omega
      clear hPB hPP t2 tx ty tn hB LX LY
      go_wp2_with fail
      refine (agree_two x2 y2 A2 n2 cc2 P qs _ PB.out PP.out H2.out).mono ?_
      rintro e r1 ⟨rfl, B⟩
      replace PB := Lib.hid (PB.out.ext B)
      replace PP := Lib.hid (PP.out.ext B)
      replace E := Lib.hid (ext_trans E.out B)
      clear B
      go_wp2_with fail
      go_roundw
      case rel => exact ⟨k + 1, by omega, by go_num, x2, y2, A2, n2, cc2, qs, H2.out, TX.out, TY.out, hn2, PB.out, PP.out, E.out⟩
      case measure => simp [intOf]; omega
    have hge : ¬ (k : Int) < S.length := by omega
    have HN := Lib.hid PP.out.hn
    have hcm := Nat.le_trans PP.out.hc PP.out.hm
    unfold maxLen at hcm
    replace LX := Lib.hid (LX.out.up (show k ≤ 25 by omega))
    replace LY := Lib.hid (LY.out.up (show k ≤ 25 by omega))
    have hn25 : n ≤ 25 := by omega
    have c0 := PB.out.c 8 _ rfl
    go_wp2_with fail
    clear c0 hge
    clear hlt hn hk
    go_loopw [77] (fun i wr => ∃ k : Nat, k ≤ n ∧ i = .int .i64 k ∧ ∃ (x y : Bd), Hid (Two ⟨x.bl, y.bl, l⟩) ∧ Hid (LenS (25 + k) x.bl) ∧ Hid (LenS (25 + k) y.bl) ∧ Hid (∀ (j : Nat) (m : Lt), j < k → l[j]? = some m → m.acc = true → m.a ∈ ((⟨x.bl, y.bl, l⟩ : Pr).s m.to).ag) ∧ Hid (Blk wr P (Pc x y A n c)) ∧ Hid (PR wr P x y A n c l) ∧ Hid (Below w.heap.size w wr)) (fun i _ => n - (intOf i).toNat)
    case atStart => exact ⟨0, Nat.zero_le _, rfl, x, y, H2.out, LX.out, LY.out, (fun j m h => absurd h (Nat.not_lt_zero _)), PB.out, PP.out, E.out⟩
    clear PB PP E H2 LX LY
    case round =>
      obtain ⟨k, hk, rfl, x, y, H2, LX, LY, HD, PB, PP, E⟩ := hrel
      by_cases hlt : k < n
      · have hlt1 : (k : Int) < n := by omega
        obtain ⟨m, b1, o1, hx1, rfl, hb1, hd⟩ := PP.out.row.at_ (k := k) (by rw [HN.out]; exact hlt)
        have HX1 := Lib.hid hx1
        have HM := Lib.hid (List.mem_of_getElem? hx1)
        obtain ⟨to, acc, a⟩ := m
        have d0 := hd 0 _ rfl
        have d1 := hd 1 _ rfl
        have d2 := hd 2 _ rfl
        have d3 := hd 3 _ rfl
        have d4 := hd 4 _ rfl
        have d5 := hd 5 _ rfl
        have d6 := hd 6 _ rfl
        simp only [Nat.add_zero] at d0
        clear hd hx1
        cases acc
        · replace PB := Lib.hid (PB.out.alloc (.cells #[.int .i64 (bi to), .bool false, .int .i64 a.no, .int .i64 a.f, .int .i64 a.t, .int .i64 a.m, .int .i64 a.r] 53))
          replace PP := Lib.hid (PP.out.alloc (.cells #[.int .i64 (bi to), .bool false, .int .i64 a.no, .int .i64 a.f, .int .i64 a.t, .int .i64 a.m, .int .i64 a.r] 53))
          replace E := Lib.hid (ext_alloc E.out (.cells #[.int .i64 (bi to), .bool false, .int .i64 a.no, .int .i64 a.f, .int .i64 a.t, .int .i64 a.m, .int .i64 a.r] 53))
          have MX := Lib.hid (Blk.newH wr [.int .i64 (bi to), .bool false, .int .i64 a.no, .int .i64 a.f, .int .i64 a.t, .int .i64 a.m, .int .i64 a.r] 53 (wr.heap.size) (by first | rfl | simp))
          have c0 := MX.out.c 1 _ rfl
          go_wp2_with fail
          go_roundw
          case rel => exact ⟨k + 1, by omega, by go_num, x, y, H2.out, LX.out.up (by omega), LY.out.up (by omega), (fun j m h hj ha => by
            by_cases e : j = k
            · subst e
              rw [HX1.out] at hj
              obtain rfl := Option.some.inj hj
              cases ha
            · exact HD.out j m (by omega) hj ha), PB.out, PP.out, E.out⟩
          case measure => simp [intOf]; omega
        · replace PB := Lib.hid (PB.out.alloc (.cells #[.int .i64 (bi to), .bool true, .int .i64 a.no, .int .i64 a.f, .int .i64 a.t, .int .i64 a.m, .int .i64 a.r] 53))
          replace PP := Lib.hid (PP.out.alloc (.cells #[.int .i64 (bi to), .bool true, .int .i64 a.no, .int .i64 a.f, .int .i64 a.t, .int .i64 a.m, .int .i64 a.r] 53))
          replace E := Lib.hid (ext_alloc E.out (.cells #[.int .i64 (bi to), .bool true, .int .i64 a.no, .int .i64 a.f, .int .i64 a.t, .int .i64 a.m, .int .i64 a.r] 53))
          have MX := Lib.hid (Blk.newH wr [.int .i64 (bi to), .bool true, .int .i64 a.no, .int .i64 a.f, .int .i64 a.t, .int .i64 a.m, .int .i64 a.r] 53 (wr.heap.size) (by first | rfl | simp))
          have c0 := MX.out.c 0 _ rfl
          have c1 := MX.out.c 1 _ rfl
          have c2 := MX.out.c 2 _ rfl
          have c3 := MX.out.c 3 _ rfl
          have c4 := MX.out.c 4 _ rfl
          have c5 := MX.out.c 5 _ rfl
          have c6 := MX.out.c 6 _ rfl
          go_wp2_with fail
          refine (deliver_two (m := ⟨to, true, a⟩) PB.out PP.out H2.out HM.out LX.out LY.out (by omega)).mono ?_
          rintro e u1 ⟨⟨qx, qy, qs⟩, ⟨rfl, x2, y2, hx2, hy2, hPB, hPP, hB⟩, tt⟩
          simp only at hx2 hy2 hPP
          subst hx2 hy2
          obtain rfl : l = qs := tt.sent.symm
          clear hb1 d0 d1 d2 d3 d4 d5 d6
          clear c0 c1 c2 c3 c4 c5 c6 MX
          replace E := Lib.hid (E.out.trans (hB.mono HPG.out))
          replace PB := Lib.hid hPB
          replace PP := Lib.hid hPP
          have TT := Lib.hid tt
          clear hPB hPP tt hB
          go_wp2_with fail
          go_roundw
          case rel => exact ⟨k + 1, by omega, by go_num, x2, y2, TT.out.two, TT.out.lx, TT.out.ly, (fun j m h hj ha => by
            by_cases e : j = k
            · subst e
              rw [HX1.out] at hj
              obtain rfl := Option.some.inj hj
              exact TT.out.mem rfl
            · exact TT.out.mono _ _ (HD.out j m (by omega) hj ha)), PB.out, PP.out, E.out⟩
          case measure => simp [intOf]; omega
      have hge : ¬ (k : Int) < n := by omega
      have HXY := Lib.hid (show x.ag.l = y.ag.l from H2.out.meet (fun m hm ha => by
        obtain ⟨j, hj⟩ := List.mem_iff_getElem?.1 hm
        have hj2 : j < l.length := (List.getElem?_eq_some_iff.1 hj).1
        exact HD.out j m (by have := HN.out; omega) hj ha))
      have HL6 := Lib.hid (show x.ag.l.length < 1000000 by have := LX.out.1; simp only [Bd.bl] at this; omega)
      clear HD LX LY
      go_wp2_with fail
      have SS := Lib.hid (show ∀ w', Below wr.heap.size wr w' → (fun w' => Below wr.heap.size wr w' ∧ w'.cell? ⟨P, 2, none⟩ = some (.slice x.ag.A x.ag.l.length x.ag.c) ∧ w'.cell? ⟨P, 6, none⟩ = some (.slice y.ag.A y.ag.l.length y.ag.c)) w' from fun w' h => ⟨h, (PB.out.ext h).c 2 _ rfl, (PB.out.ext h).c 6 _ rfl⟩)
      refine rg_begin (S := (fun w' => Below wr.heap.size wr w' ∧ w'.cell? ⟨P, 2, none⟩ = some (.slice x.ag.A x.ag.l.length x.ag.c) ∧ w'.cell? ⟨P, 6, none⟩ = some (.slice y.ag.A y.ag.l.length y.ag.c))) 19 (by kernel_rfl) (by intro d; cases d <;> intro _ _ _ _ h <;> exact h) ?_ (fun Q7 hQ7 hN7 hHeld => ?_)
      · exact SS.out _ (ext_drew (ext_refl _))
      refine rg_take (i := 0) (some 90) (v := ?_) rfl rfl (by kernel_rfl) (by rfl) hQ7 hHeld ?_ ?_
      rotate_left
      · intro w7 hSw; (try dsimp only at hSw); go_simp; all_goals with_reducible rfl
      try simp only [Act.put, List.setIfInBounds_toArray, List.set_cons_zero, List.set_cons_succ]
      refine rg_one (i := 1) (by kernel_rfl) (rg_step rfl (by rfl) (fun K hK => ?_))
      go_simp
      refine (agree_two x y A n c P l _ (PB.out.ext hHeld.1) (PP.out.ext hHeld.1) H2.out).mono ?_
      rintro e u1 ⟨rfl, B1⟩
      go_wp2_with fail
      refine hK.out _ _ ?_ (fun hHeld2 => ?_)
      · exact SS.out _ (ext_trans hHeld.1 B1)
      clear hHeld
      have hHeld := hHeld2
      clear hHeld2
      clear hK K
      try simp only [Act.put, List.setIfInBounds_toArray, List.set_cons_zero, List.set_cons_succ]
      refine rg_take (i := 2) (some 92) (v := ?_) rfl rfl (by kernel_rfl) (by rfl) hQ7 hHeld ?_ ?_
      rotate_left
      · intro w7 hSw; (try dsimp only at hSw); go_simp; all_goals with_reducible rfl
      try simp only [Act.put, List.setIfInBounds_toArray, List.set_cons_zero, List.set_cons_succ]
      refine rg_take (i := 3) (some 93) (v := ?_) rfl rfl (by kernel_rfl) (by rfl) hQ7 hHeld ?_ ?_
      rotate_left
      · intro w7 hSw; (try dsimp only at hSw); go_simp; all_goals with_reducible rfl
      try simp only [Act.put, List.setIfInBounds_toArray, List.set_cons_zero, List.set_cons_succ]
      refine rg_take (i := 4) (some 94) (v := ?_) rfl rfl (by kernel_rfl) (by rfl) hQ7 hHeld ?_ ?_
      rotate_left
      · intro w7 hSw; (try dsimp only at hSw); go_simp; all_goals with_reducible rfl
      try simp only [Act.put, List.setIfInBounds_toArray, List.set_cons_zero, List.set_cons_succ]
      refine rg_take (i := 5) (some 95) (v := ?_) rfl rfl (by kernel_rfl) (by rfl) hQ7 hHeld ?_ ?_
      rotate_left
      · intro w7 hSw; (try dsimp only at hSw); go_simp; all_goals with_reducible rfl
      try simp only [Act.put, List.setIfInBounds_toArray, List.set_cons_zero, List.set_cons_succ]
      refine rg_take (i := 6) (some 96) (v := ?_) rfl rfl (by kernel_rfl) (by rfl) hQ7 hHeld ?_ ?_
      rotate_left
      · intro w7 hSw; (try dsimp only at hSw); go_simp; all_goals with_reducible rfl
      try simp only [Act.put, List.setIfInBounds_toArray, List.set_cons_zero, List.set_cons_succ]
      refine rg_take (i := 7) (some 97) (v := ?_) rfl rfl (by kernel_rfl) (by rfl) hQ7 hHeld ?_ ?_
      rotate_left
      · intro w7 hSw; (try dsimp only at hSw); go_simp; all_goals with_reducible rfl
      try simp only [Act.put, List.setIfInBounds_toArray, List.set_cons_zero, List.set_cons_succ]
      refine rg_take (i := 8) (some 98) (v := ?_) rfl rfl (by kernel_rfl) (by rfl) hQ7 hHeld ?_ ?_
      rotate_left
      · intro w7 hSw; (try dsimp only at hSw); go_simp; all_goals with_reducible rfl
      try simp only [Act.put, List.setIfInBounds_toArray, List.set_cons_zero, List.set_cons_succ]
      refine rg_take (i := 9) (some 99) (v := ?_) rfl rfl (by kernel_rfl) (by rfl) hQ7 hHeld ?_ ?_
      rotate_left
      · intro w7 hSw; (try dsimp only at hSw); go_simp; all_goals with_reducible rfl
      try simp only [Act.put, List.setIfInBounds_toArray, List.set_cons_zero, List.set_cons_succ]
      refine rg_take (i := 10) (some 100) (v := ?_) rfl rfl (by kernel_rfl) (by rfl) hQ7 hHeld ?_ ?_
      rotate_left
      · intro w7 hSw; (try dsimp only at hSw); go_simp; all_goals with_reducible rfl
      try simp only [Act.put, List.setIfInBounds_toArray, List.set_cons_zero, List.set_cons_succ]
      refine rg_take (i := 11) (some 101) (v := ?_) rfl rfl (by kernel_rfl) (by rfl) hQ7 hHeld ?_ ?_
      rotate_left
      · intro w7 hSw; (try dsimp only at hSw); go_simp; all_goals with_reducible rfl
      try simp only [Act.put, List.setIfInBounds_toArray, List.set_cons_zero, List.set_cons_succ]
      refine rg_take (i := 12) (some 102) (v := ?_) rfl rfl (by kernel_rfl) (by rfl) hQ7 hHeld ?_ ?_
      rotate_left
      · intro w7 hSw; (try dsimp only at hSw); go_simp; all_goals with_reducible rfl
      try simp only [Act.put, List.setIfInBounds_toArray, List.set_cons_zero, List.set_cons_succ]
      refine rg_take (i := 13) (some 103) (v := ?_) rfl rfl (by kernel_rfl) (by rfl) hQ7 hHeld ?_ ?_
      rotate_left
      · intro w7 hSw; (try dsimp only at hSw); go_simp; all_goals with_reducible rfl
      try simp only [Act.put, List.setIfInBounds_toArray, List.set_cons_zero, List.set_cons_succ]
      refine rg_take (i := 14) (some 104) (v := ?_) rfl rfl (by kernel_rfl) (by rfl) hQ7 hHeld ?_ ?_
      rotate_left
      · intro w7 hSw; (try dsimp only at hSw); go_simp; all_goals with_reducible rfl
      try simp only [Act.put, List.setIfInBounds_toArray, List.set_cons_zero, List.set_cons_succ]
      refine rg_take (i := 15) (some 105) (v := ?_) rfl rfl (by kernel_rfl) (by rfl) hQ7 hHeld ?_ ?_
      rotate_left
      · intro w7 hSw; (try dsimp only at hSw); go_simp; all_goals with_reducible rfl
      try simp only [Act.put, List.setIfInBounds_toArray, List.set_cons_zero, List.set_cons_succ]
      refine rg_one (i := 16) (by kernel_rfl) (rg_step rfl (by rfl) (fun K hK => ?_))
      go_simp
      refine (sameAg true (by rw [HXY.out]; simp) rfl rfl (PP.out.hx.ag.ext hHeld.1) (PP.out.hy.ag.ext hHeld.1) HL6.out).mono ?_
      rintro e u2 ⟨rfl, B2⟩
      go_wp2_with fail
      refine hK.out _ _ ?_ (fun hHeld2 => ?_)
      · exact SS.out _ (ext_trans hHeld.1 B2)
      clear hHeld
      have hHeld := hHeld2
      clear hHeld2
      clear hK K
      try simp only [Act.put, List.setIfInBounds_toArray, List.set_cons_zero, List.set_cons_succ]
      refine rg_take (i := 17) (some 107) (v := ?_) rfl rfl (by kernel_rfl) (by rfl) hQ7 hHeld ?_ ?_
      rotate_left
      · intro w7 hSw; (try dsimp only at hSw); go_simp; all_goals with_reducible rfl
      try simp only [Act.put, List.setIfInBounds_toArray, List.set_cons_zero, List.set_cons_succ]
      refine rg_take (i := 18) (some 108) (v := ?_) rfl rfl (by kernel_rfl) (by rfl) hQ7 hHeld ?_ ?_
      rotate_left
      · intro w7 hSw; (try dsimp only at hSw); go_simp; all_goals with_reducible rfl
      try simp only [Act.put, List.setIfInBounds_toArray, List.set_cons_zero, List.set_cons_succ]
      refine rg_end (by kernel_rfl) (hN7 _ _ ?_) _
      clear hQ7 hN7 Q7
      have BX := hHeld.1
      clear SS
      replace PB := Lib.hid (PB.out.ext BX)
      replace PP := Lib.hid (PP.out.ext BX)
      replace E := Lib.hid (ext_trans E.out BX)
      clear BX H2 hlt hge hk
      go_wp2_with fail
      go_loopw [111] (fun i wr => ∃ k : Nat, k ≤ S.length ∧ i = .int .i64 k ∧ Hid (Blk wr P (Pc x y A n c)) ∧ Hid (PR wr P x y A n c l) ∧ Hid (Below w.heap.size w wr)) (fun i _ => S.length - (intOf i).toNat)
      case atStart => exact ⟨0, Nat.zero_le _, rfl, PB.out, PP.out, E.out⟩
      clear PB PP E
      case round =>
        obtain ⟨k, hk, rfl, PB, PP, E⟩ := hrel
        by_cases hlt : k < S.length
        rotate_left
        · have hge : ¬ (k : Int) < S.length := by omega
          go_wp2_with fail
          go_ret
          exact ⟨rfl, E.out⟩
        have hlt1 : (k : Int) < S.length := by omega
        obtain ⟨s, b1, o1, hx1, rfl, hb1, hd⟩ := (HS0.out.ext E.out).at_ hlt
        have HM := Lib.hid (List.mem_of_getElem? hx1)
        have d0 := hd 0 _ rfl
        have d1 := hd 1 _ rfl
        have d2 := hd 2 _ rfl
        have d3 := hd 3 _ rfl
        have d4 := hd 4 _ rfl
        have d5 := hd 5 _ rfl
        simp only [Nat.add_zero] at d0
        clear hd hx1
        replace PB := Lib.hid (PB.out.alloc (.cells #[.int .u8 s.k, .int .u8 s.si, .int .u8 s.n, .bool s.back, .int .i64 s.mi, .int .i64 s.ra] 50))
        replace PP := Lib.hid (PP.out.alloc (.cells #[.int .u8 s.k, .int .u8 s.si, .int .u8 s.n, .bool s.back, .int .i64 s.mi, .int .i64 s.ra] 50))
        replace E := Lib.hid (ext_alloc E.out (.cells #[.int .u8 s.k, .int .u8 s.si, .int .u8 s.n, .bool s.back, .int .i64 s.mi, .int .i64 s.ra] 50))
        have SX := Lib.hid (Blk.newH wr [.int .u8 s.k, .int .u8 s.si, .int .u8 s.n, .bool s.back, .int .i64 s.mi, .int .i64 s.ra] 50 (wr.heap.size) (by first | rfl | simp))
        replace PB := Lib.hid (PB.out.alloc (.cells #[.int .i64 lo, .int .i64 hi, .int .i64 hi, .int .i64 lo] 56))
        replace PP := Lib.hid (PP.out.alloc (.cells #[.int .i64 lo, .int .i64 hi, .int .i64 hi, .int .i64 lo] 56))
        replace E := Lib.hid (ext_alloc E.out (.cells #[.int .i64 lo, .int .i64 hi, .int .i64 hi, .int .i64 lo] 56))
        replace SX := Lib.hid (SX.out.alloc (.cells #[.int .i64 lo, .int .i64 hi, .int .i64 hi, .int .i64 lo] 56))
        have WW := Lib.hid (Blk.newH (wr.alloc (.cells #[.int .u8 s.k, .int .u8 s.si, .int .u8 s.n, .bool s.back, .int .i64 s.mi, .int .i64 s.ra] 50)) [.int .i64 lo, .int .i64 hi, .int .i64 hi, .int .i64 lo] 56 (wr.heap.size + 1) (by first | rfl | simp))
        go_wp2_with fail
        clear hb1 d0 d1 d2 d3 d4 d5
        obtain ⟨sW, hsW⟩ : ∃ s, s = wr.heap.size + 1 := ⟨_, rfl⟩
        rw [← hsW] at WW ⊢
        clear hsW
        obtain ⟨sS, hsS⟩ : ∃ s, s = wr.heap.size := ⟨_, rfl⟩
        rw [← hsS] at SX ⊢
        clear hsS
        obtain ⟨zW, hNzW⟩ : ∃ W0, W0 = ((wr.alloc (.cells #[.int .u8 s.k, .int .u8 s.si, .int .u8 s.n, .bool s.back, .int .i64 s.mi, .int .i64 s.ra] 50)).alloc (.cells #[.int .i64 lo, .int .i64 hi, .int .i64 hi, .int .i64 lo] 56)) := ⟨_, rfl⟩
        rw [← hNzW] at PB PP E SX WW ⊢
        clear hNzW
        have SW : Hid (Slc zW Wy.cells 2 (some ⟨sW, 0, none⟩) [⟨lo, hi⟩, ⟨hi, lo⟩]) := by
          intro i y hy
          have hl := WW.out.lt
          match i, hy with
          | 0, hy => cases hy; exact ⟨_, 0, rfl, hl, fun j v hj => by match j, hj with | 0, hj => exact WW.out.c 0 _ hj | 1, hj => exact WW.out.c 1 _ hj⟩
          | 1, hy => cases hy; exact ⟨_, 0, rfl, hl, fun j v hj => by match j, hj with | 0, hj => exact WW.out.c 2 _ hj | 1, hj => exact WW.out.c 3 _ hj⟩
        clear WW
        go_loopw [123] (fun i wr => ∃ kw : Nat, kw ≤ 2 ∧ i = .int .i64 kw ∧ Hid (Blk wr P (Pc x y A n c)) ∧ Hid (PR wr P x y A n c l) ∧ Hid (Below w.heap.size w wr) ∧ Hid (Blk wr sS [.int .u8 s.k, .int .u8 s.si, .int .u8 s.n, .bool s.back, .int .i64 s.mi, .int .i64 s.ra]) ∧ Hid (Slc wr Wy.cells 2 (some ⟨sW, 0, none⟩) [⟨lo, hi⟩, ⟨hi, lo⟩])) (fun i _ => 2 - (intOf i).toNat)
        case atStart => exact ⟨0, Nat.zero_le _, rfl, PB.out, PP.out, E.out, SX.out, SW.out⟩
        clear PB PP E SX SW
        case round =>
          obtain ⟨kw, hkw, rfl, PB, PP, E, SX, SW⟩ := hrel
          by_cases hlkw : kw < 2
          rotate_left
          · have hge : ¬ (kw : Int) < 2 := by omega
            go_wp2_with fail
            go_roundw
            case rel => exact ⟨k + 1, by omega, by go_num, PB.out, PP.out, E.out⟩
            case measure => simp [intOf]; omega
          have hkw1 : (kw : Int) < 2 := by omega
          obtain ⟨f, b1, o1, hx1, hA, hb1, hd⟩ := SW.out.at_ hlkw
          cases hA
          have d0 := hd 0 _ rfl
          have d1 := hd 1 _ rfl
          simp only [Nat.add_zero, Nat.zero_add] at d0 d1
          clear hd hx1
          replace PB := Lib.hid (PB.out.alloc (.cells #[.int .i64 f.a, .int .i64 f.b] 56))
          replace PP := Lib.hid (PP.out.alloc (.cells #[.int .i64 f.a, .int .i64 f.b] 56))
          replace E := Lib.hid (ext_alloc E.out (.cells #[.int .i64 f.a, .int .i64 f.b] 56))
          replace SX := Lib.hid (SX.out.alloc (.cells #[.int .i64 f.a, .int .i64 f.b] 56))
          replace SW := Lib.hid (SW.out.alloc (.cells #[.int .i64 f.a, .int .i64 f.b] 56))
          have WX := Lib.hid (Blk.newH wr [.int .i64 f.a, .int .i64 f.b] 56 (wr.heap.size) (by first | rfl | simp))
          go_wp2_with fail
          clear hb1 d0 d1
          obtain ⟨sX, hsX⟩ : ∃ s, s = wr.heap.size := ⟨_, rfl⟩
          rw [← hsX] at WX ⊢
          clear hsX
          obtain ⟨zX, hNzX⟩ : ∃ W0, W0 = (wr.alloc (.cells #[.int .i64 f.a, .int .i64 f.b] 56)) := ⟨_, rfl⟩
          rw [← hNzX] at PB PP E SX SW WX ⊢
          clear hNzX
          go_loopw [20] (fun i wr => ∃ d : Int, (-1 ≤ d ∧ d ≤ 2) ∧ i = .int .i64 d ∧ Hid (Blk wr P (Pc x y A n c)) ∧ Hid (PR wr P x y A n c l) ∧ Hid (Below w.heap.size w wr) ∧ Hid (Blk wr sS [.int .u8 s.k, .int .u8 s.si, .int .u8 s.n, .bool s.back, .int .i64 s.mi, .int .i64 s.ra]) ∧ Hid (Slc wr Wy.cells 2 (some ⟨sW, 0, none⟩) [⟨lo, hi⟩, ⟨hi, lo⟩]) ∧ Hid (Blk wr sX [.int .i64 f.a, .int .i64 f.b])) (fun i _ => (2 - intOf i).toNat)
          case atStart => exact ⟨-1, by decide, rfl, PB.out, PP.out, E.out, SX.out, SW.out, WX.out⟩
          clear PB PP E SX SW WX
          case round =>
            obtain ⟨d, ⟨hd1, hd2⟩, rfl, PB, PP, E, SX, SW, WX⟩ := hrel
            by_cases hdl : d ≤ 1
            rotate_left
            · have hdd : ¬ d ≤ 1 := hdl
              go_wp2_with fail
              go_roundw
              case rel => exact ⟨kw + 1, by omega, by go_num, PB.out, PP.out, E.out, SX.out, SW.out⟩
              case measure => simp [intOf]; omega
            obtain ⟨md, hmd⟩ : ∃ v, IntKind.i64.wrap (s.mi + d) = v := ⟨_, rfl⟩
            obtain ⟨o, ho⟩ : ∃ o, rateL x.ag.l f.a f.b md = o := ⟨_, rfl⟩
            have HOX := Lib.hid ho
            have HOY := Lib.hid (show rateL y.ag.l f.a f.b md = o by rw [← HXY.out]; exact ho)
            obtain ⟨rv, hrv⟩ : ∃ v, rateV o = v := ⟨_, rfl⟩
            obtain ⟨sb, hsb⟩ : ∃ v, o.isSome = v := ⟨_, rfl⟩
            clear ho
            go_wp2_with fail
            have SS := Lib.hid (show ∀ w', Below wr.heap.size wr w' → (fun w' => Below wr.heap.size wr w' ∧ w'.cell? ⟨P, 0, none⟩ = some (.int .i64 x.own) ∧ w'.cell? ⟨P, 1, none⟩ = some (.int .i64 x.ot) ∧ w'.cell? ⟨P, 2, none⟩ = some (.slice x.ag.A x.ag.l.length x.ag.c) ∧ w'.cell? ⟨P, 3, none⟩ = some (.slice x.op.A x.op.l.length x.op.c) ∧ w'.cell? ⟨sX, 0, none⟩ = some (.int .i64 f.a) ∧ w'.cell? ⟨sX, 1, none⟩ = some (.int .i64 f.b) ∧ w'.cell? ⟨sS, 4, none⟩ = some (.int .i64 s.mi)) w' from fun w' h => ⟨h, (PB.out.ext h).c 0 _ rfl, (PB.out.ext h).c 1 _ rfl, (PB.out.ext h).c 2 _ rfl, (PB.out.ext h).c 3 _ rfl, (WX.out.ext h).c 0 _ rfl, (WX.out.ext h).c 1 _ rfl, (SX.out.ext h).c 4 _ rfl⟩)
            refine rg_begin (S := (fun w' => Below wr.heap.size wr w' ∧ w'.cell? ⟨P, 0, none⟩ = some (.int .i64 x.own) ∧ w'.cell? ⟨P, 1, none⟩ = some (.int .i64 x.ot) ∧ w'.cell? ⟨P, 2, none⟩ = some (.slice x.ag.A x.ag.l.length x.ag.c) ∧ w'.cell? ⟨P, 3, none⟩ = some (.slice x.op.A x.op.l.length x.op.c) ∧ w'.cell? ⟨sX, 0, none⟩ = some (.int .i64 f.a) ∧ w'.cell? ⟨sX, 1, none⟩ = some (.int .i64 f.b) ∧ w'.cell? ⟨sS, 4, none⟩ = some (.int .i64 s.mi))) 19 (by kernel_rfl) (by intro d; cases d <;> intro _ _ _ _ h <;> exact h) ?_ (fun Q7 hQ7 hN7 hHeld => ?_)
            · exact SS.out _ (ext_drew (ext_refl _))
            refine rg_take (i := 0) (some 132) (v := ?_) rfl rfl (by kernel_rfl) (by rfl) hQ7 hHeld ?_ ?_
            rotate_left
            · intro w7 hSw; (try dsimp only at hSw); go_simp; all_goals with_reducible rfl
            try simp only [Act.put, List.setIfInBounds_toArray, List.set_cons_zero, List.set_cons_succ]
            refine rg_take (i := 1) (some 133) (v := ?_) rfl rfl (by kernel_rfl) (by rfl) hQ7 hHeld ?_ ?_
            rotate_left
            · intro w7 hSw; (try dsimp only at hSw); go_simp; all_goals with_reducible rfl
            try simp only [Act.put, List.setIfInBounds_toArray, List.set_cons_zero, List.set_cons_succ]
            refine rg_take (i := 2) (some 134) (v := ?_) rfl rfl (by kernel_rfl) (by rfl) hQ7 hHeld ?_ ?_
            rotate_left
            · intro w7 hSw; (try dsimp only at hSw); go_simp; all_goals with_reducible rfl
            try simp only [Act.put, List.setIfInBounds_toArray, List.set_cons_zero, List.set_cons_succ]
            refine rg_take (i := 3) (some 135) (v := ?_) rfl rfl (by kernel_rfl) (by rfl) hQ7 hHeld ?_ ?_
            rotate_left
            · intro w7 hSw; (try dsimp only at hSw); go_simp; all_goals with_reducible rfl
            try simp only [Act.put, List.setIfInBounds_toArray, List.set_cons_zero, List.set_cons_succ]
            refine rg_take (i := 4) (some 136) (v := ?_) rfl rfl (by kernel_rfl) (by rfl) hQ7 hHeld ?_ ?_
            rotate_left
            · intro w7 hSw; (try dsimp only at hSw); go_simp; all_goals with_reducible rfl
            try simp only [Act.put, List.setIfInBounds_toArray, List.set_cons_zero, List.set_cons_succ]
            refine rg_take (i := 5) (some 137) (v := ?_) rfl rfl (by kernel_rfl) (by rfl) hQ7 hHeld ?_ ?_
            rotate_left
            · intro w7 hSw; (try dsimp only at hSw); go_simp; all_goals with_reducible rfl
            try simp only [Act.put, List.setIfInBounds_toArray, List.set_cons_zero, List.set_cons_succ]
            refine rg_take (i := 6) (some 138) (v := ?_) rfl rfl (by kernel_rfl) (by rfl) hQ7 hHeld ?_ ?_
            rotate_left
            · intro w7 hSw; (try dsimp only at hSw); go_simp; all_goals with_reducible rfl
            try simp only [Act.put, List.setIfInBounds_toArray, List.set_cons_zero, List.set_cons_succ]
            refine rg_take (i := 7) (some 139) (v := ?_) rfl rfl (by kernel_rfl) (by rfl) hQ7 hHeld ?_ ?_
            rotate_left
            · intro w7 hSw; (try dsimp only at hSw); go_simp; all_goals with_reducible rfl
            try simp only [Act.put, List.setIfInBounds_toArray, List.set_cons_zero, List.set_cons_succ]
            refine rg_take (i := 8) (some 140) (v := ?_) rfl rfl (by kernel_rfl) (by rfl) hQ7 hHeld ?_ ?_
            rotate_left
            · intro w7 hSw; (try dsimp only at hSw); go_simp; all_goals with_reducible rfl
            try simp only [Act.put, List.setIfInBounds_toArray, List.set_cons_zero, List.set_cons_succ]
            refine rg_take (i := 9) (some 141) (v := ?_) rfl rfl (by kernel_rfl) (by rfl) hQ7 hHeld ?_ ?_
            rotate_left
            · intro w7 hSw; (try dsimp only at hSw); go_simp; all_goals with_reducible rfl
            try simp only [Act.put, List.setIfInBounds_toArray, List.set_cons_zero, List.set_cons_succ]
            refine rg_take (i := 10) (some 142) (v := ?_) rfl rfl (by kernel_rfl) (by rfl) hQ7 hHeld ?_ ?_
            rotate_left
            · intro w7 hSw; (try dsimp only at hSw); go_simp; all_goals with_reducible rfl
            try simp only [Act.put, List.setIfInBounds_toArray, List.set_cons_zero, List.set_cons_succ]
            refine rg_take (i := 11) (some 143) (v := ?_) rfl rfl (by kernel_rfl) (by rfl) hQ7 hHeld ?_ ?_
            rotate_left
            · intro w7 hSw; (try dsimp only at hSw); go_simp; all_goals with_reducible rfl
            try simp only [Act.put, List.setIfInBounds_toArray, List.set_cons_zero, List.set_cons_succ]
            refine rg_take (i := 12) (some 144) (v := ?_) rfl rfl (by kernel_rfl) (by rfl) hQ7 hHeld ?_ ?_
            rotate_left
            · intro w7 hSw; (try dsimp only at hSw); go_simp; all_goals with_reducible rfl
            try simp only [Act.put, List.setIfInBounds_toArray, List.set_cons_zero, List.set_cons_succ]
            refine rg_one (i := 13) (by kernel_rfl) (rg_step rfl (by rfl) (fun K hK => ?_))
            go_simp
            refine (rate_at (b := x) (f := f.a) (t := f.b) (m := md) o HOX.out (PP.out.hx.ag.ext hHeld.1) (maxLen_of PP.out.hx.agl PP.out.hx.agc)).mono ?_
            rintro e g1 ⟨rfl, B1⟩
            go_wp2_with fail
            refine hK.out _ _ ?_ (fun hHeld2 => ?_)
            · exact SS.out _ (ext_trans hHeld.1 B1)
            clear hHeld
            have hHeld := hHeld2
            clear hHeld2
            clear hK K
            try simp only [Act.put, List.setIfInBounds_toArray, List.set_cons_zero, List.set_cons_succ]
            refine rg_take (i := 14) (some 131) (v := ?_) rfl rfl (by kernel_rfl) (by rfl) hQ7 hHeld ?_ ?_
            rotate_left
            · intro w7 hSw; (try dsimp only at hSw); go_simp; all_goals with_reducible rfl
            try simp only [Act.put, List.setIfInBounds_toArray, List.set_cons_zero, List.set_cons_succ]
            refine rg_take (i := 15) (some 146) (v := ?_) rfl rfl (by kernel_rfl) (by rfl) hQ7 hHeld ?_ ?_
            rotate_left
            · intro w7 hSw; (try dsimp only at hSw); go_simp; all_goals with_reducible rfl
            try simp only [Act.put, List.setIfInBounds_toArray, List.set_cons_zero, List.set_cons_succ]
            refine rg_take (i := 16) (some 147) (v := ?_) rfl rfl (by kernel_rfl) (by rfl) hQ7 hHeld ?_ ?_
            rotate_left
            · intro w7 hSw; (try dsimp only at hSw); go_simp; all_goals with_reducible rfl
            try simp only [Act.put, List.setIfInBounds_toArray, List.set_cons_zero, List.set_cons_succ]
            refine rg_take (i := 17) (some 21) (v := ?_) rfl rfl (by kernel_rfl) (by rfl) hQ7 hHeld ?_ ?_
            rotate_left
            · intro w7 hSw; (try dsimp only at hSw); go_simp; all_goals with_reducible rfl
            try simp only [Act.put, List.setIfInBounds_toArray, List.set_cons_zero, List.set_cons_succ]
            refine rg_take (i := 18) (some 22) (v := ?_) rfl rfl (by kernel_rfl) (by rfl) hQ7 hHeld ?_ ?_
            rotate_left
            · intro w7 hSw; (try dsimp only at hSw); go_simp; all_goals with_reducible rfl
            try simp only [Act.put, List.setIfInBounds_toArray, List.set_cons_zero, List.set_cons_succ]
            refine rg_end (by kernel_rfl) (hN7 _ _ ?_) _
            clear hQ7 hN7 Q7
            have BX := hHeld.1
            clear SS
            replace PB := Lib.hid (PB.out.ext BX)
            replace PP := Lib.hid (PP.out.ext BX)
            replace E := Lib.hid (ext_trans E.out BX)
            replace SX := Lib.hid (SX.out.ext BX)
            replace SW := Lib.hid (SW.out.ext BX)
            replace WX := Lib.hid (WX.out.ext BX)
            clear BX
            go_wp2_with fail
            have SS := Lib.hid (show ∀ w', Below g1.heap.size g1 w' → (fun w' => Below g1.heap.size g1 w' ∧ w'.cell? ⟨P, 4, none⟩ = some (.int .i64 y.own) ∧ w'.cell? ⟨P, 5, none⟩ = some (.int .i64 y.ot) ∧ w'.cell? ⟨P, 6, none⟩ = some (.slice y.ag.A y.ag.l.length y.ag.c) ∧ w'.cell? ⟨P, 7, none⟩ = some (.slice y.op.A y.op.l.length y.op.c) ∧ w'.cell? ⟨sX, 0, none⟩ = some (.int .i64 f.a) ∧ w'.cell? ⟨sX, 1, none⟩ = some (.int .i64 f.b) ∧ w'.cell? ⟨sS, 4, none⟩ = some (.int .i64 s.mi)) w' from fun w' h => ⟨h, (PB.out.ext h).c 4 _ rfl, (PB.out.ext h).c 5 _ rfl, (PB.out.ext h).c 6 _ rfl, (PB.out.ext h).c 7 _ rfl, (WX.out.ext h).c 0 _ rfl, (WX.out.ext h).c 1 _ rfl, (SX.out.ext h).c 4 _ rfl⟩)
            refine rg_begin (S := (fun w' => Below g1.heap.size g1 w' ∧ w'.cell? ⟨P, 4, none⟩ = some (.int .i64 y.own) ∧ w'.cell? ⟨P, 5, none⟩ = some (.int .i64 y.ot) ∧ w'.cell? ⟨P, 6, none⟩ = some (.slice y.ag.A y.ag.l.length y.ag.c) ∧ w'.cell? ⟨P, 7, none⟩ = some (.slice y.op.A y.op.l.length y.op.c) ∧ w'.cell? ⟨sX, 0, none⟩ = some (.int .i64 f.a) ∧ w'.cell? ⟨sX, 1, none⟩ = some (.int .i64 f.b) ∧ w'.cell? ⟨sS, 4, none⟩ = some (.int .i64 s.mi))) 19 (by kernel_rfl) (by intro d; cases d <;> intro _ _ _ _ h <;> exact h) ?_ (fun Q7 hQ7 hN7 hHeld => ?_)
            · exact SS.out _ (ext_drew (ext_refl _))
            refine rg_take (i := 0) (some 149) (v := ?_) rfl rfl (by kernel_rfl) (by rfl) hQ7 hHeld ?_ ?_
            rotate_left
            · intro w7 hSw; (try dsimp only at hSw); go_simp; all_goals with_reducible rfl
            try simp only [Act.put, List.setIfInBounds_toArray, List.set_cons_zero, List.set_cons_succ]
            refine rg_take (i := 1) (some 150) (v := ?_) rfl rfl (by kernel_rfl) (by rfl) hQ7 hHeld ?_ ?_
            rotate_left
            · intro w7 hSw; (try dsimp only at hSw); go_simp; all_goals with_reducible rfl
            try simp only [Act.put, List.setIfInBounds_toArray, List.set_cons_zero, List.set_cons_succ]
            refine rg_take (i := 2) (some 151) (v := ?_) rfl rfl (by kernel_rfl) (by rfl) hQ7 hHeld ?_ ?_
            rotate_left
            · intro w7 hSw; (try dsimp only at hSw); go_simp; all_goals with_reducible rfl
            try simp only [Act.put, List.setIfInBounds_toArray, List.set_cons_zero, List.set_cons_succ]
            refine rg_take (i := 3) (some 152) (v := ?_) rfl rfl (by kernel_rfl) (by rfl) hQ7 hHeld ?_ ?_
            rotate_left
            · intro w7 hSw; (try dsimp only at hSw); go_simp; all_goals with_reducible rfl
            try simp only [Act.put, List.setIfInBounds_toArray, List.set_cons_zero, List.set_cons_succ]
            refine rg_take (i := 4) (some 153) (v := ?_) rfl rfl (by kernel_rfl) (by rfl) hQ7 hHeld ?_ ?_
            rotate_left
            · intro w7 hSw; (try dsimp only at hSw); go_simp; all_goals with_reducible rfl
            try simp only [Act.put, List.setIfInBounds_toArray, List.set_cons_zero, List.set_cons_succ]
            refine rg_take (i := 5) (some 154) (v := ?_) rfl rfl (by kernel_rfl) (by rfl) hQ7 hHeld ?_ ?_
            rotate_left
            · intro w7 hSw; (try dsimp only at hSw); go_simp; all_goals with_reducible rfl
            try simp only [Act.put, List.setIfInBounds_toArray, List.set_cons_zero, List.set_cons_succ]
            refine rg_take (i := 6) (some 155) (v := ?_) rfl rfl (by kernel_rfl) (by rfl) hQ7 hHeld ?_ ?_
            rotate_left
            · intro w7 hSw; (try dsimp only at hSw); go_simp; all_goals with_reducible rfl
            try simp only [Act.put, List.setIfInBounds_toArray, List.set_cons_zero, List.set_cons_succ]
            refine rg_take (i := 7) (some 156) (v := ?_) rfl rfl (by kernel_rfl) (by rfl) hQ7 hHeld ?_ ?_
            rotate_left
            · intro w7 hSw; (try dsimp only at hSw); go_simp; all_goals with_reducible rfl
            try simp only [Act.put, List.setIfInBounds_toArray, List.set_cons_zero, List.set_cons_succ]
            refine rg_take (i := 8) (some 157) (v := ?_) rfl rfl (by kernel_rfl) (by rfl) hQ7 hHeld ?_ ?_
            rotate_left
            · intro w7 hSw; (try dsimp only at hSw); go_simp; all_goals with_reducible rfl
            try simp only [Act.put, List.setIfInBounds_toArray, List.set_cons_zero, List.set_cons_succ]
            refine rg_take (i := 9) (some 158) (v := ?_) rfl rfl (by kernel_rfl) (by rfl) hQ7 hHeld ?_ ?_
            rotate_left
            · intro w7 hSw; (try dsimp only at hSw); go_simp; all_goals with_reducible rfl
            try simp only [Act.put, List.setIfInBounds_toArray, List.set_cons_zero, List.set_cons_succ]
            refine rg_take (i := 10) (some 159) (v := ?_) rfl rfl (by kernel_rfl) (by rfl) hQ7 hHeld ?_ ?_
            rotate_left
            · intro w7 hSw; (try dsimp only at hSw); go_simp; all_goals with_reducible rfl
            try simp only [Act.put, List.setIfInBounds_toArray, List.set_cons_zero, List.set_cons_succ]
            refine rg_take (i := 11) (some 160) (v := ?_) rfl rfl (by kernel_rfl) (by rfl) hQ7 hHeld ?_ ?_
            rotate_left
            · intro w7 hSw; (try dsimp only at hSw); go_simp; all_goals with_reducible rfl
            try simp only [Act.put, List.setIfInBounds_toArray, List.set_cons_zero, List.set_cons_succ]
            refine rg_take (i := 12) (some 161) (v := ?_) rfl rfl (by kernel_rfl) (by rfl) hQ7 hHeld ?_ ?_
            rotate_left
            · intro w7 hSw; (try dsimp only at hSw); go_simp; all_goals with_reducible rfl
            try simp only [Act.put, List.setIfInBounds_toArray, List.set_cons_zero, List.set_cons_succ]
            refine rg_one (i := 13) (by kernel_rfl) (rg_step rfl (by rfl) (fun K hK => ?_))
            go_simp
            refine (rate_at (b := y) (f := f.a) (t := f.b) (m := md) o HOY.out (PP.out.hy.ag.ext hHeld.1) (maxLen_of PP.out.hy.agl PP.out.hy.agc)).mono ?_
            rintro e g2 ⟨rfl, B1⟩
            go_wp2_with fail
            refine hK.out _ _ ?_ (fun hHeld2 => ?_)
            · exact SS.out _ (ext_trans hHeld.1 B1)
            clear hHeld
            have hHeld := hHeld2
            clear hHeld2
            clear hK K
            try simp only [Act.put, List.setIfInBounds_toArray, List.set_cons_zero, List.set_cons_succ]
            refine rg_take (i := 14) (some 148) (v := ?_) rfl rfl (by kernel_rfl) (by rfl) hQ7 hHeld ?_ ?_
            rotate_left
            · intro w7 hSw; (try dsimp only at hSw); go_simp; all_goals with_reducible rfl
            try simp only [Act.put, List.setIfInBounds_toArray, List.set_cons_zero, List.set_cons_succ]
            refine rg_take (i := 15) (some 163) (v := ?_) rfl rfl (by kernel_rfl) (by rfl) hQ7 hHeld ?_ ?_
            rotate_left
            · intro w7 hSw; (try dsimp only at hSw); go_simp; all_goals with_reducible rfl
            try simp only [Act.put, List.setIfInBounds_toArray, List.set_cons_zero, List.set_cons_succ]
            refine rg_take (i := 16) (some 164) (v := ?_) rfl rfl (by kernel_rfl) (by rfl) hQ7 hHeld ?_ ?_
            rotate_left
            · intro w7 hSw; (try dsimp only at hSw); go_simp; all_goals with_reducible rfl
            try simp only [Act.put, List.setIfInBounds_toArray, List.set_cons_zero, List.set_cons_succ]
            refine rg_take (i := 17) (some 23) (v := ?_) rfl rfl (by kernel_rfl) (by rfl) hQ7 hHeld ?_ ?_
            rotate_left
            · intro w7 hSw; (try dsimp only at hSw); go_simp; all_goals with_reducible rfl
            try simp only [Act.put, List.setIfInBounds_toArray, List.set_cons_zero, List.set_cons_succ]
            refine rg_take (i := 18) (some 24) (v := ?_) rfl rfl (by kernel_rfl) (by rfl) hQ7 hHeld ?_ ?_
            rotate_left
            · intro w7 hSw; (try dsimp only at hSw); go_simp; all_goals with_reducible rfl
            try simp only [Act.put, List.setIfInBounds_toArray, List.set_cons_zero, List.set_cons_succ]
            refine rg_end (by kernel_rfl) (hN7 _ _ ?_) _
            clear hQ7 hN7 Q7
            have BX := hHeld.1
            clear SS
            replace PB := Lib.hid (PB.out.ext BX)
            replace PP := Lib.hid (PP.out.ext BX)
            replace E := Lib.hid (ext_trans E.out BX)
            replace SX := Lib.hid (SX.out.ext BX)
            replace SW := Lib.hid (SW.out.ext BX)
            replace WX := Lib.hid (WX.out.ext BX)
            clear BX
            cases sb
            all_goals (
              go_wp2_with fail
              go_roundw
              case rel => exact ⟨d + 1, by omega, by go_num, PB.out, PP.out, E.out, SX.out, SW.out, WX.out⟩
              case measure => simp [intOf]; omega)
end Go.Proofs.Ytmnbeikhjbjpiaa
