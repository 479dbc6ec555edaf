/- Law 6: more radar and fewer cuts mean no less capacity. -/
import Derived.Test.YtilocjliplmmpaaQo
set_option linter.unusedSimpArgs false
set_option linter.unusedVariables false
namespace Go.Proofs.Ytilocjliplmmpaa
open Go.RowKit
set_option maxRecDepth 100000 in
set_option maxHeartbeats 64000000 in
theorem law6 (t : Tab) (tA : Option Addr) (tc : Nat) (tree : List Nd) (leaf : Int) (A : Option Addr) (c : Nat) (l : List Chg) (sA : Option Addr) (sc : Nat) (seen : List Bool) (z : Cel) (mo : Int) (w : World)
    (ht : Tab.ok w t) (htr : TOk w tA tree) (hs : SOk w A l) (hse : Slc w bc 1 sA seen) (hsel : seen.length ≤ maxLen) (hmo : 0 ≤ mo) (hmo2 : mo < 18446744073709551616) :
    Calls Try.prog 6 #[t.v, .slice tA tree.length tc, .int .i64 leaf, .agg #[.slice A l.length c], .slice sA seen.length sc, z.v, .int .u64 mo] w (Tru w) := by
  obtain ⟨sn, hsn⟩ : ∃ n, seen.length = n := ⟨_, rfl⟩
  have HSN := Lib.hid hsn
  rw [hsn]
  have HSL := Lib.hid hsel
  clear hsn hsel
  have E := Lib.hid (ext_refl w)
  have HT := Lib.hid (ht)
  have HTR := Lib.hid (htr)
  have HS := Lib.hid (hs)
  have HB := Lib.hid (hse)
  clear ht htr hs hse
  replace E := Lib.hid (ext_alloc E.out (.cells #[.int .i64 t.n, .slice t.ss.A t.ss.l.length t.ss.c, .slice t.cs.A t.cs.l.length t.cs.c, .slice t.ws.A t.ws.l.length t.ws.c, .slice t.ms.A t.ms.l.length t.ms.c, .slice t.ks.A t.ks.l.length t.ks.c] 28))
  replace HT := Lib.hid (HT.out.alloc (.cells #[.int .i64 t.n, .slice t.ss.A t.ss.l.length t.ss.c, .slice t.cs.A t.cs.l.length t.cs.c, .slice t.ws.A t.ws.l.length t.ws.c, .slice t.ms.A t.ms.l.length t.ms.c, .slice t.ks.A t.ks.l.length t.ks.c] 28))
  replace HTR := Lib.hid (HTR.out.alloc (.cells #[.int .i64 t.n, .slice t.ss.A t.ss.l.length t.ss.c, .slice t.cs.A t.cs.l.length t.cs.c, .slice t.ws.A t.ws.l.length t.ws.c, .slice t.ms.A t.ms.l.length t.ms.c, .slice t.ks.A t.ks.l.length t.ks.c] 28))
  replace HS := Lib.hid (HS.out.alloc (.cells #[.int .i64 t.n, .slice t.ss.A t.ss.l.length t.ss.c, .slice t.cs.A t.cs.l.length t.cs.c, .slice t.ws.A t.ws.l.length t.ws.c, .slice t.ms.A t.ms.l.length t.ms.c, .slice t.ks.A t.ks.l.length t.ks.c] 28))
  replace HB := Lib.hid (HB.out.alloc (.cells #[.int .i64 t.n, .slice t.ss.A t.ss.l.length t.ss.c, .slice t.cs.A t.cs.l.length t.cs.c, .slice t.ws.A t.ws.l.length t.ws.c, .slice t.ms.A t.ms.l.length t.ms.c, .slice t.ks.A t.ks.l.length t.ks.c] 28))
  have T1 := Lib.hid (Blk.newH w [.int .i64 t.n, .slice t.ss.A t.ss.l.length t.ss.c, .slice t.cs.A t.cs.l.length t.cs.c, .slice t.ws.A t.ws.l.length t.ws.c, .slice t.ms.A t.ms.l.length t.ms.c, .slice t.ks.A t.ks.l.length t.ks.c] 28 (w.heap.size) (by first | rfl | simp))
  replace E := Lib.hid (ext_alloc E.out (.cells #[.slice A l.length c] 31))
  replace HT := Lib.hid (HT.out.alloc (.cells #[.slice A l.length c] 31))
  replace HTR := Lib.hid (HTR.out.alloc (.cells #[.slice A l.length c] 31))
  replace HS := Lib.hid (HS.out.alloc (.cells #[.slice A l.length c] 31))
  replace HB := Lib.hid (HB.out.alloc (.cells #[.slice A l.length c] 31))
  replace T1 := Lib.hid (T1.out.alloc (.cells #[.slice A l.length c] 31))
  have B1 := Lib.hid (Blk.newH (w.alloc (.cells #[.int .i64 t.n, .slice t.ss.A t.ss.l.length t.ss.c, .slice t.cs.A t.cs.l.length t.cs.c, .slice t.ws.A t.ws.l.length t.ws.c, .slice t.ms.A t.ms.l.length t.ms.c, .slice t.ks.A t.ks.l.length t.ks.c] 28)) [.slice A l.length c] 31 (w.heap.size + 1) (by first | rfl | simp))
  replace E := Lib.hid (ext_alloc E.out (.cells #[.bool z.air, .int .i64 z.ix, .int .i64 z.mi] 59))
  replace HT := Lib.hid (HT.out.alloc (.cells #[.bool z.air, .int .i64 z.ix, .int .i64 z.mi] 59))
  replace HTR := Lib.hid (HTR.out.alloc (.cells #[.bool z.air, .int .i64 z.ix, .int .i64 z.mi] 59))
  replace HS := Lib.hid (HS.out.alloc (.cells #[.bool z.air, .int .i64 z.ix, .int .i64 z.mi] 59))
  replace HB := Lib.hid (HB.out.alloc (.cells #[.bool z.air, .int .i64 z.ix, .int .i64 z.mi] 59))
  replace T1 := Lib.hid (T1.out.alloc (.cells #[.bool z.air, .int .i64 z.ix, .int .i64 z.mi] 59))
  replace B1 := Lib.hid (B1.out.alloc (.cells #[.bool z.air, .int .i64 z.ix, .int .i64 z.mi] 59))
  have Z1 := Lib.hid (Blk.newH ((w.alloc (.cells #[.int .i64 t.n, .slice t.ss.A t.ss.l.length t.ss.c, .slice t.cs.A t.cs.l.length t.cs.c, .slice t.ws.A t.ws.l.length t.ws.c, .slice t.ms.A t.ms.l.length t.ms.c, .slice t.ks.A t.ks.l.length t.ks.c] 28)).alloc (.cells #[.slice A l.length c] 31)) [.bool z.air, .int .i64 z.ix, .int .i64 z.mi] 59 (w.heap.size + 1 + 1) (by first | rfl | simp))
  obtain ⟨W, hW⟩ : ∃ xw, (((w.alloc (.cells #[.int .i64 t.n, .slice t.ss.A t.ss.l.length t.ss.c, .slice t.cs.A t.cs.l.length t.cs.c, .slice t.ws.A t.ws.l.length t.ws.c, .slice t.ms.A t.ms.l.length t.ms.c, .slice t.ks.A t.ks.l.length t.ks.c] 28)).alloc (.cells #[.slice A l.length c] 31)).alloc (.cells #[.bool z.air, .int .i64 z.ix, .int .i64 z.mi] 59)) = xw := ⟨_, rfl⟩
  rw [hW] at E HT HTR HS HB T1 B1 Z1
  have HW := Lib.hid hW
  clear hW
  go_enter Try.func6, Try.ntmps6
  go_wp2_with fail
  rw [HW.out]
  clear HW
  refine (sane_any _).mono ?_
  rintro e w1 ⟨rfl, B⟩
  replace E := Lib.hid (ext_trans E.out B)
  replace HT := Lib.hid (HT.out.ext B)
  replace HTR := Lib.hid (HTR.out.ext B)
  replace HS := Lib.hid (HS.out.ext B)
  replace HB := Lib.hid (HB.out.ext B)
  replace T1 := Lib.hid (T1.out.ext B)
  replace B1 := Lib.hid (B1.out.ext B)
  replace Z1 := Lib.hid (Z1.out.ext B)
  clear B
  have q0 := T1.out.c 0 _ rfl
  have q1 := T1.out.c 1 _ rfl
  have q2 := T1.out.c 2 _ rfl
  have q3 := T1.out.c 3 _ rfl
  have q4 := T1.out.c 4 _ rfl
  have q5 := T1.out.c 5 _ rfl
  have q6 := T1.out.lt
  go_wp2_with fail
  refine (few14_any t _ HT.out).mono ?_
  rintro e w2 ⟨r, rfl, hr, B⟩
  clear q0 q1 q2 q3 q4 q5 q6
  replace E := Lib.hid (ext_trans E.out B)
  replace HT := Lib.hid (HT.out.ext B)
  replace HTR := Lib.hid (HTR.out.ext B)
  replace HS := Lib.hid (HS.out.ext B)
  replace HB := Lib.hid (HB.out.ext B)
  replace T1 := Lib.hid (T1.out.ext B)
  replace B1 := Lib.hid (B1.out.ext B)
  replace Z1 := Lib.hid (Z1.out.ext B)
  clear B
  have HRw2 := Lib.hid hr
  clear hr
  cases r
  · go_wp2_with fail
    go_ret
    exact ⟨rfl, E.out⟩
  go_wp2_with fail
  refine (few18_any tA tc tree _ HTR.out.nd HTR.out.len).mono ?_
  rintro e w2b ⟨r, rfl, B⟩
  replace E := Lib.hid (ext_trans E.out B)
  replace HT := Lib.hid (HT.out.ext B)
  replace HTR := Lib.hid (HTR.out.ext B)
  replace HS := Lib.hid (HS.out.ext B)
  replace HB := Lib.hid (HB.out.ext B)
  replace T1 := Lib.hid (T1.out.ext B)
  replace B1 := Lib.hid (B1.out.ext B)
  replace Z1 := Lib.hid (Z1.out.ext B)
  clear B
  cases r
  · go_wp2_with fail
    go_ret
    exact ⟨rfl, E.out⟩
  have q0 := B1.out.c 0 _ rfl
  have q1 := B1.out.lt
  go_wp2_with fail
  refine (few19_any A c l _ HS.out.s HS.out.n).mono ?_
  rintro e w3 ⟨r, rfl, hr, B⟩
  clear q0 q1
  replace E := Lib.hid (ext_trans E.out B)
  replace HT := Lib.hid (HT.out.ext B)
  replace HTR := Lib.hid (HTR.out.ext B)
  replace HS := Lib.hid (HS.out.ext B)
  replace HB := Lib.hid (HB.out.ext B)
  replace T1 := Lib.hid (T1.out.ext B)
  replace B1 := Lib.hid (B1.out.ext B)
  replace Z1 := Lib.hid (Z1.out.ext B)
  clear B
  have HRw3 := Lib.hid hr
  clear hr
  cases r
  · go_wp2_with fail
    go_ret
    exact ⟨rfl, E.out⟩
  have q0 := T1.out.c 0 _ rfl
  have q1 := T1.out.c 1 _ rfl
  have q2 := T1.out.c 2 _ rfl
  have q3 := T1.out.c 3 _ rfl
  have q4 := T1.out.c 4 _ rfl
  have q5 := T1.out.c 5 _ rfl
  have q6 := T1.out.lt
  have q7 := B1.out.c 0 _ rfl
  have q8 := B1.out.lt
  have q9 := Z1.out.c 0 _ rfl
  have q10 := Z1.out.c 1 _ rfl
  have q11 := Z1.out.c 2 _ rfl
  have q12 := Z1.out.lt
  by_cases hm : 100 < sn
  · have e1 : decide ((sn : Int) > 100) = true := decide_eq_true (by omega)
    go_wp2_with fail
    go_ret
    exact ⟨rfl, E.out⟩
  have e1 : decide ((sn : Int) > 100) = false := decide_eq_false (by omega)
  have HFEW : Hid (∀ s ∈ t.ss.l, s.vs.l.length ≤ 64) := fun s hs => Nat.le_trans ((HRw2.out (by simp)).2.s s hs) (by decide)
  obtain ⟨n0, hn0⟩ : ∃ r, ofN t tree leaf l seen z = r := ⟨_, rfl⟩
  obtain ⟨e0, he0⟩ : ∃ r, ofE t tree leaf l seen.length z = r := ⟨_, rfl⟩
  have HN0 := Lib.hid hn0
  have HE0 := Lib.hid he0
  clear hn0 he0
  go_wp2_with fail
  clear e1
  refine (of_lit n0 e0 HN0.out HE0.out rfl rfl HSN.out.symm HT.out HTR.out HS.out.s HS.out.n HS.out.o HB.out HSL.out HFEW.out).mono ?_
  rintro e w4 ⟨rfl, B⟩
  clear q0 q1 q2 q3 q4 q5 q6 q7 q8 q9 q10 q11 q12
  replace E := Lib.hid (ext_trans E.out B)
  replace HT := Lib.hid (HT.out.ext B)
  replace HTR := Lib.hid (HTR.out.ext B)
  replace HS := Lib.hid (HS.out.ext B)
  replace HB := Lib.hid (HB.out.ext B)
  replace T1 := Lib.hid (T1.out.ext B)
  replace B1 := Lib.hid (B1.out.ext B)
  replace Z1 := Lib.hid (Z1.out.ext B)
  clear B
  by_cases h0 : e0 = 0
  rotate_left
  · have e1 : (e0 != 0) = true := by simpa using h0
    have e2 : n0 = 0 := by rw [← HN0.out]; exact ofN_no (by rw [HE0.out]; exact h0)
    subst e2
    go_wp2_with fail
    go_ret
    exact ⟨rfl, E.out⟩
  subst h0
  have HOK := Lib.hid (ofE_ok.1 HE0.out)
  obtain ⟨now, hnow, hnl⟩ := HOK.out.now
  have HTO := Lib.hid (tab_ok HOK.out.tab)
  have HPL : Hid (n0 = placesR t tree leaf now seen z) := HN0.out.symm.trans (ofN_ok HOK.out hnow)
  have HNOW := Lib.hid hnow
  have hrng := places_rng HTO.out HOK.out.tr leaf now seen z
  rw [← HPL.out] at hrng
  obtain ⟨n00, n01⟩ := hrng
  have hix := HOK.out.i0
  have htl := (tree_of HOK.out.tr).hi
  have htl0 := (tree_of HOK.out.tr).lo
  clear hnow hnl
  have q0 := Z1.out.c 0 _ rfl
  have q1 := Z1.out.c 1 _ rfl
  have q2 := Z1.out.c 2 _ rfl
  have q3 := Z1.out.lt
  have g0 : decide (z.ix < 0) = false := decide_eq_false (by omega)
  have g1 : decide (n0 < 0) = false := decide_eq_false (by omega)
  have g2 : decide (n0 > 64) = false := decide_eq_false (by omega)
  have hsz : seen.length ≤ 100 := by have := HSN.out; omega
  obtain ⟨va1, w5, hrun, A1, c1, rfl, hO1, hE1, _, hlc1, hcm1⟩ := Own.append_to (w0 := w4) bI 57 (Own.made w4 w4.heap.size 4 bc 1 (Nat.le_refl _)) (ext_alloc (ext_refl w4) _) (ys := seen) (m := sn) HSN.out.symm sc (HB.out.ext (ext_alloc (ext_refl w4) _)) (by simp only [List.length_nil]; omega) (by unfold maxLen; simp only [List.length_nil]; omega)
  rw [List.nil_append] at hrun hO1 hlc1
  rw [HSN.out] at hrun hO1
  have HRUN := Lib.hid hrun
  clear hrun
  have hsn1 : 0 < sn := by have h1 := HOK.out.sn; have h2 := HTO.out.n0; have h3 := HSN.out; omega
  obtain ⟨g, cg, cur, hform, _, hg0, hg1, hg2⟩ := hO1.some_ (by rw [HSN.out]; exact hsn1)
  injection hform with hA1 hA2 hA3
  clear hA2
  subst hA1 hA3
  obtain ⟨id, hid⟩ : ∃ id : Nat, mo % (sn : Int) = id := ⟨(mo % (sn : Int)).toNat, by have := Int.emod_nonneg mo (show (sn : Int) ≠ 0 by omega); omega⟩
  have hidl : id < sn := by have := Int.emod_lt_of_pos mo (show (0 : Int) < sn by omega); omega
  obtain ⟨y, g9, o9, hy, e9, hg9, hc9⟩ := (hO1.slc (enc := bc) (sz := 1) (fun _ => rfl) (by decide)).at_ (k := id) (by have := HSN.out; omega)
  cases e9
  have y0 := hc9 0 _ rfl
  simp only [Nat.zero_add, Nat.mul_one, Nat.add_zero] at y0
  have yf := hO1.frozen
  have hO2 := hO1.set_ (enc := bc) (sz := 1) (fun _ => rfl) hy (r := 0) (y := true) (v := .bool true) (by decide) rfl
  simp only [Nat.mul_one, Nat.add_zero] at hO2
  clear hy hc9 hg2
  have k0 : decide ((sn : Int) > 0) = true := decide_eq_true (by omega)
  have hgw : w4.heap.size ≤ g := hg0
  have hz1 := Z1.out.lt
  have B5 : Below w4.heap.size w4 (w5.setCell ⟨g, id, none⟩ (.bool true)) := hE1.setCell (p := ⟨g, id, none⟩) hgw _
  have HE1 := Lib.hid hE1
  have aT10 := (T1.out.ext HE1.out).c 0 _ rfl
  have bT10 := (T1.out.ext B5).c 0 _ rfl
  have aT11 := (T1.out.ext HE1.out).c 1 _ rfl
  have bT11 := (T1.out.ext B5).c 1 _ rfl
  have aT12 := (T1.out.ext HE1.out).c 2 _ rfl
  have bT12 := (T1.out.ext B5).c 2 _ rfl
  have aT13 := (T1.out.ext HE1.out).c 3 _ rfl
  have bT13 := (T1.out.ext B5).c 3 _ rfl
  have aT14 := (T1.out.ext HE1.out).c 4 _ rfl
  have bT14 := (T1.out.ext B5).c 4 _ rfl
  have aT15 := (T1.out.ext HE1.out).c 5 _ rfl
  have bT15 := (T1.out.ext B5).c 5 _ rfl
  have aT1l := (T1.out.ext HE1.out).lt
  have bT1l := (T1.out.ext B5).lt
  have cT1l : w.heap.size ≠ g := by omega
  have aB10 := (B1.out.ext HE1.out).c 0 _ rfl
  have bB10 := (B1.out.ext B5).c 0 _ rfl
  have aB1l := (B1.out.ext HE1.out).lt
  have bB1l := (B1.out.ext B5).lt
  have cB1l : w.heap.size + 1 ≠ g := by omega
  have aZ10 := (Z1.out.ext HE1.out).c 0 _ rfl
  have bZ10 := (Z1.out.ext B5).c 0 _ rfl
  have aZ11 := (Z1.out.ext HE1.out).c 1 _ rfl
  have bZ11 := (Z1.out.ext B5).c 1 _ rfl
  have aZ12 := (Z1.out.ext HE1.out).c 2 _ rfl
  have bZ12 := (Z1.out.ext B5).c 2 _ rfl
  have aZ1l := (Z1.out.ext HE1.out).lt
  have bZ1l := (Z1.out.ext B5).lt
  have cZ1l : w.heap.size + 1 + 1 ≠ g := by omega
  go_wp2_with (first | (at_builtin; refine wpList_append_run rfl (.tmp 69) (.tmp 70) 57 rfl (.slice (some ⟨w4.heap.size, 0, none⟩) 0 0) (.slice sA sn sc) rfl rfl HRUN.out ?_) | fail)
  clear aT10 bT10 aT11 bT11 aT12 bT12 aT13 bT13 aT14 bT14 aT15 bT15 aT1l bT1l cT1l aB10 bB10 aB1l bB1l cB1l aZ10 bZ10 aZ11 bZ11 aZ12 bZ12 aZ1l bZ1l cZ1l y0 yf k0 g0 g1 g2 q0 q1 q2 q3
  obtain ⟨w6, hw6⟩ : ∃ x, w5.setCell ⟨g, id, none⟩ (.bool true) = x := ⟨_, rfl⟩
  rw [hw6] at B5 hO2 ⊢
  clear hw6
  replace E := Lib.hid (ext_trans E.out B5)
  replace HT := Lib.hid (HT.out.ext B5)
  replace HTR := Lib.hid (HTR.out.ext B5)
  replace HS := Lib.hid (HS.out.ext B5)
  replace HB := Lib.hid (HB.out.ext B5)
  replace T1 := Lib.hid (T1.out.ext B5)
  replace B1 := Lib.hid (B1.out.ext B5)
  replace Z1 := Lib.hid (Z1.out.ext B5)
  clear B5 HE1 hE1 hO1
  have BE := Lib.hid (hO2.slc (enc := bc) (sz := 1) (fun _ => rfl) (by decide))
  clear hO2
  have HBL : Hid ((seen.set id true).length = sn) := by rw [Hid, List.length_set]; exact HSN.out
  obtain ⟨n1, hn1⟩ : ∃ r, ofN t tree leaf l (seen.set id true) z = r := ⟨_, rfl⟩
  have HE1 : Hid (ofE t tree leaf l (seen.set id true).length z = 0) := by rw [Hid, List.length_set]; exact HE0.out
  have HP1 : Hid (n1 = placesR t tree leaf now (seen.set id true) z) := hn1.symm.trans (ofN_ok (ofE_ok.1 HE1.out) HNOW.out)
  have HM1 : Hid (n0 ≤ n1) := by rw [Hid, HP1.out, HPL.out]; exact places_more HTO.out leaf now z (fun vs h => seenAll_set vs h)
  have HN1 := Lib.hid hn1
  clear hn1
  refine (of_lit n1 0 HN1.out HE1.out rfl rfl HBL.out.symm HT.out HTR.out HS.out.s HS.out.n HS.out.o BE.out (by rw [HBL.out]; unfold maxLen; omega) HFEW.out).mono ?_
  rintro e w7 ⟨rfl, B⟩
  replace E := Lib.hid (ext_trans E.out B)
  replace HT := Lib.hid (HT.out.ext B)
  replace HTR := Lib.hid (HTR.out.ext B)
  replace HS := Lib.hid (HS.out.ext B)
  replace HB := Lib.hid (HB.out.ext B)
  replace T1 := Lib.hid (T1.out.ext B)
  replace B1 := Lib.hid (B1.out.ext B)
  replace Z1 := Lib.hid (Z1.out.ext B)
  replace BE := Lib.hid (BE.out.ext B)
  clear B
  obtain ⟨va2, x1, hrun, A2, c2, rfl, hO2, hE2, _, hlc2, hcm2⟩ := Own.append_to (w0 := w7) ndI 56 (Own.made w7 w7.heap.size 66 Nd.cells 3 (Nat.le_refl _)) (ext_alloc (ext_refl w7) _) (ys := tree) (m := tree.length) rfl tc (HTR.out.nd.ext (ext_alloc (ext_refl w7) _)) (by simp only [List.length_nil]; omega) (by unfold maxLen; simp only [List.length_nil]; omega)
  rw [List.nil_append] at hrun hO2 hlc2
  have HRUN2 := Lib.hid hrun
  obtain ⟨g2, cg2, cur2, hform2, _, hgb2, _, _⟩ := hO2.some_ (by omega)
  injection hform2 with hB1 hB2 hB3
  clear hB2
  subst hB1 hB3
  have HO2 := Lib.hid hO2
  have HX2 := Lib.hid hE2
  clear hrun hO2 hE2
  go_wp2_with (first | (at_builtin; refine wpList_append_run rfl (.tmp 93) (.tmp 94) 56 rfl (.slice (some ⟨w7.heap.size, 0, none⟩) 0 0) (.slice tA tree.length tc) rfl rfl HRUN2.out ?_) | fail)
  go_loopw [21] (fun i wr => ∃ k : Nat, k ≤ tree.length ∧ i = .int .i64 k ∧ Hid (Own wr w7.heap.size 66 Nd.cells 3 (.slice (some ⟨g2, 0, none⟩) tree.length c2) (midL tree k)) ∧ Hid (Below w7.heap.size w7 wr)) (fun i _ => tree.length - (intOf i).toNat)
  case atStart => exact ⟨0, Nat.zero_le _, rfl, by rw [mid_zero]; exact HO2.out, HX2.out⟩
  case round =>
    obtain ⟨k, hk, rfl, HO, HR⟩ := hrel
    by_cases hlt : k < tree.length
    · have hlt' : (k : Int) < tree.length := by omega
      obtain ⟨x, hx⟩ : ∃ x, tree[k]? = some x := ⟨_, List.getElem?_eq_getElem hlt⟩
      obtain ⟨x', b9, o9, hx', e9, hb9, hc9⟩ := (HO.out.slc (enc := Nd.cells) (sz := 3) (fun _ => rfl) (by decide)).at_ (k := k) (by rw [mid_len]; exact hlt)
      cases e9
      cases (mid_get hx).symm.trans hx'
      have y2 := hc9 2 _ rfl
      simp only [Nat.zero_add] at y2
      have yf := HO.out.frozen
      have HO3 := Lib.hid (HO.out.set_ (enc := Nd.cells) (sz := 3) (fun _ => rfl) (mid_get hx) (r := 2) (y := { x with cuts := ⟨none, 0, []⟩ }) (v := .slice none 0 0) (by decide) rfl)
      rw [mid_set hx] at HO3
      have HR3 := Lib.hid (HR.out.setCell (p := ⟨g2, k * 3 + 2, none⟩) hgb2 (.slice none 0 0))
      clear hx hx' hc9
      go_wp2_with fail
      first | exact ⟨⟨k + 1, by omega, by go_num, HO3.out, HR3.out⟩, by simp [intOf] <;> omega⟩ | (go_roundw; all_goals first | exact ⟨k + 1, by omega, by go_num, HO3.out, HR3.out⟩ | (simp [intOf] <;> omega))
    have hlt' : decide ((k : Int) < tree.length) = false := decide_eq_false (by omega)
    rw [mid_end (by omega)] at HO
    replace E := Lib.hid (ext_trans E.out HR.out)
    replace HT := Lib.hid (HT.out.ext HR.out)
    replace HTR := Lib.hid (HTR.out.ext HR.out)
    replace HS := Lib.hid (HS.out.ext HR.out)
    replace HB := Lib.hid (HB.out.ext HR.out)
    replace T1 := Lib.hid (T1.out.ext HR.out)
    replace B1 := Lib.hid (B1.out.ext HR.out)
    replace Z1 := Lib.hid (Z1.out.ext HR.out)
    replace BE := Lib.hid (BE.out.ext HR.out)
    have HBT := Lib.hid (bare_tok (HO.out.slc (enc := Nd.cells) (sz := 3) (fun _ => rfl) (by decide)) (by unfold maxLen; omega))
    have HE2 : Hid (ofE t (bareL tree) leaf l seen.length z = 0) := ofE_ok.2 HOK.out.bare
    obtain ⟨n2, hn2⟩ : ∃ r, ofN t (bareL tree) leaf l seen z = r := ⟨_, rfl⟩
    have HP2 : Hid (n2 = placesR t (bareL tree) leaf now seen z) := hn2.symm.trans (ofN_ok HOK.out.bare HNOW.out)
    have HM2 : Hid (n0 ≤ n2) := by rw [Hid, HP2.out, HPL.out]; exact (places_bare HTO.out HOK.out.tr leaf now seen z).1
    have HM3 : Hid (n2 ≤ 64) := by rw [Hid, HP2.out]; exact (places_rng HTO.out (bare_vld HOK.out.tr) leaf now seen z).2
    have HN2 := Lib.hid hn2
    clear hn2
    have q0 := T1.out.c 0 _ rfl
    have q1 := T1.out.c 1 _ rfl
    have q2 := T1.out.c 2 _ rfl
    have q3 := T1.out.c 3 _ rfl
    have q4 := T1.out.c 4 _ rfl
    have q5 := T1.out.c 5 _ rfl
    have q6 := T1.out.lt
    have q7 := B1.out.c 0 _ rfl
    have q8 := B1.out.lt
    have q9 := Z1.out.c 0 _ rfl
    have q10 := Z1.out.c 1 _ rfl
    have q11 := Z1.out.c 2 _ rfl
    have q12 := Z1.out.lt
    go_wp2_with fail
    refine (of_lit n2 0 HN2.out HE2.out (by rw [bare_len]) rfl HSN.out.symm HT.out HBT.out HS.out.s HS.out.n HS.out.o HB.out (by rw [HSN.out]; unfold maxLen; omega) HFEW.out).mono ?_
    rintro e w9 ⟨rfl, B⟩
    clear q0 q1 q2 q3 q4 q5 q6 q7 q8 q9 q10 q11 q12
    replace E := Lib.hid (ext_trans E.out B)
    replace HT := Lib.hid (HT.out.ext B)
    replace HTR := Lib.hid (HTR.out.ext B)
    replace HS := Lib.hid (HS.out.ext B)
    replace HB := Lib.hid (HB.out.ext B)
    replace T1 := Lib.hid (T1.out.ext B)
    replace B1 := Lib.hid (B1.out.ext B)
    replace Z1 := Lib.hid (Z1.out.ext B)
    replace BE := Lib.hid (BE.out.ext B)
    replace HBT := Lib.hid (HBT.out.ext B)
    clear B
    have g1 : decide (n1 ≥ n0) = true := decide_eq_true HM1.out
    have g2 : decide (n2 ≥ n0) = true := decide_eq_true HM2.out
    have g3 : decide (n2 ≤ 64) = true := decide_eq_true HM3.out
    go_wp2_with fail
    all_goals go_ret
    all_goals exact ⟨by first | rfl | simp, E.out⟩
end Go.Proofs.Ytilocjliplmmpaa
