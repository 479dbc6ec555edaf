/- Law 7: the forecast takes exactly its cuts. -/
import Derived.Test.YtilocjliplmmpaaQo
set_option linter.unusedSimpArgs false
set_option linter.unusedVariables false
namespace Go.Proofs.Ytilocjliplmmpaa
open Go.RowKit
theorem vcuts_snoc (tree : List Nd) (leaf m : Int) (l : List Int) (v : Int) : vcuts tree leaf m (l ++ [v]) = vcuts tree leaf m l + lessN tree leaf false v m := by
  induction l with
  | nil => simp [vcuts]
  | cons a r ih => simp only [List.cons_append, vcuts, ih]; omega
theorem vcuts_take {tree : List Nd} {leaf m : Int} {l : List Int} {k : Nat} {v : Int} (h : l[k]? = some v) : vcuts tree leaf m (l.take (k + 1)) = vcuts tree leaf m (l.take k) + lessN tree leaf false v m := by
  rw [List.take_add_one, h]; exact vcuts_snoc ..
set_option maxRecDepth 100000 in
set_option maxHeartbeats 64000000 in
theorem law7 (t : Tab) (tA : Option Addr) (tc : Nat) (tree : List Nd) (leaf : Int) (A : Option Addr) (c : Nat) (l : List Chg) (sA : Option Addr) (sc : Nat) (seen : List Bool) (z : Cel) (w : World)
    (ht : Tab.ok w t) (htr : TOk w tA tree) (hs : SOk w A l) (hse : Slc w bc 1 sA seen) (hsel : seen.length ≤ maxLen) :
    Calls Try.prog 7 #[t.v, .slice tA tree.length tc, .int .i64 leaf, .agg #[.slice A l.length c], .slice sA seen.length sc, z.v] w (Tru w) := by
  obtain ⟨sn, hsn⟩ : ∃ n, seen.length = n := ⟨_, rfl⟩
  have HSN := Lib.hid hsn
  rw [hsn]
  have HSL := Lib.hid hsel
  clear hsn hsel
  have E := Lib.hid (ext_refl w)
  have HT := Lib.hid (ht)
  have HTR := Lib.hid (htr)
  have HS := Lib.hid (hs)
  have HB := Lib.hid (hse)
  clear ht htr hs hse
  replace E := Lib.hid (ext_alloc E.out (.cells #[.int .i64 t.n, .slice t.ss.A t.ss.l.length t.ss.c, .slice t.cs.A t.cs.l.length t.cs.c, .slice t.ws.A t.ws.l.length t.ws.c, .slice t.ms.A t.ms.l.length t.ms.c, .slice t.ks.A t.ks.l.length t.ks.c] 28))
  replace HT := Lib.hid (HT.out.alloc (.cells #[.int .i64 t.n, .slice t.ss.A t.ss.l.length t.ss.c, .slice t.cs.A t.cs.l.length t.cs.c, .slice t.ws.A t.ws.l.length t.ws.c, .slice t.ms.A t.ms.l.length t.ms.c, .slice t.ks.A t.ks.l.length t.ks.c] 28))
  replace HTR := Lib.hid (HTR.out.alloc (.cells #[.int .i64 t.n, .slice t.ss.A t.ss.l.length t.ss.c, .slice t.cs.A t.cs.l.length t.cs.c, .slice t.ws.A t.ws.l.length t.ws.c, .slice t.ms.A t.ms.l.length t.ms.c, .slice t.ks.A t.ks.l.length t.ks.c] 28))
  replace HS := Lib.hid (HS.out.alloc (.cells #[.int .i64 t.n, .slice t.ss.A t.ss.l.length t.ss.c, .slice t.cs.A t.cs.l.length t.cs.c, .slice t.ws.A t.ws.l.length t.ws.c, .slice t.ms.A t.ms.l.length t.ms.c, .slice t.ks.A t.ks.l.length t.ks.c] 28))
  replace HB := Lib.hid (HB.out.alloc (.cells #[.int .i64 t.n, .slice t.ss.A t.ss.l.length t.ss.c, .slice t.cs.A t.cs.l.length t.cs.c, .slice t.ws.A t.ws.l.length t.ws.c, .slice t.ms.A t.ms.l.length t.ms.c, .slice t.ks.A t.ks.l.length t.ks.c] 28))
  have T1 := Lib.hid (Blk.newH w [.int .i64 t.n, .slice t.ss.A t.ss.l.length t.ss.c, .slice t.cs.A t.cs.l.length t.cs.c, .slice t.ws.A t.ws.l.length t.ws.c, .slice t.ms.A t.ms.l.length t.ms.c, .slice t.ks.A t.ks.l.length t.ks.c] 28 (w.heap.size) (by first | rfl | simp))
  replace E := Lib.hid (ext_alloc E.out (.cells #[.slice A l.length c] 31))
  replace HT := Lib.hid (HT.out.alloc (.cells #[.slice A l.length c] 31))
  replace HTR := Lib.hid (HTR.out.alloc (.cells #[.slice A l.length c] 31))
  replace HS := Lib.hid (HS.out.alloc (.cells #[.slice A l.length c] 31))
  replace HB := Lib.hid (HB.out.alloc (.cells #[.slice A l.length c] 31))
  replace T1 := Lib.hid (T1.out.alloc (.cells #[.slice A l.length c] 31))
  have B1 := Lib.hid (Blk.newH (w.alloc (.cells #[.int .i64 t.n, .slice t.ss.A t.ss.l.length t.ss.c, .slice t.cs.A t.cs.l.length t.cs.c, .slice t.ws.A t.ws.l.length t.ws.c, .slice t.ms.A t.ms.l.length t.ms.c, .slice t.ks.A t.ks.l.length t.ks.c] 28)) [.slice A l.length c] 31 (w.heap.size + 1) (by first | rfl | simp))
  replace E := Lib.hid (ext_alloc E.out (.cells #[.bool z.air, .int .i64 z.ix, .int .i64 z.mi] 59))
  replace HT := Lib.hid (HT.out.alloc (.cells #[.bool z.air, .int .i64 z.ix, .int .i64 z.mi] 59))
  replace HTR := Lib.hid (HTR.out.alloc (.cells #[.bool z.air, .int .i64 z.ix, .int .i64 z.mi] 59))
  replace HS := Lib.hid (HS.out.alloc (.cells #[.bool z.air, .int .i64 z.ix, .int .i64 z.mi] 59))
  replace HB := Lib.hid (HB.out.alloc (.cells #[.bool z.air, .int .i64 z.ix, .int .i64 z.mi] 59))
  replace T1 := Lib.hid (T1.out.alloc (.cells #[.bool z.air, .int .i64 z.ix, .int .i64 z.mi] 59))
  replace B1 := Lib.hid (B1.out.alloc (.cells #[.bool z.air, .int .i64 z.ix, .int .i64 z.mi] 59))
  have Z1 := Lib.hid (Blk.newH ((w.alloc (.cells #[.int .i64 t.n, .slice t.ss.A t.ss.l.length t.ss.c, .slice t.cs.A t.cs.l.length t.cs.c, .slice t.ws.A t.ws.l.length t.ws.c, .slice t.ms.A t.ms.l.length t.ms.c, .slice t.ks.A t.ks.l.length t.ks.c] 28)).alloc (.cells #[.slice A l.length c] 31)) [.bool z.air, .int .i64 z.ix, .int .i64 z.mi] 59 (w.heap.size + 1 + 1) (by first | rfl | simp))
  obtain ⟨W, hW⟩ : ∃ xw, (((w.alloc (.cells #[.int .i64 t.n, .slice t.ss.A t.ss.l.length t.ss.c, .slice t.cs.A t.cs.l.length t.cs.c, .slice t.ws.A t.ws.l.length t.ws.c, .slice t.ms.A t.ms.l.length t.ms.c, .slice t.ks.A t.ks.l.length t.ks.c] 28)).alloc (.cells #[.slice A l.length c] 31)).alloc (.cells #[.bool z.air, .int .i64 z.ix, .int .i64 z.mi] 59)) = xw := ⟨_, rfl⟩
  rw [hW] at E HT HTR HS HB T1 B1 Z1
  have HW := Lib.hid hW
  clear hW
  go_enter Try.func7, Try.ntmps7
  go_wp2_with fail
  rw [HW.out]
  clear HW
  refine (sane_any _).mono ?_
  rintro e w1 ⟨rfl, B⟩
  replace E := Lib.hid (ext_trans E.out B)
  replace HT := Lib.hid (HT.out.ext B)
  replace HTR := Lib.hid (HTR.out.ext B)
  replace HS := Lib.hid (HS.out.ext B)
  replace HB := Lib.hid (HB.out.ext B)
  replace T1 := Lib.hid (T1.out.ext B)
  replace B1 := Lib.hid (B1.out.ext B)
  replace Z1 := Lib.hid (Z1.out.ext B)
  clear B
  have q0 := T1.out.c 0 _ rfl
  have q1 := T1.out.c 1 _ rfl
  have q2 := T1.out.c 2 _ rfl
  have q3 := T1.out.c 3 _ rfl
  have q4 := T1.out.c 4 _ rfl
  have q5 := T1.out.c 5 _ rfl
  have q6 := T1.out.lt
  go_wp2_with fail
  refine (few14_any t _ HT.out).mono ?_
  rintro e w2 ⟨r, rfl, hr, B⟩
  clear q0 q1 q2 q3 q4 q5 q6
  replace E := Lib.hid (ext_trans E.out B)
  replace HT := Lib.hid (HT.out.ext B)
  replace HTR := Lib.hid (HTR.out.ext B)
  replace HS := Lib.hid (HS.out.ext B)
  replace HB := Lib.hid (HB.out.ext B)
  replace T1 := Lib.hid (T1.out.ext B)
  replace B1 := Lib.hid (B1.out.ext B)
  replace Z1 := Lib.hid (Z1.out.ext B)
  clear B
  have HRw2 := Lib.hid hr
  clear hr
  cases r
  · go_wp2_with fail
    go_ret
    exact ⟨rfl, E.out⟩
  go_wp2_with fail
  refine (few18_any tA tc tree _ HTR.out.nd HTR.out.len).mono ?_
  rintro e w2b ⟨r, rfl, B⟩
  replace E := Lib.hid (ext_trans E.out B)
  replace HT := Lib.hid (HT.out.ext B)
  replace HTR := Lib.hid (HTR.out.ext B)
  replace HS := Lib.hid (HS.out.ext B)
  replace HB := Lib.hid (HB.out.ext B)
  replace T1 := Lib.hid (T1.out.ext B)
  replace B1 := Lib.hid (B1.out.ext B)
  replace Z1 := Lib.hid (Z1.out.ext B)
  clear B
  cases r
  · go_wp2_with fail
    go_ret
    exact ⟨rfl, E.out⟩
  have q0 := B1.out.c 0 _ rfl
  have q1 := B1.out.lt
  go_wp2_with fail
  refine (few19_any A c l _ HS.out.s HS.out.n).mono ?_
  rintro e w3 ⟨r, rfl, hr, B⟩
  clear q0 q1
  replace E := Lib.hid (ext_trans E.out B)
  replace HT := Lib.hid (HT.out.ext B)
  replace HTR := Lib.hid (HTR.out.ext B)
  replace HS := Lib.hid (HS.out.ext B)
  replace HB := Lib.hid (HB.out.ext B)
  replace T1 := Lib.hid (T1.out.ext B)
  replace B1 := Lib.hid (B1.out.ext B)
  replace Z1 := Lib.hid (Z1.out.ext B)
  clear B
  have HRw3 := Lib.hid hr
  clear hr
  cases r
  · go_wp2_with fail
    go_ret
    exact ⟨rfl, E.out⟩
  have q0 := T1.out.c 0 _ rfl
  have q1 := T1.out.c 1 _ rfl
  have q2 := T1.out.c 2 _ rfl
  have q3 := T1.out.c 3 _ rfl
  have q4 := T1.out.c 4 _ rfl
  have q5 := T1.out.c 5 _ rfl
  have q6 := T1.out.lt
  have q7 := B1.out.c 0 _ rfl
  have q8 := B1.out.lt
  have q9 := Z1.out.c 0 _ rfl
  have q10 := Z1.out.c 1 _ rfl
  have q11 := Z1.out.c 2 _ rfl
  have q12 := Z1.out.lt
  by_cases hm : 100 < sn
  · have e1 : decide ((sn : Int) > 100) = true := decide_eq_true (by omega)
    go_wp2_with fail
    go_ret
    exact ⟨rfl, E.out⟩
  have e1 : decide ((sn : Int) > 100) = false := decide_eq_false (by omega)
  have HFEW : Hid (∀ s ∈ t.ss.l, s.vs.l.length ≤ 64) := fun s hs => Nat.le_trans ((HRw2.out (by simp)).2.s s hs) (by decide)
  obtain ⟨n0, hn0⟩ : ∃ r, ofN t tree leaf l seen z = r := ⟨_, rfl⟩
  obtain ⟨e0, he0⟩ : ∃ r, ofE t tree leaf l seen.length z = r := ⟨_, rfl⟩
  have HN0 := Lib.hid hn0
  have HE0 := Lib.hid he0
  clear hn0 he0
  go_wp2_with fail
  clear e1
  refine (of_lit n0 e0 HN0.out HE0.out rfl rfl HSN.out.symm HT.out HTR.out HS.out.s HS.out.n HS.out.o HB.out HSL.out HFEW.out).mono ?_
  rintro e w4 ⟨rfl, B⟩
  clear q0 q1 q2 q3 q4 q5 q6 q7 q8 q9 q10 q11 q12
  replace E := Lib.hid (ext_trans E.out B)
  replace HT := Lib.hid (HT.out.ext B)
  replace HTR := Lib.hid (HTR.out.ext B)
  replace HS := Lib.hid (HS.out.ext B)
  replace HB := Lib.hid (HB.out.ext B)
  replace T1 := Lib.hid (T1.out.ext B)
  replace B1 := Lib.hid (B1.out.ext B)
  replace Z1 := Lib.hid (Z1.out.ext B)
  clear B
  by_cases h0 : e0 = 0
  rotate_left
  · have e1 : (e0 != 0) = true := by simpa using h0
    go_wp2_with fail
    go_ret
    exact ⟨rfl, E.out⟩
  subst h0
  have HOK := Lib.hid (ofE_ok.1 HE0.out)
  obtain ⟨now, hnow, hnl⟩ := HOK.out.now
  have HTO := Lib.hid (tab_ok HOK.out.tab)
  have HPL : Hid (n0 = placesR t tree leaf now seen z) := HN0.out.symm.trans (ofN_ok HOK.out hnow)
  have HNOW := Lib.hid hnow
  have hrng := places_rng HTO.out HOK.out.tr leaf now seen z
  rw [← HPL.out] at hrng
  obtain ⟨n00, n01⟩ := hrng
  have hix := HOK.out.i0
  have htl := (tree_of HOK.out.tr).hi
  have htl0 := (tree_of HOK.out.tr).lo
  clear hnow hnl
  obtain ⟨va2, x1, hrun, A2, c2, rfl, hO2, hE2, _, hlc2, hcm2⟩ := Own.append_to (w0 := w4) ndI 56 (Own.made w4 w4.heap.size 66 Nd.cells 3 (Nat.le_refl _)) (ext_alloc (ext_refl w4) _) (ys := tree) (m := tree.length) rfl tc (HTR.out.nd.ext (ext_alloc (ext_refl w4) _)) (by simp only [List.length_nil]; omega) (by unfold maxLen; simp only [List.length_nil]; omega)
  rw [List.nil_append] at hrun hO2 hlc2
  have HRUN2 := Lib.hid hrun
  obtain ⟨g2, cg2, cur2, hform2, _, hgb2, _, _⟩ := hO2.some_ (by omega)
  injection hform2 with hB1 hB2 hB3
  clear hB2
  subst hB1 hB3
  have HO2 := Lib.hid hO2
  have HX2 := Lib.hid hE2
  clear hrun hO2 hE2
  go_wp2_with (first | (at_builtin; refine wpList_append_run rfl (.tmp 57) (.tmp 58) 56 rfl (.slice (some ⟨w4.heap.size, 0, none⟩) 0 0) (.slice tA tree.length tc) rfl rfl HRUN2.out ?_) | fail)
  go_loopw [16] (fun i wr => ∃ k : Nat, k ≤ tree.length ∧ i = .int .i64 k ∧ Hid (Own wr w4.heap.size 66 Nd.cells 3 (.slice (some ⟨g2, 0, none⟩) tree.length c2) (midL tree k)) ∧ Hid (Below w4.heap.size w4 wr)) (fun i _ => tree.length - (intOf i).toNat)
  case atStart => exact ⟨0, Nat.zero_le _, rfl, by rw [mid_zero]; exact HO2.out, HX2.out⟩
  case round =>
    obtain ⟨k, hk, rfl, HO, HR⟩ := hrel
    by_cases hlt : k < tree.length
    · have hlt' : (k : Int) < tree.length := by omega
      obtain ⟨x, hx⟩ : ∃ x, tree[k]? = some x := ⟨_, List.getElem?_eq_getElem hlt⟩
      obtain ⟨x', b9, o9, hx', e9, hb9, hc9⟩ := (HO.out.slc (enc := Nd.cells) (sz := 3) (fun _ => rfl) (by decide)).at_ (k := k) (by rw [mid_len]; exact hlt)
      cases e9
      cases (mid_get hx).symm.trans hx'
      have y2 := hc9 2 _ rfl
      simp only [Nat.zero_add] at y2
      have yf := HO.out.frozen
      have HO3 := Lib.hid (HO.out.set_ (enc := Nd.cells) (sz := 3) (fun _ => rfl) (mid_get hx) (r := 2) (y := { x with cuts := ⟨none, 0, []⟩ }) (v := .slice none 0 0) (by decide) rfl)
      rw [mid_set hx] at HO3
      have HR3 := Lib.hid (HR.out.setCell (p := ⟨g2, k * 3 + 2, none⟩) hgb2 (.slice none 0 0))
      clear hx hx' hc9
      go_wp2_with fail
      first | exact ⟨⟨k + 1, by omega, by go_num, HO3.out, HR3.out⟩, by simp [intOf] <;> omega⟩ | (go_roundw; all_goals first | exact ⟨k + 1, by omega, by go_num, HO3.out, HR3.out⟩ | (simp [intOf] <;> omega))
    have hlt' : decide ((k : Int) < tree.length) = false := decide_eq_false (by omega)
    rw [mid_end (by omega)] at HO
    replace E := Lib.hid (ext_trans E.out HR.out)
    replace HT := Lib.hid (HT.out.ext HR.out)
    replace HTR := Lib.hid (HTR.out.ext HR.out)
    replace HS := Lib.hid (HS.out.ext HR.out)
    replace HB := Lib.hid (HB.out.ext HR.out)
    replace T1 := Lib.hid (T1.out.ext HR.out)
    replace B1 := Lib.hid (B1.out.ext HR.out)
    replace Z1 := Lib.hid (Z1.out.ext HR.out)
    have HBT := Lib.hid (bare_tok (HO.out.slc (enc := Nd.cells) (sz := 3) (fun _ => rfl) (by decide)) (by unfold maxLen; omega))
    have HE2 : Hid (ofE t (bareL tree) leaf l seen.length z = 0) := ofE_ok.2 HOK.out.bare
    obtain ⟨n2, hn2⟩ : ∃ r, ofN t (bareL tree) leaf l seen z = r := ⟨_, rfl⟩
    have HP2 : Hid (n2 = placesR t (bareL tree) leaf now seen z) := hn2.symm.trans (ofN_ok HOK.out.bare HNOW.out)
    have HPB := Lib.hid (places_bare HTO.out HOK.out.tr leaf now seen z)
    rw [← HPL.out, ← HP2.out] at HPB
    have hn2r := places_rng HTO.out (bare_vld HOK.out.tr) leaf now seen z
    rw [← HP2.out] at hn2r
    obtain ⟨n20, n21⟩ := hn2r
    have HN2 := Lib.hid hn2
    clear hn2
    have q0 := T1.out.c 0 _ rfl
    have q1 := T1.out.c 1 _ rfl
    have q2 := T1.out.c 2 _ rfl
    have q3 := T1.out.c 3 _ rfl
    have q4 := T1.out.c 4 _ rfl
    have q5 := T1.out.c 5 _ rfl
    have q6 := T1.out.lt
    have q7 := B1.out.c 0 _ rfl
    have q8 := B1.out.lt
    have q9 := Z1.out.c 0 _ rfl
    have q10 := Z1.out.c 1 _ rfl
    have q11 := Z1.out.c 2 _ rfl
    have q12 := Z1.out.lt
    go_wp2_with fail
    refine (of_lit n2 0 HN2.out HE2.out (by rw [bare_len]) rfl HSN.out.symm HT.out HBT.out HS.out.s HS.out.n HS.out.o HB.out (by rw [HSN.out]; unfold maxLen; omega) HFEW.out).mono ?_
    rintro e w9 ⟨rfl, B⟩
    clear q0 q1 q2 q3 q4 q5 q6 q7 q8 q9 q10 q11 q12
    replace E := Lib.hid (ext_trans E.out B)
    replace HT := Lib.hid (HT.out.ext B)
    replace HTR := Lib.hid (HTR.out.ext B)
    replace HS := Lib.hid (HS.out.ext B)
    replace HB := Lib.hid (HB.out.ext B)
    replace T1 := Lib.hid (T1.out.ext B)
    replace B1 := Lib.hid (B1.out.ext B)
    replace Z1 := Lib.hid (Z1.out.ext B)
    replace HBT := Lib.hid (HBT.out.ext B)
    clear B
    clear HBT
    have q0 := Z1.out.c 0 _ rfl
    have q1 := Z1.out.c 1 _ rfl
    have q2 := Z1.out.c 2 _ rfl
    have q3 := Z1.out.lt
    have q4 := T1.out.c 0 _ rfl
    have q5 := T1.out.c 1 _ rfl
    have q6 := T1.out.c 2 _ rfl
    have q7 := T1.out.c 3 _ rfl
    have q8 := T1.out.c 4 _ rfl
    have q9 := T1.out.c 5 _ rfl
    have q10 := T1.out.lt
    cases hair : z.air
    rotate_left
    · rw [hair] at q0
      obtain ⟨lv, hlv⟩ : ∃ r, lessN tree leaf true z.ix z.mi = r := ⟨_, rfl⟩
      have hlb := less_pos HOK.out.tr leaf true z.ix z.mi
      rw [hlv] at hlb
      obtain ⟨lv0, lv1⟩ := hlb
      have HLV : Hid (n0 = max 0 (n2 - lv)) := by rw [← hlv]; exact HPB.out.2.1 hair
      have HLR : Hid (lessR tree leaf true z.ix z.mi = (lv, 0)) := (lessR_ok HOK.out.tr HOK.out.lf).trans (by rw [hlv])
      clear hlv
      go_wp2_with fail
      refine (less_at lv 0 HLR.out rfl HTR.out).mono ?_
      rintro e w10 ⟨rfl, B⟩
      clear q0 q1 q2 q3 q4 q5 q6 q7 q8 q9 q10
      replace E := Lib.hid (ext_trans E.out B)
      replace HT := Lib.hid (HT.out.ext B)
      replace HTR := Lib.hid (HTR.out.ext B)
      replace HS := Lib.hid (HS.out.ext B)
      replace HB := Lib.hid (HB.out.ext B)
      replace T1 := Lib.hid (T1.out.ext B)
      replace B1 := Lib.hid (B1.out.ext B)
      replace Z1 := Lib.hid (Z1.out.ext B)
      clear B
      have hwr : IntKind.i64.wrap (n2 - lv) = n2 - lv := IntWalk.i64_in _ (by omega)
      by_cases hd : 0 < n2 - lv
      · have hd' : decide (0 < n2 - lv) = true := decide_eq_true hd
        have e9 : n0 = n2 - lv := by rw [HLV.out]; omega
        subst e9
        go_wp2_with fail
        all_goals go_ret
        all_goals exact ⟨by first | rfl | simp, E.out⟩
      · have e9 : n0 = 0 := by rw [HLV.out]; omega
        subst e9
        go_wp2_with fail
        all_goals first
          | (go_ret; exact ⟨by first | rfl | simp, E.out⟩)
          | omega
    rw [hair] at q0
    have hi1 : z.ix < (t.ss.l.length : Int) := by have := HOK.out.i1; simp only [manyOf, hair] at this; simpa using this
    obtain ⟨x, p1, o1, hx, hA1, hp1, hcx⟩ := HT.out.1.slc.at_ (k := z.ix.toNat) (by omega)
    have HXC := Lib.hid (HPB.out.2.2 hair x hx)
    have hxl := HFEW.out x (List.mem_of_getElem? hx)
    have HXO := Lib.hid (HT.out.1.all (List.mem_of_getElem? hx)).2.2
    have x2 := hcx 2 _ rfl
    have HA1 := Lib.hid hA1
    have g0 : decide (z.ix < 0) = false := decide_eq_false (by omega)
    have g1 : decide (z.ix ≥ (t.ss.l.length : Int)) = false := decide_eq_false (by omega)
    clear hx hA1 hcx
    go_wp2_with fail
    clear g0 g1 q0 q1 q2 q3 q4 q5 q6 q7 q8 q9 q10
    go_loopw [19, 22] (fun a i wr => ∃ k : Nat, k ≤ x.vs.l.length ∧ i = .int .i64 k ∧ a = .int .i64 (vcuts tree leaf z.mi (x.vs.l.take k)) ∧ Hid (Below w9.heap.size w9 wr)) (fun _ i _ => x.vs.l.length - (intOf i).toNat)
    case atStart => exact ⟨0, Nat.zero_le _, rfl, rfl, ext_refl _⟩
    case round =>
      obtain ⟨k, hk, rfl, rfl, HR⟩ := hrel
      replace E := Lib.hid (ext_trans E.out HR.out)
      replace HT := Lib.hid (HT.out.ext HR.out)
      replace HTR := Lib.hid (HTR.out.ext HR.out)
      replace HS := Lib.hid (HS.out.ext HR.out)
      replace HB := Lib.hid (HB.out.ext HR.out)
      replace T1 := Lib.hid (T1.out.ext HR.out)
      replace B1 := Lib.hid (B1.out.ext HR.out)
      replace Z1 := Lib.hid (Z1.out.ext HR.out)
      replace x2 := (HR.out.cell (p := ⟨p1, o1 + z.ix.toNat * 5 + 2, none⟩) hp1).trans x2
      replace hp1 : p1 < wr.heap.size := by have := HR.out.size; omega
      have HXO2 := Lib.hid (SliceOf.ok.ext HXO.out HR.out (fun _ q => q))
      have t1 := T1.out.c 1 _ rfl
      have tl := T1.out.lt
      rw [HA1.out] at t1
      have z1 := Z1.out.c 1 _ rfl
      have z2 := Z1.out.c 2 _ rfl
      have zl := Z1.out.lt
      have hvb := vcuts_pos HOK.out.tr leaf z.mi (x.vs.l.take k)
      have hvb2 : ((x.vs.l.take k).length : Int) ≤ 64 := by rw [List.length_take]; omega
      obtain ⟨cv, hcv⟩ : ∃ r, vcuts tree leaf z.mi (x.vs.l.take k) = r := ⟨_, rfl⟩
      rw [hcv] at hvb ⊢
      obtain ⟨cv0, cv1⟩ := hvb
      have HCV := Lib.hid hcv
      clear hcv
      by_cases hlt : k < x.vs.l.length
      rotate_left
      · have hlt' : decide ((k : Int) < x.vs.l.length) = false := decide_eq_false (by omega)
        have HLV : Hid (n0 = max 0 (n2 - cv)) := by
          have h1 := HCV.out
          rw [List.take_of_length_le (by omega)] at h1
          rw [← h1]; exact HXC.out
        have hwr : IntKind.i64.wrap (n2 - cv) = n2 - cv := IntWalk.i64_in _ (by omega)
        by_cases hd : 0 < n2 - cv
        · have hd' : decide (0 < n2 - cv) = true := decide_eq_true hd
          have e9 : n0 = n2 - cv := by rw [HLV.out]; omega
          subst e9
          go_wp2_with fail
          all_goals go_ret
          all_goals exact ⟨by first | rfl | simp, E.out⟩
        · have e9 : n0 = 0 := by rw [HLV.out]; omega
          subst e9
          go_wp2_with fail
          all_goals first
            | (go_ret; exact ⟨by first | rfl | simp, E.out⟩)
            | omega
      have hlt' : (k : Int) < x.vs.l.length := by omega
      obtain ⟨v, p2, o2, hv, hA2, hp2, hcv⟩ := HXO2.out.slc.at_ hlt
      have HV := Lib.hid hv
      have HA2 := Lib.hid hA2
      have v0 := hcv 0 _ rfl
      simp only [Nat.mul_one, Nat.add_zero] at v0
      clear hv hA2 hcv
      obtain ⟨lv, hlv⟩ : ∃ r, lessN tree leaf false v z.mi = r := ⟨_, rfl⟩
      have hlb := less_pos HOK.out.tr leaf false v z.mi
      rw [hlv] at hlb
      obtain ⟨lv0, lv1⟩ := hlb
      have HLR : Hid (lessR tree leaf false v z.mi = (lv, 0)) := (lessR_ok HOK.out.tr HOK.out.lf).trans (by rw [hlv])
      have HST : Hid (vcuts tree leaf z.mi (x.vs.l.take (k + 1)) = cv + lv) := (vcuts_take HV.out).trans (by rw [HCV.out, hlv])
      have hwr : IntKind.i64.wrap (cv + lv) = cv + lv := IntWalk.i64_in _ (by omega)
      have x2' := x2
      rw [HA2.out] at x2'
      clear hlv
      go_wp2_with fail
      clear x2
      have SS := Lib.hid (show ∀ w', Below wr.heap.size wr w' → (fun w' => Below wr.heap.size wr w' ∧ w'.cell? ⟨w.heap.size, 1, none⟩ = some (.slice (some ⟨p1, o1, none⟩) t.ss.l.length t.ss.c) ∧ w'.cell? ⟨w.heap.size + 1 + 1, 1, none⟩ = some (.int .i64 z.ix) ∧ w'.cell? ⟨w.heap.size + 1 + 1, 2, none⟩ = some (.int .i64 z.mi) ∧ w'.cell? ⟨p1, o1 + z.ix.toNat * 5 + 2, none⟩ = some (.slice (some ⟨p2, o2, none⟩) x.vs.l.length x.vs.c) ∧ w'.cell? ⟨p2, o2 + k, none⟩ = some (.int .i64 v)) w' from fun w' h => ⟨h, (by have q := (T1.out.ext h).c 1 _ rfl; rw [HA1.out] at q; exact q), (Z1.out.ext h).c 1 _ rfl, (Z1.out.ext h).c 2 _ rfl, (h.cell (p := ⟨p1, o1 + z.ix.toNat * 5 + 2, none⟩) hp1).trans x2', (h.cell (p := ⟨p2, o2 + k, none⟩) hp2).trans v0⟩)
      refine rg_begin (S := (fun w' => Below wr.heap.size wr w' ∧ w'.cell? ⟨w.heap.size, 1, none⟩ = some (.slice (some ⟨p1, o1, none⟩) t.ss.l.length t.ss.c) ∧ w'.cell? ⟨w.heap.size + 1 + 1, 1, none⟩ = some (.int .i64 z.ix) ∧ w'.cell? ⟨w.heap.size + 1 + 1, 2, none⟩ = some (.int .i64 z.mi) ∧ w'.cell? ⟨p1, o1 + z.ix.toNat * 5 + 2, none⟩ = some (.slice (some ⟨p2, o2, none⟩) x.vs.l.length x.vs.c) ∧ w'.cell? ⟨p2, o2 + k, none⟩ = some (.int .i64 v))) 20 (by kernel_rfl) (by intro d; cases d <;> intro _ _ _ _ h <;> exact h) ?_ (fun Q7 hQ7 hN7 hHeld => ?_)
      · exact SS.out _ (ext_drew (ext_refl _))
      refine rg_take (i := 0) (some 119) (v := ?_) rfl rfl (by kernel_rfl) (by rfl) hQ7 hHeld ?_ ?_
      rotate_left
      · intro w7 hSw; (try dsimp only at hSw); go_simp; all_goals with_reducible rfl
      try simp only [Act.put, List.setIfInBounds_toArray, List.set_cons_zero, List.set_cons_succ]
      refine rg_take (i := 1) (some 120) (v := ?_) rfl rfl (by kernel_rfl) (by rfl) hQ7 hHeld ?_ ?_
      rotate_left
      · intro w7 hSw; (try dsimp only at hSw); go_simp; all_goals with_reducible rfl
      try simp only [Act.put, List.setIfInBounds_toArray, List.set_cons_zero, List.set_cons_succ]
      refine rg_take (i := 2) (some 121) (v := ?_) rfl rfl (by kernel_rfl) (by rfl) hQ7 hHeld ?_ ?_
      rotate_left
      · intro w7 hSw; (try dsimp only at hSw); go_simp; all_goals with_reducible rfl
      try simp only [Act.put, List.setIfInBounds_toArray, List.set_cons_zero, List.set_cons_succ]
      refine rg_take (i := 3) (some 122) (v := ?_) rfl rfl (by kernel_rfl) (by rfl) hQ7 hHeld ?_ ?_
      rotate_left
      · intro w7 hSw; (try dsimp only at hSw); go_simp; all_goals with_reducible rfl
      try simp only [Act.put, List.setIfInBounds_toArray, List.set_cons_zero, List.set_cons_succ]
      refine rg_take (i := 4) (some 123) (v := ?_) rfl rfl (by kernel_rfl) (by rfl) hQ7 hHeld ?_ ?_
      rotate_left
      · intro w7 hSw; (try dsimp only at hSw); go_simp; all_goals with_reducible rfl
      try simp only [Act.put, List.setIfInBounds_toArray, List.set_cons_zero, List.set_cons_succ]
      refine rg_take (i := 5) (some 124) (v := ?_) rfl rfl (by kernel_rfl) (by rfl) hQ7 hHeld ?_ ?_
      rotate_left
      · intro w7 hSw; (try dsimp only at hSw); go_simp; all_goals with_reducible rfl
      try simp only [Act.put, List.setIfInBounds_toArray, List.set_cons_zero, List.set_cons_succ]
      refine rg_take (i := 6) (some 125) (v := ?_) rfl rfl (by kernel_rfl) (by rfl) hQ7 hHeld ?_ ?_
      rotate_left
      · intro w7 hSw; (try dsimp only at hSw); go_simp; all_goals with_reducible rfl
      try simp only [Act.put, List.setIfInBounds_toArray, List.set_cons_zero, List.set_cons_succ]
      refine rg_take (i := 7) (some 126) (v := ?_) rfl rfl (by kernel_rfl) (by rfl) hQ7 hHeld ?_ ?_
      rotate_left
      · intro w7 hSw; (try dsimp only at hSw); go_simp; all_goals with_reducible rfl
      try simp only [Act.put, List.setIfInBounds_toArray, List.set_cons_zero, List.set_cons_succ]
      refine rg_take (i := 8) (some 127) (v := ?_) rfl rfl (by kernel_rfl) (by rfl) hQ7 hHeld ?_ ?_
      rotate_left
      · intro w7 hSw; (try dsimp only at hSw); go_simp; all_goals with_reducible rfl
      try simp only [Act.put, List.setIfInBounds_toArray, List.set_cons_zero, List.set_cons_succ]
      refine rg_take (i := 9) (some 128) (v := ?_) rfl rfl (by kernel_rfl) (by rfl) hQ7 hHeld ?_ ?_
      rotate_left
      · intro w7 hSw; (try dsimp only at hSw); go_simp; all_goals with_reducible rfl
      try simp only [Act.put, List.setIfInBounds_toArray, List.set_cons_zero, List.set_cons_succ]
      refine rg_take (i := 10) (some 129) (v := ?_) rfl rfl (by kernel_rfl) (by rfl) hQ7 hHeld ?_ ?_
      rotate_left
      · intro w7 hSw; (try dsimp only at hSw); go_simp; all_goals with_reducible rfl
      try simp only [Act.put, List.setIfInBounds_toArray, List.set_cons_zero, List.set_cons_succ]
      refine rg_take (i := 11) (some 130) (v := ?_) rfl rfl (by kernel_rfl) (by rfl) hQ7 hHeld ?_ ?_
      rotate_left
      · intro w7 hSw; (try dsimp only at hSw); go_simp; all_goals with_reducible rfl
      try simp only [Act.put, List.setIfInBounds_toArray, List.set_cons_zero, List.set_cons_succ]
      refine rg_take (i := 12) (some 131) (v := ?_) rfl rfl (by kernel_rfl) (by rfl) hQ7 hHeld ?_ ?_
      rotate_left
      · intro w7 hSw; (try dsimp only at hSw); go_simp; all_goals with_reducible rfl
      try simp only [Act.put, List.setIfInBounds_toArray, List.set_cons_zero, List.set_cons_succ]
      refine rg_take (i := 13) (some 132) (v := ?_) rfl rfl (by kernel_rfl) (by rfl) hQ7 hHeld ?_ ?_
      rotate_left
      · intro w7 hSw; (try dsimp only at hSw); go_simp; all_goals with_reducible rfl
      try simp only [Act.put, List.setIfInBounds_toArray, List.set_cons_zero, List.set_cons_succ]
      refine rg_one (i := 14) (by kernel_rfl) (rg_step rfl (by rfl) (fun K hK => ?_))
      go_simp
      refine (less_at lv 0 HLR.out rfl (HTR.out.ext hHeld.1)).mono ?_
      rintro e u1 ⟨rfl, B1⟩
      go_wp2_with fail
      refine hK.out _ _ ?_ (fun hHeld2 => ?_)
      · exact SS.out _ (ext_trans hHeld.1 B1)
      clear hHeld
      have hHeld := hHeld2
      clear hHeld2
      clear hK K
      try simp only [Act.put, List.setIfInBounds_toArray, List.set_cons_zero, List.set_cons_succ]
      refine rg_take (i := 15) (some 118) (v := ?_) rfl rfl (by kernel_rfl) (by rfl) hQ7 hHeld ?_ ?_
      rotate_left
      · intro w7 hSw; (try dsimp only at hSw); go_simp; all_goals with_reducible rfl
      try simp only [Act.put, List.setIfInBounds_toArray, List.set_cons_zero, List.set_cons_succ]
      refine rg_take (i := 16) (some 134) (v := ?_) rfl rfl (by kernel_rfl) (by rfl) hQ7 hHeld ?_ ?_
      rotate_left
      · intro w7 hSw; (try dsimp only at hSw); go_simp; all_goals with_reducible rfl
      try simp only [Act.put, List.setIfInBounds_toArray, List.set_cons_zero, List.set_cons_succ]
      refine rg_take (i := 17) (some 135) (v := ?_) rfl rfl (by kernel_rfl) (by rfl) hQ7 hHeld ?_ ?_
      rotate_left
      · intro w7 hSw; (try dsimp only at hSw); go_simp; all_goals with_reducible rfl
      try simp only [Act.put, List.setIfInBounds_toArray, List.set_cons_zero, List.set_cons_succ]
      refine rg_take (i := 18) (some 23) (v := ?_) rfl rfl (by kernel_rfl) (by rfl) hQ7 hHeld ?_ ?_
      rotate_left
      · intro w7 hSw; (try dsimp only at hSw); go_simp; all_goals with_reducible rfl
      try simp only [Act.put, List.setIfInBounds_toArray, List.set_cons_zero, List.set_cons_succ]
      refine rg_take (i := 19) (some 24) (v := ?_) rfl rfl (by kernel_rfl) (by rfl) hQ7 hHeld ?_ ?_
      rotate_left
      · intro w7 hSw; (try dsimp only at hSw); go_simp; all_goals with_reducible rfl
      try simp only [Act.put, List.setIfInBounds_toArray, List.set_cons_zero, List.set_cons_succ]
      refine rg_end (by kernel_rfl) (hN7 _ _ ?_) _
      clear hQ7 hN7 Q7
      have BX := hHeld.1
      clear SS
      have HR1 := Lib.hid (ext_trans HR.out BX)
      clear t1 tl z1 z2 zl x2' v0 BX
      go_wp2_with fail
      first | exact ⟨⟨k + 1, by omega, by go_num, by rw [HST.out], HR1.out⟩, by simp [intOf] <;> omega⟩ | (go_roundw; all_goals first | exact ⟨k + 1, by omega, by go_num, by rw [HST.out], HR1.out⟩ | (simp [intOf] <;> omega))
end Go.Proofs.Ytilocjliplmmpaa
