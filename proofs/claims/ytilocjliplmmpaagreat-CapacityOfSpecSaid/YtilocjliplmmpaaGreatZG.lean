/- The reference's Of. -/
import Derived.Test.YtilocjliplmmpaaGreatZE
import Derived.Test.YtilocjliplmmpaaGreatX
set_option linter.unusedSimpArgs false
set_option linter.unusedVariables false
namespace Go.Proofs.YtilocjliplmmpaaGreat
open Go.RowKit
theorem rless_at {A : Option Addr} {n c : Nat} {l : List Nd} {leaf : Int} {a : Bool} {ix m : Int} {w : World} (r e : Int) (hr : lessR l leaf a ix m = (r, e)) (hn : n = l.length) (ha : TOk w A l) : Calls Tryz.prog 39 #[.slice A n c, .int .i64 leaf, .bool a, .int .i64 ix, .int .i64 m] w (RetI w (r, e)) := by
  subst hn; rw [← hr]; exact rless_any A c l leaf a ix m w ha
theorem rleaves_at {A : Option Addr} {n c : Nat} {l : List Nd} {w : World} (r : List Int × Int) (hr : leavesR l = r) (hn : n = l.length) (ha : TOk w A l) : Calls Tryz.prog 36 #[.slice A n c] w (RetP w r) := by
  subst hr hn; exact rleaves_any A c l w ha
theorem vcuts_take {tree : List Nd} {leaf m : Int} {vs : List Int} {k : Nat} {v : Int} (h : vs[k]? = some v) : vcuts tree leaf m (vs.take (k + 1)) = vcuts tree leaf m (vs.take k) + lessN tree leaf false v m := by
  rw [List.take_add_one, h, Option.toList_some]
  generalize vs.take k = L
  induction L with
  | nil => simp [vcuts]
  | cons a r ih => simp only [List.cons_append, vcuts, ih]; omega
theorem seenAll_take {seen : List Bool} {vs : List Int} {k : Nat} {v : Int} (h : vs[k]? = some v) : seenAll seen (vs.take (k + 1)) = (seenAll seen (vs.take k) && (seen[v.toNat]?).getD false) := by
  unfold seenAll
  rw [List.take_add_one, h, Option.toList_some, List.all_append]
  simp
set_option maxRecDepth 100000 in
set_option maxHeartbeats 64000000 in
theorem rof_any (t : Tab) (tA : Option Addr) (tc : Nat) (tree : List Nd) (leaf : Int) (A : Option Addr) (c : Nat) (l : List Chg) (sA : Option Addr) (sc : Nat) (seen : List Bool) (z : Cel) (w : World)
    (ht : Tab.ok w t) (htr : TOk w tA tree) (ha : Slc w Chg.cells 3 A l) (hl : l.length ≤ maxLen) (hao : ∀ y ∈ l, Chg.ok w y) (hs : Slc w bc 1 sA seen) (hsl : seen.length ≤ maxLen) (hfew : ∀ s ∈ t.ss.l, s.vs.l.length ≤ 64) :
    Calls Tryz.prog 15 #[t.v, .slice tA tree.length tc, .int .i64 leaf, .agg #[.slice A l.length c], .slice sA seen.length sc, z.v] w (OfR w (ofN t tree leaf l seen z) (ofE t tree leaf l seen.length z)) := by
  obtain ⟨n, hn⟩ : ∃ n, seen.length = n := ⟨_, rfl⟩
  rw [hn]
  have HNN := Lib.hid hn
  clear hn
  obtain ⟨W, hW⟩ : ∃ W, ((w.alloc (.cells #[.int .i64 t.n, .slice t.ss.A t.ss.l.length t.ss.c, .slice t.cs.A t.cs.l.length t.cs.c, .slice t.ws.A t.ws.l.length t.ws.c, .slice t.ms.A t.ms.l.length t.ms.c, .slice t.ks.A t.ks.l.length t.ks.c] 28)).alloc (.cells #[.slice A l.length c] 31)).alloc (.cells #[.bool z.air, .int .i64 z.ix, .int .i64 z.mi] 47) = W := ⟨_, rfl⟩
  have hz : W.heap.size = w.heap.size + 3 := by rw [← hW]; simp
  have HB : Hid (Blk W w.heap.size t.cells) := by rw [← hW]; exact ((Blk.newH w t.cells 28 w.heap.size rfl).alloc _).alloc _
  have HS : Hid (Blk W (w.heap.size + 1) [.slice A l.length c]) := by rw [← hW]; exact (Blk.newH (w.alloc _) [.slice A l.length c] 31 (w.heap.size + 1) (by simp)).alloc _
  have HZ : Hid (Blk W (w.heap.size + 1 + 1) z.cells) := by rw [← hW]; exact Blk.newH ((w.alloc _).alloc _) z.cells 47 (w.heap.size + 1 + 1) (by simp)
  have HE : Hid (Below w.heap.size w W) := by rw [← hW]; exact ext_alloc (ext_alloc (ext_alloc (ext_refl w) _) _) _
  have HT0 := Lib.hid ht
  have HTR0 := Lib.hid htr
  have HA0 := Lib.hid ha
  have HAO0 := Lib.hid hao
  have HSN0 := Lib.hid hs
  have HFEW := Lib.hid hfew
  have HD : Hid (ofE t tree leaf l n z = if chkS t l ≠ 0 then chkS t l else if vld tree = false then 180 else if leafB tree leaf = false ∨ (n : Int) ≠ t.n ∨ z.mi < 0 ∨ 1440 ≤ z.mi ∨ z.ix < 0 ∨ (manyOf t z.air : Int) ≤ z.ix then 190 else 0) := rfl
  have HNO : Hid (∀ v, ofE t tree leaf l n z = v → v ≠ 0 → ofN t tree leaf l seen z = 0) := fun v h hv => ofN_no (by rw [HNN.out, h]; exact hv)
  obtain ⟨EE, hEE⟩ : ∃ q, ofE t tree leaf l n z = q := ⟨_, rfl⟩
  obtain ⟨NN, hNN⟩ : ∃ q, ofN t tree leaf l seen z = q := ⟨_, rfl⟩
  rw [hEE, hNN]
  rw [hEE] at HD
  rw [hNN] at HNO
  have HEE := Lib.hid hEE
  have HNR := Lib.hid hNN
  clear ht htr ha hao hs hfew hEE hNN
  have b0 := HB.out.c 0 _ rfl
  have b1 := HB.out.c 1 _ rfl
  have b2 := HB.out.c 2 _ rfl
  have b3 := HB.out.c 3 _ rfl
  have b4 := HB.out.c 4 _ rfl
  have b5 := HB.out.c 5 _ rfl
  have s0 := HS.out.c 0 _ rfl
  have z0 := HZ.out.c 0 _ rfl
  have z1 := HZ.out.c 1 _ rfl
  have z2 := HZ.out.c 2 _ rfl
  have zl := HZ.out.lt
  go_enter Tryz.func15, Tryz.ntmps15
  go_wp2_with fail
  clear hW
  clear b0 b1 b2 b3 b4 b5 s0 z0 z1 z2 zl
  obtain ⟨v, hv⟩ : ∃ v, chkS t l = v := ⟨_, rfl⟩
  rw [hv] at HD
  refine (rcheck_sat v hv rfl (HT0.out.ext HE.out) (HA0.out.ext HE.out) hl (fun y hy => (HAO0.out y hy).ext HE.out)).mono ?_
  rintro e w1 ⟨rfl, B⟩
  replace HE := Lib.hid (ext_trans HE.out B)
  replace HB := Lib.hid (HB.out.ext B)
  replace HS := Lib.hid (HS.out.ext B)
  replace HZ := Lib.hid (HZ.out.ext B)
  have HCH := Lib.hid hv
  clear B hv hz
  by_cases h1 : v = 0
  rotate_left
  · have e1 : (v != 0) = true := by simpa using h1
    rw [if_pos h1] at HD
    have HN0 := Lib.hid (HNO.out v (HEE.out.trans HD.out) h1)
    clear h1
    go_wp2_with fail
    go_ret2
    rw [HD.out, HN0.out]
    exact ⟨rfl, HE.out⟩
  subst h1
  rw [if_neg (by simp)] at HD
  cases htv : vld tree
  · have HLR : Hid (leavesR tree = ([], 180)) := by simp [Hid, leavesR, htv]
    rw [if_pos htv] at HD
    have HN0 := Lib.hid (HNO.out 180 (HEE.out.trans HD.out) (by decide))
    go_wp2_with fail
    refine (rleaves_at _ HLR.out rfl (HTR0.out.ext HE.out)).mono ?_
    rintro e w2 ⟨A2, c2, rfl, hL, B⟩
    go_wp2_with fail
    go_ret2
    rw [HD.out, HN0.out]
    exact ⟨rfl, ext_trans HE.out B⟩
  have HLR : Hid (leavesR tree = (leaves tree, 0)) := by simp [Hid, leavesR, htv]
  rw [if_neg (by simp [htv])] at HD
  have HTV := Lib.hid htv
  clear htv
  go_wp2_with fail
  refine (rleaves_at _ HLR.out rfl (HTR0.out.ext HE.out)).mono ?_
  rintro e w2 ⟨A2, c2, rfl, hL, B⟩
  have HLV := Lib.hid hL
  replace HE := Lib.hid (ext_trans HE.out B)
  replace HB := Lib.hid (HB.out.ext B)
  replace HS := Lib.hid (HS.out.ext B)
  replace HZ := Lib.hid (HZ.out.ext B)
  clear B hL HLR
  have hll : (leaves tree).length ≤ maxLen := by
    have := leaves_le tree (fun _ => true)
    have h32 := (tree_of HTV.out).hi
    have : (leaves tree).length ≤ tree.length := this
    unfold maxLen; omega
  have hsl2 := (HT0.out.ext HE.out).1.len
  have hml2 := (HT0.out.ext HE.out).2.2.2.1.len
  unfold maxLen at hsl2 hml2
  have b0 := HB.out.c 0 _ rfl
  have b1 := HB.out.c 1 _ rfl
  have b2 := HB.out.c 2 _ rfl
  have b3 := HB.out.c 3 _ rfl
  have b4 := HB.out.c 4 _ rfl
  have b5 := HB.out.c 5 _ rfl
  have s0 := HS.out.c 0 _ rfl
  have z0 := HZ.out.c 0 _ rfl
  have z1 := HZ.out.c 1 _ rfl
  have z2 := HZ.out.c 2 _ rfl
  have zl := HZ.out.lt
  obtain ⟨my, hmy⟩ : ∃ q, manyOf t z.air = q := ⟨_, rfl⟩
  rw [hmy] at HD
  have HMY := Lib.hid hmy
  clear hmy
  obtain ⟨lb, hlb⟩ : ∃ r, leafB tree leaf = r := ⟨_, rfl⟩
  rw [hlb] at HD
  obtain ⟨air, hair⟩ : ∃ a, z.air = a := ⟨_, rfl⟩
  have HAIR := Lib.hid hair
  rw [hair] at z0
  clear hair
  cases air
  · have hmy : my = t.ss.l.length := by have := HMY.out; rw [HAIR.out] at this; exact this.symm
    go_wp2_with fail
    clear b0 b1 b2 b3 b4 b5 s0 z0 z1 z2 zl
    refine (has9_at lb (leaves_has.trans hlb) rfl HLV.out hll).mono ?_
    rintro e w5 ⟨rfl, B⟩
    replace HE := Lib.hid (ext_trans HE.out B)
    replace HB := Lib.hid (HB.out.ext B)
    replace HS := Lib.hid (HS.out.ext B)
    replace HZ := Lib.hid (HZ.out.ext B)
    clear B HLV
    have b0 := HB.out.c 0 _ rfl
    have b1 := HB.out.c 1 _ rfl
    have b2 := HB.out.c 2 _ rfl
    have b3 := HB.out.c 3 _ rfl
    have b4 := HB.out.c 4 _ rfl
    have b5 := HB.out.c 5 _ rfl
    have s0 := HS.out.c 0 _ rfl
    have z0 := HZ.out.c 0 _ rfl
    have z1 := HZ.out.c 1 _ rfl
    have z2 := HZ.out.c 2 _ rfl
    have zl := HZ.out.lt
    rw [HAIR.out] at z0
    cases lb
    · rw [if_pos (.inl rfl)] at HD
      have HN0 := Lib.hid (HNO.out 190 (HEE.out.trans HD.out) (by decide))
      go_wp2_with fail
      go_ret2
      rw [HD.out, HN0.out]
      exact ⟨rfl, HE.out⟩
    by_cases h2 : (n : Int) = t.n
    rotate_left
    · have e2 : ((n : Int) != t.n) = true := by simpa using h2
      rw [if_pos (.inr (.inl h2))] at HD
      have HN0 := Lib.hid (HNO.out 190 (HEE.out.trans HD.out) (by decide))
      clear h2
      go_wp2_with fail
      go_ret2
      rw [HD.out, HN0.out]
      exact ⟨rfl, HE.out⟩
    have e2 : ((n : Int) != t.n) = false := by simpa using h2
    have H2 := Lib.hid h2
    clear h2
    by_cases h3 : z.mi < 0
    · have e3 : decide (z.mi < 0) = true := decide_eq_true (by omega)
      rw [if_pos (.inr (.inr (.inl h3)))] at HD
      have HN0 := Lib.hid (HNO.out 190 (HEE.out.trans HD.out) (by decide))
      clear h3
      go_wp2_with fail
      go_ret2
      rw [HD.out, HN0.out]
      exact ⟨rfl, HE.out⟩
    have e3 : decide (z.mi < 0) = false := decide_eq_false (by omega)
    by_cases h4 : 1440 ≤ z.mi
    · have e4 : decide (z.mi ≥ 1440) = true := decide_eq_true (by omega)
      rw [if_pos (.inr (.inr (.inr (.inl h4))))] at HD
      have HN0 := Lib.hid (HNO.out 190 (HEE.out.trans HD.out) (by decide))
      clear h4
      go_wp2_with fail
      go_ret2
      rw [HD.out, HN0.out]
      exact ⟨rfl, HE.out⟩
    have e4 : decide (z.mi ≥ 1440) = false := decide_eq_false (by omega)
    by_cases h5 : z.ix < 0
    · have e5 : decide (z.ix < 0) = true := decide_eq_true (by omega)
      rw [if_pos (.inr (.inr (.inr (.inr (.inl h5)))))] at HD
      have HN0 := Lib.hid (HNO.out 190 (HEE.out.trans HD.out) (by decide))
      clear h5
      go_wp2_with fail
      go_ret2
      rw [HD.out, HN0.out]
      exact ⟨rfl, HE.out⟩
    have e5 : decide (z.ix < 0) = false := decide_eq_false (by omega)
    by_cases h6 : (my : Int) ≤ z.ix
    · have e6 : decide (z.ix ≥ (t.ss.l.length : Int)) = true := decide_eq_true (by omega)
      rw [if_pos (.inr (.inr (.inr (.inr (.inr h6)))))] at HD
      have HN0 := Lib.hid (HNO.out 190 (HEE.out.trans HD.out) (by decide))
      clear h6
      go_wp2_with fail
      go_ret2
      rw [HD.out, HN0.out]
      exact ⟨rfl, HE.out⟩
    have e6 : decide (z.ix ≥ (t.ss.l.length : Int)) = false := decide_eq_false (by omega)
    rw [if_neg (by
      have := H2.out
      simp only [Bool.true_eq_false, ne_eq, false_or, not_or, Decidable.not_not, Int.not_lt, Int.not_le]
      exact ⟨this, by omega, by omega, by omega, by omega⟩)] at HD
    have HOK : Hid (OfOk t tree leaf l seen.length z) := by
      have := H2.out
      have hm := HMY.out
      exact ⟨(chkS_ok.1 HCH.out).1, (chkS_ok.1 HCH.out).2, HTV.out, hlb, by rw [HNN.out]; exact this, by omega, by omega, by omega, by rw [hm]; omega⟩
    obtain ⟨now, hnow, hnl⟩ := HOK.out.now
    have HNW := Lib.hid hnow
    have HFT := Lib.hid (HOK.out.vs.fit now hnl)
    have HNM := Lib.hid hnl
    have HPL : Hid (NN = placesR t tree leaf now seen z) := HNR.out.symm.trans (ofN_ok HOK.out hnow)
    have HLF := Lib.hid hlb
    clear hnow hnl hlb HNO HCH
    go_wp2_with fail
    clear b0 b1 b2 b3 b4 b5 s0 z0 z1 z2 zl e2 e3 e4 e5 e6
    refine (rin_at (some now) HNW.out rfl (HA0.out.ext HE.out) hl).mono ?_
    rintro e w6 ⟨rfl, B⟩
    simp only [Option.isSome_some, Option.getD_some]
    have BW := ext_trans B (ext_alloc (ext_refl w6) (.cells #[.int .i64 now.f, .int .i64 now.cfg, .slice now.ms.A now.ms.l.length now.ms.c] 34))
    obtain ⟨w7, hw7⟩ : ∃ x, w6.alloc (.cells #[.int .i64 now.f, .int .i64 now.cfg, .slice now.ms.A now.ms.l.length now.ms.c] 34) = x := ⟨_, rfl⟩
    have HNB := Lib.hid (show Blk w7 w6.heap.size now.cells by rw [← hw7]; exact Blk.newH w6 now.cells 34 w6.heap.size rfl)
    rw [hw7] at BW
    replace HE := Lib.hid (ext_trans HE.out BW)
    replace HB := Lib.hid (HB.out.ext BW)
    replace HS := Lib.hid (HS.out.ext BW)
    replace HZ := Lib.hid (HZ.out.ext BW)
    have hz7 : w7.heap.size = w6.heap.size + 1 := by rw [← hw7]; simp
    clear B BW
    have b0 := HB.out.c 0 _ rfl
    have b1 := HB.out.c 1 _ rfl
    have b2 := HB.out.c 2 _ rfl
    have b3 := HB.out.c 3 _ rfl
    have b4 := HB.out.c 4 _ rfl
    have b5 := HB.out.c 5 _ rfl
    have s0 := HS.out.c 0 _ rfl
    have z0 := HZ.out.c 0 _ rfl
    have z1 := HZ.out.c 1 _ rfl
    have z2 := HZ.out.c 2 _ rfl
    have zl := HZ.out.lt
    rw [HAIR.out] at z0
    go_wp2_with fail
    clear hw7
    have T7 := HT0.out.ext HE.out
    obtain ⟨_, _, f0, f1⟩ := fits_f HFT.out
    have hi0 : 0 ≤ z.ix := by omega
    have hi1 : z.ix < (t.ss.l.length : Int) := by omega
    obtain ⟨g, q1, o1, hg, hA1, hq1, hc1⟩ := T7.2.1.slc.at_ (k := now.cfg.toNat) (by omega)
    obtain ⟨x, q2, o2, hx, hA2, hq2, hc2⟩ := T7.1.slc.at_ (k := z.ix.toNat) (by omega)
    have g2 := hc1 2 _ rfl
    have HR := Lib.hid hc2
    have HGO := Lib.hid (T7.2.1.all (List.mem_of_getElem? hg))
    have HA1 := Lib.hid hA1
    have HA2 := Lib.hid hA2
    have HXM := Lib.hid (List.mem_of_getElem? hx)
    obtain ⟨r, hr⟩ : ∃ r, g.ss.l.any (· == z.ix) = r := ⟨_, rfl⟩
    have HC := Lib.hid hr
    have HPR : Hid (placesR t tree leaf now seen z = if r then max 0 ((if seenAll seen x.vs.l then x.rad else x.pro) - vcuts tree leaf z.mi x.vs.l) else 0) := by
      simp only [Hid, placesR, HAIR.out, Bool.false_eq_true, if_false, hg, hx, hr]
    have HDV : Hid (r = true → ∀ v ∈ x.vs.l, 0 ≤ v ∧ v < (n : Int)) := fun hr1 v hv => by
      have h1 := tab_ok HOK.out.tab
      have := div_in h1.div (List.mem_of_getElem? hg) (by rw [hr]; exact hr1) hx v hv
      have h2 := H2.out
      have h3 := h1.n0
      omega
    have HSB := Lib.hid ((tab_ok HOK.out.tab).sec x HXM.out)
    clear T7 hg hx hA1 hA2 hc1 hc2 hmy hr b0 b1 b3 b4 b5 s0 z0 z2
    have SS := Lib.hid (show ∀ w', Below w7.heap.size w7 w' → (fun w' => Below w7.heap.size w7 w' ∧ w'.cell? ⟨w.heap.size, 2, none⟩ = some (.slice (some ⟨q1, o1, none⟩) t.cs.l.length t.cs.c) ∧ w'.cell? ⟨w.heap.size + 1 + 1, 1, none⟩ = some (.int .i64 z.ix) ∧ w'.cell? ⟨w6.heap.size, 1, none⟩ = some (.int .i64 now.cfg) ∧ w'.cell? ⟨q1, o1 + now.cfg.toNat * 3 + 2, none⟩ = some (.slice g.ss.A g.ss.l.length g.ss.c)) w' from fun w' h => ⟨h, (by have q := (HB.out.ext h).c 2 _ rfl; rw [HA1.out] at q; exact q), (HZ.out.ext h).c 1 _ rfl, (HNB.out.ext h).c 1 _ rfl, (h.cell (p := ⟨q1, o1 + now.cfg.toNat * 3 + 2, none⟩) hq1).trans g2⟩)
    refine rg_begin (S := (fun w' => Below w7.heap.size w7 w' ∧ w'.cell? ⟨w.heap.size, 2, none⟩ = some (.slice (some ⟨q1, o1, none⟩) t.cs.l.length t.cs.c) ∧ w'.cell? ⟨w.heap.size + 1 + 1, 1, none⟩ = some (.int .i64 z.ix) ∧ w'.cell? ⟨w6.heap.size, 1, none⟩ = some (.int .i64 now.cfg) ∧ w'.cell? ⟨q1, o1 + now.cfg.toNat * 3 + 2, none⟩ = some (.slice g.ss.A g.ss.l.length g.ss.c))) 11 (by kernel_rfl) (by intro d; cases d <;> intro _ _ _ _ h <;> exact h) ?_ (fun Q7 hQ7 hN7 hHeld => ?_)
    · exact SS.out _ (ext_drew (ext_refl _))
    refine rg_take (i := 0) (some 117) (v := ?_) rfl rfl (by kernel_rfl) (by rfl) hQ7 hHeld ?_ ?_
    rotate_left
    · intro w7 hSw; (try dsimp only at hSw); go_simp; all_goals with_reducible rfl
    try simp only [Act.put, List.setIfInBounds_toArray, List.set_cons_zero, List.set_cons_succ]
    refine rg_take (i := 1) (some 118) (v := ?_) rfl rfl (by kernel_rfl) (by rfl) hQ7 hHeld ?_ ?_
    rotate_left
    · intro w7 hSw; (try dsimp only at hSw); go_simp; all_goals with_reducible rfl
    try simp only [Act.put, List.setIfInBounds_toArray, List.set_cons_zero, List.set_cons_succ]
    refine rg_take (i := 2) (some 119) (v := ?_) rfl rfl (by kernel_rfl) (by rfl) hQ7 hHeld ?_ ?_
    rotate_left
    · intro w7 hSw; (try dsimp only at hSw); go_simp; all_goals with_reducible rfl
    try simp only [Act.put, List.setIfInBounds_toArray, List.set_cons_zero, List.set_cons_succ]
    refine rg_take (i := 3) (some 120) (v := ?_) rfl rfl (by kernel_rfl) (by rfl) hQ7 hHeld ?_ ?_
    rotate_left
    · intro w7 hSw; (try dsimp only at hSw); go_simp; all_goals with_reducible rfl
    try simp only [Act.put, List.setIfInBounds_toArray, List.set_cons_zero, List.set_cons_succ]
    refine rg_take (i := 4) (some 121) (v := ?_) rfl rfl (by kernel_rfl) (by rfl) hQ7 hHeld ?_ ?_
    rotate_left
    · intro w7 hSw; (try dsimp only at hSw); go_simp; all_goals with_reducible rfl
    try simp only [Act.put, List.setIfInBounds_toArray, List.set_cons_zero, List.set_cons_succ]
    refine rg_take (i := 5) (some 122) (v := ?_) rfl rfl (by kernel_rfl) (by rfl) hQ7 hHeld ?_ ?_
    rotate_left
    · intro w7 hSw; (try dsimp only at hSw); go_simp; all_goals with_reducible rfl
    try simp only [Act.put, List.setIfInBounds_toArray, List.set_cons_zero, List.set_cons_succ]
    refine rg_take (i := 6) (some 123) (v := ?_) rfl rfl (by kernel_rfl) (by rfl) hQ7 hHeld ?_ ?_
    rotate_left
    · intro w7 hSw; (try dsimp only at hSw); go_simp; all_goals with_reducible rfl
    try simp only [Act.put, List.setIfInBounds_toArray, List.set_cons_zero, List.set_cons_succ]
    refine rg_take (i := 7) (some 124) (v := ?_) rfl rfl (by kernel_rfl) (by rfl) hQ7 hHeld ?_ ?_
    rotate_left
    · intro w7 hSw; (try dsimp only at hSw); go_simp; all_goals with_reducible rfl
    try simp only [Act.put, List.setIfInBounds_toArray, List.set_cons_zero, List.set_cons_succ]
    refine rg_take (i := 8) (some 125) (v := ?_) rfl rfl (by kernel_rfl) (by rfl) hQ7 hHeld ?_ ?_
    rotate_left
    · intro w7 hSw; (try dsimp only at hSw); go_simp; all_goals with_reducible rfl
    try simp only [Act.put, List.setIfInBounds_toArray, List.set_cons_zero, List.set_cons_succ]
    refine rg_one (i := 9) (by kernel_rfl) (rg_step rfl (by rfl) (fun K hK => ?_))
    go_simp
    refine (has9_at r HC.out rfl ((HGO.out.2.2.slc).ext hHeld.1) HGO.out.2.2.len).mono ?_
    rintro e u1 ⟨rfl, B1⟩
    go_wp2_with fail
    refine hK.out _ _ ?_ (fun hHeld2 => ?_)
    · exact SS.out _ (ext_trans hHeld.1 B1)
    clear hHeld
    have hHeld := hHeld2
    clear hHeld2
    clear hK K
    try simp only [Act.put, List.setIfInBounds_toArray, List.set_cons_zero, List.set_cons_succ]
    refine rg_take (i := 10) (some 127) (v := ?_) rfl rfl (by kernel_rfl) (by rfl) hQ7 hHeld ?_ ?_
    rotate_left
    · intro w7 hSw; (try dsimp only at hSw); go_simp; all_goals with_reducible rfl
    try simp only [Act.put, List.setIfInBounds_toArray, List.set_cons_zero, List.set_cons_succ]
    refine rg_end (by kernel_rfl) (hN7 _ _ ?_) _
    clear hQ7 hN7 Q7
    have BX := hHeld.1
    clear SS
    clear g2 b2 z1 zl
    replace HE := Lib.hid (ext_trans HE.out BX)
    replace HB := Lib.hid (HB.out.ext BX)
    replace HZ := Lib.hid (HZ.out.ext BX)
    cases r
    · go_wp2_with fail
      go_ret2
      rw [HD.out, HPL.out, HPR.out]
      exact ⟨rfl, HE.out⟩
    have a1 := HB.out.c 1 _ rfl
    have HXC : Hid (∀ j v, x.cells[j]? = some v → u1.cell? ⟨q2, o2 + z.ix.toNat * 5 + j, none⟩ = some v) := fun j v hv => (BX.cell (p := ⟨q2, o2 + z.ix.toNat * 5 + j, none⟩) hq2).trans (HR.out j v hv)
    have hq2' : q2 < u1.heap.size := by have := BX.size; omega
    rw [HA2.out] at a1
    have r0 := HXC.out 0 _ rfl
    have r1 := HXC.out 1 _ rfl
    have r2 := HXC.out 2 _ rfl
    have r3 := HXC.out 3 _ rfl
    have r4 := HXC.out 4 _ rfl
    simp only [Nat.add_zero] at r0
    have z1 := HZ.out.c 1 _ rfl
    have zl := HZ.out.lt
    have al := HB.out.lt
    obtain ⟨W1, hW1⟩ : ∃ W, u1.alloc (.cells #[.string x.nm, .slice x.ns.A x.ns.n x.ns.c, .slice x.vs.A x.vs.l.length x.vs.c, .int .i64 x.rad, .int .i64 x.pro] 100) = W := ⟨_, rfl⟩
    have hzz : W1.heap.size = u1.heap.size + 1 := by rw [← hW1]; simp
    have HX1 : Hid (Blk W1 u1.heap.size x.cells) := by rw [← hW1]; exact Blk.newH u1 x.cells 100 u1.heap.size rfl
    have B1 : Below u1.heap.size u1 W1 := by rw [← hW1]; exact ext_alloc (ext_refl u1) _
    replace HE := Lib.hid (ext_trans HE.out B1)
    replace HZ := Lib.hid (HZ.out.ext B1)
    have x3 := HX1.out.c 3 _ rfl
    have xl := HX1.out.lt
    have hxo := Lib.hid (ints.ext (HT0.out.1.all HXM.out).2.2 HE.out)
    have hvl := hxo.out.len
    have hfw := HFEW.out x HXM.out
    unfold maxLen at hvl
    have HDX := Lib.hid (HDV.out rfl)
    clear BX B1 HDV
    go_wp2_with fail
    clear hW1 a1 r0 r1 r2 r3 r4 z1 zl al x3 xl HXC HR
    go_loopw [22, 23, 24] (fun a b i wr => ∃ (k : Nat) (rk lk : Int), k ≤ x.vs.l.length ∧ a = .int .i64 rk ∧ b = .int .i64 lk ∧ i = .int .i64 k ∧ Hid (rk = if seenAll seen (x.vs.l.take k) then x.rad else x.pro) ∧ Hid (lk = vcuts tree leaf z.mi (x.vs.l.take k)) ∧ Hid (Below W1.heap.size W1 wr)) (fun _ _ i _ => x.vs.l.length - (intOf i).toNat)
    case atStart => exact ⟨0, x.rad, 0, Nat.zero_le _, rfl, rfl, rfl, rfl, rfl, ext_refl _⟩
    case round =>
      obtain ⟨k, rk, lk, hk, rfl, rfl, rfl, HRK, HLK, HRR⟩ := hrel
      have x2 := (HX1.out.ext HRR.out).c 2 _ rfl
      have xl := (HX1.out.ext HRR.out).lt
      have hlk : 0 ≤ lk ∧ lk ≤ 10000000 := by
        have h1 := vcuts_pos HTV.out leaf z.mi (x.vs.l.take k)
        rw [← HLK.out] at h1
        have : (x.vs.l.take k).length ≤ 64 := by rw [List.length_take]; omega
        omega
      obtain ⟨hl0, hl1⟩ := hlk
      by_cases hlt : k < x.vs.l.length
      · have hlt' : (k : Int) < x.vs.l.length := by omega
        obtain ⟨vv, q5, o5, hvv, hA5, hq5, hc5⟩ := (hxo.out.slc.ext HRR.out).at_ hlt
        obtain ⟨v0, v1⟩ := HDX.out vv (List.mem_of_getElem? hvv)
        obtain ⟨sv, q6, o6, hsv, hA6, hq6, hc6⟩ := (HSN0.out.ext (ext_trans HE.out HRR.out)).at_ (k := vv.toNat) (by have := HNN.out; omega)
        have HSK := Lib.hid (seenAll_take (seen := seen) hvv)
        have HVK := Lib.hid (vcuts_take (tree := tree) (leaf := leaf) (m := z.mi) hvv)
        have HSV : Hid ((seen[vv.toNat]?).getD false = sv) := by simp [Hid, hsv]
        have d5 := hc5 0 _ rfl
        have d6 := hc6 0 _ rfl
        simp only [Nat.mul_one, Nat.add_zero] at d5 d6
        have HA5 := Lib.hid hA5
        rw [hA5] at x2
        obtain ⟨lv, hlv⟩ : ∃ r, lessN tree leaf false vv z.mi = r := ⟨_, rfl⟩
        have hlb := less_pos HTV.out leaf false vv z.mi
        rw [hlv] at hlb
        obtain ⟨lv0, lv1⟩ := hlb
        have HLV2 := Lib.hid hlv
        have hwr : IntKind.i64.wrap (lk + lv) = lk + lv := IntWalk.i64_in _ (by omega)
        have z2 := ((HZ.out.ext HRR.out)).c 2 _ rfl
        have x4 := (HX1.out.ext HRR.out).c 4 _ rfl
        have zl := (HZ.out.ext HRR.out).lt
        subst hA6
        clear hvv hsv hc5 hc6 hA5 hlv
        cases sv
        · have HNK : Hid (x.pro = if seenAll seen (x.vs.l.take (k + 1)) then x.rad else x.pro) := by rw [Hid, HSK.out, HSV.out, Bool.and_false]; rfl
          have HNL : Hid (lk + lv = vcuts tree leaf z.mi (x.vs.l.take (k + 1))) := by rw [Hid, HVK.out, ← HLK.out, HLV2.out]
          go_wp2_with fail
          have SS := Lib.hid (show ∀ w', Below wr.heap.size wr w' → (fun w' => Below wr.heap.size wr w' ∧ w'.cell? ⟨u1.heap.size, 2, none⟩ = some (.slice (some ⟨q5, o5, none⟩) x.vs.l.length x.vs.c) ∧ w'.cell? ⟨w.heap.size + 1 + 1, 2, none⟩ = some (.int .i64 z.mi) ∧ w'.cell? ⟨q5, o5 + k, none⟩ = some (.int .i64 vv)) w' from fun w' h => ⟨h, (by have q := ((HX1.out.ext HRR.out).ext h).c 2 _ rfl; rw [HA5.out] at q; exact q), ((HZ.out.ext HRR.out).ext h).c 2 _ rfl, (h.cell (p := ⟨q5, o5 + k, none⟩) hq5).trans d5⟩)
          refine rg_begin (S := (fun w' => Below wr.heap.size wr w' ∧ w'.cell? ⟨u1.heap.size, 2, none⟩ = some (.slice (some ⟨q5, o5, none⟩) x.vs.l.length x.vs.c) ∧ w'.cell? ⟨w.heap.size + 1 + 1, 2, none⟩ = some (.int .i64 z.mi) ∧ w'.cell? ⟨q5, o5 + k, none⟩ = some (.int .i64 vv))) 15 (by kernel_rfl) (by intro d; cases d <;> intro _ _ _ _ h <;> exact h) ?_ (fun Q7 hQ7 hN7 hHeld => ?_)
          · exact SS.out _ (ext_drew (ext_refl _))
          refine rg_take (i := 0) (some 155) (v := ?_) rfl rfl (by kernel_rfl) (by rfl) hQ7 hHeld ?_ ?_
          rotate_left
          · intro w7 hSw; (try dsimp only at hSw); go_simp; all_goals with_reducible rfl
          try simp only [Act.put, List.setIfInBounds_toArray, List.set_cons_zero, List.set_cons_succ]
          refine rg_take (i := 1) (some 156) (v := ?_) rfl rfl (by kernel_rfl) (by rfl) hQ7 hHeld ?_ ?_
          rotate_left
          · intro w7 hSw; (try dsimp only at hSw); go_simp; all_goals with_reducible rfl
          try simp only [Act.put, List.setIfInBounds_toArray, List.set_cons_zero, List.set_cons_succ]
          refine rg_take (i := 2) (some 157) (v := ?_) rfl rfl (by kernel_rfl) (by rfl) hQ7 hHeld ?_ ?_
          rotate_left
          · intro w7 hSw; (try dsimp only at hSw); go_simp; all_goals with_reducible rfl
          try simp only [Act.put, List.setIfInBounds_toArray, List.set_cons_zero, List.set_cons_succ]
          refine rg_take (i := 3) (some 158) (v := ?_) rfl rfl (by kernel_rfl) (by rfl) hQ7 hHeld ?_ ?_
          rotate_left
          · intro w7 hSw; (try dsimp only at hSw); go_simp; all_goals with_reducible rfl
          try simp only [Act.put, List.setIfInBounds_toArray, List.set_cons_zero, List.set_cons_succ]
          refine rg_take (i := 4) (some 159) (v := ?_) rfl rfl (by kernel_rfl) (by rfl) hQ7 hHeld ?_ ?_
          rotate_left
          · intro w7 hSw; (try dsimp only at hSw); go_simp; all_goals with_reducible rfl
          try simp only [Act.put, List.setIfInBounds_toArray, List.set_cons_zero, List.set_cons_succ]
          refine rg_take (i := 5) (some 160) (v := ?_) rfl rfl (by kernel_rfl) (by rfl) hQ7 hHeld ?_ ?_
          rotate_left
          · intro w7 hSw; (try dsimp only at hSw); go_simp; all_goals with_reducible rfl
          try simp only [Act.put, List.setIfInBounds_toArray, List.set_cons_zero, List.set_cons_succ]
          refine rg_take (i := 6) (some 161) (v := ?_) rfl rfl (by kernel_rfl) (by rfl) hQ7 hHeld ?_ ?_
          rotate_left
          · intro w7 hSw; (try dsimp only at hSw); go_simp; all_goals with_reducible rfl
          try simp only [Act.put, List.setIfInBounds_toArray, List.set_cons_zero, List.set_cons_succ]
          refine rg_take (i := 7) (some 162) (v := ?_) rfl rfl (by kernel_rfl) (by rfl) hQ7 hHeld ?_ ?_
          rotate_left
          · intro w7 hSw; (try dsimp only at hSw); go_simp; all_goals with_reducible rfl
          try simp only [Act.put, List.setIfInBounds_toArray, List.set_cons_zero, List.set_cons_succ]
          refine rg_take (i := 8) (some 163) (v := ?_) rfl rfl (by kernel_rfl) (by rfl) hQ7 hHeld ?_ ?_
          rotate_left
          · intro w7 hSw; (try dsimp only at hSw); go_simp; all_goals with_reducible rfl
          try simp only [Act.put, List.setIfInBounds_toArray, List.set_cons_zero, List.set_cons_succ]
          refine rg_one (i := 9) (by kernel_rfl) (rg_step rfl (by rfl) (fun K hK => ?_))
          go_simp
          refine (rless_at (w := _) lv 0 (by rw [lessR_ok HTV.out HLF.out, HLV2.out]) rfl ((HTR0.out.ext (ext_trans HE.out HRR.out)).ext hHeld.1)).mono ?_
          rintro e u5 ⟨rfl, B5⟩
          go_wp2_with fail
          refine hK.out _ _ ?_ (fun hHeld2 => ?_)
          · exact SS.out _ (ext_trans hHeld.1 B5)
          clear hHeld
          have hHeld := hHeld2
          clear hHeld2
          clear hK K
          try simp only [Act.put, List.setIfInBounds_toArray, List.set_cons_zero, List.set_cons_succ]
          refine rg_take (i := 10) (some 154) (v := ?_) rfl rfl (by kernel_rfl) (by rfl) hQ7 hHeld ?_ ?_
          rotate_left
          · intro w7 hSw; (try dsimp only at hSw); go_simp; all_goals with_reducible rfl
          try simp only [Act.put, List.setIfInBounds_toArray, List.set_cons_zero, List.set_cons_succ]
          refine rg_take (i := 11) (some 165) (v := ?_) rfl rfl (by kernel_rfl) (by rfl) hQ7 hHeld ?_ ?_
          rotate_left
          · intro w7 hSw; (try dsimp only at hSw); go_simp; all_goals with_reducible rfl
          try simp only [Act.put, List.setIfInBounds_toArray, List.set_cons_zero, List.set_cons_succ]
          refine rg_take (i := 12) (some 166) (v := ?_) rfl rfl (by kernel_rfl) (by rfl) hQ7 hHeld ?_ ?_
          rotate_left
          · intro w7 hSw; (try dsimp only at hSw); go_simp; all_goals with_reducible rfl
          try simp only [Act.put, List.setIfInBounds_toArray, List.set_cons_zero, List.set_cons_succ]
          refine rg_take (i := 13) (some 25) (v := ?_) rfl rfl (by kernel_rfl) (by rfl) hQ7 hHeld ?_ ?_
          rotate_left
          · intro w7 hSw; (try dsimp only at hSw); go_simp; all_goals with_reducible rfl
          try simp only [Act.put, List.setIfInBounds_toArray, List.set_cons_zero, List.set_cons_succ]
          refine rg_take (i := 14) (some 26) (v := ?_) rfl rfl (by kernel_rfl) (by rfl) hQ7 hHeld ?_ ?_
          rotate_left
          · intro w7 hSw; (try dsimp only at hSw); go_simp; all_goals with_reducible rfl
          try simp only [Act.put, List.setIfInBounds_toArray, List.set_cons_zero, List.set_cons_succ]
          refine rg_end (by kernel_rfl) (hN7 _ _ ?_) _
          clear hQ7 hN7 Q7
          have BX := hHeld.1
          clear SS
          have HR1 := Lib.hid (ext_trans HRR.out BX)
          clear x2 xl d5 d6 z2 x4 zl BX
          go_wp2_with fail
          first | exact ⟨⟨k + 1, x.pro, lk + lv, by omega, rfl, by go_num, by go_num, HNK.out, HNL.out, HR1.out⟩, by simp [intOf] <;> omega⟩ | (go_roundw; all_goals first | exact ⟨k + 1, x.pro, lk + lv, by omega, rfl, by go_num, by go_num, HNK.out, HNL.out, HR1.out⟩ | (simp [intOf] <;> omega))
        · have HNK : Hid (rk = if seenAll seen (x.vs.l.take (k + 1)) then x.rad else x.pro) := by rw [Hid, HSK.out, HSV.out, Bool.and_true]; exact HRK.out
          have HNL : Hid (lk + lv = vcuts tree leaf z.mi (x.vs.l.take (k + 1))) := by rw [Hid, HVK.out, ← HLK.out, HLV2.out]
          go_wp2_with fail
          have SS := Lib.hid (show ∀ w', Below wr.heap.size wr w' → (fun w' => Below wr.heap.size wr w' ∧ w'.cell? ⟨u1.heap.size, 2, none⟩ = some (.slice (some ⟨q5, o5, none⟩) x.vs.l.length x.vs.c) ∧ w'.cell? ⟨w.heap.size + 1 + 1, 2, none⟩ = some (.int .i64 z.mi) ∧ w'.cell? ⟨q5, o5 + k, none⟩ = some (.int .i64 vv)) w' from fun w' h => ⟨h, (by have q := ((HX1.out.ext HRR.out).ext h).c 2 _ rfl; rw [HA5.out] at q; exact q), ((HZ.out.ext HRR.out).ext h).c 2 _ rfl, (h.cell (p := ⟨q5, o5 + k, none⟩) hq5).trans d5⟩)
          refine rg_begin (S := (fun w' => Below wr.heap.size wr w' ∧ w'.cell? ⟨u1.heap.size, 2, none⟩ = some (.slice (some ⟨q5, o5, none⟩) x.vs.l.length x.vs.c) ∧ w'.cell? ⟨w.heap.size + 1 + 1, 2, none⟩ = some (.int .i64 z.mi) ∧ w'.cell? ⟨q5, o5 + k, none⟩ = some (.int .i64 vv))) 15 (by kernel_rfl) (by intro d; cases d <;> intro _ _ _ _ h <;> exact h) ?_ (fun Q7 hQ7 hN7 hHeld => ?_)
          · exact SS.out _ (ext_drew (ext_refl _))
          refine rg_take (i := 0) (some 155) (v := ?_) rfl rfl (by kernel_rfl) (by rfl) hQ7 hHeld ?_ ?_
          rotate_left
          · intro w7 hSw; (try dsimp only at hSw); go_simp; all_goals with_reducible rfl
          try simp only [Act.put, List.setIfInBounds_toArray, List.set_cons_zero, List.set_cons_succ]
          refine rg_take (i := 1) (some 156) (v := ?_) rfl rfl (by kernel_rfl) (by rfl) hQ7 hHeld ?_ ?_
          rotate_left
          · intro w7 hSw; (try dsimp only at hSw); go_simp; all_goals with_reducible rfl
          try simp only [Act.put, List.setIfInBounds_toArray, List.set_cons_zero, List.set_cons_succ]
          refine rg_take (i := 2) (some 157) (v := ?_) rfl rfl (by kernel_rfl) (by rfl) hQ7 hHeld ?_ ?_
          rotate_left
          · intro w7 hSw; (try dsimp only at hSw); go_simp; all_goals with_reducible rfl
          try simp only [Act.put, List.setIfInBounds_toArray, List.set_cons_zero, List.set_cons_succ]
          refine rg_take (i := 3) (some 158) (v := ?_) rfl rfl (by kernel_rfl) (by rfl) hQ7 hHeld ?_ ?_
          rotate_left
          · intro w7 hSw; (try dsimp only at hSw); go_simp; all_goals with_reducible rfl
          try simp only [Act.put, List.setIfInBounds_toArray, List.set_cons_zero, List.set_cons_succ]
          refine rg_take (i := 4) (some 159) (v := ?_) rfl rfl (by kernel_rfl) (by rfl) hQ7 hHeld ?_ ?_
          rotate_left
          · intro w7 hSw; (try dsimp only at hSw); go_simp; all_goals with_reducible rfl
          try simp only [Act.put, List.setIfInBounds_toArray, List.set_cons_zero, List.set_cons_succ]
          refine rg_take (i := 5) (some 160) (v := ?_) rfl rfl (by kernel_rfl) (by rfl) hQ7 hHeld ?_ ?_
          rotate_left
          · intro w7 hSw; (try dsimp only at hSw); go_simp; all_goals with_reducible rfl
          try simp only [Act.put, List.setIfInBounds_toArray, List.set_cons_zero, List.set_cons_succ]
          refine rg_take (i := 6) (some 161) (v := ?_) rfl rfl (by kernel_rfl) (by rfl) hQ7 hHeld ?_ ?_
          rotate_left
          · intro w7 hSw; (try dsimp only at hSw); go_simp; all_goals with_reducible rfl
          try simp only [Act.put, List.setIfInBounds_toArray, List.set_cons_zero, List.set_cons_succ]
          refine rg_take (i := 7) (some 162) (v := ?_) rfl rfl (by kernel_rfl) (by rfl) hQ7 hHeld ?_ ?_
          rotate_left
          · intro w7 hSw; (try dsimp only at hSw); go_simp; all_goals with_reducible rfl
          try simp only [Act.put, List.setIfInBounds_toArray, List.set_cons_zero, List.set_cons_succ]
          refine rg_take (i := 8) (some 163) (v := ?_) rfl rfl (by kernel_rfl) (by rfl) hQ7 hHeld ?_ ?_
          rotate_left
          · intro w7 hSw; (try dsimp only at hSw); go_simp; all_goals with_reducible rfl
          try simp only [Act.put, List.setIfInBounds_toArray, List.set_cons_zero, List.set_cons_succ]
          refine rg_one (i := 9) (by kernel_rfl) (rg_step rfl (by rfl) (fun K hK => ?_))
          go_simp
          refine (rless_at (w := _) lv 0 (by rw [lessR_ok HTV.out HLF.out, HLV2.out]) rfl ((HTR0.out.ext (ext_trans HE.out HRR.out)).ext hHeld.1)).mono ?_
          rintro e u5 ⟨rfl, B5⟩
          go_wp2_with fail
          refine hK.out _ _ ?_ (fun hHeld2 => ?_)
          · exact SS.out _ (ext_trans hHeld.1 B5)
          clear hHeld
          have hHeld := hHeld2
          clear hHeld2
          clear hK K
          try simp only [Act.put, List.setIfInBounds_toArray, List.set_cons_zero, List.set_cons_succ]
          refine rg_take (i := 10) (some 154) (v := ?_) rfl rfl (by kernel_rfl) (by rfl) hQ7 hHeld ?_ ?_
          rotate_left
          · intro w7 hSw; (try dsimp only at hSw); go_simp; all_goals with_reducible rfl
          try simp only [Act.put, List.setIfInBounds_toArray, List.set_cons_zero, List.set_cons_succ]
          refine rg_take (i := 11) (some 165) (v := ?_) rfl rfl (by kernel_rfl) (by rfl) hQ7 hHeld ?_ ?_
          rotate_left
          · intro w7 hSw; (try dsimp only at hSw); go_simp; all_goals with_reducible rfl
          try simp only [Act.put, List.setIfInBounds_toArray, List.set_cons_zero, List.set_cons_succ]
          refine rg_take (i := 12) (some 166) (v := ?_) rfl rfl (by kernel_rfl) (by rfl) hQ7 hHeld ?_ ?_
          rotate_left
          · intro w7 hSw; (try dsimp only at hSw); go_simp; all_goals with_reducible rfl
          try simp only [Act.put, List.setIfInBounds_toArray, List.set_cons_zero, List.set_cons_succ]
          refine rg_take (i := 13) (some 25) (v := ?_) rfl rfl (by kernel_rfl) (by rfl) hQ7 hHeld ?_ ?_
          rotate_left
          · intro w7 hSw; (try dsimp only at hSw); go_simp; all_goals with_reducible rfl
          try simp only [Act.put, List.setIfInBounds_toArray, List.set_cons_zero, List.set_cons_succ]
          refine rg_take (i := 14) (some 26) (v := ?_) rfl rfl (by kernel_rfl) (by rfl) hQ7 hHeld ?_ ?_
          rotate_left
          · intro w7 hSw; (try dsimp only at hSw); go_simp; all_goals with_reducible rfl
          try simp only [Act.put, List.setIfInBounds_toArray, List.set_cons_zero, List.set_cons_succ]
          refine rg_end (by kernel_rfl) (hN7 _ _ ?_) _
          clear hQ7 hN7 Q7
          have BX := hHeld.1
          clear SS
          have HR1 := Lib.hid (ext_trans HRR.out BX)
          clear x2 xl d5 d6 z2 x4 zl BX
          go_wp2_with fail
          first | exact ⟨⟨k + 1, rk, lk + lv, by omega, rfl, by go_num, by go_num, HNK.out, HNL.out, HR1.out⟩, by simp [intOf] <;> omega⟩ | (go_roundw; all_goals first | exact ⟨k + 1, rk, lk + lv, by omega, rfl, by go_num, by go_num, HNK.out, HNL.out, HR1.out⟩ | (simp [intOf] <;> omega))
      · have hlt' : decide ((k : Int) < x.vs.l.length) = false := decide_eq_false (by omega)
        have hd : x.vs.l.take k = x.vs.l := List.take_of_length_le (by omega)
        rw [hd] at HRK HLK
        have hwr : IntKind.i64.wrap (rk - lk) = rk - lk := by
          have h1 := HSB.out
          have h2 := HRK.out
          refine IntWalk.i64_in _ ?_
          split at h2 <;> omega
        have HFI : Hid (NN = max 0 (rk - lk)) := by rw [HPL.out, HPR.out, HRK.out, HLK.out]; rfl
        clear hd
        go_wp2_with fail
        all_goals
          refine bodyPost_ret (v := .tuple #[.int .i64 (max 0 (rk - lk)), .int .i64 0]) (by first | (simp [results, Tryz.results15, go_sem]; done) | (simp [results, Tryz.results15, go_sem]; omega)) rfl ?_
          rw [HD.out, HFI.out]
          exact ⟨rfl, ext_trans HE.out HRR.out⟩
  · have hmy : my = t.ms.l.length := by have := HMY.out; rw [HAIR.out] at this; exact this.symm
    go_wp2_with fail
    clear b0 b1 b2 b3 b4 b5 s0 z0 z1 z2 zl
    refine (has9_at lb (leaves_has.trans hlb) rfl HLV.out hll).mono ?_
    rintro e w5 ⟨rfl, B⟩
    replace HE := Lib.hid (ext_trans HE.out B)
    replace HB := Lib.hid (HB.out.ext B)
    replace HS := Lib.hid (HS.out.ext B)
    replace HZ := Lib.hid (HZ.out.ext B)
    clear B HLV
    have b0 := HB.out.c 0 _ rfl
    have b1 := HB.out.c 1 _ rfl
    have b2 := HB.out.c 2 _ rfl
    have b3 := HB.out.c 3 _ rfl
    have b4 := HB.out.c 4 _ rfl
    have b5 := HB.out.c 5 _ rfl
    have s0 := HS.out.c 0 _ rfl
    have z0 := HZ.out.c 0 _ rfl
    have z1 := HZ.out.c 1 _ rfl
    have z2 := HZ.out.c 2 _ rfl
    have zl := HZ.out.lt
    rw [HAIR.out] at z0
    cases lb
    · rw [if_pos (.inl rfl)] at HD
      have HN0 := Lib.hid (HNO.out 190 (HEE.out.trans HD.out) (by decide))
      go_wp2_with fail
      go_ret2
      rw [HD.out, HN0.out]
      exact ⟨rfl, HE.out⟩
    by_cases h2 : (n : Int) = t.n
    rotate_left
    · have e2 : ((n : Int) != t.n) = true := by simpa using h2
      rw [if_pos (.inr (.inl h2))] at HD
      have HN0 := Lib.hid (HNO.out 190 (HEE.out.trans HD.out) (by decide))
      clear h2
      go_wp2_with fail
      go_ret2
      rw [HD.out, HN0.out]
      exact ⟨rfl, HE.out⟩
    have e2 : ((n : Int) != t.n) = false := by simpa using h2
    have H2 := Lib.hid h2
    clear h2
    by_cases h3 : z.mi < 0
    · have e3 : decide (z.mi < 0) = true := decide_eq_true (by omega)
      rw [if_pos (.inr (.inr (.inl h3)))] at HD
      have HN0 := Lib.hid (HNO.out 190 (HEE.out.trans HD.out) (by decide))
      clear h3
      go_wp2_with fail
      go_ret2
      rw [HD.out, HN0.out]
      exact ⟨rfl, HE.out⟩
    have e3 : decide (z.mi < 0) = false := decide_eq_false (by omega)
    by_cases h4 : 1440 ≤ z.mi
    · have e4 : decide (z.mi ≥ 1440) = true := decide_eq_true (by omega)
      rw [if_pos (.inr (.inr (.inr (.inl h4))))] at HD
      have HN0 := Lib.hid (HNO.out 190 (HEE.out.trans HD.out) (by decide))
      clear h4
      go_wp2_with fail
      go_ret2
      rw [HD.out, HN0.out]
      exact ⟨rfl, HE.out⟩
    have e4 : decide (z.mi ≥ 1440) = false := decide_eq_false (by omega)
    by_cases h5 : z.ix < 0
    · have e5 : decide (z.ix < 0) = true := decide_eq_true (by omega)
      rw [if_pos (.inr (.inr (.inr (.inr (.inl h5)))))] at HD
      have HN0 := Lib.hid (HNO.out 190 (HEE.out.trans HD.out) (by decide))
      clear h5
      go_wp2_with fail
      go_ret2
      rw [HD.out, HN0.out]
      exact ⟨rfl, HE.out⟩
    have e5 : decide (z.ix < 0) = false := decide_eq_false (by omega)
    by_cases h6 : (my : Int) ≤ z.ix
    · have e6 : decide (z.ix ≥ (t.ms.l.length : Int)) = true := decide_eq_true (by omega)
      rw [if_pos (.inr (.inr (.inr (.inr (.inr h6)))))] at HD
      have HN0 := Lib.hid (HNO.out 190 (HEE.out.trans HD.out) (by decide))
      clear h6
      go_wp2_with fail
      go_ret2
      rw [HD.out, HN0.out]
      exact ⟨rfl, HE.out⟩
    have e6 : decide (z.ix ≥ (t.ms.l.length : Int)) = false := decide_eq_false (by omega)
    rw [if_neg (by
      have := H2.out
      simp only [Bool.true_eq_false, ne_eq, false_or, not_or, Decidable.not_not, Int.not_lt, Int.not_le]
      exact ⟨this, by omega, by omega, by omega, by omega⟩)] at HD
    have HOK : Hid (OfOk t tree leaf l seen.length z) := by
      have := H2.out
      have hm := HMY.out
      exact ⟨(chkS_ok.1 HCH.out).1, (chkS_ok.1 HCH.out).2, HTV.out, hlb, by rw [HNN.out]; exact this, by omega, by omega, by omega, by rw [hm]; omega⟩
    obtain ⟨now, hnow, hnl⟩ := HOK.out.now
    have HNW := Lib.hid hnow
    have HFT := Lib.hid (HOK.out.vs.fit now hnl)
    have HNM := Lib.hid hnl
    have HPL : Hid (NN = placesR t tree leaf now seen z) := HNR.out.symm.trans (ofN_ok HOK.out hnow)
    have HLF := Lib.hid hlb
    clear hnow hnl hlb HNO HCH
    go_wp2_with fail
    clear b0 b1 b2 b3 b4 b5 s0 z0 z1 z2 zl e2 e3 e4 e5 e6
    refine (rin_at (some now) HNW.out rfl (HA0.out.ext HE.out) hl).mono ?_
    rintro e w6 ⟨rfl, B⟩
    simp only [Option.isSome_some, Option.getD_some]
    have BW := ext_trans B (ext_alloc (ext_refl w6) (.cells #[.int .i64 now.f, .int .i64 now.cfg, .slice now.ms.A now.ms.l.length now.ms.c] 34))
    obtain ⟨w7, hw7⟩ : ∃ x, w6.alloc (.cells #[.int .i64 now.f, .int .i64 now.cfg, .slice now.ms.A now.ms.l.length now.ms.c] 34) = x := ⟨_, rfl⟩
    have HNB := Lib.hid (show Blk w7 w6.heap.size now.cells by rw [← hw7]; exact Blk.newH w6 now.cells 34 w6.heap.size rfl)
    rw [hw7] at BW
    replace HE := Lib.hid (ext_trans HE.out BW)
    replace HB := Lib.hid (HB.out.ext BW)
    replace HS := Lib.hid (HS.out.ext BW)
    replace HZ := Lib.hid (HZ.out.ext BW)
    have hz7 : w7.heap.size = w6.heap.size + 1 := by rw [← hw7]; simp
    clear B BW
    have b0 := HB.out.c 0 _ rfl
    have b1 := HB.out.c 1 _ rfl
    have b2 := HB.out.c 2 _ rfl
    have b3 := HB.out.c 3 _ rfl
    have b4 := HB.out.c 4 _ rfl
    have b5 := HB.out.c 5 _ rfl
    have s0 := HS.out.c 0 _ rfl
    have z0 := HZ.out.c 0 _ rfl
    have z1 := HZ.out.c 1 _ rfl
    have z2 := HZ.out.c 2 _ rfl
    have zl := HZ.out.lt
    rw [HAIR.out] at z0
    go_wp2_with fail
    clear hw7
    obtain ⟨lv, hlv⟩ : ∃ r, lessN tree leaf true z.ix z.mi = r := ⟨_, rfl⟩
    have HLE := Lib.hid hlv
    have hlb := less_pos HTV.out leaf true z.ix z.mi
    rw [hlv] at hlb
    obtain ⟨lv0, lv1⟩ := hlb
    refine (rless_at lv 0 (by rw [lessR_ok HTV.out HLF.out, hlv]) rfl (HTR0.out.ext HE.out)).mono ?_
    rintro e w8 ⟨rfl, B⟩
    replace HE := Lib.hid (ext_trans HE.out B)
    replace HB := Lib.hid (HB.out.ext B)
    replace HZ := Lib.hid (HZ.out.ext B)
    replace HNB := Lib.hid (HNB.out.ext B)
    clear B hlv b0 b1 b2 b3 b4 b5 s0 z0 z1 z2 zl
    have T8 := HT0.out.ext HE.out
    have N8 := (HAO0.out now HNM.out).ext HE.out
    obtain ⟨fl, fi⟩ := fits_ix HFT.out
    have hi0 : 0 ≤ z.ix := by omega
    have hi1 : z.ix < (t.ms.l.length : Int) := by omega
    obtain ⟨md, q1, o1, hmd, hA1, hq1, hc1⟩ := T8.2.2.2.1.slc.at_ (k := z.ix.toNat) (by omega)
    obtain ⟨k, q2, o2, hk, hA2, hq2, hc2⟩ := N8.slc.at_ (k := z.ix.toNat) (by omega)
    obtain ⟨k0, k1⟩ := fi _ _ _ hk hmd
    obtain ⟨pl, q3, o3, hpl, hA3, hq3, hc3⟩ := (T8.2.2.2.1.all (List.mem_of_getElem? hmd)).slc.at_ (k := k.toNat) (by omega)
    have hi2 : z.ix < (now.ms.l.length : Int) := by omega
    have d1 := hc1 0 _ rfl
    have d2 := hc2 0 _ rfl
    have d3 := hc3 0 _ rfl
    simp only [Nat.mul_one, Nat.add_zero] at d1 d2 d3
    rw [hA3] at d1
    have HA1 := Lib.hid hA1
    have HA2 := Lib.hid hA2
    have HPR : Hid (placesR t tree leaf now seen z = max 0 (pl - lv)) := by
      simp only [Hid, placesR, HAIR.out, if_true, HLE.out, modeAt, hmd, hk, hpl, Option.getD_some]
    have hpb := (tab_ok HOK.out.tab).mod md (List.mem_of_getElem? hmd) pl (List.mem_of_getElem? hpl)
    obtain ⟨p0, p1⟩ := hpb
    have hwr : IntKind.i64.wrap (pl - lv) = pl - lv := IntWalk.i64_in _ (by omega)
    clear T8 N8 fl fi hmd hk hpl hA1 hA2 hA3 hc1 hc2 hc3 hmy
    go_wp2_with fail
    have SS := Lib.hid (show ∀ w', Below w8.heap.size w8 w' → (fun w' => Below w8.heap.size w8 w' ∧ w'.cell? ⟨w.heap.size, 4, none⟩ = some (.slice (some ⟨q1, o1, none⟩) t.ms.l.length t.ms.c) ∧ w'.cell? ⟨w.heap.size + 1 + 1, 1, none⟩ = some (.int .i64 z.ix) ∧ w'.cell? ⟨w6.heap.size, 2, none⟩ = some (.slice (some ⟨q2, o2, none⟩) now.ms.l.length now.ms.c) ∧ w'.cell? ⟨q1, o1 + z.ix.toNat, none⟩ = some (.slice (some ⟨q3, o3, none⟩) md.l.length md.c) ∧ w'.cell? ⟨q2, o2 + z.ix.toNat, none⟩ = some (.int .i64 k) ∧ w'.cell? ⟨q3, o3 + k.toNat, none⟩ = some (.int .i64 pl)) w' from fun w' h => ⟨h, (by have q := (HB.out.ext h).c 4 _ rfl; rw [HA1.out] at q; exact q), (HZ.out.ext h).c 1 _ rfl, (by have q := (HNB.out.ext h).c 2 _ rfl; rw [HA2.out] at q; exact q), (h.cell (p := ⟨q1, o1 + z.ix.toNat, none⟩) hq1).trans d1, (h.cell (p := ⟨q2, o2 + z.ix.toNat, none⟩) hq2).trans d2, (h.cell (p := ⟨q3, o3 + k.toNat, none⟩) hq3).trans d3⟩)
    refine rg_begin (S := (fun w' => Below w8.heap.size w8 w' ∧ w'.cell? ⟨w.heap.size, 4, none⟩ = some (.slice (some ⟨q1, o1, none⟩) t.ms.l.length t.ms.c) ∧ w'.cell? ⟨w.heap.size + 1 + 1, 1, none⟩ = some (.int .i64 z.ix) ∧ w'.cell? ⟨w6.heap.size, 2, none⟩ = some (.slice (some ⟨q2, o2, none⟩) now.ms.l.length now.ms.c) ∧ w'.cell? ⟨q1, o1 + z.ix.toNat, none⟩ = some (.slice (some ⟨q3, o3, none⟩) md.l.length md.c) ∧ w'.cell? ⟨q2, o2 + z.ix.toNat, none⟩ = some (.int .i64 k) ∧ w'.cell? ⟨q3, o3 + k.toNat, none⟩ = some (.int .i64 pl))) 19 (by kernel_rfl) (by intro d; cases d <;> intro _ _ _ _ h <;> exact h) ?_ (fun Q7 hQ7 hN7 hHeld => ?_)
    · exact SS.out _ (ext_drew (ext_refl _))
    refine rg_take (i := 0) (some 100) (v := ?_) rfl rfl (by kernel_rfl) (by rfl) hQ7 hHeld ?_ ?_
    rotate_left
    · intro w7 hSw; (try dsimp only at hSw); go_simp; all_goals with_reducible rfl
    try simp only [Act.put, List.setIfInBounds_toArray, List.set_cons_zero, List.set_cons_succ]
    refine rg_take (i := 1) (some 101) (v := ?_) rfl rfl (by kernel_rfl) (by rfl) hQ7 hHeld ?_ ?_
    rotate_left
    · intro w7 hSw; (try dsimp only at hSw); go_simp; all_goals with_reducible rfl
    try simp only [Act.put, List.setIfInBounds_toArray, List.set_cons_zero, List.set_cons_succ]
    refine rg_take (i := 2) (some 102) (v := ?_) rfl rfl (by kernel_rfl) (by rfl) hQ7 hHeld ?_ ?_
    rotate_left
    · intro w7 hSw; (try dsimp only at hSw); go_simp; all_goals with_reducible rfl
    try simp only [Act.put, List.setIfInBounds_toArray, List.set_cons_zero, List.set_cons_succ]
    refine rg_take (i := 3) (some 103) (v := ?_) rfl rfl (by kernel_rfl) (by rfl) hQ7 hHeld ?_ ?_
    rotate_left
    · intro w7 hSw; (try dsimp only at hSw); go_simp; all_goals with_reducible rfl
    try simp only [Act.put, List.setIfInBounds_toArray, List.set_cons_zero, List.set_cons_succ]
    refine rg_take (i := 4) (some 104) (v := ?_) rfl rfl (by kernel_rfl) (by rfl) hQ7 hHeld ?_ ?_
    rotate_left
    · intro w7 hSw; (try dsimp only at hSw); go_simp; all_goals with_reducible rfl
    try simp only [Act.put, List.setIfInBounds_toArray, List.set_cons_zero, List.set_cons_succ]
    refine rg_take (i := 5) (some 105) (v := ?_) rfl rfl (by kernel_rfl) (by rfl) hQ7 hHeld ?_ ?_
    rotate_left
    · intro w7 hSw; (try dsimp only at hSw); go_simp; all_goals with_reducible rfl
    try simp only [Act.put, List.setIfInBounds_toArray, List.set_cons_zero, List.set_cons_succ]
    refine rg_take (i := 6) (some 106) (v := ?_) rfl rfl (by kernel_rfl) (by rfl) hQ7 hHeld ?_ ?_
    rotate_left
    · intro w7 hSw; (try dsimp only at hSw); go_simp; all_goals with_reducible rfl
    try simp only [Act.put, List.setIfInBounds_toArray, List.set_cons_zero, List.set_cons_succ]
    refine rg_take (i := 7) (some 107) (v := ?_) rfl rfl (by kernel_rfl) (by rfl) hQ7 hHeld ?_ ?_
    rotate_left
    · intro w7 hSw; (try dsimp only at hSw); go_simp; all_goals with_reducible rfl
    try simp only [Act.put, List.setIfInBounds_toArray, List.set_cons_zero, List.set_cons_succ]
    refine rg_take (i := 8) (some 108) (v := ?_) rfl rfl (by kernel_rfl) (by rfl) hQ7 hHeld ?_ ?_
    rotate_left
    · intro w7 hSw; (try dsimp only at hSw); go_simp; all_goals with_reducible rfl
    try simp only [Act.put, List.setIfInBounds_toArray, List.set_cons_zero, List.set_cons_succ]
    refine rg_take (i := 9) (some 109) (v := ?_) rfl rfl (by kernel_rfl) (by rfl) hQ7 hHeld ?_ ?_
    rotate_left
    · intro w7 hSw; (try dsimp only at hSw); go_simp; all_goals with_reducible rfl
    try simp only [Act.put, List.setIfInBounds_toArray, List.set_cons_zero, List.set_cons_succ]
    refine rg_take (i := 10) (some 110) (v := ?_) rfl rfl (by kernel_rfl) (by rfl) hQ7 hHeld ?_ ?_
    rotate_left
    · intro w7 hSw; (try dsimp only at hSw); go_simp; all_goals with_reducible rfl
    try simp only [Act.put, List.setIfInBounds_toArray, List.set_cons_zero, List.set_cons_succ]
    refine rg_take (i := 11) (some 111) (v := ?_) rfl rfl (by kernel_rfl) (by rfl) hQ7 hHeld ?_ ?_
    rotate_left
    · intro w7 hSw; (try dsimp only at hSw); go_simp; all_goals with_reducible rfl
    try simp only [Act.put, List.setIfInBounds_toArray, List.set_cons_zero, List.set_cons_succ]
    refine rg_take (i := 12) (some 112) (v := ?_) rfl rfl (by kernel_rfl) (by rfl) hQ7 hHeld ?_ ?_
    rotate_left
    · intro w7 hSw; (try dsimp only at hSw); go_simp; all_goals with_reducible rfl
    try simp only [Act.put, List.setIfInBounds_toArray, List.set_cons_zero, List.set_cons_succ]
    refine rg_take (i := 13) (some 113) (v := ?_) rfl rfl (by kernel_rfl) (by rfl) hQ7 hHeld ?_ ?_
    rotate_left
    · intro w7 hSw; (try dsimp only at hSw); go_simp; all_goals with_reducible rfl
    try simp only [Act.put, List.setIfInBounds_toArray, List.set_cons_zero, List.set_cons_succ]
    refine rg_take (i := 14) (some 114) (v := ?_) rfl rfl (by kernel_rfl) (by rfl) hQ7 hHeld ?_ ?_
    rotate_left
    · intro w7 hSw; (try dsimp only at hSw); go_simp; all_goals with_reducible rfl
    try simp only [Act.put, List.setIfInBounds_toArray, List.set_cons_zero, List.set_cons_succ]
    refine rg_take (i := 15) (some 115) (v := ?_) rfl rfl (by kernel_rfl) (by rfl) hQ7 hHeld ?_ ?_
    rotate_left
    · intro w7 hSw; (try dsimp only at hSw); go_simp; all_goals with_reducible rfl
    try simp only [Act.put, List.setIfInBounds_toArray, List.set_cons_zero, List.set_cons_succ]
    refine rg_take (i := 16) (some 116) (v := ?_) rfl rfl (by kernel_rfl) (by rfl) hQ7 hHeld ?_ ?_
    rotate_left
    · intro w7 hSw; (try dsimp only at hSw); go_simp; all_goals with_reducible rfl
    try simp only [Act.put, List.setIfInBounds_toArray, List.set_cons_zero, List.set_cons_succ]
    refine rg_take (i := 17) (some 12) (v := ?_) rfl rfl (by kernel_rfl) (by rfl) hQ7 hHeld ?_ ?_
    rotate_left
    · intro w7 hSw; (try dsimp only at hSw); go_simp; all_goals with_reducible rfl
    try simp only [Act.put, List.setIfInBounds_toArray, List.set_cons_zero, List.set_cons_succ]
    refine rg_take (i := 18) (some 13) (v := ?_) rfl rfl (by kernel_rfl) (by rfl) hQ7 hHeld ?_ ?_
    rotate_left
    · intro w7 hSw; (try dsimp only at hSw); go_simp; all_goals with_reducible rfl
    try simp only [Act.put, List.setIfInBounds_toArray, List.set_cons_zero, List.set_cons_succ]
    refine rg_end (by kernel_rfl) (hN7 _ _ ?_) _
    clear hQ7 hN7 Q7
    have BX := hHeld.1
    clear SS
    clear d1 d2 d3
    go_wp2_with fail
    all_goals
      refine bodyPost_ret (v := .tuple #[.int .i64 (max 0 (pl - lv)), .int .i64 0]) (by first | (simp [results, Tryz.results15, go_sem]; done) | (simp [results, Tryz.results15, go_sem]; omega)) rfl ?_
      rw [HD.out, HPL.out, HPR.out]
      exact ⟨rfl, ext_trans HE.out BX⟩
theorem rof_lit {t : Tab} {tA : Option Addr} {tn tc : Nat} {tree : List Nd} {leaf : Int} {A : Option Addr} {n c : Nat} {l : List Chg} {sA : Option Addr} {sn sc : Nat} {seen : List Bool} {z : Cel} {w : World} (r e : Int) (hr : ofN t tree leaf l seen z = r) (he : ofE t tree leaf l seen.length z = e) (htn : tn = tree.length) (hn : n = l.length) (hsn : sn = seen.length)
    (ht : Tab.ok w t) (htr : TOk w tA tree) (ha : Slc w Chg.cells 3 A l) (hl : l.length ≤ maxLen) (hao : ∀ y ∈ l, Chg.ok w y) (hs : Slc w bc 1 sA seen) (hsl : seen.length ≤ maxLen) (hfew : ∀ s ∈ t.ss.l, s.vs.l.length ≤ 64) :
    Calls Tryz.prog 15 #[t.v, .slice tA tn tc, .int .i64 leaf, .agg #[.slice A n c], .slice sA sn sc, z.v] w (OfR w r e) := by
  subst hr he htn hn hsn; exact rof_any t tA tc tree leaf A c l sA sc seen z w ht htr ha hl hao hs hsl hfew
end Go.Proofs.YtilocjliplmmpaaGreat
