/- The wrong reports of a group. -/
import Derived.Test.YtjiojpoiocdnmaaGreatU18
set_option linter.unusedSimpArgs false
set_option linter.unusedVariables false
namespace Go.Proofs.YtjiojpoiocdnmaaGreat
open Go.RowKit
theorem take_snoc2 {α : Type} {l : List α} {q : Nat} {x : α} (h : l[q]? = some x) : l.take (q + 1) = l.take q ++ [x] := by rw [List.take_add_one, h]; rfl
theorem right_step {st : List (List (List Sty))} {ts : List Nat} {pks : List Int} {i n : Nat} {p : Int} {vol mi : Int} (hn : ts[i]? = some n) (hp : pks[i]? = some p) :
  ((List.zip ts pks).take (i + 1)).any (fun p => fliesB (staysAt st p.1 p.2.toNat) vol mi) = (((List.zip ts pks).take i).any (fun p => fliesB (staysAt st p.1 p.2.toNat) vol mi) || fliesB (staysAt st n p.toNat) vol mi) := by
 have hz : (List.zip ts pks)[i]? = some (n, p) := by rw [List.getElem?_zip_eq_some]; exact ⟨hn, hp⟩
 rw [take_snoc2 hz, List.any_append]; simp
theorem stays_row {X : Scn} {n : Nat} {r : SliceOf (SliceOf Sty)} {k : Nat} {q : SliceOf Sty} (hr : X.st[n]? = some r) (hq : r.l[k]? = some q) : staysAt X.stays n k = q.l := by
 simp [staysAt, Scn.stays, hr, hq]
theorem stays_get {X : Scn} {n : Nat} {r : List (List Sty)} (h : X.stays[n]? = some r) : ∃ r', X.st[n]? = some r' ∧ r = r'.l.map (·.l) := by
 unfold Scn.stays at h
 rw [List.getElem?_map] at h
 cases hx : X.st[n]? with
 | none => rw [hx] at h; cases h
 | some x => rw [hx] at h; cases h; exact ⟨x, rfl, rfl⟩
theorem nums_at {l : List Nat} {i n : Nat} (h : l[i]? = some n) : (nums l)[i]? = some (n : Int) := by simp [nums, h]
theorem Own.lenMax {α : Type} {w : World} {base : Nat} {e : TypeId} {enc : α → List Value} {sz : Nat} {v : Value} {l : List α} (h : Own w base e enc sz v l) : l.length ≤ maxLen := by
 obtain ⟨A, c, _, h1, h2, _⟩ := h.cap
 omega
set_option maxRecDepth 100000 in
set_option maxHeartbeats 8000000 in
theorem wrong_of (X : Scn) (gb : Nat) (TA RA : Option Addr) (tc rc : Nat) (ts : List Nat) (rs : List Rep) (A : Option Addr) (c : Nat) (pks : List Int) (A2 : Option Addr) (c2 : Nat) (shs : List Int) (W : World) (hX : SceneOk W X)
  (hgb : W.heap[gb]? = some (.cells #[.slice TA ts.length tc, .slice RA rs.length rc] 94 (0, 0))) (hgt : Slc W ic 1 TA (nums ts)) (hgr : Slc W Rep.cells 6 RA rs)
  (hp : Slc W ic 1 A pks) (hs : Slc W ic 1 A2 shs) (hpk : Pks X.stays ts pks) (hrs : ∀ r ∈ rs, RepS shs.length r) (hsh : ∀ s ∈ shs, -3 ≤ s ∧ s ≤ 3) (htl : ts.length ≤ 1000) (hrl : rs.length ≤ 1000) :
  Calls Tryz.prog 28 #[X.v, gptr gb, .slice A pks.length c, .slice A2 shs.length c2] W fun e w' => e = .returned (wrongV X.stays ts rs pks shs).v ∧ Below W.heap.size W w' := by
 obtain ⟨V, hV⟩ : ∃ V, wrongV X.stays ts rs pks shs = V := ⟨_, rfl⟩
 rw [hV]
 have HV := Lib.hid hV
 have HX := Lib.hid hX
 have HGT := Lib.hid hgt
 have HGR := Lib.hid hgr
 have HP := Lib.hid hp
 have HS := Lib.hid hs
 have HPK := Lib.hid hpk
 have HRS := Lib.hid hrs
 have HSH := Lib.hid hsh
 have hgl : gb < W.heap.size := (Array.getElem?_eq_some_iff.1 hgb).1
 have HG : Hid (∀ W', Below W.heap.size W W' → W'.cell? ⟨gb, 0, none⟩ = some (.slice TA ts.length tc) ∧ W'.cell? ⟨gb, 1, none⟩ = some (.slice RA rs.length rc)) := fun W' h => by
  have := (h.block gb hgl).trans hgb
  constructor <;> simp [World.cell?, this]
 obtain ⟨W0, hW0⟩ : ∃ W0, (W.alloc (.cells #[X.sv, .map (some X.m), .int .i64 X.lost.a, .int .i64 X.lost.b, .int .i64 X.lost.c, .int .i64 X.lost.d, .int .i64 X.bud.a, .int .i64 X.bud.b, .int .i64 X.bud.c, .int .i64 X.bud.d, X.hv] 78)).alloc (.cells #[.int .i64 0, .int .i64 0, .int .i64 0, .int .i64 0] 76) = W0 := ⟨_, rfl⟩
 have E0 : Hid (Below W.heap.size W W0) := by rw [← hW0]; exact ext_alloc (ext_alloc (ext_refl W) _) _
 have BX : Hid (Blk W0 W.heap.size X.cells) := by rw [← hW0]; exact (Blk.newH W X.cells 78 W.heap.size rfl).alloc _
 have BV : Hid (Blk W0 (W.heap.size + 1) V4.zero.cells) := by rw [← hW0]; exact Blk.newH (W.alloc _) V4.zero.cells 76 (W.heap.size + 1) (by simp)
 have g1 := (HG.out W0 E0.out).2
 have gl0 : gb < W0.heap.size := Nat.lt_of_lt_of_le hgl E0.out.size
 clear hV hX hgt hgr hp hs hpk hrs hsh hgb
 go_enter Tryz.func28, Tryz.ntmps28
 go_wp2_with fail
 clear hW0 g1
 go_loopw [19] (fun i wr => ∃ k : Nat, k ≤ rs.length ∧ i = .int .i64 k ∧ Hid (Below W.heap.size W wr) ∧ Hid (Blk wr W.heap.size X.cells) ∧ Hid (Blk wr (W.heap.size + 1) ((rs.take k).foldl (wrongStep X.stays ts pks shs) V4.zero).cells)) (fun i _ => rs.length - (intOf i).toNat)
 case atStart => exact ⟨0, by omega, rfl, E0, BX, by rw [List.take_zero, List.foldl_nil]; exact BV⟩
 case round =>
  obtain ⟨k, hk, rfl, E1, BX1, BV1⟩ := hrel
  clear E0 BX BV gl0
  obtain ⟨wo, rfl⟩ : ∃ wo, wo = wr := ⟨_, rfl⟩
  by_cases hlt : k < rs.length
  rotate_left
  ·rw [List.take_of_length_le (by omega)] at BV1
   have HV1 : Hid (Blk wo (W.heap.size + 1) V.cells) := by rw [← HV.out]; exact BV1.out
   have d0 := HV1.out.c 0 _ rfl
   have d1 := HV1.out.c 1 _ rfl
   have d2 := HV1.out.c 2 _ rfl
   have d3 := HV1.out.c 3 _ rfl
   have zf := HV1.out.f
   have zl := HV1.out.lt
   have HZ4 := Lib.hid (HV1.out.put4 (.int .i64 V.a) (.int .i64 V.b) (.int .i64 V.c) (.int .i64 V.d))
   have HE4 := Lib.hid (ext_set4 E1.out (W.heap.size + 1) (.int .i64 V.a) (.int .i64 V.b) (.int .i64 V.c) (.int .i64 V.d) (by omega))
   unfold set4 at HZ4 HE4
   clear BX1 BV1 HV1 E1
   go_wp2_with fail
   clear d0 d1 d2 d3 zf zl
   have r0 := HZ4.out.c 0 _ rfl
   have r1 := HZ4.out.c 1 _ rfl
   have r2 := HZ4.out.c 2 _ rfl
   have r3 := HZ4.out.c 3 _ rfl
   refine bodyPost_ret (v := V.v) (by simp [results, Tryz.results28, go_sem, *]) rfl ?_
   exact ⟨rfl, HE4.out⟩
  have hgr1 := HGR.out.below (Nat.le_refl _) E1.out
  obtain ⟨r, rb, ro, hr, rfl, hrb, hc⟩ := hgr1.at_ hlt
  have d0 := hc 0 _ rfl
  have d1 := hc 1 _ rfl
  have d2 := hc 2 _ rfl
  have d3 := hc 3 _ rfl
  have d4 := hc 4 _ rfl
  have d5 := hc 5 _ rfl
  simp only [Nat.add_zero] at d0
  have HR := Lib.hid hr
  have HRS1 := Lib.hid (HRS.out r (List.mem_of_getElem? hr))
  have hki : (k : Int) < rs.length := by omega
  obtain ⟨W1, hW1⟩ : ∃ W1, wo.alloc (.cells #[.int .i64 r.st, .int .i64 r.no, .int .i64 r.mi, .int .i64 r.ar, .string r.call, .int .i64 r.vol] 55) = W1 := ⟨_, rfl⟩
  have E2 : Hid (Below W.heap.size W W1) := by rw [← hW1]; exact ext_alloc E1.out _
  have BX2 : Hid (Blk W1 W.heap.size X.cells) := by rw [← hW1]; exact BX1.out.alloc _
  have BV2 : Hid (Blk W1 (W.heap.size + 1) ((rs.take k).foldl (wrongStep X.stays ts pks shs) V4.zero).cells) := by rw [← hW1]; exact BV1.out.alloc _
  have BR2 : Hid (Blk W1 wo.heap.size r.cells) := by rw [← hW1]; exact Blk.newH wo r.cells 55 wo.heap.size rfl
  have hsw : W.heap.size ≤ wo.heap.size := E1.out.size
  have g0 := (HG.out W1 E2.out).1
  have gl1 : gb < W1.heap.size := Nat.lt_of_lt_of_le hgl E2.out.size
  have hbvl : W.heap.size + 1 < wo.heap.size := BV1.out.lt
  clear hc hr hgr1 E1 BX1 BV1
  obtain ⟨sk, hsk⟩ : ∃ sk : Nat, r.st = sk := ⟨r.st.toNat, by have := HRS1.out.s0; omega⟩
  have hsk4 : sk < 4 := by have := HRS1.out.s1; omega
  have hskl : sk < shs.length := by have := HRS1.out.s2; omega
  obtain ⟨sv, hsv⟩ : ∃ sv, shs[sk]? = some sv := ⟨_, List.getElem?_eq_getElem hskl⟩
  have HSK := Lib.hid hsk
  have HSV := Lib.hid hsv
  clear hsk hsv
  go_wp2_with fail
  clear d0 d1 d2 d3 d4 d5 hW1 g0 gl1
  go_loopw [11, 28] (fun a i wr => ∃ j : Nat, j ≤ ts.length ∧ i = .int .i64 j ∧ (∃ q : Bool, a = .bool q ∧ Hid (((List.zip ts pks).take j).any (fun p => fliesB (staysAt X.stays p.1 p.2.toNat) r.vol (r.mi + sv)) = q)) ∧ Hid (Below W.heap.size W wr) ∧ Hid (Blk wr W.heap.size X.cells) ∧ Hid (Blk wr (W.heap.size + 1) ((rs.take k).foldl (wrongStep X.stays ts pks shs) V4.zero).cells) ∧ Hid (Blk wr wo.heap.size r.cells)) (fun _ i _ => ts.length - (intOf i).toNat)
  case atStart => exact ⟨0, by omega, rfl, ⟨false, rfl, by simp [Hid]⟩, E2, BX2, BV2, BR2⟩
  case round =>
   obtain ⟨j, hj, rfl, ⟨q, rfl, HQ⟩, E3, BX3, BV3, BR3⟩ := hrel
   clear E2 BX2 BV2 BR2
   obtain ⟨wi, rfl⟩ : ∃ wi, wi = wr := ⟨_, rfl⟩
   by_cases hjl : j < ts.length
   rotate_left
   ·have HQ2 : Hid (rightB X.stays ts pks r.vol (r.mi + shs.getD sk 0) = q) := by
     have := HQ.out
     rw [List.take_of_length_le (by rw [List.length_zip]; omega)] at this
     unfold rightB Hid
     rw [List.getD_eq_getElem?_getD, HSV.out]
     exact this
    have hin := wrong_in X.stays ts pks shs (rs.take k) V4.zero 0 (by simp [V4.In, V4.zero])
    obtain ⟨v, hv⟩ : ∃ v, (rs.take k).foldl (wrongStep X.stays ts pks shs) V4.zero = v := ⟨_, rfl⟩
    have HFOLD : Hid ((rs.take (k + 1)).foldl (wrongStep X.stays ts pks shs) V4.zero = if q then v else v.inc sk) := by
     unfold Hid
     rw [take_snoc2 HR.out, List.foldl_append, hv]
     simp only [List.foldl_cons, List.foldl_nil, wrongStep, HQ2.out, HSK.out, Int.toNat_natCast]
    rw [hv] at BV3 hin
    have hgv := hin.get sk
    have hlk : (rs.take k).length ≤ 1000 := by rw [List.length_take]; omega
    have hjn : ¬ (j : Int) < ts.length := by omega
    clear HQ HQ2 hin hv
    cases q
    ·have hcv := BV3.out.c sk _ (v.at_ hsk4)
     have hrc : wi.cell? ⟨wo.heap.size, 0, none⟩ = some (.int .i64 (sk : Int)) := by rw [← HSK.out]; exact BR3.out.c 0 _ rfl
     have hfz : wi.frozen? ⟨W.heap.size + 1, sk, none⟩ = false := BV3.out.f sk
     have hbl := BV3.out.lt
     have hbr := BR3.out.lt
     obtain ⟨a, ha⟩ : ∃ a, v.get sk = a := ⟨_, rfl⟩
     rw [ha] at hcv hgv
     have hwp : IntKind.i64.wrap (a + 1) = a + 1 := IntWalk.i64_in _ (by omega)
     have hs4 : (sk : Int) < 4 := by omega
     have HBV := Lib.hid (show Blk (wi.setCell ⟨W.heap.size + 1, sk, none⟩ (.int .i64 (a + 1))) (W.heap.size + 1) ((rs.take (k + 1)).foldl (wrongStep X.stays ts pks shs) V4.zero).cells by
      rw [HFOLD.out, if_neg (by simp), V4.inc, ha, ← V4.set_ _ _ hsk4]
      exact BV3.out.set (j := sk) (by simpa [V4.cells] using hsk4) _)
     have HBX := Lib.hid (BX3.out.other (p := ⟨W.heap.size + 1, sk, none⟩) (.int .i64 (a + 1)) (by simp))
     have HES := Lib.hid (ext_set E3.out ⟨W.heap.size + 1, sk, none⟩ (.int .i64 (a + 1)) (by show W.heap.size ≤ W.heap.size + 1; omega))
     clear hgv ha BV3 BX3 E3 HFOLD
     go_wp2_with fail
     go_roundw
     case rel => exact ⟨k + 1, hlt, by go_num, HES, HBX, HBV⟩
     case measure => simp [intOf]; omega
    ·have HBV := Lib.hid (show Blk wi (W.heap.size + 1) ((rs.take (k + 1)).foldl (wrongStep X.stays ts pks shs) V4.zero).cells by
      rw [HFOLD.out, if_pos rfl]; exact BV3.out)
     clear hgv BV3 HFOLD
     go_wp2_with fail
     go_roundw
     case rel => exact ⟨k + 1, hlt, by go_num, E3, BX3, HBV⟩
     case measure => simp [intOf]; omega
   obtain ⟨n, hn⟩ : ∃ n, ts[j]? = some n := ⟨_, List.getElem?_eq_getElem hjl⟩
   obtain ⟨p, hpj⟩ : ∃ p, pks[j]? = some p := ⟨_, List.getElem?_eq_getElem (by rw [HPK.out.len]; exact hjl)⟩
   obtain ⟨hp0, row0, hrow0, hpl⟩ := HPK.out.ok j n p hn hpj
   obtain ⟨row, hrow, rfl⟩ := stays_get hrow0
   obtain ⟨pn, hpn⟩ : ∃ pn : Nat, p = pn := ⟨p.toNat, by omega⟩
   subst hpn
   have hpl' : pn < row.l.length := by simpa using hpl
   obtain ⟨q1, hq1⟩ : ∃ q1, row.l[pn]? = some q1 := ⟨_, List.getElem?_eq_getElem hpl'⟩
   have hrm := List.mem_of_getElem? hrow
   have hqm := List.mem_of_getElem? hq1
   have HX3 := Lib.hid (HX.out.ext E3.out)
   obtain ⟨t1, b1, o1, ht1, hTA, hb1, hc1⟩ := (HGT.out.below (Nat.le_refl _) E3.out).at_ (k := j) (by simpa [nums] using hjl)
   have hn1 : t1 = (n : Int) := by
    rw [nums_at hn] at ht1; cases ht1; rfl
   subst hn1
   subst hTA
   have e1 := hc1 0 _ rfl
   simp only [Nat.mul_one, Nat.add_zero] at e1
   have hji : (j : Int) < ts.length := by omega
   have HSTEP := Lib.hid (right_step (st := X.stays) (vol := r.vol) (mi := r.mi + sv) hn hpj)
   rw [Int.toNat_natCast, stays_row hrow hq1] at HSTEP
   clear hc1 ht1
   cases q
   rotate_left
   ·have HN : Hid (((List.zip ts pks).take (j + 1)).any (fun p => fliesB (staysAt X.stays p.1 p.2.toNat) r.vol (r.mi + sv)) = true) := by
     unfold Hid; rw [HSTEP.out, HQ.out]; rfl
    clear HSTEP HQ hrow0 hpl hrow hpl' hq1 hn hpj hrm hqm
    go_wp2_with fail
    have SS := Lib.hid (show ∀ w', Below wi.heap.size wi w' → (fun w' => Below wi.heap.size wi w') w' from fun w' h => h)
    refine rgB 26 SS (ext_drew (ext_refl _)) (fun Q7 hQ7 hN7 hHeld => ?_)
    refine rgT 0 (some 33) hQ7 hHeld ?_; refine rgT 1 (some 34) hQ7 hHeld ?_; refine rgS 2 (some 35) hQ7 hHeld ?_; refine rgS 3 (some 36) hQ7 hHeld ?_; refine rgS 4 (some 37) hQ7 hHeld ?_; refine rgS 5 (some 38) hQ7 hHeld ?_; refine rgS 6 (some 39) hQ7 hHeld ?_; refine rgS 7 (some 40) hQ7 hHeld ?_; refine rgS 8 (some 41) hQ7 hHeld ?_; refine rgS 9 (some 42) hQ7 hHeld ?_; refine rgS 10 (some 43) hQ7 hHeld ?_
    refine rgS 11 (some 44) hQ7 hHeld ?_; refine rgS 12 (some 45) hQ7 hHeld ?_; refine rgS 13 (some 46) hQ7 hHeld ?_; refine rgS 14 (some 47) hQ7 hHeld ?_; refine rgS 15 (some 48) hQ7 hHeld ?_; refine rgS 16 (some 49) hQ7 hHeld ?_; refine rgS 17 (some 50) hQ7 hHeld ?_; refine rgS 18 (some 51) hQ7 hHeld ?_; refine rgS 19 (some 52) hQ7 hHeld ?_; refine rgS 20 (some 53) hQ7 hHeld ?_; refine rgS 21 (some 54) hQ7 hHeld ?_
    refine rgS 22 (some 55) hQ7 hHeld ?_; refine rgS 23 (some 56) hQ7 hHeld ?_; refine rgT 24 (some 57) hQ7 hHeld ?_; refine rgT 25 (some 11) hQ7 hHeld ?_
    refine rg_end (by kernel_rfl) (hN7 _ _ ?_) _
    clear hQ7 hN7 Q7
    have BX := hHeld
    clear SS
    clear hHeld
    go_wp2_with fail
    go_roundw
    case rel => exact ⟨j + 1, hjl, by go_num, ⟨true, rfl, HN⟩, E3.out.drew, BX3.out.drew, BV3.out.drew, BR3.out.drew⟩
    case measure => simp [intOf]; omega
   have HN : Hid (∀ b, fliesB q1.l r.vol (r.mi + sv) = b → ((List.zip ts pks).take (j + 1)).any (fun p => fliesB (staysAt X.stays p.1 p.2.toNat) r.vol (r.mi + sv)) = b) := fun b hb => by
    rw [HSTEP.out, HQ.out, hb]; rfl
   obtain ⟨p1, b2, o2, hp1, rfl, hb2, hc2⟩ := (HP.out.below (Nat.le_refl _) E3.out).at_ (k := j) (by rw [HPK.out.len]; exact hjl)
   rw [hpj] at hp1
   cases hp1
   obtain ⟨s1, b3, o3, hs1, rfl, hb3, hc3⟩ := (HS.out.below (Nat.le_refl _) E3.out).at_ (k := sk) hskl
   rw [HSV.out] at hs1
   cases hs1
   obtain ⟨rw0, b4, o4, hr4, hA4, hb4, hc4⟩ := (show Slc wi SliceOf.enc 1 X.sA X.st from HX3.out.s0.slc (fun _ => rfl) (by decide)).at_ (k := n) (List.getElem?_eq_some_iff.1 hrow).1
   rw [hrow] at hr4
   cases hr4
   obtain ⟨q2, b5, o5, hr5, hA5, hb5, hc5⟩ := (show Slc wi SliceOf.enc 1 row.A row.l from (HX3.out.s1 row hrm).slc (fun _ => rfl) (by decide)).at_ (k := pn) hpl'
   rw [hq1] at hr5
   cases hr5
   have f2 := hc2 0 _ rfl
   have f3 := hc3 0 _ rfl
   have f4 : wi.cell? ⟨b4, o4 + n, none⟩ = some (.slice (some ⟨b5, o5, none⟩) row.l.length row.c) := by
    have := hc4 0 _ rfl
    simp only [Nat.mul_one, Nat.add_zero] at this
    rw [this, hA5]
   have f5 := hc5 0 _ rfl
   have f6 : wi.cell? ⟨W.heap.size, 0, none⟩ = some (.slice (some ⟨b4, o4, none⟩) X.st.length X.sc) := by
    rw [← hA4]; exact BX3.out.c 0 _ rfl
   have f7 : wi.cell? ⟨wo.heap.size, 0, none⟩ = some (.int .i64 (sk : Int)) := by rw [← HSK.out]; exact BR3.out.c 0 _ rfl
   have f8 := BR3.out.c 2 _ rfl
   have f9 := BR3.out.c 5 _ rfl
   simp only [Nat.mul_one, Nat.add_zero] at f2 f3 f5
   have hbx := BX3.out.lt
   have hbr := BR3.out.lt
   have hnst : n < X.st.length := (List.getElem?_eq_some_iff.1 hrow).1
   have hnsi : (n : Int) < X.st.length := by omega
   have hpli : (pn : Int) < row.l.length := by omega
   have hpji : (j : Int) < pks.length := by rw [HPK.out.len]; exact hji
   have hski : (sk : Int) < shs.length := by omega
   have hsv3 := HSH.out sv (List.mem_of_getElem? HSV.out)
   have hmi0 := HRS1.out.m0
   have hmi1 := HRS1.out.m1
   have hwm : IntKind.i64.wrap (r.mi + sv) = r.mi + sv := IntWalk.i64_in _ (by omega)
   have SQ := Lib.hid (show Slc wi Sty.cells 4 q1.A q1.l from (HX3.out.s2 row hrm q1 hqm).slc styc_len (by decide))
   have hql : q1.l.length ≤ maxLen := (HX3.out.s2 row hrm q1 hqm).lenMax
   have F2 := Lib.hid f2
   have F3 := Lib.hid f3
   have F4 := Lib.hid f4
   have F5 := Lib.hid f5
   have F6 := Lib.hid f6
   have F7 := Lib.hid f7
   have F8 := Lib.hid f8
   have F9 := Lib.hid f9
   have HQL := Lib.hid hql
   clear hc2 hc3 hc4 hc5 hA4 hA5 f2 f3 f4 f5 f6 f7 f8 f9 HSTEP HQ hrow0 hpl hrow hq1 hn hpj hrm hqm hql hsv3 hmi0 hmi1
   go_wp2_with fail
   have SS := Lib.hid (show ∀ w', Below wi.heap.size wi w' → (fun w' => Below wi.heap.size wi w' ∧ w'.cell? ⟨b2, o2 + j, none⟩ = some (.int .i64 (pn : Int)) ∧ w'.cell? ⟨b3, o3 + sk, none⟩ = some (.int .i64 sv) ∧ w'.cell? ⟨b4, o4 + n, none⟩ = some (.slice (some ⟨b5, o5, none⟩) row.l.length row.c) ∧ w'.cell? ⟨b5, o5 + pn, none⟩ = some (.slice q1.A q1.l.length q1.c) ∧ w'.cell? ⟨W.heap.size, 0, none⟩ = some (.slice (some ⟨b4, o4, none⟩) X.st.length X.sc) ∧ w'.cell? ⟨wo.heap.size, 0, none⟩ = some (.int .i64 (sk : Int)) ∧ w'.cell? ⟨wo.heap.size, 2, none⟩ = some (.int .i64 r.mi) ∧ w'.cell? ⟨wo.heap.size, 5, none⟩ = some (.int .i64 r.vol)) w' from fun w' h => ⟨h, (h.cell (p := ⟨b2, o2 + j, none⟩) hb2).trans F2.out, (h.cell (p := ⟨b3, o3 + sk, none⟩) hb3).trans F3.out, (h.cell (p := ⟨b4, o4 + n, none⟩) hb4).trans F4.out, (h.cell (p := ⟨b5, o5 + pn, none⟩) hb5).trans F5.out, (h.cell (p := ⟨W.heap.size, 0, none⟩) hbx).trans F6.out, (h.cell (p := ⟨wo.heap.size, 0, none⟩) hbr).trans F7.out, (h.cell (p := ⟨wo.heap.size, 2, none⟩) hbr).trans F8.out, (h.cell (p := ⟨wo.heap.size, 5, none⟩) hbr).trans F9.out⟩)
   refine rgB 26 SS (ext_drew (ext_refl _)) (fun Q7 hQ7 hN7 hHeld => ?_)
   refine rgT 0 (some 33) hQ7 hHeld ?_; refine rgT 1 (some 34) hQ7 hHeld ?_; refine rgT 2 (some 35) hQ7 hHeld ?_; refine rgT 3 (some 36) hQ7 hHeld ?_; refine rgT 4 (some 37) hQ7 hHeld ?_; refine rgT 5 (some 38) hQ7 hHeld ?_; refine rgT 6 (some 39) hQ7 hHeld ?_; refine rgT 7 (some 40) hQ7 hHeld ?_; refine rgT 8 (some 41) hQ7 hHeld ?_; refine rgT 9 (some 42) hQ7 hHeld ?_; refine rgT 10 (some 43) hQ7 hHeld ?_
   refine rgT 11 (some 44) hQ7 hHeld ?_; refine rgT 12 (some 45) hQ7 hHeld ?_; refine rgT 13 (some 46) hQ7 hHeld ?_; refine rgT 14 (some 47) hQ7 hHeld ?_; refine rgT 15 (some 48) hQ7 hHeld ?_; refine rgT 16 (some 49) hQ7 hHeld ?_; refine rgT 17 (some 50) hQ7 hHeld ?_; refine rgT 18 (some 51) hQ7 hHeld ?_; refine rgT 19 (some 52) hQ7 hHeld ?_; refine rgT 20 (some 53) hQ7 hHeld ?_; refine rgT 21 (some 54) hQ7 hHeld ?_
   refine rgT 22 (some 55) hQ7 hHeld ?_
   refine rg_one (i := 23) (by kernel_rfl) (rg_step rfl (by rfl) (fun K hK => ?_))
   go_simp
   refine (flies_any q1.A q1.c q1.l r.vol (r.mi + sv) _ (SQ.out.ext hHeld.1) HQL.out).mono ?_
   rintro e u1 ⟨rfl, B1⟩
   go_wp2_with fail
   refine hK.out _ _ ?_ (fun hHeld2 => ?_)
   ·exact SS.out _ (ext_trans hHeld.1 B1)
   clear hHeld
   have hHeld := hHeld2
   clear hHeld2
   clear hK K
   try simp only [Act.put, List.setIfInBounds_toArray, List.set_cons_zero, List.set_cons_succ]
   refine rgT 24 (some 57) hQ7 hHeld ?_; refine rgT 25 (some 11) hQ7 hHeld ?_
   refine rg_end (by kernel_rfl) (hN7 _ _ ?_) _
   clear hQ7 hN7 Q7
   have BX := hHeld.1
   clear SS
   have E4 := Lib.hid (ext_trans E3.out BX)
   have BX4 := Lib.hid (BX3.out.ext BX)
   have BV4 := Lib.hid (BV3.out.ext BX)
   have BR4 := Lib.hid (BR3.out.ext BX)
   have HNB := Lib.hid (HN.out _ rfl)
   clear BX BX3 BV3 BR3 E3 HN
   go_wp2_with fail
   go_roundw
   case rel => exact ⟨j + 1, hjl, by go_num, ⟨_, rfl, HNB⟩, E4, BX4, BV4, BR4⟩
   case measure => simp [intOf]; omega
theorem wrong_any (X : Scn) (g : Grp) (hg : g ∈ X.G) (A : Option Addr) (n c : Nat) (pks : List Int) (A2 : Option Addr) (n2 c2 : Nat) (shs : List Int) (W : World) (hn : n = pks.length) (hn2 : n2 = shs.length) (hX : SceneOk W X) (hp : Slc W ic 1 A pks) (hs : Slc W ic 1 A2 shs) (hpk : Pks X.stays g.ts pks) (hrs : ∀ r ∈ g.rs, RepS shs.length r) (hsh : ∀ s ∈ shs, -3 ≤ s ∧ s ≤ 3)
  (htl : g.ts.length ≤ 1000) (hrl : g.rs.length ≤ 1000) : Calls Tryz.prog 28 #[X.v, gptr g.b, .slice A n c, .slice A2 n2 c2] W fun e w' => e = .returned (wrongV X.stays g.ts g.rs pks shs).v ∧ Below W.heap.size W w' := by
 subst hn hn2
 have h := hX.g1 g hg
 exact wrong_of X g.b g.tA g.rA g.tc g.rc g.ts g.rs A c pks A2 c2 shs W hX h.b (by have := h.t; rw [show g.tv = .slice g.tA (nums g.ts).length g.tc by simp [nums]] at this; exact this.slc (fun _ => rfl) (by decide)) (h.r.slc (fun _ => rfl) (by decide)) hp hs hpk hrs hsh htl hrl
end Go.Proofs.YtjiojpoiocdnmaaGreat
/- A scene while it is being laid. No program in sight. -/
set_option linter.unusedSimpArgs false
set_option linter.unusedVariables false
namespace Go.Proofs.YtjiojpoiocdnmaaGreat
open Go.RowKit Go.ChangeMaps
structure GrpB (W : World) (B0 : Nat) (g : Grp) : Prop where
  lo : B0 ≤ g.b
  b : W.heap[g.b]? = some (.cells #[g.tv, g.rv] 94 (0, 0))
  t : Own W B0 3 ic 1 g.tv (nums g.ts)
  r : Own W B0 55 Rep.cells 6 g.rv g.rs
theorem GrpB.ok {W : World} {B0 : Nat} {g : Grp} (h : GrpB W B0 g) : GrpOk W g := ⟨h.b, h.t.low (Nat.zero_le _), h.r.low (Nat.zero_le _)⟩
theorem GrpB.lt {W : World} {B0 : Nat} {g : Grp} (h : GrpB W B0 g) : g.b < W.heap.size := (Array.getElem?_eq_some_iff.1 h.b).1
theorem GrpB.keep {W W' : World} {B0 : Nat} {g : Grp} (h : GrpB W B0 g) (h1 : W'.heap[g.b]? = W.heap[g.b]?) (h2 : ∀ k, g.tv.ownBlock = some k → W'.heap[k]? = W.heap[k]?) (h3 : ∀ k, g.rv.ownBlock = some k → W'.heap[k]? = W.heap[k]?) : GrpB W' B0 g :=
  ⟨h.lo, h1.trans h.b, h.t.block h2, h.r.block h3⟩
structure SetS (w : World) (tv sv : List Value) (bx B0 : Nat) (X : Scn) (W : World) : Prop where
  E : Below w.heap.size w W
  T : Blk W w.heap.size tv
  S : Blk W (w.heap.size + 1) sv
  XB : Blk W bx X.cells
  lo : w.heap.size + 1 < bx
  mid : bx < B0 ∧ X.m < B0 ∧ w.heap.size + 1 < X.m ∧ bx ≠ X.m
  hi : B0 ≤ W.heap.size
  s0 : Own W B0 135 SliceOf.enc 1 X.sv X.st
  s1 : ∀ r ∈ X.st, Own W B0 95 SliceOf.enc 1 r.v r.l
  s2 : ∀ r ∈ X.st, ∀ q ∈ r.l, Own W B0 113 Sty.cells 4 q.v q.l
  g0 : GMap encC W X.m X.grps
  g1 : ∀ g ∈ X.G, GrpB W B0 g
  gd : ∀ g ∈ X.G, ∀ h ∈ X.G, g.call ≠ h.call → g.b ≠ h.b ∧ (∀ k, g.tv.ownBlock = some k → h.tv.ownBlock ≠ some k) ∧ (∀ k, g.rv.ownBlock = some k → h.rv.ownBlock ≠ some k)
variable {w W W' : World} {tv sv : List Value} {bx B0 : Nat} {X : Scn}
theorem SetS.ext (h : SetS w tv sv bx B0 X W) (hb : Below W.heap.size W W') : SetS w tv sv bx B0 X W' :=
  ⟨ext_trans h.E hb, h.T.ext hb, h.S.ext hb, h.XB.ext hb, h.lo, h.mid, Nat.le_trans h.hi hb.size, h.s0.ext hb, fun r hr => (h.s1 r hr).ext hb, fun r hr q hq => (h.s2 r hr q hq).ext hb, h.g0.ext hb,
    fun g hg => (h.g1 g hg).keep (hb.block _ (h.g1 g hg).lt) (fun k e => hb.block k ((h.g1 g hg).t.lt k e).1) (fun k e => hb.block k ((h.g1 g hg).r.lt k e).1), h.gd⟩
theorem SetS.scene (h : SetS w tv sv bx B0 X W) (hh : Own W 0 39 SliceOf.enc 1 X.hv X.sh) (hr : ∀ r ∈ X.sh, Own W 0 3 ic 1 r.v r.l) : SceneOk W X :=
  ⟨h.s0.low (Nat.zero_le _), fun r hr => (h.s1 r hr).low (Nat.zero_le _), fun r hr q hq => (h.s2 r hr q hq).low (Nat.zero_le _), h.g0, fun g hg => (h.g1 g hg).ok, hh, hr⟩
/-- What a step leaves of the fixed parts. -/
structure Fix (w W W' : World) (B0 : Nat) : Prop where
  os : W'.os = W.os
  tape : W'.tape = W.tape
  out : W'.output = W.output
  size : W.heap.size ≤ W'.heap.size
theorem SetS.below (h : SetS w tv sv bx B0 X W) (hf : Fix w W W' B0) (hk : ∀ k, k < w.heap.size → W'.heap[k]? = W.heap[k]?) : Below w.heap.size w W' :=
  ⟨hf.os.trans h.E.os, hf.tape.trans h.E.tape, hf.out.trans h.E.output, Nat.le_trans h.E.size hf.size, fun k hk' => (hk k hk').trans (h.E.block k hk')⟩
/-- A new group. -/
def newG (c : ByteArray) (b : Nat) : Grp := ⟨c, b, none, 0, [], none, 0, []⟩
theorem SetS.grps_get (h : SetS w tv sv bx B0 X W) (c : ByteArray) : (c ∉ X.G.map (·.call) ∧ asc X.grps c = none) ∨ ∃ g ∈ X.G, g.call = c ∧ asc X.grps c = some (gptr g.b) := by
  by_cases hc : c ∈ X.G.map (·.call)
  · right
    obtain ⟨g, hg, e⟩ := List.mem_map.1 hc
    refine ⟨g, hg, e, ?_⟩
    rw [← e]
    exact asc_some (p := (g.call, gptr g.b)) h.g0.nd_ (List.mem_map.2 ⟨g, hg, rfl⟩)
  · left
    refine ⟨hc, asc_none ?_⟩
    intro hm
    obtain ⟨p, hp, e⟩ := List.mem_map.1 hm
    obtain ⟨g, hg, rfl⟩ := List.mem_map.1 hp
    exact hc (List.mem_map.2 ⟨g, hg, e⟩)
theorem SetS.new (h : SetS w tv sv bx B0 X W) (c : ByteArray) (hc : c ∉ X.G.map (·.call)) :
    ∃ o, (Instr.mapUpdate 74 (.map (some X.m)) (.string c) (gptr W.heap.size)).run Tryz.prog (W.alloc (.cells #[.slice none 0 0, .slice none 0 0] 94)) = .ok () (setBlock (W.alloc (.cells #[.slice none 0 0, .slice none 0 0] 94)) X.m o) ∧
      SetS w tv sv bx B0 { X with G := X.G ++ [newG c W.heap.size] } (setBlock (W.alloc (.cells #[.slice none 0 0, .slice none 0 0] 94)) X.m o) := by
  obtain ⟨W2, hW2⟩ : ∃ W2, W.alloc (.cells #[.slice none 0 0, .slice none 0 0] 94) = W2 := ⟨_, rfl⟩
  have hb2 : Below W.heap.size W W2 := by rw [← hW2]; exact ext_alloc (ext_refl _) _
  have hn : W2.heap[W.heap.size]? = some (.cells #[.slice none 0 0, .slice none 0 0] 94 (0, 0)) := by rw [← hW2]; exact World.alloc_heap_new W _
  have hz2 : W2.heap.size = W.heap.size + 1 := by rw [← hW2]; simp
  have h2 := h.ext hb2
  rw [hW2]
  obtain ⟨o, hr, hM, -⟩ := h2.g0.upd (keyStr Tryz.underlying9) Tryz.underlying74 c (gptr W.heap.size) trivial (fun _ _ => trivial)
  have hput : put X.grps c (gptr W.heap.size) = (X.G ++ [newG c W.heap.size]).map (fun g => (g.call, gptr g.b)) := by
    unfold put
    rw [if_neg, List.map_append]
    · rfl
    · intro hm
      obtain ⟨p, hp, e⟩ := List.mem_map.1 hm
      obtain ⟨g, hg, rfl⟩ := List.mem_map.1 hp
      exact hc (List.mem_map.2 ⟨g, hg, e⟩)
  rw [hput] at hM
  obtain ⟨m1, m2, m3, m4⟩ := h.mid
  have hk : ∀ k, k ≠ X.m → (setBlock W2 X.m o).heap[k]? = W2.heap[k]? := fun k hk => sb_other W2 o hk
  have own : ∀ {α : Type} {e : TypeId} {enc : α → List Value} {sz : Nat} {v : Value} {l : List α}, Own W2 B0 e enc sz v l → Own (setBlock W2 X.m o) B0 e enc sz v l := fun ho => ho.sb o m2
  have hlo := h.lo
  have hhi := h.hi
  refine ⟨o, hr, below_sb h2.E X.m o (by omega), h2.T.sb o (by omega), h2.S.sb o (by omega), h2.XB.sb o m4, hlo, ⟨m1, m2, m3, m4⟩, by rw [sb_size]; exact h2.hi, own h2.s0, fun r hr => own (h2.s1 r hr), fun r hr q hq => own (h2.s2 r hr q hq), hM, fun g hg => ?_, fun g hg q hq hne => ?_⟩
  · rcases List.mem_append.1 hg with hg | hg
    · have := h2.g1 g hg
      exact ⟨this.lo, (hk _ (by have := this.lo; omega)).trans this.b, own this.t, own this.r⟩
    · obtain rfl := List.mem_singleton.1 hg
      exact ⟨hhi, (hk _ (by show W.heap.size ≠ X.m; omega)).trans hn, Own.nil _ _ _ _ _, Own.nil _ _ _ _ _⟩
  · rcases List.mem_append.1 hg with hg | hg <;> rcases List.mem_append.1 hq with hq | hq
    · exact h.gd g hg q hq hne
    · obtain rfl := List.mem_singleton.1 hq
      have := (h.g1 g hg).lt
      exact ⟨by show g.b ≠ W.heap.size; omega, fun k _ e => by simp [newG, Value.ownBlock] at e, fun k _ e => by simp [newG, Value.ownBlock] at e⟩
    · obtain rfl := List.mem_singleton.1 hg
      have := (h.g1 q hq).lt
      exact ⟨by show W.heap.size ≠ q.b; omega, fun k e => by simp [newG, Value.ownBlock] at e, fun k e => by simp [newG, Value.ownBlock] at e⟩
    · obtain rfl := List.mem_singleton.1 hg
      obtain rfl := List.mem_singleton.1 hq
      exact absurd rfl hne
def updG (G : List Grp) (g' : Grp) : List Grp := G.map (fun h => if h.call = g'.call then g' else h)
theorem mem_updG {G : List Grp} {g' x : Grp} (h : x ∈ updG G g') : x = g' ∨ (x ∈ G ∧ x.call ≠ g'.call) := by
  obtain ⟨y, hy, rfl⟩ := List.mem_map.1 h
  split
  · exact .inl rfl
  · rename_i hne; exact .inr ⟨hy, hne⟩
/-- One group has changed. -/
theorem SetS.upd {ev : Value} {g g' : Grp} (h : SetS w tv sv bx B0 X W) (hg : g ∈ X.G) (hc : g'.call = g.call) (hgb : g'.b = g.b) (hf : Fix w W W' B0)
    (hk : ∀ k, k < W.heap.size → k ≠ g.b → ev.ownBlock ≠ some k → W'.heap[k]? = W.heap[k]?) (hev : ∀ k, ev.ownBlock = some k → B0 ≤ k ∧ ∃ cur e, W.heap[k]? = some (.cells cur e (0, 0)) ∧ (e = 3 ∨ e = 55)) (hB : GrpB W' B0 g')
    (ho : ∀ q ∈ X.G, q.call ≠ g.call → (∀ k, q.tv.ownBlock = some k → ev.ownBlock ≠ some k) ∧ (∀ k, q.rv.ownBlock = some k → ev.ownBlock ≠ some k))
    (hd : ∀ q ∈ X.G, q.call ≠ g.call → (∀ k, g'.tv.ownBlock = some k → q.tv.ownBlock ≠ some k) ∧ (∀ k, g'.rv.ownBlock = some k → q.rv.ownBlock ≠ some k)) :
    SetS w tv sv bx B0 { X with G := updG X.G g' } W' := by
  have hG := h.g1 g hg
  have hglo := hG.lo
  obtain ⟨m1, m2, m3, m4⟩ := h.mid
  have hlo := h.lo
  have low : ∀ k, k < B0 → W'.heap[k]? = W.heap[k]? := fun k hk' => hk k (by have := h.hi; omega) (by omega) (fun e => by have := (hev k e).1; omega)
  have own : ∀ {α : Type} {e : TypeId} {enc : α → List Value} {sz : Nat} {v : Value} {l : List α}, Own W B0 e enc sz v l → e ≠ 94 → e ≠ 3 → e ≠ 55 → Own W' B0 e enc sz v l := fun {α e enc sz v l} ho h94 h3 h55 => ho.block fun k e' => hk k (ho.lt k e').1 (fun q => by subst q; exact ho.neB hG.b h94 e') (fun q => by
    obtain ⟨_, cur, e2, h1, h2⟩ := hev k q
    have := ho.neB (b := k) (e2 := e2) (cs := cur) h1 (by rcases h2 with rfl | rfl <;> assumption)
    exact this e')
  have hgr : ({ X with G := updG X.G g' } : Scn).grps = X.grps := by
    show (updG X.G g').map (fun g => (g.call, gptr g.b)) = X.G.map (fun g => (g.call, gptr g.b))
    unfold updG
    rw [List.map_map]
    refine List.map_congr_left fun q hq => ?_
    simp only [Function.comp]
    split
    · rename_i e
      have hqg : q.b = g.b := by
        have hn := h.g0.nd_
        have h1 : asc X.grps q.call = some (gptr q.b) := asc_some (p := (q.call, gptr q.b)) hn (List.mem_map.2 ⟨q, hq, rfl⟩)
        have h2 : asc X.grps g.call = some (gptr g.b) := asc_some (p := (g.call, gptr g.b)) hn (List.mem_map.2 ⟨g, hg, rfl⟩)
        rw [show q.call = g.call from e.trans hc, h2] at h1
        simp at h1; exact h1.symm
      rw [hgb, ← hqg, e]
    · rfl
  have oth : ∀ q ∈ X.G, q.call ≠ g.call → GrpB W' B0 q := fun q hq hne => by
    have h1 := h.g1 q hq
    obtain ⟨h2, h3⟩ := ho q hq hne
    refine h1.keep (hk _ h1.lt (h.gd q hq g hg hne).1 (fun e => ?_)) (fun k e => hk k (h1.t.lt k e).1 (fun e' => ?_) (h2 k e)) (fun k e => hk k (h1.r.lt k e).1 (fun e' => ?_) (h3 k e))
    · obtain ⟨_, cur, e2, h4, h5⟩ := hev _ e
      rw [h1.b] at h4; cases h4; rcases h5 with h5 | h5 <;> cases h5
    · subst e'; exact h1.t.neB hG.b (by decide) e
    · subst e'; exact h1.r.neB hG.b (by decide) e
  refine ⟨h.below hf (fun k hk' => low k (by omega)), h.T.keepB (low _ (by omega)), h.S.keepB (low _ (by omega)), h.XB.keepB (low _ m1), hlo, ⟨m1, m2, m3, m4⟩, Nat.le_trans h.hi hf.size, own h.s0 (by decide) (by decide) (by decide), fun r hr => own (h.s1 r hr) (by decide) (by decide) (by decide), fun r hr q hq => own (h.s2 r hr q hq) (by decide) (by decide) (by decide), by rw [hgr]; exact h.g0.of_block (low _ m2), fun q hq => ?_, fun q hq p hp hne => ?_⟩
  · rcases mem_updG hq with rfl | ⟨hq, hne⟩
    · exact hB
    · exact oth q hq (by rw [← hc]; exact hne)
  · rcases mem_updG hq with e1 | ⟨hq', hqn⟩ <;> rcases mem_updG hp with e2 | ⟨hp', hpn⟩
    · exact absurd (by rw [e1, e2]) hne
    · rw [hc] at hpn
      subst e1
      refine ⟨by rw [hgb]; exact (h.gd g hg p hp' (fun e => hpn e.symm)).1, (hd p hp' hpn).1, (hd p hp' hpn).2⟩
    · rw [hc] at hqn
      subst e2
      exact ⟨by rw [hgb]; exact (h.gd q hq' g hg hqn).1, fun k e e' => (hd q hq' hqn).1 k e' e, fun k e e' => (hd q hq' hqn).2 k e' e⟩
    · exact h.gd q hq' p hp' hne
end Go.Proofs.YtjiojpoiocdnmaaGreat
