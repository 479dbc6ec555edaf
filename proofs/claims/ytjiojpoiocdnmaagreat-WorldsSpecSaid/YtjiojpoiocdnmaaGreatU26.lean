/- The wrong reports of a group. -/
import Derived.Test.YtjiojpoiocdnmaaGreatU25
import Derived.Test.YtjiojpoiocdnmaaGreatU19
import Derived.Test.YtjiojpoiocdnmaaGreatU24
set_option linter.unusedSimpArgs false
set_option linter.unusedVariables false
namespace Go.Proofs.YtjiojpoiocdnmaaGreat
open Go.RowKit
theorem take_snoc2 {α : Type} {l : List α} {q : Nat} {x : α} (h : l[q]? = some x) : l.take (q + 1) = l.take q ++ [x] := by rw [List.take_add_one, h]; rfl
theorem right_step {st : List (List (List Sty))} {ts : List Nat} {pks : List Int} {i n : Nat} {p : Int} {vol mi : Int} (hn : ts[i]? = some n) (hp : pks[i]? = some p) :
  ((List.zip ts pks).take (i + 1)).any (fun p => fliesB (staysAt st p.1 p.2.toNat) vol mi) = (((List.zip ts pks).take i).any (fun p => fliesB (staysAt st p.1 p.2.toNat) vol mi) || fliesB (staysAt st n p.toNat) vol mi) := by
 have hz : (List.zip ts pks)[i]? = some (n, p) := by rw [List.getElem?_zip_eq_some]; exact ⟨hn, hp⟩
 rw [take_snoc2 hz, List.any_append]; simp
theorem stays_row {X : Scn} {n : Nat} {r : SliceOf (SliceOf Sty)} {k : Nat} {q : SliceOf Sty} (hr : X.st[n]? = some r) (hq : r.l[k]? = some q) : staysAt X.stays n k = q.l := by
 simp [staysAt, Scn.stays, hr, hq]
theorem stays_get {X : Scn} {n : Nat} {r : List (List Sty)} (h : X.stays[n]? = some r) : ∃ r', X.st[n]? = some r' ∧ r = r'.l.map (·.l) := by
 unfold Scn.stays at h
 rw [List.getElem?_map] at h
 cases hx : X.st[n]? with
 | none => rw [hx] at h; cases h
 | some x => rw [hx] at h; cases h; exact ⟨x, rfl, rfl⟩
theorem nums_at {l : List Nat} {i n : Nat} (h : l[i]? = some n) : (nums l)[i]? = some (n : Int) := by simp [nums, h]
theorem Own.lenMax {α : Type} {w : World} {base : Nat} {e : TypeId} {enc : α → List Value} {sz : Nat} {v : Value} {l : List α} (h : Own w base e enc sz v l) : l.length ≤ maxLen := by
 obtain ⟨A, c, _, h1, h2, _⟩ := h.cap
 omega
set_option maxRecDepth 100000 in
set_option maxHeartbeats 8000000 in
theorem wrong_of (X : Scn) (gb : Nat) (TA RA : Option Addr) (tc rc : Nat) (ts : List Nat) (rs : List Rep) (A : Option Addr) (c : Nat) (pks : List Int) (A2 : Option Addr) (c2 : Nat) (shs : List Int) (W : World) (hX : SceneOk W X)
  (hgb : W.heap[gb]? = some (.cells #[.slice TA ts.length tc, .slice RA rs.length rc] 94 (0, 0))) (hgt : Slc W ic 1 TA (nums ts)) (hgr : Slc W Rep.cells 6 RA rs)
  (hp : Slc W ic 1 A pks) (hs : Slc W ic 1 A2 shs) (hpk : Pks X.stays ts pks) (hrs : ∀ r ∈ rs, RepS shs.length r) (hsh : ∀ s ∈ shs, -3 ≤ s ∧ s ≤ 3) (htl : ts.length ≤ 1000) (hrl : rs.length ≤ 1000) :
  Calls Tryz.prog 28 #[X.v, gptr gb, .slice A pks.length c, .slice A2 shs.length c2] W fun e w' => e = .returned (wrongV X.stays ts rs pks shs).v ∧ Below W.heap.size W w' := by
 obtain ⟨V, hV⟩ : ∃ V, wrongV X.stays ts rs pks shs = V := ⟨_, rfl⟩
 rw [hV]
 have HV := Lib.hid hV
 have HX := Lib.hid hX
 have HGT := Lib.hid hgt
 have HGR := Lib.hid hgr
 have HP := Lib.hid hp
 have HS := Lib.hid hs
 have HPK := Lib.hid hpk
 have HRS := Lib.hid hrs
 have HSH := Lib.hid hsh
 have hgl : gb < W.heap.size := (Array.getElem?_eq_some_iff.1 hgb).1
 have HG : Hid (∀ W', Below W.heap.size W W' → W'.cell? ⟨gb, 0, none⟩ = some (.slice TA ts.length tc) ∧ W'.cell? ⟨gb, 1, none⟩ = some (.slice RA rs.length rc)) := fun W' h => by
  have := (h.block gb hgl).trans hgb
  constructor <;> simp [World.cell?, this]
 obtain ⟨W0, hW0⟩ : ∃ W0, (W.alloc (.cells #[X.sv, .map (some X.m), .int .i64 X.lost.a, .int .i64 X.lost.b, .int .i64 X.lost.c, .int .i64 X.lost.d, .int .i64 X.bud.a, .int .i64 X.bud.b, .int .i64 X.bud.c, .int .i64 X.bud.d, X.hv] 78)).alloc (.cells #[.int .i64 0, .int .i64 0, .int .i64 0, .int .i64 0] 76) = W0 := ⟨_, rfl⟩
 have E0 : Hid (Below W.heap.size W W0) := by rw [← hW0]; exact ext_alloc (ext_alloc (ext_refl W) _) _
 have BX : Hid (Blk W0 W.heap.size X.cells) := by rw [← hW0]; exact (Blk.newH W X.cells 78 W.heap.size rfl).alloc _
 have BV : Hid (Blk W0 (W.heap.size + 1) V4.zero.cells) := by rw [← hW0]; exact Blk.newH (W.alloc _) V4.zero.cells 76 (W.heap.size + 1) (by simp)
 have g1 := (HG.out W0 E0.out).2
 have gl0 : gb < W0.heap.size := Nat.lt_of_lt_of_le hgl E0.out.size
 clear hV hX hgt hgr hp hs hpk hrs hsh hgb
 go_enter Tryz.func28, Tryz.ntmps28
 go_wp2_with fail
 clear hW0 g1
 go_loopw [19] (fun i wr => ∃ k : Nat, k ≤ rs.length ∧ i = .int .i64 k ∧ Hid (Below W.heap.size W wr) ∧ Hid (Blk wr W.heap.size X.cells) ∧ Hid (Blk wr (W.heap.size + 1) ((rs.take k).foldl (wrongStep X.stays ts pks shs) V4.zero).cells)) (fun i _ => rs.length - (intOf i).toNat)
 case atStart => exact ⟨0, by omega, rfl, E0, BX, by rw [List.take_zero, List.foldl_nil]; exact BV⟩
 case round =>
  obtain ⟨k, hk, rfl, E1, BX1, BV1⟩ := hrel
  clear E0 BX BV gl0
  obtain ⟨wo, rfl⟩ : ∃ wo, wo = wr := ⟨_, rfl⟩
  by_cases hlt : k < rs.length
  rotate_left
  ·rw [List.take_of_length_le (by omega)] at BV1
   have HV1 : Hid (Blk wo (W.heap.size + 1) V.cells) := by rw [← HV.out]; exact BV1.out
   have d0 := HV1.out.c 0 _ rfl
   have d1 := HV1.out.c 1 _ rfl
   have d2 := HV1.out.c 2 _ rfl
   have d3 := HV1.out.c 3 _ rfl
   have zf := HV1.out.f
   have zl := HV1.out.lt
   have HZ4 := Lib.hid (HV1.out.put4 (.int .i64 V.a) (.int .i64 V.b) (.int .i64 V.c) (.int .i64 V.d))
   have HE4 := Lib.hid (ext_set4 E1.out (W.heap.size + 1) (.int .i64 V.a) (.int .i64 V.b) (.int .i64 V.c) (.int .i64 V.d) (by omega))
   unfold set4 at HZ4 HE4
   clear BX1 BV1 HV1 E1
   go_wp2_with fail
   clear d0 d1 d2 d3 zf zl
   have r0 := HZ4.out.c 0 _ rfl
   have r1 := HZ4.out.c 1 _ rfl
   have r2 := HZ4.out.c 2 _ rfl
   have r3 := HZ4.out.c 3 _ rfl
   refine bodyPost_ret (v := V.v) (by simp [results, Tryz.results28, go_sem, *]) rfl ?_
   exact ⟨rfl, HE4.out⟩
  have hgr1 := HGR.out.below (Nat.le_refl _) E1.out
  obtain ⟨r, rb, ro, hr, rfl, hrb, hc⟩ := hgr1.at_ hlt
  have d0 := hc 0 _ rfl
  have d1 := hc 1 _ rfl
  have d2 := hc 2 _ rfl
  have d3 := hc 3 _ rfl
  have d4 := hc 4 _ rfl
  have d5 := hc 5 _ rfl
  simp only [Nat.add_zero] at d0
  have HR := Lib.hid hr
  have HRS1 := Lib.hid (HRS.out r (List.mem_of_getElem? hr))
  have hki : (k : Int) < rs.length := by omega
  obtain ⟨W1, hW1⟩ : ∃ W1, wo.alloc (.cells #[.int .i64 r.st, .int .i64 r.no, .int .i64 r.mi, .int .i64 r.ar, .string r.call, .int .i64 r.vol] 55) = W1 := ⟨_, rfl⟩
  have E2 : Hid (Below W.heap.size W W1) := by rw [← hW1]; exact ext_alloc E1.out _
  have BX2 : Hid (Blk W1 W.heap.size X.cells) := by rw [← hW1]; exact BX1.out.alloc _
  have BV2 : Hid (Blk W1 (W.heap.size + 1) ((rs.take k).foldl (wrongStep X.stays ts pks shs) V4.zero).cells) := by rw [← hW1]; exact BV1.out.alloc _
  have BR2 : Hid (Blk W1 wo.heap.size r.cells) := by rw [← hW1]; exact Blk.newH wo r.cells 55 wo.heap.size rfl
  have hsw : W.heap.size ≤ wo.heap.size := E1.out.size
  have g0 := (HG.out W1 E2.out).1
  have gl1 : gb < W1.heap.size := Nat.lt_of_lt_of_le hgl E2.out.size
  have hbvl : W.heap.size + 1 < wo.heap.size := BV1.out.lt
  clear hc hr hgr1 E1 BX1 BV1
  obtain ⟨sk, hsk⟩ : ∃ sk : Nat, r.st = sk := ⟨r.st.toNat, by have := HRS1.out.s0; omega⟩
  have hsk4 : sk < 4 := by have := HRS1.out.s1; omega
  have hskl : sk < shs.length := by have := HRS1.out.s2; omega
  obtain ⟨sv, hsv⟩ : ∃ sv, shs[sk]? = some sv := ⟨_, List.getElem?_eq_getElem hskl⟩
  have HSK := Lib.hid hsk
  have HSV := Lib.hid hsv
  clear hsk hsv
  go_wp2_with fail
  clear d0 d1 d2 d3 d4 d5 hW1 g0 gl1
  go_loopw [11, 28] (fun a i wr => ∃ j : Nat, j ≤ ts.length ∧ i = .int .i64 j ∧ (∃ q : Bool, a = .bool q ∧ Hid (((List.zip ts pks).take j).any (fun p => fliesB (staysAt X.stays p.1 p.2.toNat) r.vol (r.mi + sv)) = q)) ∧ Hid (Below W.heap.size W wr) ∧ Hid (Blk wr W.heap.size X.cells) ∧ Hid (Blk wr (W.heap.size + 1) ((rs.take k).foldl (wrongStep X.stays ts pks shs) V4.zero).cells) ∧ Hid (Blk wr wo.heap.size r.cells)) (fun _ i _ => ts.length - (intOf i).toNat)
  case atStart => exact ⟨0, by omega, rfl, ⟨false, rfl, by simp [Hid]⟩, E2, BX2, BV2, BR2⟩
  case round =>
   obtain ⟨j, hj, rfl, ⟨q, rfl, HQ⟩, E3, BX3, BV3, BR3⟩ := hrel
   clear E2 BX2 BV2 BR2
   obtain ⟨wi, rfl⟩ : ∃ wi, wi = wr := ⟨_, rfl⟩
   by_cases hjl : j < ts.length
   rotate_left
   ·have HQ2 : Hid (rightB X.stays ts pks r.vol (r.mi + shs.getD sk 0) = q) := by
     have := HQ.out
     rw [List.take_of_length_le (by rw [List.length_zip]; omega)] at this
     unfold rightB Hid
     rw [List.getD_eq_getElem?_getD, HSV.out]
     exact this
    have hin := wrong_in X.stays ts pks shs (rs.take k) V4.zero 0 (by simp [V4.In, V4.zero])
    obtain ⟨v, hv⟩ : ∃ v, (rs.take k).foldl (wrongStep X.stays ts pks shs) V4.zero = v := ⟨_, rfl⟩
    have HFOLD : Hid ((rs.take (k + 1)).foldl (wrongStep X.stays ts pks shs) V4.zero = if q then v else v.inc sk) := by
     unfold Hid
     rw [take_snoc2 HR.out, List.foldl_append, hv]
     simp only [List.foldl_cons, List.foldl_nil, wrongStep, HQ2.out, HSK.out, Int.toNat_natCast]
    rw [hv] at BV3 hin
    have hgv := hin.get sk
    have hlk : (rs.take k).length ≤ 1000 := by rw [List.length_take]; omega
    have hjn : ¬ (j : Int) < ts.length := by omega
    clear HQ HQ2 hin hv
    cases q
    ·have hcv := BV3.out.c sk _ (v.at_ hsk4)
     have hrc : wi.cell? ⟨wo.heap.size, 0, none⟩ = some (.int .i64 (sk : Int)) := by rw [← HSK.out]; exact BR3.out.c 0 _ rfl
     have hfz : wi.frozen? ⟨W.heap.size + 1, sk, none⟩ = false := BV3.out.f sk
     have hbl := BV3.out.lt
     have hbr := BR3.out.lt
     obtain ⟨a, ha⟩ : ∃ a, v.get sk = a := ⟨_, rfl⟩
     rw [ha] at hcv hgv
     have hwp : IntKind.i64.wrap (a + 1) = a + 1 := IntWalk.i64_in _ (by omega)
     have hs4 : (sk : Int) < 4 := by omega
     have HBV := Lib.hid (show Blk (wi.setCell ⟨W.heap.size + 1, sk, none⟩ (.int .i64 (a + 1))) (W.heap.size + 1) ((rs.take (k + 1)).foldl (wrongStep X.stays ts pks shs) V4.zero).cells by
      rw [HFOLD.out, if_neg (by simp), V4.inc, ha, ← V4.set_ _ _ hsk4]
      exact BV3.out.set (j := sk) (by simpa [V4.cells] using hsk4) _)
     have HBX := Lib.hid (BX3.out.other (p := ⟨W.heap.size + 1, sk, none⟩) (.int .i64 (a + 1)) (by simp))
     have HES := Lib.hid (ext_set E3.out ⟨W.heap.size + 1, sk, none⟩ (.int .i64 (a + 1)) (by show W.heap.size ≤ W.heap.size + 1; omega))
     clear hgv ha BV3 BX3 E3 HFOLD
     go_wp2_with fail
     go_roundw
     case rel => exact ⟨k + 1, hlt, by go_num, HES, HBX, HBV⟩
     case measure => simp [intOf]; omega
    ·have HBV := Lib.hid (show Blk wi (W.heap.size + 1) ((rs.take (k + 1)).foldl (wrongStep X.stays ts pks shs) V4.zero).cells by
      rw [HFOLD.out, if_pos rfl]; exact BV3.out)
     clear hgv BV3 HFOLD
     go_wp2_with fail
     go_roundw
     case rel => exact ⟨k + 1, hlt, by go_num, E3, BX3, HBV⟩
     case measure => simp [intOf]; omega
   obtain ⟨n, hn⟩ : ∃ n, ts[j]? = some n := ⟨_, List.getElem?_eq_getElem hjl⟩
   obtain ⟨p, hpj⟩ : ∃ p, pks[j]? = some p := ⟨_, List.getElem?_eq_getElem (by rw [HPK.out.len]; exact hjl)⟩
   obtain ⟨hp0, row0, hrow0, hpl⟩ := HPK.out.ok j n p hn hpj
   obtain ⟨row, hrow, rfl⟩ := stays_get hrow0
   obtain ⟨pn, hpn⟩ : ∃ pn : Nat, p = pn := ⟨p.toNat, by omega⟩
   subst hpn
   have hpl' : pn < row.l.length := by simpa using hpl
   obtain ⟨q1, hq1⟩ : ∃ q1, row.l[pn]? = some q1 := ⟨_, List.getElem?_eq_getElem hpl'⟩
   have hrm := List.mem_of_getElem? hrow
   have hqm := List.mem_of_getElem? hq1
   have HX3 := Lib.hid (HX.out.ext E3.out)
   obtain ⟨t1, b1, o1, ht1, hTA, hb1, hc1⟩ := (HGT.out.below (Nat.le_refl _) E3.out).at_ (k := j) (by simpa [nums] using hjl)
   have hn1 : t1 = (n : Int) := by
    rw [nums_at hn] at ht1; cases ht1; rfl
   subst hn1
   subst hTA
   have e1 := hc1 0 _ rfl
   simp only [Nat.mul_one, Nat.add_zero] at e1
   have hji : (j : Int) < ts.length := by omega
   have HSTEP := Lib.hid (right_step (st := X.stays) (vol := r.vol) (mi := r.mi + sv) hn hpj)
   rw [Int.toNat_natCast, stays_row hrow hq1] at HSTEP
   clear hc1 ht1
   cases q
   rotate_left
   ·have HN : Hid (((List.zip ts pks).take (j + 1)).any (fun p => fliesB (staysAt X.stays p.1 p.2.toNat) r.vol (r.mi + sv)) = true) := by
     unfold Hid; rw [HSTEP.out, HQ.out]; rfl
    clear HSTEP HQ hrow0 hpl hrow hpl' hq1 hn hpj hrm hqm
    go_wp2_with fail
    have SS := Lib.hid (show ∀ w', Below wi.heap.size wi w' → (fun w' => Below wi.heap.size wi w') w' from fun w' h => h)
    refine rgB 26 SS (ext_drew (ext_refl _)) (fun Q7 hQ7 hN7 hHeld => ?_)
    refine rgT 0 (some 33) hQ7 hHeld ?_; refine rgT 1 (some 34) hQ7 hHeld ?_; refine rgS 2 (some 35) hQ7 hHeld ?_; refine rgS 3 (some 36) hQ7 hHeld ?_; refine rgS 4 (some 37) hQ7 hHeld ?_; refine rgS 5 (some 38) hQ7 hHeld ?_; refine rgS 6 (some 39) hQ7 hHeld ?_; refine rgS 7 (some 40) hQ7 hHeld ?_; refine rgS 8 (some 41) hQ7 hHeld ?_; refine rgS 9 (some 42) hQ7 hHeld ?_; refine rgS 10 (some 43) hQ7 hHeld ?_
    refine rgS 11 (some 44) hQ7 hHeld ?_; refine rgS 12 (some 45) hQ7 hHeld ?_; refine rgS 13 (some 46) hQ7 hHeld ?_; refine rgS 14 (some 47) hQ7 hHeld ?_; refine rgS 15 (some 48) hQ7 hHeld ?_; refine rgS 16 (some 49) hQ7 hHeld ?_; refine rgS 17 (some 50) hQ7 hHeld ?_; refine rgS 18 (some 51) hQ7 hHeld ?_; refine rgS 19 (some 52) hQ7 hHeld ?_; refine rgS 20 (some 53) hQ7 hHeld ?_; refine rgS 21 (some 54) hQ7 hHeld ?_
    refine rgS 22 (some 55) hQ7 hHeld ?_; refine rgS 23 (some 56) hQ7 hHeld ?_; refine rgT 24 (some 57) hQ7 hHeld ?_; refine rgT 25 (some 11) hQ7 hHeld ?_
    refine rg_end (by kernel_rfl) (hN7 _ _ ?_) _
    clear hQ7 hN7 Q7
    have BX := hHeld
    clear SS
    clear hHeld
    go_wp2_with fail
    go_roundw
    case rel => exact ⟨j + 1, hjl, by go_num, ⟨true, rfl, HN⟩, E3.out.drew, BX3.out.drew, BV3.out.drew, BR3.out.drew⟩
    case measure => simp [intOf]; omega
   have HN : Hid (∀ b, fliesB q1.l r.vol (r.mi + sv) = b → ((List.zip ts pks).take (j + 1)).any (fun p => fliesB (staysAt X.stays p.1 p.2.toNat) r.vol (r.mi + sv)) = b) := fun b hb => by
    rw [HSTEP.out, HQ.out, hb]; rfl
   obtain ⟨p1, b2, o2, hp1, rfl, hb2, hc2⟩ := (HP.out.below (Nat.le_refl _) E3.out).at_ (k := j) (by rw [HPK.out.len]; exact hjl)
   rw [hpj] at hp1
   cases hp1
   obtain ⟨s1, b3, o3, hs1, rfl, hb3, hc3⟩ := (HS.out.below (Nat.le_refl _) E3.out).at_ (k := sk) hskl
   rw [HSV.out] at hs1
   cases hs1
   obtain ⟨rw0, b4, o4, hr4, hA4, hb4, hc4⟩ := (show Slc wi SliceOf.enc 1 X.sA X.st from HX3.out.s0.slc (fun _ => rfl) (by decide)).at_ (k := n) (List.getElem?_eq_some_iff.1 hrow).1
   rw [hrow] at hr4
   cases hr4
   obtain ⟨q2, b5, o5, hr5, hA5, hb5, hc5⟩ := (show Slc wi SliceOf.enc 1 row.A row.l from (HX3.out.s1 row hrm).slc (fun _ => rfl) (by decide)).at_ (k := pn) hpl'
   rw [hq1] at hr5
   cases hr5
   have f2 := hc2 0 _ rfl
   have f3 := hc3 0 _ rfl
   have f4 : wi.cell? ⟨b4, o4 + n, none⟩ = some (.slice (some ⟨b5, o5, none⟩) row.l.length row.c) := by
    have := hc4 0 _ rfl
    simp only [Nat.mul_one, Nat.add_zero] at this
    rw [this, hA5]
   have f5 := hc5 0 _ rfl
   have f6 : wi.cell? ⟨W.heap.size, 0, none⟩ = some (.slice (some ⟨b4, o4, none⟩) X.st.length X.sc) := by
    rw [← hA4]; exact BX3.out.c 0 _ rfl
   have f7 : wi.cell? ⟨wo.heap.size, 0, none⟩ = some (.int .i64 (sk : Int)) := by rw [← HSK.out]; exact BR3.out.c 0 _ rfl
   have f8 := BR3.out.c 2 _ rfl
   have f9 := BR3.out.c 5 _ rfl
   simp only [Nat.mul_one, Nat.add_zero] at f2 f3 f5
   have hbx := BX3.out.lt
   have hbr := BR3.out.lt
   have hnst : n < X.st.length := (List.getElem?_eq_some_iff.1 hrow).1
   have hnsi : (n : Int) < X.st.length := by omega
   have hpli : (pn : Int) < row.l.length := by omega
   have hpji : (j : Int) < pks.length := by rw [HPK.out.len]; exact hji
   have hski : (sk : Int) < shs.length := by omega
   have hsv3 := HSH.out sv (List.mem_of_getElem? HSV.out)
   have hmi0 := HRS1.out.m0
   have hmi1 := HRS1.out.m1
   have hwm : IntKind.i64.wrap (r.mi + sv) = r.mi + sv := IntWalk.i64_in _ (by omega)
   have SQ := Lib.hid (show Slc wi Sty.cells 4 q1.A q1.l from (HX3.out.s2 row hrm q1 hqm).slc styc_len (by decide))
   have hql : q1.l.length ≤ maxLen := (HX3.out.s2 row hrm q1 hqm).lenMax
   have F2 := Lib.hid f2
   have F3 := Lib.hid f3
   have F4 := Lib.hid f4
   have F5 := Lib.hid f5
   have F6 := Lib.hid f6
   have F7 := Lib.hid f7
   have F8 := Lib.hid f8
   have F9 := Lib.hid f9
   have HQL := Lib.hid hql
   clear hc2 hc3 hc4 hc5 hA4 hA5 f2 f3 f4 f5 f6 f7 f8 f9 HSTEP HQ hrow0 hpl hrow hq1 hn hpj hrm hqm hql hsv3 hmi0 hmi1
   go_wp2_with fail
   have SS := Lib.hid (show ∀ w', Below wi.heap.size wi w' → (fun w' => Below wi.heap.size wi w' ∧ w'.cell? ⟨b2, o2 + j, none⟩ = some (.int .i64 (pn : Int)) ∧ w'.cell? ⟨b3, o3 + sk, none⟩ = some (.int .i64 sv) ∧ w'.cell? ⟨b4, o4 + n, none⟩ = some (.slice (some ⟨b5, o5, none⟩) row.l.length row.c) ∧ w'.cell? ⟨b5, o5 + pn, none⟩ = some (.slice q1.A q1.l.length q1.c) ∧ w'.cell? ⟨W.heap.size, 0, none⟩ = some (.slice (some ⟨b4, o4, none⟩) X.st.length X.sc) ∧ w'.cell? ⟨wo.heap.size, 0, none⟩ = some (.int .i64 (sk : Int)) ∧ w'.cell? ⟨wo.heap.size, 2, none⟩ = some (.int .i64 r.mi) ∧ w'.cell? ⟨wo.heap.size, 5, none⟩ = some (.int .i64 r.vol)) w' from fun w' h => ⟨h, (h.cell (p := ⟨b2, o2 + j, none⟩) hb2).trans F2.out, (h.cell (p := ⟨b3, o3 + sk, none⟩) hb3).trans F3.out, (h.cell (p := ⟨b4, o4 + n, none⟩) hb4).trans F4.out, (h.cell (p := ⟨b5, o5 + pn, none⟩) hb5).trans F5.out, (h.cell (p := ⟨W.heap.size, 0, none⟩) hbx).trans F6.out, (h.cell (p := ⟨wo.heap.size, 0, none⟩) hbr).trans F7.out, (h.cell (p := ⟨wo.heap.size, 2, none⟩) hbr).trans F8.out, (h.cell (p := ⟨wo.heap.size, 5, none⟩) hbr).trans F9.out⟩)
   refine rgB 26 SS (ext_drew (ext_refl _)) (fun Q7 hQ7 hN7 hHeld => ?_)
   refine rgT 0 (some 33) hQ7 hHeld ?_; refine rgT 1 (some 34) hQ7 hHeld ?_; refine rgT 2 (some 35) hQ7 hHeld ?_; refine rgT 3 (some 36) hQ7 hHeld ?_; refine rgT 4 (some 37) hQ7 hHeld ?_; refine rgT 5 (some 38) hQ7 hHeld ?_; refine rgT 6 (some 39) hQ7 hHeld ?_; refine rgT 7 (some 40) hQ7 hHeld ?_; refine rgT 8 (some 41) hQ7 hHeld ?_; refine rgT 9 (some 42) hQ7 hHeld ?_; refine rgT 10 (some 43) hQ7 hHeld ?_
   refine rgT 11 (some 44) hQ7 hHeld ?_; refine rgT 12 (some 45) hQ7 hHeld ?_; refine rgT 13 (some 46) hQ7 hHeld ?_; refine rgT 14 (some 47) hQ7 hHeld ?_; refine rgT 15 (some 48) hQ7 hHeld ?_; refine rgT 16 (some 49) hQ7 hHeld ?_; refine rgT 17 (some 50) hQ7 hHeld ?_; refine rgT 18 (some 51) hQ7 hHeld ?_; refine rgT 19 (some 52) hQ7 hHeld ?_; refine rgT 20 (some 53) hQ7 hHeld ?_; refine rgT 21 (some 54) hQ7 hHeld ?_
   refine rgT 22 (some 55) hQ7 hHeld ?_
   refine rg_one (i := 23) (by kernel_rfl) (rg_step rfl (by rfl) (fun K hK => ?_))
   go_simp
   refine (flies_any q1.A q1.c q1.l r.vol (r.mi + sv) _ (SQ.out.ext hHeld.1) HQL.out).mono ?_
   rintro e u1 ⟨rfl, B1⟩
   go_wp2_with fail
   refine hK.out _ _ ?_ (fun hHeld2 => ?_)
   ·exact SS.out _ (ext_trans hHeld.1 B1)
   clear hHeld
   have hHeld := hHeld2
   clear hHeld2
   clear hK K
   try simp only [Act.put, List.setIfInBounds_toArray, List.set_cons_zero, List.set_cons_succ]
   refine rgT 24 (some 57) hQ7 hHeld ?_; refine rgT 25 (some 11) hQ7 hHeld ?_
   refine rg_end (by kernel_rfl) (hN7 _ _ ?_) _
   clear hQ7 hN7 Q7
   have BX := hHeld.1
   clear SS
   have E4 := Lib.hid (ext_trans E3.out BX)
   have BX4 := Lib.hid (BX3.out.ext BX)
   have BV4 := Lib.hid (BV3.out.ext BX)
   have BR4 := Lib.hid (BR3.out.ext BX)
   have HNB := Lib.hid (HN.out _ rfl)
   clear BX BX3 BV3 BR3 E3 HN
   go_wp2_with fail
   go_roundw
   case rel => exact ⟨j + 1, hjl, by go_num, ⟨_, rfl, HNB⟩, E4, BX4, BV4, BR4⟩
   case measure => simp [intOf]; omega
theorem wrong_any (X : Scn) (g : Grp) (hg : g ∈ X.G) (A : Option Addr) (n c : Nat) (pks : List Int) (A2 : Option Addr) (n2 c2 : Nat) (shs : List Int) (W : World) (hn : n = pks.length) (hn2 : n2 = shs.length) (hX : SceneOk W X) (hp : Slc W ic 1 A pks) (hs : Slc W ic 1 A2 shs) (hpk : Pks X.stays g.ts pks) (hrs : ∀ r ∈ g.rs, RepS shs.length r) (hsh : ∀ s ∈ shs, -3 ≤ s ∧ s ≤ 3)
  (htl : g.ts.length ≤ 1000) (hrl : g.rs.length ≤ 1000) : Calls Tryz.prog 28 #[X.v, gptr g.b, .slice A n c, .slice A2 n2 c2] W fun e w' => e = .returned (wrongV X.stays g.ts g.rs pks shs).v ∧ Below W.heap.size W w' := by
 subst hn hn2
 have h := hX.g1 g hg
 exact wrong_of X g.b g.tA g.rA g.tc g.rc g.ts g.rs A c pks A2 c2 shs W hX h.b (by have := h.t; rw [show g.tv = .slice g.tA (nums g.ts).length g.tc by simp [nums]] at this; exact this.slc (fun _ => rfl) (by decide)) (h.r.slc (fun _ => rfl) (by decide)) hp hs hpk hrs hsh htl hrl
end Go.Proofs.YtjiojpoiocdnmaaGreat
/- The reference's Check of tracks. -/
set_option linter.unusedSimpArgs false
set_option linter.unusedVariables false
namespace Go.Proofs.YtjiojpoiocdnmaaGreat
open Go.RowKit
set_option maxRecDepth 100000 in
set_option maxHeartbeats 8000000 in
theorem rwchk_at {t : Tab} {A : Option Addr} {n c : Nat} {l : List Trk} {w : World} (R : Int) (hR : wchkE t l = R) (hn : n = l.length) (ht : Tab.ok w t) (hl : SliceOf.ok Trk.cells 14 Trk.ok w ⟨A, c, l⟩) : Calls Tryz.prog 17 #[t.v, .slice A n c] w (RetE w R) := by
 have HD : Hid ((if chkT t ≠ 0 then chkT t else if decide (l.length ≤ 12) && l.all (trkB t) then 0 else 240) = R) := hR
 have HN := Lib.hid hn
 have HT := Lib.hid ht
 have HL := Lib.hid hl
 have hnm : n ≤ 2 ^ 63 - 1 := by rw [hn]; exact hl.len
 clear hR hn hl ht
 have HE : Hid (Below w.heap.size w (w.alloc (.cells #[.int .i64 t.n, .slice t.ss.A t.ss.l.length t.ss.c, .slice t.cs.A t.cs.l.length t.cs.c, .slice t.ws.A t.ws.l.length t.ws.c, .slice t.ms.A t.ms.l.length t.ms.c, .slice t.ks.A t.ks.l.length t.ks.c] 28))) := ext_alloc (ext_refl w) _
 have BT : Hid (Blk (w.alloc (.cells #[.int .i64 t.n, .slice t.ss.A t.ss.l.length t.ss.c, .slice t.cs.A t.cs.l.length t.cs.c, .slice t.ws.A t.ws.l.length t.ws.c, .slice t.ms.A t.ms.l.length t.ms.c, .slice t.ks.A t.ks.l.length t.ks.c] 28)) w.heap.size t.cells) := Blk.newH w t.cells 28 w.heap.size rfl
 obtain ⟨E0, hE0⟩ : ∃ E, chkT t = E := ⟨_, rfl⟩
 have HC0 := Lib.hid hE0
 clear hE0
 go_enter Tryz.func17, Tryz.ntmps17
 go_wp2_with fail
 refine (rchk_at E0 HC0.out (HT.out.ext HE.out)).mono ?_
 rintro e w1 ⟨rfl, B⟩
 replace HE := Lib.hid (ext_trans HE.out B)
 replace BT := Lib.hid (BT.out.ext B)
 clear B
 by_cases hc : E0 = 0
 rotate_left
 ·obtain rfl : R = E0 := by rw [← HD.out, HC0.out, if_pos hc]
  have hcf : ((R : Int) == 0) = false := by rw [beq_eq_false_iff_ne]; exact hc
  have hcf2 : (R != 0) = true := by rw [bne, hcf]; rfl
  clear HC0 HD
  go_wp2_with fail
  go_ret
  exact ⟨rfl, HE.out⟩
 subst hc
 have HC : Hid (chkT t = 0) := HC0.out
 clear HC0
 by_cases h12 : 12 < n
 ·have HR : Hid (R = 240) := by unfold Hid; rw [← HD.out, if_neg (by rw [HC.out]; simp), decide_eq_false (show ¬ l.length ≤ 12 by rw [← HN.out]; omega)]; rfl
  have h12' : (12 : Int) < (n : Int) := by omega
  clear HD
  go_wp2_with fail
  go_ret
  rw [HR.out]
  exact ⟨rfl, HE.out⟩
 have h12' : ¬ (12 : Int) < (n : Int) := by omega
 replace HD : Hid ((if l.all (trkB t) then 0 else 240) = R) := by
  have h := HD.out
  rw [if_neg (by rw [HC.out]; simp), decide_eq_true (show l.length ≤ 12 by rw [← HN.out]; omega), Bool.true_and] at h
  exact h
 go_wp2_with fail
 go_loopw [6] (fun i wr => ∃ k : Nat, k ≤ n ∧ i = .int .i64 k ∧ Hid (∀ y ∈ l.take k, trkB t y = true) ∧ Hid (Below w1.heap.size w1 wr)) (fun i _ => n - (intOf i).toNat)
 case atStart => exact ⟨0, by omega, rfl, by simp [Hid], ext_refl _⟩
 case round =>
  obtain ⟨k, hk, rfl, HY, EE⟩ := hrel
  obtain ⟨wo, rfl⟩ : ∃ wo, wo = wr := ⟨_, rfl⟩
  have EO := Lib.hid (ext_trans HE.out EE.out)
  by_cases hlt : k < n
  rotate_left
  ·obtain rfl : k = n := by omega
   have hkn : ¬ (k : Int) < (k : Int) := by omega
   obtain rfl : R = 0 := by
    rw [← HD.out, if_pos]
    rw [List.all_eq_true]
    exact fun y hy => HY.out y (by rw [List.take_of_length_le (by rw [HN.out]; exact Nat.le_refl _)]; exact hy)
   clear HD
   go_wp2_with fail
   go_ret
   exact ⟨rfl, EO.out⟩
  ·have hki : (k : Int) < (n : Int) := by omega
   obtain ⟨x, xb, xo, hx, hA, hxb, hxc⟩ := (HL.out.slc.below (Nat.le_refl _) EO.out).at_ (k := k) (by rw [← HN.out]; exact hlt)
   have hxk : SliceOf.ok Pth.cells 2 Pth.ok wo x.ps := (Trk.ok.ext (HL.out.all (List.mem_of_getElem? hx)) EO.out).2.2.1
   have d3 := hxc 3 _ rfl
   have d12 := hxc 12 _ rfl
   have HX := Lib.hid hx
   have HXK := Lib.hid hxk
   have HNO := Lib.hid (show trkB t x = false → R = 240 from fun h => by
    rw [← HD.out, if_neg]
    rw [List.all_eq_true]
    exact fun q => by rw [q x (List.mem_of_getElem? hx)] at h; cases h)
   subst hA
   obtain ⟨m, hm⟩ : ∃ m, x.ps.l.length = m := ⟨_, rfl⟩
   have HM := Lib.hid hm
   have hmx : m ≤ 2 ^ 63 - 1 := by rw [← hm]; exact hxk.len
   rw [hm] at d12
   clear hx hxc hxk hm
   obtain ⟨nb, hnb⟩ : ∃ nb, nameB x.fl.call = nb := ⟨_, rfl⟩
   have HNB := Lib.hid hnb
   clear hnb
   go_wp2_with fail
   refine (rname_at nb HNB.out).mono ?_
   rintro e w2 ⟨rfl, rfl⟩
   cases nb with
   | false =>
    have HR : Hid (R = 240) := HNO.out (by unfold trkB; rw [HNB.out]; rfl)
    clear HD HNO
    go_wp2_with fail
    go_ret
    rw [HR.out]
    exact ⟨rfl, EO.out⟩
   | true =>
    by_cases hm1 : m < 1
    ·have HR : Hid (R = 240) := HNO.out (by unfold trkB; rw [HM.out, decide_eq_false (show ¬ 1 ≤ m by omega)]; simp)
     have hm1' : (m : Int) < 1 := by omega
     clear HD HNO
     go_wp2_with fail
     go_ret
     rw [HR.out]
     exact ⟨rfl, EO.out⟩
    have hm1' : ¬ (m : Int) < 1 := by omega
    by_cases hm4 : 4096 < m
    ·have HR : Hid (R = 240) := HNO.out (by unfold trkB; rw [HM.out, decide_eq_false (show ¬ m ≤ 4096 by omega)]; simp)
     have hm4' : (4096 : Int) < (m : Int) := by omega
     clear HD HNO
     go_wp2_with fail
     go_ret
     rw [HR.out]
     exact ⟨rfl, EO.out⟩
    have hm4' : ¬ (4096 : Int) < (m : Int) := by omega
    have D12 := Lib.hid d12
    have XL := Lib.hid hxb
    go_wp2_with fail
    clear d3 d12 hxb
    go_loopw [7] (fun i wr => ∃ j : Nat, j ≤ m ∧ i = .int .i64 j ∧ Hid (∀ q ∈ x.ps.l.take j, pathB t q = true) ∧ Hid (Below wo.heap.size wo wr)) (fun i _ => m - (intOf i).toNat)
    case atStart => exact ⟨0, by omega, rfl, by simp [Hid], ext_refl _⟩
    case round =>
     obtain ⟨j, hj, rfl, HQ, EW⟩ := hrel
     obtain ⟨wi, rfl⟩ : ∃ wi, wi = wr := ⟨_, rfl⟩
     have EI2 := Lib.hid (ext_trans EO.out EW.out)
     have e12 := (EW.out.cell (p := ⟨xb, xo + k * 14 + 12, none⟩) XL.out).trans D12.out
     have xl : xb < wi.heap.size := Nat.lt_of_lt_of_le XL.out EW.out.size
     by_cases hjt : j < m
     rotate_left
     ·obtain rfl : j = m := by omega
      have hjn : ¬ (j : Int) < (j : Int) := by omega
      have HY2 : Hid (∀ y ∈ l.take (k + 1), trkB t y = true) := fun y hy => by
       rw [take_snoc2 HX.out] at hy
       rcases List.mem_append.1 hy with h1 | h1
       ·exact HY.out y h1
       ·rw [List.mem_singleton] at h1
        subst h1
        unfold trkB
        rw [HNB.out, HM.out, decide_eq_true (show 1 ≤ j by omega), decide_eq_true (show j ≤ 4096 by omega)]
        simp only [Bool.true_and, List.all_eq_true]
        exact fun q hq => HQ.out q (by rw [List.take_of_length_le (by rw [HM.out]; exact Nat.le_refl _)]; exact hq)
      have E9 := Lib.hid (ext_trans EE.out EW.out)
      clear HNO HD
      go_wp2_with fail
      go_roundw
      case rel => exact ⟨k + 1, hlt, by go_num, HY2, E9⟩
      case measure => simp [intOf]; (try omega)
     ·have hji : (j : Int) < (m : Int) := by omega
      obtain ⟨q, qb, qo, hq, hqA, hqb, hqc⟩ := (HXK.out.slc.below (Nat.le_refl _) EW.out).at_ (k := j) (by rw [HM.out]; exact hjt)
      have q0 := hqc 0 _ rfl
      have q1 := hqc 1 _ rfl
      simp only [Nat.add_zero] at q0
      have HQO : Hid (∀ u, Below wi.heap.size wi u → Pth.ok u q) := fun u hu => ((HXK.out.all (List.mem_of_getElem? hq)).ext EW.out).ext hu
      have HQQ := Lib.hid hq
      rw [hqA] at e12
      have EI : Hid (Below w1.heap.size w1 wi) := ext_trans EE.out EW.out
      obtain ⟨E, hE⟩ : ∃ E : Int, (if pathB t q then 0 else 160) = E := ⟨_, rfl⟩
      have HE1 := Lib.hid hE
      have ql := hqb
      clear hq hqc hqb hqA hE
      go_wp2_with fail
      have SS := Lib.hid (show ∀ w', Below wi.heap.size wi w' → (fun w' => Below wi.heap.size wi w' ∧ w'.cell? ⟨w.heap.size, 0, none⟩ = some (.int .i64 t.n) ∧ w'.cell? ⟨w.heap.size, 1, none⟩ = some (.slice t.ss.A t.ss.l.length t.ss.c) ∧ w'.cell? ⟨w.heap.size, 2, none⟩ = some (.slice t.cs.A t.cs.l.length t.cs.c) ∧ w'.cell? ⟨w.heap.size, 3, none⟩ = some (.slice t.ws.A t.ws.l.length t.ws.c) ∧ w'.cell? ⟨w.heap.size, 4, none⟩ = some (.slice t.ms.A t.ms.l.length t.ms.c) ∧ w'.cell? ⟨w.heap.size, 5, none⟩ = some (.slice t.ks.A t.ks.l.length t.ks.c) ∧ w'.cell? ⟨xb, xo + k * 14 + 12, none⟩ = some (.slice (some ⟨qb, qo, none⟩) m x.ps.c) ∧ w'.cell? ⟨qb, qo + j * 2, none⟩ = some (.int .i64 q.way) ∧ w'.cell? ⟨qb, qo + j * 2 + 1, none⟩ = some (.slice q.ts.A q.ts.l.length q.ts.c)) w' from fun w' h => ⟨h, ((BT.out.ext EI.out).ext h).c 0 _ rfl, ((BT.out.ext EI.out).ext h).c 1 _ rfl, ((BT.out.ext EI.out).ext h).c 2 _ rfl, ((BT.out.ext EI.out).ext h).c 3 _ rfl, ((BT.out.ext EI.out).ext h).c 4 _ rfl, ((BT.out.ext EI.out).ext h).c 5 _ rfl, (h.cell (p := ⟨xb, xo + k * 14 + 12, none⟩) xl).trans e12, (h.cell (p := ⟨qb, qo + j * 2, none⟩) ql).trans q0, (h.cell (p := ⟨qb, qo + j * 2 + 1, none⟩) ql).trans q1⟩)
      refine rgB 15 SS (ext_drew (ext_refl _)) (fun Q7 hQ7 hN7 hHeld => ?_)
      refine rgT 0 (some 61) hQ7 hHeld ?_; refine rgT 1 (some 62) hQ7 hHeld ?_; refine rgT 2 (some 63) hQ7 hHeld ?_; refine rgT 3 (some 64) hQ7 hHeld ?_; refine rgT 4 (some 65) hQ7 hHeld ?_; refine rgT 5 (some 66) hQ7 hHeld ?_; refine rgT 6 (some 67) hQ7 hHeld ?_; refine rgT 7 (some 68) hQ7 hHeld ?_; refine rgT 8 (some 69) hQ7 hHeld ?_
      refine rg_one (i := 9) (by kernel_rfl) (rg_step rfl (by rfl) (fun K hK => ?_))
      go_simp
      refine (rstays_e t q _ E (HT.out.ext (ext_trans EI2.out hHeld.1)) (HQO.out _ hHeld.1) HC.out HE1.out).mono ?_
      rintro e u1 ⟨v1, rfl, B1⟩
      go_wp2_with fail
      refine hK.out _ _ ?_ (fun hHeld2 => ?_)
      ·exact SS.out _ (ext_trans hHeld.1 B1)
      clear hHeld
      have hHeld := hHeld2
      clear hHeld2
      clear hK K
      try simp only [Act.put, List.setIfInBounds_toArray, List.set_cons_zero, List.set_cons_succ]
      refine rgT 10 (some 60) hQ7 hHeld ?_; refine rgT 11 (some 71) hQ7 hHeld ?_; refine rgT 12 (some 72) hQ7 hHeld ?_; refine rgT 13 (some 8) hQ7 hHeld ?_; refine rgT 14 (some 9) hQ7 hHeld ?_
      refine rg_end (by kernel_rfl) (hN7 _ _ ?_) _
      clear hQ7 hN7 Q7
      have BX := hHeld.1
      clear SS
      clear xl ql e12 q0 q1
      have E9 := Lib.hid (ext_trans EI2.out BX)
      have E8 := Lib.hid (ext_trans EW.out BX)
      clear BX
      by_cases hE0 : E = 0
      rotate_left
      ·have HR : Hid (R = 240) := HNO.out (by
        unfold trkB
        rw [Bool.and_eq_false_iff]
        refine .inr ?_
        rw [List.all_eq_false]
        refine ⟨q, List.mem_of_getElem? HQQ.out, fun h => hE0 ?_⟩
        rw [← HE1.out, h]; rfl)
       have hcf : ((E : Int) == 0) = false := by rw [beq_eq_false_iff_ne]; exact hE0
       have hcf2 : (E != 0) = true := by rw [bne, hcf]; rfl
       clear HD HNO
       go_wp2_with fail
       go_ret
       rw [HR.out]
       exact ⟨rfl, E9.out⟩
      subst hE0
      have HQ2 : Hid (∀ z ∈ x.ps.l.take (j + 1), pathB t z = true) := fun z hz => by
       rw [take_snoc2 HQQ.out] at hz
       rcases List.mem_append.1 hz with h1 | h1
       ·exact HQ.out z h1
       ·rw [List.mem_singleton] at h1
        subst h1
        cases hp : pathB t z with
        | true => rfl
        | false => have := HE1.out; rw [hp] at this; simp at this
      clear HD HNO
      go_wp2_with fail
      go_roundw
      case rel => exact ⟨j + 1, hjt, by go_num, HQ2, E8⟩
      case measure => simp [intOf]; (try omega)
end Go.Proofs.YtjiojpoiocdnmaaGreat
