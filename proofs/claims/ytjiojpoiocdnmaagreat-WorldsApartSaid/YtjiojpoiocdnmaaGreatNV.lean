/- The wrong reports of a group. -/
import Derived.Test.YtjiojpoiocdnmaaGreatU14
set_option linter.unusedSimpArgs false
set_option linter.unusedVariables false
namespace Go.Proofs.YtjiojpoiocdnmaaGreat
open Go.RowKit
theorem take_snoc2 {α : Type} {l : List α} {q : Nat} {x : α} (h : l[q]? = some x) : l.take (q + 1) = l.take q ++ [x] := by rw [List.take_add_one, h]; rfl
theorem right_step {st : List (List (List Sty))} {ts : List Nat} {pks : List Int} {i n : Nat} {p : Int} {vol mi : Int} (hn : ts[i]? = some n) (hp : pks[i]? = some p) :
    ((List.zip ts pks).take (i + 1)).any (fun p => fliesB (staysAt st p.1 p.2.toNat) vol mi) = (((List.zip ts pks).take i).any (fun p => fliesB (staysAt st p.1 p.2.toNat) vol mi) || fliesB (staysAt st n p.toNat) vol mi) := by
  have hz : (List.zip ts pks)[i]? = some (n, p) := by rw [List.getElem?_zip_eq_some]; exact ⟨hn, hp⟩
  rw [take_snoc2 hz, List.any_append]; simp
theorem stays_row {X : Scn} {n : Nat} {r : SliceOf (SliceOf Sty)} {k : Nat} {q : SliceOf Sty} (hr : X.st[n]? = some r) (hq : r.l[k]? = some q) : staysAt X.stays n k = q.l := by
  simp [staysAt, Scn.stays, hr, hq]
theorem stays_get {X : Scn} {n : Nat} {r : List (List Sty)} (h : X.stays[n]? = some r) : ∃ r', X.st[n]? = some r' ∧ r = r'.l.map (·.l) := by
  unfold Scn.stays at h
  rw [List.getElem?_map] at h
  cases hx : X.st[n]? with
  | none => rw [hx] at h; cases h
  | some x => rw [hx] at h; cases h; exact ⟨x, rfl, rfl⟩
theorem nums_at {l : List Nat} {i n : Nat} (h : l[i]? = some n) : (nums l)[i]? = some (n : Int) := by simp [nums, h]
theorem Own.lenMax {α : Type} {w : World} {base : Nat} {e : TypeId} {enc : α → List Value} {sz : Nat} {v : Value} {l : List α} (h : Own w base e enc sz v l) : l.length ≤ maxLen := by
  obtain ⟨A, c, _, h1, h2, _⟩ := h.cap
  omega
set_option maxRecDepth 100000 in
set_option maxHeartbeats 8000000 in
theorem wrong_of (X : Scn) (gb : Nat) (TA RA : Option Addr) (tc rc : Nat) (ts : List Nat) (rs : List Rep) (A : Option Addr) (c : Nat) (pks : List Int) (A2 : Option Addr) (c2 : Nat) (shs : List Int) (W : World) (hX : SceneOk W X)
    (hgb : W.heap[gb]? = some (.cells #[.slice TA ts.length tc, .slice RA rs.length rc] 94 (0, 0))) (hgt : Slc W ic 1 TA (nums ts)) (hgr : Slc W Rep.cells 6 RA rs)
    (hp : Slc W ic 1 A pks) (hs : Slc W ic 1 A2 shs) (hpk : Pks X.stays ts pks) (hrs : ∀ r ∈ rs, RepS shs.length r) (hsh : ∀ s ∈ shs, -3 ≤ s ∧ s ≤ 3) (htl : ts.length ≤ 1000) (hrl : rs.length ≤ 1000) :
    Calls Tryz.prog 28 #[X.v, gptr gb, .slice A pks.length c, .slice A2 shs.length c2] W fun e w' => e = .returned (wrongV X.stays ts rs pks shs).v ∧ Below W.heap.size W w' := by
  obtain ⟨V, hV⟩ : ∃ V, wrongV X.stays ts rs pks shs = V := ⟨_, rfl⟩
  rw [hV]
  have HV := Lib.hid hV
  have HX := Lib.hid hX
  have HGT := Lib.hid hgt
  have HGR := Lib.hid hgr
  have HP := Lib.hid hp
  have HS := Lib.hid hs
  have HPK := Lib.hid hpk
  have HRS := Lib.hid hrs
  have HSH := Lib.hid hsh
  have hgl : gb < W.heap.size := (Array.getElem?_eq_some_iff.1 hgb).1
  have HG : Hid (∀ W', Below W.heap.size W W' → W'.cell? ⟨gb, 0, none⟩ = some (.slice TA ts.length tc) ∧ W'.cell? ⟨gb, 1, none⟩ = some (.slice RA rs.length rc)) := fun W' h => by
    have := (h.block gb hgl).trans hgb
    constructor <;> simp [World.cell?, this]
  obtain ⟨W0, hW0⟩ : ∃ W0, (W.alloc (.cells #[X.sv, .map (some X.m), .int .i64 X.lost.a, .int .i64 X.lost.b, .int .i64 X.lost.c, .int .i64 X.lost.d, .int .i64 X.bud.a, .int .i64 X.bud.b, .int .i64 X.bud.c, .int .i64 X.bud.d, X.hv] 78)).alloc (.cells #[.int .i64 0, .int .i64 0, .int .i64 0, .int .i64 0] 76) = W0 := ⟨_, rfl⟩
  have E0 : Hid (Below W.heap.size W W0) := by rw [← hW0]; exact ext_alloc (ext_alloc (ext_refl W) _) _
  have BX : Hid (Blk W0 W.heap.size X.cells) := by rw [← hW0]; exact (Blk.newH W X.cells 78 W.heap.size rfl).alloc _
  have BV : Hid (Blk W0 (W.heap.size + 1) V4.zero.cells) := by rw [← hW0]; exact Blk.newH (W.alloc _) V4.zero.cells 76 (W.heap.size + 1) (by simp)
  have g1 := (HG.out W0 E0.out).2
  have gl0 : gb < W0.heap.size := Nat.lt_of_lt_of_le hgl E0.out.size
  clear hV hX hgt hgr hp hs hpk hrs hsh hgb
  go_enter Tryz.func28, Tryz.ntmps28
  go_wp2_with fail
  clear hW0 g1
  go_loopw [19] (fun i wr => ∃ k : Nat, k ≤ rs.length ∧ i = .int .i64 k ∧ Hid (Below W.heap.size W wr) ∧ Hid (Blk wr W.heap.size X.cells) ∧ Hid (Blk wr (W.heap.size + 1) ((rs.take k).foldl (wrongStep X.stays ts pks shs) V4.zero).cells)) (fun i _ => rs.length - (intOf i).toNat)
  case atStart => exact ⟨0, by omega, rfl, E0, BX, by rw [List.take_zero, List.foldl_nil]; exact BV⟩
  case round =>
    obtain ⟨k, hk, rfl, E1, BX1, BV1⟩ := hrel
    clear E0 BX BV gl0
    obtain ⟨wo, rfl⟩ : ∃ wo, wo = wr := ⟨_, rfl⟩
    by_cases hlt : k < rs.length
    rotate_left
    · rw [List.take_of_length_le (by omega)] at BV1
      have HV1 : Hid (Blk wo (W.heap.size + 1) V.cells) := by rw [← HV.out]; exact BV1.out
      have d0 := HV1.out.c 0 _ rfl
      have d1 := HV1.out.c 1 _ rfl
      have d2 := HV1.out.c 2 _ rfl
      have d3 := HV1.out.c 3 _ rfl
      have zf := HV1.out.f
      have zl := HV1.out.lt
      have HZ4 := Lib.hid (HV1.out.put4 (.int .i64 V.a) (.int .i64 V.b) (.int .i64 V.c) (.int .i64 V.d))
      have HE4 := Lib.hid (ext_set4 E1.out (W.heap.size + 1) (.int .i64 V.a) (.int .i64 V.b) (.int .i64 V.c) (.int .i64 V.d) (by omega))
      unfold set4 at HZ4 HE4
      clear BX1 BV1 HV1 E1
      go_wp2_with fail
      clear d0 d1 d2 d3 zf zl
      have r0 := HZ4.out.c 0 _ rfl
      have r1 := HZ4.out.c 1 _ rfl
      have r2 := HZ4.out.c 2 _ rfl
      have r3 := HZ4.out.c 3 _ rfl
      refine bodyPost_ret (v := V.v) (by simp [results, Tryz.results28, go_sem, *]) rfl ?_
      exact ⟨rfl, HE4.out⟩
    have hgr1 := HGR.out.below (Nat.le_refl _) E1.out
    obtain ⟨r, rb, ro, hr, rfl, hrb, hc⟩ := hgr1.at_ hlt
    have d0 := hc 0 _ rfl
    have d1 := hc 1 _ rfl
    have d2 := hc 2 _ rfl
    have d3 := hc 3 _ rfl
    have d4 := hc 4 _ rfl
    have d5 := hc 5 _ rfl
    simp only [Nat.add_zero] at d0
    have HR := Lib.hid hr
    have HRS1 := Lib.hid (HRS.out r (List.mem_of_getElem? hr))
    have hki : (k : Int) < rs.length := by omega
    obtain ⟨W1, hW1⟩ : ∃ W1, wo.alloc (.cells #[.int .i64 r.st, .int .i64 r.no, .int .i64 r.mi, .int .i64 r.ar, .string r.call, .int .i64 r.vol] 55) = W1 := ⟨_, rfl⟩
    have E2 : Hid (Below W.heap.size W W1) := by rw [← hW1]; exact ext_alloc E1.out _
    have BX2 : Hid (Blk W1 W.heap.size X.cells) := by rw [← hW1]; exact BX1.out.alloc _
    have BV2 : Hid (Blk W1 (W.heap.size + 1) ((rs.take k).foldl (wrongStep X.stays ts pks shs) V4.zero).cells) := by rw [← hW1]; exact BV1.out.alloc _
    have BR2 : Hid (Blk W1 wo.heap.size r.cells) := by rw [← hW1]; exact Blk.newH wo r.cells 55 wo.heap.size rfl
    have hsw : W.heap.size ≤ wo.heap.size := E1.out.size
    have g0 := (HG.out W1 E2.out).1
    have gl1 : gb < W1.heap.size := Nat.lt_of_lt_of_le hgl E2.out.size
    have hbvl : W.heap.size + 1 < wo.heap.size := BV1.out.lt
    clear hc hr hgr1 E1 BX1 BV1
    obtain ⟨sk, hsk⟩ : ∃ sk : Nat, r.st = sk := ⟨r.st.toNat, by have := HRS1.out.s0; omega⟩
    have hsk4 : sk < 4 := by have := HRS1.out.s1; omega
    have hskl : sk < shs.length := by have := HRS1.out.s2; omega
    obtain ⟨sv, hsv⟩ : ∃ sv, shs[sk]? = some sv := ⟨_, List.getElem?_eq_getElem hskl⟩
    have HSK := Lib.hid hsk
    have HSV := Lib.hid hsv
    clear hsk hsv
    go_wp2_with fail
    clear d0 d1 d2 d3 d4 d5 hW1 g0 gl1
    go_loopw [11, 28] (fun a i wr => ∃ j : Nat, j ≤ ts.length ∧ i = .int .i64 j ∧ (∃ q : Bool, a = .bool q ∧ Hid (((List.zip ts pks).take j).any (fun p => fliesB (staysAt X.stays p.1 p.2.toNat) r.vol (r.mi + sv)) = q)) ∧ Hid (Below W.heap.size W wr) ∧ Hid (Blk wr W.heap.size X.cells) ∧ Hid (Blk wr (W.heap.size + 1) ((rs.take k).foldl (wrongStep X.stays ts pks shs) V4.zero).cells) ∧ Hid (Blk wr wo.heap.size r.cells)) (fun _ i _ => ts.length - (intOf i).toNat)
    case atStart => exact ⟨0, by omega, rfl, ⟨false, rfl, by simp [Hid]⟩, E2, BX2, BV2, BR2⟩
    case round =>
      obtain ⟨j, hj, rfl, ⟨q, rfl, HQ⟩, E3, BX3, BV3, BR3⟩ := hrel
      clear E2 BX2 BV2 BR2
      obtain ⟨wi, rfl⟩ : ∃ wi, wi = wr := ⟨_, rfl⟩
      by_cases hjl : j < ts.length
      rotate_left
      · have HQ2 : Hid (rightB X.stays ts pks r.vol (r.mi + shs.getD sk 0) = q) := by
          have := HQ.out
          rw [List.take_of_length_le (by rw [List.length_zip]; omega)] at this
          unfold rightB Hid
          rw [List.getD_eq_getElem?_getD, HSV.out]
          exact this
        have hin := wrong_in X.stays ts pks shs (rs.take k) V4.zero 0 (by simp [V4.In, V4.zero])
        obtain ⟨v, hv⟩ : ∃ v, (rs.take k).foldl (wrongStep X.stays ts pks shs) V4.zero = v := ⟨_, rfl⟩
        have HFOLD : Hid ((rs.take (k + 1)).foldl (wrongStep X.stays ts pks shs) V4.zero = if q then v else v.inc sk) := by
          unfold Hid
          rw [take_snoc2 HR.out, List.foldl_append, hv]
          simp only [List.foldl_cons, List.foldl_nil, wrongStep, HQ2.out, HSK.out, Int.toNat_natCast]
        rw [hv] at BV3 hin
        have hgv := hin.get sk
        have hlk : (rs.take k).length ≤ 1000 := by rw [List.length_take]; omega
        have hjn : ¬ (j : Int) < ts.length := by omega
        clear HQ HQ2 hin hv
        cases q
        · have hcv := BV3.out.c sk _ (v.at_ hsk4)
          have hrc : wi.cell? ⟨wo.heap.size, 0, none⟩ = some (.int .i64 (sk : Int)) := by rw [← HSK.out]; exact BR3.out.c 0 _ rfl
          have hfz : wi.frozen? ⟨W.heap.size + 1, sk, none⟩ = false := BV3.out.f sk
          have hbl := BV3.out.lt
          have hbr := BR3.out.lt
          obtain ⟨a, ha⟩ : ∃ a, v.get sk = a := ⟨_, rfl⟩
          rw [ha] at hcv hgv
          have hwp : IntKind.i64.wrap (a + 1) = a + 1 := IntWalk.i64_in _ (by omega)
          have hs4 : (sk : Int) < 4 := by omega
          have HBV := Lib.hid (show Blk (wi.setCell ⟨W.heap.size + 1, sk, none⟩ (.int .i64 (a + 1))) (W.heap.size + 1) ((rs.take (k + 1)).foldl (wrongStep X.stays ts pks shs) V4.zero).cells by
            rw [HFOLD.out, if_neg (by simp), V4.inc, ha, ← V4.set_ _ _ hsk4]
            exact BV3.out.set (j := sk) (by simpa [V4.cells] using hsk4) _)
          have HBX := Lib.hid (BX3.out.other (p := ⟨W.heap.size + 1, sk, none⟩) (.int .i64 (a + 1)) (by simp))
          have HES := Lib.hid (ext_set E3.out ⟨W.heap.size + 1, sk, none⟩ (.int .i64 (a + 1)) (by show W.heap.size ≤ W.heap.size + 1; omega))
          clear hgv ha BV3 BX3 E3 HFOLD
          go_wp2_with fail
          go_roundw
          case rel => exact ⟨k + 1, hlt, by go_num, HES, HBX, HBV⟩
          case measure => simp [intOf]; omega
        · have HBV := Lib.hid (show Blk wi (W.heap.size + 1) ((rs.take (k + 1)).foldl (wrongStep X.stays ts pks shs) V4.zero).cells by
            rw [HFOLD.out, if_pos rfl]; exact BV3.out)
          clear hgv BV3 HFOLD
          go_wp2_with fail
          go_roundw
          case rel => exact ⟨k + 1, hlt, by go_num, E3, BX3, HBV⟩
          case measure => simp [intOf]; omega
      obtain ⟨n, hn⟩ : ∃ n, ts[j]? = some n := ⟨_, List.getElem?_eq_getElem hjl⟩
      obtain ⟨p, hpj⟩ : ∃ p, pks[j]? = some p := ⟨_, List.getElem?_eq_getElem (by rw [HPK.out.len]; exact hjl)⟩
      obtain ⟨hp0, row0, hrow0, hpl⟩ := HPK.out.ok j n p hn hpj
      obtain ⟨row, hrow, rfl⟩ := stays_get hrow0
      obtain ⟨pn, hpn⟩ : ∃ pn : Nat, p = pn := ⟨p.toNat, by omega⟩
      subst hpn
      have hpl' : pn < row.l.length := by simpa using hpl
      obtain ⟨q1, hq1⟩ : ∃ q1, row.l[pn]? = some q1 := ⟨_, List.getElem?_eq_getElem hpl'⟩
      have hrm := List.mem_of_getElem? hrow
      have hqm := List.mem_of_getElem? hq1
      have HX3 := Lib.hid (HX.out.ext E3.out)
      obtain ⟨t1, b1, o1, ht1, hTA, hb1, hc1⟩ := (HGT.out.below (Nat.le_refl _) E3.out).at_ (k := j) (by simpa [nums] using hjl)
      have hn1 : t1 = (n : Int) := by
        rw [nums_at hn] at ht1; cases ht1; rfl
      subst hn1
      subst hTA
      have e1 := hc1 0 _ rfl
      simp only [Nat.mul_one, Nat.add_zero] at e1
      have hji : (j : Int) < ts.length := by omega
      have HSTEP := Lib.hid (right_step (st := X.stays) (vol := r.vol) (mi := r.mi + sv) hn hpj)
      rw [Int.toNat_natCast, stays_row hrow hq1] at HSTEP
      clear hc1 ht1
      cases q
      rotate_left
      · have HN : Hid (((List.zip ts pks).take (j + 1)).any (fun p => fliesB (staysAt X.stays p.1 p.2.toNat) r.vol (r.mi + sv)) = true) := by
          unfold Hid; rw [HSTEP.out, HQ.out]; rfl
        clear HSTEP HQ hrow0 hpl hrow hpl' hq1 hn hpj hrm hqm
        go_wp2_with fail
        have SS := Lib.hid (show ∀ w', Below wi.heap.size wi w' → (fun w' => Below wi.heap.size wi w') w' from fun w' h => h)
        refine rg_begin (S := (fun w' => Below wi.heap.size wi w')) 26 (by kernel_rfl) (by intro d; cases d <;> intro _ _ _ _ h <;> exact h) ?_ (fun Q7 hQ7 hN7 hHeld => ?_)
        · exact SS.out _ (ext_drew (ext_refl _))
        refine rg_take (i := 0) (some 33) (v := ?_) rfl rfl (by kernel_rfl) (by rfl) hQ7 hHeld ?_ ?_
        rotate_left
        · intro w7 hSw; (try dsimp only at hSw); go_simp; all_goals with_reducible rfl
        try simp only [Act.put, List.setIfInBounds_toArray, List.set_cons_zero, List.set_cons_succ]
        refine rg_take (i := 1) (some 34) (v := ?_) rfl rfl (by kernel_rfl) (by rfl) hQ7 hHeld ?_ ?_
        rotate_left
        · intro w7 hSw; (try dsimp only at hSw); go_simp; all_goals with_reducible rfl
        try simp only [Act.put, List.setIfInBounds_toArray, List.set_cons_zero, List.set_cons_succ]
        refine rg_skip (i := 2) (some 35) rfl rfl (by kernel_rfl) (by rfl) hQ7 hHeld ?_
        try simp only [Act.put, List.setIfInBounds_toArray, List.set_cons_zero, List.set_cons_succ]
        refine rg_skip (i := 3) (some 36) rfl rfl (by kernel_rfl) (by rfl) hQ7 hHeld ?_
        try simp only [Act.put, List.setIfInBounds_toArray, List.set_cons_zero, List.set_cons_succ]
        refine rg_skip (i := 4) (some 37) rfl rfl (by kernel_rfl) (by rfl) hQ7 hHeld ?_
        try simp only [Act.put, List.setIfInBounds_toArray, List.set_cons_zero, List.set_cons_succ]
        refine rg_skip (i := 5) (some 38) rfl rfl (by kernel_rfl) (by rfl) hQ7 hHeld ?_
        try simp only [Act.put, List.setIfInBounds_toArray, List.set_cons_zero, List.set_cons_succ]
        refine rg_skip (i := 6) (some 39) rfl rfl (by kernel_rfl) (by rfl) hQ7 hHeld ?_
        try simp only [Act.put, List.setIfInBounds_toArray, List.set_cons_zero, List.set_cons_succ]
        refine rg_skip (i := 7) (some 40) rfl rfl (by kernel_rfl) (by rfl) hQ7 hHeld ?_
        try simp only [Act.put, List.setIfInBounds_toArray, List.set_cons_zero, List.set_cons_succ]
        refine rg_skip (i := 8) (some 41) rfl rfl (by kernel_rfl) (by rfl) hQ7 hHeld ?_
        try simp only [Act.put, List.setIfInBounds_toArray, List.set_cons_zero, List.set_cons_succ]
        refine rg_skip (i := 9) (some 42) rfl rfl (by kernel_rfl) (by rfl) hQ7 hHeld ?_
        try simp only [Act.put, List.setIfInBounds_toArray, List.set_cons_zero, List.set_cons_succ]
        refine rg_skip (i := 10) (some 43) rfl rfl (by kernel_rfl) (by rfl) hQ7 hHeld ?_
        try simp only [Act.put, List.setIfInBounds_toArray, List.set_cons_zero, List.set_cons_succ]
        refine rg_skip (i := 11) (some 44) rfl rfl (by kernel_rfl) (by rfl) hQ7 hHeld ?_
        try simp only [Act.put, List.setIfInBounds_toArray, List.set_cons_zero, List.set_cons_succ]
        refine rg_skip (i := 12) (some 45) rfl rfl (by kernel_rfl) (by rfl) hQ7 hHeld ?_
        try simp only [Act.put, List.setIfInBounds_toArray, List.set_cons_zero, List.set_cons_succ]
        refine rg_skip (i := 13) (some 46) rfl rfl (by kernel_rfl) (by rfl) hQ7 hHeld ?_
        try simp only [Act.put, List.setIfInBounds_toArray, List.set_cons_zero, List.set_cons_succ]
        refine rg_skip (i := 14) (some 47) rfl rfl (by kernel_rfl) (by rfl) hQ7 hHeld ?_
        try simp only [Act.put, List.setIfInBounds_toArray, List.set_cons_zero, List.set_cons_succ]
        refine rg_skip (i := 15) (some 48) rfl rfl (by kernel_rfl) (by rfl) hQ7 hHeld ?_
        try simp only [Act.put, List.setIfInBounds_toArray, List.set_cons_zero, List.set_cons_succ]
        refine rg_skip (i := 16) (some 49) rfl rfl (by kernel_rfl) (by rfl) hQ7 hHeld ?_
        try simp only [Act.put, List.setIfInBounds_toArray, List.set_cons_zero, List.set_cons_succ]
        refine rg_skip (i := 17) (some 50) rfl rfl (by kernel_rfl) (by rfl) hQ7 hHeld ?_
        try simp only [Act.put, List.setIfInBounds_toArray, List.set_cons_zero, List.set_cons_succ]
        refine rg_skip (i := 18) (some 51) rfl rfl (by kernel_rfl) (by rfl) hQ7 hHeld ?_
        try simp only [Act.put, List.setIfInBounds_toArray, List.set_cons_zero, List.set_cons_succ]
        refine rg_skip (i := 19) (some 52) rfl rfl (by kernel_rfl) (by rfl) hQ7 hHeld ?_
        try simp only [Act.put, List.setIfInBounds_toArray, List.set_cons_zero, List.set_cons_succ]
        refine rg_skip (i := 20) (some 53) rfl rfl (by kernel_rfl) (by rfl) hQ7 hHeld ?_
        try simp only [Act.put, List.setIfInBounds_toArray, List.set_cons_zero, List.set_cons_succ]
        refine rg_skip (i := 21) (some 54) rfl rfl (by kernel_rfl) (by rfl) hQ7 hHeld ?_
        try simp only [Act.put, List.setIfInBounds_toArray, List.set_cons_zero, List.set_cons_succ]
        refine rg_skip (i := 22) (some 55) rfl rfl (by kernel_rfl) (by rfl) hQ7 hHeld ?_
        try simp only [Act.put, List.setIfInBounds_toArray, List.set_cons_zero, List.set_cons_succ]
        refine rg_skip (i := 23) (some 56) rfl rfl (by kernel_rfl) (by rfl) hQ7 hHeld ?_
        try simp only [Act.put, List.setIfInBounds_toArray, List.set_cons_zero, List.set_cons_succ]
        refine rg_take (i := 24) (some 57) (v := ?_) rfl rfl (by kernel_rfl) (by rfl) hQ7 hHeld ?_ ?_
        rotate_left
        · intro w7 hSw; (try dsimp only at hSw); go_simp; all_goals with_reducible rfl
        try simp only [Act.put, List.setIfInBounds_toArray, List.set_cons_zero, List.set_cons_succ]
        refine rg_take (i := 25) (some 11) (v := ?_) rfl rfl (by kernel_rfl) (by rfl) hQ7 hHeld ?_ ?_
        rotate_left
        · intro w7 hSw; (try dsimp only at hSw); go_simp; all_goals with_reducible rfl
        try simp only [Act.put, List.setIfInBounds_toArray, List.set_cons_zero, List.set_cons_succ]
        refine rg_end (by kernel_rfl) (hN7 _ _ ?_) _
        clear hQ7 hN7 Q7
        have BX := hHeld
        clear SS
        clear hHeld
        go_wp2_with fail
        go_roundw
        case rel => exact ⟨j + 1, hjl, by go_num, ⟨true, rfl, HN⟩, E3.out.drew, BX3.out.drew, BV3.out.drew, BR3.out.drew⟩
        case measure => simp [intOf]; omega
      have HN : Hid (∀ b, fliesB q1.l r.vol (r.mi + sv) = b → ((List.zip ts pks).take (j + 1)).any (fun p => fliesB (staysAt X.stays p.1 p.2.toNat) r.vol (r.mi + sv)) = b) := fun b hb => by
        rw [HSTEP.out, HQ.out, hb]; rfl
      obtain ⟨p1, b2, o2, hp1, rfl, hb2, hc2⟩ := (HP.out.below (Nat.le_refl _) E3.out).at_ (k := j) (by rw [HPK.out.len]; exact hjl)
      rw [hpj] at hp1
      cases hp1
      obtain ⟨s1, b3, o3, hs1, rfl, hb3, hc3⟩ := (HS.out.below (Nat.le_refl _) E3.out).at_ (k := sk) hskl
      rw [HSV.out] at hs1
      cases hs1
      obtain ⟨rw0, b4, o4, hr4, hA4, hb4, hc4⟩ := (show Slc wi SliceOf.enc 1 X.sA X.st from HX3.out.s0.slc (fun _ => rfl) (by decide)).at_ (k := n) (List.getElem?_eq_some_iff.1 hrow).1
      rw [hrow] at hr4
      cases hr4
      obtain ⟨q2, b5, o5, hr5, hA5, hb5, hc5⟩ := (show Slc wi SliceOf.enc 1 row.A row.l from (HX3.out.s1 row hrm).slc (fun _ => rfl) (by decide)).at_ (k := pn) hpl'
      rw [hq1] at hr5
      cases hr5
      have f2 := hc2 0 _ rfl
      have f3 := hc3 0 _ rfl
      have f4 : wi.cell? ⟨b4, o4 + n, none⟩ = some (.slice (some ⟨b5, o5, none⟩) row.l.length row.c) := by
        have := hc4 0 _ rfl
        simp only [Nat.mul_one, Nat.add_zero] at this
        rw [this, hA5]
      have f5 := hc5 0 _ rfl
      have f6 : wi.cell? ⟨W.heap.size, 0, none⟩ = some (.slice (some ⟨b4, o4, none⟩) X.st.length X.sc) := by
        rw [← hA4]; exact BX3.out.c 0 _ rfl
      have f7 : wi.cell? ⟨wo.heap.size, 0, none⟩ = some (.int .i64 (sk : Int)) := by rw [← HSK.out]; exact BR3.out.c 0 _ rfl
      have f8 := BR3.out.c 2 _ rfl
      have f9 := BR3.out.c 5 _ rfl
      simp only [Nat.mul_one, Nat.add_zero] at f2 f3 f5
      have hbx := BX3.out.lt
      have hbr := BR3.out.lt
      have hnst : n < X.st.length := (List.getElem?_eq_some_iff.1 hrow).1
      have hnsi : (n : Int) < X.st.length := by omega
      have hpli : (pn : Int) < row.l.length := by omega
      have hpji : (j : Int) < pks.length := by rw [HPK.out.len]; exact hji
      have hski : (sk : Int) < shs.length := by omega
      have hsv3 := HSH.out sv (List.mem_of_getElem? HSV.out)
      have hmi0 := HRS1.out.m0
      have hmi1 := HRS1.out.m1
      have hwm : IntKind.i64.wrap (r.mi + sv) = r.mi + sv := IntWalk.i64_in _ (by omega)
      have SQ := Lib.hid (show Slc wi Sty.cells 4 q1.A q1.l from (HX3.out.s2 row hrm q1 hqm).slc styc_len (by decide))
      have hql : q1.l.length ≤ maxLen := (HX3.out.s2 row hrm q1 hqm).lenMax
      have F2 := Lib.hid f2
      have F3 := Lib.hid f3
      have F4 := Lib.hid f4
      have F5 := Lib.hid f5
      have F6 := Lib.hid f6
      have F7 := Lib.hid f7
      have F8 := Lib.hid f8
      have F9 := Lib.hid f9
      have HQL := Lib.hid hql
      clear hc2 hc3 hc4 hc5 hA4 hA5 f2 f3 f4 f5 f6 f7 f8 f9 HSTEP HQ hrow0 hpl hrow hq1 hn hpj hrm hqm hql hsv3 hmi0 hmi1
      go_wp2_with fail
      have SS := Lib.hid (show ∀ w', Below wi.heap.size wi w' → (fun w' => Below wi.heap.size wi w' ∧ w'.cell? ⟨b2, o2 + j, none⟩ = some (.int .i64 (pn : Int)) ∧ w'.cell? ⟨b3, o3 + sk, none⟩ = some (.int .i64 sv) ∧ w'.cell? ⟨b4, o4 + n, none⟩ = some (.slice (some ⟨b5, o5, none⟩) row.l.length row.c) ∧ w'.cell? ⟨b5, o5 + pn, none⟩ = some (.slice q1.A q1.l.length q1.c) ∧ w'.cell? ⟨W.heap.size, 0, none⟩ = some (.slice (some ⟨b4, o4, none⟩) X.st.length X.sc) ∧ w'.cell? ⟨wo.heap.size, 0, none⟩ = some (.int .i64 (sk : Int)) ∧ w'.cell? ⟨wo.heap.size, 2, none⟩ = some (.int .i64 r.mi) ∧ w'.cell? ⟨wo.heap.size, 5, none⟩ = some (.int .i64 r.vol)) w' from fun w' h => ⟨h, (h.cell (p := ⟨b2, o2 + j, none⟩) hb2).trans F2.out, (h.cell (p := ⟨b3, o3 + sk, none⟩) hb3).trans F3.out, (h.cell (p := ⟨b4, o4 + n, none⟩) hb4).trans F4.out, (h.cell (p := ⟨b5, o5 + pn, none⟩) hb5).trans F5.out, (h.cell (p := ⟨W.heap.size, 0, none⟩) hbx).trans F6.out, (h.cell (p := ⟨wo.heap.size, 0, none⟩) hbr).trans F7.out, (h.cell (p := ⟨wo.heap.size, 2, none⟩) hbr).trans F8.out, (h.cell (p := ⟨wo.heap.size, 5, none⟩) hbr).trans F9.out⟩)
      refine rg_begin (S := (fun w' => Below wi.heap.size wi w' ∧ w'.cell? ⟨b2, o2 + j, none⟩ = some (.int .i64 (pn : Int)) ∧ w'.cell? ⟨b3, o3 + sk, none⟩ = some (.int .i64 sv) ∧ w'.cell? ⟨b4, o4 + n, none⟩ = some (.slice (some ⟨b5, o5, none⟩) row.l.length row.c) ∧ w'.cell? ⟨b5, o5 + pn, none⟩ = some (.slice q1.A q1.l.length q1.c) ∧ w'.cell? ⟨W.heap.size, 0, none⟩ = some (.slice (some ⟨b4, o4, none⟩) X.st.length X.sc) ∧ w'.cell? ⟨wo.heap.size, 0, none⟩ = some (.int .i64 (sk : Int)) ∧ w'.cell? ⟨wo.heap.size, 2, none⟩ = some (.int .i64 r.mi) ∧ w'.cell? ⟨wo.heap.size, 5, none⟩ = some (.int .i64 r.vol))) 26 (by kernel_rfl) (by intro d; cases d <;> intro _ _ _ _ h <;> exact h) ?_ (fun Q7 hQ7 hN7 hHeld => ?_)
      · exact SS.out _ (ext_drew (ext_refl _))
      refine rg_take (i := 0) (some 33) (v := ?_) rfl rfl (by kernel_rfl) (by rfl) hQ7 hHeld ?_ ?_
      rotate_left
      · intro w7 hSw; (try dsimp only at hSw); go_simp; all_goals with_reducible rfl
      try simp only [Act.put, List.setIfInBounds_toArray, List.set_cons_zero, List.set_cons_succ]
      refine rg_take (i := 1) (some 34) (v := ?_) rfl rfl (by kernel_rfl) (by rfl) hQ7 hHeld ?_ ?_
      rotate_left
      · intro w7 hSw; (try dsimp only at hSw); go_simp; all_goals with_reducible rfl
      try simp only [Act.put, List.setIfInBounds_toArray, List.set_cons_zero, List.set_cons_succ]
      refine rg_take (i := 2) (some 35) (v := ?_) rfl rfl (by kernel_rfl) (by rfl) hQ7 hHeld ?_ ?_
      rotate_left
      · intro w7 hSw; (try dsimp only at hSw); go_simp; all_goals with_reducible rfl
      try simp only [Act.put, List.setIfInBounds_toArray, List.set_cons_zero, List.set_cons_succ]
      refine rg_take (i := 3) (some 36) (v := ?_) rfl rfl (by kernel_rfl) (by rfl) hQ7 hHeld ?_ ?_
      rotate_left
      · intro w7 hSw; (try dsimp only at hSw); go_simp; all_goals with_reducible rfl
      try simp only [Act.put, List.setIfInBounds_toArray, List.set_cons_zero, List.set_cons_succ]
      refine rg_take (i := 4) (some 37) (v := ?_) rfl rfl (by kernel_rfl) (by rfl) hQ7 hHeld ?_ ?_
      rotate_left
      · intro w7 hSw; (try dsimp only at hSw); go_simp; all_goals with_reducible rfl
      try simp only [Act.put, List.setIfInBounds_toArray, List.set_cons_zero, List.set_cons_succ]
      refine rg_take (i := 5) (some 38) (v := ?_) rfl rfl (by kernel_rfl) (by rfl) hQ7 hHeld ?_ ?_
      rotate_left
      · intro w7 hSw; (try dsimp only at hSw); go_simp; all_goals with_reducible rfl
      try simp only [Act.put, List.setIfInBounds_toArray, List.set_cons_zero, List.set_cons_succ]
      refine rg_take (i := 6) (some 39) (v := ?_) rfl rfl (by kernel_rfl) (by rfl) hQ7 hHeld ?_ ?_
      rotate_left
      · intro w7 hSw; (try dsimp only at hSw); go_simp; all_goals with_reducible rfl
      try simp only [Act.put, List.setIfInBounds_toArray, List.set_cons_zero, List.set_cons_succ]
      refine rg_take (i := 7) (some 40) (v := ?_) rfl rfl (by kernel_rfl) (by rfl) hQ7 hHeld ?_ ?_
      rotate_left
      · intro w7 hSw; (try dsimp only at hSw); go_simp; all_goals with_reducible rfl
      try simp only [Act.put, List.setIfInBounds_toArray, List.set_cons_zero, List.set_cons_succ]
      refine rg_take (i := 8) (some 41) (v := ?_) rfl rfl (by kernel_rfl) (by rfl) hQ7 hHeld ?_ ?_
      rotate_left
      · intro w7 hSw; (try dsimp only at hSw); go_simp; all_goals with_reducible rfl
      try simp only [Act.put, List.setIfInBounds_toArray, List.set_cons_zero, List.set_cons_succ]
      refine rg_take (i := 9) (some 42) (v := ?_) rfl rfl (by kernel_rfl) (by rfl) hQ7 hHeld ?_ ?_
      rotate_left
      · intro w7 hSw; (try dsimp only at hSw); go_simp; all_goals with_reducible rfl
      try simp only [Act.put, List.setIfInBounds_toArray, List.set_cons_zero, List.set_cons_succ]
      refine rg_take (i := 10) (some 43) (v := ?_) rfl rfl (by kernel_rfl) (by rfl) hQ7 hHeld ?_ ?_
      rotate_left
      · intro w7 hSw; (try dsimp only at hSw); go_simp; all_goals with_reducible rfl
      try simp only [Act.put, List.setIfInBounds_toArray, List.set_cons_zero, List.set_cons_succ]
      refine rg_take (i := 11) (some 44) (v := ?_) rfl rfl (by kernel_rfl) (by rfl) hQ7 hHeld ?_ ?_
      rotate_left
      · intro w7 hSw; (try dsimp only at hSw); go_simp; all_goals with_reducible rfl
      try simp only [Act.put, List.setIfInBounds_toArray, List.set_cons_zero, List.set_cons_succ]
      refine rg_take (i := 12) (some 45) (v := ?_) rfl rfl (by kernel_rfl) (by rfl) hQ7 hHeld ?_ ?_
      rotate_left
      · intro w7 hSw; (try dsimp only at hSw); go_simp; all_goals with_reducible rfl
      try simp only [Act.put, List.setIfInBounds_toArray, List.set_cons_zero, List.set_cons_succ]
      refine rg_take (i := 13) (some 46) (v := ?_) rfl rfl (by kernel_rfl) (by rfl) hQ7 hHeld ?_ ?_
      rotate_left
      · intro w7 hSw; (try dsimp only at hSw); go_simp; all_goals with_reducible rfl
      try simp only [Act.put, List.setIfInBounds_toArray, List.set_cons_zero, List.set_cons_succ]
      refine rg_take (i := 14) (some 47) (v := ?_) rfl rfl (by kernel_rfl) (by rfl) hQ7 hHeld ?_ ?_
      rotate_left
      · intro w7 hSw; (try dsimp only at hSw); go_simp; all_goals with_reducible rfl
      try simp only [Act.put, List.setIfInBounds_toArray, List.set_cons_zero, List.set_cons_succ]
      refine rg_take (i := 15) (some 48) (v := ?_) rfl rfl (by kernel_rfl) (by rfl) hQ7 hHeld ?_ ?_
      rotate_left
      · intro w7 hSw; (try dsimp only at hSw); go_simp; all_goals with_reducible rfl
      try simp only [Act.put, List.setIfInBounds_toArray, List.set_cons_zero, List.set_cons_succ]
      refine rg_take (i := 16) (some 49) (v := ?_) rfl rfl (by kernel_rfl) (by rfl) hQ7 hHeld ?_ ?_
      rotate_left
      · intro w7 hSw; (try dsimp only at hSw); go_simp; all_goals with_reducible rfl
      try simp only [Act.put, List.setIfInBounds_toArray, List.set_cons_zero, List.set_cons_succ]
      refine rg_take (i := 17) (some 50) (v := ?_) rfl rfl (by kernel_rfl) (by rfl) hQ7 hHeld ?_ ?_
      rotate_left
      · intro w7 hSw; (try dsimp only at hSw); go_simp; all_goals with_reducible rfl
      try simp only [Act.put, List.setIfInBounds_toArray, List.set_cons_zero, List.set_cons_succ]
      refine rg_take (i := 18) (some 51) (v := ?_) rfl rfl (by kernel_rfl) (by rfl) hQ7 hHeld ?_ ?_
      rotate_left
      · intro w7 hSw; (try dsimp only at hSw); go_simp; all_goals with_reducible rfl
      try simp only [Act.put, List.setIfInBounds_toArray, List.set_cons_zero, List.set_cons_succ]
      refine rg_take (i := 19) (some 52) (v := ?_) rfl rfl (by kernel_rfl) (by rfl) hQ7 hHeld ?_ ?_
      rotate_left
      · intro w7 hSw; (try dsimp only at hSw); go_simp; all_goals with_reducible rfl
      try simp only [Act.put, List.setIfInBounds_toArray, List.set_cons_zero, List.set_cons_succ]
      refine rg_take (i := 20) (some 53) (v := ?_) rfl rfl (by kernel_rfl) (by rfl) hQ7 hHeld ?_ ?_
      rotate_left
      · intro w7 hSw; (try dsimp only at hSw); go_simp; all_goals with_reducible rfl
      try simp only [Act.put, List.setIfInBounds_toArray, List.set_cons_zero, List.set_cons_succ]
      refine rg_take (i := 21) (some 54) (v := ?_) rfl rfl (by kernel_rfl) (by rfl) hQ7 hHeld ?_ ?_
      rotate_left
      · intro w7 hSw; (try dsimp only at hSw); go_simp; all_goals with_reducible rfl
      try simp only [Act.put, List.setIfInBounds_toArray, List.set_cons_zero, List.set_cons_succ]
      refine rg_take (i := 22) (some 55) (v := ?_) rfl rfl (by kernel_rfl) (by rfl) hQ7 hHeld ?_ ?_
      rotate_left
      · intro w7 hSw; (try dsimp only at hSw); go_simp; all_goals with_reducible rfl
      try simp only [Act.put, List.setIfInBounds_toArray, List.set_cons_zero, List.set_cons_succ]
      refine rg_one (i := 23) (by kernel_rfl) (rg_step rfl (by rfl) (fun K hK => ?_))
      go_simp
      refine (flies_any q1.A q1.c q1.l r.vol (r.mi + sv) _ (SQ.out.ext hHeld.1) HQL.out).mono ?_
      rintro e u1 ⟨rfl, B1⟩
      go_wp2_with fail
      refine hK.out _ _ ?_ (fun hHeld2 => ?_)
      · exact SS.out _ (ext_trans hHeld.1 B1)
      clear hHeld
      have hHeld := hHeld2
      clear hHeld2
      clear hK K
      try simp only [Act.put, List.setIfInBounds_toArray, List.set_cons_zero, List.set_cons_succ]
      refine rg_take (i := 24) (some 57) (v := ?_) rfl rfl (by kernel_rfl) (by rfl) hQ7 hHeld ?_ ?_
      rotate_left
      · intro w7 hSw; (try dsimp only at hSw); go_simp; all_goals with_reducible rfl
      try simp only [Act.put, List.setIfInBounds_toArray, List.set_cons_zero, List.set_cons_succ]
      refine rg_take (i := 25) (some 11) (v := ?_) rfl rfl (by kernel_rfl) (by rfl) hQ7 hHeld ?_ ?_
      rotate_left
      · intro w7 hSw; (try dsimp only at hSw); go_simp; all_goals with_reducible rfl
      try simp only [Act.put, List.setIfInBounds_toArray, List.set_cons_zero, List.set_cons_succ]
      refine rg_end (by kernel_rfl) (hN7 _ _ ?_) _
      clear hQ7 hN7 Q7
      have BX := hHeld.1
      clear SS
      have E4 := Lib.hid (ext_trans E3.out BX)
      have BX4 := Lib.hid (BX3.out.ext BX)
      have BV4 := Lib.hid (BV3.out.ext BX)
      have BR4 := Lib.hid (BR3.out.ext BX)
      have HNB := Lib.hid (HN.out _ rfl)
      clear BX BX3 BV3 BR3 E3 HN
      go_wp2_with fail
      go_roundw
      case rel => exact ⟨j + 1, hjl, by go_num, ⟨_, rfl, HNB⟩, E4, BX4, BV4, BR4⟩
      case measure => simp [intOf]; omega
theorem wrong_any (X : Scn) (g : Grp) (hg : g ∈ X.G) (A : Option Addr) (n c : Nat) (pks : List Int) (A2 : Option Addr) (n2 c2 : Nat) (shs : List Int) (W : World) (hn : n = pks.length) (hn2 : n2 = shs.length) (hX : SceneOk W X) (hp : Slc W ic 1 A pks) (hs : Slc W ic 1 A2 shs) (hpk : Pks X.stays g.ts pks) (hrs : ∀ r ∈ g.rs, RepS shs.length r) (hsh : ∀ s ∈ shs, -3 ≤ s ∧ s ≤ 3)
    (htl : g.ts.length ≤ 1000) (hrl : g.rs.length ≤ 1000) : Calls Tryz.prog 28 #[X.v, gptr g.b, .slice A n c, .slice A2 n2 c2] W fun e w' => e = .returned (wrongV X.stays g.ts g.rs pks shs).v ∧ Below W.heap.size W w' := by
  subst hn hn2
  have h := hX.g1 g hg
  exact wrong_of X g.b g.tA g.rA g.tc g.rc g.ts g.rs A c pks A2 c2 shs W hX h.b (by have := h.t; rw [show g.tv = .slice g.tA (nums g.ts).length g.tc by simp [nums]] at this; exact this.slc (fun _ => rfl) (by decide)) (h.r.slc (fun _ => rfl) (by decide)) hp hs hpk hrs hsh htl hrl
end Go.Proofs.YtjiojpoiocdnmaaGreat
