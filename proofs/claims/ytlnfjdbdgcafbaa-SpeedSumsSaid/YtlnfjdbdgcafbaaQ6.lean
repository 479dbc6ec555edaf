import Derived.Test.YtlnfjdbdgcafbaaQ3
import Derived.Test.YtlnfjdbdgcafbaaPs
namespace Go.Proofs.Ytlnfjdbdgcafbaa
open Go.RowKit
set_option maxHeartbeats 6400000 in
set_option maxRecDepth 100000 in
theorem law6 (k : Kd) (A : Option Addr) (c : Nat) (l : List Lg) (hold : Int) (w : World) (hk : k.ok w) (hl : k.cur.l.length ≤ maxLen) (ha : Slc w Lg.cells 4 A l) : Calls Try.prog 6 #[k.v, .slice A l.length c, .int .i64 hold] w (Tru w) := by
  obtain ⟨⟨bs, er⟩, hr⟩ : ∃ r, legs k l hold = r := ⟨_, rfl⟩
  have HR := Lib.hid hr
  obtain ⟨⟨t, et⟩, hs⟩ : ∃ r, total k l hold = r := ⟨_, rfl⟩
  have HS := Lib.hid hs
  have hle := @legs_total_err k l hold
  rw [hr, hs] at hle
  obtain ⟨he0, he1⟩ := hle
  simp only at he0 he1
  subst he0
  have HE1 := Lib.hid he1
  have HL := Lib.hid hl
  clear hr hl hs he1
  go_enter Try.func6, Try.ntmps6
  go_wp2_with fail
  refine (sane_any _).mono ?_
  rintro e w1 ⟨rfl, B1⟩
  have hb1 : Below w.heap.size w w1 := ext_trans (ext_alloc (ext_refl w) _) B1
  have N1 := (KdAt.new w k 24).ext (by simp) B1
  have s1 : w.heap.size < w1.heap.size := by have := B1.size; simp at this; omega
  clear B1
  obtain ⟨n0, n1, n2, n3, n4, n5⟩ := N1.all
  go_wp2_with fail
  refine (few_at (hk.ext hb1) HL.out).mono ?_
  rintro e w2 ⟨rfl, B2⟩
  have hb2 := ext_trans hb1 B2
  have N2 := N1.ext s1 B2
  have s2 : w.heap.size < w2.heap.size := Nat.lt_of_lt_of_le s1 B2.size
  clear n0 n1 n2 n3 n4 n5 N1 B2 s1
  cases hf : fewK k
  · go_wp2_with fail
    go_ret
    exact ⟨rfl, hb2⟩
  obtain ⟨n0, n1, n2, n3, n4, n5⟩ := N2.all
  have HFW := Lib.hid (fewK_few hf)
  by_cases h20 : 20 < l.length
  · go_wp2_with fail
    go_ret
    exact ⟨rfl, hb2⟩
  go_wp2_with fail
  refine (legs_at (bs, er) HR.out rfl (hk.ext hb2) HFW.out (ha.ext hb2) (by omega)).mono ?_
  rintro e w3 ⟨A3, c3, rfl, S3, B3⟩
  have hb3 := ext_trans hb2 B3
  have N3 := N2.ext s2 B3
  have s3 : w.heap.size < w3.heap.size := Nat.lt_of_lt_of_le s2 B3.size
  clear n0 n1 n2 n3 n4 n5 N2 B3 s2
  obtain ⟨n0, n1, n2, n3, n4, n5⟩ := N3.all
  go_wp2_with fail
  refine (total_at (t, er) HS.out rfl (hk.ext hb3) HFW.out (ha.ext hb3) (by omega)).mono ?_
  rintro e w4 ⟨rfl, B4⟩
  have hb4 := ext_trans hb3 B4
  have N4 := N3.ext s3 B4
  have s4 : w.heap.size < w4.heap.size := Nat.lt_of_lt_of_le s3 B4.size
  have S4 := S3.ext B4
  clear n0 n1 n2 n3 n4 n5 N3 B4 s3 S3
  by_cases he : er = 0
  rotate_left
  · obtain ⟨hx1, hx2⟩ := HE1.out he
    subst hx1 hx2
    have he' : (er != 0) = true := by simp [he]
    have heq := fun w => run_eql28 ⟨0, 0⟩ ⟨0, 0⟩ w
    simp only [decide_true] at heq
    clear he N4
    go_wp2_with fail
    go_ret
    exact ⟨rfl, ext_alloc hb4 _⟩
  subst he
  obtain ⟨hz, hbs⟩ := legs_ok HR.out
  obtain ⟨hv, hl1, hl8, h0, h10, hL⟩ := asked_ok hz
  obtain ⟨ht1, ht2⟩ := total_hold hz
  have htt : t = addB (sumB (each k l 0)) ⟨hold, hold⟩ := by have := HS.out; rw [ht1] at this; injection this with e1 _; exact e1.symm
  have hts : t = sumB bs := by have := HS.out; unfold total at this; rw [if_pos hz] at this; injection this with e1 _; rw [← e1, hbs]
  obtain ⟨es, hes, hesl, hesg⟩ := each_es hz
  rw [← hbs] at hes
  have HES := Lib.hid hes
  have HEG := Lib.hid hesg
  clear hes hesg
  obtain ⟨es0, hes0, hes0l, _⟩ := each_es (asked0 hz)
  have hsm := sumB_small es0
  rw [hes0] at hsm
  obtain ⟨u, hu⟩ : ∃ u, sumB (each k l 0) = u := ⟨_, rfl⟩
  rw [hu] at ht2 htt hsm
  obtain ⟨v1, v2, v3, v4⟩ := hsm
  have hes8 : es0.length ≤ 8 := by omega
  have HT2 := Lib.hid ht2
  have HTT := Lib.hid htt
  have HTS := Lib.hid hts
  have HBS := Lib.hid hbs
  have HLL := Lib.hid hL
  have HV := Lib.hid hv
  have HZ := Lib.hid hz
  have hbl : bs.length = l.length := by rw [hbs]; exact each_len l 0
  have hblt : ((bs.length : Int) != (l.length : Int)) = false := by simp; omega
  clear ht1 ht2 htt hts hbs hL hes0 hu hz
  obtain ⟨n0, n1, n2, n3, n4, n5⟩ := N4.all
  have A4 := ba w4 t
  have NT := BdAt.new w4 t
  have hb4a := ext_trans hb4 A4
  go_wp2_with fail
  refine (total_at (u, 0) HT2.out rfl (hk.ext hb4a) HFW.out (ha.ext hb4a) (by omega)).mono ?_
  rintro e w5 ⟨rfl, B5⟩
  have hb5 := ext_trans hb4a B5
  have NT5 := NT.ext (by simp) B5
  have N5 := N4.ext s4 (ext_trans A4 B5)
  have S5 := S4.ext (ext_trans A4 B5)
  have s45 : w4.heap.size < w5.heap.size := by have := B5.size; simp at this; omega
  have s5 : w.heap.size < w5.heap.size := by omega
  clear n0 n1 n2 n3 n4 n5 N4 A4 NT S4 B5
  have NT5' := NT5
  obtain ⟨t0, t1⟩ := NT5
  have hne : ∀ w, (binOp .neq 28 t.v (.agg #[.int .i64 (u.lo + hold), .int .i64 (u.hi + hold)])).run Try.prog w = .ok (.bool false) w := by
    intro w
    have := run_neq28 t (addB u ⟨hold, hold⟩) w
    rw [← HTT.out] at this
    simp only [decide_true, Bool.not_true] at this
    rw [← this, HTT.out]; rfl
  go_wp2_with fail
  obtain ⟨w6, hw6⟩ : ∃ w6, (w5.alloc (.cells #[.int .i64 u.lo, .int .i64 u.hi] 28)).alloc (.cells #[.int .i64 0, .int .i64 0] 28) = w6 := ⟨_, rfl⟩
  have hb56 : Below w5.heap.size w5 w6 := by rw [← hw6]; exact ext_alloc (ext_alloc (ext_refl w5) _) _
  have hsz6 : w6.heap.size = w5.heap.size + 1 + 1 := by rw [← hw6]; simp
  have hbx : BAt w6 (w5.heap.size + 1) ⟨0, 0⟩ := by rw [← hw6]; exact ⟨by simp, by simp, by simp, by simp⟩
  rw [hw6]
  clear hw6 t0 t1 hne
  have HTB : Hid (BdAt w5 w4.heap.size t) := NT5'
  have HN5 := Lib.hid N5
  clear N5
  go_loopw [14] (fun i W => ∃ q : Nat, q ≤ l.length ∧ i = .int .i64 q ∧ BAt W (w5.heap.size + 1) (sumB (bs.take q)) ∧ Below w5.heap.size w5 W ∧ w5.heap.size + 1 < W.heap.size) (fun i _ => l.length - (intOf i).toNat)
  case atStart => exact ⟨0, Nat.zero_le _, rfl, by simpa [sumB] using hbx, hb56, by omega⟩
  case round =>
    obtain ⟨q, hq, rfl, hS, hbW, hsW⟩ := hrel
    by_cases hlt : q < l.length
    rotate_left
    · have hfin : sumB (bs.take q) = t := by rw [List.take_of_length_le (by omega), ← HTS.out]
      rw [hfin] at hS
      obtain ⟨p0, p1, _, _⟩ := hS
      have r0 := (hbW.cell (p := ⟨w4.heap.size, 0, none⟩) s45).trans HTB.out.1
      have r1 := (hbW.cell (p := ⟨w4.heap.size, 1, none⟩) s45).trans HTB.out.2
      have heq := fun w => run_eql28 t t w
      simp only [decide_true] at heq
      clear hfin
      go_wp2_with fail
      go_ret
      exact ⟨rfl, ext_trans hb5 hbW⟩
    obtain ⟨x, b1, o1, hx, rfl, hbb1, hcx⟩ := (ha.ext (ext_trans hb5 hbW)).at_ hlt
    obtain ⟨e1, he1, hev⟩ := HEG.out q x hx
    obtain ⟨m1, m2⟩ := HLL.out q x hx
    have hbq : bs[q]? = some e1.1 := by rw [← HES.out]; simp [raw, he1]
    obtain ⟨e2, b2, o2, he2, rfl, hbb2, hce⟩ := (S5.ext hbW).at_ (show q < bs.length by omega)
    obtain rfl : e1.1 = e2 := Option.some.inj (hbq.symm.trans he2)
    have HST := Lib.hid (sum_take hbq)
    have hsm := sumB_small (es.take q)
    rw [show raw (es.take q) = bs.take q by rw [← HES.out]; simp [raw, List.map_take]] at hsm
    obtain ⟨sm, hsmm⟩ : ∃ sm, sumB (bs.take q) = sm := ⟨_, rfl⟩
    rw [hsmm] at hsm hS HST
    clear hsmm
    obtain ⟨v5, v6, v7, v8⟩ := hsm
    have hlq : (es.take q).length ≤ 8 := by simp; omega
    have hsmall := e1.2
    obtain ⟨y1, y2, y3, y4⟩ := hsmall
    have c2 := hcx 2 _ rfl
    have d0 := hce 0 _ rfl
    have d1 := hce 1 _ rfl
    simp only [Nat.add_zero] at d0
    obtain ⟨n0, n1, n2, n3, n4, n5⟩ := (HN5.out.ext s5 hbW).all
    have hi1 : (q : Int) < l.length := by omega
    have hi2 : (q : Int) < bs.length := by omega
    have hb := bnd_facts' k x.len m1 m2 (vld_rng HV.out)
    obtain ⟨z1, z2, z3, z4⟩ := hb
    have HBY := Lib.hid (bound_yes HV.out m1 m2)
    obtain ⟨bb, hbb⟩ : ∃ bb, bnd k x.len = bb := ⟨_, rfl⟩
    have HEV : Hid (e1.1 = if q + 1 = l.length then ⟨bb.lo + hold, bb.hi + hold⟩ else bb) := by rw [← hbb]; exact hev
    have HBB := Lib.hid hbb
    rw [hbb] at z1 z2 z3 z4
    have sW : w.heap.size < wr.heap.size := by omega
    clear hx hcx hce he1 he2 hev hbq hbb
    obtain ⟨ev, hevv⟩ : ∃ ev, e1.1 = ev := ⟨_, rfl⟩
    rw [hevv] at d0 d1 y1 y2 y3 y4
    have HEVV := Lib.hid hevv
    clear hevv
    have SS : ∀ w', Below wr.heap.size wr w' → (fun w' => w'.cell? ⟨w.heap.size, 0, none⟩ = some (.int .i64 k.slow) ∧ w'.cell? ⟨w.heap.size, 1, none⟩ = some (.int .i64 k.fast) ∧ w'.cell? ⟨w.heap.size, 2, none⟩ = some (.int .i64 k.places) ∧ w'.cell? ⟨w.heap.size, 3, none⟩ = some (.int .i64 k.weight) ∧ w'.cell? ⟨w.heap.size, 4, none⟩ = some (.int .i64 k.longest) ∧ w'.cell? ⟨w.heap.size, 5, none⟩ = some (.slice k.cur.A k.cur.l.length k.cur.c) ∧ w'.cell? ⟨b1, o1 + q * 4 + 2, none⟩ = some (.int .i64 x.len)) w' := fun w' bw => ⟨(bw.cell (p := ⟨w.heap.size, 0, none⟩) sW).trans n0, (bw.cell (p := ⟨w.heap.size, 1, none⟩) sW).trans n1, (bw.cell (p := ⟨w.heap.size, 2, none⟩) sW).trans n2, (bw.cell (p := ⟨w.heap.size, 3, none⟩) sW).trans n3, (bw.cell (p := ⟨w.heap.size, 4, none⟩) sW).trans n4, (bw.cell (p := ⟨w.heap.size, 5, none⟩) sW).trans n5, (bw.cell (p := ⟨b1, o1 + q * 4 + 2, none⟩) hbb1).trans c2⟩
    go_wp2_with fail
    go_region_held3 (fun w' => w'.cell? ⟨w.heap.size, 0, none⟩ = some (.int .i64 k.slow) ∧ w'.cell? ⟨w.heap.size, 1, none⟩ = some (.int .i64 k.fast) ∧ w'.cell? ⟨w.heap.size, 2, none⟩ = some (.int .i64 k.places) ∧ w'.cell? ⟨w.heap.size, 3, none⟩ = some (.int .i64 k.weight) ∧ w'.cell? ⟨w.heap.size, 4, none⟩ = some (.int .i64 k.longest) ∧ w'.cell? ⟨w.heap.size, 5, none⟩ = some (.slice k.cur.A k.cur.l.length k.cur.c) ∧ w'.cell? ⟨b1, o1 + q * 4 + 2, none⟩ = some (.int .i64 x.len)) (first | exact SS _ BW7 | exact SS _ (ext_alloc BW7 _) | exact SS _ (BW7.setCell (p := ⟨wr.heap.size, 0, none⟩) (Nat.le_refl _) _) | exact SS _ ((BW7.setCell (p := ⟨wr.heap.size, 0, none⟩) (Nat.le_refl _) _).setCell (p := ⟨wr.heap.size, 1, none⟩) (Nat.le_refl _) _) | go_keep)
      ((go_at_call 10; refine (bound_at (bb, 0) (by rw [HBY.out, HBB.out]) (hk.ext (by first | exact ext_drew (ext_trans hb5 hbW) | exact ext_drew (ext_alloc (ext_trans hb5 hbW) _))) HFW.out).mono ?_; rintro e w7 ⟨rfl, B7⟩; have BW7 : Below wr.heap.size wr w7 := (by first | exact ext_trans (ext_drew (ext_refl wr)) B7 | exact ext_trans (ext_drew (ext_alloc (ext_refl wr) _)) B7); have sW7 := Nat.lt_of_lt_of_le sW BW7.size; have sb7 := Nat.lt_of_lt_of_le hbb1 BW7.size; obtain ⟨hcc, hff⟩ := bcell B7))
    have hbox : BAt (w7.alloc (.cells #[.int .i64 bb.lo, .int .i64 bb.hi] 28)) w7.heap.size bb := ⟨by simp, by simp, by simp, by simp⟩
    have hbw8 : Below wr.heap.size wr (w7.alloc (.cells #[.int .i64 bb.lo, .int .i64 bb.hi] 28)) := ext_alloc BW7 _
    have hlo8 : wr.heap.size ≤ w7.heap.size := BW7.size
    generalize w7.alloc (.cells #[.int .i64 bb.lo, .int .i64 bb.hi] 28) = w8 at hbox hbw8 ⊢
    generalize w7.heap.size = b8 at hbox hlo8 ⊢
    rotate_left
    have h70 := hcc wr.heap.size 0 (by simp)
    have h71 := hcc wr.heap.size 1 (by simp)
    have h72 := hff wr.heap.size 0 (by simp)
    have h73 := hff wr.heap.size 1 (by simp)
    have hbox0 : BAt w7 wr.heap.size ⟨0, 0⟩ := ⟨by rw [h70]; simp, by rw [h71]; simp, by rw [h72]; simp, by rw [h73]; simp⟩
    have hbox := hbox0.set bb
    have hbw8 : Below wr.heap.size wr ((w7.setCell ⟨wr.heap.size, 0, none⟩ (.int .i64 bb.lo)).setCell ⟨wr.heap.size, 1, none⟩ (.int .i64 bb.hi)) := (BW7.setCell (p := ⟨wr.heap.size, 0, none⟩) (Nat.le_refl _) _).setCell (p := ⟨wr.heap.size, 1, none⟩) (Nat.le_refl _) _
    generalize (w7.setCell ⟨wr.heap.size, 0, none⟩ (.int .i64 bb.lo)).setCell ⟨wr.heap.size, 1, none⟩ (.int .i64 bb.hi) = w8 at hbox hbw8 ⊢
    clear h70 h71 h72 h73 hbox0
    obtain ⟨b8, hb8⟩ : ∃ b8, wr.heap.size = b8 := ⟨_, rfl⟩
    rw [hb8] at hbox ⊢
    have hlo8 : wr.heap.size ≤ b8 := Nat.le_of_eq hb8
    clear hb8
    all_goals
      clear n0 n1 n2 n3 n4 n5 SS c2
      by_cases hlast : q + 1 = l.length
      have ht : ((q : Int) == (l.length : Int) - 1) = true := by simp; omega
      have hev : ev = ⟨bb.lo + hold, bb.hi + hold⟩ := by rw [← HEVV.out, HEV.out, if_pos hlast]
      have hbox' : BAt ((w8.setCell ⟨b8, 0, none⟩ (.int .i64 (bb.lo + hold))).setCell ⟨b8, 1, none⟩ (.int .i64 (bb.hi + hold))) b8 ⟨bb.lo + hold, bb.hi + hold⟩ := hbox.set ⟨bb.lo + hold, bb.hi + hold⟩
      rw [← hev] at hbox'
      have hb9 : Below wr.heap.size wr ((w8.setCell ⟨b8, 0, none⟩ (.int .i64 (bb.lo + hold))).setCell ⟨b8, 1, none⟩ (.int .i64 (bb.hi + hold))) := (hbw8.setCell (p := ⟨b8, 0, none⟩) hlo8 _).setCell (p := ⟨b8, 1, none⟩) hlo8 _
      obtain ⟨x0, x1, x2, x3⟩ := hbox
      have HY := Lib.hid hbox'
      clear hev hbox'
      go_wp2_with fail
      have hbox := HY.out
      clear HY x0 x1 x2 x3
      generalize (w8.setCell ⟨b8, 0, none⟩ (.int .i64 (bb.lo + hold))).setCell ⟨b8, 1, none⟩ (.int .i64 (bb.hi + hold)) = w9 at hbox hb9 ⊢
      rotate_left
      have ht : ((q : Int) == (l.length : Int) - 1) = false := by simp; omega
      obtain rfl : ev = bb := by rw [← HEVV.out, HEV.out, if_neg hlast]
      go_wp2_with fail
      obtain ⟨w9, rfl⟩ : ∃ w9, w9 = w8 := ⟨_, rfl⟩
      have hb9 := hbw8
      all_goals
        have hSb : BAt w9 (w5.heap.size + 1) sm := ⟨(hb9.cell (p := ⟨w5.heap.size + 1, 0, none⟩) hsW).trans hS.1, (hb9.cell (p := ⟨w5.heap.size + 1, 1, none⟩) hsW).trans hS.2.1, ((bcell hb9).2 _ 0 hsW).trans hS.2.2.1, ((bcell hb9).2 _ 1 hsW).trans hS.2.2.2⟩
        have g0 := (hb9.cell (p := ⟨b2, o2 + q * 2, none⟩) hbb2).trans d0
        have g1 := (hb9.cell (p := ⟨b2, o2 + q * 2 + 1, none⟩) hbb2).trans d1
        obtain ⟨x0, x1, x2, x3⟩ := hbox
        have hSbn : ∀ n, BAt (w9.drewN n) (w5.heap.size + 1) sm := fun _ => hSb
        have HY : Hid (∀ n, BAt (((w9.drewN n).setCell ⟨w5.heap.size + 1, 0, none⟩ (.int .i64 (sm.lo + ev.lo))).setCell ⟨w5.heap.size + 1, 1, none⟩ (.int .i64 (sm.hi + ev.hi))) (w5.heap.size + 1) (addB sm ev)) := Lib.hid fun n => (hSbn n).set (addB sm ev)
        have HB10 : Hid (∀ n, Below w5.heap.size w5 (((w9.drewN n).setCell ⟨w5.heap.size + 1, 0, none⟩ (.int .i64 (sm.lo + ev.lo))).setCell ⟨w5.heap.size + 1, 1, none⟩ (.int .i64 (sm.hi + ev.hi)))) := Lib.hid fun n => ((ext_drewN (ext_trans hbW hb9) n).setCell (p := ⟨w5.heap.size + 1, 0, none⟩) (Nat.le_succ _) _).setCell (p := ⟨w5.heap.size + 1, 1, none⟩) (Nat.le_succ _) _
        clear hSbn
        obtain ⟨p0, p1, p2, p3⟩ := hSb
        have hneq := fun w => run_neq28 ev ev w
        simp only [decide_true, Bool.not_true] at hneq
        have hsz : w5.heap.size + 1 < w9.heap.size := Nat.lt_of_lt_of_le hsW hb9.size
        clear d0 d1
        go_quiet (fail)
        go_wp2_with fail
        go_roundw
        case rel => exact ⟨q + 1, hlt, by go_num, by rw [HST.out, HEVV.out]; exact HY.out _, HB10.out _, by simpa using hsz⟩
        case measure => simp [intOf]; omega
theorem walk6 (k : Kd) (a : SliceOf Lg) (hold : Int) (w : World) (ok : k.ok w ∧ k.cur.l.length ≤ maxLen) (oka : SliceOf.ok Lg.cells 4 (fun _ _ => True) w a) :
    Calls Try.prog 6 #[.agg k.cells.toArray, .slice a.A a.l.length a.c, .int .i64 hold] w fun e w' => e = .returned (.bool true) ∧ Below w.heap.size w w' :=
  law6 k a.A a.c a.l hold w ok.1 ok.2 oka.1
end Go.Proofs.Ytlnfjdbdgcafbaa
