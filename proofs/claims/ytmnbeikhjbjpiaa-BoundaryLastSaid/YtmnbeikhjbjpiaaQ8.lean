/- BoundaryLast, walked. -/
import Derived.Test.YtmnbeikhjbjpiaaQ0
set_option linter.unusedSimpArgs false
set_option linter.unusedVariables false
namespace Go.Proofs.Ytmnbeikhjbjpiaa
open Go.RowKit
theorem same32_at {x b : Bd} {B : Nat} {f t m : Int} {w : World} (o : Option Ag) (ho : rateL b.ag.l f t m = o) (hx : rateL x.ag.l f t m = o) (hB : Blk w B [.int .i64 b.own, .int .i64 b.ot, .slice b.ag.A b.ag.l.length b.ag.c, .slice b.op.A b.op.l.length b.op.c]) (hb : BOk w b) (hk : BOk w x) : Calls Try.prog 32 #[.agg #[.int .i64 x.own, .int .i64 x.ot, .slice x.ag.A x.ag.l.length x.ag.c, .slice x.op.A x.op.l.length x.op.c], .int .i64 f, .int .i64 t, .int .i64 m, .pointer (some ⟨B, 0, none⟩)] w (RetB w true) := by
  obtain ⟨os, hos⟩ : ∃ s, o.isSome = s := ⟨_, rfl⟩
  have HOS := Lib.hid hos
  have HO := Lib.hid ho
  have HX := Lib.hid hx
  clear hos ho hx
  have E := Lib.hid (ext_refl w)
  have BB := Lib.hid (hB)
  have HB := Lib.hid (hb)
  have HK := Lib.hid (hk)
  clear hB hb hk
  replace E := Lib.hid (ext_alloc E.out (.cells #[.int .i64 x.own, .int .i64 x.ot, .slice x.ag.A x.ag.l.length x.ag.c, .slice x.op.A x.op.l.length x.op.c] 24))
  replace BB := Lib.hid (BB.out.alloc (.cells #[.int .i64 x.own, .int .i64 x.ot, .slice x.ag.A x.ag.l.length x.ag.c, .slice x.op.A x.op.l.length x.op.c] 24))
  replace HB := Lib.hid (HB.out.alloc (.cells #[.int .i64 x.own, .int .i64 x.ot, .slice x.ag.A x.ag.l.length x.ag.c, .slice x.op.A x.op.l.length x.op.c] 24))
  replace HK := Lib.hid (HK.out.alloc (.cells #[.int .i64 x.own, .int .i64 x.ot, .slice x.ag.A x.ag.l.length x.ag.c, .slice x.op.A x.op.l.length x.op.c] 24))
  have X := Lib.hid (Blk.newH w [.int .i64 x.own, .int .i64 x.ot, .slice x.ag.A x.ag.l.length x.ag.c, .slice x.op.A x.op.l.length x.op.c] 24 (w.heap.size) (by first | rfl | simp))
  go_enter Try.func32, Try.ntmps32
  have c0 := BB.out.c 0 _ rfl
  have c1 := BB.out.c 1 _ rfl
  have c2 := BB.out.c 2 _ rfl
  have c3 := BB.out.c 3 _ rfl
  go_wp2_with fail
  refine (rate_at (b := b) (f := f) (t := t) (m := m) o HO.out HB.out.ag (maxLen_of HB.out.agl HB.out.agc)).mono ?_
  rintro e v1 ⟨he, B⟩
  clear c0 c1 c2 c3
  replace E := Lib.hid (ext_trans E.out B)
  replace BB := Lib.hid (BB.out.ext B)
  replace HB := Lib.hid (HB.out.ext B)
  replace HK := Lib.hid (HK.out.ext B)
  replace X := Lib.hid (X.out.ext B)
  clear B
  rw [HOS.out] at he
  subst he
  have c0 := X.out.c 0 _ rfl
  have c1 := X.out.c 1 _ rfl
  have c2 := X.out.c 2 _ rfl
  have c3 := X.out.c 3 _ rfl
  go_wp2_with fail
  refine (rate_at (b := x) (f := f) (t := t) (m := m) o HX.out HK.out.ag (maxLen_of HK.out.agl HK.out.agc)).mono ?_
  rintro e v2 ⟨he, B⟩
  clear c0 c1 c2 c3
  replace E := Lib.hid (ext_trans E.out B)
  replace BB := Lib.hid (BB.out.ext B)
  replace HB := Lib.hid (HB.out.ext B)
  replace HK := Lib.hid (HK.out.ext B)
  replace X := Lib.hid (X.out.ext B)
  clear B
  rw [HOS.out] at he
  subst he
  go_wp2_with fail
  go_ret
  exact ⟨ret_bool (by simp), E.out⟩
theorem cnt_turn {own ot : Int} {a : Ag} {m : Int} (hc : own ≠ ot) (h : fits own ot a = true) : cnt a.t a.f m a = false := by
  have hf := (fits_iff.1 h).1
  unfold cnt
  rw [decide_eq_false (show ¬ a.f = a.t by omega)]; simp
theorem cnt_early {f t m : Int} {a : Ag} (h : m < a.m) : cnt f t m a = false := by
  unfold cnt; rw [decide_eq_false (show ¬ a.m ≤ m by omega)]; simp
theorem rate_acc {b : Bl} {no : Int} {f t m : Int} (h : b.accE no = 0) (hc : cnt f t m (b.accX no) = false) : rateL (b.accB no).ag f t m = rateL b.ag f t m := by
  rw [accB_ok h]
  split
  · rfl
  · rename_i hn
    have hx : (numd b.op no).getD zeroA = b.accX no := by
      rw [accX_ok h]; unfold Bl.any
      cases h1 : numd b.ag no with
      | none => rfl
      | some y => rw [h1] at hn; simp at hn
    rw [hx]; exact rate_put hc
theorem rate_con {b : Bl} {a : Ag} {f t m : Int} (h : b.conE a = 0) (hc : cnt f t m a = false) : rateL (b.conB a).ag f t m = rateL b.ag f t m := by
  rw [conB_ok h]
  split
  · rfl
  · exact rate_put hc
set_option maxHeartbeats 3200000 in
set_option maxRecDepth 100000 in
theorem law8 (b : Bd) (no : Int) (a : Ag) (mi : Int) (w : World) (hb : BOk w b) : Calls Try.prog 8 #[b.v, .int .i64 no, a.v, .int .i64 mi] w (Tru w) := by
  obtain ⟨fw, hfw⟩ : ∃ v, fewB b.bl = v := ⟨_, rfl⟩
  have HF := Lib.hid hfw
  clear hfw
  obtain ⟨ok, hok⟩ : ∃ v, b.bl.ok = v := ⟨_, rfl⟩
  have HV := Lib.hid hok
  clear hok
  cases fw
  · have E := Lib.hid (ext_refl w)
    have HB := Lib.hid (hb)
    clear hb
    replace E := Lib.hid (ext_alloc E.out (.cells #[.int .i64 b.own, .int .i64 b.ot, .slice b.ag.A b.ag.l.length b.ag.c, .slice b.op.A b.op.l.length b.op.c] 24))
    replace HB := Lib.hid (HB.out.alloc (.cells #[.int .i64 b.own, .int .i64 b.ot, .slice b.ag.A b.ag.l.length b.ag.c, .slice b.op.A b.op.l.length b.op.c] 24))
    have BB := Lib.hid (Blk.newH w [.int .i64 b.own, .int .i64 b.ot, .slice b.ag.A b.ag.l.length b.ag.c, .slice b.op.A b.op.l.length b.op.c] 24 (w.heap.size) (by first | rfl | simp))
    replace E := Lib.hid (ext_alloc E.out (.cells #[.int .i64 a.no, .int .i64 a.f, .int .i64 a.t, .int .i64 a.m, .int .i64 a.r] 26))
    replace HB := Lib.hid (HB.out.alloc (.cells #[.int .i64 a.no, .int .i64 a.f, .int .i64 a.t, .int .i64 a.m, .int .i64 a.r] 26))
    replace BB := Lib.hid (BB.out.alloc (.cells #[.int .i64 a.no, .int .i64 a.f, .int .i64 a.t, .int .i64 a.m, .int .i64 a.r] 26))
    have X := Lib.hid (Blk.newH (w.alloc (.cells #[.int .i64 b.own, .int .i64 b.ot, .slice b.ag.A b.ag.l.length b.ag.c, .slice b.op.A b.op.l.length b.op.c] 24)) [.int .i64 a.no, .int .i64 a.f, .int .i64 a.t, .int .i64 a.m, .int .i64 a.r] 26 (w.heap.size + 1) (by first | rfl | simp))
    go_enter Try.func8, Try.ntmps8
    go_wp2_with fail
    refine (sane_any _).mono ?_
    rintro e v1 ⟨rfl, B⟩
    replace E := Lib.hid (ext_trans E.out B)
    replace HB := Lib.hid (HB.out.ext B)
    replace BB := Lib.hid (BB.out.ext B)
    replace X := Lib.hid (X.out.ext B)
    clear B
    have c0 := BB.out.c 0 _ rfl
    have c1 := BB.out.c 1 _ rfl
    have c2 := BB.out.c 2 _ rfl
    have c3 := BB.out.c 3 _ rfl
    go_wp2_with fail
    refine (few_at false HF.out).mono ?_
    rintro e v2 ⟨rfl, B⟩
    clear c0 c1 c2 c3
    replace E := Lib.hid (ext_trans E.out B)
    replace HB := Lib.hid (HB.out.ext B)
    replace BB := Lib.hid (BB.out.ext B)
    replace X := Lib.hid (X.out.ext B)
    clear B
    go_wp2_with fail
    go_ret
    exact ⟨rfl, E.out⟩
  cases ok
  · have E := Lib.hid (ext_refl w)
    have HB := Lib.hid (hb)
    clear hb
    replace E := Lib.hid (ext_alloc E.out (.cells #[.int .i64 b.own, .int .i64 b.ot, .slice b.ag.A b.ag.l.length b.ag.c, .slice b.op.A b.op.l.length b.op.c] 24))
    replace HB := Lib.hid (HB.out.alloc (.cells #[.int .i64 b.own, .int .i64 b.ot, .slice b.ag.A b.ag.l.length b.ag.c, .slice b.op.A b.op.l.length b.op.c] 24))
    have BB := Lib.hid (Blk.newH w [.int .i64 b.own, .int .i64 b.ot, .slice b.ag.A b.ag.l.length b.ag.c, .slice b.op.A b.op.l.length b.op.c] 24 (w.heap.size) (by first | rfl | simp))
    replace E := Lib.hid (ext_alloc E.out (.cells #[.int .i64 a.no, .int .i64 a.f, .int .i64 a.t, .int .i64 a.m, .int .i64 a.r] 26))
    replace HB := Lib.hid (HB.out.alloc (.cells #[.int .i64 a.no, .int .i64 a.f, .int .i64 a.t, .int .i64 a.m, .int .i64 a.r] 26))
    replace BB := Lib.hid (BB.out.alloc (.cells #[.int .i64 a.no, .int .i64 a.f, .int .i64 a.t, .int .i64 a.m, .int .i64 a.r] 26))
    have X := Lib.hid (Blk.newH (w.alloc (.cells #[.int .i64 b.own, .int .i64 b.ot, .slice b.ag.A b.ag.l.length b.ag.c, .slice b.op.A b.op.l.length b.op.c] 24)) [.int .i64 a.no, .int .i64 a.f, .int .i64 a.t, .int .i64 a.m, .int .i64 a.r] 26 (w.heap.size + 1) (by first | rfl | simp))
    go_enter Try.func8, Try.ntmps8
    go_wp2_with fail
    refine (sane_any _).mono ?_
    rintro e v1 ⟨rfl, B⟩
    replace E := Lib.hid (ext_trans E.out B)
    replace HB := Lib.hid (HB.out.ext B)
    replace BB := Lib.hid (BB.out.ext B)
    replace X := Lib.hid (X.out.ext B)
    clear B
    have c0 := BB.out.c 0 _ rfl
    have c1 := BB.out.c 1 _ rfl
    have c2 := BB.out.c 2 _ rfl
    have c3 := BB.out.c 3 _ rfl
    go_wp2_with fail
    refine (few_at true HF.out).mono ?_
    rintro e v2 ⟨rfl, B⟩
    clear c0 c1 c2 c3
    replace E := Lib.hid (ext_trans E.out B)
    replace HB := Lib.hid (HB.out.ext B)
    replace BB := Lib.hid (BB.out.ext B)
    replace X := Lib.hid (X.out.ext B)
    clear B
    have c0 := BB.out.c 0 _ rfl
    have c1 := BB.out.c 1 _ rfl
    have c2 := BB.out.c 2 _ rfl
    have c3 := BB.out.c 3 _ rfl
    go_wp2_with fail
    refine (check_at 480 (by unfold Bl.chk; rw [HV.out]; rfl) HB.out).mono ?_
    rintro e v3 ⟨rfl, B⟩
    clear c0 c1 c2 c3
    replace E := Lib.hid (ext_trans E.out B)
    replace HB := Lib.hid (HB.out.ext B)
    replace BB := Lib.hid (BB.out.ext B)
    replace X := Lib.hid (X.out.ext B)
    clear B
    go_wp2_with fail
    go_ret
    exact ⟨rfl, E.out⟩
  have E := Lib.hid (ext_refl w)
  have HB := Lib.hid (hb)
  clear hb
  replace E := Lib.hid (ext_alloc E.out (.cells #[.int .i64 b.own, .int .i64 b.ot, .slice b.ag.A b.ag.l.length b.ag.c, .slice b.op.A b.op.l.length b.op.c] 24))
  replace HB := Lib.hid (HB.out.alloc (.cells #[.int .i64 b.own, .int .i64 b.ot, .slice b.ag.A b.ag.l.length b.ag.c, .slice b.op.A b.op.l.length b.op.c] 24))
  have BB := Lib.hid (Blk.newH w [.int .i64 b.own, .int .i64 b.ot, .slice b.ag.A b.ag.l.length b.ag.c, .slice b.op.A b.op.l.length b.op.c] 24 (w.heap.size) (by first | rfl | simp))
  replace E := Lib.hid (ext_alloc E.out (.cells #[.int .i64 a.no, .int .i64 a.f, .int .i64 a.t, .int .i64 a.m, .int .i64 a.r] 26))
  replace HB := Lib.hid (HB.out.alloc (.cells #[.int .i64 a.no, .int .i64 a.f, .int .i64 a.t, .int .i64 a.m, .int .i64 a.r] 26))
  replace BB := Lib.hid (BB.out.alloc (.cells #[.int .i64 a.no, .int .i64 a.f, .int .i64 a.t, .int .i64 a.m, .int .i64 a.r] 26))
  have X := Lib.hid (Blk.newH (w.alloc (.cells #[.int .i64 b.own, .int .i64 b.ot, .slice b.ag.A b.ag.l.length b.ag.c, .slice b.op.A b.op.l.length b.op.c] 24)) [.int .i64 a.no, .int .i64 a.f, .int .i64 a.t, .int .i64 a.m, .int .i64 a.r] 26 (w.heap.size + 1) (by first | rfl | simp))
  obtain ⟨X0, hX0⟩ : ∃ x, b.bl.offB a.f a.t a.m a.r = x := ⟨_, rfl⟩
  have HX0 := Lib.hid hX0
  clear hX0
  obtain ⟨A0, hA0⟩ : ∃ x, b.bl.offX a.f a.t a.m a.r = x := ⟨_, rfl⟩
  have HA0 := Lib.hid hA0
  clear hA0
  obtain ⟨E0, hE0⟩ : ∃ x, b.bl.offE a.f a.t a.m a.r = x := ⟨_, rfl⟩
  have HE0 := Lib.hid hE0
  clear hE0
  obtain ⟨X1, hX1⟩ : ∃ x, b.bl.heaB a = x := ⟨_, rfl⟩
  have HX1 := Lib.hid hX1
  clear hX1
  obtain ⟨E1, hE1⟩ : ∃ x, b.bl.heaE a = x := ⟨_, rfl⟩
  have HE1 := Lib.hid hE1
  clear hE1
  obtain ⟨X2, hX2⟩ : ∃ x, b.bl.accB no = x := ⟨_, rfl⟩
  have HX2 := Lib.hid hX2
  clear hX2
  obtain ⟨A2, hA2⟩ : ∃ x, b.bl.accX no = x := ⟨_, rfl⟩
  have HA2 := Lib.hid hA2
  clear hA2
  obtain ⟨E2, hE2⟩ : ∃ x, b.bl.accE no = x := ⟨_, rfl⟩
  have HE2 := Lib.hid hE2
  clear hE2
  obtain ⟨X3, hX3⟩ : ∃ x, b.bl.conB a = x := ⟨_, rfl⟩
  have HX3 := Lib.hid hX3
  clear hX3
  obtain ⟨E3, hE3⟩ : ∃ x, b.bl.conE a = x := ⟨_, rfl⟩
  have HE3 := Lib.hid hE3
  clear hE3
  have HLS := Lib.hid (LenS.few HF.out)
  have HLN := Lib.hid (HLS.out.lens (by decide))
  have hne := cen_ne (ok_iff.1 HV.out).1
  have R0 := Lib.hid (show E0 = 0 → X0.ag = b.ag.l from fun h => by rw [← HX0.out]; exact (off_grew (HE0.out.trans h)).2.1)
  have R1 := Lib.hid (show E1 = 0 → X1.ag = b.ag.l from fun h => by rw [← HX1.out]; exact (hea_grew (HE1.out.trans h)).2)
  have R2 := Lib.hid (show E2 = 0 → (rateL X2.ag A2.t A2.f mi = rateL b.ag.l A2.t A2.f mi) ∧ (mi < A2.m → rateL X2.ag A2.f A2.t mi = rateL b.ag.l A2.f A2.t mi) from fun h => by
    have h0 := HE2.out.trans h
    have hf := (acc_grew h0).1.fit
    rw [← HX2.out, ← HA2.out]
    exact ⟨rate_acc h0 (cnt_turn hne hf), fun hm => rate_acc h0 (cnt_early hm)⟩)
  have R3 := Lib.hid (show E3 = 0 → (rateL X3.ag a.t a.f mi = rateL b.ag.l a.t a.f mi) ∧ (mi < a.m → rateL X3.ag a.f a.t mi = rateL b.ag.l a.f a.t mi) from fun h => by
    have h0 := HE3.out.trans h
    have hf := (con_grew h0).1.fit
    rw [← HX3.out]
    exact ⟨rate_con h0 (cnt_turn hne hf), fun hm => rate_con h0 (cnt_early hm)⟩)
  clear hne
  go_enter Try.func8, Try.ntmps8
  go_wp2_with fail
  refine (sane_any _).mono ?_
  rintro e v1 ⟨rfl, B⟩
  replace E := Lib.hid (ext_trans E.out B)
  replace HB := Lib.hid (HB.out.ext B)
  replace BB := Lib.hid (BB.out.ext B)
  replace X := Lib.hid (X.out.ext B)
  clear B
  have c0 := BB.out.c 0 _ rfl
  have c1 := BB.out.c 1 _ rfl
  have c2 := BB.out.c 2 _ rfl
  have c3 := BB.out.c 3 _ rfl
  go_wp2_with fail
  refine (few_at true HF.out).mono ?_
  rintro e v2 ⟨rfl, B⟩
  clear c0 c1 c2 c3
  replace E := Lib.hid (ext_trans E.out B)
  replace HB := Lib.hid (HB.out.ext B)
  replace BB := Lib.hid (BB.out.ext B)
  replace X := Lib.hid (X.out.ext B)
  clear B
  have c0 := BB.out.c 0 _ rfl
  have c1 := BB.out.c 1 _ rfl
  have c2 := BB.out.c 2 _ rfl
  have c3 := BB.out.c 3 _ rfl
  go_wp2_with fail
  refine (check_at 0 (by unfold Bl.chk; rw [HV.out]; rfl) HB.out).mono ?_
  rintro e v3 ⟨rfl, B⟩
  clear c0 c1 c2 c3
  replace E := Lib.hid (ext_trans E.out B)
  replace HB := Lib.hid (HB.out.ext B)
  replace BB := Lib.hid (BB.out.ext B)
  replace X := Lib.hid (X.out.ext B)
  clear B
  have c0 := BB.out.c 0 _ rfl
  have c1 := BB.out.c 1 _ rfl
  have c2 := BB.out.c 2 _ rfl
  have c3 := BB.out.c 3 _ rfl
  have c4 := X.out.c 1 _ rfl
  have c5 := X.out.c 2 _ rfl
  have c6 := X.out.c 3 _ rfl
  have c7 := X.out.c 4 _ rfl
  go_wp2_with fail
  refine (offer_at (b := b) (f := a.f) (t := a.t) (m := a.m) (r := a.r) X0 A0 E0 HX0.out HA0.out HE0.out HB.out HLN.out).mono ?_
  rintro e v4 ⟨m1, rfl, hm, hk, B, -⟩
  clear c0 c1 c2 c3 c4 c5 c6 c7
  replace E := Lib.hid (ext_trans E.out B)
  replace HB := Lib.hid (HB.out.ext B)
  replace BB := Lib.hid (BB.out.ext B)
  replace X := Lib.hid (X.out.ext B)
  clear B
  have Hm1 := Lib.hid hm
  clear hm
  have Nm1 := Lib.hid hk
  clear hk
  replace E := Lib.hid (ext_alloc E.out (.cells #[.int .i64 m1.own, .int .i64 m1.ot, .slice m1.ag.A m1.ag.l.length m1.ag.c, .slice m1.op.A m1.op.l.length m1.op.c] 24))
  replace HB := Lib.hid (HB.out.alloc (.cells #[.int .i64 m1.own, .int .i64 m1.ot, .slice m1.ag.A m1.ag.l.length m1.ag.c, .slice m1.op.A m1.op.l.length m1.op.c] 24))
  replace BB := Lib.hid (BB.out.alloc (.cells #[.int .i64 m1.own, .int .i64 m1.ot, .slice m1.ag.A m1.ag.l.length m1.ag.c, .slice m1.op.A m1.op.l.length m1.op.c] 24))
  replace X := Lib.hid (X.out.alloc (.cells #[.int .i64 m1.own, .int .i64 m1.ot, .slice m1.ag.A m1.ag.l.length m1.ag.c, .slice m1.op.A m1.op.l.length m1.op.c] 24))
  replace Nm1 := Lib.hid (Nm1.out.alloc (.cells #[.int .i64 m1.own, .int .i64 m1.ot, .slice m1.ag.A m1.ag.l.length m1.ag.c, .slice m1.op.A m1.op.l.length m1.op.c] 24))
  have X1b := Lib.hid (Blk.newH v4 [.int .i64 m1.own, .int .i64 m1.ot, .slice m1.ag.A m1.ag.l.length m1.ag.c, .slice m1.op.A m1.op.l.length m1.op.c] 24 (v4.heap.size) (by first | rfl | simp))
  replace E := Lib.hid (ext_alloc E.out (.cells #[.int .i64 A0.no, .int .i64 A0.f, .int .i64 A0.t, .int .i64 A0.m, .int .i64 A0.r] 26))
  replace HB := Lib.hid (HB.out.alloc (.cells #[.int .i64 A0.no, .int .i64 A0.f, .int .i64 A0.t, .int .i64 A0.m, .int .i64 A0.r] 26))
  replace BB := Lib.hid (BB.out.alloc (.cells #[.int .i64 A0.no, .int .i64 A0.f, .int .i64 A0.t, .int .i64 A0.m, .int .i64 A0.r] 26))
  replace X := Lib.hid (X.out.alloc (.cells #[.int .i64 A0.no, .int .i64 A0.f, .int .i64 A0.t, .int .i64 A0.m, .int .i64 A0.r] 26))
  replace Nm1 := Lib.hid (Nm1.out.alloc (.cells #[.int .i64 A0.no, .int .i64 A0.f, .int .i64 A0.t, .int .i64 A0.m, .int .i64 A0.r] 26))
  replace X1b := Lib.hid (X1b.out.alloc (.cells #[.int .i64 A0.no, .int .i64 A0.f, .int .i64 A0.t, .int .i64 A0.m, .int .i64 A0.r] 26))
  have c0 := BB.out.c 0 _ rfl
  have c1 := BB.out.c 1 _ rfl
  have c2 := BB.out.c 2 _ rfl
  have c3 := BB.out.c 3 _ rfl
  have c4 := X.out.c 0 _ rfl
  have c5 := X.out.c 1 _ rfl
  have c6 := X.out.c 2 _ rfl
  have c7 := X.out.c 3 _ rfl
  have c8 := X.out.c 4 _ rfl
  go_wp2_with fail
  refine (hear_at (b := b) (a := a) X1 E1 HX1.out HE1.out HB.out HLN.out).mono ?_
  rintro e v5 ⟨m3, rfl, hm, hk, B, -⟩
  clear c0 c1 c2 c3 c4 c5 c6 c7 c8
  replace E := Lib.hid (ext_trans E.out B)
  replace HB := Lib.hid (HB.out.ext B)
  replace BB := Lib.hid (BB.out.ext B)
  replace X := Lib.hid (X.out.ext B)
  replace Nm1 := Lib.hid (Nm1.out.ext B)
  replace X1b := Lib.hid (X1b.out.ext B)
  clear B
  have Hm3 := Lib.hid hm
  clear hm
  have Nm3 := Lib.hid hk
  clear hk
  replace E := Lib.hid (ext_alloc E.out (.cells #[.int .i64 m3.own, .int .i64 m3.ot, .slice m3.ag.A m3.ag.l.length m3.ag.c, .slice m3.op.A m3.op.l.length m3.op.c] 24))
  replace HB := Lib.hid (HB.out.alloc (.cells #[.int .i64 m3.own, .int .i64 m3.ot, .slice m3.ag.A m3.ag.l.length m3.ag.c, .slice m3.op.A m3.op.l.length m3.op.c] 24))
  replace BB := Lib.hid (BB.out.alloc (.cells #[.int .i64 m3.own, .int .i64 m3.ot, .slice m3.ag.A m3.ag.l.length m3.ag.c, .slice m3.op.A m3.op.l.length m3.op.c] 24))
  replace X := Lib.hid (X.out.alloc (.cells #[.int .i64 m3.own, .int .i64 m3.ot, .slice m3.ag.A m3.ag.l.length m3.ag.c, .slice m3.op.A m3.op.l.length m3.op.c] 24))
  replace Nm1 := Lib.hid (Nm1.out.alloc (.cells #[.int .i64 m3.own, .int .i64 m3.ot, .slice m3.ag.A m3.ag.l.length m3.ag.c, .slice m3.op.A m3.op.l.length m3.op.c] 24))
  replace X1b := Lib.hid (X1b.out.alloc (.cells #[.int .i64 m3.own, .int .i64 m3.ot, .slice m3.ag.A m3.ag.l.length m3.ag.c, .slice m3.op.A m3.op.l.length m3.op.c] 24))
  replace Nm3 := Lib.hid (Nm3.out.alloc (.cells #[.int .i64 m3.own, .int .i64 m3.ot, .slice m3.ag.A m3.ag.l.length m3.ag.c, .slice m3.op.A m3.op.l.length m3.op.c] 24))
  have X3b := Lib.hid (Blk.newH v5 [.int .i64 m3.own, .int .i64 m3.ot, .slice m3.ag.A m3.ag.l.length m3.ag.c, .slice m3.op.A m3.op.l.length m3.op.c] 24 (v5.heap.size) (by first | rfl | simp))
  have bb0 := BB.out.c 0 _ rfl
  have bb1 := BB.out.c 1 _ rfl
  have bb2 := BB.out.c 2 _ rfl
  have bb3 := BB.out.c 3 _ rfl
  have bbf := BB.out.f
  have bbl := BB.out.lt
  replace E := Lib.hid (ext_alloc E.out (.cells #[.int .i64 b.own, .int .i64 b.ot, .int .i64 b.ot, .int .i64 b.own] 56))
  replace HB := Lib.hid (HB.out.alloc (.cells #[.int .i64 b.own, .int .i64 b.ot, .int .i64 b.ot, .int .i64 b.own] 56))
  replace BB := Lib.hid (BB.out.alloc (.cells #[.int .i64 b.own, .int .i64 b.ot, .int .i64 b.ot, .int .i64 b.own] 56))
  replace X := Lib.hid (X.out.alloc (.cells #[.int .i64 b.own, .int .i64 b.ot, .int .i64 b.ot, .int .i64 b.own] 56))
  replace Nm1 := Lib.hid (Nm1.out.alloc (.cells #[.int .i64 b.own, .int .i64 b.ot, .int .i64 b.ot, .int .i64 b.own] 56))
  replace X1b := Lib.hid (X1b.out.alloc (.cells #[.int .i64 b.own, .int .i64 b.ot, .int .i64 b.ot, .int .i64 b.own] 56))
  replace Nm3 := Lib.hid (Nm3.out.alloc (.cells #[.int .i64 b.own, .int .i64 b.ot, .int .i64 b.ot, .int .i64 b.own] 56))
  replace X3b := Lib.hid (X3b.out.alloc (.cells #[.int .i64 b.own, .int .i64 b.ot, .int .i64 b.ot, .int .i64 b.own] 56))
  have WW := Lib.hid (Blk.newH (v5.alloc (.cells #[.int .i64 m3.own, .int .i64 m3.ot, .slice m3.ag.A m3.ag.l.length m3.ag.c, .slice m3.op.A m3.op.l.length m3.op.c] 24)) [.int .i64 b.own, .int .i64 b.ot, .int .i64 b.ot, .int .i64 b.own] 56 (v5.heap.size + 1) (by first | rfl | simp))
  go_wp2_with fail
  clear bb0 bb1 bb2 bb3 bbf bbl
  obtain ⟨vW, hNvW⟩ : ∃ W0, W0 = ((v5.alloc (.cells #[.int .i64 m3.own, .int .i64 m3.ot, .slice m3.ag.A m3.ag.l.length m3.ag.c, .slice m3.op.A m3.op.l.length m3.op.c] 24)).alloc (.cells #[.int .i64 b.own, .int .i64 b.ot, .int .i64 b.ot, .int .i64 b.own] 56)) := ⟨_, rfl⟩
  rw [← hNvW] at E HB BB X Nm1 X1b Nm3 X3b WW ⊢
  clear hNvW
  have SW : Hid (Slc vW Wy.cells 2 (some ⟨v5.heap.size + 1, 0, none⟩) [⟨b.own, b.ot⟩, ⟨b.ot, b.own⟩]) := by
    intro i y hy
    have hl := WW.out.lt
    match i, hy with
    | 0, hy => cases hy; exact ⟨_, 0, rfl, hl, fun j v hj => by match j, hj with | 0, hj => exact WW.out.c 0 _ hj | 1, hj => exact WW.out.c 1 _ hj⟩
    | 1, hy => cases hy; exact ⟨_, 0, rfl, hl, fun j v hj => by match j, hj with | 0, hj => exact WW.out.c 2 _ hj | 1, hj => exact WW.out.c 3 _ hj⟩
  clear WW
  go_loopw [65] (fun i wr => ∃ k : Nat, k ≤ 2 ∧ i = .int .i64 k ∧ Hid (Blk wr (w.heap.size) [.int .i64 b.own, .int .i64 b.ot, .slice b.ag.A b.ag.l.length b.ag.c, .slice b.op.A b.op.l.length b.op.c]) ∧ Hid (Blk wr (w.heap.size + 1) [.int .i64 a.no, .int .i64 a.f, .int .i64 a.t, .int .i64 a.m, .int .i64 a.r]) ∧ Hid (Blk wr (v4.heap.size) [.int .i64 m1.own, .int .i64 m1.ot, .slice m1.ag.A m1.ag.l.length m1.ag.c, .slice m1.op.A m1.op.l.length m1.op.c]) ∧ Hid (Blk wr (v5.heap.size) [.int .i64 m3.own, .int .i64 m3.ot, .slice m3.ag.A m3.ag.l.length m3.ag.c, .slice m3.op.A m3.op.l.length m3.op.c]) ∧ Hid (Slc wr Wy.cells 2 (some ⟨v5.heap.size + 1, 0, none⟩) [⟨b.own, b.ot⟩, ⟨b.ot, b.own⟩]) ∧ Hid (BOk wr b) ∧ Hid (BOk wr m1) ∧ Hid (BOk wr m3) ∧ Hid (Below w.heap.size w wr)) (fun i _ => 2 - (intOf i).toNat)
  case atStart => exact ⟨0, by decide, rfl, BB.out, X.out, X1b.out, X3b.out, SW.out, HB.out, Nm1.out, Nm3.out, E.out⟩
  clear BB X X1b X3b SW HB Nm1 Nm3 E
  case round =>
    obtain ⟨k, hk, rfl, BB, X, X1b, X3b, SW, HB, Nm1, Nm3, E⟩ := hrel
    by_cases hlt : k < 2
    · obtain ⟨x, b1, o1, hx, hA, hb1, hd⟩ := SW.out.at_ hlt
      cases hA
      have d0 := hd 0 _ rfl
      have d1 := hd 1 _ rfl
      simp only [Nat.add_zero, Nat.zero_add] at d0 d1
      have hlt' : (k : Int) < 2 := by omega
      clear hd hx
      rename_i K2 a2
      clear a2
      by_cases he0 : E0 = 0
      · by_cases he1 : E1 = 0
        · have f0 : (E0 == 0) = true := by simp [he0]
          have f1 : (E1 == 0) = true := by simp [he1]
          have Q0 := Lib.hid (show m1.ag.l = b.ag.l from (congrArg Bl.ag Hm1.out).trans (R0.out he0))
          have Q1 := Lib.hid (show m3.ag.l = b.ag.l from (congrArg Bl.ag Hm3.out).trans (R1.out he1))
          clear he0 he1
          replace BB := Lib.hid (BB.out.alloc (.cells #[.int .i64 x.a, .int .i64 x.b] 56))
          replace X := Lib.hid (X.out.alloc (.cells #[.int .i64 x.a, .int .i64 x.b] 56))
          replace X1b := Lib.hid (X1b.out.alloc (.cells #[.int .i64 x.a, .int .i64 x.b] 56))
          replace X3b := Lib.hid (X3b.out.alloc (.cells #[.int .i64 x.a, .int .i64 x.b] 56))
          replace SW := Lib.hid (SW.out.alloc (.cells #[.int .i64 x.a, .int .i64 x.b] 56))
          replace HB := Lib.hid (HB.out.alloc (.cells #[.int .i64 x.a, .int .i64 x.b] 56))
          replace Nm1 := Lib.hid (Nm1.out.alloc (.cells #[.int .i64 x.a, .int .i64 x.b] 56))
          replace Nm3 := Lib.hid (Nm3.out.alloc (.cells #[.int .i64 x.a, .int .i64 x.b] 56))
          replace E := Lib.hid (ext_alloc E.out (.cells #[.int .i64 x.a, .int .i64 x.b] 56))
          have WX := Lib.hid (Blk.newH wr [.int .i64 x.a, .int .i64 x.b] 56 (wr.heap.size) (by first | rfl | simp))
          have c0 := X1b.out.c 0 _ rfl
          have c1 := X1b.out.c 1 _ rfl
          have c2 := X1b.out.c 2 _ rfl
          have c3 := X1b.out.c 3 _ rfl
          have c4 := WX.out.c 0 _ rfl
          have c5 := WX.out.c 1 _ rfl
          go_wp2_with fail
          refine (same32_at (x := m1) (b := b) (f := x.a) (t := x.b) (m := mi) _ rfl (by rw [Q0.out]) BB.out HB.out Nm1.out).mono ?_
          rintro e u1 ⟨rfl, B⟩
          clear c0 c1 c2 c3 c4 c5
          replace BB := Lib.hid (BB.out.ext B)
          replace X := Lib.hid (X.out.ext B)
          replace X1b := Lib.hid (X1b.out.ext B)
          replace X3b := Lib.hid (X3b.out.ext B)
          replace SW := Lib.hid (SW.out.ext B)
          replace HB := Lib.hid (HB.out.ext B)
          replace Nm1 := Lib.hid (Nm1.out.ext B)
          replace Nm3 := Lib.hid (Nm3.out.ext B)
          replace E := Lib.hid (ext_trans E.out B)
          replace WX := Lib.hid (WX.out.ext B)
          clear B
          have c0 := X3b.out.c 0 _ rfl
          have c1 := X3b.out.c 1 _ rfl
          have c2 := X3b.out.c 2 _ rfl
          have c3 := X3b.out.c 3 _ rfl
          have c4 := WX.out.c 0 _ rfl
          have c5 := WX.out.c 1 _ rfl
          go_wp2_with fail
          refine (same32_at (x := m3) (b := b) (f := x.a) (t := x.b) (m := mi) _ rfl (by rw [Q1.out]) BB.out HB.out Nm3.out).mono ?_
          rintro e u2 ⟨rfl, B⟩
          clear c0 c1 c2 c3 c4 c5
          replace BB := Lib.hid (BB.out.ext B)
          replace X := Lib.hid (X.out.ext B)
          replace X1b := Lib.hid (X1b.out.ext B)
          replace X3b := Lib.hid (X3b.out.ext B)
          replace SW := Lib.hid (SW.out.ext B)
          replace HB := Lib.hid (HB.out.ext B)
          replace Nm1 := Lib.hid (Nm1.out.ext B)
          replace Nm3 := Lib.hid (Nm3.out.ext B)
          replace E := Lib.hid (ext_trans E.out B)
          replace WX := Lib.hid (WX.out.ext B)
          clear B
          go_wp2_with fail
          go_roundw
          case rel => exact ⟨k + 1, by omega, by go_num, BB.out, X.out, X1b.out, X3b.out, SW.out, HB.out, Nm1.out, Nm3.out, E.out⟩
          case measure => simp [intOf]; omega
        · have f0 : (E0 == 0) = true := by simp [he0]
          have f1 : (E1 == 0) = false := by simp [he1]
          have Q0 := Lib.hid (show m1.ag.l = b.ag.l from (congrArg Bl.ag Hm1.out).trans (R0.out he0))
          clear he0 he1
          replace BB := Lib.hid (BB.out.alloc (.cells #[.int .i64 x.a, .int .i64 x.b] 56))
          replace X := Lib.hid (X.out.alloc (.cells #[.int .i64 x.a, .int .i64 x.b] 56))
          replace X1b := Lib.hid (X1b.out.alloc (.cells #[.int .i64 x.a, .int .i64 x.b] 56))
          replace X3b := Lib.hid (X3b.out.alloc (.cells #[.int .i64 x.a, .int .i64 x.b] 56))
          replace SW := Lib.hid (SW.out.alloc (.cells #[.int .i64 x.a, .int .i64 x.b] 56))
          replace HB := Lib.hid (HB.out.alloc (.cells #[.int .i64 x.a, .int .i64 x.b] 56))
          replace Nm1 := Lib.hid (Nm1.out.alloc (.cells #[.int .i64 x.a, .int .i64 x.b] 56))
          replace Nm3 := Lib.hid (Nm3.out.alloc (.cells #[.int .i64 x.a, .int .i64 x.b] 56))
          replace E := Lib.hid (ext_alloc E.out (.cells #[.int .i64 x.a, .int .i64 x.b] 56))
          have WX := Lib.hid (Blk.newH wr [.int .i64 x.a, .int .i64 x.b] 56 (wr.heap.size) (by first | rfl | simp))
          have c0 := X1b.out.c 0 _ rfl
          have c1 := X1b.out.c 1 _ rfl
          have c2 := X1b.out.c 2 _ rfl
          have c3 := X1b.out.c 3 _ rfl
          have c4 := WX.out.c 0 _ rfl
          have c5 := WX.out.c 1 _ rfl
          go_wp2_with fail
          refine (same32_at (x := m1) (b := b) (f := x.a) (t := x.b) (m := mi) _ rfl (by rw [Q0.out]) BB.out HB.out Nm1.out).mono ?_
          rintro e u1 ⟨rfl, B⟩
          clear c0 c1 c2 c3 c4 c5
          replace BB := Lib.hid (BB.out.ext B)
          replace X := Lib.hid (X.out.ext B)
          replace X1b := Lib.hid (X1b.out.ext B)
          replace X3b := Lib.hid (X3b.out.ext B)
          replace SW := Lib.hid (SW.out.ext B)
          replace HB := Lib.hid (HB.out.ext B)
          replace Nm1 := Lib.hid (Nm1.out.ext B)
          replace Nm3 := Lib.hid (Nm3.out.ext B)
          replace E := Lib.hid (ext_trans E.out B)
          replace WX := Lib.hid (WX.out.ext B)
          clear B
          go_wp2_with fail
          go_roundw
          case rel => exact ⟨k + 1, by omega, by go_num, BB.out, X.out, X1b.out, X3b.out, SW.out, HB.out, Nm1.out, Nm3.out, E.out⟩
          case measure => simp [intOf]; omega
      · by_cases he1 : E1 = 0
        · have f0 : (E0 == 0) = false := by simp [he0]
          have f1 : (E1 == 0) = true := by simp [he1]
          have Q1 := Lib.hid (show m3.ag.l = b.ag.l from (congrArg Bl.ag Hm3.out).trans (R1.out he1))
          clear he0 he1
          replace BB := Lib.hid (BB.out.alloc (.cells #[.int .i64 x.a, .int .i64 x.b] 56))
          replace X := Lib.hid (X.out.alloc (.cells #[.int .i64 x.a, .int .i64 x.b] 56))
          replace X1b := Lib.hid (X1b.out.alloc (.cells #[.int .i64 x.a, .int .i64 x.b] 56))
          replace X3b := Lib.hid (X3b.out.alloc (.cells #[.int .i64 x.a, .int .i64 x.b] 56))
          replace SW := Lib.hid (SW.out.alloc (.cells #[.int .i64 x.a, .int .i64 x.b] 56))
          replace HB := Lib.hid (HB.out.alloc (.cells #[.int .i64 x.a, .int .i64 x.b] 56))
          replace Nm1 := Lib.hid (Nm1.out.alloc (.cells #[.int .i64 x.a, .int .i64 x.b] 56))
          replace Nm3 := Lib.hid (Nm3.out.alloc (.cells #[.int .i64 x.a, .int .i64 x.b] 56))
          replace E := Lib.hid (ext_alloc E.out (.cells #[.int .i64 x.a, .int .i64 x.b] 56))
          have WX := Lib.hid (Blk.newH wr [.int .i64 x.a, .int .i64 x.b] 56 (wr.heap.size) (by first | rfl | simp))
          have c0 := X3b.out.c 0 _ rfl
          have c1 := X3b.out.c 1 _ rfl
          have c2 := X3b.out.c 2 _ rfl
          have c3 := X3b.out.c 3 _ rfl
          have c4 := WX.out.c 0 _ rfl
          have c5 := WX.out.c 1 _ rfl
          go_wp2_with fail
          refine (same32_at (x := m3) (b := b) (f := x.a) (t := x.b) (m := mi) _ rfl (by rw [Q1.out]) BB.out HB.out Nm3.out).mono ?_
          rintro e u1 ⟨rfl, B⟩
          clear c0 c1 c2 c3 c4 c5
          replace BB := Lib.hid (BB.out.ext B)
          replace X := Lib.hid (X.out.ext B)
          replace X1b := Lib.hid (X1b.out.ext B)
          replace X3b := Lib.hid (X3b.out.ext B)
          replace SW := Lib.hid (SW.out.ext B)
          replace HB := Lib.hid (HB.out.ext B)
          replace Nm1 := Lib.hid (Nm1.out.ext B)
          replace Nm3 := Lib.hid (Nm3.out.ext B)
          replace E := Lib.hid (ext_trans E.out B)
          replace WX := Lib.hid (WX.out.ext B)
          clear B
          go_wp2_with fail
          go_roundw
          case rel => exact ⟨k + 1, by omega, by go_num, BB.out, X.out, X1b.out, X3b.out, SW.out, HB.out, Nm1.out, Nm3.out, E.out⟩
          case measure => simp [intOf]; omega
        · have f0 : (E0 == 0) = false := by simp [he0]
          have f1 : (E1 == 0) = false := by simp [he1]
          clear he0 he1
          replace BB := Lib.hid (BB.out.alloc (.cells #[.int .i64 x.a, .int .i64 x.b] 56))
          replace X := Lib.hid (X.out.alloc (.cells #[.int .i64 x.a, .int .i64 x.b] 56))
          replace X1b := Lib.hid (X1b.out.alloc (.cells #[.int .i64 x.a, .int .i64 x.b] 56))
          replace X3b := Lib.hid (X3b.out.alloc (.cells #[.int .i64 x.a, .int .i64 x.b] 56))
          replace SW := Lib.hid (SW.out.alloc (.cells #[.int .i64 x.a, .int .i64 x.b] 56))
          replace HB := Lib.hid (HB.out.alloc (.cells #[.int .i64 x.a, .int .i64 x.b] 56))
          replace Nm1 := Lib.hid (Nm1.out.alloc (.cells #[.int .i64 x.a, .int .i64 x.b] 56))
          replace Nm3 := Lib.hid (Nm3.out.alloc (.cells #[.int .i64 x.a, .int .i64 x.b] 56))
          replace E := Lib.hid (ext_alloc E.out (.cells #[.int .i64 x.a, .int .i64 x.b] 56))
          have WX := Lib.hid (Blk.newH wr [.int .i64 x.a, .int .i64 x.b] 56 (wr.heap.size) (by first | rfl | simp))
          go_wp2_with fail
          go_roundw
          case rel => exact ⟨k + 1, by omega, by go_num, BB.out, X.out, X1b.out, X3b.out, SW.out, HB.out, Nm1.out, Nm3.out, E.out⟩
          case measure => simp [intOf]; omega
    · have hge : ¬ (k : Int) < 2 := by omega
      clear X1b X3b SW Nm1 Nm3
      have c0 := BB.out.c 0 _ rfl
      have c1 := BB.out.c 1 _ rfl
      have c2 := BB.out.c 2 _ rfl
      have c3 := BB.out.c 3 _ rfl
      go_wp2_with fail
      refine (accept_at (b := b) (no := no) X2 A2 E2 HX2.out HA2.out HE2.out HB.out HLN.out).mono ?_
      rintro e u1 ⟨m5, rfl, hm, hk, B, -⟩
      clear c0 c1 c2 c3
      replace BB := Lib.hid (BB.out.ext B)
      replace X := Lib.hid (X.out.ext B)
      replace HB := Lib.hid (HB.out.ext B)
      replace E := Lib.hid (ext_trans E.out B)
      clear B
      have Hm5 := Lib.hid hm
      clear hm
      have Nm5 := Lib.hid hk
      clear hk
      replace BB := Lib.hid (BB.out.alloc (.cells #[.int .i64 m5.own, .int .i64 m5.ot, .slice m5.ag.A m5.ag.l.length m5.ag.c, .slice m5.op.A m5.op.l.length m5.op.c] 24))
      replace X := Lib.hid (X.out.alloc (.cells #[.int .i64 m5.own, .int .i64 m5.ot, .slice m5.ag.A m5.ag.l.length m5.ag.c, .slice m5.op.A m5.op.l.length m5.op.c] 24))
      replace HB := Lib.hid (HB.out.alloc (.cells #[.int .i64 m5.own, .int .i64 m5.ot, .slice m5.ag.A m5.ag.l.length m5.ag.c, .slice m5.op.A m5.op.l.length m5.op.c] 24))
      replace E := Lib.hid (ext_alloc E.out (.cells #[.int .i64 m5.own, .int .i64 m5.ot, .slice m5.ag.A m5.ag.l.length m5.ag.c, .slice m5.op.A m5.op.l.length m5.op.c] 24))
      replace Nm5 := Lib.hid (Nm5.out.alloc (.cells #[.int .i64 m5.own, .int .i64 m5.ot, .slice m5.ag.A m5.ag.l.length m5.ag.c, .slice m5.op.A m5.op.l.length m5.op.c] 24))
      have X5b := Lib.hid (Blk.newH u1 [.int .i64 m5.own, .int .i64 m5.ot, .slice m5.ag.A m5.ag.l.length m5.ag.c, .slice m5.op.A m5.op.l.length m5.op.c] 24 (u1.heap.size) (by first | rfl | simp))
      replace BB := Lib.hid (BB.out.alloc (.cells #[.int .i64 A2.no, .int .i64 A2.f, .int .i64 A2.t, .int .i64 A2.m, .int .i64 A2.r] 26))
      replace X := Lib.hid (X.out.alloc (.cells #[.int .i64 A2.no, .int .i64 A2.f, .int .i64 A2.t, .int .i64 A2.m, .int .i64 A2.r] 26))
      replace HB := Lib.hid (HB.out.alloc (.cells #[.int .i64 A2.no, .int .i64 A2.f, .int .i64 A2.t, .int .i64 A2.m, .int .i64 A2.r] 26))
      replace E := Lib.hid (ext_alloc E.out (.cells #[.int .i64 A2.no, .int .i64 A2.f, .int .i64 A2.t, .int .i64 A2.m, .int .i64 A2.r] 26))
      replace Nm5 := Lib.hid (Nm5.out.alloc (.cells #[.int .i64 A2.no, .int .i64 A2.f, .int .i64 A2.t, .int .i64 A2.m, .int .i64 A2.r] 26))
      replace X5b := Lib.hid (X5b.out.alloc (.cells #[.int .i64 A2.no, .int .i64 A2.f, .int .i64 A2.t, .int .i64 A2.m, .int .i64 A2.r] 26))
      have Y5 := Lib.hid (Blk.newH (u1.alloc (.cells #[.int .i64 m5.own, .int .i64 m5.ot, .slice m5.ag.A m5.ag.l.length m5.ag.c, .slice m5.op.A m5.op.l.length m5.op.c] 24)) [.int .i64 A2.no, .int .i64 A2.f, .int .i64 A2.t, .int .i64 A2.m, .int .i64 A2.r] 26 (u1.heap.size + 1) (by first | rfl | simp))
      have c0 := BB.out.c 0 _ rfl
      have c1 := BB.out.c 1 _ rfl
      have c2 := BB.out.c 2 _ rfl
      have c3 := BB.out.c 3 _ rfl
      have c4 := X.out.c 0 _ rfl
      have c5 := X.out.c 1 _ rfl
      have c6 := X.out.c 2 _ rfl
      have c7 := X.out.c 3 _ rfl
      have c8 := X.out.c 4 _ rfl
      go_wp2_with fail
      refine (confirm_at (b := b) (a := a) X3 E3 HX3.out HE3.out HB.out HLN.out).mono ?_
      rintro e u2 ⟨m6, rfl, hm, hk, B, -⟩
      clear c0 c1 c2 c3 c4 c5 c6 c7 c8
      replace BB := Lib.hid (BB.out.ext B)
      replace X := Lib.hid (X.out.ext B)
      replace HB := Lib.hid (HB.out.ext B)
      replace E := Lib.hid (ext_trans E.out B)
      replace Nm5 := Lib.hid (Nm5.out.ext B)
      replace X5b := Lib.hid (X5b.out.ext B)
      replace Y5 := Lib.hid (Y5.out.ext B)
      clear B
      have Hm6 := Lib.hid hm
      clear hm
      have Nm6 := Lib.hid hk
      clear hk
      replace BB := Lib.hid (BB.out.alloc (.cells #[.int .i64 m6.own, .int .i64 m6.ot, .slice m6.ag.A m6.ag.l.length m6.ag.c, .slice m6.op.A m6.op.l.length m6.op.c] 24))
      replace X := Lib.hid (X.out.alloc (.cells #[.int .i64 m6.own, .int .i64 m6.ot, .slice m6.ag.A m6.ag.l.length m6.ag.c, .slice m6.op.A m6.op.l.length m6.op.c] 24))
      replace HB := Lib.hid (HB.out.alloc (.cells #[.int .i64 m6.own, .int .i64 m6.ot, .slice m6.ag.A m6.ag.l.length m6.ag.c, .slice m6.op.A m6.op.l.length m6.op.c] 24))
      replace E := Lib.hid (ext_alloc E.out (.cells #[.int .i64 m6.own, .int .i64 m6.ot, .slice m6.ag.A m6.ag.l.length m6.ag.c, .slice m6.op.A m6.op.l.length m6.op.c] 24))
      replace Nm5 := Lib.hid (Nm5.out.alloc (.cells #[.int .i64 m6.own, .int .i64 m6.ot, .slice m6.ag.A m6.ag.l.length m6.ag.c, .slice m6.op.A m6.op.l.length m6.op.c] 24))
      replace X5b := Lib.hid (X5b.out.alloc (.cells #[.int .i64 m6.own, .int .i64 m6.ot, .slice m6.ag.A m6.ag.l.length m6.ag.c, .slice m6.op.A m6.op.l.length m6.op.c] 24))
      replace Y5 := Lib.hid (Y5.out.alloc (.cells #[.int .i64 m6.own, .int .i64 m6.ot, .slice m6.ag.A m6.ag.l.length m6.ag.c, .slice m6.op.A m6.op.l.length m6.op.c] 24))
      replace Nm6 := Lib.hid (Nm6.out.alloc (.cells #[.int .i64 m6.own, .int .i64 m6.ot, .slice m6.ag.A m6.ag.l.length m6.ag.c, .slice m6.op.A m6.op.l.length m6.op.c] 24))
      have X6b := Lib.hid (Blk.newH u2 [.int .i64 m6.own, .int .i64 m6.ot, .slice m6.ag.A m6.ag.l.length m6.ag.c, .slice m6.op.A m6.op.l.length m6.op.c] 24 (u2.heap.size) (by first | rfl | simp))
      by_cases he2 : E2 = 0
      rotate_left
      · have f2 : (E2 == 0) = false := by simp [he2]
        clear he2
        by_cases he3 : E3 = 0
        rotate_left
        · have f3 : (E3 != 0) = true := by simp [he3]
          clear he3
          go_wp2_with fail
          go_ret
          exact ⟨rfl, E.out⟩
        have f3 : (E3 != 0) = false := by simp [he3]
        have HR3 := Lib.hid (R3.out he3)
        clear he3
        have c0 := X6b.out.c 0 _ rfl
        have c1 := X6b.out.c 1 _ rfl
        have c2 := X6b.out.c 2 _ rfl
        have c3 := X6b.out.c 3 _ rfl
        have c4 := X.out.c 1 _ rfl
        have c5 := X.out.c 2 _ rfl
        have c6 := X.out.c 3 _ rfl
        go_wp2_with fail
        refine (same32_at (x := m6) (b := b) (f := a.t) (t := a.f) (m := mi) _ rfl (by rw [show m6.ag.l = X3.ag from congrArg Bl.ag Hm6.out]; exact HR3.out.1) BB.out HB.out Nm6.out).mono ?_
        rintro e u3 ⟨rfl, B⟩
        clear c0 c1 c2 c3 c4 c5 c6
        replace BB := Lib.hid (BB.out.ext B)
        replace X := Lib.hid (X.out.ext B)
        replace HB := Lib.hid (HB.out.ext B)
        replace E := Lib.hid (ext_trans E.out B)
        replace Nm5 := Lib.hid (Nm5.out.ext B)
        replace X5b := Lib.hid (X5b.out.ext B)
        replace Y5 := Lib.hid (Y5.out.ext B)
        replace Nm6 := Lib.hid (Nm6.out.ext B)
        replace X6b := Lib.hid (X6b.out.ext B)
        clear B
        by_cases hma : a.m ≤ mi
        · have f4 : decide (a.m ≤ mi) = true := by simpa using hma
          have f5 : decide (mi ≥ a.m) = true := by simpa using hma
          clear hma
          have x0 := X.out.c 0 _ rfl
          have x1 := X.out.c 1 _ rfl
          have x2 := X.out.c 2 _ rfl
          have x3 := X.out.c 3 _ rfl
          have x4 := X.out.c 4 _ rfl
          have xf := X.out.f
          have xl := X.out.lt
          go_wp2_with fail
          go_ret
          exact ⟨rfl, E.out⟩
        · have f4 : decide (a.m ≤ mi) = false := by simpa using hma
          have f5 : decide (mi ≥ a.m) = false := by simpa using hma
          have HMA := Lib.hid (show mi < a.m by omega)
          clear hma
          have c0 := X6b.out.c 0 _ rfl
          have c1 := X6b.out.c 1 _ rfl
          have c2 := X6b.out.c 2 _ rfl
          have c3 := X6b.out.c 3 _ rfl
          have c4 := X.out.c 1 _ rfl
          have c5 := X.out.c 2 _ rfl
          have c6 := X.out.c 3 _ rfl
          go_wp2_with fail
          refine (same32_at (x := m6) (b := b) (f := a.f) (t := a.t) (m := mi) _ rfl (by rw [show m6.ag.l = X3.ag from congrArg Bl.ag Hm6.out]; exact HR3.out.2 HMA.out) BB.out HB.out Nm6.out).mono ?_
          rintro e u4 ⟨rfl, B⟩
          clear c0 c1 c2 c3 c4 c5 c6
          replace BB := Lib.hid (BB.out.ext B)
          replace X := Lib.hid (X.out.ext B)
          replace HB := Lib.hid (HB.out.ext B)
          replace E := Lib.hid (ext_trans E.out B)
          replace Nm5 := Lib.hid (Nm5.out.ext B)
          replace X5b := Lib.hid (X5b.out.ext B)
          replace Y5 := Lib.hid (Y5.out.ext B)
          replace Nm6 := Lib.hid (Nm6.out.ext B)
          replace X6b := Lib.hid (X6b.out.ext B)
          clear B
          go_wp2_with fail
          go_ret
          exact ⟨rfl, E.out⟩
      have f2 : (E2 == 0) = true := by simp [he2]
      have HR2 := Lib.hid (R2.out he2)
      clear he2
      have c0 := X5b.out.c 0 _ rfl
      have c1 := X5b.out.c 1 _ rfl
      have c2 := X5b.out.c 2 _ rfl
      have c3 := X5b.out.c 3 _ rfl
      have c4 := Y5.out.c 1 _ rfl
      have c5 := Y5.out.c 2 _ rfl
      have c6 := Y5.out.c 3 _ rfl
      go_wp2_with fail
      refine (same32_at (x := m5) (b := b) (f := A2.t) (t := A2.f) (m := mi) _ rfl (by rw [show m5.ag.l = X2.ag from congrArg Bl.ag Hm5.out]; exact HR2.out.1) BB.out HB.out Nm5.out).mono ?_
      rintro e u3 ⟨rfl, B⟩
      clear c0 c1 c2 c3 c4 c5 c6
      replace BB := Lib.hid (BB.out.ext B)
      replace X := Lib.hid (X.out.ext B)
      replace HB := Lib.hid (HB.out.ext B)
      replace E := Lib.hid (ext_trans E.out B)
      replace Nm5 := Lib.hid (Nm5.out.ext B)
      replace X5b := Lib.hid (X5b.out.ext B)
      replace Y5 := Lib.hid (Y5.out.ext B)
      replace Nm6 := Lib.hid (Nm6.out.ext B)
      replace X6b := Lib.hid (X6b.out.ext B)
      clear B
      by_cases hma : mi < A2.m
      · have g4 : decide (mi < A2.m) = true := by simpa using hma
        have HMB := Lib.hid hma
        clear hma
        have c0 := X5b.out.c 0 _ rfl
        have c1 := X5b.out.c 1 _ rfl
        have c2 := X5b.out.c 2 _ rfl
        have c3 := X5b.out.c 3 _ rfl
        have c4 := Y5.out.c 1 _ rfl
        have c5 := Y5.out.c 2 _ rfl
        have c6 := Y5.out.c 3 _ rfl
        go_wp2_with fail
        refine (same32_at (x := m5) (b := b) (f := A2.f) (t := A2.t) (m := mi) _ rfl (by rw [show m5.ag.l = X2.ag from congrArg Bl.ag Hm5.out]; exact HR2.out.2 HMB.out) BB.out HB.out Nm5.out).mono ?_
        rintro e u4 ⟨rfl, B⟩
        clear c0 c1 c2 c3 c4 c5 c6
        replace BB := Lib.hid (BB.out.ext B)
        replace X := Lib.hid (X.out.ext B)
        replace HB := Lib.hid (HB.out.ext B)
        replace E := Lib.hid (ext_trans E.out B)
        replace Nm5 := Lib.hid (Nm5.out.ext B)
        replace X5b := Lib.hid (X5b.out.ext B)
        replace Y5 := Lib.hid (Y5.out.ext B)
        replace Nm6 := Lib.hid (Nm6.out.ext B)
        replace X6b := Lib.hid (X6b.out.ext B)
        clear B
        by_cases he3 : E3 = 0
        rotate_left
        · have f3 : (E3 != 0) = true := by simp [he3]
          clear he3
          go_wp2_with fail
          go_ret
          exact ⟨rfl, E.out⟩
        have f3 : (E3 != 0) = false := by simp [he3]
        have HR3 := Lib.hid (R3.out he3)
        clear he3
        have c0 := X6b.out.c 0 _ rfl
        have c1 := X6b.out.c 1 _ rfl
        have c2 := X6b.out.c 2 _ rfl
        have c3 := X6b.out.c 3 _ rfl
        have c4 := X.out.c 1 _ rfl
        have c5 := X.out.c 2 _ rfl
        have c6 := X.out.c 3 _ rfl
        go_wp2_with fail
        refine (same32_at (x := m6) (b := b) (f := a.t) (t := a.f) (m := mi) _ rfl (by rw [show m6.ag.l = X3.ag from congrArg Bl.ag Hm6.out]; exact HR3.out.1) BB.out HB.out Nm6.out).mono ?_
        rintro e u5 ⟨rfl, B⟩
        clear c0 c1 c2 c3 c4 c5 c6
        replace BB := Lib.hid (BB.out.ext B)
        replace X := Lib.hid (X.out.ext B)
        replace HB := Lib.hid (HB.out.ext B)
        replace E := Lib.hid (ext_trans E.out B)
        replace Nm5 := Lib.hid (Nm5.out.ext B)
        replace X5b := Lib.hid (X5b.out.ext B)
        replace Y5 := Lib.hid (Y5.out.ext B)
        replace Nm6 := Lib.hid (Nm6.out.ext B)
        replace X6b := Lib.hid (X6b.out.ext B)
        clear B
        by_cases hma : a.m ≤ mi
        · have f4 : decide (a.m ≤ mi) = true := by simpa using hma
          have f5 : decide (mi ≥ a.m) = true := by simpa using hma
          clear hma
          have x0 := X.out.c 0 _ rfl
          have x1 := X.out.c 1 _ rfl
          have x2 := X.out.c 2 _ rfl
          have x3 := X.out.c 3 _ rfl
          have x4 := X.out.c 4 _ rfl
          have xf := X.out.f
          have xl := X.out.lt
          go_wp2_with fail
          go_ret
          exact ⟨rfl, E.out⟩
        · have f4 : decide (a.m ≤ mi) = false := by simpa using hma
          have f5 : decide (mi ≥ a.m) = false := by simpa using hma
          have HMA := Lib.hid (show mi < a.m by omega)
          clear hma
          have c0 := X6b.out.c 0 _ rfl
          have c1 := X6b.out.c 1 _ rfl
          have c2 := X6b.out.c 2 _ rfl
          have c3 := X6b.out.c 3 _ rfl
          have c4 := X.out.c 1 _ rfl
          have c5 := X.out.c 2 _ rfl
          have c6 := X.out.c 3 _ rfl
          go_wp2_with fail
          refine (same32_at (x := m6) (b := b) (f := a.f) (t := a.t) (m := mi) _ rfl (by rw [show m6.ag.l = X3.ag from congrArg Bl.ag Hm6.out]; exact HR3.out.2 HMA.out) BB.out HB.out Nm6.out).mono ?_
          rintro e u6 ⟨rfl, B⟩
          clear c0 c1 c2 c3 c4 c5 c6
          replace BB := Lib.hid (BB.out.ext B)
          replace X := Lib.hid (X.out.ext B)
          replace HB := Lib.hid (HB.out.ext B)
          replace E := Lib.hid (ext_trans E.out B)
          replace Nm5 := Lib.hid (Nm5.out.ext B)
          replace X5b := Lib.hid (X5b.out.ext B)
          replace Y5 := Lib.hid (Y5.out.ext B)
          replace Nm6 := Lib.hid (Nm6.out.ext B)
          replace X6b := Lib.hid (X6b.out.ext B)
          clear B
          go_wp2_with fail
          go_ret
          exact ⟨rfl, E.out⟩
      · have g4 : decide (mi < A2.m) = false := by simpa using hma
        clear hma
        have y3 := Y5.out.c 3 _ rfl
        by_cases he3 : E3 = 0
        rotate_left
        · have f3 : (E3 != 0) = true := by simp [he3]
          clear he3
          go_wp2_with fail
          go_ret
          exact ⟨rfl, E.out⟩
        have f3 : (E3 != 0) = false := by simp [he3]
        have HR3 := Lib.hid (R3.out he3)
        clear he3
        have c0 := X6b.out.c 0 _ rfl
        have c1 := X6b.out.c 1 _ rfl
        have c2 := X6b.out.c 2 _ rfl
        have c3 := X6b.out.c 3 _ rfl
        have c4 := X.out.c 1 _ rfl
        have c5 := X.out.c 2 _ rfl
        have c6 := X.out.c 3 _ rfl
        go_wp2_with fail
        refine (same32_at (x := m6) (b := b) (f := a.t) (t := a.f) (m := mi) _ rfl (by rw [show m6.ag.l = X3.ag from congrArg Bl.ag Hm6.out]; exact HR3.out.1) BB.out HB.out Nm6.out).mono ?_
        rintro e u4 ⟨rfl, B⟩
        clear c0 c1 c2 c3 c4 c5 c6
        replace BB := Lib.hid (BB.out.ext B)
        replace X := Lib.hid (X.out.ext B)
        replace HB := Lib.hid (HB.out.ext B)
        replace E := Lib.hid (ext_trans E.out B)
        replace Nm5 := Lib.hid (Nm5.out.ext B)
        replace X5b := Lib.hid (X5b.out.ext B)
        replace Y5 := Lib.hid (Y5.out.ext B)
        replace Nm6 := Lib.hid (Nm6.out.ext B)
        replace X6b := Lib.hid (X6b.out.ext B)
        clear B
        by_cases hma : a.m ≤ mi
        · have f4 : decide (a.m ≤ mi) = true := by simpa using hma
          have f5 : decide (mi ≥ a.m) = true := by simpa using hma
          clear hma
          have x0 := X.out.c 0 _ rfl
          have x1 := X.out.c 1 _ rfl
          have x2 := X.out.c 2 _ rfl
          have x3 := X.out.c 3 _ rfl
          have x4 := X.out.c 4 _ rfl
          have xf := X.out.f
          have xl := X.out.lt
          go_wp2_with fail
          go_ret
          exact ⟨rfl, E.out⟩
        · have f4 : decide (a.m ≤ mi) = false := by simpa using hma
          have f5 : decide (mi ≥ a.m) = false := by simpa using hma
          have HMA := Lib.hid (show mi < a.m by omega)
          clear hma
          have c0 := X6b.out.c 0 _ rfl
          have c1 := X6b.out.c 1 _ rfl
          have c2 := X6b.out.c 2 _ rfl
          have c3 := X6b.out.c 3 _ rfl
          have c4 := X.out.c 1 _ rfl
          have c5 := X.out.c 2 _ rfl
          have c6 := X.out.c 3 _ rfl
          go_wp2_with fail
          refine (same32_at (x := m6) (b := b) (f := a.f) (t := a.t) (m := mi) _ rfl (by rw [show m6.ag.l = X3.ag from congrArg Bl.ag Hm6.out]; exact HR3.out.2 HMA.out) BB.out HB.out Nm6.out).mono ?_
          rintro e u5 ⟨rfl, B⟩
          clear c0 c1 c2 c3 c4 c5 c6
          replace BB := Lib.hid (BB.out.ext B)
          replace X := Lib.hid (X.out.ext B)
          replace HB := Lib.hid (HB.out.ext B)
          replace E := Lib.hid (ext_trans E.out B)
          replace Nm5 := Lib.hid (Nm5.out.ext B)
          replace X5b := Lib.hid (X5b.out.ext B)
          replace Y5 := Lib.hid (Y5.out.ext B)
          replace Nm6 := Lib.hid (Nm6.out.ext B)
          replace X6b := Lib.hid (X6b.out.ext B)
          clear B
          go_wp2_with fail
          go_ret
          exact ⟨rfl, E.out⟩
end Go.Proofs.Ytmnbeikhjbjpiaa
