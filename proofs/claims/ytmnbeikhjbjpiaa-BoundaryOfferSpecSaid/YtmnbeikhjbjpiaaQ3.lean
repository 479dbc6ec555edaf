/- BoundaryOfferSpec, walked. -/
import Derived.Test.YtmnbeikhjbjpiaaQ0
set_option linter.unusedSimpArgs false
set_option linter.unusedVariables false
namespace Go.Proofs.Ytmnbeikhjbjpiaa
open Go.RowKit
set_option maxHeartbeats 3200000 in
set_option maxRecDepth 100000 in
theorem law3 (b : Bd) (a : Ag) (w : World) (hb : BOk w b) : Calls Try.prog 3 #[b.v, a.v] w (Tru w) := by
  obtain ⟨fw, hfw⟩ : ∃ v, fewB b.bl = v := ⟨_, rfl⟩
  have HF := Lib.hid hfw
  clear hfw
  obtain ⟨X0, hX0⟩ : ∃ x, b.bl.offB a.f a.t a.m a.r = x := ⟨_, rfl⟩
  obtain ⟨A0, hA0⟩ : ∃ x, b.bl.offX a.f a.t a.m a.r = x := ⟨_, rfl⟩
  obtain ⟨E0, hE0⟩ : ∃ x, b.bl.offE a.f a.t a.m a.r = x := ⟨_, rfl⟩
  obtain ⟨X1, hX1⟩ : ∃ x, b.bl.heaB a = x := ⟨_, rfl⟩
  obtain ⟨E1, hE1⟩ : ∃ x, b.bl.heaE a = x := ⟨_, rfl⟩
  have HX0 := Lib.hid hX0
  have HA0 := Lib.hid hA0
  have HE0 := Lib.hid hE0
  have HX1 := Lib.hid hX1
  have HE1 := Lib.hid hE1
  clear hX0 hA0 hE0 hX1 hE1
  cases fw
  · have E := Lib.hid (ext_refl w)
    have HB := Lib.hid (hb)
    clear hb
    replace E := Lib.hid (ext_alloc E.out (.cells #[.int .i64 b.own, .int .i64 b.ot, .slice b.ag.A b.ag.l.length b.ag.c, .slice b.op.A b.op.l.length b.op.c] 24))
    replace HB := Lib.hid (HB.out.alloc (.cells #[.int .i64 b.own, .int .i64 b.ot, .slice b.ag.A b.ag.l.length b.ag.c, .slice b.op.A b.op.l.length b.op.c] 24))
    have BB := Lib.hid (Blk.newH w [.int .i64 b.own, .int .i64 b.ot, .slice b.ag.A b.ag.l.length b.ag.c, .slice b.op.A b.op.l.length b.op.c] 24 (w.heap.size) (by first | rfl | simp))
    replace E := Lib.hid (ext_alloc E.out (.cells #[.int .i64 a.no, .int .i64 a.f, .int .i64 a.t, .int .i64 a.m, .int .i64 a.r] 26))
    replace HB := Lib.hid (HB.out.alloc (.cells #[.int .i64 a.no, .int .i64 a.f, .int .i64 a.t, .int .i64 a.m, .int .i64 a.r] 26))
    replace BB := Lib.hid (BB.out.alloc (.cells #[.int .i64 a.no, .int .i64 a.f, .int .i64 a.t, .int .i64 a.m, .int .i64 a.r] 26))
    have X := Lib.hid (Blk.newH (w.alloc (.cells #[.int .i64 b.own, .int .i64 b.ot, .slice b.ag.A b.ag.l.length b.ag.c, .slice b.op.A b.op.l.length b.op.c] 24)) [.int .i64 a.no, .int .i64 a.f, .int .i64 a.t, .int .i64 a.m, .int .i64 a.r] 26 (w.heap.size + 1) (by first | rfl | simp))
    go_enter Try.func3, Try.ntmps3
    go_wp2_with fail
    refine (sane_any _).mono ?_
    rintro e v1 ⟨rfl, B⟩
    replace E := Lib.hid (ext_trans E.out B)
    replace HB := Lib.hid (HB.out.ext B)
    replace BB := Lib.hid (BB.out.ext B)
    replace X := Lib.hid (X.out.ext B)
    clear B
    have c0 := BB.out.c 0 _ rfl
    have c1 := BB.out.c 1 _ rfl
    have c2 := BB.out.c 2 _ rfl
    have c3 := BB.out.c 3 _ rfl
    go_wp2_with fail
    refine (few_at false HF.out).mono ?_
    rintro e v2 ⟨rfl, B⟩
    clear c0 c1 c2 c3
    replace E := Lib.hid (ext_trans E.out B)
    replace HB := Lib.hid (HB.out.ext B)
    replace BB := Lib.hid (BB.out.ext B)
    replace X := Lib.hid (X.out.ext B)
    clear B
    go_wp2_with fail
    go_ret
    exact ⟨rfl, E.out⟩
  have E := Lib.hid (ext_refl w)
  have HB := Lib.hid (hb)
  clear hb
  replace E := Lib.hid (ext_alloc E.out (.cells #[.int .i64 b.own, .int .i64 b.ot, .slice b.ag.A b.ag.l.length b.ag.c, .slice b.op.A b.op.l.length b.op.c] 24))
  replace HB := Lib.hid (HB.out.alloc (.cells #[.int .i64 b.own, .int .i64 b.ot, .slice b.ag.A b.ag.l.length b.ag.c, .slice b.op.A b.op.l.length b.op.c] 24))
  have BB := Lib.hid (Blk.newH w [.int .i64 b.own, .int .i64 b.ot, .slice b.ag.A b.ag.l.length b.ag.c, .slice b.op.A b.op.l.length b.op.c] 24 (w.heap.size) (by first | rfl | simp))
  replace E := Lib.hid (ext_alloc E.out (.cells #[.int .i64 a.no, .int .i64 a.f, .int .i64 a.t, .int .i64 a.m, .int .i64 a.r] 26))
  replace HB := Lib.hid (HB.out.alloc (.cells #[.int .i64 a.no, .int .i64 a.f, .int .i64 a.t, .int .i64 a.m, .int .i64 a.r] 26))
  replace BB := Lib.hid (BB.out.alloc (.cells #[.int .i64 a.no, .int .i64 a.f, .int .i64 a.t, .int .i64 a.m, .int .i64 a.r] 26))
  have X := Lib.hid (Blk.newH (w.alloc (.cells #[.int .i64 b.own, .int .i64 b.ot, .slice b.ag.A b.ag.l.length b.ag.c, .slice b.op.A b.op.l.length b.op.c] 24)) [.int .i64 a.no, .int .i64 a.f, .int .i64 a.t, .int .i64 a.m, .int .i64 a.r] 26 (w.heap.size + 1) (by first | rfl | simp))
  have HLS := Lib.hid (LenS.few HF.out)
  have HLN := Lib.hid (HLS.out.lens (by decide))
  have L0 := Lib.hid (show LenS 31 X0 by rw [← HX0.out]; exact HLS.out.offB _ _ _ _)
  have L1 := Lib.hid (show LenS 31 X1 by rw [← HX1.out]; exact HLS.out.heaB _)
  go_enter Try.func3, Try.ntmps3
  go_wp2_with fail
  refine (sane_any _).mono ?_
  rintro e v1 ⟨rfl, B⟩
  replace E := Lib.hid (ext_trans E.out B)
  replace HB := Lib.hid (HB.out.ext B)
  replace BB := Lib.hid (BB.out.ext B)
  replace X := Lib.hid (X.out.ext B)
  clear B
  have c0 := BB.out.c 0 _ rfl
  have c1 := BB.out.c 1 _ rfl
  have c2 := BB.out.c 2 _ rfl
  have c3 := BB.out.c 3 _ rfl
  go_wp2_with fail
  refine (few_at true HF.out).mono ?_
  rintro e v2 ⟨rfl, B⟩
  clear c0 c1 c2 c3
  replace E := Lib.hid (ext_trans E.out B)
  replace HB := Lib.hid (HB.out.ext B)
  replace BB := Lib.hid (BB.out.ext B)
  replace X := Lib.hid (X.out.ext B)
  clear B
  have c0 := BB.out.c 0 _ rfl
  have c1 := BB.out.c 1 _ rfl
  have c2 := BB.out.c 2 _ rfl
  have c3 := BB.out.c 3 _ rfl
  have c4 := X.out.c 1 _ rfl
  have c5 := X.out.c 2 _ rfl
  have c6 := X.out.c 3 _ rfl
  have c7 := X.out.c 4 _ rfl
  go_wp2_with fail
  refine (offer_at (b := b) (f := a.f) (t := a.t) (m := a.m) (r := a.r) X0 A0 E0 HX0.out HA0.out HE0.out HB.out HLN.out).mono ?_
  rintro e v3 ⟨m1, rfl, hm, hk, B, -⟩
  clear c0 c1 c2 c3 c4 c5 c6 c7
  replace E := Lib.hid (ext_trans E.out B)
  replace HB := Lib.hid (HB.out.ext B)
  replace BB := Lib.hid (BB.out.ext B)
  replace X := Lib.hid (X.out.ext B)
  clear B
  have Hm1 := Lib.hid hm
  clear hm
  have Nm1 := Lib.hid hk
  clear hk
  replace E := Lib.hid (ext_alloc E.out (.cells #[.int .i64 m1.own, .int .i64 m1.ot, .slice m1.ag.A m1.ag.l.length m1.ag.c, .slice m1.op.A m1.op.l.length m1.op.c] 24))
  replace HB := Lib.hid (HB.out.alloc (.cells #[.int .i64 m1.own, .int .i64 m1.ot, .slice m1.ag.A m1.ag.l.length m1.ag.c, .slice m1.op.A m1.op.l.length m1.op.c] 24))
  replace BB := Lib.hid (BB.out.alloc (.cells #[.int .i64 m1.own, .int .i64 m1.ot, .slice m1.ag.A m1.ag.l.length m1.ag.c, .slice m1.op.A m1.op.l.length m1.op.c] 24))
  replace X := Lib.hid (X.out.alloc (.cells #[.int .i64 m1.own, .int .i64 m1.ot, .slice m1.ag.A m1.ag.l.length m1.ag.c, .slice m1.op.A m1.op.l.length m1.op.c] 24))
  replace Nm1 := Lib.hid (Nm1.out.alloc (.cells #[.int .i64 m1.own, .int .i64 m1.ot, .slice m1.ag.A m1.ag.l.length m1.ag.c, .slice m1.op.A m1.op.l.length m1.op.c] 24))
  have X1b := Lib.hid (Blk.newH v3 [.int .i64 m1.own, .int .i64 m1.ot, .slice m1.ag.A m1.ag.l.length m1.ag.c, .slice m1.op.A m1.op.l.length m1.op.c] 24 (v3.heap.size) (by first | rfl | simp))
  replace E := Lib.hid (ext_alloc E.out (.cells #[.int .i64 A0.no, .int .i64 A0.f, .int .i64 A0.t, .int .i64 A0.m, .int .i64 A0.r] 26))
  replace HB := Lib.hid (HB.out.alloc (.cells #[.int .i64 A0.no, .int .i64 A0.f, .int .i64 A0.t, .int .i64 A0.m, .int .i64 A0.r] 26))
  replace BB := Lib.hid (BB.out.alloc (.cells #[.int .i64 A0.no, .int .i64 A0.f, .int .i64 A0.t, .int .i64 A0.m, .int .i64 A0.r] 26))
  replace X := Lib.hid (X.out.alloc (.cells #[.int .i64 A0.no, .int .i64 A0.f, .int .i64 A0.t, .int .i64 A0.m, .int .i64 A0.r] 26))
  replace Nm1 := Lib.hid (Nm1.out.alloc (.cells #[.int .i64 A0.no, .int .i64 A0.f, .int .i64 A0.t, .int .i64 A0.m, .int .i64 A0.r] 26))
  replace X1b := Lib.hid (X1b.out.alloc (.cells #[.int .i64 A0.no, .int .i64 A0.f, .int .i64 A0.t, .int .i64 A0.m, .int .i64 A0.r] 26))
  have Y1 := Lib.hid (Blk.newH (v3.alloc (.cells #[.int .i64 m1.own, .int .i64 m1.ot, .slice m1.ag.A m1.ag.l.length m1.ag.c, .slice m1.op.A m1.op.l.length m1.op.c] 24)) [.int .i64 A0.no, .int .i64 A0.f, .int .i64 A0.t, .int .i64 A0.m, .int .i64 A0.r] 26 (v3.heap.size + 1) (by first | rfl | simp))
  have c0 := BB.out.c 0 _ rfl
  have c1 := BB.out.c 1 _ rfl
  have c2 := BB.out.c 2 _ rfl
  have c3 := BB.out.c 3 _ rfl
  have c4 := X.out.c 1 _ rfl
  have c5 := X.out.c 2 _ rfl
  have c6 := X.out.c 3 _ rfl
  have c7 := X.out.c 4 _ rfl
  go_wp2_with fail
  refine (roffer_at (b := b) (f := a.f) (t := a.t) (m := a.m) (r := a.r) X0 A0 E0 HX0.out HA0.out HE0.out HB.out HLN.out).mono ?_
  rintro e v4 ⟨m2, rfl, hm, hk, B, -⟩
  clear c0 c1 c2 c3 c4 c5 c6 c7
  replace E := Lib.hid (ext_trans E.out B)
  replace HB := Lib.hid (HB.out.ext B)
  replace BB := Lib.hid (BB.out.ext B)
  replace X := Lib.hid (X.out.ext B)
  replace Nm1 := Lib.hid (Nm1.out.ext B)
  replace X1b := Lib.hid (X1b.out.ext B)
  replace Y1 := Lib.hid (Y1.out.ext B)
  clear B
  have Hm2 := Lib.hid hm
  clear hm
  have Nm2 := Lib.hid hk
  clear hk
  replace E := Lib.hid (ext_alloc E.out (.cells #[.int .i64 m2.own, .int .i64 m2.ot, .slice m2.ag.A m2.ag.l.length m2.ag.c, .slice m2.op.A m2.op.l.length m2.op.c] 24))
  replace HB := Lib.hid (HB.out.alloc (.cells #[.int .i64 m2.own, .int .i64 m2.ot, .slice m2.ag.A m2.ag.l.length m2.ag.c, .slice m2.op.A m2.op.l.length m2.op.c] 24))
  replace BB := Lib.hid (BB.out.alloc (.cells #[.int .i64 m2.own, .int .i64 m2.ot, .slice m2.ag.A m2.ag.l.length m2.ag.c, .slice m2.op.A m2.op.l.length m2.op.c] 24))
  replace X := Lib.hid (X.out.alloc (.cells #[.int .i64 m2.own, .int .i64 m2.ot, .slice m2.ag.A m2.ag.l.length m2.ag.c, .slice m2.op.A m2.op.l.length m2.op.c] 24))
  replace Nm1 := Lib.hid (Nm1.out.alloc (.cells #[.int .i64 m2.own, .int .i64 m2.ot, .slice m2.ag.A m2.ag.l.length m2.ag.c, .slice m2.op.A m2.op.l.length m2.op.c] 24))
  replace X1b := Lib.hid (X1b.out.alloc (.cells #[.int .i64 m2.own, .int .i64 m2.ot, .slice m2.ag.A m2.ag.l.length m2.ag.c, .slice m2.op.A m2.op.l.length m2.op.c] 24))
  replace Y1 := Lib.hid (Y1.out.alloc (.cells #[.int .i64 m2.own, .int .i64 m2.ot, .slice m2.ag.A m2.ag.l.length m2.ag.c, .slice m2.op.A m2.op.l.length m2.op.c] 24))
  replace Nm2 := Lib.hid (Nm2.out.alloc (.cells #[.int .i64 m2.own, .int .i64 m2.ot, .slice m2.ag.A m2.ag.l.length m2.ag.c, .slice m2.op.A m2.op.l.length m2.op.c] 24))
  have X2b := Lib.hid (Blk.newH v4 [.int .i64 m2.own, .int .i64 m2.ot, .slice m2.ag.A m2.ag.l.length m2.ag.c, .slice m2.op.A m2.op.l.length m2.op.c] 24 (v4.heap.size) (by first | rfl | simp))
  replace E := Lib.hid (ext_alloc E.out (.cells #[.int .i64 A0.no, .int .i64 A0.f, .int .i64 A0.t, .int .i64 A0.m, .int .i64 A0.r] 26))
  replace HB := Lib.hid (HB.out.alloc (.cells #[.int .i64 A0.no, .int .i64 A0.f, .int .i64 A0.t, .int .i64 A0.m, .int .i64 A0.r] 26))
  replace BB := Lib.hid (BB.out.alloc (.cells #[.int .i64 A0.no, .int .i64 A0.f, .int .i64 A0.t, .int .i64 A0.m, .int .i64 A0.r] 26))
  replace X := Lib.hid (X.out.alloc (.cells #[.int .i64 A0.no, .int .i64 A0.f, .int .i64 A0.t, .int .i64 A0.m, .int .i64 A0.r] 26))
  replace Nm1 := Lib.hid (Nm1.out.alloc (.cells #[.int .i64 A0.no, .int .i64 A0.f, .int .i64 A0.t, .int .i64 A0.m, .int .i64 A0.r] 26))
  replace X1b := Lib.hid (X1b.out.alloc (.cells #[.int .i64 A0.no, .int .i64 A0.f, .int .i64 A0.t, .int .i64 A0.m, .int .i64 A0.r] 26))
  replace Y1 := Lib.hid (Y1.out.alloc (.cells #[.int .i64 A0.no, .int .i64 A0.f, .int .i64 A0.t, .int .i64 A0.m, .int .i64 A0.r] 26))
  replace Nm2 := Lib.hid (Nm2.out.alloc (.cells #[.int .i64 A0.no, .int .i64 A0.f, .int .i64 A0.t, .int .i64 A0.m, .int .i64 A0.r] 26))
  replace X2b := Lib.hid (X2b.out.alloc (.cells #[.int .i64 A0.no, .int .i64 A0.f, .int .i64 A0.t, .int .i64 A0.m, .int .i64 A0.r] 26))
  have Y2 := Lib.hid (Blk.newH (v4.alloc (.cells #[.int .i64 m2.own, .int .i64 m2.ot, .slice m2.ag.A m2.ag.l.length m2.ag.c, .slice m2.op.A m2.op.l.length m2.op.c] 24)) [.int .i64 A0.no, .int .i64 A0.f, .int .i64 A0.t, .int .i64 A0.m, .int .i64 A0.r] 26 (v4.heap.size + 1) (by first | rfl | simp))
  have c0 := BB.out.c 0 _ rfl
  have c1 := BB.out.c 1 _ rfl
  have c2 := BB.out.c 2 _ rfl
  have c3 := BB.out.c 3 _ rfl
  have c4 := X.out.c 0 _ rfl
  have c5 := X.out.c 1 _ rfl
  have c6 := X.out.c 2 _ rfl
  have c7 := X.out.c 3 _ rfl
  have c8 := X.out.c 4 _ rfl
  go_wp2_with fail
  refine (hear_at (b := b) (a := a) X1 E1 HX1.out HE1.out HB.out HLN.out).mono ?_
  rintro e v5 ⟨m3, rfl, hm, hk, B, -⟩
  clear c0 c1 c2 c3 c4 c5 c6 c7 c8
  replace E := Lib.hid (ext_trans E.out B)
  replace HB := Lib.hid (HB.out.ext B)
  replace BB := Lib.hid (BB.out.ext B)
  replace X := Lib.hid (X.out.ext B)
  replace Nm1 := Lib.hid (Nm1.out.ext B)
  replace X1b := Lib.hid (X1b.out.ext B)
  replace Y1 := Lib.hid (Y1.out.ext B)
  replace Nm2 := Lib.hid (Nm2.out.ext B)
  replace X2b := Lib.hid (X2b.out.ext B)
  replace Y2 := Lib.hid (Y2.out.ext B)
  clear B
  have Hm3 := Lib.hid hm
  clear hm
  have Nm3 := Lib.hid hk
  clear hk
  replace E := Lib.hid (ext_alloc E.out (.cells #[.int .i64 m3.own, .int .i64 m3.ot, .slice m3.ag.A m3.ag.l.length m3.ag.c, .slice m3.op.A m3.op.l.length m3.op.c] 24))
  replace HB := Lib.hid (HB.out.alloc (.cells #[.int .i64 m3.own, .int .i64 m3.ot, .slice m3.ag.A m3.ag.l.length m3.ag.c, .slice m3.op.A m3.op.l.length m3.op.c] 24))
  replace BB := Lib.hid (BB.out.alloc (.cells #[.int .i64 m3.own, .int .i64 m3.ot, .slice m3.ag.A m3.ag.l.length m3.ag.c, .slice m3.op.A m3.op.l.length m3.op.c] 24))
  replace X := Lib.hid (X.out.alloc (.cells #[.int .i64 m3.own, .int .i64 m3.ot, .slice m3.ag.A m3.ag.l.length m3.ag.c, .slice m3.op.A m3.op.l.length m3.op.c] 24))
  replace Nm1 := Lib.hid (Nm1.out.alloc (.cells #[.int .i64 m3.own, .int .i64 m3.ot, .slice m3.ag.A m3.ag.l.length m3.ag.c, .slice m3.op.A m3.op.l.length m3.op.c] 24))
  replace X1b := Lib.hid (X1b.out.alloc (.cells #[.int .i64 m3.own, .int .i64 m3.ot, .slice m3.ag.A m3.ag.l.length m3.ag.c, .slice m3.op.A m3.op.l.length m3.op.c] 24))
  replace Y1 := Lib.hid (Y1.out.alloc (.cells #[.int .i64 m3.own, .int .i64 m3.ot, .slice m3.ag.A m3.ag.l.length m3.ag.c, .slice m3.op.A m3.op.l.length m3.op.c] 24))
  replace Nm2 := Lib.hid (Nm2.out.alloc (.cells #[.int .i64 m3.own, .int .i64 m3.ot, .slice m3.ag.A m3.ag.l.length m3.ag.c, .slice m3.op.A m3.op.l.length m3.op.c] 24))
  replace X2b := Lib.hid (X2b.out.alloc (.cells #[.int .i64 m3.own, .int .i64 m3.ot, .slice m3.ag.A m3.ag.l.length m3.ag.c, .slice m3.op.A m3.op.l.length m3.op.c] 24))
  replace Y2 := Lib.hid (Y2.out.alloc (.cells #[.int .i64 m3.own, .int .i64 m3.ot, .slice m3.ag.A m3.ag.l.length m3.ag.c, .slice m3.op.A m3.op.l.length m3.op.c] 24))
  replace Nm3 := Lib.hid (Nm3.out.alloc (.cells #[.int .i64 m3.own, .int .i64 m3.ot, .slice m3.ag.A m3.ag.l.length m3.ag.c, .slice m3.op.A m3.op.l.length m3.op.c] 24))
  have X3b := Lib.hid (Blk.newH v5 [.int .i64 m3.own, .int .i64 m3.ot, .slice m3.ag.A m3.ag.l.length m3.ag.c, .slice m3.op.A m3.op.l.length m3.op.c] 24 (v5.heap.size) (by first | rfl | simp))
  have c0 := BB.out.c 0 _ rfl
  have c1 := BB.out.c 1 _ rfl
  have c2 := BB.out.c 2 _ rfl
  have c3 := BB.out.c 3 _ rfl
  have c4 := X.out.c 0 _ rfl
  have c5 := X.out.c 1 _ rfl
  have c6 := X.out.c 2 _ rfl
  have c7 := X.out.c 3 _ rfl
  have c8 := X.out.c 4 _ rfl
  go_wp2_with fail
  refine (rhear_at (b := b) (a := a) X1 E1 HX1.out HE1.out HB.out HLN.out).mono ?_
  rintro e v6 ⟨m4, rfl, hm, hk, B, -⟩
  clear c0 c1 c2 c3 c4 c5 c6 c7 c8
  replace E := Lib.hid (ext_trans E.out B)
  replace HB := Lib.hid (HB.out.ext B)
  replace BB := Lib.hid (BB.out.ext B)
  replace X := Lib.hid (X.out.ext B)
  replace Nm1 := Lib.hid (Nm1.out.ext B)
  replace X1b := Lib.hid (X1b.out.ext B)
  replace Y1 := Lib.hid (Y1.out.ext B)
  replace Nm2 := Lib.hid (Nm2.out.ext B)
  replace X2b := Lib.hid (X2b.out.ext B)
  replace Y2 := Lib.hid (Y2.out.ext B)
  replace Nm3 := Lib.hid (Nm3.out.ext B)
  replace X3b := Lib.hid (X3b.out.ext B)
  clear B
  have Hm4 := Lib.hid hm
  clear hm
  have Nm4 := Lib.hid hk
  clear hk
  replace E := Lib.hid (ext_alloc E.out (.cells #[.int .i64 m4.own, .int .i64 m4.ot, .slice m4.ag.A m4.ag.l.length m4.ag.c, .slice m4.op.A m4.op.l.length m4.op.c] 24))
  replace HB := Lib.hid (HB.out.alloc (.cells #[.int .i64 m4.own, .int .i64 m4.ot, .slice m4.ag.A m4.ag.l.length m4.ag.c, .slice m4.op.A m4.op.l.length m4.op.c] 24))
  replace BB := Lib.hid (BB.out.alloc (.cells #[.int .i64 m4.own, .int .i64 m4.ot, .slice m4.ag.A m4.ag.l.length m4.ag.c, .slice m4.op.A m4.op.l.length m4.op.c] 24))
  replace X := Lib.hid (X.out.alloc (.cells #[.int .i64 m4.own, .int .i64 m4.ot, .slice m4.ag.A m4.ag.l.length m4.ag.c, .slice m4.op.A m4.op.l.length m4.op.c] 24))
  replace Nm1 := Lib.hid (Nm1.out.alloc (.cells #[.int .i64 m4.own, .int .i64 m4.ot, .slice m4.ag.A m4.ag.l.length m4.ag.c, .slice m4.op.A m4.op.l.length m4.op.c] 24))
  replace X1b := Lib.hid (X1b.out.alloc (.cells #[.int .i64 m4.own, .int .i64 m4.ot, .slice m4.ag.A m4.ag.l.length m4.ag.c, .slice m4.op.A m4.op.l.length m4.op.c] 24))
  replace Y1 := Lib.hid (Y1.out.alloc (.cells #[.int .i64 m4.own, .int .i64 m4.ot, .slice m4.ag.A m4.ag.l.length m4.ag.c, .slice m4.op.A m4.op.l.length m4.op.c] 24))
  replace Nm2 := Lib.hid (Nm2.out.alloc (.cells #[.int .i64 m4.own, .int .i64 m4.ot, .slice m4.ag.A m4.ag.l.length m4.ag.c, .slice m4.op.A m4.op.l.length m4.op.c] 24))
  replace X2b := Lib.hid (X2b.out.alloc (.cells #[.int .i64 m4.own, .int .i64 m4.ot, .slice m4.ag.A m4.ag.l.length m4.ag.c, .slice m4.op.A m4.op.l.length m4.op.c] 24))
  replace Y2 := Lib.hid (Y2.out.alloc (.cells #[.int .i64 m4.own, .int .i64 m4.ot, .slice m4.ag.A m4.ag.l.length m4.ag.c, .slice m4.op.A m4.op.l.length m4.op.c] 24))
  replace Nm3 := Lib.hid (Nm3.out.alloc (.cells #[.int .i64 m4.own, .int .i64 m4.ot, .slice m4.ag.A m4.ag.l.length m4.ag.c, .slice m4.op.A m4.op.l.length m4.op.c] 24))
  replace X3b := Lib.hid (X3b.out.alloc (.cells #[.int .i64 m4.own, .int .i64 m4.ot, .slice m4.ag.A m4.ag.l.length m4.ag.c, .slice m4.op.A m4.op.l.length m4.op.c] 24))
  replace Nm4 := Lib.hid (Nm4.out.alloc (.cells #[.int .i64 m4.own, .int .i64 m4.ot, .slice m4.ag.A m4.ag.l.length m4.ag.c, .slice m4.op.A m4.op.l.length m4.op.c] 24))
  have X4b := Lib.hid (Blk.newH v6 [.int .i64 m4.own, .int .i64 m4.ot, .slice m4.ag.A m4.ag.l.length m4.ag.c, .slice m4.op.A m4.op.l.length m4.op.c] 24 (v6.heap.size) (by first | rfl | simp))
  clear HB BB X
  have c0 := X1b.out.c 0 _ rfl
  have c1 := X1b.out.c 1 _ rfl
  have c2 := X1b.out.c 2 _ rfl
  have c3 := X1b.out.c 3 _ rfl
  have c4 := X2b.out.c 0 _ rfl
  have c5 := X2b.out.c 1 _ rfl
  have c6 := X2b.out.c 2 _ rfl
  have c7 := X2b.out.c 3 _ rfl
  go_wp2_with fail
  refine (sameB_at (a := m1) (b := m2) true (by rw [Hm1.out, Hm2.out]; simp) Nm1.out Nm2.out (by have := L0.out; rw [← Hm1.out] at this; exact ⟨by have := this.1; show m1.ag.l.length < _; simp only [Bd.bl] at this; omega, by have := this.2; show m1.op.l.length < _; simp only [Bd.bl] at this; omega⟩)).mono ?_
  rintro e v7 ⟨rfl, B⟩
  clear c0 c1 c2 c3 c4 c5 c6 c7
  replace E := Lib.hid (ext_trans E.out B)
  replace Nm1 := Lib.hid (Nm1.out.ext B)
  replace X1b := Lib.hid (X1b.out.ext B)
  replace Y1 := Lib.hid (Y1.out.ext B)
  replace Nm2 := Lib.hid (Nm2.out.ext B)
  replace X2b := Lib.hid (X2b.out.ext B)
  replace Y2 := Lib.hid (Y2.out.ext B)
  replace Nm3 := Lib.hid (Nm3.out.ext B)
  replace X3b := Lib.hid (X3b.out.ext B)
  replace Nm4 := Lib.hid (Nm4.out.ext B)
  replace X4b := Lib.hid (X4b.out.ext B)
  clear B
  have heq := fun w => eq26_self A0 w
  have y10 := Y1.out.c 0 _ rfl
  have y11 := Y1.out.c 1 _ rfl
  have y12 := Y1.out.c 2 _ rfl
  have y13 := Y1.out.c 3 _ rfl
  have y14 := Y1.out.c 4 _ rfl
  have y1f := Y1.out.f
  have y1l := Y1.out.lt
  have y20 := Y2.out.c 0 _ rfl
  have y21 := Y2.out.c 1 _ rfl
  have y22 := Y2.out.c 2 _ rfl
  have y23 := Y2.out.c 3 _ rfl
  have y24 := Y2.out.c 4 _ rfl
  have y2f := Y2.out.f
  have y2l := Y2.out.lt
  have c0 := X3b.out.c 0 _ rfl
  have c1 := X3b.out.c 1 _ rfl
  have c2 := X3b.out.c 2 _ rfl
  have c3 := X3b.out.c 3 _ rfl
  have c4 := X4b.out.c 0 _ rfl
  have c5 := X4b.out.c 1 _ rfl
  have c6 := X4b.out.c 2 _ rfl
  have c7 := X4b.out.c 3 _ rfl
  go_wp2_with fail
  refine (sameB_at (a := m3) (b := m4) true (by rw [Hm3.out, Hm4.out]; simp) Nm3.out Nm4.out (by have := L1.out; rw [← Hm3.out] at this; exact ⟨by have := this.1; show m3.ag.l.length < _; simp only [Bd.bl] at this; omega, by have := this.2; show m3.op.l.length < _; simp only [Bd.bl] at this; omega⟩)).mono ?_
  rintro e v8 ⟨rfl, B⟩
  clear c0 c1 c2 c3 c4 c5 c6 c7
  replace E := Lib.hid (ext_trans E.out B)
  replace Nm1 := Lib.hid (Nm1.out.ext B)
  replace X1b := Lib.hid (X1b.out.ext B)
  replace Y1 := Lib.hid (Y1.out.ext B)
  replace Nm2 := Lib.hid (Nm2.out.ext B)
  replace X2b := Lib.hid (X2b.out.ext B)
  replace Y2 := Lib.hid (Y2.out.ext B)
  replace Nm3 := Lib.hid (Nm3.out.ext B)
  replace X3b := Lib.hid (X3b.out.ext B)
  replace Nm4 := Lib.hid (Nm4.out.ext B)
  replace X4b := Lib.hid (X4b.out.ext B)
  clear B
  go_wp2_with fail
  go_ret
  exact ⟨rfl, E.out⟩
end Go.Proofs.Ytmnbeikhjbjpiaa
