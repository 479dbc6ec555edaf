/- The functions' contracts, their answers named; the chapter's examples. -/
import Derived.Test.YtmnbeikhjbjpiaaP7
import Derived.Test.YtmnbeikhjbjpiaaP3
import Derived.Test.YtmnbeikhjbjpiaaL
import Derived.Test.YtmnbeikhjbjpiaaK2
import Derived.Test.YtmnbeikhjbjpiaaPm
set_option linter.unusedSimpArgs false
set_option linter.unusedVariables false
namespace Go.Proofs.Ytmnbeikhjbjpiaa
open Go.RowKit
abbrev Lens (b : Bd) : Prop := b.ag.l.length ≤ 1000 ∧ b.op.l.length ≤ 1000
theorem lens_of {m : Bd} {x : Bl} (h : m.bl = x) (hx : x.ag.length ≤ 1000 ∧ x.op.length ≤ 1000) : Lens m := by subst h; exact hx
theorem offer_at {b : Bd} {f t m r : Int} {w : World} (x : Bl) (a : Ag) (e : Int) (hx : b.bl.offB f t m r = x) (ha : b.bl.offX f t m r = a) (he : b.bl.offE f t m r = e) (hb : BOk w b) (hl : Lens b) : Calls Try.prog 12 #[.agg #[.int .i64 b.own, .int .i64 b.ot, .slice b.ag.A b.ag.l.length b.ag.c, .slice b.op.A b.op.l.length b.op.c], .int .i64 f, .int .i64 t, .int .i64 m, .int .i64 r] w (BaR w b.off x a e) := by
  subst hx ha he; exact offer_any b f t m r w hb hl
theorem roffer_at {b : Bd} {f t m r : Int} {w : World} (x : Bl) (a : Ag) (e : Int) (hx : b.bl.offB f t m r = x) (ha : b.bl.offX f t m r = a) (he : b.bl.offE f t m r = e) (hb : BOk w b) (hl : Lens b) : Calls Try.prog 13 #[.agg #[.int .i64 b.own, .int .i64 b.ot, .slice b.ag.A b.ag.l.length b.ag.c, .slice b.op.A b.op.l.length b.op.c], .int .i64 f, .int .i64 t, .int .i64 m, .int .i64 r] w (BaR w b.off x a e) := by
  subst hx ha he; exact roffer_any b f t m r w hb hl
theorem hear_at {b : Bd} {a : Ag} {w : World} (x : Bl) (e : Int) (hx : b.bl.heaB a = x) (he : b.bl.heaE a = e) (hb : BOk w b) (hl : Lens b) : Calls Try.prog 14 #[.agg #[.int .i64 b.own, .int .i64 b.ot, .slice b.ag.A b.ag.l.length b.ag.c, .slice b.op.A b.op.l.length b.op.c], .agg #[.int .i64 a.no, .int .i64 a.f, .int .i64 a.t, .int .i64 a.m, .int .i64 a.r]] w (BdR w b.off x e) := by
  subst hx he; exact hear_any b a w hb hl
theorem rhear_at {b : Bd} {a : Ag} {w : World} (x : Bl) (e : Int) (hx : b.bl.heaB a = x) (he : b.bl.heaE a = e) (hb : BOk w b) (hl : Lens b) : Calls Try.prog 15 #[.agg #[.int .i64 b.own, .int .i64 b.ot, .slice b.ag.A b.ag.l.length b.ag.c, .slice b.op.A b.op.l.length b.op.c], .agg #[.int .i64 a.no, .int .i64 a.f, .int .i64 a.t, .int .i64 a.m, .int .i64 a.r]] w (BdR w b.off x e) := by
  subst hx he; exact rhear_any b a w hb hl
theorem accept_at {b : Bd} {no : Int} {w : World} (x : Bl) (a : Ag) (e : Int) (hx : b.bl.accB no = x) (ha : b.bl.accX no = a) (he : b.bl.accE no = e) (hb : BOk w b) (hl : Lens b) : Calls Try.prog 17 #[.agg #[.int .i64 b.own, .int .i64 b.ot, .slice b.ag.A b.ag.l.length b.ag.c, .slice b.op.A b.op.l.length b.op.c], .int .i64 no] w (BaR w b.off x a e) := by
  subst hx ha he; exact accept_any b no w hb hl
theorem raccept_at {b : Bd} {no : Int} {w : World} (x : Bl) (a : Ag) (e : Int) (hx : b.bl.accB no = x) (ha : b.bl.accX no = a) (he : b.bl.accE no = e) (hb : BOk w b) (hl : Lens b) : Calls Try.prog 18 #[.agg #[.int .i64 b.own, .int .i64 b.ot, .slice b.ag.A b.ag.l.length b.ag.c, .slice b.op.A b.op.l.length b.op.c], .int .i64 no] w (BaR w b.off x a e) := by
  subst hx ha he; exact raccept_any b no w hb hl
theorem confirm_at {b : Bd} {a : Ag} {w : World} (x : Bl) (e : Int) (hx : b.bl.conB a = x) (he : b.bl.conE a = e) (hb : BOk w b) (hl : Lens b) : Calls Try.prog 19 #[.agg #[.int .i64 b.own, .int .i64 b.ot, .slice b.ag.A b.ag.l.length b.ag.c, .slice b.op.A b.op.l.length b.op.c], .agg #[.int .i64 a.no, .int .i64 a.f, .int .i64 a.t, .int .i64 a.m, .int .i64 a.r]] w (BdR w b.off x e) := by
  subst hx he; exact confirm_any b a w hb hl
theorem rconfirm_at {b : Bd} {a : Ag} {w : World} (x : Bl) (e : Int) (hx : b.bl.conB a = x) (he : b.bl.conE a = e) (hb : BOk w b) (hl : Lens b) : Calls Try.prog 20 #[.agg #[.int .i64 b.own, .int .i64 b.ot, .slice b.ag.A b.ag.l.length b.ag.c, .slice b.op.A b.op.l.length b.op.c], .agg #[.int .i64 a.no, .int .i64 a.f, .int .i64 a.t, .int .i64 a.m, .int .i64 a.r]] w (BdR w b.off x e) := by
  subst hx he; exact rconfirm_any b a w hb hl
theorem new_at {own ot : Int} {w : World} (F : Nat → Prop) (x : Bl) (e : Int) (hx : Bl.new own ot = x) (he : newE own ot = e) : Calls Try.prog 21 #[.int .i64 own, .int .i64 ot] w (BdR w F x e) := by
  subst hx he; exact new_any own ot F w
theorem rnew_at {own ot : Int} {w : World} (F : Nat → Prop) (x : Bl) (e : Int) (hx : Bl.new own ot = x) (he : newE own ot = e) : Calls Try.prog 22 #[.int .i64 own, .int .i64 ot] w (BdR w F x e) := by
  subst hx he; exact rnew_any own ot F w
set_option maxHeartbeats 3200000 in
set_option maxRecDepth 100000 in
theorem sane_any (w : World) : Calls Try.prog 10 #[] w (Tru w) := by
  have E := Lib.hid (ext_refl w)
  go_enter Try.func10, Try.ntmps10
  go_wp2_with fail
  refine (new_at (own := 0) (ot := 1) (fun _ => True) ⟨0, 1, [], []⟩ 0 (by decide +kernel) (by decide +kernel)).mono ?_
  rintro e v1 ⟨m1, rfl, hm, hk, B, -⟩
  replace E := Lib.hid (ext_trans E.out B)
  clear B
  have Hm1 := Lib.hid hm
  clear hm
  have Nm1 := Lib.hid hk
  clear hk
  replace E := Lib.hid (ext_alloc E.out (.cells #[.int .i64 m1.own, .int .i64 m1.ot, .slice m1.ag.A m1.ag.l.length m1.ag.c, .slice m1.op.A m1.op.l.length m1.op.c] 24))
  replace Nm1 := Lib.hid (Nm1.out.alloc (.cells #[.int .i64 m1.own, .int .i64 m1.ot, .slice m1.ag.A m1.ag.l.length m1.ag.c, .slice m1.op.A m1.op.l.length m1.op.c] 24))
  have X1 := Lib.hid (Blk.newH v1 [.int .i64 m1.own, .int .i64 m1.ot, .slice m1.ag.A m1.ag.l.length m1.ag.c, .slice m1.op.A m1.op.l.length m1.op.c] 24 (v1.heap.size) (by first | rfl | simp))
  go_wp2_with fail
  refine (new_at (own := 1) (ot := 0) (fun _ => True) ⟨1, 0, [], []⟩ 0 (by decide +kernel) (by decide +kernel)).mono ?_
  rintro e v2 ⟨m2, rfl, hm, hk, B, -⟩
  replace E := Lib.hid (ext_trans E.out B)
  replace Nm1 := Lib.hid (Nm1.out.ext B)
  replace X1 := Lib.hid (X1.out.ext B)
  clear B
  have Hm2 := Lib.hid hm
  clear hm
  have Nm2 := Lib.hid hk
  clear hk
  replace E := Lib.hid (ext_alloc E.out (.cells #[.int .i64 m2.own, .int .i64 m2.ot, .slice m2.ag.A m2.ag.l.length m2.ag.c, .slice m2.op.A m2.op.l.length m2.op.c] 24))
  replace Nm1 := Lib.hid (Nm1.out.alloc (.cells #[.int .i64 m2.own, .int .i64 m2.ot, .slice m2.ag.A m2.ag.l.length m2.ag.c, .slice m2.op.A m2.op.l.length m2.op.c] 24))
  replace X1 := Lib.hid (X1.out.alloc (.cells #[.int .i64 m2.own, .int .i64 m2.ot, .slice m2.ag.A m2.ag.l.length m2.ag.c, .slice m2.op.A m2.op.l.length m2.op.c] 24))
  replace Nm2 := Lib.hid (Nm2.out.alloc (.cells #[.int .i64 m2.own, .int .i64 m2.ot, .slice m2.ag.A m2.ag.l.length m2.ag.c, .slice m2.op.A m2.op.l.length m2.op.c] 24))
  have X2 := Lib.hid (Blk.newH v2 [.int .i64 m2.own, .int .i64 m2.ot, .slice m2.ag.A m2.ag.l.length m2.ag.c, .slice m2.op.A m2.op.l.length m2.op.c] 24 (v2.heap.size) (by first | rfl | simp))
  go_wp2_with fail
  refine (new_at (own := 2) (ot := 2) (fun _ => True) zeroB 480 (by decide +kernel) (by decide +kernel)).mono ?_
  rintro e v3 ⟨m3, rfl, hm, hk, B, -⟩
  replace E := Lib.hid (ext_trans E.out B)
  replace Nm1 := Lib.hid (Nm1.out.ext B)
  replace X1 := Lib.hid (X1.out.ext B)
  replace Nm2 := Lib.hid (Nm2.out.ext B)
  replace X2 := Lib.hid (X2.out.ext B)
  clear B
  have Hm3 := Lib.hid hm
  clear hm
  have Nm3 := Lib.hid hk
  clear hk
  replace E := Lib.hid (ext_alloc E.out (.cells #[.int .i64 m3.own, .int .i64 m3.ot, .slice m3.ag.A m3.ag.l.length m3.ag.c, .slice m3.op.A m3.op.l.length m3.op.c] 24))
  replace Nm1 := Lib.hid (Nm1.out.alloc (.cells #[.int .i64 m3.own, .int .i64 m3.ot, .slice m3.ag.A m3.ag.l.length m3.ag.c, .slice m3.op.A m3.op.l.length m3.op.c] 24))
  replace X1 := Lib.hid (X1.out.alloc (.cells #[.int .i64 m3.own, .int .i64 m3.ot, .slice m3.ag.A m3.ag.l.length m3.ag.c, .slice m3.op.A m3.op.l.length m3.op.c] 24))
  replace Nm2 := Lib.hid (Nm2.out.alloc (.cells #[.int .i64 m3.own, .int .i64 m3.ot, .slice m3.ag.A m3.ag.l.length m3.ag.c, .slice m3.op.A m3.op.l.length m3.op.c] 24))
  replace X2 := Lib.hid (X2.out.alloc (.cells #[.int .i64 m3.own, .int .i64 m3.ot, .slice m3.ag.A m3.ag.l.length m3.ag.c, .slice m3.op.A m3.op.l.length m3.op.c] 24))
  replace Nm3 := Lib.hid (Nm3.out.alloc (.cells #[.int .i64 m3.own, .int .i64 m3.ot, .slice m3.ag.A m3.ag.l.length m3.ag.c, .slice m3.op.A m3.op.l.length m3.op.c] 24))
  clear Nm3
  clear Hm3
  go_wp2_with fail
  refine (new_at (own := 0) (ot := 4) (fun _ => True) zeroB 480 (by decide +kernel) (by decide +kernel)).mono ?_
  rintro e v4 ⟨m4, rfl, hm, hk, B, -⟩
  replace E := Lib.hid (ext_trans E.out B)
  replace Nm1 := Lib.hid (Nm1.out.ext B)
  replace X1 := Lib.hid (X1.out.ext B)
  replace Nm2 := Lib.hid (Nm2.out.ext B)
  replace X2 := Lib.hid (X2.out.ext B)
  clear B
  have Hm4 := Lib.hid hm
  clear hm
  have Nm4 := Lib.hid hk
  clear hk
  replace E := Lib.hid (ext_alloc E.out (.cells #[.int .i64 m4.own, .int .i64 m4.ot, .slice m4.ag.A m4.ag.l.length m4.ag.c, .slice m4.op.A m4.op.l.length m4.op.c] 24))
  replace Nm1 := Lib.hid (Nm1.out.alloc (.cells #[.int .i64 m4.own, .int .i64 m4.ot, .slice m4.ag.A m4.ag.l.length m4.ag.c, .slice m4.op.A m4.op.l.length m4.op.c] 24))
  replace X1 := Lib.hid (X1.out.alloc (.cells #[.int .i64 m4.own, .int .i64 m4.ot, .slice m4.ag.A m4.ag.l.length m4.ag.c, .slice m4.op.A m4.op.l.length m4.op.c] 24))
  replace Nm2 := Lib.hid (Nm2.out.alloc (.cells #[.int .i64 m4.own, .int .i64 m4.ot, .slice m4.ag.A m4.ag.l.length m4.ag.c, .slice m4.op.A m4.op.l.length m4.op.c] 24))
  replace X2 := Lib.hid (X2.out.alloc (.cells #[.int .i64 m4.own, .int .i64 m4.ot, .slice m4.ag.A m4.ag.l.length m4.ag.c, .slice m4.op.A m4.op.l.length m4.op.c] 24))
  replace Nm4 := Lib.hid (Nm4.out.alloc (.cells #[.int .i64 m4.own, .int .i64 m4.ot, .slice m4.ag.A m4.ag.l.length m4.ag.c, .slice m4.op.A m4.op.l.length m4.op.c] 24))
  clear Nm4
  clear Hm4
  have c0 := X1.out.c 0 _ rfl
  have c1 := X1.out.c 1 _ rfl
  have c2 := X1.out.c 2 _ rfl
  have c3 := X1.out.c 3 _ rfl
  go_wp2_with fail
  refine (offer_at (b := m1) (f := 0) (t := 1) (m := 600) (r := 30) ⟨0, 1, [], [⟨1, 0, 1, 600, 30⟩]⟩ ⟨1, 0, 1, 600, 30⟩ 0 (by rw [Hm1.out]; decide +kernel) (by rw [Hm1.out]; decide +kernel) (by rw [Hm1.out]; decide +kernel) Nm1.out (lens_of Hm1.out (by decide))).mono ?_
  rintro e v5 ⟨m5, rfl, hm, hk, B, -⟩
  clear c0 c1 c2 c3
  replace E := Lib.hid (ext_trans E.out B)
  replace Nm1 := Lib.hid (Nm1.out.ext B)
  replace X1 := Lib.hid (X1.out.ext B)
  replace Nm2 := Lib.hid (Nm2.out.ext B)
  replace X2 := Lib.hid (X2.out.ext B)
  clear B
  have Hm5 := Lib.hid hm
  clear hm
  have Nm5 := Lib.hid hk
  clear hk
  replace E := Lib.hid (ext_alloc E.out (.cells #[.int .i64 m5.own, .int .i64 m5.ot, .slice m5.ag.A m5.ag.l.length m5.ag.c, .slice m5.op.A m5.op.l.length m5.op.c] 24))
  replace Nm1 := Lib.hid (Nm1.out.alloc (.cells #[.int .i64 m5.own, .int .i64 m5.ot, .slice m5.ag.A m5.ag.l.length m5.ag.c, .slice m5.op.A m5.op.l.length m5.op.c] 24))
  replace X1 := Lib.hid (X1.out.alloc (.cells #[.int .i64 m5.own, .int .i64 m5.ot, .slice m5.ag.A m5.ag.l.length m5.ag.c, .slice m5.op.A m5.op.l.length m5.op.c] 24))
  replace Nm2 := Lib.hid (Nm2.out.alloc (.cells #[.int .i64 m5.own, .int .i64 m5.ot, .slice m5.ag.A m5.ag.l.length m5.ag.c, .slice m5.op.A m5.op.l.length m5.op.c] 24))
  replace X2 := Lib.hid (X2.out.alloc (.cells #[.int .i64 m5.own, .int .i64 m5.ot, .slice m5.ag.A m5.ag.l.length m5.ag.c, .slice m5.op.A m5.op.l.length m5.op.c] 24))
  replace Nm5 := Lib.hid (Nm5.out.alloc (.cells #[.int .i64 m5.own, .int .i64 m5.ot, .slice m5.ag.A m5.ag.l.length m5.ag.c, .slice m5.op.A m5.op.l.length m5.op.c] 24))
  have X5 := Lib.hid (Blk.newH v5 [.int .i64 m5.own, .int .i64 m5.ot, .slice m5.ag.A m5.ag.l.length m5.ag.c, .slice m5.op.A m5.op.l.length m5.op.c] 24 (v5.heap.size) (by first | rfl | simp))
  replace E := Lib.hid (ext_alloc E.out (.cells #[.int .i64 1, .int .i64 0, .int .i64 1, .int .i64 600, .int .i64 30] 26))
  replace Nm1 := Lib.hid (Nm1.out.alloc (.cells #[.int .i64 1, .int .i64 0, .int .i64 1, .int .i64 600, .int .i64 30] 26))
  replace X1 := Lib.hid (X1.out.alloc (.cells #[.int .i64 1, .int .i64 0, .int .i64 1, .int .i64 600, .int .i64 30] 26))
  replace Nm2 := Lib.hid (Nm2.out.alloc (.cells #[.int .i64 1, .int .i64 0, .int .i64 1, .int .i64 600, .int .i64 30] 26))
  replace X2 := Lib.hid (X2.out.alloc (.cells #[.int .i64 1, .int .i64 0, .int .i64 1, .int .i64 600, .int .i64 30] 26))
  replace Nm5 := Lib.hid (Nm5.out.alloc (.cells #[.int .i64 1, .int .i64 0, .int .i64 1, .int .i64 600, .int .i64 30] 26))
  replace X5 := Lib.hid (X5.out.alloc (.cells #[.int .i64 1, .int .i64 0, .int .i64 1, .int .i64 600, .int .i64 30] 26))
  have Y5 := Lib.hid (Blk.newH (v5.alloc (.cells #[.int .i64 m5.own, .int .i64 m5.ot, .slice m5.ag.A m5.ag.l.length m5.ag.c, .slice m5.op.A m5.op.l.length m5.op.c] 24)) [.int .i64 1, .int .i64 0, .int .i64 1, .int .i64 600, .int .i64 30] 26 (v5.heap.size + 1) (by first | rfl | simp))
  have c0 := X2.out.c 0 _ rfl
  have c1 := X2.out.c 1 _ rfl
  have c2 := X2.out.c 2 _ rfl
  have c3 := X2.out.c 3 _ rfl
  have c4 := Y5.out.c 0 _ rfl
  have c5 := Y5.out.c 1 _ rfl
  have c6 := Y5.out.c 2 _ rfl
  have c7 := Y5.out.c 3 _ rfl
  have c8 := Y5.out.c 4 _ rfl
  go_wp2_with fail
  refine (hear_at (b := m2) (a := ⟨1, 0, 1, 600, 30⟩) ⟨1, 0, [], [⟨1, 0, 1, 600, 30⟩]⟩ 0 (by rw [Hm2.out]; decide +kernel) (by rw [Hm2.out]; decide +kernel) Nm2.out (lens_of Hm2.out (by decide))).mono ?_
  rintro e v6 ⟨m6, rfl, hm, hk, B, -⟩
  clear c0 c1 c2 c3 c4 c5 c6 c7 c8
  replace E := Lib.hid (ext_trans E.out B)
  replace Nm1 := Lib.hid (Nm1.out.ext B)
  replace X1 := Lib.hid (X1.out.ext B)
  replace Nm2 := Lib.hid (Nm2.out.ext B)
  replace X2 := Lib.hid (X2.out.ext B)
  replace Nm5 := Lib.hid (Nm5.out.ext B)
  replace X5 := Lib.hid (X5.out.ext B)
  replace Y5 := Lib.hid (Y5.out.ext B)
  clear B
  have Hm6 := Lib.hid hm
  clear hm
  have Nm6 := Lib.hid hk
  clear hk
  replace E := Lib.hid (ext_alloc E.out (.cells #[.int .i64 m6.own, .int .i64 m6.ot, .slice m6.ag.A m6.ag.l.length m6.ag.c, .slice m6.op.A m6.op.l.length m6.op.c] 24))
  replace Nm1 := Lib.hid (Nm1.out.alloc (.cells #[.int .i64 m6.own, .int .i64 m6.ot, .slice m6.ag.A m6.ag.l.length m6.ag.c, .slice m6.op.A m6.op.l.length m6.op.c] 24))
  replace X1 := Lib.hid (X1.out.alloc (.cells #[.int .i64 m6.own, .int .i64 m6.ot, .slice m6.ag.A m6.ag.l.length m6.ag.c, .slice m6.op.A m6.op.l.length m6.op.c] 24))
  replace Nm2 := Lib.hid (Nm2.out.alloc (.cells #[.int .i64 m6.own, .int .i64 m6.ot, .slice m6.ag.A m6.ag.l.length m6.ag.c, .slice m6.op.A m6.op.l.length m6.op.c] 24))
  replace X2 := Lib.hid (X2.out.alloc (.cells #[.int .i64 m6.own, .int .i64 m6.ot, .slice m6.ag.A m6.ag.l.length m6.ag.c, .slice m6.op.A m6.op.l.length m6.op.c] 24))
  replace Nm5 := Lib.hid (Nm5.out.alloc (.cells #[.int .i64 m6.own, .int .i64 m6.ot, .slice m6.ag.A m6.ag.l.length m6.ag.c, .slice m6.op.A m6.op.l.length m6.op.c] 24))
  replace X5 := Lib.hid (X5.out.alloc (.cells #[.int .i64 m6.own, .int .i64 m6.ot, .slice m6.ag.A m6.ag.l.length m6.ag.c, .slice m6.op.A m6.op.l.length m6.op.c] 24))
  replace Y5 := Lib.hid (Y5.out.alloc (.cells #[.int .i64 m6.own, .int .i64 m6.ot, .slice m6.ag.A m6.ag.l.length m6.ag.c, .slice m6.op.A m6.op.l.length m6.op.c] 24))
  replace Nm6 := Lib.hid (Nm6.out.alloc (.cells #[.int .i64 m6.own, .int .i64 m6.ot, .slice m6.ag.A m6.ag.l.length m6.ag.c, .slice m6.op.A m6.op.l.length m6.op.c] 24))
  have X6 := Lib.hid (Blk.newH v6 [.int .i64 m6.own, .int .i64 m6.ot, .slice m6.ag.A m6.ag.l.length m6.ag.c, .slice m6.op.A m6.op.l.length m6.op.c] 24 (v6.heap.size) (by first | rfl | simp))
  have c0 := X6.out.c 0 _ rfl
  have c1 := X6.out.c 1 _ rfl
  have c2 := X6.out.c 2 _ rfl
  have c3 := X6.out.c 3 _ rfl
  go_wp2_with fail
  refine (accept_at (b := m6) (no := 1) ⟨1, 0, [⟨1, 0, 1, 600, 30⟩], []⟩ ⟨1, 0, 1, 600, 30⟩ 0 (by rw [Hm6.out]; decide +kernel) (by rw [Hm6.out]; decide +kernel) (by rw [Hm6.out]; decide +kernel) Nm6.out (lens_of Hm6.out (by decide))).mono ?_
  rintro e v7 ⟨m7, rfl, hm, hk, B, -⟩
  clear c0 c1 c2 c3
  replace E := Lib.hid (ext_trans E.out B)
  replace Nm1 := Lib.hid (Nm1.out.ext B)
  replace X1 := Lib.hid (X1.out.ext B)
  replace Nm2 := Lib.hid (Nm2.out.ext B)
  replace X2 := Lib.hid (X2.out.ext B)
  replace Nm5 := Lib.hid (Nm5.out.ext B)
  replace X5 := Lib.hid (X5.out.ext B)
  replace Y5 := Lib.hid (Y5.out.ext B)
  replace Nm6 := Lib.hid (Nm6.out.ext B)
  replace X6 := Lib.hid (X6.out.ext B)
  clear B
  have Hm7 := Lib.hid hm
  clear hm
  have Nm7 := Lib.hid hk
  clear hk
  replace E := Lib.hid (ext_alloc E.out (.cells #[.int .i64 m7.own, .int .i64 m7.ot, .slice m7.ag.A m7.ag.l.length m7.ag.c, .slice m7.op.A m7.op.l.length m7.op.c] 24))
  replace Nm1 := Lib.hid (Nm1.out.alloc (.cells #[.int .i64 m7.own, .int .i64 m7.ot, .slice m7.ag.A m7.ag.l.length m7.ag.c, .slice m7.op.A m7.op.l.length m7.op.c] 24))
  replace X1 := Lib.hid (X1.out.alloc (.cells #[.int .i64 m7.own, .int .i64 m7.ot, .slice m7.ag.A m7.ag.l.length m7.ag.c, .slice m7.op.A m7.op.l.length m7.op.c] 24))
  replace Nm2 := Lib.hid (Nm2.out.alloc (.cells #[.int .i64 m7.own, .int .i64 m7.ot, .slice m7.ag.A m7.ag.l.length m7.ag.c, .slice m7.op.A m7.op.l.length m7.op.c] 24))
  replace X2 := Lib.hid (X2.out.alloc (.cells #[.int .i64 m7.own, .int .i64 m7.ot, .slice m7.ag.A m7.ag.l.length m7.ag.c, .slice m7.op.A m7.op.l.length m7.op.c] 24))
  replace Nm5 := Lib.hid (Nm5.out.alloc (.cells #[.int .i64 m7.own, .int .i64 m7.ot, .slice m7.ag.A m7.ag.l.length m7.ag.c, .slice m7.op.A m7.op.l.length m7.op.c] 24))
  replace X5 := Lib.hid (X5.out.alloc (.cells #[.int .i64 m7.own, .int .i64 m7.ot, .slice m7.ag.A m7.ag.l.length m7.ag.c, .slice m7.op.A m7.op.l.length m7.op.c] 24))
  replace Y5 := Lib.hid (Y5.out.alloc (.cells #[.int .i64 m7.own, .int .i64 m7.ot, .slice m7.ag.A m7.ag.l.length m7.ag.c, .slice m7.op.A m7.op.l.length m7.op.c] 24))
  replace Nm6 := Lib.hid (Nm6.out.alloc (.cells #[.int .i64 m7.own, .int .i64 m7.ot, .slice m7.ag.A m7.ag.l.length m7.ag.c, .slice m7.op.A m7.op.l.length m7.op.c] 24))
  replace X6 := Lib.hid (X6.out.alloc (.cells #[.int .i64 m7.own, .int .i64 m7.ot, .slice m7.ag.A m7.ag.l.length m7.ag.c, .slice m7.op.A m7.op.l.length m7.op.c] 24))
  replace Nm7 := Lib.hid (Nm7.out.alloc (.cells #[.int .i64 m7.own, .int .i64 m7.ot, .slice m7.ag.A m7.ag.l.length m7.ag.c, .slice m7.op.A m7.op.l.length m7.op.c] 24))
  have X7 := Lib.hid (Blk.newH v7 [.int .i64 m7.own, .int .i64 m7.ot, .slice m7.ag.A m7.ag.l.length m7.ag.c, .slice m7.op.A m7.op.l.length m7.op.c] 24 (v7.heap.size) (by first | rfl | simp))
  replace E := Lib.hid (ext_alloc E.out (.cells #[.int .i64 1, .int .i64 0, .int .i64 1, .int .i64 600, .int .i64 30] 26))
  replace Nm1 := Lib.hid (Nm1.out.alloc (.cells #[.int .i64 1, .int .i64 0, .int .i64 1, .int .i64 600, .int .i64 30] 26))
  replace X1 := Lib.hid (X1.out.alloc (.cells #[.int .i64 1, .int .i64 0, .int .i64 1, .int .i64 600, .int .i64 30] 26))
  replace Nm2 := Lib.hid (Nm2.out.alloc (.cells #[.int .i64 1, .int .i64 0, .int .i64 1, .int .i64 600, .int .i64 30] 26))
  replace X2 := Lib.hid (X2.out.alloc (.cells #[.int .i64 1, .int .i64 0, .int .i64 1, .int .i64 600, .int .i64 30] 26))
  replace Nm5 := Lib.hid (Nm5.out.alloc (.cells #[.int .i64 1, .int .i64 0, .int .i64 1, .int .i64 600, .int .i64 30] 26))
  replace X5 := Lib.hid (X5.out.alloc (.cells #[.int .i64 1, .int .i64 0, .int .i64 1, .int .i64 600, .int .i64 30] 26))
  replace Y5 := Lib.hid (Y5.out.alloc (.cells #[.int .i64 1, .int .i64 0, .int .i64 1, .int .i64 600, .int .i64 30] 26))
  replace Nm6 := Lib.hid (Nm6.out.alloc (.cells #[.int .i64 1, .int .i64 0, .int .i64 1, .int .i64 600, .int .i64 30] 26))
  replace X6 := Lib.hid (X6.out.alloc (.cells #[.int .i64 1, .int .i64 0, .int .i64 1, .int .i64 600, .int .i64 30] 26))
  replace Nm7 := Lib.hid (Nm7.out.alloc (.cells #[.int .i64 1, .int .i64 0, .int .i64 1, .int .i64 600, .int .i64 30] 26))
  replace X7 := Lib.hid (X7.out.alloc (.cells #[.int .i64 1, .int .i64 0, .int .i64 1, .int .i64 600, .int .i64 30] 26))
  have Y7 := Lib.hid (Blk.newH (v7.alloc (.cells #[.int .i64 m7.own, .int .i64 m7.ot, .slice m7.ag.A m7.ag.l.length m7.ag.c, .slice m7.op.A m7.op.l.length m7.op.c] 24)) [.int .i64 1, .int .i64 0, .int .i64 1, .int .i64 600, .int .i64 30] 26 (v7.heap.size + 1) (by first | rfl | simp))
  clear X6 Nm6
  have c0 := X5.out.c 0 _ rfl
  have c1 := X5.out.c 1 _ rfl
  have c2 := X5.out.c 2 _ rfl
  have c3 := X5.out.c 3 _ rfl
  have c4 := Y7.out.c 0 _ rfl
  have c5 := Y7.out.c 1 _ rfl
  have c6 := Y7.out.c 2 _ rfl
  have c7 := Y7.out.c 3 _ rfl
  have c8 := Y7.out.c 4 _ rfl
  go_wp2_with fail
  refine (confirm_at (b := m5) (a := ⟨1, 0, 1, 600, 30⟩) ⟨0, 1, [⟨1, 0, 1, 600, 30⟩], []⟩ 0 (by rw [Hm5.out]; decide +kernel) (by rw [Hm5.out]; decide +kernel) Nm5.out (lens_of Hm5.out (by decide))).mono ?_
  rintro e v8 ⟨m8, rfl, hm, hk, B, -⟩
  clear c0 c1 c2 c3 c4 c5 c6 c7 c8
  replace E := Lib.hid (ext_trans E.out B)
  replace Nm1 := Lib.hid (Nm1.out.ext B)
  replace X1 := Lib.hid (X1.out.ext B)
  replace Nm2 := Lib.hid (Nm2.out.ext B)
  replace X2 := Lib.hid (X2.out.ext B)
  replace Nm5 := Lib.hid (Nm5.out.ext B)
  replace X5 := Lib.hid (X5.out.ext B)
  replace Y5 := Lib.hid (Y5.out.ext B)
  replace Nm7 := Lib.hid (Nm7.out.ext B)
  replace X7 := Lib.hid (X7.out.ext B)
  replace Y7 := Lib.hid (Y7.out.ext B)
  clear B
  have Hm8 := Lib.hid hm
  clear hm
  have Nm8 := Lib.hid hk
  clear hk
  replace E := Lib.hid (ext_alloc E.out (.cells #[.int .i64 m8.own, .int .i64 m8.ot, .slice m8.ag.A m8.ag.l.length m8.ag.c, .slice m8.op.A m8.op.l.length m8.op.c] 24))
  replace Nm1 := Lib.hid (Nm1.out.alloc (.cells #[.int .i64 m8.own, .int .i64 m8.ot, .slice m8.ag.A m8.ag.l.length m8.ag.c, .slice m8.op.A m8.op.l.length m8.op.c] 24))
  replace X1 := Lib.hid (X1.out.alloc (.cells #[.int .i64 m8.own, .int .i64 m8.ot, .slice m8.ag.A m8.ag.l.length m8.ag.c, .slice m8.op.A m8.op.l.length m8.op.c] 24))
  replace Nm2 := Lib.hid (Nm2.out.alloc (.cells #[.int .i64 m8.own, .int .i64 m8.ot, .slice m8.ag.A m8.ag.l.length m8.ag.c, .slice m8.op.A m8.op.l.length m8.op.c] 24))
  replace X2 := Lib.hid (X2.out.alloc (.cells #[.int .i64 m8.own, .int .i64 m8.ot, .slice m8.ag.A m8.ag.l.length m8.ag.c, .slice m8.op.A m8.op.l.length m8.op.c] 24))
  replace Nm5 := Lib.hid (Nm5.out.alloc (.cells #[.int .i64 m8.own, .int .i64 m8.ot, .slice m8.ag.A m8.ag.l.length m8.ag.c, .slice m8.op.A m8.op.l.length m8.op.c] 24))
  replace X5 := Lib.hid (X5.out.alloc (.cells #[.int .i64 m8.own, .int .i64 m8.ot, .slice m8.ag.A m8.ag.l.length m8.ag.c, .slice m8.op.A m8.op.l.length m8.op.c] 24))
  replace Y5 := Lib.hid (Y5.out.alloc (.cells #[.int .i64 m8.own, .int .i64 m8.ot, .slice m8.ag.A m8.ag.l.length m8.ag.c, .slice m8.op.A m8.op.l.length m8.op.c] 24))
  replace Nm7 := Lib.hid (Nm7.out.alloc (.cells #[.int .i64 m8.own, .int .i64 m8.ot, .slice m8.ag.A m8.ag.l.length m8.ag.c, .slice m8.op.A m8.op.l.length m8.op.c] 24))
  replace X7 := Lib.hid (X7.out.alloc (.cells #[.int .i64 m8.own, .int .i64 m8.ot, .slice m8.ag.A m8.ag.l.length m8.ag.c, .slice m8.op.A m8.op.l.length m8.op.c] 24))
  replace Y7 := Lib.hid (Y7.out.alloc (.cells #[.int .i64 m8.own, .int .i64 m8.ot, .slice m8.ag.A m8.ag.l.length m8.ag.c, .slice m8.op.A m8.op.l.length m8.op.c] 24))
  replace Nm8 := Lib.hid (Nm8.out.alloc (.cells #[.int .i64 m8.own, .int .i64 m8.ot, .slice m8.ag.A m8.ag.l.length m8.ag.c, .slice m8.op.A m8.op.l.length m8.op.c] 24))
  have X8 := Lib.hid (Blk.newH v8 [.int .i64 m8.own, .int .i64 m8.ot, .slice m8.ag.A m8.ag.l.length m8.ag.c, .slice m8.op.A m8.op.l.length m8.op.c] 24 (v8.heap.size) (by first | rfl | simp))
  have c0 := X1.out.c 0 _ rfl
  have c1 := X1.out.c 1 _ rfl
  have c2 := X1.out.c 2 _ rfl
  have c3 := X1.out.c 3 _ rfl
  go_wp2_with fail
  refine (accept_at (b := m1) (no := 2) zeroB ⟨0, 0, 0, 0, 0⟩ 480 (by rw [Hm1.out]; decide +kernel) (by rw [Hm1.out]; decide +kernel) (by rw [Hm1.out]; decide +kernel) Nm1.out (lens_of Hm1.out (by decide))).mono ?_
  rintro e v9 ⟨m9, rfl, hm, hk, B, -⟩
  clear c0 c1 c2 c3
  replace E := Lib.hid (ext_trans E.out B)
  replace Nm1 := Lib.hid (Nm1.out.ext B)
  replace X1 := Lib.hid (X1.out.ext B)
  replace Nm2 := Lib.hid (Nm2.out.ext B)
  replace X2 := Lib.hid (X2.out.ext B)
  replace Nm5 := Lib.hid (Nm5.out.ext B)
  replace X5 := Lib.hid (X5.out.ext B)
  replace Y5 := Lib.hid (Y5.out.ext B)
  replace Nm7 := Lib.hid (Nm7.out.ext B)
  replace X7 := Lib.hid (X7.out.ext B)
  replace Y7 := Lib.hid (Y7.out.ext B)
  replace Nm8 := Lib.hid (Nm8.out.ext B)
  replace X8 := Lib.hid (X8.out.ext B)
  clear B
  have Hm9 := Lib.hid hm
  clear hm
  have Nm9 := Lib.hid hk
  clear hk
  replace E := Lib.hid (ext_alloc E.out (.cells #[.int .i64 m9.own, .int .i64 m9.ot, .slice m9.ag.A m9.ag.l.length m9.ag.c, .slice m9.op.A m9.op.l.length m9.op.c] 24))
  replace Nm1 := Lib.hid (Nm1.out.alloc (.cells #[.int .i64 m9.own, .int .i64 m9.ot, .slice m9.ag.A m9.ag.l.length m9.ag.c, .slice m9.op.A m9.op.l.length m9.op.c] 24))
  replace X1 := Lib.hid (X1.out.alloc (.cells #[.int .i64 m9.own, .int .i64 m9.ot, .slice m9.ag.A m9.ag.l.length m9.ag.c, .slice m9.op.A m9.op.l.length m9.op.c] 24))
  replace Nm2 := Lib.hid (Nm2.out.alloc (.cells #[.int .i64 m9.own, .int .i64 m9.ot, .slice m9.ag.A m9.ag.l.length m9.ag.c, .slice m9.op.A m9.op.l.length m9.op.c] 24))
  replace X2 := Lib.hid (X2.out.alloc (.cells #[.int .i64 m9.own, .int .i64 m9.ot, .slice m9.ag.A m9.ag.l.length m9.ag.c, .slice m9.op.A m9.op.l.length m9.op.c] 24))
  replace Nm5 := Lib.hid (Nm5.out.alloc (.cells #[.int .i64 m9.own, .int .i64 m9.ot, .slice m9.ag.A m9.ag.l.length m9.ag.c, .slice m9.op.A m9.op.l.length m9.op.c] 24))
  replace X5 := Lib.hid (X5.out.alloc (.cells #[.int .i64 m9.own, .int .i64 m9.ot, .slice m9.ag.A m9.ag.l.length m9.ag.c, .slice m9.op.A m9.op.l.length m9.op.c] 24))
  replace Y5 := Lib.hid (Y5.out.alloc (.cells #[.int .i64 m9.own, .int .i64 m9.ot, .slice m9.ag.A m9.ag.l.length m9.ag.c, .slice m9.op.A m9.op.l.length m9.op.c] 24))
  replace Nm7 := Lib.hid (Nm7.out.alloc (.cells #[.int .i64 m9.own, .int .i64 m9.ot, .slice m9.ag.A m9.ag.l.length m9.ag.c, .slice m9.op.A m9.op.l.length m9.op.c] 24))
  replace X7 := Lib.hid (X7.out.alloc (.cells #[.int .i64 m9.own, .int .i64 m9.ot, .slice m9.ag.A m9.ag.l.length m9.ag.c, .slice m9.op.A m9.op.l.length m9.op.c] 24))
  replace Y7 := Lib.hid (Y7.out.alloc (.cells #[.int .i64 m9.own, .int .i64 m9.ot, .slice m9.ag.A m9.ag.l.length m9.ag.c, .slice m9.op.A m9.op.l.length m9.op.c] 24))
  replace Nm8 := Lib.hid (Nm8.out.alloc (.cells #[.int .i64 m9.own, .int .i64 m9.ot, .slice m9.ag.A m9.ag.l.length m9.ag.c, .slice m9.op.A m9.op.l.length m9.op.c] 24))
  replace X8 := Lib.hid (X8.out.alloc (.cells #[.int .i64 m9.own, .int .i64 m9.ot, .slice m9.ag.A m9.ag.l.length m9.ag.c, .slice m9.op.A m9.op.l.length m9.op.c] 24))
  replace Nm9 := Lib.hid (Nm9.out.alloc (.cells #[.int .i64 m9.own, .int .i64 m9.ot, .slice m9.ag.A m9.ag.l.length m9.ag.c, .slice m9.op.A m9.op.l.length m9.op.c] 24))
  replace E := Lib.hid (ext_alloc E.out (.cells #[.int .i64 0, .int .i64 0, .int .i64 0, .int .i64 0, .int .i64 0] 26))
  replace Nm1 := Lib.hid (Nm1.out.alloc (.cells #[.int .i64 0, .int .i64 0, .int .i64 0, .int .i64 0, .int .i64 0] 26))
  replace X1 := Lib.hid (X1.out.alloc (.cells #[.int .i64 0, .int .i64 0, .int .i64 0, .int .i64 0, .int .i64 0] 26))
  replace Nm2 := Lib.hid (Nm2.out.alloc (.cells #[.int .i64 0, .int .i64 0, .int .i64 0, .int .i64 0, .int .i64 0] 26))
  replace X2 := Lib.hid (X2.out.alloc (.cells #[.int .i64 0, .int .i64 0, .int .i64 0, .int .i64 0, .int .i64 0] 26))
  replace Nm5 := Lib.hid (Nm5.out.alloc (.cells #[.int .i64 0, .int .i64 0, .int .i64 0, .int .i64 0, .int .i64 0] 26))
  replace X5 := Lib.hid (X5.out.alloc (.cells #[.int .i64 0, .int .i64 0, .int .i64 0, .int .i64 0, .int .i64 0] 26))
  replace Y5 := Lib.hid (Y5.out.alloc (.cells #[.int .i64 0, .int .i64 0, .int .i64 0, .int .i64 0, .int .i64 0] 26))
  replace Nm7 := Lib.hid (Nm7.out.alloc (.cells #[.int .i64 0, .int .i64 0, .int .i64 0, .int .i64 0, .int .i64 0] 26))
  replace X7 := Lib.hid (X7.out.alloc (.cells #[.int .i64 0, .int .i64 0, .int .i64 0, .int .i64 0, .int .i64 0] 26))
  replace Y7 := Lib.hid (Y7.out.alloc (.cells #[.int .i64 0, .int .i64 0, .int .i64 0, .int .i64 0, .int .i64 0] 26))
  replace Nm8 := Lib.hid (Nm8.out.alloc (.cells #[.int .i64 0, .int .i64 0, .int .i64 0, .int .i64 0, .int .i64 0] 26))
  replace X8 := Lib.hid (X8.out.alloc (.cells #[.int .i64 0, .int .i64 0, .int .i64 0, .int .i64 0, .int .i64 0] 26))
  replace Nm9 := Lib.hid (Nm9.out.alloc (.cells #[.int .i64 0, .int .i64 0, .int .i64 0, .int .i64 0, .int .i64 0] 26))
  clear Nm9 X1 Nm1
  clear Hm9
  have c0 := X2.out.c 0 _ rfl
  have c1 := X2.out.c 1 _ rfl
  have c2 := X2.out.c 2 _ rfl
  have c3 := X2.out.c 3 _ rfl
  go_wp2_with fail
  refine (offer_at (b := m2) (f := 1) (t := 0) (m := 0) (r := 0) ⟨1, 0, [], [⟨2, 1, 0, 0, 0⟩]⟩ ⟨2, 1, 0, 0, 0⟩ 0 (by rw [Hm2.out]; decide +kernel) (by rw [Hm2.out]; decide +kernel) (by rw [Hm2.out]; decide +kernel) Nm2.out (lens_of Hm2.out (by decide))).mono ?_
  rintro e v10 ⟨m10, rfl, hm, hk, B, -⟩
  clear c0 c1 c2 c3
  replace E := Lib.hid (ext_trans E.out B)
  replace Nm2 := Lib.hid (Nm2.out.ext B)
  replace X2 := Lib.hid (X2.out.ext B)
  replace Nm5 := Lib.hid (Nm5.out.ext B)
  replace X5 := Lib.hid (X5.out.ext B)
  replace Y5 := Lib.hid (Y5.out.ext B)
  replace Nm7 := Lib.hid (Nm7.out.ext B)
  replace X7 := Lib.hid (X7.out.ext B)
  replace Y7 := Lib.hid (Y7.out.ext B)
  replace Nm8 := Lib.hid (Nm8.out.ext B)
  replace X8 := Lib.hid (X8.out.ext B)
  clear B
  have Hm10 := Lib.hid hm
  clear hm
  have Nm10 := Lib.hid hk
  clear hk
  replace E := Lib.hid (ext_alloc E.out (.cells #[.int .i64 m10.own, .int .i64 m10.ot, .slice m10.ag.A m10.ag.l.length m10.ag.c, .slice m10.op.A m10.op.l.length m10.op.c] 24))
  replace Nm2 := Lib.hid (Nm2.out.alloc (.cells #[.int .i64 m10.own, .int .i64 m10.ot, .slice m10.ag.A m10.ag.l.length m10.ag.c, .slice m10.op.A m10.op.l.length m10.op.c] 24))
  replace X2 := Lib.hid (X2.out.alloc (.cells #[.int .i64 m10.own, .int .i64 m10.ot, .slice m10.ag.A m10.ag.l.length m10.ag.c, .slice m10.op.A m10.op.l.length m10.op.c] 24))
  replace Nm5 := Lib.hid (Nm5.out.alloc (.cells #[.int .i64 m10.own, .int .i64 m10.ot, .slice m10.ag.A m10.ag.l.length m10.ag.c, .slice m10.op.A m10.op.l.length m10.op.c] 24))
  replace X5 := Lib.hid (X5.out.alloc (.cells #[.int .i64 m10.own, .int .i64 m10.ot, .slice m10.ag.A m10.ag.l.length m10.ag.c, .slice m10.op.A m10.op.l.length m10.op.c] 24))
  replace Y5 := Lib.hid (Y5.out.alloc (.cells #[.int .i64 m10.own, .int .i64 m10.ot, .slice m10.ag.A m10.ag.l.length m10.ag.c, .slice m10.op.A m10.op.l.length m10.op.c] 24))
  replace Nm7 := Lib.hid (Nm7.out.alloc (.cells #[.int .i64 m10.own, .int .i64 m10.ot, .slice m10.ag.A m10.ag.l.length m10.ag.c, .slice m10.op.A m10.op.l.length m10.op.c] 24))
  replace X7 := Lib.hid (X7.out.alloc (.cells #[.int .i64 m10.own, .int .i64 m10.ot, .slice m10.ag.A m10.ag.l.length m10.ag.c, .slice m10.op.A m10.op.l.length m10.op.c] 24))
  replace Y7 := Lib.hid (Y7.out.alloc (.cells #[.int .i64 m10.own, .int .i64 m10.ot, .slice m10.ag.A m10.ag.l.length m10.ag.c, .slice m10.op.A m10.op.l.length m10.op.c] 24))
  replace Nm8 := Lib.hid (Nm8.out.alloc (.cells #[.int .i64 m10.own, .int .i64 m10.ot, .slice m10.ag.A m10.ag.l.length m10.ag.c, .slice m10.op.A m10.op.l.length m10.op.c] 24))
  replace X8 := Lib.hid (X8.out.alloc (.cells #[.int .i64 m10.own, .int .i64 m10.ot, .slice m10.ag.A m10.ag.l.length m10.ag.c, .slice m10.op.A m10.op.l.length m10.op.c] 24))
  replace Nm10 := Lib.hid (Nm10.out.alloc (.cells #[.int .i64 m10.own, .int .i64 m10.ot, .slice m10.ag.A m10.ag.l.length m10.ag.c, .slice m10.op.A m10.op.l.length m10.op.c] 24))
  replace E := Lib.hid (ext_alloc E.out (.cells #[.int .i64 2, .int .i64 1, .int .i64 0, .int .i64 0, .int .i64 0] 26))
  replace Nm2 := Lib.hid (Nm2.out.alloc (.cells #[.int .i64 2, .int .i64 1, .int .i64 0, .int .i64 0, .int .i64 0] 26))
  replace X2 := Lib.hid (X2.out.alloc (.cells #[.int .i64 2, .int .i64 1, .int .i64 0, .int .i64 0, .int .i64 0] 26))
  replace Nm5 := Lib.hid (Nm5.out.alloc (.cells #[.int .i64 2, .int .i64 1, .int .i64 0, .int .i64 0, .int .i64 0] 26))
  replace X5 := Lib.hid (X5.out.alloc (.cells #[.int .i64 2, .int .i64 1, .int .i64 0, .int .i64 0, .int .i64 0] 26))
  replace Y5 := Lib.hid (Y5.out.alloc (.cells #[.int .i64 2, .int .i64 1, .int .i64 0, .int .i64 0, .int .i64 0] 26))
  replace Nm7 := Lib.hid (Nm7.out.alloc (.cells #[.int .i64 2, .int .i64 1, .int .i64 0, .int .i64 0, .int .i64 0] 26))
  replace X7 := Lib.hid (X7.out.alloc (.cells #[.int .i64 2, .int .i64 1, .int .i64 0, .int .i64 0, .int .i64 0] 26))
  replace Y7 := Lib.hid (Y7.out.alloc (.cells #[.int .i64 2, .int .i64 1, .int .i64 0, .int .i64 0, .int .i64 0] 26))
  replace Nm8 := Lib.hid (Nm8.out.alloc (.cells #[.int .i64 2, .int .i64 1, .int .i64 0, .int .i64 0, .int .i64 0] 26))
  replace X8 := Lib.hid (X8.out.alloc (.cells #[.int .i64 2, .int .i64 1, .int .i64 0, .int .i64 0, .int .i64 0] 26))
  replace Nm10 := Lib.hid (Nm10.out.alloc (.cells #[.int .i64 2, .int .i64 1, .int .i64 0, .int .i64 0, .int .i64 0] 26))
  have Y10 := Lib.hid (Blk.newH (v10.alloc (.cells #[.int .i64 m10.own, .int .i64 m10.ot, .slice m10.ag.A m10.ag.l.length m10.ag.c, .slice m10.op.A m10.op.l.length m10.op.c] 24)) [.int .i64 2, .int .i64 1, .int .i64 0, .int .i64 0, .int .i64 0] 26 (v10.heap.size + 1) (by first | rfl | simp))
  clear Nm10 X2 Nm2
  clear Hm10
  have c0 := X5.out.c 0 _ rfl
  have c1 := X5.out.c 1 _ rfl
  have c2 := X5.out.c 2 _ rfl
  have c3 := X5.out.c 3 _ rfl
  go_wp2_with fail
  refine (rate_at (b := m5) (f := 0) (t := 1) (m := 600) none (by rw [show m5.ag.l = _ from congrArg Bl.ag Hm5.out]; decide +kernel) Nm5.out.ag (maxLen_of Nm5.out.agl Nm5.out.agc)).mono ?_
  rintro e v11 ⟨rfl, B⟩
  clear c0 c1 c2 c3
  replace E := Lib.hid (ext_trans E.out B)
  replace Nm5 := Lib.hid (Nm5.out.ext B)
  replace X5 := Lib.hid (X5.out.ext B)
  replace Y5 := Lib.hid (Y5.out.ext B)
  replace Nm7 := Lib.hid (Nm7.out.ext B)
  replace X7 := Lib.hid (X7.out.ext B)
  replace Y7 := Lib.hid (Y7.out.ext B)
  replace Nm8 := Lib.hid (Nm8.out.ext B)
  replace X8 := Lib.hid (X8.out.ext B)
  replace Y10 := Lib.hid (Y10.out.ext B)
  clear B
  clear X5 Nm5
  have c0 := X8.out.c 0 _ rfl
  have c1 := X8.out.c 1 _ rfl
  have c2 := X8.out.c 2 _ rfl
  have c3 := X8.out.c 3 _ rfl
  go_wp2_with fail
  refine (rate_at (b := m8) (f := 0) (t := 1) (m := 700) (some ⟨1, 0, 1, 600, 30⟩) (by rw [show m8.ag.l = _ from congrArg Bl.ag Hm8.out]; decide +kernel) Nm8.out.ag (maxLen_of Nm8.out.agl Nm8.out.agc)).mono ?_
  rintro e v12 ⟨rfl, B⟩
  clear c0 c1 c2 c3
  replace E := Lib.hid (ext_trans E.out B)
  replace Y5 := Lib.hid (Y5.out.ext B)
  replace Nm7 := Lib.hid (Nm7.out.ext B)
  replace X7 := Lib.hid (X7.out.ext B)
  replace Y7 := Lib.hid (Y7.out.ext B)
  replace Nm8 := Lib.hid (Nm8.out.ext B)
  replace X8 := Lib.hid (X8.out.ext B)
  replace Y10 := Lib.hid (Y10.out.ext B)
  clear B
  have c0 := X8.out.c 0 _ rfl
  have c1 := X8.out.c 1 _ rfl
  have c2 := X8.out.c 2 _ rfl
  have c3 := X8.out.c 3 _ rfl
  go_wp2_with fail
  refine (rate_at (b := m8) (f := 0) (t := 1) (m := 599) none (by rw [show m8.ag.l = _ from congrArg Bl.ag Hm8.out]; decide +kernel) Nm8.out.ag (maxLen_of Nm8.out.agl Nm8.out.agc)).mono ?_
  rintro e v13 ⟨rfl, B⟩
  clear c0 c1 c2 c3
  replace E := Lib.hid (ext_trans E.out B)
  replace Y5 := Lib.hid (Y5.out.ext B)
  replace Nm7 := Lib.hid (Nm7.out.ext B)
  replace X7 := Lib.hid (X7.out.ext B)
  replace Y7 := Lib.hid (Y7.out.ext B)
  replace Nm8 := Lib.hid (Nm8.out.ext B)
  replace X8 := Lib.hid (X8.out.ext B)
  replace Y10 := Lib.hid (Y10.out.ext B)
  clear B
  have hz7 : m7.op.l = [] := congrArg Bl.op Hm7.out
  have hz8 : m8.op.l = [] := congrArg Bl.op Hm8.out
  have hs1 : ((m7.op.l.length : Int) + (m8.op.l.length : Int) == 0) = true := by rw [hz7, hz8]; rfl
  have hs2 : (m7.op.l.length : Int) + (m8.op.l.length : Int) = 0 := by rw [hz7, hz8]; rfl
  have heq : ∀ w, (binOp .eql 26 (.agg #[.int .i64 1, .int .i64 0, .int .i64 1, .int .i64 600, .int .i64 30]) (.agg #[.int .i64 1, .int .i64 0, .int .i64 1, .int .i64 600, .int .i64 30])).run Try.prog w = .ok (.bool true) w := fun w => by
    have := run_eql26 ⟨1, 0, 1, 600, 30⟩ ⟨1, 0, 1, 600, 30⟩ w; simpa using this
  have hl7 : m7.op.l.length ≤ 0 := by rw [hz7]; exact Nat.le_refl _
  have hl8 : m8.op.l.length ≤ 0 := by rw [hz8]; exact Nat.le_refl _
  clear hz7 hz8
  have x70 := X7.out.c 0 _ rfl
  have x71 := X7.out.c 1 _ rfl
  have x72 := X7.out.c 2 _ rfl
  have x73 := X7.out.c 3 _ rfl
  have x7f := X7.out.f
  have x7l := X7.out.lt
  have x80 := X8.out.c 0 _ rfl
  have x81 := X8.out.c 1 _ rfl
  have x82 := X8.out.c 2 _ rfl
  have x83 := X8.out.c 3 _ rfl
  have x8f := X8.out.f
  have x8l := X8.out.lt
  have y50 := Y5.out.c 0 _ rfl
  have y51 := Y5.out.c 1 _ rfl
  have y52 := Y5.out.c 2 _ rfl
  have y53 := Y5.out.c 3 _ rfl
  have y54 := Y5.out.c 4 _ rfl
  have y5f := Y5.out.f
  have y5l := Y5.out.lt
  have y70 := Y7.out.c 0 _ rfl
  have y71 := Y7.out.c 1 _ rfl
  have y72 := Y7.out.c 2 _ rfl
  have y73 := Y7.out.c 3 _ rfl
  have y74 := Y7.out.c 4 _ rfl
  have y7f := Y7.out.f
  have y7l := Y7.out.lt
  have y100 := Y10.out.c 0 _ rfl
  have y101 := Y10.out.c 1 _ rfl
  have y102 := Y10.out.c 2 _ rfl
  have y103 := Y10.out.c 3 _ rfl
  have y104 := Y10.out.c 4 _ rfl
  have y10f := Y10.out.f
  have y10l := Y10.out.lt
  go_wp2_with fail
  refine (sameAg true (by rw [show m7.ag.l = _ from congrArg Bl.ag Hm7.out, show m8.ag.l = _ from congrArg Bl.ag Hm8.out]; decide +kernel) rfl rfl Nm7.out.ag Nm8.out.ag (by have := (lens_of Hm7.out (by decide)).1; omega)).mono ?_
  rintro e v14 ⟨rfl, B⟩
  go_wp2_with fail
  go_ret
  exact ⟨rfl, ext_trans E.out B⟩
end Go.Proofs.Ytmnbeikhjbjpiaa
