/- Contracts: an offer is heard; an acceptance is confirmed. -/
import Derived.Test.YtmnbeikhjbjpiaaM
import Derived.Test.YtmnbeikhjbjpiaaN2
import Derived.Test.YtmnbeikhjbjpiaaPm
set_option linter.unusedSimpArgs false
set_option linter.unusedVariables false
namespace Go.Proofs.Ytmnbeikhjbjpiaa
open Go.RowKit
theorem agree_at {b : Bd} {a : Ag} {w : World} (x : Bl) (hx : b.bl.agree a = x) (hb : BOk w b) (ho : b.op.l.length ≤ 1000) (hp : PutOk b.ag.l a) : Calls Try.prog 43 #[.agg #[.int .i64 b.own, .int .i64 b.ot, .slice b.ag.A b.ag.l.length b.ag.c, .slice b.op.A b.op.l.length b.op.c], .agg #[.int .i64 a.no, .int .i64 a.f, .int .i64 a.t, .int .i64 a.m, .int .i64 a.r]] w (BvR w b.off x) := by subst hx; exact agree_any b a w hb ho hp
theorem move_at {b : Bd} {a : Ag} {w : World} (x : Bl) (hx : b.bl.agree a = x) (hb : BOk w b) (ho : b.op.l.length ≤ 1000) (hp : PutOk b.ag.l a) : Calls Try.prog 44 #[.agg #[.int .i64 b.own, .int .i64 b.ot, .slice b.ag.A b.ag.l.length b.ag.c, .slice b.op.A b.op.l.length b.op.c], .agg #[.int .i64 a.no, .int .i64 a.f, .int .i64 a.t, .int .i64 a.m, .int .i64 a.r]] w (BvR w b.off x) := by subst hx; exact move_any b a w hb ho hp
theorem has45_at {x : Ag} {A : Option Addr} {c n : Nat} {l : List Ag} {w : World} (r : Bool) (hr : l.contains x = r) (hn : n = l.length) (ha : Slc w Ag.cells 5 A l) (hl : l.length ≤ maxLen) : Calls Try.prog 45 #[.slice A n c, .agg #[.int .i64 x.no, .int .i64 x.f, .int .i64 x.t, .int .i64 x.m, .int .i64 x.r]] w (RetB w r) := by
  subst hr hn
  have h : l.contains x = l.any (fun y => decide (x = y)) := by rw [Bool.eq_iff_iff, List.contains_iff_mem, List.any_eq_true]; exact ⟨fun h => ⟨x, h, by simp⟩, fun ⟨y, hy, h⟩ => by rw [of_decide_eq_true h]; exact hy⟩
  rw [h]; exact containsEAg x A c l w ha hl
theorem putOk_op {b : Bd} {a : Ag} (h : b.bl.ok = true) (hl : b.op.l.length ≤ 1000) (hf : fits b.own b.ot a = true) : PutOk b.op.l a :=
  ⟨hl, (ok_iff.1 h).2.2.1.2, fun x hx => fits_no ((ok_iff.1 h).2.2.1.1 x hx), fits_no hf⟩
theorem putOk_ag {b : Bd} {a : Ag} (h : b.bl.ok = true) (hl : b.ag.l.length ≤ 1000) (hf : fits b.own b.ot a = true) : PutOk b.ag.l a :=
  ⟨hl, (ok_iff.1 h).2.1.2, fun x hx => fits_no ((ok_iff.1 h).2.1.1 x hx), fits_no hf⟩
set_option maxHeartbeats 1600000 in
set_option maxRecDepth 100000 in
theorem confirm_any (b : Bd) (a : Ag) (w : World) (hb : BOk w b) (hl : b.ag.l.length ≤ 1000 ∧ b.op.l.length ≤ 1000) : Calls Try.prog 19 #[b.v, a.v] w (BdR w b.off (b.bl.conB a) (b.bl.conE a)) := by
  have hagl := maxLen_of hb.agl hb.agc
  have hopl := maxLen_of hb.opl hb.opc
  have HOFF := Lib.hid (fun c (h : w.heap.size ≤ c) => hb.off h)
  have HLL := Lib.hid hl
  clear hl
  obtain ⟨v, hv⟩ : ∃ v, b.bl.ok = v := ⟨_, rfl⟩
  obtain ⟨od, hod⟩ : ∃ v, offd a.no b.own b.ot = v := ⟨_, rfl⟩
  obtain ⟨h1, hh1⟩ : ∃ v, b.ag.l.contains a = v := ⟨_, rfl⟩
  obtain ⟨h2, hh2⟩ : ∃ v, b.op.l.contains a = v := ⟨_, rfl⟩
  obtain ⟨err, herr⟩ : ∃ e, b.bl.conE a = e := ⟨_, rfl⟩
  have HE := Lib.hid (show err = if v && od && (h1 || h2) then 0 else 480 by rw [← herr, ← hv, ← hod, ← hh1, ← hh2]; rfl)
  have HE0 := Lib.hid herr
  have HZ := Lib.hid (show err ≠ 0 → b.bl.conB a = zeroB from fun h => by unfold Bl.conB; rw [herr, if_neg h])
  have HV := Lib.hid hv
  have HOD := Lib.hid hod
  have H1 := Lib.hid hh1
  have H2 := Lib.hid hh2
  rw [herr]
  clear hv hod hh1 hh2 herr
  cases v
  · have E := Lib.hid (ext_refl w)
    have HB := Lib.hid (hb)
    clear hb
    replace E := Lib.hid (ext_alloc E.out (.cells #[.int .i64 b.own, .int .i64 b.ot, .slice b.ag.A b.ag.l.length b.ag.c, .slice b.op.A b.op.l.length b.op.c] 24))
    replace HB := Lib.hid (HB.out.alloc (.cells #[.int .i64 b.own, .int .i64 b.ot, .slice b.ag.A b.ag.l.length b.ag.c, .slice b.op.A b.op.l.length b.op.c] 24))
    have BB := Lib.hid (Blk.newH w [.int .i64 b.own, .int .i64 b.ot, .slice b.ag.A b.ag.l.length b.ag.c, .slice b.op.A b.op.l.length b.op.c] 24 (w.heap.size) (by first | rfl | simp))
    replace E := Lib.hid (ext_alloc E.out (.cells #[.int .i64 a.no, .int .i64 a.f, .int .i64 a.t, .int .i64 a.m, .int .i64 a.r] 26))
    replace HB := Lib.hid (HB.out.alloc (.cells #[.int .i64 a.no, .int .i64 a.f, .int .i64 a.t, .int .i64 a.m, .int .i64 a.r] 26))
    replace BB := Lib.hid (BB.out.alloc (.cells #[.int .i64 a.no, .int .i64 a.f, .int .i64 a.t, .int .i64 a.m, .int .i64 a.r] 26))
    have X := Lib.hid (Blk.newH (w.alloc (.cells #[.int .i64 b.own, .int .i64 b.ot, .slice b.ag.A b.ag.l.length b.ag.c, .slice b.op.A b.op.l.length b.op.c] 24)) [.int .i64 a.no, .int .i64 a.f, .int .i64 a.t, .int .i64 a.m, .int .i64 a.r] 26 (w.heap.size + 1) (by first | rfl | simp))
    replace E := Lib.hid (ext_alloc E.out (.cells #[.int .i64 0, .int .i64 0, .slice none 0 0, .slice none 0 0] 24))
    replace HB := Lib.hid (HB.out.alloc (.cells #[.int .i64 0, .int .i64 0, .slice none 0 0, .slice none 0 0] 24))
    replace BB := Lib.hid (BB.out.alloc (.cells #[.int .i64 0, .int .i64 0, .slice none 0 0, .slice none 0 0] 24))
    replace X := Lib.hid (X.out.alloc (.cells #[.int .i64 0, .int .i64 0, .slice none 0 0, .slice none 0 0] 24))
    have R := Lib.hid (Blk.newH ((w.alloc (.cells #[.int .i64 b.own, .int .i64 b.ot, .slice b.ag.A b.ag.l.length b.ag.c, .slice b.op.A b.op.l.length b.op.c] 24)).alloc (.cells #[.int .i64 a.no, .int .i64 a.f, .int .i64 a.t, .int .i64 a.m, .int .i64 a.r] 26)) [.int .i64 0, .int .i64 0, .slice none 0 0, .slice none 0 0] 24 (w.heap.size + 1 + 1) (by first | rfl | simp))
    replace E := Lib.hid (ext_alloc E.out (.cells #[.int .i64 b.own, .int .i64 b.ot, .slice b.ag.A b.ag.l.length b.ag.c, .slice b.op.A b.op.l.length b.op.c] 64))
    replace HB := Lib.hid (HB.out.alloc (.cells #[.int .i64 b.own, .int .i64 b.ot, .slice b.ag.A b.ag.l.length b.ag.c, .slice b.op.A b.op.l.length b.op.c] 64))
    replace BB := Lib.hid (BB.out.alloc (.cells #[.int .i64 b.own, .int .i64 b.ot, .slice b.ag.A b.ag.l.length b.ag.c, .slice b.op.A b.op.l.length b.op.c] 64))
    replace X := Lib.hid (X.out.alloc (.cells #[.int .i64 b.own, .int .i64 b.ot, .slice b.ag.A b.ag.l.length b.ag.c, .slice b.op.A b.op.l.length b.op.c] 64))
    replace R := Lib.hid (R.out.alloc (.cells #[.int .i64 b.own, .int .i64 b.ot, .slice b.ag.A b.ag.l.length b.ag.c, .slice b.op.A b.op.l.length b.op.c] 64))
    have Y := Lib.hid (Blk.newH (((w.alloc (.cells #[.int .i64 b.own, .int .i64 b.ot, .slice b.ag.A b.ag.l.length b.ag.c, .slice b.op.A b.op.l.length b.op.c] 24)).alloc (.cells #[.int .i64 a.no, .int .i64 a.f, .int .i64 a.t, .int .i64 a.m, .int .i64 a.r] 26)).alloc (.cells #[.int .i64 0, .int .i64 0, .slice none 0 0, .slice none 0 0] 24)) [.int .i64 b.own, .int .i64 b.ot, .slice b.ag.A b.ag.l.length b.ag.c, .slice b.op.A b.op.l.length b.op.c] 64 (w.heap.size + 1 + 1 + 1) (by first | rfl | simp))
    go_enter Try.func19, Try.ntmps19
    have c0 := Y.out.c 0 _ rfl
    have c1 := Y.out.c 1 _ rfl
    have c2 := Y.out.c 2 _ rfl
    have c3 := Y.out.c 3 _ rfl
    go_wp2_with fail
    refine (valid33_at false HV.out HB.out).mono ?_
    rintro e v1 ⟨rfl, B⟩
    clear c0 c1 c2 c3
    replace E := Lib.hid (ext_trans E.out B)
    replace HB := Lib.hid (HB.out.ext B)
    replace BB := Lib.hid (BB.out.ext B)
    replace X := Lib.hid (X.out.ext B)
    replace R := Lib.hid (R.out.ext B)
    replace Y := Lib.hid (Y.out.ext B)
    clear B
    have HERR := Lib.hid (show err = 480 by rw [HE.out]; rfl)
    have r0 := R.out.c 0 _ rfl
    have r1 := R.out.c 1 _ rfl
    have r2 := R.out.c 2 _ rfl
    have r3 := R.out.c 3 _ rfl
    have rf := R.out.f
    have rl := R.out.lt
    replace E := Lib.hid (ext_set4 E.out (w.heap.size + 1 + 1) (.int .i64 0) (.int .i64 0) (.slice none 0 0) (.slice none 0 0) (by first | exact Nat.le_refl _ | omega | (simp; done) | (simp; omega)))
    replace HB := Lib.hid (HB.out.set4 (c := (w.heap.size + 1 + 1)) (.int .i64 0) (.int .i64 0) (.slice none 0 0) (.slice none 0 0) (HOFF.out _ (by omega)))
    replace BB := Lib.hid (BB.out.off4 (c := w.heap.size + 1 + 1) (.int .i64 0) (.int .i64 0) (.slice none 0 0) (.slice none 0 0) (by first | omega | (simp; done) | (simp; omega)))
    replace X := Lib.hid (X.out.off4 (c := w.heap.size + 1 + 1) (.int .i64 0) (.int .i64 0) (.slice none 0 0) (.slice none 0 0) (by first | omega | (simp; done) | (simp; omega)))
    replace R := Lib.hid (R.out.put4 (.int .i64 0) (.int .i64 0) (.slice none 0 0) (.slice none 0 0))
    replace Y := Lib.hid (Y.out.off4 (c := w.heap.size + 1 + 1) (.int .i64 0) (.int .i64 0) (.slice none 0 0) (.slice none 0 0) (by first | omega | (simp; done) | (simp; omega)))
    unfold set4 at E HB BB X R Y
    go_wp2_with fail
    refine bodyPost_ret (v := .tuple #[.agg #[.int .i64 0, .int .i64 0, .slice none 0 0, .slice none 0 0], .int .i64 480]) (by simp [results, Try.results19, go_sem, *]) rfl ?_
    exact BdR.zero HERR.out HZ.out (by decide) rfl E.out
  cases od
  · have E := Lib.hid (ext_refl w)
    have HB := Lib.hid (hb)
    clear hb
    replace E := Lib.hid (ext_alloc E.out (.cells #[.int .i64 b.own, .int .i64 b.ot, .slice b.ag.A b.ag.l.length b.ag.c, .slice b.op.A b.op.l.length b.op.c] 24))
    replace HB := Lib.hid (HB.out.alloc (.cells #[.int .i64 b.own, .int .i64 b.ot, .slice b.ag.A b.ag.l.length b.ag.c, .slice b.op.A b.op.l.length b.op.c] 24))
    have BB := Lib.hid (Blk.newH w [.int .i64 b.own, .int .i64 b.ot, .slice b.ag.A b.ag.l.length b.ag.c, .slice b.op.A b.op.l.length b.op.c] 24 (w.heap.size) (by first | rfl | simp))
    replace E := Lib.hid (ext_alloc E.out (.cells #[.int .i64 a.no, .int .i64 a.f, .int .i64 a.t, .int .i64 a.m, .int .i64 a.r] 26))
    replace HB := Lib.hid (HB.out.alloc (.cells #[.int .i64 a.no, .int .i64 a.f, .int .i64 a.t, .int .i64 a.m, .int .i64 a.r] 26))
    replace BB := Lib.hid (BB.out.alloc (.cells #[.int .i64 a.no, .int .i64 a.f, .int .i64 a.t, .int .i64 a.m, .int .i64 a.r] 26))
    have X := Lib.hid (Blk.newH (w.alloc (.cells #[.int .i64 b.own, .int .i64 b.ot, .slice b.ag.A b.ag.l.length b.ag.c, .slice b.op.A b.op.l.length b.op.c] 24)) [.int .i64 a.no, .int .i64 a.f, .int .i64 a.t, .int .i64 a.m, .int .i64 a.r] 26 (w.heap.size + 1) (by first | rfl | simp))
    replace E := Lib.hid (ext_alloc E.out (.cells #[.int .i64 0, .int .i64 0, .slice none 0 0, .slice none 0 0] 24))
    replace HB := Lib.hid (HB.out.alloc (.cells #[.int .i64 0, .int .i64 0, .slice none 0 0, .slice none 0 0] 24))
    replace BB := Lib.hid (BB.out.alloc (.cells #[.int .i64 0, .int .i64 0, .slice none 0 0, .slice none 0 0] 24))
    replace X := Lib.hid (X.out.alloc (.cells #[.int .i64 0, .int .i64 0, .slice none 0 0, .slice none 0 0] 24))
    have R := Lib.hid (Blk.newH ((w.alloc (.cells #[.int .i64 b.own, .int .i64 b.ot, .slice b.ag.A b.ag.l.length b.ag.c, .slice b.op.A b.op.l.length b.op.c] 24)).alloc (.cells #[.int .i64 a.no, .int .i64 a.f, .int .i64 a.t, .int .i64 a.m, .int .i64 a.r] 26)) [.int .i64 0, .int .i64 0, .slice none 0 0, .slice none 0 0] 24 (w.heap.size + 1 + 1) (by first | rfl | simp))
    replace E := Lib.hid (ext_alloc E.out (.cells #[.int .i64 b.own, .int .i64 b.ot, .slice b.ag.A b.ag.l.length b.ag.c, .slice b.op.A b.op.l.length b.op.c] 64))
    replace HB := Lib.hid (HB.out.alloc (.cells #[.int .i64 b.own, .int .i64 b.ot, .slice b.ag.A b.ag.l.length b.ag.c, .slice b.op.A b.op.l.length b.op.c] 64))
    replace BB := Lib.hid (BB.out.alloc (.cells #[.int .i64 b.own, .int .i64 b.ot, .slice b.ag.A b.ag.l.length b.ag.c, .slice b.op.A b.op.l.length b.op.c] 64))
    replace X := Lib.hid (X.out.alloc (.cells #[.int .i64 b.own, .int .i64 b.ot, .slice b.ag.A b.ag.l.length b.ag.c, .slice b.op.A b.op.l.length b.op.c] 64))
    replace R := Lib.hid (R.out.alloc (.cells #[.int .i64 b.own, .int .i64 b.ot, .slice b.ag.A b.ag.l.length b.ag.c, .slice b.op.A b.op.l.length b.op.c] 64))
    have Y := Lib.hid (Blk.newH (((w.alloc (.cells #[.int .i64 b.own, .int .i64 b.ot, .slice b.ag.A b.ag.l.length b.ag.c, .slice b.op.A b.op.l.length b.op.c] 24)).alloc (.cells #[.int .i64 a.no, .int .i64 a.f, .int .i64 a.t, .int .i64 a.m, .int .i64 a.r] 26)).alloc (.cells #[.int .i64 0, .int .i64 0, .slice none 0 0, .slice none 0 0] 24)) [.int .i64 b.own, .int .i64 b.ot, .slice b.ag.A b.ag.l.length b.ag.c, .slice b.op.A b.op.l.length b.op.c] 64 (w.heap.size + 1 + 1 + 1) (by first | rfl | simp))
    go_enter Try.func19, Try.ntmps19
    have c0 := Y.out.c 0 _ rfl
    have c1 := Y.out.c 1 _ rfl
    have c2 := Y.out.c 2 _ rfl
    have c3 := Y.out.c 3 _ rfl
    go_wp2_with fail
    refine (valid33_at true HV.out HB.out).mono ?_
    rintro e v1 ⟨rfl, B⟩
    clear c0 c1 c2 c3
    replace E := Lib.hid (ext_trans E.out B)
    replace HB := Lib.hid (HB.out.ext B)
    replace BB := Lib.hid (BB.out.ext B)
    replace X := Lib.hid (X.out.ext B)
    replace R := Lib.hid (R.out.ext B)
    replace Y := Lib.hid (Y.out.ext B)
    clear B
    have c0 := Y.out.c 0 _ rfl
    have c1 := Y.out.c 1 _ rfl
    have c2 := Y.out.c 2 _ rfl
    have c3 := Y.out.c 3 _ rfl
    have c4 := X.out.c 0 _ rfl
    go_wp2_with fail
    refine (ours_at (b := b) false HOD.out).mono ?_
    rintro e v2 ⟨rfl, B⟩
    clear c0 c1 c2 c3 c4
    replace E := Lib.hid (ext_trans E.out B)
    replace HB := Lib.hid (HB.out.ext B)
    replace BB := Lib.hid (BB.out.ext B)
    replace X := Lib.hid (X.out.ext B)
    replace R := Lib.hid (R.out.ext B)
    replace Y := Lib.hid (Y.out.ext B)
    clear B
    have HERR := Lib.hid (show err = 480 by rw [HE.out]; rfl)
    have r0 := R.out.c 0 _ rfl
    have r1 := R.out.c 1 _ rfl
    have r2 := R.out.c 2 _ rfl
    have r3 := R.out.c 3 _ rfl
    have rf := R.out.f
    have rl := R.out.lt
    replace E := Lib.hid (ext_set4 E.out (w.heap.size + 1 + 1) (.int .i64 0) (.int .i64 0) (.slice none 0 0) (.slice none 0 0) (by first | exact Nat.le_refl _ | omega | (simp; done) | (simp; omega)))
    replace HB := Lib.hid (HB.out.set4 (c := (w.heap.size + 1 + 1)) (.int .i64 0) (.int .i64 0) (.slice none 0 0) (.slice none 0 0) (HOFF.out _ (by omega)))
    replace BB := Lib.hid (BB.out.off4 (c := w.heap.size + 1 + 1) (.int .i64 0) (.int .i64 0) (.slice none 0 0) (.slice none 0 0) (by first | omega | (simp; done) | (simp; omega)))
    replace X := Lib.hid (X.out.off4 (c := w.heap.size + 1 + 1) (.int .i64 0) (.int .i64 0) (.slice none 0 0) (.slice none 0 0) (by first | omega | (simp; done) | (simp; omega)))
    replace R := Lib.hid (R.out.put4 (.int .i64 0) (.int .i64 0) (.slice none 0 0) (.slice none 0 0))
    replace Y := Lib.hid (Y.out.off4 (c := w.heap.size + 1 + 1) (.int .i64 0) (.int .i64 0) (.slice none 0 0) (.slice none 0 0) (by first | omega | (simp; done) | (simp; omega)))
    unfold set4 at E HB BB X R Y
    go_wp2_with fail
    refine bodyPost_ret (v := .tuple #[.agg #[.int .i64 0, .int .i64 0, .slice none 0 0, .slice none 0 0], .int .i64 480]) (by simp [results, Try.results19, go_sem, *]) rfl ?_
    exact BdR.zero HERR.out HZ.out (by decide) rfl E.out
  cases h1
  rotate_left
  · have E := Lib.hid (ext_refl w)
    have HB := Lib.hid (hb)
    clear hb
    replace E := Lib.hid (ext_alloc E.out (.cells #[.int .i64 b.own, .int .i64 b.ot, .slice b.ag.A b.ag.l.length b.ag.c, .slice b.op.A b.op.l.length b.op.c] 24))
    replace HB := Lib.hid (HB.out.alloc (.cells #[.int .i64 b.own, .int .i64 b.ot, .slice b.ag.A b.ag.l.length b.ag.c, .slice b.op.A b.op.l.length b.op.c] 24))
    have BB := Lib.hid (Blk.newH w [.int .i64 b.own, .int .i64 b.ot, .slice b.ag.A b.ag.l.length b.ag.c, .slice b.op.A b.op.l.length b.op.c] 24 (w.heap.size) (by first | rfl | simp))
    replace E := Lib.hid (ext_alloc E.out (.cells #[.int .i64 a.no, .int .i64 a.f, .int .i64 a.t, .int .i64 a.m, .int .i64 a.r] 26))
    replace HB := Lib.hid (HB.out.alloc (.cells #[.int .i64 a.no, .int .i64 a.f, .int .i64 a.t, .int .i64 a.m, .int .i64 a.r] 26))
    replace BB := Lib.hid (BB.out.alloc (.cells #[.int .i64 a.no, .int .i64 a.f, .int .i64 a.t, .int .i64 a.m, .int .i64 a.r] 26))
    have X := Lib.hid (Blk.newH (w.alloc (.cells #[.int .i64 b.own, .int .i64 b.ot, .slice b.ag.A b.ag.l.length b.ag.c, .slice b.op.A b.op.l.length b.op.c] 24)) [.int .i64 a.no, .int .i64 a.f, .int .i64 a.t, .int .i64 a.m, .int .i64 a.r] 26 (w.heap.size + 1) (by first | rfl | simp))
    replace E := Lib.hid (ext_alloc E.out (.cells #[.int .i64 0, .int .i64 0, .slice none 0 0, .slice none 0 0] 24))
    replace HB := Lib.hid (HB.out.alloc (.cells #[.int .i64 0, .int .i64 0, .slice none 0 0, .slice none 0 0] 24))
    replace BB := Lib.hid (BB.out.alloc (.cells #[.int .i64 0, .int .i64 0, .slice none 0 0, .slice none 0 0] 24))
    replace X := Lib.hid (X.out.alloc (.cells #[.int .i64 0, .int .i64 0, .slice none 0 0, .slice none 0 0] 24))
    have R := Lib.hid (Blk.newH ((w.alloc (.cells #[.int .i64 b.own, .int .i64 b.ot, .slice b.ag.A b.ag.l.length b.ag.c, .slice b.op.A b.op.l.length b.op.c] 24)).alloc (.cells #[.int .i64 a.no, .int .i64 a.f, .int .i64 a.t, .int .i64 a.m, .int .i64 a.r] 26)) [.int .i64 0, .int .i64 0, .slice none 0 0, .slice none 0 0] 24 (w.heap.size + 1 + 1) (by first | rfl | simp))
    replace E := Lib.hid (ext_alloc E.out (.cells #[.int .i64 b.own, .int .i64 b.ot, .slice b.ag.A b.ag.l.length b.ag.c, .slice b.op.A b.op.l.length b.op.c] 64))
    replace HB := Lib.hid (HB.out.alloc (.cells #[.int .i64 b.own, .int .i64 b.ot, .slice b.ag.A b.ag.l.length b.ag.c, .slice b.op.A b.op.l.length b.op.c] 64))
    replace BB := Lib.hid (BB.out.alloc (.cells #[.int .i64 b.own, .int .i64 b.ot, .slice b.ag.A b.ag.l.length b.ag.c, .slice b.op.A b.op.l.length b.op.c] 64))
    replace X := Lib.hid (X.out.alloc (.cells #[.int .i64 b.own, .int .i64 b.ot, .slice b.ag.A b.ag.l.length b.ag.c, .slice b.op.A b.op.l.length b.op.c] 64))
    replace R := Lib.hid (R.out.alloc (.cells #[.int .i64 b.own, .int .i64 b.ot, .slice b.ag.A b.ag.l.length b.ag.c, .slice b.op.A b.op.l.length b.op.c] 64))
    have Y := Lib.hid (Blk.newH (((w.alloc (.cells #[.int .i64 b.own, .int .i64 b.ot, .slice b.ag.A b.ag.l.length b.ag.c, .slice b.op.A b.op.l.length b.op.c] 24)).alloc (.cells #[.int .i64 a.no, .int .i64 a.f, .int .i64 a.t, .int .i64 a.m, .int .i64 a.r] 26)).alloc (.cells #[.int .i64 0, .int .i64 0, .slice none 0 0, .slice none 0 0] 24)) [.int .i64 b.own, .int .i64 b.ot, .slice b.ag.A b.ag.l.length b.ag.c, .slice b.op.A b.op.l.length b.op.c] 64 (w.heap.size + 1 + 1 + 1) (by first | rfl | simp))
    go_enter Try.func19, Try.ntmps19
    have c0 := Y.out.c 0 _ rfl
    have c1 := Y.out.c 1 _ rfl
    have c2 := Y.out.c 2 _ rfl
    have c3 := Y.out.c 3 _ rfl
    go_wp2_with fail
    refine (valid33_at true HV.out HB.out).mono ?_
    rintro e v1 ⟨rfl, B⟩
    clear c0 c1 c2 c3
    replace E := Lib.hid (ext_trans E.out B)
    replace HB := Lib.hid (HB.out.ext B)
    replace BB := Lib.hid (BB.out.ext B)
    replace X := Lib.hid (X.out.ext B)
    replace R := Lib.hid (R.out.ext B)
    replace Y := Lib.hid (Y.out.ext B)
    clear B
    have c0 := Y.out.c 0 _ rfl
    have c1 := Y.out.c 1 _ rfl
    have c2 := Y.out.c 2 _ rfl
    have c3 := Y.out.c 3 _ rfl
    have c4 := X.out.c 0 _ rfl
    go_wp2_with fail
    refine (ours_at (b := b) true HOD.out).mono ?_
    rintro e v2 ⟨rfl, B⟩
    clear c0 c1 c2 c3 c4
    replace E := Lib.hid (ext_trans E.out B)
    replace HB := Lib.hid (HB.out.ext B)
    replace BB := Lib.hid (BB.out.ext B)
    replace X := Lib.hid (X.out.ext B)
    replace R := Lib.hid (R.out.ext B)
    replace Y := Lib.hid (Y.out.ext B)
    clear B
    have c0 := BB.out.c 2 _ rfl
    have c1 := X.out.c 0 _ rfl
    have c2 := X.out.c 1 _ rfl
    have c3 := X.out.c 2 _ rfl
    have c4 := X.out.c 3 _ rfl
    have c5 := X.out.c 4 _ rfl
    go_wp2_with fail
    refine (has45_at (x := a) true H1.out rfl HB.out.ag hagl).mono ?_
    rintro e v3 ⟨rfl, B⟩
    clear c0 c1 c2 c3 c4 c5
    replace E := Lib.hid (ext_trans E.out B)
    replace HB := Lib.hid (HB.out.ext B)
    replace BB := Lib.hid (BB.out.ext B)
    replace X := Lib.hid (X.out.ext B)
    replace R := Lib.hid (R.out.ext B)
    replace Y := Lib.hid (Y.out.ext B)
    clear B
    have HERR := Lib.hid (show err = 0 by rw [HE.out]; rfl)
    have HW := Lib.hid (show b.bl.conB a = b.bl by rw [conB_ok (by rw [HE0.out]; exact HERR.out), if_pos (show b.bl.ag.contains a = true from H1.out)])
    have bb0 := BB.out.c 0 _ rfl
    have bb1 := BB.out.c 1 _ rfl
    have bb2 := BB.out.c 2 _ rfl
    have bb3 := BB.out.c 3 _ rfl
    have bbf := BB.out.f
    have bbl := BB.out.lt
    have r0 := R.out.c 0 _ rfl
    have r1 := R.out.c 1 _ rfl
    have r2 := R.out.c 2 _ rfl
    have r3 := R.out.c 3 _ rfl
    have rf := R.out.f
    have rl := R.out.lt
    replace E := Lib.hid (ext_set4 E.out (w.heap.size + 1 + 1) (.int .i64 b.own) (.int .i64 b.ot) (.slice b.ag.A b.ag.l.length b.ag.c) (.slice b.op.A b.op.l.length b.op.c) (by first | exact Nat.le_refl _ | omega | (simp; done) | (simp; omega)))
    replace HB := Lib.hid (HB.out.set4 (c := (w.heap.size + 1 + 1)) (.int .i64 b.own) (.int .i64 b.ot) (.slice b.ag.A b.ag.l.length b.ag.c) (.slice b.op.A b.op.l.length b.op.c) (HOFF.out _ (by omega)))
    replace BB := Lib.hid (BB.out.off4 (c := w.heap.size + 1 + 1) (.int .i64 b.own) (.int .i64 b.ot) (.slice b.ag.A b.ag.l.length b.ag.c) (.slice b.op.A b.op.l.length b.op.c) (by first | omega | (simp; done) | (simp; omega)))
    replace X := Lib.hid (X.out.off4 (c := w.heap.size + 1 + 1) (.int .i64 b.own) (.int .i64 b.ot) (.slice b.ag.A b.ag.l.length b.ag.c) (.slice b.op.A b.op.l.length b.op.c) (by first | omega | (simp; done) | (simp; omega)))
    replace R := Lib.hid (R.out.put4 (.int .i64 b.own) (.int .i64 b.ot) (.slice b.ag.A b.ag.l.length b.ag.c) (.slice b.op.A b.op.l.length b.op.c))
    replace Y := Lib.hid (Y.out.off4 (c := w.heap.size + 1 + 1) (.int .i64 b.own) (.int .i64 b.ot) (.slice b.ag.A b.ag.l.length b.ag.c) (.slice b.op.A b.op.l.length b.op.c) (by first | omega | (simp; done) | (simp; omega)))
    unfold set4 at E HB BB X R Y
    go_wp2_with fail
    refine bodyPost_ret (v := .tuple #[b.v, .int .i64 0]) (by simp [results, Try.results19, go_sem, *]) rfl ?_
    rw [HW.out, HERR.out]
    exact ⟨b, rfl, rfl, HB.out, E.out, fun c _ h => h⟩
  cases h2
  · have E := Lib.hid (ext_refl w)
    have HB := Lib.hid (hb)
    clear hb
    replace E := Lib.hid (ext_alloc E.out (.cells #[.int .i64 b.own, .int .i64 b.ot, .slice b.ag.A b.ag.l.length b.ag.c, .slice b.op.A b.op.l.length b.op.c] 24))
    replace HB := Lib.hid (HB.out.alloc (.cells #[.int .i64 b.own, .int .i64 b.ot, .slice b.ag.A b.ag.l.length b.ag.c, .slice b.op.A b.op.l.length b.op.c] 24))
    have BB := Lib.hid (Blk.newH w [.int .i64 b.own, .int .i64 b.ot, .slice b.ag.A b.ag.l.length b.ag.c, .slice b.op.A b.op.l.length b.op.c] 24 (w.heap.size) (by first | rfl | simp))
    replace E := Lib.hid (ext_alloc E.out (.cells #[.int .i64 a.no, .int .i64 a.f, .int .i64 a.t, .int .i64 a.m, .int .i64 a.r] 26))
    replace HB := Lib.hid (HB.out.alloc (.cells #[.int .i64 a.no, .int .i64 a.f, .int .i64 a.t, .int .i64 a.m, .int .i64 a.r] 26))
    replace BB := Lib.hid (BB.out.alloc (.cells #[.int .i64 a.no, .int .i64 a.f, .int .i64 a.t, .int .i64 a.m, .int .i64 a.r] 26))
    have X := Lib.hid (Blk.newH (w.alloc (.cells #[.int .i64 b.own, .int .i64 b.ot, .slice b.ag.A b.ag.l.length b.ag.c, .slice b.op.A b.op.l.length b.op.c] 24)) [.int .i64 a.no, .int .i64 a.f, .int .i64 a.t, .int .i64 a.m, .int .i64 a.r] 26 (w.heap.size + 1) (by first | rfl | simp))
    replace E := Lib.hid (ext_alloc E.out (.cells #[.int .i64 0, .int .i64 0, .slice none 0 0, .slice none 0 0] 24))
    replace HB := Lib.hid (HB.out.alloc (.cells #[.int .i64 0, .int .i64 0, .slice none 0 0, .slice none 0 0] 24))
    replace BB := Lib.hid (BB.out.alloc (.cells #[.int .i64 0, .int .i64 0, .slice none 0 0, .slice none 0 0] 24))
    replace X := Lib.hid (X.out.alloc (.cells #[.int .i64 0, .int .i64 0, .slice none 0 0, .slice none 0 0] 24))
    have R := Lib.hid (Blk.newH ((w.alloc (.cells #[.int .i64 b.own, .int .i64 b.ot, .slice b.ag.A b.ag.l.length b.ag.c, .slice b.op.A b.op.l.length b.op.c] 24)).alloc (.cells #[.int .i64 a.no, .int .i64 a.f, .int .i64 a.t, .int .i64 a.m, .int .i64 a.r] 26)) [.int .i64 0, .int .i64 0, .slice none 0 0, .slice none 0 0] 24 (w.heap.size + 1 + 1) (by first | rfl | simp))
    replace E := Lib.hid (ext_alloc E.out (.cells #[.int .i64 b.own, .int .i64 b.ot, .slice b.ag.A b.ag.l.length b.ag.c, .slice b.op.A b.op.l.length b.op.c] 64))
    replace HB := Lib.hid (HB.out.alloc (.cells #[.int .i64 b.own, .int .i64 b.ot, .slice b.ag.A b.ag.l.length b.ag.c, .slice b.op.A b.op.l.length b.op.c] 64))
    replace BB := Lib.hid (BB.out.alloc (.cells #[.int .i64 b.own, .int .i64 b.ot, .slice b.ag.A b.ag.l.length b.ag.c, .slice b.op.A b.op.l.length b.op.c] 64))
    replace X := Lib.hid (X.out.alloc (.cells #[.int .i64 b.own, .int .i64 b.ot, .slice b.ag.A b.ag.l.length b.ag.c, .slice b.op.A b.op.l.length b.op.c] 64))
    replace R := Lib.hid (R.out.alloc (.cells #[.int .i64 b.own, .int .i64 b.ot, .slice b.ag.A b.ag.l.length b.ag.c, .slice b.op.A b.op.l.length b.op.c] 64))
    have Y := Lib.hid (Blk.newH (((w.alloc (.cells #[.int .i64 b.own, .int .i64 b.ot, .slice b.ag.A b.ag.l.length b.ag.c, .slice b.op.A b.op.l.length b.op.c] 24)).alloc (.cells #[.int .i64 a.no, .int .i64 a.f, .int .i64 a.t, .int .i64 a.m, .int .i64 a.r] 26)).alloc (.cells #[.int .i64 0, .int .i64 0, .slice none 0 0, .slice none 0 0] 24)) [.int .i64 b.own, .int .i64 b.ot, .slice b.ag.A b.ag.l.length b.ag.c, .slice b.op.A b.op.l.length b.op.c] 64 (w.heap.size + 1 + 1 + 1) (by first | rfl | simp))
    go_enter Try.func19, Try.ntmps19
    have c0 := Y.out.c 0 _ rfl
    have c1 := Y.out.c 1 _ rfl
    have c2 := Y.out.c 2 _ rfl
    have c3 := Y.out.c 3 _ rfl
    go_wp2_with fail
    refine (valid33_at true HV.out HB.out).mono ?_
    rintro e v1 ⟨rfl, B⟩
    clear c0 c1 c2 c3
    replace E := Lib.hid (ext_trans E.out B)
    replace HB := Lib.hid (HB.out.ext B)
    replace BB := Lib.hid (BB.out.ext B)
    replace X := Lib.hid (X.out.ext B)
    replace R := Lib.hid (R.out.ext B)
    replace Y := Lib.hid (Y.out.ext B)
    clear B
    have c0 := Y.out.c 0 _ rfl
    have c1 := Y.out.c 1 _ rfl
    have c2 := Y.out.c 2 _ rfl
    have c3 := Y.out.c 3 _ rfl
    have c4 := X.out.c 0 _ rfl
    go_wp2_with fail
    refine (ours_at (b := b) true HOD.out).mono ?_
    rintro e v2 ⟨rfl, B⟩
    clear c0 c1 c2 c3 c4
    replace E := Lib.hid (ext_trans E.out B)
    replace HB := Lib.hid (HB.out.ext B)
    replace BB := Lib.hid (BB.out.ext B)
    replace X := Lib.hid (X.out.ext B)
    replace R := Lib.hid (R.out.ext B)
    replace Y := Lib.hid (Y.out.ext B)
    clear B
    have c0 := BB.out.c 2 _ rfl
    have c1 := X.out.c 0 _ rfl
    have c2 := X.out.c 1 _ rfl
    have c3 := X.out.c 2 _ rfl
    have c4 := X.out.c 3 _ rfl
    have c5 := X.out.c 4 _ rfl
    go_wp2_with fail
    refine (has45_at (x := a) false H1.out rfl HB.out.ag hagl).mono ?_
    rintro e v3 ⟨rfl, B⟩
    clear c0 c1 c2 c3 c4 c5
    replace E := Lib.hid (ext_trans E.out B)
    replace HB := Lib.hid (HB.out.ext B)
    replace BB := Lib.hid (BB.out.ext B)
    replace X := Lib.hid (X.out.ext B)
    replace R := Lib.hid (R.out.ext B)
    replace Y := Lib.hid (Y.out.ext B)
    clear B
    have c0 := BB.out.c 3 _ rfl
    have c1 := X.out.c 0 _ rfl
    have c2 := X.out.c 1 _ rfl
    have c3 := X.out.c 2 _ rfl
    have c4 := X.out.c 3 _ rfl
    have c5 := X.out.c 4 _ rfl
    go_wp2_with fail
    refine (has45_at (x := a) false H2.out rfl HB.out.op hopl).mono ?_
    rintro e v4 ⟨rfl, B⟩
    clear c0 c1 c2 c3 c4 c5
    replace E := Lib.hid (ext_trans E.out B)
    replace HB := Lib.hid (HB.out.ext B)
    replace BB := Lib.hid (BB.out.ext B)
    replace X := Lib.hid (X.out.ext B)
    replace R := Lib.hid (R.out.ext B)
    replace Y := Lib.hid (Y.out.ext B)
    clear B
    have HERR := Lib.hid (show err = 480 by rw [HE.out]; rfl)
    have r0 := R.out.c 0 _ rfl
    have r1 := R.out.c 1 _ rfl
    have r2 := R.out.c 2 _ rfl
    have r3 := R.out.c 3 _ rfl
    have rf := R.out.f
    have rl := R.out.lt
    replace E := Lib.hid (ext_set4 E.out (w.heap.size + 1 + 1) (.int .i64 0) (.int .i64 0) (.slice none 0 0) (.slice none 0 0) (by first | exact Nat.le_refl _ | omega | (simp; done) | (simp; omega)))
    replace HB := Lib.hid (HB.out.set4 (c := (w.heap.size + 1 + 1)) (.int .i64 0) (.int .i64 0) (.slice none 0 0) (.slice none 0 0) (HOFF.out _ (by omega)))
    replace BB := Lib.hid (BB.out.off4 (c := w.heap.size + 1 + 1) (.int .i64 0) (.int .i64 0) (.slice none 0 0) (.slice none 0 0) (by first | omega | (simp; done) | (simp; omega)))
    replace X := Lib.hid (X.out.off4 (c := w.heap.size + 1 + 1) (.int .i64 0) (.int .i64 0) (.slice none 0 0) (.slice none 0 0) (by first | omega | (simp; done) | (simp; omega)))
    replace R := Lib.hid (R.out.put4 (.int .i64 0) (.int .i64 0) (.slice none 0 0) (.slice none 0 0))
    replace Y := Lib.hid (Y.out.off4 (c := w.heap.size + 1 + 1) (.int .i64 0) (.int .i64 0) (.slice none 0 0) (.slice none 0 0) (by first | omega | (simp; done) | (simp; omega)))
    unfold set4 at E HB BB X R Y
    go_wp2_with fail
    refine bodyPost_ret (v := .tuple #[.agg #[.int .i64 0, .int .i64 0, .slice none 0 0, .slice none 0 0], .int .i64 480]) (by simp [results, Try.results19, go_sem, *]) rfl ?_
    exact BdR.zero HERR.out HZ.out (by decide) rfl E.out
  have E := Lib.hid (ext_refl w)
  have HB := Lib.hid (hb)
  clear hb
  replace E := Lib.hid (ext_alloc E.out (.cells #[.int .i64 b.own, .int .i64 b.ot, .slice b.ag.A b.ag.l.length b.ag.c, .slice b.op.A b.op.l.length b.op.c] 24))
  replace HB := Lib.hid (HB.out.alloc (.cells #[.int .i64 b.own, .int .i64 b.ot, .slice b.ag.A b.ag.l.length b.ag.c, .slice b.op.A b.op.l.length b.op.c] 24))
  have BB := Lib.hid (Blk.newH w [.int .i64 b.own, .int .i64 b.ot, .slice b.ag.A b.ag.l.length b.ag.c, .slice b.op.A b.op.l.length b.op.c] 24 (w.heap.size) (by first | rfl | simp))
  replace E := Lib.hid (ext_alloc E.out (.cells #[.int .i64 a.no, .int .i64 a.f, .int .i64 a.t, .int .i64 a.m, .int .i64 a.r] 26))
  replace HB := Lib.hid (HB.out.alloc (.cells #[.int .i64 a.no, .int .i64 a.f, .int .i64 a.t, .int .i64 a.m, .int .i64 a.r] 26))
  replace BB := Lib.hid (BB.out.alloc (.cells #[.int .i64 a.no, .int .i64 a.f, .int .i64 a.t, .int .i64 a.m, .int .i64 a.r] 26))
  have X := Lib.hid (Blk.newH (w.alloc (.cells #[.int .i64 b.own, .int .i64 b.ot, .slice b.ag.A b.ag.l.length b.ag.c, .slice b.op.A b.op.l.length b.op.c] 24)) [.int .i64 a.no, .int .i64 a.f, .int .i64 a.t, .int .i64 a.m, .int .i64 a.r] 26 (w.heap.size + 1) (by first | rfl | simp))
  replace E := Lib.hid (ext_alloc E.out (.cells #[.int .i64 0, .int .i64 0, .slice none 0 0, .slice none 0 0] 24))
  replace HB := Lib.hid (HB.out.alloc (.cells #[.int .i64 0, .int .i64 0, .slice none 0 0, .slice none 0 0] 24))
  replace BB := Lib.hid (BB.out.alloc (.cells #[.int .i64 0, .int .i64 0, .slice none 0 0, .slice none 0 0] 24))
  replace X := Lib.hid (X.out.alloc (.cells #[.int .i64 0, .int .i64 0, .slice none 0 0, .slice none 0 0] 24))
  have R := Lib.hid (Blk.newH ((w.alloc (.cells #[.int .i64 b.own, .int .i64 b.ot, .slice b.ag.A b.ag.l.length b.ag.c, .slice b.op.A b.op.l.length b.op.c] 24)).alloc (.cells #[.int .i64 a.no, .int .i64 a.f, .int .i64 a.t, .int .i64 a.m, .int .i64 a.r] 26)) [.int .i64 0, .int .i64 0, .slice none 0 0, .slice none 0 0] 24 (w.heap.size + 1 + 1) (by first | rfl | simp))
  replace E := Lib.hid (ext_alloc E.out (.cells #[.int .i64 b.own, .int .i64 b.ot, .slice b.ag.A b.ag.l.length b.ag.c, .slice b.op.A b.op.l.length b.op.c] 64))
  replace HB := Lib.hid (HB.out.alloc (.cells #[.int .i64 b.own, .int .i64 b.ot, .slice b.ag.A b.ag.l.length b.ag.c, .slice b.op.A b.op.l.length b.op.c] 64))
  replace BB := Lib.hid (BB.out.alloc (.cells #[.int .i64 b.own, .int .i64 b.ot, .slice b.ag.A b.ag.l.length b.ag.c, .slice b.op.A b.op.l.length b.op.c] 64))
  replace X := Lib.hid (X.out.alloc (.cells #[.int .i64 b.own, .int .i64 b.ot, .slice b.ag.A b.ag.l.length b.ag.c, .slice b.op.A b.op.l.length b.op.c] 64))
  replace R := Lib.hid (R.out.alloc (.cells #[.int .i64 b.own, .int .i64 b.ot, .slice b.ag.A b.ag.l.length b.ag.c, .slice b.op.A b.op.l.length b.op.c] 64))
  have Y := Lib.hid (Blk.newH (((w.alloc (.cells #[.int .i64 b.own, .int .i64 b.ot, .slice b.ag.A b.ag.l.length b.ag.c, .slice b.op.A b.op.l.length b.op.c] 24)).alloc (.cells #[.int .i64 a.no, .int .i64 a.f, .int .i64 a.t, .int .i64 a.m, .int .i64 a.r] 26)).alloc (.cells #[.int .i64 0, .int .i64 0, .slice none 0 0, .slice none 0 0] 24)) [.int .i64 b.own, .int .i64 b.ot, .slice b.ag.A b.ag.l.length b.ag.c, .slice b.op.A b.op.l.length b.op.c] 64 (w.heap.size + 1 + 1 + 1) (by first | rfl | simp))
  go_enter Try.func19, Try.ntmps19
  have c0 := Y.out.c 0 _ rfl
  have c1 := Y.out.c 1 _ rfl
  have c2 := Y.out.c 2 _ rfl
  have c3 := Y.out.c 3 _ rfl
  go_wp2_with fail
  refine (valid33_at true HV.out HB.out).mono ?_
  rintro e v1 ⟨rfl, B⟩
  clear c0 c1 c2 c3
  replace E := Lib.hid (ext_trans E.out B)
  replace HB := Lib.hid (HB.out.ext B)
  replace BB := Lib.hid (BB.out.ext B)
  replace X := Lib.hid (X.out.ext B)
  replace R := Lib.hid (R.out.ext B)
  replace Y := Lib.hid (Y.out.ext B)
  clear B
  have c0 := Y.out.c 0 _ rfl
  have c1 := Y.out.c 1 _ rfl
  have c2 := Y.out.c 2 _ rfl
  have c3 := Y.out.c 3 _ rfl
  have c4 := X.out.c 0 _ rfl
  go_wp2_with fail
  refine (ours_at (b := b) true HOD.out).mono ?_
  rintro e v2 ⟨rfl, B⟩
  clear c0 c1 c2 c3 c4
  replace E := Lib.hid (ext_trans E.out B)
  replace HB := Lib.hid (HB.out.ext B)
  replace BB := Lib.hid (BB.out.ext B)
  replace X := Lib.hid (X.out.ext B)
  replace R := Lib.hid (R.out.ext B)
  replace Y := Lib.hid (Y.out.ext B)
  clear B
  have c0 := BB.out.c 2 _ rfl
  have c1 := X.out.c 0 _ rfl
  have c2 := X.out.c 1 _ rfl
  have c3 := X.out.c 2 _ rfl
  have c4 := X.out.c 3 _ rfl
  have c5 := X.out.c 4 _ rfl
  go_wp2_with fail
  refine (has45_at (x := a) false H1.out rfl HB.out.ag hagl).mono ?_
  rintro e v3 ⟨rfl, B⟩
  clear c0 c1 c2 c3 c4 c5
  replace E := Lib.hid (ext_trans E.out B)
  replace HB := Lib.hid (HB.out.ext B)
  replace BB := Lib.hid (BB.out.ext B)
  replace X := Lib.hid (X.out.ext B)
  replace R := Lib.hid (R.out.ext B)
  replace Y := Lib.hid (Y.out.ext B)
  clear B
  have c0 := BB.out.c 3 _ rfl
  have c1 := X.out.c 0 _ rfl
  have c2 := X.out.c 1 _ rfl
  have c3 := X.out.c 2 _ rfl
  have c4 := X.out.c 3 _ rfl
  have c5 := X.out.c 4 _ rfl
  go_wp2_with fail
  refine (has45_at (x := a) true H2.out rfl HB.out.op hopl).mono ?_
  rintro e v4 ⟨rfl, B⟩
  clear c0 c1 c2 c3 c4 c5
  replace E := Lib.hid (ext_trans E.out B)
  replace HB := Lib.hid (HB.out.ext B)
  replace BB := Lib.hid (BB.out.ext B)
  replace X := Lib.hid (X.out.ext B)
  replace R := Lib.hid (R.out.ext B)
  replace Y := Lib.hid (Y.out.ext B)
  clear B
  have HERR := Lib.hid (show err = 0 by rw [HE.out]; rfl)
  have HMA := Lib.hid (show a ∈ b.op.l by have := H2.out; simpa using this)
  have HNA := Lib.hid (show ¬ b.bl.ag.contains a = true by rw [show b.bl.ag.contains a = false from H1.out]; simp)
  have HW := Lib.hid (show b.bl.agree a = b.bl.conB a by rw [conB_ok (by rw [HE0.out]; exact HERR.out), if_neg HNA.out])
  have c0 := Y.out.c 0 _ rfl
  have c1 := Y.out.c 1 _ rfl
  have c2 := Y.out.c 2 _ rfl
  have c3 := Y.out.c 3 _ rfl
  have c4 := X.out.c 0 _ rfl
  have c5 := X.out.c 1 _ rfl
  have c6 := X.out.c 2 _ rfl
  have c7 := X.out.c 3 _ rfl
  have c8 := X.out.c 4 _ rfl
  go_wp2_with fail
  have EW := Lib.hid E.out.size
  have hrl := R.out.lt
  refine (agree_at (b := b) (a := a) _ HW.out HB.out HLL.out.2 (putOk_ag HV.out HLL.out.1 (ok_fits HV.out (.inr HMA.out)))).mono ?_
  rintro e v5 ⟨m, rfl, hm, hmo, B, hmf⟩
  clear c0 c1 c2 c3 c4 c5 c6 c7 c8
  replace E := Lib.hid (ext_trans E.out B)
  replace HB := Lib.hid (HB.out.ext B)
  replace BB := Lib.hid (BB.out.ext B)
  replace X := Lib.hid (X.out.ext B)
  replace R := Lib.hid (R.out.ext B)
  replace Y := Lib.hid (Y.out.ext B)
  clear B
  have HM := Lib.hid hm
  have HMF := Lib.hid (hmf (w.heap.size + 1 + 1) hrl (HOFF.out _ (by omega)))
  have HMF2 := Lib.hid hmf
  clear hm hmf
  clear hrl
  clear HB
  have HB := Lib.hid (hmo)
  clear hmo
  have r0 := R.out.c 0 _ rfl
  have r1 := R.out.c 1 _ rfl
  have r2 := R.out.c 2 _ rfl
  have r3 := R.out.c 3 _ rfl
  have rf := R.out.f
  have rl := R.out.lt
  replace E := Lib.hid (ext_set4 E.out (w.heap.size + 1 + 1) (.int .i64 m.own) (.int .i64 m.ot) (.slice m.ag.A m.ag.l.length m.ag.c) (.slice m.op.A m.op.l.length m.op.c) (by first | exact Nat.le_refl _ | omega | (simp; done) | (simp; omega)))
  replace BB := Lib.hid (BB.out.off4 (c := w.heap.size + 1 + 1) (.int .i64 m.own) (.int .i64 m.ot) (.slice m.ag.A m.ag.l.length m.ag.c) (.slice m.op.A m.op.l.length m.op.c) (by first | omega | (simp; done) | (simp; omega)))
  replace X := Lib.hid (X.out.off4 (c := w.heap.size + 1 + 1) (.int .i64 m.own) (.int .i64 m.ot) (.slice m.ag.A m.ag.l.length m.ag.c) (.slice m.op.A m.op.l.length m.op.c) (by first | omega | (simp; done) | (simp; omega)))
  replace R := Lib.hid (R.out.put4 (.int .i64 m.own) (.int .i64 m.ot) (.slice m.ag.A m.ag.l.length m.ag.c) (.slice m.op.A m.op.l.length m.op.c))
  replace Y := Lib.hid (Y.out.off4 (c := w.heap.size + 1 + 1) (.int .i64 m.own) (.int .i64 m.ot) (.slice m.ag.A m.ag.l.length m.ag.c) (.slice m.op.A m.op.l.length m.op.c) (by first | omega | (simp; done) | (simp; omega)))
  replace HB := Lib.hid (HB.out.set4 (c := (w.heap.size + 1 + 1)) (.int .i64 m.own) (.int .i64 m.ot) (.slice m.ag.A m.ag.l.length m.ag.c) (.slice m.op.A m.op.l.length m.op.c) HMF.out)
  unfold set4 at E BB X R Y HB
  go_wp2_with fail
  refine bodyPost_ret (v := .tuple #[m.v, .int .i64 0]) (by simp [results, Try.results19, go_sem, *]) rfl ?_
  rw [HERR.out]
  exact ⟨m, rfl, HM.out, HB.out, E.out, fun c hc h => HMF2.out c (by have := EW.out; omega) h⟩
end Go.Proofs.Ytmnbeikhjbjpiaa
