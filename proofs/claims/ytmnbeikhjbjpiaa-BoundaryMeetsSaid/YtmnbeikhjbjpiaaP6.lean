/- Contracts: an offer is heard, the reference's. -/
import Derived.Test.YtmnbeikhjbjpiaaP4
set_option linter.unusedSimpArgs false
set_option linter.unusedVariables false
namespace Go.Proofs.Ytmnbeikhjbjpiaa
open Go.RowKit
theorem one_list {b : Bl} (h : b.ok = true) {no : Int} {y : Ag} (h1 : numd b.ag no = some y) : numd b.op no = none := by
  cases h2 : numd b.op no with
  | none => rfl
  | some z =>
    obtain ⟨m1, e1⟩ := numd_some h1
    obtain ⟨m2, e2⟩ := numd_some h2
    exact absurd (e1.trans e2.symm) ((ok_iff.1 h).2.2.2 z m2 y m1)
set_option maxHeartbeats 1600000 in
set_option maxRecDepth 100000 in
theorem rhear_any (b : Bd) (a : Ag) (w : World) (hb : BOk w b) (hl : b.ag.l.length ≤ 1000 ∧ b.op.l.length ≤ 1000) : Calls Try.prog 15 #[b.v, a.v] w (BdR w b.off (b.bl.heaB a) (b.bl.heaE a)) := by
  have hagl := maxLen_of hb.agl hb.agc
  have hopl := maxLen_of hb.opl hb.opc
  have HOFF := Lib.hid (fun c (h : w.heap.size ≤ c) => hb.off h)
  have HLL := Lib.hid hl
  clear hl
  have HCP := Lib.hid (show _ ∧ _ from ⟨hb.opl, hb.opc⟩)
  obtain ⟨v, hv⟩ : ∃ v, b.bl.ok = v := ⟨_, rfl⟩
  obtain ⟨ft, hft⟩ : ∃ v, fits b.own b.ot a = v := ⟨_, rfl⟩
  obtain ⟨od, hod⟩ : ∃ v, offd a.no b.own b.ot = v := ⟨_, rfl⟩
  obtain ⟨n1, hn1⟩ : ∃ v, numd b.ag.l a.no = v := ⟨_, rfl⟩
  obtain ⟨n2, hn2⟩ : ∃ v, numd b.op.l a.no = v := ⟨_, rfl⟩
  obtain ⟨err, herr⟩ : ∃ e, b.bl.heaE a = e := ⟨_, rfl⟩
  have HAN := Lib.hid (show b.bl.any a.no = orA n1 n2 by rw [← hn1, ← hn2]; exact any_or b.bl a.no)
  have HE := Lib.hid (show err = if v && ft && !od then same0 (b.bl.any a.no) a else 480 by rw [← herr, ← hv, ← hft, ← hod]; exact heaE_of b.bl a)
  have HE0 := Lib.hid herr
  have HZ := Lib.hid (show err ≠ 0 → b.bl.heaB a = zeroB from fun h => by unfold Bl.heaB; rw [herr, if_neg h])
  have HV := Lib.hid hv
  have HFT := Lib.hid hft
  have HOD := Lib.hid hod
  have H1 := Lib.hid hn1
  have H2 := Lib.hid hn2
  rw [herr]
  clear hv hft hod hn1 hn2 herr
  cases v
  · have E := Lib.hid (ext_refl w)
    have HB := Lib.hid (hb)
    clear hb
    replace E := Lib.hid (ext_alloc E.out (.cells #[.int .i64 b.own, .int .i64 b.ot, .slice b.ag.A b.ag.l.length b.ag.c, .slice b.op.A b.op.l.length b.op.c] 24))
    replace HB := Lib.hid (HB.out.alloc (.cells #[.int .i64 b.own, .int .i64 b.ot, .slice b.ag.A b.ag.l.length b.ag.c, .slice b.op.A b.op.l.length b.op.c] 24))
    have BB := Lib.hid (Blk.newH w [.int .i64 b.own, .int .i64 b.ot, .slice b.ag.A b.ag.l.length b.ag.c, .slice b.op.A b.op.l.length b.op.c] 24 (w.heap.size) (by first | rfl | simp))
    replace E := Lib.hid (ext_alloc E.out (.cells #[.int .i64 a.no, .int .i64 a.f, .int .i64 a.t, .int .i64 a.m, .int .i64 a.r] 26))
    replace HB := Lib.hid (HB.out.alloc (.cells #[.int .i64 a.no, .int .i64 a.f, .int .i64 a.t, .int .i64 a.m, .int .i64 a.r] 26))
    replace BB := Lib.hid (BB.out.alloc (.cells #[.int .i64 a.no, .int .i64 a.f, .int .i64 a.t, .int .i64 a.m, .int .i64 a.r] 26))
    have X := Lib.hid (Blk.newH (w.alloc (.cells #[.int .i64 b.own, .int .i64 b.ot, .slice b.ag.A b.ag.l.length b.ag.c, .slice b.op.A b.op.l.length b.op.c] 24)) [.int .i64 a.no, .int .i64 a.f, .int .i64 a.t, .int .i64 a.m, .int .i64 a.r] 26 (w.heap.size + 1) (by first | rfl | simp))
    replace E := Lib.hid (ext_alloc E.out (.cells #[.int .i64 0, .int .i64 0, .slice none 0 0, .slice none 0 0] 24))
    replace HB := Lib.hid (HB.out.alloc (.cells #[.int .i64 0, .int .i64 0, .slice none 0 0, .slice none 0 0] 24))
    replace BB := Lib.hid (BB.out.alloc (.cells #[.int .i64 0, .int .i64 0, .slice none 0 0, .slice none 0 0] 24))
    replace X := Lib.hid (X.out.alloc (.cells #[.int .i64 0, .int .i64 0, .slice none 0 0, .slice none 0 0] 24))
    have R := Lib.hid (Blk.newH ((w.alloc (.cells #[.int .i64 b.own, .int .i64 b.ot, .slice b.ag.A b.ag.l.length b.ag.c, .slice b.op.A b.op.l.length b.op.c] 24)).alloc (.cells #[.int .i64 a.no, .int .i64 a.f, .int .i64 a.t, .int .i64 a.m, .int .i64 a.r] 26)) [.int .i64 0, .int .i64 0, .slice none 0 0, .slice none 0 0] 24 (w.heap.size + 1 + 1) (by first | rfl | simp))
    go_enter Try.func15, Try.ntmps15
    have c0 := BB.out.c 0 _ rfl
    have c1 := BB.out.c 1 _ rfl
    have c2 := BB.out.c 2 _ rfl
    have c3 := BB.out.c 3 _ rfl
    go_wp2_with fail
    refine (rcheck_at 480 (chk_ok HV.out) HB.out).mono ?_
    rintro e v1 ⟨rfl, B⟩
    clear c0 c1 c2 c3
    replace E := Lib.hid (ext_trans E.out B)
    replace HB := Lib.hid (HB.out.ext B)
    replace BB := Lib.hid (BB.out.ext B)
    replace X := Lib.hid (X.out.ext B)
    replace R := Lib.hid (R.out.ext B)
    clear B
    have HERR := Lib.hid (show err = 480 by rw [HE.out]; rfl)
    have r0 := R.out.c 0 _ rfl
    have r1 := R.out.c 1 _ rfl
    have r2 := R.out.c 2 _ rfl
    have r3 := R.out.c 3 _ rfl
    have rf := R.out.f
    have rl := R.out.lt
    replace E := Lib.hid (ext_set4 E.out (w.heap.size + 1 + 1) (.int .i64 0) (.int .i64 0) (.slice none 0 0) (.slice none 0 0) (by first | exact Nat.le_refl _ | omega | (simp; done) | (simp; omega)))
    replace HB := Lib.hid (HB.out.set4 (c := (w.heap.size + 1 + 1)) (.int .i64 0) (.int .i64 0) (.slice none 0 0) (.slice none 0 0) (HOFF.out _ (by omega)))
    replace BB := Lib.hid (BB.out.off4 (c := w.heap.size + 1 + 1) (.int .i64 0) (.int .i64 0) (.slice none 0 0) (.slice none 0 0) (by first | omega | (simp; done) | (simp; omega)))
    replace X := Lib.hid (X.out.off4 (c := w.heap.size + 1 + 1) (.int .i64 0) (.int .i64 0) (.slice none 0 0) (.slice none 0 0) (by first | omega | (simp; done) | (simp; omega)))
    replace R := Lib.hid (R.out.put4 (.int .i64 0) (.int .i64 0) (.slice none 0 0) (.slice none 0 0))
    unfold set4 at E HB BB X R
    go_wp2_with fail
    refine bodyPost_ret (v := .tuple #[.agg #[.int .i64 0, .int .i64 0, .slice none 0 0, .slice none 0 0], .int .i64 480]) (by simp [results, Try.results15, go_sem, *]) rfl ?_
    exact BdR.zero HERR.out HZ.out (by decide) rfl E.out
  cases ft
  · have E := Lib.hid (ext_refl w)
    have HB := Lib.hid (hb)
    clear hb
    replace E := Lib.hid (ext_alloc E.out (.cells #[.int .i64 b.own, .int .i64 b.ot, .slice b.ag.A b.ag.l.length b.ag.c, .slice b.op.A b.op.l.length b.op.c] 24))
    replace HB := Lib.hid (HB.out.alloc (.cells #[.int .i64 b.own, .int .i64 b.ot, .slice b.ag.A b.ag.l.length b.ag.c, .slice b.op.A b.op.l.length b.op.c] 24))
    have BB := Lib.hid (Blk.newH w [.int .i64 b.own, .int .i64 b.ot, .slice b.ag.A b.ag.l.length b.ag.c, .slice b.op.A b.op.l.length b.op.c] 24 (w.heap.size) (by first | rfl | simp))
    replace E := Lib.hid (ext_alloc E.out (.cells #[.int .i64 a.no, .int .i64 a.f, .int .i64 a.t, .int .i64 a.m, .int .i64 a.r] 26))
    replace HB := Lib.hid (HB.out.alloc (.cells #[.int .i64 a.no, .int .i64 a.f, .int .i64 a.t, .int .i64 a.m, .int .i64 a.r] 26))
    replace BB := Lib.hid (BB.out.alloc (.cells #[.int .i64 a.no, .int .i64 a.f, .int .i64 a.t, .int .i64 a.m, .int .i64 a.r] 26))
    have X := Lib.hid (Blk.newH (w.alloc (.cells #[.int .i64 b.own, .int .i64 b.ot, .slice b.ag.A b.ag.l.length b.ag.c, .slice b.op.A b.op.l.length b.op.c] 24)) [.int .i64 a.no, .int .i64 a.f, .int .i64 a.t, .int .i64 a.m, .int .i64 a.r] 26 (w.heap.size + 1) (by first | rfl | simp))
    replace E := Lib.hid (ext_alloc E.out (.cells #[.int .i64 0, .int .i64 0, .slice none 0 0, .slice none 0 0] 24))
    replace HB := Lib.hid (HB.out.alloc (.cells #[.int .i64 0, .int .i64 0, .slice none 0 0, .slice none 0 0] 24))
    replace BB := Lib.hid (BB.out.alloc (.cells #[.int .i64 0, .int .i64 0, .slice none 0 0, .slice none 0 0] 24))
    replace X := Lib.hid (X.out.alloc (.cells #[.int .i64 0, .int .i64 0, .slice none 0 0, .slice none 0 0] 24))
    have R := Lib.hid (Blk.newH ((w.alloc (.cells #[.int .i64 b.own, .int .i64 b.ot, .slice b.ag.A b.ag.l.length b.ag.c, .slice b.op.A b.op.l.length b.op.c] 24)).alloc (.cells #[.int .i64 a.no, .int .i64 a.f, .int .i64 a.t, .int .i64 a.m, .int .i64 a.r] 26)) [.int .i64 0, .int .i64 0, .slice none 0 0, .slice none 0 0] 24 (w.heap.size + 1 + 1) (by first | rfl | simp))
    go_enter Try.func15, Try.ntmps15
    have c0 := BB.out.c 0 _ rfl
    have c1 := BB.out.c 1 _ rfl
    have c2 := BB.out.c 2 _ rfl
    have c3 := BB.out.c 3 _ rfl
    go_wp2_with fail
    refine (rcheck_at 0 (chk_ok HV.out) HB.out).mono ?_
    rintro e v1 ⟨rfl, B⟩
    clear c0 c1 c2 c3
    replace E := Lib.hid (ext_trans E.out B)
    replace HB := Lib.hid (HB.out.ext B)
    replace BB := Lib.hid (BB.out.ext B)
    replace X := Lib.hid (X.out.ext B)
    replace R := Lib.hid (R.out.ext B)
    clear B
    have c0 := BB.out.c 0 _ rfl
    have c1 := BB.out.c 1 _ rfl
    have c2 := X.out.c 0 _ rfl
    have c3 := X.out.c 1 _ rfl
    have c4 := X.out.c 2 _ rfl
    have c5 := X.out.c 3 _ rfl
    have c6 := X.out.c 4 _ rfl
    go_wp2_with fail
    refine (valid_at (x := a) false HFT.out).mono ?_
    rintro e v2 ⟨rfl, B⟩
    clear c0 c1 c2 c3 c4 c5 c6
    replace E := Lib.hid (ext_trans E.out B)
    replace HB := Lib.hid (HB.out.ext B)
    replace BB := Lib.hid (BB.out.ext B)
    replace X := Lib.hid (X.out.ext B)
    replace R := Lib.hid (R.out.ext B)
    clear B
    have HERR := Lib.hid (show err = 480 by rw [HE.out]; rfl)
    have r0 := R.out.c 0 _ rfl
    have r1 := R.out.c 1 _ rfl
    have r2 := R.out.c 2 _ rfl
    have r3 := R.out.c 3 _ rfl
    have rf := R.out.f
    have rl := R.out.lt
    replace E := Lib.hid (ext_set4 E.out (w.heap.size + 1 + 1) (.int .i64 0) (.int .i64 0) (.slice none 0 0) (.slice none 0 0) (by first | exact Nat.le_refl _ | omega | (simp; done) | (simp; omega)))
    replace HB := Lib.hid (HB.out.set4 (c := (w.heap.size + 1 + 1)) (.int .i64 0) (.int .i64 0) (.slice none 0 0) (.slice none 0 0) (HOFF.out _ (by omega)))
    replace BB := Lib.hid (BB.out.off4 (c := w.heap.size + 1 + 1) (.int .i64 0) (.int .i64 0) (.slice none 0 0) (.slice none 0 0) (by first | omega | (simp; done) | (simp; omega)))
    replace X := Lib.hid (X.out.off4 (c := w.heap.size + 1 + 1) (.int .i64 0) (.int .i64 0) (.slice none 0 0) (.slice none 0 0) (by first | omega | (simp; done) | (simp; omega)))
    replace R := Lib.hid (R.out.put4 (.int .i64 0) (.int .i64 0) (.slice none 0 0) (.slice none 0 0))
    unfold set4 at E HB BB X R
    go_wp2_with fail
    refine bodyPost_ret (v := .tuple #[.agg #[.int .i64 0, .int .i64 0, .slice none 0 0, .slice none 0 0], .int .i64 480]) (by simp [results, Try.results15, go_sem, *]) rfl ?_
    exact BdR.zero HERR.out HZ.out (by decide) rfl E.out
  cases od
  rotate_left
  · have E := Lib.hid (ext_refl w)
    have HB := Lib.hid (hb)
    clear hb
    replace E := Lib.hid (ext_alloc E.out (.cells #[.int .i64 b.own, .int .i64 b.ot, .slice b.ag.A b.ag.l.length b.ag.c, .slice b.op.A b.op.l.length b.op.c] 24))
    replace HB := Lib.hid (HB.out.alloc (.cells #[.int .i64 b.own, .int .i64 b.ot, .slice b.ag.A b.ag.l.length b.ag.c, .slice b.op.A b.op.l.length b.op.c] 24))
    have BB := Lib.hid (Blk.newH w [.int .i64 b.own, .int .i64 b.ot, .slice b.ag.A b.ag.l.length b.ag.c, .slice b.op.A b.op.l.length b.op.c] 24 (w.heap.size) (by first | rfl | simp))
    replace E := Lib.hid (ext_alloc E.out (.cells #[.int .i64 a.no, .int .i64 a.f, .int .i64 a.t, .int .i64 a.m, .int .i64 a.r] 26))
    replace HB := Lib.hid (HB.out.alloc (.cells #[.int .i64 a.no, .int .i64 a.f, .int .i64 a.t, .int .i64 a.m, .int .i64 a.r] 26))
    replace BB := Lib.hid (BB.out.alloc (.cells #[.int .i64 a.no, .int .i64 a.f, .int .i64 a.t, .int .i64 a.m, .int .i64 a.r] 26))
    have X := Lib.hid (Blk.newH (w.alloc (.cells #[.int .i64 b.own, .int .i64 b.ot, .slice b.ag.A b.ag.l.length b.ag.c, .slice b.op.A b.op.l.length b.op.c] 24)) [.int .i64 a.no, .int .i64 a.f, .int .i64 a.t, .int .i64 a.m, .int .i64 a.r] 26 (w.heap.size + 1) (by first | rfl | simp))
    replace E := Lib.hid (ext_alloc E.out (.cells #[.int .i64 0, .int .i64 0, .slice none 0 0, .slice none 0 0] 24))
    replace HB := Lib.hid (HB.out.alloc (.cells #[.int .i64 0, .int .i64 0, .slice none 0 0, .slice none 0 0] 24))
    replace BB := Lib.hid (BB.out.alloc (.cells #[.int .i64 0, .int .i64 0, .slice none 0 0, .slice none 0 0] 24))
    replace X := Lib.hid (X.out.alloc (.cells #[.int .i64 0, .int .i64 0, .slice none 0 0, .slice none 0 0] 24))
    have R := Lib.hid (Blk.newH ((w.alloc (.cells #[.int .i64 b.own, .int .i64 b.ot, .slice b.ag.A b.ag.l.length b.ag.c, .slice b.op.A b.op.l.length b.op.c] 24)).alloc (.cells #[.int .i64 a.no, .int .i64 a.f, .int .i64 a.t, .int .i64 a.m, .int .i64 a.r] 26)) [.int .i64 0, .int .i64 0, .slice none 0 0, .slice none 0 0] 24 (w.heap.size + 1 + 1) (by first | rfl | simp))
    go_enter Try.func15, Try.ntmps15
    have c0 := BB.out.c 0 _ rfl
    have c1 := BB.out.c 1 _ rfl
    have c2 := BB.out.c 2 _ rfl
    have c3 := BB.out.c 3 _ rfl
    go_wp2_with fail
    refine (rcheck_at 0 (chk_ok HV.out) HB.out).mono ?_
    rintro e v1 ⟨rfl, B⟩
    clear c0 c1 c2 c3
    replace E := Lib.hid (ext_trans E.out B)
    replace HB := Lib.hid (HB.out.ext B)
    replace BB := Lib.hid (BB.out.ext B)
    replace X := Lib.hid (X.out.ext B)
    replace R := Lib.hid (R.out.ext B)
    clear B
    have c0 := BB.out.c 0 _ rfl
    have c1 := BB.out.c 1 _ rfl
    have c2 := X.out.c 0 _ rfl
    have c3 := X.out.c 1 _ rfl
    have c4 := X.out.c 2 _ rfl
    have c5 := X.out.c 3 _ rfl
    have c6 := X.out.c 4 _ rfl
    go_wp2_with fail
    refine (valid_at (x := a) true HFT.out).mono ?_
    rintro e v2 ⟨rfl, B⟩
    clear c0 c1 c2 c3 c4 c5 c6
    replace E := Lib.hid (ext_trans E.out B)
    replace HB := Lib.hid (HB.out.ext B)
    replace BB := Lib.hid (BB.out.ext B)
    replace X := Lib.hid (X.out.ext B)
    replace R := Lib.hid (R.out.ext B)
    clear B
    have c0 := BB.out.c 0 _ rfl
    have c1 := BB.out.c 1 _ rfl
    have c2 := X.out.c 0 _ rfl
    go_wp2_with fail
    refine (offB_at false (by rw [offd_not (no := a.no) (show b.own ≠ b.ot from cen_ne (ok_iff.1 HV.out).1)]; exact congrArg not HOD.out)).mono ?_
    rintro e v3 ⟨rfl, B⟩
    clear c0 c1 c2
    replace E := Lib.hid (ext_trans E.out B)
    replace HB := Lib.hid (HB.out.ext B)
    replace BB := Lib.hid (BB.out.ext B)
    replace X := Lib.hid (X.out.ext B)
    replace R := Lib.hid (R.out.ext B)
    clear B
    have HERR := Lib.hid (show err = 480 by rw [HE.out]; rfl)
    have r0 := R.out.c 0 _ rfl
    have r1 := R.out.c 1 _ rfl
    have r2 := R.out.c 2 _ rfl
    have r3 := R.out.c 3 _ rfl
    have rf := R.out.f
    have rl := R.out.lt
    replace E := Lib.hid (ext_set4 E.out (w.heap.size + 1 + 1) (.int .i64 0) (.int .i64 0) (.slice none 0 0) (.slice none 0 0) (by first | exact Nat.le_refl _ | omega | (simp; done) | (simp; omega)))
    replace HB := Lib.hid (HB.out.set4 (c := (w.heap.size + 1 + 1)) (.int .i64 0) (.int .i64 0) (.slice none 0 0) (.slice none 0 0) (HOFF.out _ (by omega)))
    replace BB := Lib.hid (BB.out.off4 (c := w.heap.size + 1 + 1) (.int .i64 0) (.int .i64 0) (.slice none 0 0) (.slice none 0 0) (by first | omega | (simp; done) | (simp; omega)))
    replace X := Lib.hid (X.out.off4 (c := w.heap.size + 1 + 1) (.int .i64 0) (.int .i64 0) (.slice none 0 0) (.slice none 0 0) (by first | omega | (simp; done) | (simp; omega)))
    replace R := Lib.hid (R.out.put4 (.int .i64 0) (.int .i64 0) (.slice none 0 0) (.slice none 0 0))
    unfold set4 at E HB BB X R
    go_wp2_with fail
    refine bodyPost_ret (v := .tuple #[.agg #[.int .i64 0, .int .i64 0, .slice none 0 0, .slice none 0 0], .int .i64 480]) (by simp [results, Try.results15, go_sem, *]) rfl ?_
    exact BdR.zero HERR.out HZ.out (by decide) rfl E.out
  have E := Lib.hid (ext_refl w)
  have HB := Lib.hid (hb)
  clear hb
  replace E := Lib.hid (ext_alloc E.out (.cells #[.int .i64 b.own, .int .i64 b.ot, .slice b.ag.A b.ag.l.length b.ag.c, .slice b.op.A b.op.l.length b.op.c] 24))
  replace HB := Lib.hid (HB.out.alloc (.cells #[.int .i64 b.own, .int .i64 b.ot, .slice b.ag.A b.ag.l.length b.ag.c, .slice b.op.A b.op.l.length b.op.c] 24))
  have BB := Lib.hid (Blk.newH w [.int .i64 b.own, .int .i64 b.ot, .slice b.ag.A b.ag.l.length b.ag.c, .slice b.op.A b.op.l.length b.op.c] 24 (w.heap.size) (by first | rfl | simp))
  replace E := Lib.hid (ext_alloc E.out (.cells #[.int .i64 a.no, .int .i64 a.f, .int .i64 a.t, .int .i64 a.m, .int .i64 a.r] 26))
  replace HB := Lib.hid (HB.out.alloc (.cells #[.int .i64 a.no, .int .i64 a.f, .int .i64 a.t, .int .i64 a.m, .int .i64 a.r] 26))
  replace BB := Lib.hid (BB.out.alloc (.cells #[.int .i64 a.no, .int .i64 a.f, .int .i64 a.t, .int .i64 a.m, .int .i64 a.r] 26))
  have X := Lib.hid (Blk.newH (w.alloc (.cells #[.int .i64 b.own, .int .i64 b.ot, .slice b.ag.A b.ag.l.length b.ag.c, .slice b.op.A b.op.l.length b.op.c] 24)) [.int .i64 a.no, .int .i64 a.f, .int .i64 a.t, .int .i64 a.m, .int .i64 a.r] 26 (w.heap.size + 1) (by first | rfl | simp))
  replace E := Lib.hid (ext_alloc E.out (.cells #[.int .i64 0, .int .i64 0, .slice none 0 0, .slice none 0 0] 24))
  replace HB := Lib.hid (HB.out.alloc (.cells #[.int .i64 0, .int .i64 0, .slice none 0 0, .slice none 0 0] 24))
  replace BB := Lib.hid (BB.out.alloc (.cells #[.int .i64 0, .int .i64 0, .slice none 0 0, .slice none 0 0] 24))
  replace X := Lib.hid (X.out.alloc (.cells #[.int .i64 0, .int .i64 0, .slice none 0 0, .slice none 0 0] 24))
  have R := Lib.hid (Blk.newH ((w.alloc (.cells #[.int .i64 b.own, .int .i64 b.ot, .slice b.ag.A b.ag.l.length b.ag.c, .slice b.op.A b.op.l.length b.op.c] 24)).alloc (.cells #[.int .i64 a.no, .int .i64 a.f, .int .i64 a.t, .int .i64 a.m, .int .i64 a.r] 26)) [.int .i64 0, .int .i64 0, .slice none 0 0, .slice none 0 0] 24 (w.heap.size + 1 + 1) (by first | rfl | simp))
  go_enter Try.func15, Try.ntmps15
  have c0 := BB.out.c 0 _ rfl
  have c1 := BB.out.c 1 _ rfl
  have c2 := BB.out.c 2 _ rfl
  have c3 := BB.out.c 3 _ rfl
  go_wp2_with fail
  refine (rcheck_at 0 (chk_ok HV.out) HB.out).mono ?_
  rintro e v1 ⟨rfl, B⟩
  clear c0 c1 c2 c3
  replace E := Lib.hid (ext_trans E.out B)
  replace HB := Lib.hid (HB.out.ext B)
  replace BB := Lib.hid (BB.out.ext B)
  replace X := Lib.hid (X.out.ext B)
  replace R := Lib.hid (R.out.ext B)
  clear B
  have c0 := BB.out.c 0 _ rfl
  have c1 := BB.out.c 1 _ rfl
  have c2 := X.out.c 0 _ rfl
  have c3 := X.out.c 1 _ rfl
  have c4 := X.out.c 2 _ rfl
  have c5 := X.out.c 3 _ rfl
  have c6 := X.out.c 4 _ rfl
  go_wp2_with fail
  refine (valid_at (x := a) true HFT.out).mono ?_
  rintro e v2 ⟨rfl, B⟩
  clear c0 c1 c2 c3 c4 c5 c6
  replace E := Lib.hid (ext_trans E.out B)
  replace HB := Lib.hid (HB.out.ext B)
  replace BB := Lib.hid (BB.out.ext B)
  replace X := Lib.hid (X.out.ext B)
  replace R := Lib.hid (R.out.ext B)
  clear B
  have c0 := BB.out.c 0 _ rfl
  have c1 := BB.out.c 1 _ rfl
  have c2 := X.out.c 0 _ rfl
  go_wp2_with fail
  refine (offB_at true (by rw [offd_not (no := a.no) (show b.own ≠ b.ot from cen_ne (ok_iff.1 HV.out).1)]; exact congrArg not HOD.out)).mono ?_
  rintro e v3 ⟨rfl, B⟩
  clear c0 c1 c2
  replace E := Lib.hid (ext_trans E.out B)
  replace HB := Lib.hid (HB.out.ext B)
  replace BB := Lib.hid (BB.out.ext B)
  replace X := Lib.hid (X.out.ext B)
  replace R := Lib.hid (R.out.ext B)
  clear B
  have HE2 := Lib.hid (show err = same0 (orA n1 n2) a by rw [← HAN.out]; exact HE.out)
  clear HE
  have c0 := BB.out.c 2 _ rfl
  have c1 := X.out.c 0 _ rfl
  go_wp2_with fail
  refine (rfind_at n1 H1.out rfl HB.out.ag hagl).mono ?_
  rintro e v4 ⟨y1, rfl, hy, B⟩
  clear c0 c1
  replace E := Lib.hid (ext_trans E.out B)
  replace HB := Lib.hid (HB.out.ext B)
  replace BB := Lib.hid (BB.out.ext B)
  replace X := Lib.hid (X.out.ext B)
  replace R := Lib.hid (R.out.ext B)
  clear B
  have HY1 := Lib.hid hy
  clear hy
  have ll0 := BB.out.lt
  have ll1 := R.out.lt
  have ll2 := X.out.lt
  replace E := Lib.hid (ext_alloc E.out (.cells #[.int .i64 y1.no, .int .i64 y1.f, .int .i64 y1.t, .int .i64 y1.m, .int .i64 y1.r] 26))
  replace HB := Lib.hid (HB.out.alloc (.cells #[.int .i64 y1.no, .int .i64 y1.f, .int .i64 y1.t, .int .i64 y1.m, .int .i64 y1.r] 26))
  replace BB := Lib.hid (BB.out.alloc (.cells #[.int .i64 y1.no, .int .i64 y1.f, .int .i64 y1.t, .int .i64 y1.m, .int .i64 y1.r] 26))
  replace X := Lib.hid (X.out.alloc (.cells #[.int .i64 y1.no, .int .i64 y1.f, .int .i64 y1.t, .int .i64 y1.m, .int .i64 y1.r] 26))
  replace R := Lib.hid (R.out.alloc (.cells #[.int .i64 y1.no, .int .i64 y1.f, .int .i64 y1.t, .int .i64 y1.m, .int .i64 y1.r] 26))
  have O1 := Lib.hid (Blk.newH v4 [.int .i64 y1.no, .int .i64 y1.f, .int .i64 y1.t, .int .i64 y1.m, .int .i64 y1.r] 26 (v4.heap.size) (by first | rfl | simp))
  have c0 := BB.out.c 3 _ rfl
  have c1 := X.out.c 0 _ rfl
  go_wp2_with fail
  refine (rfind_at n2 H2.out rfl HB.out.op hopl).mono ?_
  rintro e v5 ⟨y2, rfl, hy, B⟩
  clear c0 c1
  replace E := Lib.hid (ext_trans E.out B)
  replace HB := Lib.hid (HB.out.ext B)
  replace BB := Lib.hid (BB.out.ext B)
  replace X := Lib.hid (X.out.ext B)
  replace R := Lib.hid (R.out.ext B)
  replace O1 := Lib.hid (O1.out.ext B)
  clear B
  have HY2 := Lib.hid hy
  clear hy
  cases n1 with
  | some z =>
    obtain rfl : y1 = z := HY1.out
    obtain rfl : n2 = none := by rw [← H2.out]; exact one_list (b := b.bl) HV.out H1.out
    have hne := fun w => run_eql26 y1 a w
    by_cases hya : y1 = a
    rotate_left
    · have hd : decide (y1 = a) = false := by simpa using hya
      rw [hd] at hne
      have HNE := Lib.hid hya
      clear hya hd
      have HERR := Lib.hid (show err = 480 by rw [HE2.out]; exact if_neg HNE.out)
      have x0 := X.out.c 0 _ rfl
      have x1 := X.out.c 1 _ rfl
      have x2 := X.out.c 2 _ rfl
      have x3 := X.out.c 3 _ rfl
      have x4 := X.out.c 4 _ rfl
      have xf := X.out.f
      have xl := X.out.lt
      have o10 := O1.out.c 0 _ rfl
      have o11 := O1.out.c 1 _ rfl
      have o12 := O1.out.c 2 _ rfl
      have o13 := O1.out.c 3 _ rfl
      have o14 := O1.out.c 4 _ rfl
      have o1f := O1.out.f
      have o1l := O1.out.lt
      have r0 := R.out.c 0 _ rfl
      have r1 := R.out.c 1 _ rfl
      have r2 := R.out.c 2 _ rfl
      have r3 := R.out.c 3 _ rfl
      have rf := R.out.f
      have rl := R.out.lt
      replace E := Lib.hid (ext_set4 E.out (w.heap.size + 1 + 1) (.int .i64 0) (.int .i64 0) (.slice none 0 0) (.slice none 0 0) (by first | exact Nat.le_refl _ | omega | (simp; done) | (simp; omega)))
      replace HB := Lib.hid (HB.out.set4 (c := (w.heap.size + 1 + 1)) (.int .i64 0) (.int .i64 0) (.slice none 0 0) (.slice none 0 0) (HOFF.out _ (by omega)))
      replace BB := Lib.hid (BB.out.off4 (c := w.heap.size + 1 + 1) (.int .i64 0) (.int .i64 0) (.slice none 0 0) (.slice none 0 0) (by first | omega | (simp; done) | (simp; omega)))
      replace X := Lib.hid (X.out.off4 (c := w.heap.size + 1 + 1) (.int .i64 0) (.int .i64 0) (.slice none 0 0) (.slice none 0 0) (by first | omega | (simp; done) | (simp; omega)))
      replace R := Lib.hid (R.out.put4 (.int .i64 0) (.int .i64 0) (.slice none 0 0) (.slice none 0 0))
      replace O1 := Lib.hid (O1.out.off4 (c := w.heap.size + 1 + 1) (.int .i64 0) (.int .i64 0) (.slice none 0 0) (.slice none 0 0) (by first | omega | (simp; done) | (simp; omega)))
      unfold set4 at E HB BB X R O1
      replace E := Lib.hid (ext_alloc E.out (.cells #[.int .i64 y2.no, .int .i64 y2.f, .int .i64 y2.t, .int .i64 y2.m, .int .i64 y2.r] 26))
      go_wp2_with fail
      refine bodyPost_ret (v := .tuple #[.agg #[.int .i64 0, .int .i64 0, .slice none 0 0, .slice none 0 0], .int .i64 480]) (by simp [results, Try.results15, go_sem, *]) rfl ?_
      exact BdR.zero HERR.out HZ.out (by decide) rfl E.out
    · have hd : decide (y1 = a) = true := by simpa using hya
      rw [hd] at hne
      have HNE := Lib.hid hya
      clear hya hd
      have HERR := Lib.hid (show err = 0 by rw [HE2.out]; exact if_pos HNE.out)
      have HW := Lib.hid (show b.bl.heaB a = b.bl by rw [heaB_ok (by rw [HE0.out]; exact HERR.out), HAN.out]; rfl)
      have x0 := X.out.c 0 _ rfl
      have x1 := X.out.c 1 _ rfl
      have x2 := X.out.c 2 _ rfl
      have x3 := X.out.c 3 _ rfl
      have x4 := X.out.c 4 _ rfl
      have xf := X.out.f
      have xl := X.out.lt
      have o10 := O1.out.c 0 _ rfl
      have o11 := O1.out.c 1 _ rfl
      have o12 := O1.out.c 2 _ rfl
      have o13 := O1.out.c 3 _ rfl
      have o14 := O1.out.c 4 _ rfl
      have o1f := O1.out.f
      have o1l := O1.out.lt
      have bb0 := BB.out.c 0 _ rfl
      have bb1 := BB.out.c 1 _ rfl
      have bb2 := BB.out.c 2 _ rfl
      have bb3 := BB.out.c 3 _ rfl
      have bbf := BB.out.f
      have bbl := BB.out.lt
      have r0 := R.out.c 0 _ rfl
      have r1 := R.out.c 1 _ rfl
      have r2 := R.out.c 2 _ rfl
      have r3 := R.out.c 3 _ rfl
      have rf := R.out.f
      have rl := R.out.lt
      replace E := Lib.hid (ext_set4 E.out (w.heap.size + 1 + 1) (.int .i64 b.own) (.int .i64 b.ot) (.slice b.ag.A b.ag.l.length b.ag.c) (.slice b.op.A b.op.l.length b.op.c) (by first | exact Nat.le_refl _ | omega | (simp; done) | (simp; omega)))
      replace HB := Lib.hid (HB.out.set4 (c := (w.heap.size + 1 + 1)) (.int .i64 b.own) (.int .i64 b.ot) (.slice b.ag.A b.ag.l.length b.ag.c) (.slice b.op.A b.op.l.length b.op.c) (HOFF.out _ (by omega)))
      replace BB := Lib.hid (BB.out.off4 (c := w.heap.size + 1 + 1) (.int .i64 b.own) (.int .i64 b.ot) (.slice b.ag.A b.ag.l.length b.ag.c) (.slice b.op.A b.op.l.length b.op.c) (by first | omega | (simp; done) | (simp; omega)))
      replace X := Lib.hid (X.out.off4 (c := w.heap.size + 1 + 1) (.int .i64 b.own) (.int .i64 b.ot) (.slice b.ag.A b.ag.l.length b.ag.c) (.slice b.op.A b.op.l.length b.op.c) (by first | omega | (simp; done) | (simp; omega)))
      replace R := Lib.hid (R.out.put4 (.int .i64 b.own) (.int .i64 b.ot) (.slice b.ag.A b.ag.l.length b.ag.c) (.slice b.op.A b.op.l.length b.op.c))
      replace O1 := Lib.hid (O1.out.off4 (c := w.heap.size + 1 + 1) (.int .i64 b.own) (.int .i64 b.ot) (.slice b.ag.A b.ag.l.length b.ag.c) (.slice b.op.A b.op.l.length b.op.c) (by first | omega | (simp; done) | (simp; omega)))
      unfold set4 at E HB BB X R O1
      replace E := Lib.hid (ext_alloc E.out (.cells #[.int .i64 y2.no, .int .i64 y2.f, .int .i64 y2.t, .int .i64 y2.m, .int .i64 y2.r] 26))
      replace HB := Lib.hid (HB.out.alloc (.cells #[.int .i64 y2.no, .int .i64 y2.f, .int .i64 y2.t, .int .i64 y2.m, .int .i64 y2.r] 26))
      go_wp2_with fail
      refine bodyPost_ret (v := .tuple #[b.v, .int .i64 0]) (by simp [results, Try.results15, go_sem, *]) rfl ?_
      rw [HW.out, HERR.out]
      exact ⟨b, rfl, rfl, HB.out, E.out, fun c _ h => h⟩
  | none =>
    cases n2 with
    | some z =>
      obtain rfl : y2 = z := HY2.out
      have hne := fun w => run_eql26 y2 a w
      by_cases hya : y2 = a
      rotate_left
      · have hd : decide (y2 = a) = false := by simpa using hya
        rw [hd] at hne
        have HNE := Lib.hid hya
        clear hya hd
        have HERR := Lib.hid (show err = 480 by rw [HE2.out]; exact if_neg HNE.out)
        have x0 := X.out.c 0 _ rfl
        have x1 := X.out.c 1 _ rfl
        have x2 := X.out.c 2 _ rfl
        have x3 := X.out.c 3 _ rfl
        have x4 := X.out.c 4 _ rfl
        have xf := X.out.f
        have xl := X.out.lt
        have o10 := O1.out.c 0 _ rfl
        have o11 := O1.out.c 1 _ rfl
        have o12 := O1.out.c 2 _ rfl
        have o13 := O1.out.c 3 _ rfl
        have o14 := O1.out.c 4 _ rfl
        have o1f := O1.out.f
        have o1l := O1.out.lt
        have r0 := R.out.c 0 _ rfl
        have r1 := R.out.c 1 _ rfl
        have r2 := R.out.c 2 _ rfl
        have r3 := R.out.c 3 _ rfl
        have rf := R.out.f
        have rl := R.out.lt
        replace E := Lib.hid (ext_set4 E.out (w.heap.size + 1 + 1) (.int .i64 0) (.int .i64 0) (.slice none 0 0) (.slice none 0 0) (by first | exact Nat.le_refl _ | omega | (simp; done) | (simp; omega)))
        replace HB := Lib.hid (HB.out.set4 (c := (w.heap.size + 1 + 1)) (.int .i64 0) (.int .i64 0) (.slice none 0 0) (.slice none 0 0) (HOFF.out _ (by omega)))
        replace BB := Lib.hid (BB.out.off4 (c := w.heap.size + 1 + 1) (.int .i64 0) (.int .i64 0) (.slice none 0 0) (.slice none 0 0) (by first | omega | (simp; done) | (simp; omega)))
        replace X := Lib.hid (X.out.off4 (c := w.heap.size + 1 + 1) (.int .i64 0) (.int .i64 0) (.slice none 0 0) (.slice none 0 0) (by first | omega | (simp; done) | (simp; omega)))
        replace R := Lib.hid (R.out.put4 (.int .i64 0) (.int .i64 0) (.slice none 0 0) (.slice none 0 0))
        replace O1 := Lib.hid (O1.out.off4 (c := w.heap.size + 1 + 1) (.int .i64 0) (.int .i64 0) (.slice none 0 0) (.slice none 0 0) (by first | omega | (simp; done) | (simp; omega)))
        unfold set4 at E HB BB X R O1
        replace E := Lib.hid (ext_alloc E.out (.cells #[.int .i64 y2.no, .int .i64 y2.f, .int .i64 y2.t, .int .i64 y2.m, .int .i64 y2.r] 26))
        go_wp2_with fail
        refine bodyPost_ret (v := .tuple #[.agg #[.int .i64 0, .int .i64 0, .slice none 0 0, .slice none 0 0], .int .i64 480]) (by simp [results, Try.results15, go_sem, *]) rfl ?_
        exact BdR.zero HERR.out HZ.out (by decide) rfl E.out
      · have hd : decide (y2 = a) = true := by simpa using hya
        rw [hd] at hne
        have HNE := Lib.hid hya
        clear hya hd
        have HERR := Lib.hid (show err = 0 by rw [HE2.out]; exact if_pos HNE.out)
        have HW := Lib.hid (show b.bl.heaB a = b.bl by rw [heaB_ok (by rw [HE0.out]; exact HERR.out), HAN.out]; rfl)
        have x0 := X.out.c 0 _ rfl
        have x1 := X.out.c 1 _ rfl
        have x2 := X.out.c 2 _ rfl
        have x3 := X.out.c 3 _ rfl
        have x4 := X.out.c 4 _ rfl
        have xf := X.out.f
        have xl := X.out.lt
        have o10 := O1.out.c 0 _ rfl
        have o11 := O1.out.c 1 _ rfl
        have o12 := O1.out.c 2 _ rfl
        have o13 := O1.out.c 3 _ rfl
        have o14 := O1.out.c 4 _ rfl
        have o1f := O1.out.f
        have o1l := O1.out.lt
        have bb0 := BB.out.c 0 _ rfl
        have bb1 := BB.out.c 1 _ rfl
        have bb2 := BB.out.c 2 _ rfl
        have bb3 := BB.out.c 3 _ rfl
        have bbf := BB.out.f
        have bbl := BB.out.lt
        have r0 := R.out.c 0 _ rfl
        have r1 := R.out.c 1 _ rfl
        have r2 := R.out.c 2 _ rfl
        have r3 := R.out.c 3 _ rfl
        have rf := R.out.f
        have rl := R.out.lt
        replace E := Lib.hid (ext_set4 E.out (w.heap.size + 1 + 1) (.int .i64 b.own) (.int .i64 b.ot) (.slice b.ag.A b.ag.l.length b.ag.c) (.slice b.op.A b.op.l.length b.op.c) (by first | exact Nat.le_refl _ | omega | (simp; done) | (simp; omega)))
        replace HB := Lib.hid (HB.out.set4 (c := (w.heap.size + 1 + 1)) (.int .i64 b.own) (.int .i64 b.ot) (.slice b.ag.A b.ag.l.length b.ag.c) (.slice b.op.A b.op.l.length b.op.c) (HOFF.out _ (by omega)))
        replace BB := Lib.hid (BB.out.off4 (c := w.heap.size + 1 + 1) (.int .i64 b.own) (.int .i64 b.ot) (.slice b.ag.A b.ag.l.length b.ag.c) (.slice b.op.A b.op.l.length b.op.c) (by first | omega | (simp; done) | (simp; omega)))
        replace X := Lib.hid (X.out.off4 (c := w.heap.size + 1 + 1) (.int .i64 b.own) (.int .i64 b.ot) (.slice b.ag.A b.ag.l.length b.ag.c) (.slice b.op.A b.op.l.length b.op.c) (by first | omega | (simp; done) | (simp; omega)))
        replace R := Lib.hid (R.out.put4 (.int .i64 b.own) (.int .i64 b.ot) (.slice b.ag.A b.ag.l.length b.ag.c) (.slice b.op.A b.op.l.length b.op.c))
        replace O1 := Lib.hid (O1.out.off4 (c := w.heap.size + 1 + 1) (.int .i64 b.own) (.int .i64 b.ot) (.slice b.ag.A b.ag.l.length b.ag.c) (.slice b.op.A b.op.l.length b.op.c) (by first | omega | (simp; done) | (simp; omega)))
        unfold set4 at E HB BB X R O1
        replace E := Lib.hid (ext_alloc E.out (.cells #[.int .i64 y2.no, .int .i64 y2.f, .int .i64 y2.t, .int .i64 y2.m, .int .i64 y2.r] 26))
        replace HB := Lib.hid (HB.out.alloc (.cells #[.int .i64 y2.no, .int .i64 y2.f, .int .i64 y2.t, .int .i64 y2.m, .int .i64 y2.r] 26))
        go_wp2_with fail
        refine bodyPost_ret (v := .tuple #[b.v, .int .i64 0]) (by simp [results, Try.results15, go_sem, *]) rfl ?_
        rw [HW.out, HERR.out]
        exact ⟨b, rfl, rfl, HB.out, E.out, fun c _ h => h⟩
    | none =>
      have HERR := Lib.hid (show err = 0 by rw [HE2.out]; rfl)
      have HW := Lib.hid (show b.bl.heaB a = ⟨b.own, b.ot, b.ag.l, putL b.op.l a⟩ by rw [heaB_ok (by rw [HE0.out]; exact HERR.out), HAN.out]; rfl)
      have x0 := X.out.c 0 _ rfl
      have x1 := X.out.c 1 _ rfl
      have x2 := X.out.c 2 _ rfl
      have x3 := X.out.c 3 _ rfl
      have x4 := X.out.c 4 _ rfl
      have xf := X.out.f
      have xl := X.out.lt
      have bb0 := BB.out.c 0 _ rfl
      have bb1 := BB.out.c 1 _ rfl
      have bb2 := BB.out.c 2 _ rfl
      have bb3 := BB.out.c 3 _ rfl
      have bbf := BB.out.f
      have bbl := BB.out.lt
      replace E := Lib.hid (ext_alloc E.out (.cells #[.int .i64 y2.no, .int .i64 y2.f, .int .i64 y2.t, .int .i64 y2.m, .int .i64 y2.r] 26))
      replace HB := Lib.hid (HB.out.alloc (.cells #[.int .i64 y2.no, .int .i64 y2.f, .int .i64 y2.t, .int .i64 y2.m, .int .i64 y2.r] 26))
      replace BB := Lib.hid (BB.out.alloc (.cells #[.int .i64 y2.no, .int .i64 y2.f, .int .i64 y2.t, .int .i64 y2.m, .int .i64 y2.r] 26))
      replace X := Lib.hid (X.out.alloc (.cells #[.int .i64 y2.no, .int .i64 y2.f, .int .i64 y2.t, .int .i64 y2.m, .int .i64 y2.r] 26))
      replace R := Lib.hid (R.out.alloc (.cells #[.int .i64 y2.no, .int .i64 y2.f, .int .i64 y2.t, .int .i64 y2.m, .int .i64 y2.r] 26))
      replace O1 := Lib.hid (O1.out.alloc (.cells #[.int .i64 y2.no, .int .i64 y2.f, .int .i64 y2.t, .int .i64 y2.m, .int .i64 y2.r] 26))
      go_wp2_with fail
      clear x0 x1 x2 x3 x4 xf xl bb0 bb1 bb2 bb3 bbf bbl
      clear O1
      refine (rput_at (a := a) rfl HB.out.op (putOk_op HV.out HLL.out.2 HFT.out) HCP.out.1).mono ?_
      rintro e v9 ⟨A3, c3, rfl, hO3, B⟩
      have HO3 := Lib.hid (hO3.low (base' := w.heap.size + 3) (by have := R.out.lt; omega))
      clear hO3
      replace E := Lib.hid (ext_trans E.out B)
      replace HB := Lib.hid (HB.out.ext B)
      replace BB := Lib.hid (BB.out.ext B)
      replace X := Lib.hid (X.out.ext B)
      replace R := Lib.hid (R.out.ext B)
      clear B
      have SP := Lib.hid (HO3.out.slc agI.hl agI.hz)
      obtain ⟨N, hN⟩ : ∃ N, (putL b.op.l a).length = N := ⟨_, rfl⟩
      have HNL := Lib.hid hN
      rw [hN] at HO3 ⊢
      clear hN
      have bb0 := BB.out.c 0 _ rfl
      have bb1 := BB.out.c 1 _ rfl
      have bb2 := BB.out.c 2 _ rfl
      have bb3 := BB.out.c 3 _ rfl
      have bbf := BB.out.f
      have bbl := BB.out.lt
      have r0 := R.out.c 0 _ rfl
      have r1 := R.out.c 1 _ rfl
      have r2 := R.out.c 2 _ rfl
      have r3 := R.out.c 3 _ rfl
      have rf := R.out.f
      have rl := R.out.lt
      replace E := Lib.hid (ext_set E.out ⟨w.heap.size, 3, none⟩ (.slice A3 N c3) (by first | exact Nat.le_refl _ | omega | (simp; done) | (simp; omega)))
      replace HB := Lib.hid (HB.out.set (p := ⟨w.heap.size, 3, none⟩) (.slice A3 N c3) (HOFF.out _ (by first | exact Nat.le_refl _ | (simp; done) | (simp; omega))))
      replace BB := Lib.hid (show Blk _ (w.heap.size) [.int .i64 b.own, .int .i64 b.ot, .slice b.ag.A b.ag.l.length b.ag.c, .slice A3 N c3] from BB.out.set (j := 3) (by simp) (.slice A3 N c3))
      replace X := Lib.hid (X.out.other (p := ⟨w.heap.size, 3, none⟩) (.slice A3 N c3) (by first | omega | (simp; done) | (simp; omega)))
      replace R := Lib.hid (R.out.other (p := ⟨w.heap.size, 3, none⟩) (.slice A3 N c3) (by first | omega | (simp; done) | (simp; omega)))
      replace SP := Lib.hid (SP.out.far (p := ⟨w.heap.size, 3, none⟩) (v := (.slice A3 N c3)) (own_off HO3.out (by simp)))
      replace E := Lib.hid (ext_set4 E.out (w.heap.size + 1 + 1) (.int .i64 b.own) (.int .i64 b.ot) (.slice b.ag.A b.ag.l.length b.ag.c) (.slice A3 N c3) (by first | exact Nat.le_refl _ | omega | (simp; done) | (simp; omega)))
      replace HB := Lib.hid (HB.out.set4 (c := (w.heap.size + 1 + 1)) (.int .i64 b.own) (.int .i64 b.ot) (.slice b.ag.A b.ag.l.length b.ag.c) (.slice A3 N c3) (HOFF.out _ (by omega)))
      replace BB := Lib.hid (BB.out.off4 (c := w.heap.size + 1 + 1) (.int .i64 b.own) (.int .i64 b.ot) (.slice b.ag.A b.ag.l.length b.ag.c) (.slice A3 N c3) (by first | omega | (simp; done) | (simp; omega)))
      replace X := Lib.hid (X.out.off4 (c := w.heap.size + 1 + 1) (.int .i64 b.own) (.int .i64 b.ot) (.slice b.ag.A b.ag.l.length b.ag.c) (.slice A3 N c3) (by first | omega | (simp; done) | (simp; omega)))
      replace R := Lib.hid (R.out.put4 (.int .i64 b.own) (.int .i64 b.ot) (.slice b.ag.A b.ag.l.length b.ag.c) (.slice A3 N c3))
      replace SP := Lib.hid (SP.out.far4 (b := (w.heap.size + 1 + 1)) (.int .i64 b.own) (.int .i64 b.ot) (.slice b.ag.A b.ag.l.length b.ag.c) (.slice A3 N c3) (own_off HO3.out (by simp)))
      unfold set4 at E HB BB X R SP
      go_wp2_with fail
      refine bodyPost_ret (v := .tuple #[Bd.v ⟨b.own, b.ot, b.ag, ⟨A3, c3, putL b.op.l a⟩⟩, .int .i64 0]) (by simp [results, Try.results15, go_sem, *, HNL.out]) rfl ?_
      rw [HW.out, HERR.out]
      have k3 := own_cap HO3.out
      exact ⟨⟨b.own, b.ot, b.ag, ⟨A3, c3, putL b.op.l a⟩⟩, rfl, rfl, ⟨HB.out.ag, SP.out, HB.out.agl, HB.out.agc, k3.1, k3.2⟩, E.out, fun c hc hf => ⟨hf.1, own_off HO3.out (by omega)⟩⟩
end Go.Proofs.Ytmnbeikhjbjpiaa
