/- Contracts: an offer is accepted, the reference's. -/
import Derived.Test.YtmnbeikhjbjpiaaP2
set_option linter.unusedSimpArgs false
set_option linter.unusedVariables false
namespace Go.Proofs.Ytmnbeikhjbjpiaa
open Go.RowKit
theorem rcheck_at {b : Bd} {w : World} (r : Int) (hr : b.bl.chk = r) (hb : BOk w b) : Calls Try.prog 26 #[.agg #[.int .i64 b.own, .int .i64 b.ot, .slice b.ag.A b.ag.l.length b.ag.c, .slice b.op.A b.op.l.length b.op.c]] w (RetE w r) := by
  subst hr; exact rcheck_any b w hb
theorem chk_ok {b : Bl} {v : Bool} (h : b.ok = v) : b.chk = if v then 0 else 480 := by unfold Bl.chk; rw [h]
theorem offB_at {no a b : Int} {w : World} (r : Bool) (hr : offd no a b = r) : Calls Try.prog 38 #[.int .i64 no, .int .i64 a, .int .i64 b] w (RetB w r) :=
  (offd_at r hr).mono fun e w' ⟨h1, h2⟩ => ⟨h1, by rw [← h2]; exact ext_refl w⟩
set_option maxHeartbeats 1600000 in
set_option maxRecDepth 100000 in
theorem raccept_any (b : Bd) (no : Int) (w : World) (hb : BOk w b) (hl : b.ag.l.length ≤ 1000 ∧ b.op.l.length ≤ 1000) : Calls Try.prog 18 #[b.v, .int .i64 no] w (BaR w b.off (b.bl.accB no) (b.bl.accX no) (b.bl.accE no)) := by
  have hagl := maxLen_of hb.agl hb.agc
  have hopl := maxLen_of hb.opl hb.opc
  have HOFF := Lib.hid (fun c (h : w.heap.size ≤ c) => hb.off h)
  have HLL := Lib.hid hl
  clear hl
  obtain ⟨v, hv⟩ : ∃ v, b.bl.ok = v := ⟨_, rfl⟩
  obtain ⟨od, hod⟩ : ∃ v, offd no b.own b.ot = v := ⟨_, rfl⟩
  obtain ⟨n1, hn1⟩ : ∃ v, numd b.ag.l no = v := ⟨_, rfl⟩
  obtain ⟨n2, hn2⟩ : ∃ v, numd b.op.l no = v := ⟨_, rfl⟩
  obtain ⟨err, herr⟩ : ∃ e, b.bl.accE no = e := ⟨_, rfl⟩
  have HAN := Lib.hid (show b.bl.any no = orA n1 n2 by rw [← hn1, ← hn2]; exact any_or b.bl no)
  have HE := Lib.hid (show err = if v && !od && (orA n1 n2).isSome then 0 else 480 by rw [← herr, ← hv, ← hod, ← HAN.out]; rfl)
  have HE0 := Lib.hid herr
  have HZ := Lib.hid (show err ≠ 0 → b.bl.accB no = zeroB ∧ b.bl.accX no = zeroA from fun h => by unfold Bl.accB Bl.accX; rw [herr, if_neg h, if_neg h]; exact ⟨rfl, rfl⟩)
  have HV := Lib.hid hv
  have HOD := Lib.hid hod
  have H1 := Lib.hid hn1
  have H2 := Lib.hid hn2
  rw [herr]
  clear hv hod hn1 hn2 herr
  cases v
  · have E := Lib.hid (ext_refl w)
    have HB := Lib.hid (hb)
    clear hb
    replace E := Lib.hid (ext_alloc E.out (.cells #[.int .i64 b.own, .int .i64 b.ot, .slice b.ag.A b.ag.l.length b.ag.c, .slice b.op.A b.op.l.length b.op.c] 24))
    replace HB := Lib.hid (HB.out.alloc (.cells #[.int .i64 b.own, .int .i64 b.ot, .slice b.ag.A b.ag.l.length b.ag.c, .slice b.op.A b.op.l.length b.op.c] 24))
    have BB := Lib.hid (Blk.newH w [.int .i64 b.own, .int .i64 b.ot, .slice b.ag.A b.ag.l.length b.ag.c, .slice b.op.A b.op.l.length b.op.c] 24 (w.heap.size) (by first | rfl | simp))
    replace E := Lib.hid (ext_alloc E.out (.cells #[.int .i64 0, .int .i64 0, .slice none 0 0, .slice none 0 0] 24))
    replace HB := Lib.hid (HB.out.alloc (.cells #[.int .i64 0, .int .i64 0, .slice none 0 0, .slice none 0 0] 24))
    replace BB := Lib.hid (BB.out.alloc (.cells #[.int .i64 0, .int .i64 0, .slice none 0 0, .slice none 0 0] 24))
    have R := Lib.hid (Blk.newH (w.alloc (.cells #[.int .i64 b.own, .int .i64 b.ot, .slice b.ag.A b.ag.l.length b.ag.c, .slice b.op.A b.op.l.length b.op.c] 24)) [.int .i64 0, .int .i64 0, .slice none 0 0, .slice none 0 0] 24 (w.heap.size + 1) (by first | rfl | simp))
    replace E := Lib.hid (ext_alloc E.out (.cells #[.int .i64 0, .int .i64 0, .int .i64 0, .int .i64 0, .int .i64 0] 26))
    replace HB := Lib.hid (HB.out.alloc (.cells #[.int .i64 0, .int .i64 0, .int .i64 0, .int .i64 0, .int .i64 0] 26))
    replace BB := Lib.hid (BB.out.alloc (.cells #[.int .i64 0, .int .i64 0, .int .i64 0, .int .i64 0, .int .i64 0] 26))
    replace R := Lib.hid (R.out.alloc (.cells #[.int .i64 0, .int .i64 0, .int .i64 0, .int .i64 0, .int .i64 0] 26))
    have RA := Lib.hid (Blk.newH ((w.alloc (.cells #[.int .i64 b.own, .int .i64 b.ot, .slice b.ag.A b.ag.l.length b.ag.c, .slice b.op.A b.op.l.length b.op.c] 24)).alloc (.cells #[.int .i64 0, .int .i64 0, .slice none 0 0, .slice none 0 0] 24)) [.int .i64 0, .int .i64 0, .int .i64 0, .int .i64 0, .int .i64 0] 26 (w.heap.size + 1 + 1) (by first | rfl | simp))
    go_enter Try.func18, Try.ntmps18
    have c0 := BB.out.c 0 _ rfl
    have c1 := BB.out.c 1 _ rfl
    have c2 := BB.out.c 2 _ rfl
    have c3 := BB.out.c 3 _ rfl
    go_wp2_with fail
    refine (rcheck_at 480 (chk_ok HV.out) HB.out).mono ?_
    rintro e v1 ⟨rfl, B⟩
    clear c0 c1 c2 c3
    replace E := Lib.hid (ext_trans E.out B)
    replace HB := Lib.hid (HB.out.ext B)
    replace BB := Lib.hid (BB.out.ext B)
    replace R := Lib.hid (R.out.ext B)
    replace RA := Lib.hid (RA.out.ext B)
    clear B
    have HERR := Lib.hid (show err = 480 by rw [HE.out]; rfl)
    have r0 := R.out.c 0 _ rfl
    have r1 := R.out.c 1 _ rfl
    have r2 := R.out.c 2 _ rfl
    have r3 := R.out.c 3 _ rfl
    have rf := R.out.f
    have rl := R.out.lt
    have ra0 := RA.out.c 0 _ rfl
    have ra1 := RA.out.c 1 _ rfl
    have ra2 := RA.out.c 2 _ rfl
    have ra3 := RA.out.c 3 _ rfl
    have ra4 := RA.out.c 4 _ rfl
    have raf := RA.out.f
    have ral := RA.out.lt
    replace E := Lib.hid (ext_set4 E.out (w.heap.size + 1) (.int .i64 0) (.int .i64 0) (.slice none 0 0) (.slice none 0 0) (by first | exact Nat.le_refl _ | omega | (simp; done) | (simp; omega)))
    replace HB := Lib.hid (HB.out.set4 (c := (w.heap.size + 1)) (.int .i64 0) (.int .i64 0) (.slice none 0 0) (.slice none 0 0) (HOFF.out _ (by omega)))
    replace BB := Lib.hid (BB.out.off4 (c := w.heap.size + 1) (.int .i64 0) (.int .i64 0) (.slice none 0 0) (.slice none 0 0) (by first | omega | (simp; done) | (simp; omega)))
    replace R := Lib.hid (R.out.put4 (.int .i64 0) (.int .i64 0) (.slice none 0 0) (.slice none 0 0))
    replace RA := Lib.hid (RA.out.off4 (c := w.heap.size + 1) (.int .i64 0) (.int .i64 0) (.slice none 0 0) (.slice none 0 0) (by first | omega | (simp; done) | (simp; omega)))
    unfold set4 at E HB BB R RA
    replace E := Lib.hid (ext_set5 E.out (w.heap.size + 1 + 1) (.int .i64 0) (.int .i64 0) (.int .i64 0) (.int .i64 0) (.int .i64 0) (by first | exact Nat.le_refl _ | omega | (simp; done) | (simp; omega)))
    replace HB := Lib.hid (HB.out.set5 (c := (w.heap.size + 1 + 1)) (.int .i64 0) (.int .i64 0) (.int .i64 0) (.int .i64 0) (.int .i64 0) (HOFF.out _ (by omega)))
    replace BB := Lib.hid (BB.out.off5 (c := w.heap.size + 1 + 1) (.int .i64 0) (.int .i64 0) (.int .i64 0) (.int .i64 0) (.int .i64 0) (by first | omega | (simp; done) | (simp; omega)))
    replace R := Lib.hid (R.out.off5 (c := w.heap.size + 1 + 1) (.int .i64 0) (.int .i64 0) (.int .i64 0) (.int .i64 0) (.int .i64 0) (by first | omega | (simp; done) | (simp; omega)))
    replace RA := Lib.hid (RA.out.put5 (.int .i64 0) (.int .i64 0) (.int .i64 0) (.int .i64 0) (.int .i64 0))
    unfold set5 at E HB BB R RA
    go_wp2_with fail
    refine bodyPost_ret (v := .tuple #[.agg #[.int .i64 0, .int .i64 0, .slice none 0 0, .slice none 0 0], .agg #[.int .i64 0, .int .i64 0, .int .i64 0, .int .i64 0, .int .i64 0], .int .i64 480]) (by simp [results, Try.results18, go_sem, *]) rfl ?_
    exact BaR.zero HERR.out HZ.out (by decide) rfl E.out
  cases od
  rotate_left
  · have E := Lib.hid (ext_refl w)
    have HB := Lib.hid (hb)
    clear hb
    replace E := Lib.hid (ext_alloc E.out (.cells #[.int .i64 b.own, .int .i64 b.ot, .slice b.ag.A b.ag.l.length b.ag.c, .slice b.op.A b.op.l.length b.op.c] 24))
    replace HB := Lib.hid (HB.out.alloc (.cells #[.int .i64 b.own, .int .i64 b.ot, .slice b.ag.A b.ag.l.length b.ag.c, .slice b.op.A b.op.l.length b.op.c] 24))
    have BB := Lib.hid (Blk.newH w [.int .i64 b.own, .int .i64 b.ot, .slice b.ag.A b.ag.l.length b.ag.c, .slice b.op.A b.op.l.length b.op.c] 24 (w.heap.size) (by first | rfl | simp))
    replace E := Lib.hid (ext_alloc E.out (.cells #[.int .i64 0, .int .i64 0, .slice none 0 0, .slice none 0 0] 24))
    replace HB := Lib.hid (HB.out.alloc (.cells #[.int .i64 0, .int .i64 0, .slice none 0 0, .slice none 0 0] 24))
    replace BB := Lib.hid (BB.out.alloc (.cells #[.int .i64 0, .int .i64 0, .slice none 0 0, .slice none 0 0] 24))
    have R := Lib.hid (Blk.newH (w.alloc (.cells #[.int .i64 b.own, .int .i64 b.ot, .slice b.ag.A b.ag.l.length b.ag.c, .slice b.op.A b.op.l.length b.op.c] 24)) [.int .i64 0, .int .i64 0, .slice none 0 0, .slice none 0 0] 24 (w.heap.size + 1) (by first | rfl | simp))
    replace E := Lib.hid (ext_alloc E.out (.cells #[.int .i64 0, .int .i64 0, .int .i64 0, .int .i64 0, .int .i64 0] 26))
    replace HB := Lib.hid (HB.out.alloc (.cells #[.int .i64 0, .int .i64 0, .int .i64 0, .int .i64 0, .int .i64 0] 26))
    replace BB := Lib.hid (BB.out.alloc (.cells #[.int .i64 0, .int .i64 0, .int .i64 0, .int .i64 0, .int .i64 0] 26))
    replace R := Lib.hid (R.out.alloc (.cells #[.int .i64 0, .int .i64 0, .int .i64 0, .int .i64 0, .int .i64 0] 26))
    have RA := Lib.hid (Blk.newH ((w.alloc (.cells #[.int .i64 b.own, .int .i64 b.ot, .slice b.ag.A b.ag.l.length b.ag.c, .slice b.op.A b.op.l.length b.op.c] 24)).alloc (.cells #[.int .i64 0, .int .i64 0, .slice none 0 0, .slice none 0 0] 24)) [.int .i64 0, .int .i64 0, .int .i64 0, .int .i64 0, .int .i64 0] 26 (w.heap.size + 1 + 1) (by first | rfl | simp))
    go_enter Try.func18, Try.ntmps18
    have c0 := BB.out.c 0 _ rfl
    have c1 := BB.out.c 1 _ rfl
    have c2 := BB.out.c 2 _ rfl
    have c3 := BB.out.c 3 _ rfl
    go_wp2_with fail
    refine (rcheck_at 0 (chk_ok HV.out) HB.out).mono ?_
    rintro e v1 ⟨rfl, B⟩
    clear c0 c1 c2 c3
    replace E := Lib.hid (ext_trans E.out B)
    replace HB := Lib.hid (HB.out.ext B)
    replace BB := Lib.hid (BB.out.ext B)
    replace R := Lib.hid (R.out.ext B)
    replace RA := Lib.hid (RA.out.ext B)
    clear B
    have c0 := BB.out.c 0 _ rfl
    have c1 := BB.out.c 1 _ rfl
    go_wp2_with fail
    refine (offB_at false (by rw [offd_not (no := no) (show b.own ≠ b.ot from cen_ne (ok_iff.1 HV.out).1)]; exact congrArg not HOD.out)).mono ?_
    rintro e v2 ⟨rfl, B⟩
    clear c0 c1
    replace E := Lib.hid (ext_trans E.out B)
    replace HB := Lib.hid (HB.out.ext B)
    replace BB := Lib.hid (BB.out.ext B)
    replace R := Lib.hid (R.out.ext B)
    replace RA := Lib.hid (RA.out.ext B)
    clear B
    have HERR := Lib.hid (show err = 480 by rw [HE.out]; rfl)
    have r0 := R.out.c 0 _ rfl
    have r1 := R.out.c 1 _ rfl
    have r2 := R.out.c 2 _ rfl
    have r3 := R.out.c 3 _ rfl
    have rf := R.out.f
    have rl := R.out.lt
    have ra0 := RA.out.c 0 _ rfl
    have ra1 := RA.out.c 1 _ rfl
    have ra2 := RA.out.c 2 _ rfl
    have ra3 := RA.out.c 3 _ rfl
    have ra4 := RA.out.c 4 _ rfl
    have raf := RA.out.f
    have ral := RA.out.lt
    replace E := Lib.hid (ext_set4 E.out (w.heap.size + 1) (.int .i64 0) (.int .i64 0) (.slice none 0 0) (.slice none 0 0) (by first | exact Nat.le_refl _ | omega | (simp; done) | (simp; omega)))
    replace HB := Lib.hid (HB.out.set4 (c := (w.heap.size + 1)) (.int .i64 0) (.int .i64 0) (.slice none 0 0) (.slice none 0 0) (HOFF.out _ (by omega)))
    replace BB := Lib.hid (BB.out.off4 (c := w.heap.size + 1) (.int .i64 0) (.int .i64 0) (.slice none 0 0) (.slice none 0 0) (by first | omega | (simp; done) | (simp; omega)))
    replace R := Lib.hid (R.out.put4 (.int .i64 0) (.int .i64 0) (.slice none 0 0) (.slice none 0 0))
    replace RA := Lib.hid (RA.out.off4 (c := w.heap.size + 1) (.int .i64 0) (.int .i64 0) (.slice none 0 0) (.slice none 0 0) (by first | omega | (simp; done) | (simp; omega)))
    unfold set4 at E HB BB R RA
    replace E := Lib.hid (ext_set5 E.out (w.heap.size + 1 + 1) (.int .i64 0) (.int .i64 0) (.int .i64 0) (.int .i64 0) (.int .i64 0) (by first | exact Nat.le_refl _ | omega | (simp; done) | (simp; omega)))
    replace HB := Lib.hid (HB.out.set5 (c := (w.heap.size + 1 + 1)) (.int .i64 0) (.int .i64 0) (.int .i64 0) (.int .i64 0) (.int .i64 0) (HOFF.out _ (by omega)))
    replace BB := Lib.hid (BB.out.off5 (c := w.heap.size + 1 + 1) (.int .i64 0) (.int .i64 0) (.int .i64 0) (.int .i64 0) (.int .i64 0) (by first | omega | (simp; done) | (simp; omega)))
    replace R := Lib.hid (R.out.off5 (c := w.heap.size + 1 + 1) (.int .i64 0) (.int .i64 0) (.int .i64 0) (.int .i64 0) (.int .i64 0) (by first | omega | (simp; done) | (simp; omega)))
    replace RA := Lib.hid (RA.out.put5 (.int .i64 0) (.int .i64 0) (.int .i64 0) (.int .i64 0) (.int .i64 0))
    unfold set5 at E HB BB R RA
    go_wp2_with fail
    refine bodyPost_ret (v := .tuple #[.agg #[.int .i64 0, .int .i64 0, .slice none 0 0, .slice none 0 0], .agg #[.int .i64 0, .int .i64 0, .int .i64 0, .int .i64 0, .int .i64 0], .int .i64 480]) (by simp [results, Try.results18, go_sem, *]) rfl ?_
    exact BaR.zero HERR.out HZ.out (by decide) rfl E.out
  have E := Lib.hid (ext_refl w)
  have HB := Lib.hid (hb)
  clear hb
  replace E := Lib.hid (ext_alloc E.out (.cells #[.int .i64 b.own, .int .i64 b.ot, .slice b.ag.A b.ag.l.length b.ag.c, .slice b.op.A b.op.l.length b.op.c] 24))
  replace HB := Lib.hid (HB.out.alloc (.cells #[.int .i64 b.own, .int .i64 b.ot, .slice b.ag.A b.ag.l.length b.ag.c, .slice b.op.A b.op.l.length b.op.c] 24))
  have BB := Lib.hid (Blk.newH w [.int .i64 b.own, .int .i64 b.ot, .slice b.ag.A b.ag.l.length b.ag.c, .slice b.op.A b.op.l.length b.op.c] 24 (w.heap.size) (by first | rfl | simp))
  replace E := Lib.hid (ext_alloc E.out (.cells #[.int .i64 0, .int .i64 0, .slice none 0 0, .slice none 0 0] 24))
  replace HB := Lib.hid (HB.out.alloc (.cells #[.int .i64 0, .int .i64 0, .slice none 0 0, .slice none 0 0] 24))
  replace BB := Lib.hid (BB.out.alloc (.cells #[.int .i64 0, .int .i64 0, .slice none 0 0, .slice none 0 0] 24))
  have R := Lib.hid (Blk.newH (w.alloc (.cells #[.int .i64 b.own, .int .i64 b.ot, .slice b.ag.A b.ag.l.length b.ag.c, .slice b.op.A b.op.l.length b.op.c] 24)) [.int .i64 0, .int .i64 0, .slice none 0 0, .slice none 0 0] 24 (w.heap.size + 1) (by first | rfl | simp))
  replace E := Lib.hid (ext_alloc E.out (.cells #[.int .i64 0, .int .i64 0, .int .i64 0, .int .i64 0, .int .i64 0] 26))
  replace HB := Lib.hid (HB.out.alloc (.cells #[.int .i64 0, .int .i64 0, .int .i64 0, .int .i64 0, .int .i64 0] 26))
  replace BB := Lib.hid (BB.out.alloc (.cells #[.int .i64 0, .int .i64 0, .int .i64 0, .int .i64 0, .int .i64 0] 26))
  replace R := Lib.hid (R.out.alloc (.cells #[.int .i64 0, .int .i64 0, .int .i64 0, .int .i64 0, .int .i64 0] 26))
  have RA := Lib.hid (Blk.newH ((w.alloc (.cells #[.int .i64 b.own, .int .i64 b.ot, .slice b.ag.A b.ag.l.length b.ag.c, .slice b.op.A b.op.l.length b.op.c] 24)).alloc (.cells #[.int .i64 0, .int .i64 0, .slice none 0 0, .slice none 0 0] 24)) [.int .i64 0, .int .i64 0, .int .i64 0, .int .i64 0, .int .i64 0] 26 (w.heap.size + 1 + 1) (by first | rfl | simp))
  go_enter Try.func18, Try.ntmps18
  have c0 := BB.out.c 0 _ rfl
  have c1 := BB.out.c 1 _ rfl
  have c2 := BB.out.c 2 _ rfl
  have c3 := BB.out.c 3 _ rfl
  go_wp2_with fail
  refine (rcheck_at 0 (chk_ok HV.out) HB.out).mono ?_
  rintro e v1 ⟨rfl, B⟩
  clear c0 c1 c2 c3
  replace E := Lib.hid (ext_trans E.out B)
  replace HB := Lib.hid (HB.out.ext B)
  replace BB := Lib.hid (BB.out.ext B)
  replace R := Lib.hid (R.out.ext B)
  replace RA := Lib.hid (RA.out.ext B)
  clear B
  have c0 := BB.out.c 0 _ rfl
  have c1 := BB.out.c 1 _ rfl
  go_wp2_with fail
  refine (offB_at true (by rw [offd_not (no := no) (show b.own ≠ b.ot from cen_ne (ok_iff.1 HV.out).1)]; exact congrArg not HOD.out)).mono ?_
  rintro e v2 ⟨rfl, B⟩
  clear c0 c1
  replace E := Lib.hid (ext_trans E.out B)
  replace HB := Lib.hid (HB.out.ext B)
  replace BB := Lib.hid (BB.out.ext B)
  replace R := Lib.hid (R.out.ext B)
  replace RA := Lib.hid (RA.out.ext B)
  clear B
  have c0 := BB.out.c 2 _ rfl
  go_wp2_with fail
  refine (rfind_at n1 H1.out rfl HB.out.ag hagl).mono ?_
  rintro e v3 ⟨y1, rfl, hy, B⟩
  clear c0
  replace E := Lib.hid (ext_trans E.out B)
  replace HB := Lib.hid (HB.out.ext B)
  replace BB := Lib.hid (BB.out.ext B)
  replace R := Lib.hid (R.out.ext B)
  replace RA := Lib.hid (RA.out.ext B)
  clear B
  have HY1 := Lib.hid hy
  clear hy
  cases n1 with
  | some z =>
    obtain rfl : y1 = z := HY1.out
    have HERR := Lib.hid (show err = 0 by rw [HE.out]; rfl)
    have HW := Lib.hid (show b.bl.accB no = b.bl ∧ b.bl.accX no = y1 from by
      have h0 : b.bl.accE no = 0 := by rw [HE0.out]; exact HERR.out
      rw [accB_ok h0, accX_ok h0, HAN.out, show numd b.bl.ag no = some y1 from H1.out]; exact ⟨rfl, rfl⟩)
    have ll0 := BB.out.lt
    have ll1 := R.out.lt
    have ll2 := RA.out.lt
    replace E := Lib.hid (ext_alloc E.out (.cells #[.int .i64 y1.no, .int .i64 y1.f, .int .i64 y1.t, .int .i64 y1.m, .int .i64 y1.r] 26))
    replace HB := Lib.hid (HB.out.alloc (.cells #[.int .i64 y1.no, .int .i64 y1.f, .int .i64 y1.t, .int .i64 y1.m, .int .i64 y1.r] 26))
    replace BB := Lib.hid (BB.out.alloc (.cells #[.int .i64 y1.no, .int .i64 y1.f, .int .i64 y1.t, .int .i64 y1.m, .int .i64 y1.r] 26))
    replace R := Lib.hid (R.out.alloc (.cells #[.int .i64 y1.no, .int .i64 y1.f, .int .i64 y1.t, .int .i64 y1.m, .int .i64 y1.r] 26))
    replace RA := Lib.hid (RA.out.alloc (.cells #[.int .i64 y1.no, .int .i64 y1.f, .int .i64 y1.t, .int .i64 y1.m, .int .i64 y1.r] 26))
    have O1 := Lib.hid (Blk.newH v3 [.int .i64 y1.no, .int .i64 y1.f, .int .i64 y1.t, .int .i64 y1.m, .int .i64 y1.r] 26 (v3.heap.size) (by first | rfl | simp))
    go_wp2_with fail
    obtain ⟨vA, hNvA⟩ : ∃ W0, W0 = (v3.alloc (.cells #[.int .i64 y1.no, .int .i64 y1.f, .int .i64 y1.t, .int .i64 y1.m, .int .i64 y1.r] 26)) := ⟨_, rfl⟩
    rw [← hNvA] at E HB BB R RA O1 ⊢
    clear hNvA
    refine rg_begin (S := (fun w' => w'.cell? ⟨w.heap.size, 0, none⟩ = some (.int .i64 b.own) ∧ w'.cell? ⟨w.heap.size, 1, none⟩ = some (.int .i64 b.ot) ∧ w'.cell? ⟨w.heap.size, 2, none⟩ = some (.slice b.ag.A b.ag.l.length b.ag.c) ∧ w'.cell? ⟨w.heap.size, 3, none⟩ = some (.slice b.op.A b.op.l.length b.op.c) ∧ w'.cell? ⟨v3.heap.size, 0, none⟩ = some (.int .i64 y1.no) ∧ w'.cell? ⟨v3.heap.size, 1, none⟩ = some (.int .i64 y1.f) ∧ w'.cell? ⟨v3.heap.size, 2, none⟩ = some (.int .i64 y1.t) ∧ w'.cell? ⟨v3.heap.size, 3, none⟩ = some (.int .i64 y1.m) ∧ w'.cell? ⟨v3.heap.size, 4, none⟩ = some (.int .i64 y1.r))) 3 (by kernel_rfl) (by intro d; cases d <;> intro _ _ _ _ h <;> exact h) ?_ (fun Q7 hQ7 hN7 hHeld => ?_)
    · exact ⟨(BB.out.drew).c 0 _ rfl, (BB.out.drew).c 1 _ rfl, (BB.out.drew).c 2 _ rfl, (BB.out.drew).c 3 _ rfl, (O1.out.drew).c 0 _ rfl, (O1.out.drew).c 1 _ rfl, (O1.out.drew).c 2 _ rfl, (O1.out.drew).c 3 _ rfl, (O1.out.drew).c 4 _ rfl⟩
    have g00 : vA.cell? ⟨w.heap.size + 1, 0, none⟩ = some (.int .i64 0) := R.out.c 0 _ rfl
    have g01 : vA.cell? ⟨w.heap.size + 1, 1, none⟩ = some (.int .i64 0) := R.out.c 1 _ rfl
    have g02 : vA.cell? ⟨w.heap.size + 1, 2, none⟩ = some (.slice none 0 0) := R.out.c 2 _ rfl
    have g03 : vA.cell? ⟨w.heap.size + 1, 3, none⟩ = some (.slice none 0 0) := R.out.c 3 _ rfl
    have g0f : ∀ j, vA.frozen? ⟨w.heap.size + 1, j, none⟩ = false := R.out.f
    have g0l : w.heap.size + 1 < vA.heap.size := R.out.lt
    have g10 : vA.cell? ⟨w.heap.size + 1 + 1, 0, none⟩ = some (.int .i64 0) := RA.out.c 0 _ rfl
    have g11 : vA.cell? ⟨w.heap.size + 1 + 1, 1, none⟩ = some (.int .i64 0) := RA.out.c 1 _ rfl
    have g12 : vA.cell? ⟨w.heap.size + 1 + 1, 2, none⟩ = some (.int .i64 0) := RA.out.c 2 _ rfl
    have g13 : vA.cell? ⟨w.heap.size + 1 + 1, 3, none⟩ = some (.int .i64 0) := RA.out.c 3 _ rfl
    have g14 : vA.cell? ⟨w.heap.size + 1 + 1, 4, none⟩ = some (.int .i64 0) := RA.out.c 4 _ rfl
    have g1f : ∀ j, vA.frozen? ⟨w.heap.size + 1 + 1, j, none⟩ = false := RA.out.f
    have g1l : w.heap.size + 1 + 1 < vA.heap.size := RA.out.lt
    refine rg_take (i := 0) (some 33) (v := ?_) rfl rfl (by kernel_rfl) (by rfl) hQ7 hHeld ?_ ?_
    rotate_left
    · intro w7 hSw; (try dsimp only at hSw); go_simp; all_goals with_reducible rfl
    try simp only [Act.put, List.setIfInBounds_toArray, List.set_cons_zero, List.set_cons_succ]
    refine rg_take (i := 1) (some 34) (v := ?_) rfl rfl (by kernel_rfl) (by rfl) hQ7 hHeld ?_ ?_
    rotate_left
    · intro w7 hSw; (try dsimp only at hSw); go_simp; all_goals with_reducible rfl
    try simp only [Act.put, List.setIfInBounds_toArray, List.set_cons_zero, List.set_cons_succ]
    have KBB := BB.out.off4 (c := w.heap.size + 1) (.int .i64 b.own) (.int .i64 b.ot) (.slice b.ag.A b.ag.l.length b.ag.c) (.slice b.op.A b.op.l.length b.op.c) (by first | omega | (simp; done) | (simp; omega))
    have KO1 := O1.out.off4 (c := w.heap.size + 1) (.int .i64 b.own) (.int .i64 b.ot) (.slice b.ag.A b.ag.l.length b.ag.c) (.slice b.op.A b.op.l.length b.op.c) (by first | omega | (simp; done) | (simp; omega))
    unfold set4 at KBB KO1
    refine rg_one (i := 2) (by kernel_rfl) (rg_step rfl (by rfl) (fun K hK => ?_))
    go_simp
    refine hK.out _ _ ?_ (fun hHeld2 => ?_)
    · exact ⟨(KBB.drew).c 0 _ rfl, (KBB.drew).c 1 _ rfl, (KBB.drew).c 2 _ rfl, (KBB.drew).c 3 _ rfl, (KO1.drew).c 0 _ rfl, (KO1.drew).c 1 _ rfl, (KO1.drew).c 2 _ rfl, (KO1.drew).c 3 _ rfl, (KO1.drew).c 4 _ rfl⟩
    clear hHeld
    have hHeld := hHeld2
    clear hHeld2
    clear hK K
    try simp only [Act.put, List.setIfInBounds_toArray, List.set_cons_zero, List.set_cons_succ]
    clear KBB KO1
    replace E := Lib.hid (ext_set4 E.out (w.heap.size + 1) (.int .i64 b.own) (.int .i64 b.ot) (.slice b.ag.A b.ag.l.length b.ag.c) (.slice b.op.A b.op.l.length b.op.c) (by first | exact Nat.le_refl _ | omega | (simp; done) | (simp; omega)))
    replace HB := Lib.hid (HB.out.set4 (c := (w.heap.size + 1)) (.int .i64 b.own) (.int .i64 b.ot) (.slice b.ag.A b.ag.l.length b.ag.c) (.slice b.op.A b.op.l.length b.op.c) (HOFF.out _ (by omega)))
    replace BB := Lib.hid (BB.out.off4 (c := w.heap.size + 1) (.int .i64 b.own) (.int .i64 b.ot) (.slice b.ag.A b.ag.l.length b.ag.c) (.slice b.op.A b.op.l.length b.op.c) (by first | omega | (simp; done) | (simp; omega)))
    replace R := Lib.hid (R.out.put4 (.int .i64 b.own) (.int .i64 b.ot) (.slice b.ag.A b.ag.l.length b.ag.c) (.slice b.op.A b.op.l.length b.op.c))
    replace RA := Lib.hid (RA.out.off4 (c := w.heap.size + 1) (.int .i64 b.own) (.int .i64 b.ot) (.slice b.ag.A b.ag.l.length b.ag.c) (.slice b.op.A b.op.l.length b.op.c) (by first | omega | (simp; done) | (simp; omega)))
    replace O1 := Lib.hid (O1.out.off4 (c := w.heap.size + 1) (.int .i64 b.own) (.int .i64 b.ot) (.slice b.ag.A b.ag.l.length b.ag.c) (.slice b.op.A b.op.l.length b.op.c) (by first | omega | (simp; done) | (simp; omega)))
    unfold set4 at E HB BB R RA O1
    refine rg_one (i := 3) (by kernel_rfl) (rg_late rfl (by rfl) (by kernel_rfl) (fun K hK => ?_))
    go_simp
    refine hK.out _ _ ?_
    clear hK K
    try simp only [Act.put, List.setIfInBounds_toArray, List.set_cons_zero, List.set_cons_succ]
    replace E := Lib.hid (ext_set5 E.out (w.heap.size + 1 + 1) (.int .i64 y1.no) (.int .i64 y1.f) (.int .i64 y1.t) (.int .i64 y1.m) (.int .i64 y1.r) (by first | exact Nat.le_refl _ | omega | (simp; done) | (simp; omega)))
    replace HB := Lib.hid (HB.out.set5 (c := (w.heap.size + 1 + 1)) (.int .i64 y1.no) (.int .i64 y1.f) (.int .i64 y1.t) (.int .i64 y1.m) (.int .i64 y1.r) (HOFF.out _ (by omega)))
    replace BB := Lib.hid (BB.out.off5 (c := w.heap.size + 1 + 1) (.int .i64 y1.no) (.int .i64 y1.f) (.int .i64 y1.t) (.int .i64 y1.m) (.int .i64 y1.r) (by first | omega | (simp; done) | (simp; omega)))
    replace R := Lib.hid (R.out.off5 (c := w.heap.size + 1 + 1) (.int .i64 y1.no) (.int .i64 y1.f) (.int .i64 y1.t) (.int .i64 y1.m) (.int .i64 y1.r) (by first | omega | (simp; done) | (simp; omega)))
    replace RA := Lib.hid (RA.out.put5 (.int .i64 y1.no) (.int .i64 y1.f) (.int .i64 y1.t) (.int .i64 y1.m) (.int .i64 y1.r))
    replace O1 := Lib.hid (O1.out.off5 (c := w.heap.size + 1 + 1) (.int .i64 y1.no) (.int .i64 y1.f) (.int .i64 y1.t) (.int .i64 y1.m) (.int .i64 y1.r) (by first | omega | (simp; done) | (simp; omega)))
    unfold set5 at E HB BB R RA O1
    refine rg_pure (i := 4) (some 6) (v := ?_) rfl rfl (by kernel_rfl) (by rfl) hQ7 (.inl (by kernel_rfl)) ?_ ?_
    rotate_left
    · intro w7; go_simp; all_goals with_reducible rfl
    try simp only [Act.put, List.setIfInBounds_toArray, List.set_cons_zero, List.set_cons_succ]
    refine rg_end (by kernel_rfl) (hN7 _ _ ?_) _
    clear hQ7 hN7 Q7
    have DD := ext_drew (ext_refl (((((((((vA.setCell ⟨w.heap.size + 1, 0, none⟩ (.int .i64 b.own)).setCell ⟨w.heap.size + 1, 1, none⟩ (.int .i64 b.ot)).setCell ⟨w.heap.size + 1, 2, none⟩ (.slice b.ag.A b.ag.l.length b.ag.c)).setCell ⟨w.heap.size + 1, 3, none⟩ (.slice b.op.A b.op.l.length b.op.c)).setCell ⟨w.heap.size + 1 + 1, 0, none⟩ (.int .i64 y1.no)).setCell ⟨w.heap.size + 1 + 1, 1, none⟩ (.int .i64 y1.f)).setCell ⟨w.heap.size + 1 + 1, 2, none⟩ (.int .i64 y1.t)).setCell ⟨w.heap.size + 1 + 1, 3, none⟩ (.int .i64 y1.m)).setCell ⟨w.heap.size + 1 + 1, 4, none⟩ (.int .i64 y1.r)))
    replace E := Lib.hid (ext_trans E.out DD)
    replace HB := Lib.hid (HB.out.ext DD)
    replace BB := Lib.hid (BB.out.ext DD)
    replace R := Lib.hid (R.out.ext DD)
    replace RA := Lib.hid (RA.out.ext DD)
    replace O1 := Lib.hid (O1.out.ext DD)
    clear DD
    go_wp2_with fail
    refine bodyPost_ret (v := .tuple #[b.v, y1.v, .int .i64 0]) (by simp [results, Try.results18, go_sem, *]) rfl ?_
    rw [HW.out.1, HW.out.2, HERR.out]
    exact ⟨b, rfl, rfl, HB.out, E.out, fun c _ h => h⟩
  | none =>
    replace E := Lib.hid (ext_alloc E.out (.cells #[.int .i64 y1.no, .int .i64 y1.f, .int .i64 y1.t, .int .i64 y1.m, .int .i64 y1.r] 26))
    replace HB := Lib.hid (HB.out.alloc (.cells #[.int .i64 y1.no, .int .i64 y1.f, .int .i64 y1.t, .int .i64 y1.m, .int .i64 y1.r] 26))
    replace BB := Lib.hid (BB.out.alloc (.cells #[.int .i64 y1.no, .int .i64 y1.f, .int .i64 y1.t, .int .i64 y1.m, .int .i64 y1.r] 26))
    replace R := Lib.hid (R.out.alloc (.cells #[.int .i64 y1.no, .int .i64 y1.f, .int .i64 y1.t, .int .i64 y1.m, .int .i64 y1.r] 26))
    replace RA := Lib.hid (RA.out.alloc (.cells #[.int .i64 y1.no, .int .i64 y1.f, .int .i64 y1.t, .int .i64 y1.m, .int .i64 y1.r] 26))
    have c0 := BB.out.c 3 _ rfl
    go_wp2_with fail
    refine (rfind_at n2 H2.out rfl HB.out.op hopl).mono ?_
    rintro e v4 ⟨y2, rfl, hy, B⟩
    clear c0
    replace E := Lib.hid (ext_trans E.out B)
    replace HB := Lib.hid (HB.out.ext B)
    replace BB := Lib.hid (BB.out.ext B)
    replace R := Lib.hid (R.out.ext B)
    replace RA := Lib.hid (RA.out.ext B)
    clear B
    have HY2 := Lib.hid hy
    clear hy
    cases n2 with
    | none =>
      have AL := ext_alloc (ext_refl v4) (.cells #[.int .i64 y2.no, .int .i64 y2.f, .int .i64 y2.t, .int .i64 y2.m, .int .i64 y2.r] 26)
      replace E := Lib.hid (ext_trans E.out AL)
      replace HB := Lib.hid (HB.out.ext AL)
      replace BB := Lib.hid (BB.out.ext AL)
      replace R := Lib.hid (R.out.ext AL)
      replace RA := Lib.hid (RA.out.ext AL)
      clear AL
      have HERR := Lib.hid (show err = 480 by rw [HE.out]; rfl)
      have r0 := R.out.c 0 _ rfl
      have r1 := R.out.c 1 _ rfl
      have r2 := R.out.c 2 _ rfl
      have r3 := R.out.c 3 _ rfl
      have rf := R.out.f
      have rl := R.out.lt
      have ra0 := RA.out.c 0 _ rfl
      have ra1 := RA.out.c 1 _ rfl
      have ra2 := RA.out.c 2 _ rfl
      have ra3 := RA.out.c 3 _ rfl
      have ra4 := RA.out.c 4 _ rfl
      have raf := RA.out.f
      have ral := RA.out.lt
      replace E := Lib.hid (ext_set4 E.out (w.heap.size + 1) (.int .i64 0) (.int .i64 0) (.slice none 0 0) (.slice none 0 0) (by first | exact Nat.le_refl _ | omega | (simp; done) | (simp; omega)))
      replace HB := Lib.hid (HB.out.set4 (c := (w.heap.size + 1)) (.int .i64 0) (.int .i64 0) (.slice none 0 0) (.slice none 0 0) (HOFF.out _ (by omega)))
      replace BB := Lib.hid (BB.out.off4 (c := w.heap.size + 1) (.int .i64 0) (.int .i64 0) (.slice none 0 0) (.slice none 0 0) (by first | omega | (simp; done) | (simp; omega)))
      replace R := Lib.hid (R.out.put4 (.int .i64 0) (.int .i64 0) (.slice none 0 0) (.slice none 0 0))
      replace RA := Lib.hid (RA.out.off4 (c := w.heap.size + 1) (.int .i64 0) (.int .i64 0) (.slice none 0 0) (.slice none 0 0) (by first | omega | (simp; done) | (simp; omega)))
      unfold set4 at E HB BB R RA
      replace E := Lib.hid (ext_set5 E.out (w.heap.size + 1 + 1) (.int .i64 0) (.int .i64 0) (.int .i64 0) (.int .i64 0) (.int .i64 0) (by first | exact Nat.le_refl _ | omega | (simp; done) | (simp; omega)))
      replace HB := Lib.hid (HB.out.set5 (c := (w.heap.size + 1 + 1)) (.int .i64 0) (.int .i64 0) (.int .i64 0) (.int .i64 0) (.int .i64 0) (HOFF.out _ (by omega)))
      replace BB := Lib.hid (BB.out.off5 (c := w.heap.size + 1 + 1) (.int .i64 0) (.int .i64 0) (.int .i64 0) (.int .i64 0) (.int .i64 0) (by first | omega | (simp; done) | (simp; omega)))
      replace R := Lib.hid (R.out.off5 (c := w.heap.size + 1 + 1) (.int .i64 0) (.int .i64 0) (.int .i64 0) (.int .i64 0) (.int .i64 0) (by first | omega | (simp; done) | (simp; omega)))
      replace RA := Lib.hid (RA.out.put5 (.int .i64 0) (.int .i64 0) (.int .i64 0) (.int .i64 0) (.int .i64 0))
      unfold set5 at E HB BB R RA
      go_wp2_with fail
      refine bodyPost_ret (v := .tuple #[.agg #[.int .i64 0, .int .i64 0, .slice none 0 0, .slice none 0 0], .agg #[.int .i64 0, .int .i64 0, .int .i64 0, .int .i64 0, .int .i64 0], .int .i64 480]) (by simp [results, Try.results18, go_sem, *]) rfl ?_
      exact BaR.zero HERR.out HZ.out (by decide) rfl E.out
    | some z =>
      obtain rfl : y2 = z := HY2.out
      have HERR := Lib.hid (show err = 0 by rw [HE.out]; rfl)
      have HW := Lib.hid (show b.bl.agree y2 = b.bl.accB no ∧ b.bl.accX no = y2 from by
        have h0 : b.bl.accE no = 0 := by rw [HE0.out]; exact HERR.out
        rw [accB_ok h0, accX_ok h0, HAN.out, show numd b.bl.ag no = none from H1.out, show numd b.bl.op no = some y2 from H2.out]; exact ⟨rfl, rfl⟩)
      have HPA := Lib.hid (putOk_ag HV.out HLL.out.1 (ok_fits HV.out (.inr (numd_some H2.out).1)))
      have ll0 := BB.out.lt
      have ll1 := R.out.lt
      have ll2 := RA.out.lt
      replace E := Lib.hid (ext_alloc E.out (.cells #[.int .i64 y2.no, .int .i64 y2.f, .int .i64 y2.t, .int .i64 y2.m, .int .i64 y2.r] 26))
      replace HB := Lib.hid (HB.out.alloc (.cells #[.int .i64 y2.no, .int .i64 y2.f, .int .i64 y2.t, .int .i64 y2.m, .int .i64 y2.r] 26))
      replace BB := Lib.hid (BB.out.alloc (.cells #[.int .i64 y2.no, .int .i64 y2.f, .int .i64 y2.t, .int .i64 y2.m, .int .i64 y2.r] 26))
      replace R := Lib.hid (R.out.alloc (.cells #[.int .i64 y2.no, .int .i64 y2.f, .int .i64 y2.t, .int .i64 y2.m, .int .i64 y2.r] 26))
      replace RA := Lib.hid (RA.out.alloc (.cells #[.int .i64 y2.no, .int .i64 y2.f, .int .i64 y2.t, .int .i64 y2.m, .int .i64 y2.r] 26))
      have O2 := Lib.hid (Blk.newH v4 [.int .i64 y2.no, .int .i64 y2.f, .int .i64 y2.t, .int .i64 y2.m, .int .i64 y2.r] 26 (v4.heap.size) (by first | rfl | simp))
      go_wp2_with fail
      obtain ⟨vA, hNvA⟩ : ∃ W0, W0 = (v4.alloc (.cells #[.int .i64 y2.no, .int .i64 y2.f, .int .i64 y2.t, .int .i64 y2.m, .int .i64 y2.r] 26)) := ⟨_, rfl⟩
      rw [← hNvA] at E HB BB R RA O2 ⊢
      clear hNvA
      have EW := Lib.hid E.out.size
      have hrl := R.out.lt
      have hra := RA.out.lt
      refine rg_begin (S := (fun w' => w'.cell? ⟨w.heap.size, 0, none⟩ = some (.int .i64 b.own) ∧ w'.cell? ⟨w.heap.size, 1, none⟩ = some (.int .i64 b.ot) ∧ w'.cell? ⟨w.heap.size, 2, none⟩ = some (.slice b.ag.A b.ag.l.length b.ag.c) ∧ w'.cell? ⟨w.heap.size, 3, none⟩ = some (.slice b.op.A b.op.l.length b.op.c) ∧ w'.cell? ⟨v4.heap.size, 0, none⟩ = some (.int .i64 y2.no) ∧ w'.cell? ⟨v4.heap.size, 1, none⟩ = some (.int .i64 y2.f) ∧ w'.cell? ⟨v4.heap.size, 2, none⟩ = some (.int .i64 y2.t) ∧ w'.cell? ⟨v4.heap.size, 3, none⟩ = some (.int .i64 y2.m) ∧ w'.cell? ⟨v4.heap.size, 4, none⟩ = some (.int .i64 y2.r))) 5 (by kernel_rfl) (by intro d; cases d <;> intro _ _ _ _ h <;> exact h) ?_ (fun Q7 hQ7 hN7 hHeld => ?_)
      · exact ⟨(BB.out.drew).c 0 _ rfl, (BB.out.drew).c 1 _ rfl, (BB.out.drew).c 2 _ rfl, (BB.out.drew).c 3 _ rfl, (O2.out.drew).c 0 _ rfl, (O2.out.drew).c 1 _ rfl, (O2.out.drew).c 2 _ rfl, (O2.out.drew).c 3 _ rfl, (O2.out.drew).c 4 _ rfl⟩
      have g00 : vA.cell? ⟨w.heap.size + 1, 0, none⟩ = some (.int .i64 0) := R.out.c 0 _ rfl
      have g01 : vA.cell? ⟨w.heap.size + 1, 1, none⟩ = some (.int .i64 0) := R.out.c 1 _ rfl
      have g02 : vA.cell? ⟨w.heap.size + 1, 2, none⟩ = some (.slice none 0 0) := R.out.c 2 _ rfl
      have g03 : vA.cell? ⟨w.heap.size + 1, 3, none⟩ = some (.slice none 0 0) := R.out.c 3 _ rfl
      have g0f : ∀ j, vA.frozen? ⟨w.heap.size + 1, j, none⟩ = false := R.out.f
      have g0l : w.heap.size + 1 < vA.heap.size := R.out.lt
      have g10 : vA.cell? ⟨w.heap.size + 1 + 1, 0, none⟩ = some (.int .i64 0) := RA.out.c 0 _ rfl
      have g11 : vA.cell? ⟨w.heap.size + 1 + 1, 1, none⟩ = some (.int .i64 0) := RA.out.c 1 _ rfl
      have g12 : vA.cell? ⟨w.heap.size + 1 + 1, 2, none⟩ = some (.int .i64 0) := RA.out.c 2 _ rfl
      have g13 : vA.cell? ⟨w.heap.size + 1 + 1, 3, none⟩ = some (.int .i64 0) := RA.out.c 3 _ rfl
      have g14 : vA.cell? ⟨w.heap.size + 1 + 1, 4, none⟩ = some (.int .i64 0) := RA.out.c 4 _ rfl
      have g1f : ∀ j, vA.frozen? ⟨w.heap.size + 1 + 1, j, none⟩ = false := RA.out.f
      have g1l : w.heap.size + 1 + 1 < vA.heap.size := RA.out.lt
      refine rg_take (i := 0) (some 46) (v := ?_) rfl rfl (by kernel_rfl) (by rfl) hQ7 hHeld ?_ ?_
      rotate_left
      · intro w7 hSw; (try dsimp only at hSw); go_simp; all_goals with_reducible rfl
      try simp only [Act.put, List.setIfInBounds_toArray, List.set_cons_zero, List.set_cons_succ]
      refine rg_take (i := 1) (some 47) (v := ?_) rfl rfl (by kernel_rfl) (by rfl) hQ7 hHeld ?_ ?_
      rotate_left
      · intro w7 hSw; (try dsimp only at hSw); go_simp; all_goals with_reducible rfl
      try simp only [Act.put, List.setIfInBounds_toArray, List.set_cons_zero, List.set_cons_succ]
      refine rg_take (i := 3) (some 49) (v := ?_) rfl rfl (by kernel_rfl) (by rfl) hQ7 hHeld ?_ ?_
      rotate_left
      · intro w7 hSw; (try dsimp only at hSw); go_simp; all_goals with_reducible rfl
      try simp only [Act.put, List.setIfInBounds_toArray, List.set_cons_zero, List.set_cons_succ]
      have DD := ext_drew (ext_refl vA)
      replace E := Lib.hid (ext_trans E.out DD)
      replace HB := Lib.hid (HB.out.ext DD)
      replace BB := Lib.hid (BB.out.ext DD)
      replace R := Lib.hid (R.out.ext DD)
      replace RA := Lib.hid (RA.out.ext DD)
      replace O2 := Lib.hid (O2.out.ext DD)
      clear DD
      refine rg_one (i := 2) (by kernel_rfl) (rg_step rfl (by rfl) (fun K hK => ?_))
      go_simp
      refine (move_at (b := b) (a := y2) _ HW.out.1 (HB.out) HLL.out.2 HPA.out).mono ?_
      rintro e v5 ⟨m, rfl, hm, hmo, B, hmf⟩
      go_wp2_with fail
      refine hK.out _ _ ?_ (fun hHeld2 => ?_)
      · exact ⟨(BB.out.ext B).c 0 _ rfl, (BB.out.ext B).c 1 _ rfl, (BB.out.ext B).c 2 _ rfl, (BB.out.ext B).c 3 _ rfl, (O2.out.ext B).c 0 _ rfl, (O2.out.ext B).c 1 _ rfl, (O2.out.ext B).c 2 _ rfl, (O2.out.ext B).c 3 _ rfl, (O2.out.ext B).c 4 _ rfl⟩
      clear hHeld
      have hHeld := hHeld2
      clear hHeld2
      clear hK K
      try simp only [Act.put, List.setIfInBounds_toArray, List.set_cons_zero, List.set_cons_succ]
      replace E := Lib.hid (ext_trans E.out B)
      replace HB := Lib.hid (HB.out.ext B)
      replace BB := Lib.hid (BB.out.ext B)
      replace R := Lib.hid (R.out.ext B)
      replace RA := Lib.hid (RA.out.ext B)
      replace O2 := Lib.hid (O2.out.ext B)
      clear B
      clear g00 g01 g02 g03 g0f g0l g10 g11 g12 g13 g14 g1f g1l
      have g00 : v5.cell? ⟨w.heap.size + 1, 0, none⟩ = some (.int .i64 0) := R.out.c 0 _ rfl
      have g01 : v5.cell? ⟨w.heap.size + 1, 1, none⟩ = some (.int .i64 0) := R.out.c 1 _ rfl
      have g02 : v5.cell? ⟨w.heap.size + 1, 2, none⟩ = some (.slice none 0 0) := R.out.c 2 _ rfl
      have g03 : v5.cell? ⟨w.heap.size + 1, 3, none⟩ = some (.slice none 0 0) := R.out.c 3 _ rfl
      have g0f : ∀ j, v5.frozen? ⟨w.heap.size + 1, j, none⟩ = false := R.out.f
      have g0l : w.heap.size + 1 < v5.heap.size := R.out.lt
      have g10 : v5.cell? ⟨w.heap.size + 1 + 1, 0, none⟩ = some (.int .i64 0) := RA.out.c 0 _ rfl
      have g11 : v5.cell? ⟨w.heap.size + 1 + 1, 1, none⟩ = some (.int .i64 0) := RA.out.c 1 _ rfl
      have g12 : v5.cell? ⟨w.heap.size + 1 + 1, 2, none⟩ = some (.int .i64 0) := RA.out.c 2 _ rfl
      have g13 : v5.cell? ⟨w.heap.size + 1 + 1, 3, none⟩ = some (.int .i64 0) := RA.out.c 3 _ rfl
      have g14 : v5.cell? ⟨w.heap.size + 1 + 1, 4, none⟩ = some (.int .i64 0) := RA.out.c 4 _ rfl
      have g1f : ∀ j, v5.frozen? ⟨w.heap.size + 1 + 1, j, none⟩ = false := RA.out.f
      have g1l : w.heap.size + 1 + 1 < v5.heap.size := RA.out.lt
      have HM := Lib.hid hm
      have HMF := Lib.hid (hmf (w.heap.size + 1) (by simpa using hrl) (HOFF.out _ (by omega)))
      have HMF3 := Lib.hid (hmf (w.heap.size + 1 + 1) (by simpa using hra) (HOFF.out _ (by omega)))
      have HMF2 := Lib.hid hmf
      replace HB := Lib.hid hmo
      clear hm hmf hmo
      have KBB := BB.out.off4 (c := w.heap.size + 1) (.int .i64 m.own) (.int .i64 m.ot) (.slice m.ag.A m.ag.l.length m.ag.c) (.slice m.op.A m.op.l.length m.op.c) (by first | omega | (simp; done) | (simp; omega))
      have KO2 := O2.out.off4 (c := w.heap.size + 1) (.int .i64 m.own) (.int .i64 m.ot) (.slice m.ag.A m.ag.l.length m.ag.c) (.slice m.op.A m.op.l.length m.op.c) (by first | omega | (simp; done) | (simp; omega))
      unfold set4 at KBB KO2
      refine rg_one (i := 4) (by kernel_rfl) (rg_step rfl (by rfl) (fun K hK => ?_))
      go_simp
      refine hK.out _ _ ?_ (fun hHeld2 => ?_)
      · exact ⟨(KBB).c 0 _ rfl, (KBB).c 1 _ rfl, (KBB).c 2 _ rfl, (KBB).c 3 _ rfl, (KO2).c 0 _ rfl, (KO2).c 1 _ rfl, (KO2).c 2 _ rfl, (KO2).c 3 _ rfl, (KO2).c 4 _ rfl⟩
      clear hHeld
      have hHeld := hHeld2
      clear hHeld2
      clear hK K
      try simp only [Act.put, List.setIfInBounds_toArray, List.set_cons_zero, List.set_cons_succ]
      clear KBB KO2
      replace E := Lib.hid (ext_set4 E.out (w.heap.size + 1) (.int .i64 m.own) (.int .i64 m.ot) (.slice m.ag.A m.ag.l.length m.ag.c) (.slice m.op.A m.op.l.length m.op.c) (by first | exact Nat.le_refl _ | omega | (simp; done) | (simp; omega)))
      replace HB := Lib.hid (HB.out.set4 (c := (w.heap.size + 1)) (.int .i64 m.own) (.int .i64 m.ot) (.slice m.ag.A m.ag.l.length m.ag.c) (.slice m.op.A m.op.l.length m.op.c) HMF.out)
      replace BB := Lib.hid (BB.out.off4 (c := w.heap.size + 1) (.int .i64 m.own) (.int .i64 m.ot) (.slice m.ag.A m.ag.l.length m.ag.c) (.slice m.op.A m.op.l.length m.op.c) (by first | omega | (simp; done) | (simp; omega)))
      replace R := Lib.hid (R.out.put4 (.int .i64 m.own) (.int .i64 m.ot) (.slice m.ag.A m.ag.l.length m.ag.c) (.slice m.op.A m.op.l.length m.op.c))
      replace RA := Lib.hid (RA.out.off4 (c := w.heap.size + 1) (.int .i64 m.own) (.int .i64 m.ot) (.slice m.ag.A m.ag.l.length m.ag.c) (.slice m.op.A m.op.l.length m.op.c) (by first | omega | (simp; done) | (simp; omega)))
      replace O2 := Lib.hid (O2.out.off4 (c := w.heap.size + 1) (.int .i64 m.own) (.int .i64 m.ot) (.slice m.ag.A m.ag.l.length m.ag.c) (.slice m.op.A m.op.l.length m.op.c) (by first | omega | (simp; done) | (simp; omega)))
      unfold set4 at E HB BB R RA O2
      refine rg_one (i := 5) (by kernel_rfl) (rg_late rfl (by rfl) (by kernel_rfl) (fun K hK => ?_))
      go_simp
      refine hK.out _ _ ?_
      clear hK K
      try simp only [Act.put, List.setIfInBounds_toArray, List.set_cons_zero, List.set_cons_succ]
      replace E := Lib.hid (ext_set5 E.out (w.heap.size + 1 + 1) (.int .i64 y2.no) (.int .i64 y2.f) (.int .i64 y2.t) (.int .i64 y2.m) (.int .i64 y2.r) (by first | exact Nat.le_refl _ | omega | (simp; done) | (simp; omega)))
      replace HB := Lib.hid (HB.out.set5 (c := (w.heap.size + 1 + 1)) (.int .i64 y2.no) (.int .i64 y2.f) (.int .i64 y2.t) (.int .i64 y2.m) (.int .i64 y2.r) HMF3.out)
      replace BB := Lib.hid (BB.out.off5 (c := w.heap.size + 1 + 1) (.int .i64 y2.no) (.int .i64 y2.f) (.int .i64 y2.t) (.int .i64 y2.m) (.int .i64 y2.r) (by first | omega | (simp; done) | (simp; omega)))
      replace R := Lib.hid (R.out.off5 (c := w.heap.size + 1 + 1) (.int .i64 y2.no) (.int .i64 y2.f) (.int .i64 y2.t) (.int .i64 y2.m) (.int .i64 y2.r) (by first | omega | (simp; done) | (simp; omega)))
      replace RA := Lib.hid (RA.out.put5 (.int .i64 y2.no) (.int .i64 y2.f) (.int .i64 y2.t) (.int .i64 y2.m) (.int .i64 y2.r))
      replace O2 := Lib.hid (O2.out.off5 (c := w.heap.size + 1 + 1) (.int .i64 y2.no) (.int .i64 y2.f) (.int .i64 y2.t) (.int .i64 y2.m) (.int .i64 y2.r) (by first | omega | (simp; done) | (simp; omega)))
      unfold set5 at E HB BB R RA O2
      refine rg_pure (i := 6) (some 6) (v := ?_) rfl rfl (by kernel_rfl) (by rfl) hQ7 (.inl (by kernel_rfl)) ?_ ?_
      rotate_left
      · intro w7; go_simp; all_goals with_reducible rfl
      try simp only [Act.put, List.setIfInBounds_toArray, List.set_cons_zero, List.set_cons_succ]
      refine rg_end (by kernel_rfl) (hN7 _ _ ?_) _
      clear hQ7 hN7 Q7
      go_wp2_with fail
      refine bodyPost_ret (v := .tuple #[m.v, y2.v, .int .i64 0]) (by simp [results, Try.results18, go_sem, *]) rfl ?_
      rw [HW.out.2, HERR.out]
      exact ⟨m, rfl, HM.out, HB.out, E.out, fun c hc h => HMF2.out c (by have := EW.out; simp; omega) h⟩
end Go.Proofs.Ytmnbeikhjbjpiaa
