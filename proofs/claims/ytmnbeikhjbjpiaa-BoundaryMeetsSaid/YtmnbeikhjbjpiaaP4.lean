/- Contracts: an offer is heard, an acceptance is confirmed, the reference's. -/
import Derived.Test.YtmnbeikhjbjpiaaP5
set_option linter.unusedSimpArgs false
set_option linter.unusedVariables false
namespace Go.Proofs.Ytmnbeikhjbjpiaa
open Go.RowKit
theorem numd_iff {l : List Ag} (hl : l.Pairwise (fun x y => x.no < y.no)) {a : Ag} : numd l a.no = some a ↔ a ∈ l := ⟨fun h => (numd_some h).1, fun h => numd_mem hl h⟩
theorem cont_of {l : List Ag} (hl : l.Pairwise (fun x y => x.no < y.no)) {a : Ag} {n : Option Ag} (h : numd l a.no = n) : l.contains a = decide (n = some a) := by
  subst h; rw [Bool.eq_iff_iff, List.contains_iff_mem, decide_eq_true_eq]; exact (numd_iff hl).symm
set_option maxHeartbeats 1600000 in
set_option maxRecDepth 100000 in
theorem rconfirm_any (b : Bd) (a : Ag) (w : World) (hb : BOk w b) (hl : b.ag.l.length ≤ 1000 ∧ b.op.l.length ≤ 1000) : Calls Try.prog 20 #[b.v, a.v] w (BdR w b.off (b.bl.conB a) (b.bl.conE a)) := by
  have hagl := maxLen_of hb.agl hb.agc
  have hopl := maxLen_of hb.opl hb.opc
  have HOFF := Lib.hid (fun c (h : w.heap.size ≤ c) => hb.off h)
  have HLL := Lib.hid hl
  clear hl
  obtain ⟨v, hv⟩ : ∃ v, b.bl.ok = v := ⟨_, rfl⟩
  obtain ⟨od, hod⟩ : ∃ v, offd a.no b.own b.ot = v := ⟨_, rfl⟩
  obtain ⟨n1, hn1⟩ : ∃ v, numd b.ag.l a.no = v := ⟨_, rfl⟩
  obtain ⟨n2, hn2⟩ : ∃ v, numd b.op.l a.no = v := ⟨_, rfl⟩
  obtain ⟨h1, hh1⟩ : ∃ v, b.ag.l.contains a = v := ⟨_, rfl⟩
  obtain ⟨h2, hh2⟩ : ∃ v, b.op.l.contains a = v := ⟨_, rfl⟩
  obtain ⟨err, herr⟩ : ∃ e, b.bl.conE a = e := ⟨_, rfl⟩
  have HE := Lib.hid (show err = if v && od && (h1 || h2) then 0 else 480 by rw [← herr, ← hv, ← hod, ← hh1, ← hh2]; rfl)
  have HE0 := Lib.hid herr
  have HC := Lib.hid (show v = true → h1 = decide (n1 = some a) ∧ h2 = decide (n2 = some a) from fun h => by
    have ho := ok_iff.1 (hv.trans h)
    exact ⟨by rw [← hh1]; exact cont_of ho.2.1.2 hn1, by rw [← hh2]; exact cont_of ho.2.2.1.2 hn2⟩)
  have HZ := Lib.hid (show err ≠ 0 → b.bl.conB a = zeroB from fun h => by unfold Bl.conB; rw [herr, if_neg h])
  have HV := Lib.hid hv
  have HOD := Lib.hid hod
  have H1 := Lib.hid hn1
  have H2 := Lib.hid hn2
  have HH1 := Lib.hid hh1
  have HH2 := Lib.hid hh2
  rw [herr]
  clear hv hod hn1 hn2 hh1 hh2 herr
  cases v
  · have E := Lib.hid (ext_refl w)
    have HB := Lib.hid (hb)
    clear hb
    replace E := Lib.hid (ext_alloc E.out (.cells #[.int .i64 b.own, .int .i64 b.ot, .slice b.ag.A b.ag.l.length b.ag.c, .slice b.op.A b.op.l.length b.op.c] 24))
    replace HB := Lib.hid (HB.out.alloc (.cells #[.int .i64 b.own, .int .i64 b.ot, .slice b.ag.A b.ag.l.length b.ag.c, .slice b.op.A b.op.l.length b.op.c] 24))
    have BB := Lib.hid (Blk.newH w [.int .i64 b.own, .int .i64 b.ot, .slice b.ag.A b.ag.l.length b.ag.c, .slice b.op.A b.op.l.length b.op.c] 24 (w.heap.size) (by first | rfl | simp))
    replace E := Lib.hid (ext_alloc E.out (.cells #[.int .i64 a.no, .int .i64 a.f, .int .i64 a.t, .int .i64 a.m, .int .i64 a.r] 26))
    replace HB := Lib.hid (HB.out.alloc (.cells #[.int .i64 a.no, .int .i64 a.f, .int .i64 a.t, .int .i64 a.m, .int .i64 a.r] 26))
    replace BB := Lib.hid (BB.out.alloc (.cells #[.int .i64 a.no, .int .i64 a.f, .int .i64 a.t, .int .i64 a.m, .int .i64 a.r] 26))
    have X := Lib.hid (Blk.newH (w.alloc (.cells #[.int .i64 b.own, .int .i64 b.ot, .slice b.ag.A b.ag.l.length b.ag.c, .slice b.op.A b.op.l.length b.op.c] 24)) [.int .i64 a.no, .int .i64 a.f, .int .i64 a.t, .int .i64 a.m, .int .i64 a.r] 26 (w.heap.size + 1) (by first | rfl | simp))
    replace E := Lib.hid (ext_alloc E.out (.cells #[.int .i64 0, .int .i64 0, .slice none 0 0, .slice none 0 0] 24))
    replace HB := Lib.hid (HB.out.alloc (.cells #[.int .i64 0, .int .i64 0, .slice none 0 0, .slice none 0 0] 24))
    replace BB := Lib.hid (BB.out.alloc (.cells #[.int .i64 0, .int .i64 0, .slice none 0 0, .slice none 0 0] 24))
    replace X := Lib.hid (X.out.alloc (.cells #[.int .i64 0, .int .i64 0, .slice none 0 0, .slice none 0 0] 24))
    have R := Lib.hid (Blk.newH ((w.alloc (.cells #[.int .i64 b.own, .int .i64 b.ot, .slice b.ag.A b.ag.l.length b.ag.c, .slice b.op.A b.op.l.length b.op.c] 24)).alloc (.cells #[.int .i64 a.no, .int .i64 a.f, .int .i64 a.t, .int .i64 a.m, .int .i64 a.r] 26)) [.int .i64 0, .int .i64 0, .slice none 0 0, .slice none 0 0] 24 (w.heap.size + 1 + 1) (by first | rfl | simp))
    go_enter Try.func20, Try.ntmps20
    have c0 := BB.out.c 0 _ rfl
    have c1 := BB.out.c 1 _ rfl
    have c2 := BB.out.c 2 _ rfl
    have c3 := BB.out.c 3 _ rfl
    go_wp2_with fail
    refine (rcheck_at 480 (chk_ok HV.out) HB.out).mono ?_
    rintro e v1 ⟨rfl, B⟩
    clear c0 c1 c2 c3
    replace E := Lib.hid (ext_trans E.out B)
    replace HB := Lib.hid (HB.out.ext B)
    replace BB := Lib.hid (BB.out.ext B)
    replace X := Lib.hid (X.out.ext B)
    replace R := Lib.hid (R.out.ext B)
    clear B
    have HERR := Lib.hid (show err = 480 by rw [HE.out]; rfl)
    have r0 := R.out.c 0 _ rfl
    have r1 := R.out.c 1 _ rfl
    have r2 := R.out.c 2 _ rfl
    have r3 := R.out.c 3 _ rfl
    have rf := R.out.f
    have rl := R.out.lt
    replace E := Lib.hid (ext_set4 E.out (w.heap.size + 1 + 1) (.int .i64 0) (.int .i64 0) (.slice none 0 0) (.slice none 0 0) (by first | exact Nat.le_refl _ | omega | (simp; done) | (simp; omega)))
    replace HB := Lib.hid (HB.out.set4 (c := (w.heap.size + 1 + 1)) (.int .i64 0) (.int .i64 0) (.slice none 0 0) (.slice none 0 0) (HOFF.out _ (by omega)))
    replace BB := Lib.hid (BB.out.off4 (c := w.heap.size + 1 + 1) (.int .i64 0) (.int .i64 0) (.slice none 0 0) (.slice none 0 0) (by first | omega | (simp; done) | (simp; omega)))
    replace X := Lib.hid (X.out.off4 (c := w.heap.size + 1 + 1) (.int .i64 0) (.int .i64 0) (.slice none 0 0) (.slice none 0 0) (by first | omega | (simp; done) | (simp; omega)))
    replace R := Lib.hid (R.out.put4 (.int .i64 0) (.int .i64 0) (.slice none 0 0) (.slice none 0 0))
    unfold set4 at E HB BB X R
    go_wp2_with fail
    refine bodyPost_ret (v := .tuple #[.agg #[.int .i64 0, .int .i64 0, .slice none 0 0, .slice none 0 0], .int .i64 480]) (by simp [results, Try.results20, go_sem, *]) rfl ?_
    exact BdR.zero HERR.out HZ.out (by decide) rfl E.out
  cases od
  · have E := Lib.hid (ext_refl w)
    have HB := Lib.hid (hb)
    clear hb
    replace E := Lib.hid (ext_alloc E.out (.cells #[.int .i64 b.own, .int .i64 b.ot, .slice b.ag.A b.ag.l.length b.ag.c, .slice b.op.A b.op.l.length b.op.c] 24))
    replace HB := Lib.hid (HB.out.alloc (.cells #[.int .i64 b.own, .int .i64 b.ot, .slice b.ag.A b.ag.l.length b.ag.c, .slice b.op.A b.op.l.length b.op.c] 24))
    have BB := Lib.hid (Blk.newH w [.int .i64 b.own, .int .i64 b.ot, .slice b.ag.A b.ag.l.length b.ag.c, .slice b.op.A b.op.l.length b.op.c] 24 (w.heap.size) (by first | rfl | simp))
    replace E := Lib.hid (ext_alloc E.out (.cells #[.int .i64 a.no, .int .i64 a.f, .int .i64 a.t, .int .i64 a.m, .int .i64 a.r] 26))
    replace HB := Lib.hid (HB.out.alloc (.cells #[.int .i64 a.no, .int .i64 a.f, .int .i64 a.t, .int .i64 a.m, .int .i64 a.r] 26))
    replace BB := Lib.hid (BB.out.alloc (.cells #[.int .i64 a.no, .int .i64 a.f, .int .i64 a.t, .int .i64 a.m, .int .i64 a.r] 26))
    have X := Lib.hid (Blk.newH (w.alloc (.cells #[.int .i64 b.own, .int .i64 b.ot, .slice b.ag.A b.ag.l.length b.ag.c, .slice b.op.A b.op.l.length b.op.c] 24)) [.int .i64 a.no, .int .i64 a.f, .int .i64 a.t, .int .i64 a.m, .int .i64 a.r] 26 (w.heap.size + 1) (by first | rfl | simp))
    replace E := Lib.hid (ext_alloc E.out (.cells #[.int .i64 0, .int .i64 0, .slice none 0 0, .slice none 0 0] 24))
    replace HB := Lib.hid (HB.out.alloc (.cells #[.int .i64 0, .int .i64 0, .slice none 0 0, .slice none 0 0] 24))
    replace BB := Lib.hid (BB.out.alloc (.cells #[.int .i64 0, .int .i64 0, .slice none 0 0, .slice none 0 0] 24))
    replace X := Lib.hid (X.out.alloc (.cells #[.int .i64 0, .int .i64 0, .slice none 0 0, .slice none 0 0] 24))
    have R := Lib.hid (Blk.newH ((w.alloc (.cells #[.int .i64 b.own, .int .i64 b.ot, .slice b.ag.A b.ag.l.length b.ag.c, .slice b.op.A b.op.l.length b.op.c] 24)).alloc (.cells #[.int .i64 a.no, .int .i64 a.f, .int .i64 a.t, .int .i64 a.m, .int .i64 a.r] 26)) [.int .i64 0, .int .i64 0, .slice none 0 0, .slice none 0 0] 24 (w.heap.size + 1 + 1) (by first | rfl | simp))
    go_enter Try.func20, Try.ntmps20
    have c0 := BB.out.c 0 _ rfl
    have c1 := BB.out.c 1 _ rfl
    have c2 := BB.out.c 2 _ rfl
    have c3 := BB.out.c 3 _ rfl
    go_wp2_with fail
    refine (rcheck_at 0 (chk_ok HV.out) HB.out).mono ?_
    rintro e v1 ⟨rfl, B⟩
    clear c0 c1 c2 c3
    replace E := Lib.hid (ext_trans E.out B)
    replace HB := Lib.hid (HB.out.ext B)
    replace BB := Lib.hid (BB.out.ext B)
    replace X := Lib.hid (X.out.ext B)
    replace R := Lib.hid (R.out.ext B)
    clear B
    have c0 := X.out.c 0 _ rfl
    have c1 := BB.out.c 0 _ rfl
    have c2 := BB.out.c 1 _ rfl
    go_wp2_with fail
    refine (offB_at false HOD.out).mono ?_
    rintro e v2 ⟨rfl, B⟩
    clear c0 c1 c2
    replace E := Lib.hid (ext_trans E.out B)
    replace HB := Lib.hid (HB.out.ext B)
    replace BB := Lib.hid (BB.out.ext B)
    replace X := Lib.hid (X.out.ext B)
    replace R := Lib.hid (R.out.ext B)
    clear B
    have HERR := Lib.hid (show err = 480 by rw [HE.out]; rfl)
    have r0 := R.out.c 0 _ rfl
    have r1 := R.out.c 1 _ rfl
    have r2 := R.out.c 2 _ rfl
    have r3 := R.out.c 3 _ rfl
    have rf := R.out.f
    have rl := R.out.lt
    replace E := Lib.hid (ext_set4 E.out (w.heap.size + 1 + 1) (.int .i64 0) (.int .i64 0) (.slice none 0 0) (.slice none 0 0) (by first | exact Nat.le_refl _ | omega | (simp; done) | (simp; omega)))
    replace HB := Lib.hid (HB.out.set4 (c := (w.heap.size + 1 + 1)) (.int .i64 0) (.int .i64 0) (.slice none 0 0) (.slice none 0 0) (HOFF.out _ (by omega)))
    replace BB := Lib.hid (BB.out.off4 (c := w.heap.size + 1 + 1) (.int .i64 0) (.int .i64 0) (.slice none 0 0) (.slice none 0 0) (by first | omega | (simp; done) | (simp; omega)))
    replace X := Lib.hid (X.out.off4 (c := w.heap.size + 1 + 1) (.int .i64 0) (.int .i64 0) (.slice none 0 0) (.slice none 0 0) (by first | omega | (simp; done) | (simp; omega)))
    replace R := Lib.hid (R.out.put4 (.int .i64 0) (.int .i64 0) (.slice none 0 0) (.slice none 0 0))
    unfold set4 at E HB BB X R
    go_wp2_with fail
    refine bodyPost_ret (v := .tuple #[.agg #[.int .i64 0, .int .i64 0, .slice none 0 0, .slice none 0 0], .int .i64 480]) (by simp [results, Try.results20, go_sem, *]) rfl ?_
    exact BdR.zero HERR.out HZ.out (by decide) rfl E.out
  have E := Lib.hid (ext_refl w)
  have HB := Lib.hid (hb)
  clear hb
  replace E := Lib.hid (ext_alloc E.out (.cells #[.int .i64 b.own, .int .i64 b.ot, .slice b.ag.A b.ag.l.length b.ag.c, .slice b.op.A b.op.l.length b.op.c] 24))
  replace HB := Lib.hid (HB.out.alloc (.cells #[.int .i64 b.own, .int .i64 b.ot, .slice b.ag.A b.ag.l.length b.ag.c, .slice b.op.A b.op.l.length b.op.c] 24))
  have BB := Lib.hid (Blk.newH w [.int .i64 b.own, .int .i64 b.ot, .slice b.ag.A b.ag.l.length b.ag.c, .slice b.op.A b.op.l.length b.op.c] 24 (w.heap.size) (by first | rfl | simp))
  replace E := Lib.hid (ext_alloc E.out (.cells #[.int .i64 a.no, .int .i64 a.f, .int .i64 a.t, .int .i64 a.m, .int .i64 a.r] 26))
  replace HB := Lib.hid (HB.out.alloc (.cells #[.int .i64 a.no, .int .i64 a.f, .int .i64 a.t, .int .i64 a.m, .int .i64 a.r] 26))
  replace BB := Lib.hid (BB.out.alloc (.cells #[.int .i64 a.no, .int .i64 a.f, .int .i64 a.t, .int .i64 a.m, .int .i64 a.r] 26))
  have X := Lib.hid (Blk.newH (w.alloc (.cells #[.int .i64 b.own, .int .i64 b.ot, .slice b.ag.A b.ag.l.length b.ag.c, .slice b.op.A b.op.l.length b.op.c] 24)) [.int .i64 a.no, .int .i64 a.f, .int .i64 a.t, .int .i64 a.m, .int .i64 a.r] 26 (w.heap.size + 1) (by first | rfl | simp))
  replace E := Lib.hid (ext_alloc E.out (.cells #[.int .i64 0, .int .i64 0, .slice none 0 0, .slice none 0 0] 24))
  replace HB := Lib.hid (HB.out.alloc (.cells #[.int .i64 0, .int .i64 0, .slice none 0 0, .slice none 0 0] 24))
  replace BB := Lib.hid (BB.out.alloc (.cells #[.int .i64 0, .int .i64 0, .slice none 0 0, .slice none 0 0] 24))
  replace X := Lib.hid (X.out.alloc (.cells #[.int .i64 0, .int .i64 0, .slice none 0 0, .slice none 0 0] 24))
  have R := Lib.hid (Blk.newH ((w.alloc (.cells #[.int .i64 b.own, .int .i64 b.ot, .slice b.ag.A b.ag.l.length b.ag.c, .slice b.op.A b.op.l.length b.op.c] 24)).alloc (.cells #[.int .i64 a.no, .int .i64 a.f, .int .i64 a.t, .int .i64 a.m, .int .i64 a.r] 26)) [.int .i64 0, .int .i64 0, .slice none 0 0, .slice none 0 0] 24 (w.heap.size + 1 + 1) (by first | rfl | simp))
  go_enter Try.func20, Try.ntmps20
  obtain ⟨hc1, hc2⟩ := HC.out rfl
  have HC1 := Lib.hid hc1
  have HC2 := Lib.hid hc2
  clear hc1 hc2
  have c0 := BB.out.c 0 _ rfl
  have c1 := BB.out.c 1 _ rfl
  have c2 := BB.out.c 2 _ rfl
  have c3 := BB.out.c 3 _ rfl
  go_wp2_with fail
  refine (rcheck_at 0 (chk_ok HV.out) HB.out).mono ?_
  rintro e v1 ⟨rfl, B⟩
  clear c0 c1 c2 c3
  replace E := Lib.hid (ext_trans E.out B)
  replace HB := Lib.hid (HB.out.ext B)
  replace BB := Lib.hid (BB.out.ext B)
  replace X := Lib.hid (X.out.ext B)
  replace R := Lib.hid (R.out.ext B)
  clear B
  have c0 := X.out.c 0 _ rfl
  have c1 := BB.out.c 0 _ rfl
  have c2 := BB.out.c 1 _ rfl
  go_wp2_with fail
  refine (offB_at true HOD.out).mono ?_
  rintro e v2 ⟨rfl, B⟩
  clear c0 c1 c2
  replace E := Lib.hid (ext_trans E.out B)
  replace HB := Lib.hid (HB.out.ext B)
  replace BB := Lib.hid (BB.out.ext B)
  replace X := Lib.hid (X.out.ext B)
  replace R := Lib.hid (R.out.ext B)
  clear B
  have c0 := BB.out.c 2 _ rfl
  have c1 := X.out.c 0 _ rfl
  go_wp2_with fail
  refine (rfind_at n1 H1.out rfl HB.out.ag hagl).mono ?_
  rintro e v3 ⟨y1, rfl, hy, B⟩
  clear c0 c1
  replace E := Lib.hid (ext_trans E.out B)
  replace HB := Lib.hid (HB.out.ext B)
  replace BB := Lib.hid (BB.out.ext B)
  replace X := Lib.hid (X.out.ext B)
  replace R := Lib.hid (R.out.ext B)
  clear B
  have HY1 := Lib.hid hy
  clear hy
  have hne1 := fun w => run_eql26 y1 a w
  have ll0 := BB.out.lt
  have ll1 := R.out.lt
  have ll2 := X.out.lt
  cases n1 with
  | none =>
    have HF1 := Lib.hid (show h1 = false by rw [HC1.out]; simp)
    replace E := Lib.hid (ext_alloc E.out (.cells #[.int .i64 y1.no, .int .i64 y1.f, .int .i64 y1.t, .int .i64 y1.m, .int .i64 y1.r] 26))
    replace HB := Lib.hid (HB.out.alloc (.cells #[.int .i64 y1.no, .int .i64 y1.f, .int .i64 y1.t, .int .i64 y1.m, .int .i64 y1.r] 26))
    replace BB := Lib.hid (BB.out.alloc (.cells #[.int .i64 y1.no, .int .i64 y1.f, .int .i64 y1.t, .int .i64 y1.m, .int .i64 y1.r] 26))
    replace X := Lib.hid (X.out.alloc (.cells #[.int .i64 y1.no, .int .i64 y1.f, .int .i64 y1.t, .int .i64 y1.m, .int .i64 y1.r] 26))
    replace R := Lib.hid (R.out.alloc (.cells #[.int .i64 y1.no, .int .i64 y1.f, .int .i64 y1.t, .int .i64 y1.m, .int .i64 y1.r] 26))
    have O1 := Lib.hid (Blk.newH v3 [.int .i64 y1.no, .int .i64 y1.f, .int .i64 y1.t, .int .i64 y1.m, .int .i64 y1.r] 26 (v3.heap.size) (by first | rfl | simp))
    skip
    have c0 := BB.out.c 3 _ rfl
    have c1 := X.out.c 0 _ rfl
    go_wp2_with fail
    refine (rfind_at n2 H2.out rfl HB.out.op hopl).mono ?_
    rintro e v4 ⟨y2, rfl, hy, B⟩
    clear c0 c1
    replace E := Lib.hid (ext_trans E.out B)
    replace HB := Lib.hid (HB.out.ext B)
    replace BB := Lib.hid (BB.out.ext B)
    replace X := Lib.hid (X.out.ext B)
    replace R := Lib.hid (R.out.ext B)
    replace O1 := Lib.hid (O1.out.ext B)
    clear B
    have HY2 := Lib.hid hy
    clear hy
    have hne2 := fun w => run_neq26 y2 a w
    cases n2 with
    | none =>
      have HF2 := Lib.hid (show h2 = false by rw [HC2.out]; simp)
      have HERR := Lib.hid (show err = 480 by rw [HE.out, HF1.out, HF2.out]; rfl)
      have x0 := X.out.c 0 _ rfl
      have x1 := X.out.c 1 _ rfl
      have x2 := X.out.c 2 _ rfl
      have x3 := X.out.c 3 _ rfl
      have x4 := X.out.c 4 _ rfl
      have xf := X.out.f
      have xl := X.out.lt
      have r0 := R.out.c 0 _ rfl
      have r1 := R.out.c 1 _ rfl
      have r2 := R.out.c 2 _ rfl
      have r3 := R.out.c 3 _ rfl
      have rf := R.out.f
      have rl := R.out.lt
      replace E := Lib.hid (ext_set4 E.out (w.heap.size + 1 + 1) (.int .i64 0) (.int .i64 0) (.slice none 0 0) (.slice none 0 0) (by first | exact Nat.le_refl _ | omega | (simp; done) | (simp; omega)))
      replace HB := Lib.hid (HB.out.set4 (c := (w.heap.size + 1 + 1)) (.int .i64 0) (.int .i64 0) (.slice none 0 0) (.slice none 0 0) (HOFF.out _ (by omega)))
      replace BB := Lib.hid (BB.out.off4 (c := w.heap.size + 1 + 1) (.int .i64 0) (.int .i64 0) (.slice none 0 0) (.slice none 0 0) (by first | omega | (simp; done) | (simp; omega)))
      replace X := Lib.hid (X.out.off4 (c := w.heap.size + 1 + 1) (.int .i64 0) (.int .i64 0) (.slice none 0 0) (.slice none 0 0) (by first | omega | (simp; done) | (simp; omega)))
      replace R := Lib.hid (R.out.put4 (.int .i64 0) (.int .i64 0) (.slice none 0 0) (.slice none 0 0))
      replace O1 := Lib.hid (O1.out.off4 (c := w.heap.size + 1 + 1) (.int .i64 0) (.int .i64 0) (.slice none 0 0) (.slice none 0 0) (by first | omega | (simp; done) | (simp; omega)))
      unfold set4 at E HB BB X R O1
      replace E := Lib.hid (ext_alloc E.out (.cells #[.int .i64 y2.no, .int .i64 y2.f, .int .i64 y2.t, .int .i64 y2.m, .int .i64 y2.r] 26))
      go_wp2_with fail
      refine bodyPost_ret (v := .tuple #[.agg #[.int .i64 0, .int .i64 0, .slice none 0 0, .slice none 0 0], .int .i64 480]) (by simp [results, Try.results20, go_sem, *]) rfl ?_
      exact BdR.zero HERR.out HZ.out (by decide) rfl E.out
    | some z =>
      obtain rfl : y2 = z := HY2.out
      by_cases hya : y2 = a
      rotate_left
      · have HF2 := Lib.hid (show h2 = false by rw [HC2.out]; simpa using hya)
        have hd : decide (y2 = a) = false := by simpa using hya
        rw [hd] at hne2
        clear hya hd
        have HERR := Lib.hid (show err = 480 by rw [HE.out, HF1.out, HF2.out]; rfl)
        have x0 := X.out.c 0 _ rfl
        have x1 := X.out.c 1 _ rfl
        have x2 := X.out.c 2 _ rfl
        have x3 := X.out.c 3 _ rfl
        have x4 := X.out.c 4 _ rfl
        have xf := X.out.f
        have xl := X.out.lt
        have r0 := R.out.c 0 _ rfl
        have r1 := R.out.c 1 _ rfl
        have r2 := R.out.c 2 _ rfl
        have r3 := R.out.c 3 _ rfl
        have rf := R.out.f
        have rl := R.out.lt
        replace E := Lib.hid (ext_set4 E.out (w.heap.size + 1 + 1) (.int .i64 0) (.int .i64 0) (.slice none 0 0) (.slice none 0 0) (by first | exact Nat.le_refl _ | omega | (simp; done) | (simp; omega)))
        replace HB := Lib.hid (HB.out.set4 (c := (w.heap.size + 1 + 1)) (.int .i64 0) (.int .i64 0) (.slice none 0 0) (.slice none 0 0) (HOFF.out _ (by omega)))
        replace BB := Lib.hid (BB.out.off4 (c := w.heap.size + 1 + 1) (.int .i64 0) (.int .i64 0) (.slice none 0 0) (.slice none 0 0) (by first | omega | (simp; done) | (simp; omega)))
        replace X := Lib.hid (X.out.off4 (c := w.heap.size + 1 + 1) (.int .i64 0) (.int .i64 0) (.slice none 0 0) (.slice none 0 0) (by first | omega | (simp; done) | (simp; omega)))
        replace R := Lib.hid (R.out.put4 (.int .i64 0) (.int .i64 0) (.slice none 0 0) (.slice none 0 0))
        replace O1 := Lib.hid (O1.out.off4 (c := w.heap.size + 1 + 1) (.int .i64 0) (.int .i64 0) (.slice none 0 0) (.slice none 0 0) (by first | omega | (simp; done) | (simp; omega)))
        unfold set4 at E HB BB X R O1
        replace E := Lib.hid (ext_alloc E.out (.cells #[.int .i64 y2.no, .int .i64 y2.f, .int .i64 y2.t, .int .i64 y2.m, .int .i64 y2.r] 26))
        go_wp2_with fail
        refine bodyPost_ret (v := .tuple #[.agg #[.int .i64 0, .int .i64 0, .slice none 0 0, .slice none 0 0], .int .i64 480]) (by simp [results, Try.results20, go_sem, *]) rfl ?_
        exact BdR.zero HERR.out HZ.out (by decide) rfl E.out
      · have hd : decide (y2 = a) = true := by simpa using hya
        have HF2 := Lib.hid (show h2 = true by rw [HC2.out]; simpa using hya)
        have HERR := Lib.hid (show err = 0 by rw [HE.out, HF1.out, HF2.out]; rfl)
        have HMA := Lib.hid (show a ∈ b.op.l by have := HH2.out; rw [HF2.out] at this; simpa using this)
        have HNA := Lib.hid (show ¬ b.bl.ag.contains a = true by rw [show b.bl.ag.contains a = false from HH1.out.trans HF1.out]; simp)
        have HW := Lib.hid (show b.bl.agree a = b.bl.conB a by rw [conB_ok (by rw [HE0.out]; exact HERR.out), if_neg HNA.out])
        rw [hd] at hne2
        clear hya hd
        have x0 := X.out.c 0 _ rfl
        have x1 := X.out.c 1 _ rfl
        have x2 := X.out.c 2 _ rfl
        have x3 := X.out.c 3 _ rfl
        have x4 := X.out.c 4 _ rfl
        have xf := X.out.f
        have xl := X.out.lt
        have bb0 := BB.out.c 0 _ rfl
        have bb1 := BB.out.c 1 _ rfl
        have bb2 := BB.out.c 2 _ rfl
        have bb3 := BB.out.c 3 _ rfl
        have bbf := BB.out.f
        have bbl := BB.out.lt
        replace E := Lib.hid (ext_alloc E.out (.cells #[.int .i64 y2.no, .int .i64 y2.f, .int .i64 y2.t, .int .i64 y2.m, .int .i64 y2.r] 26))
        replace HB := Lib.hid (HB.out.alloc (.cells #[.int .i64 y2.no, .int .i64 y2.f, .int .i64 y2.t, .int .i64 y2.m, .int .i64 y2.r] 26))
        replace BB := Lib.hid (BB.out.alloc (.cells #[.int .i64 y2.no, .int .i64 y2.f, .int .i64 y2.t, .int .i64 y2.m, .int .i64 y2.r] 26))
        replace X := Lib.hid (X.out.alloc (.cells #[.int .i64 y2.no, .int .i64 y2.f, .int .i64 y2.t, .int .i64 y2.m, .int .i64 y2.r] 26))
        replace R := Lib.hid (R.out.alloc (.cells #[.int .i64 y2.no, .int .i64 y2.f, .int .i64 y2.t, .int .i64 y2.m, .int .i64 y2.r] 26))
        replace O1 := Lib.hid (O1.out.alloc (.cells #[.int .i64 y2.no, .int .i64 y2.f, .int .i64 y2.t, .int .i64 y2.m, .int .i64 y2.r] 26))
        go_wp2_with fail
        clear x0 x1 x2 x3 x4 xf xl bb0 bb1 bb2 bb3 bbf bbl
        obtain ⟨vA, hNvA⟩ : ∃ W0, W0 = (v4.alloc (.cells #[.int .i64 y2.no, .int .i64 y2.f, .int .i64 y2.t, .int .i64 y2.m, .int .i64 y2.r] 26)) := ⟨_, rfl⟩
        rw [← hNvA] at E HB BB X R O1 ⊢
        clear hNvA
        clear hne2
        have EW := Lib.hid E.out.size
        have hrl := R.out.lt
        refine (move_at (b := b) (a := a) _ HW.out HB.out HLL.out.2 (putOk_ag HV.out HLL.out.1 (ok_fits HV.out (.inr HMA.out)))).mono ?_
        rintro e v5 ⟨m, rfl, hm, hmo, B, hmf⟩
        replace E := Lib.hid (ext_trans E.out B)
        replace HB := Lib.hid (HB.out.ext B)
        replace BB := Lib.hid (BB.out.ext B)
        replace X := Lib.hid (X.out.ext B)
        replace R := Lib.hid (R.out.ext B)
        replace O1 := Lib.hid (O1.out.ext B)
        clear B
        have HM := Lib.hid hm
        have HMF := Lib.hid (hmf (w.heap.size + 1 + 1) hrl (HOFF.out _ (by omega)))
        have HMF2 := Lib.hid hmf
        clear hm hmf hrl
        clear HB
        have HB := Lib.hid (hmo)
        clear hmo
        have r0 := R.out.c 0 _ rfl
        have r1 := R.out.c 1 _ rfl
        have r2 := R.out.c 2 _ rfl
        have r3 := R.out.c 3 _ rfl
        have rf := R.out.f
        have rl := R.out.lt
        replace E := Lib.hid (ext_set4 E.out (w.heap.size + 1 + 1) (.int .i64 m.own) (.int .i64 m.ot) (.slice m.ag.A m.ag.l.length m.ag.c) (.slice m.op.A m.op.l.length m.op.c) (by first | exact Nat.le_refl _ | omega | (simp; done) | (simp; omega)))
        replace BB := Lib.hid (BB.out.off4 (c := w.heap.size + 1 + 1) (.int .i64 m.own) (.int .i64 m.ot) (.slice m.ag.A m.ag.l.length m.ag.c) (.slice m.op.A m.op.l.length m.op.c) (by first | omega | (simp; done) | (simp; omega)))
        replace X := Lib.hid (X.out.off4 (c := w.heap.size + 1 + 1) (.int .i64 m.own) (.int .i64 m.ot) (.slice m.ag.A m.ag.l.length m.ag.c) (.slice m.op.A m.op.l.length m.op.c) (by first | omega | (simp; done) | (simp; omega)))
        replace R := Lib.hid (R.out.put4 (.int .i64 m.own) (.int .i64 m.ot) (.slice m.ag.A m.ag.l.length m.ag.c) (.slice m.op.A m.op.l.length m.op.c))
        replace O1 := Lib.hid (O1.out.off4 (c := w.heap.size + 1 + 1) (.int .i64 m.own) (.int .i64 m.ot) (.slice m.ag.A m.ag.l.length m.ag.c) (.slice m.op.A m.op.l.length m.op.c) (by first | omega | (simp; done) | (simp; omega)))
        replace HB := Lib.hid (HB.out.set4 (c := (w.heap.size + 1 + 1)) (.int .i64 m.own) (.int .i64 m.ot) (.slice m.ag.A m.ag.l.length m.ag.c) (.slice m.op.A m.op.l.length m.op.c) HMF.out)
        unfold set4 at E BB X R O1 HB
        go_wp2_with fail
        refine bodyPost_ret (v := .tuple #[m.v, .int .i64 0]) (by simp [results, Try.results20, go_sem, *]) rfl ?_
        rw [HERR.out]
        exact ⟨m, rfl, HM.out, HB.out, E.out, fun c hc h => HMF2.out c (by have := EW.out; omega) h⟩
  | some z =>
    obtain rfl : y1 = z := HY1.out
    by_cases hya : y1 = a
    rotate_left
    · have HF1 := Lib.hid (show h1 = false by rw [HC1.out]; simpa using hya)
      have hd : decide (y1 = a) = false := by simpa using hya
      rw [hd] at hne1
      clear hya hd
      have x0 := X.out.c 0 _ rfl
      have x1 := X.out.c 1 _ rfl
      have x2 := X.out.c 2 _ rfl
      have x3 := X.out.c 3 _ rfl
      have x4 := X.out.c 4 _ rfl
      have xf := X.out.f
      have xl := X.out.lt
      replace E := Lib.hid (ext_alloc E.out (.cells #[.int .i64 y1.no, .int .i64 y1.f, .int .i64 y1.t, .int .i64 y1.m, .int .i64 y1.r] 26))
      replace HB := Lib.hid (HB.out.alloc (.cells #[.int .i64 y1.no, .int .i64 y1.f, .int .i64 y1.t, .int .i64 y1.m, .int .i64 y1.r] 26))
      replace BB := Lib.hid (BB.out.alloc (.cells #[.int .i64 y1.no, .int .i64 y1.f, .int .i64 y1.t, .int .i64 y1.m, .int .i64 y1.r] 26))
      replace X := Lib.hid (X.out.alloc (.cells #[.int .i64 y1.no, .int .i64 y1.f, .int .i64 y1.t, .int .i64 y1.m, .int .i64 y1.r] 26))
      replace R := Lib.hid (R.out.alloc (.cells #[.int .i64 y1.no, .int .i64 y1.f, .int .i64 y1.t, .int .i64 y1.m, .int .i64 y1.r] 26))
      have O1 := Lib.hid (Blk.newH v3 [.int .i64 y1.no, .int .i64 y1.f, .int .i64 y1.t, .int .i64 y1.m, .int .i64 y1.r] 26 (v3.heap.size) (by first | rfl | simp))
      have b3 := BB.out.c 3 _ rfl
      skip
      have c0 := BB.out.c 3 _ rfl
      have c1 := X.out.c 0 _ rfl
      go_wp2_with fail
      refine (rfind_at n2 H2.out rfl HB.out.op hopl).mono ?_
      rintro e v4 ⟨y2, rfl, hy, B⟩
      clear c0 c1
      replace E := Lib.hid (ext_trans E.out B)
      replace HB := Lib.hid (HB.out.ext B)
      replace BB := Lib.hid (BB.out.ext B)
      replace X := Lib.hid (X.out.ext B)
      replace R := Lib.hid (R.out.ext B)
      replace O1 := Lib.hid (O1.out.ext B)
      clear B
      have HY2 := Lib.hid hy
      clear hy
      have hne2 := fun w => run_neq26 y2 a w
      cases n2 with
      | none =>
        have HF2 := Lib.hid (show h2 = false by rw [HC2.out]; simp)
        have HERR := Lib.hid (show err = 480 by rw [HE.out, HF1.out, HF2.out]; rfl)
        have x0 := X.out.c 0 _ rfl
        have x1 := X.out.c 1 _ rfl
        have x2 := X.out.c 2 _ rfl
        have x3 := X.out.c 3 _ rfl
        have x4 := X.out.c 4 _ rfl
        have xf := X.out.f
        have xl := X.out.lt
        have r0 := R.out.c 0 _ rfl
        have r1 := R.out.c 1 _ rfl
        have r2 := R.out.c 2 _ rfl
        have r3 := R.out.c 3 _ rfl
        have rf := R.out.f
        have rl := R.out.lt
        replace E := Lib.hid (ext_set4 E.out (w.heap.size + 1 + 1) (.int .i64 0) (.int .i64 0) (.slice none 0 0) (.slice none 0 0) (by first | exact Nat.le_refl _ | omega | (simp; done) | (simp; omega)))
        replace HB := Lib.hid (HB.out.set4 (c := (w.heap.size + 1 + 1)) (.int .i64 0) (.int .i64 0) (.slice none 0 0) (.slice none 0 0) (HOFF.out _ (by omega)))
        replace BB := Lib.hid (BB.out.off4 (c := w.heap.size + 1 + 1) (.int .i64 0) (.int .i64 0) (.slice none 0 0) (.slice none 0 0) (by first | omega | (simp; done) | (simp; omega)))
        replace X := Lib.hid (X.out.off4 (c := w.heap.size + 1 + 1) (.int .i64 0) (.int .i64 0) (.slice none 0 0) (.slice none 0 0) (by first | omega | (simp; done) | (simp; omega)))
        replace R := Lib.hid (R.out.put4 (.int .i64 0) (.int .i64 0) (.slice none 0 0) (.slice none 0 0))
        replace O1 := Lib.hid (O1.out.off4 (c := w.heap.size + 1 + 1) (.int .i64 0) (.int .i64 0) (.slice none 0 0) (.slice none 0 0) (by first | omega | (simp; done) | (simp; omega)))
        unfold set4 at E HB BB X R O1
        replace E := Lib.hid (ext_alloc E.out (.cells #[.int .i64 y2.no, .int .i64 y2.f, .int .i64 y2.t, .int .i64 y2.m, .int .i64 y2.r] 26))
        go_wp2_with fail
        refine bodyPost_ret (v := .tuple #[.agg #[.int .i64 0, .int .i64 0, .slice none 0 0, .slice none 0 0], .int .i64 480]) (by simp [results, Try.results20, go_sem, *]) rfl ?_
        exact BdR.zero HERR.out HZ.out (by decide) rfl E.out
      | some z =>
        obtain rfl : y2 = z := HY2.out
        by_cases hya : y2 = a
        rotate_left
        · have HF2 := Lib.hid (show h2 = false by rw [HC2.out]; simpa using hya)
          have hd : decide (y2 = a) = false := by simpa using hya
          rw [hd] at hne2
          clear hya hd
          have HERR := Lib.hid (show err = 480 by rw [HE.out, HF1.out, HF2.out]; rfl)
          have x0 := X.out.c 0 _ rfl
          have x1 := X.out.c 1 _ rfl
          have x2 := X.out.c 2 _ rfl
          have x3 := X.out.c 3 _ rfl
          have x4 := X.out.c 4 _ rfl
          have xf := X.out.f
          have xl := X.out.lt
          have r0 := R.out.c 0 _ rfl
          have r1 := R.out.c 1 _ rfl
          have r2 := R.out.c 2 _ rfl
          have r3 := R.out.c 3 _ rfl
          have rf := R.out.f
          have rl := R.out.lt
          replace E := Lib.hid (ext_set4 E.out (w.heap.size + 1 + 1) (.int .i64 0) (.int .i64 0) (.slice none 0 0) (.slice none 0 0) (by first | exact Nat.le_refl _ | omega | (simp; done) | (simp; omega)))
          replace HB := Lib.hid (HB.out.set4 (c := (w.heap.size + 1 + 1)) (.int .i64 0) (.int .i64 0) (.slice none 0 0) (.slice none 0 0) (HOFF.out _ (by omega)))
          replace BB := Lib.hid (BB.out.off4 (c := w.heap.size + 1 + 1) (.int .i64 0) (.int .i64 0) (.slice none 0 0) (.slice none 0 0) (by first | omega | (simp; done) | (simp; omega)))
          replace X := Lib.hid (X.out.off4 (c := w.heap.size + 1 + 1) (.int .i64 0) (.int .i64 0) (.slice none 0 0) (.slice none 0 0) (by first | omega | (simp; done) | (simp; omega)))
          replace R := Lib.hid (R.out.put4 (.int .i64 0) (.int .i64 0) (.slice none 0 0) (.slice none 0 0))
          replace O1 := Lib.hid (O1.out.off4 (c := w.heap.size + 1 + 1) (.int .i64 0) (.int .i64 0) (.slice none 0 0) (.slice none 0 0) (by first | omega | (simp; done) | (simp; omega)))
          unfold set4 at E HB BB X R O1
          replace E := Lib.hid (ext_alloc E.out (.cells #[.int .i64 y2.no, .int .i64 y2.f, .int .i64 y2.t, .int .i64 y2.m, .int .i64 y2.r] 26))
          go_wp2_with fail
          refine bodyPost_ret (v := .tuple #[.agg #[.int .i64 0, .int .i64 0, .slice none 0 0, .slice none 0 0], .int .i64 480]) (by simp [results, Try.results20, go_sem, *]) rfl ?_
          exact BdR.zero HERR.out HZ.out (by decide) rfl E.out
        · have hd : decide (y2 = a) = true := by simpa using hya
          have HF2 := Lib.hid (show h2 = true by rw [HC2.out]; simpa using hya)
          have HERR := Lib.hid (show err = 0 by rw [HE.out, HF1.out, HF2.out]; rfl)
          have HMA := Lib.hid (show a ∈ b.op.l by have := HH2.out; rw [HF2.out] at this; simpa using this)
          have HNA := Lib.hid (show ¬ b.bl.ag.contains a = true by rw [show b.bl.ag.contains a = false from HH1.out.trans HF1.out]; simp)
          have HW := Lib.hid (show b.bl.agree a = b.bl.conB a by rw [conB_ok (by rw [HE0.out]; exact HERR.out), if_neg HNA.out])
          rw [hd] at hne2
          clear hya hd
          have x0 := X.out.c 0 _ rfl
          have x1 := X.out.c 1 _ rfl
          have x2 := X.out.c 2 _ rfl
          have x3 := X.out.c 3 _ rfl
          have x4 := X.out.c 4 _ rfl
          have xf := X.out.f
          have xl := X.out.lt
          have bb0 := BB.out.c 0 _ rfl
          have bb1 := BB.out.c 1 _ rfl
          have bb2 := BB.out.c 2 _ rfl
          have bb3 := BB.out.c 3 _ rfl
          have bbf := BB.out.f
          have bbl := BB.out.lt
          replace E := Lib.hid (ext_alloc E.out (.cells #[.int .i64 y2.no, .int .i64 y2.f, .int .i64 y2.t, .int .i64 y2.m, .int .i64 y2.r] 26))
          replace HB := Lib.hid (HB.out.alloc (.cells #[.int .i64 y2.no, .int .i64 y2.f, .int .i64 y2.t, .int .i64 y2.m, .int .i64 y2.r] 26))
          replace BB := Lib.hid (BB.out.alloc (.cells #[.int .i64 y2.no, .int .i64 y2.f, .int .i64 y2.t, .int .i64 y2.m, .int .i64 y2.r] 26))
          replace X := Lib.hid (X.out.alloc (.cells #[.int .i64 y2.no, .int .i64 y2.f, .int .i64 y2.t, .int .i64 y2.m, .int .i64 y2.r] 26))
          replace R := Lib.hid (R.out.alloc (.cells #[.int .i64 y2.no, .int .i64 y2.f, .int .i64 y2.t, .int .i64 y2.m, .int .i64 y2.r] 26))
          replace O1 := Lib.hid (O1.out.alloc (.cells #[.int .i64 y2.no, .int .i64 y2.f, .int .i64 y2.t, .int .i64 y2.m, .int .i64 y2.r] 26))
          go_wp2_with fail
          clear x0 x1 x2 x3 x4 xf xl bb0 bb1 bb2 bb3 bbf bbl
          obtain ⟨vA, hNvA⟩ : ∃ W0, W0 = (v4.alloc (.cells #[.int .i64 y2.no, .int .i64 y2.f, .int .i64 y2.t, .int .i64 y2.m, .int .i64 y2.r] 26)) := ⟨_, rfl⟩
          rw [← hNvA] at E HB BB X R O1 ⊢
          clear hNvA
          clear hne2
          have EW := Lib.hid E.out.size
          have hrl := R.out.lt
          refine (move_at (b := b) (a := a) _ HW.out HB.out HLL.out.2 (putOk_ag HV.out HLL.out.1 (ok_fits HV.out (.inr HMA.out)))).mono ?_
          rintro e v5 ⟨m, rfl, hm, hmo, B, hmf⟩
          replace E := Lib.hid (ext_trans E.out B)
          replace HB := Lib.hid (HB.out.ext B)
          replace BB := Lib.hid (BB.out.ext B)
          replace X := Lib.hid (X.out.ext B)
          replace R := Lib.hid (R.out.ext B)
          replace O1 := Lib.hid (O1.out.ext B)
          clear B
          have HM := Lib.hid hm
          have HMF := Lib.hid (hmf (w.heap.size + 1 + 1) hrl (HOFF.out _ (by omega)))
          have HMF2 := Lib.hid hmf
          clear hm hmf hrl
          clear HB
          have HB := Lib.hid (hmo)
          clear hmo
          have r0 := R.out.c 0 _ rfl
          have r1 := R.out.c 1 _ rfl
          have r2 := R.out.c 2 _ rfl
          have r3 := R.out.c 3 _ rfl
          have rf := R.out.f
          have rl := R.out.lt
          replace E := Lib.hid (ext_set4 E.out (w.heap.size + 1 + 1) (.int .i64 m.own) (.int .i64 m.ot) (.slice m.ag.A m.ag.l.length m.ag.c) (.slice m.op.A m.op.l.length m.op.c) (by first | exact Nat.le_refl _ | omega | (simp; done) | (simp; omega)))
          replace BB := Lib.hid (BB.out.off4 (c := w.heap.size + 1 + 1) (.int .i64 m.own) (.int .i64 m.ot) (.slice m.ag.A m.ag.l.length m.ag.c) (.slice m.op.A m.op.l.length m.op.c) (by first | omega | (simp; done) | (simp; omega)))
          replace X := Lib.hid (X.out.off4 (c := w.heap.size + 1 + 1) (.int .i64 m.own) (.int .i64 m.ot) (.slice m.ag.A m.ag.l.length m.ag.c) (.slice m.op.A m.op.l.length m.op.c) (by first | omega | (simp; done) | (simp; omega)))
          replace R := Lib.hid (R.out.put4 (.int .i64 m.own) (.int .i64 m.ot) (.slice m.ag.A m.ag.l.length m.ag.c) (.slice m.op.A m.op.l.length m.op.c))
          replace O1 := Lib.hid (O1.out.off4 (c := w.heap.size + 1 + 1) (.int .i64 m.own) (.int .i64 m.ot) (.slice m.ag.A m.ag.l.length m.ag.c) (.slice m.op.A m.op.l.length m.op.c) (by first | omega | (simp; done) | (simp; omega)))
          replace HB := Lib.hid (HB.out.set4 (c := (w.heap.size + 1 + 1)) (.int .i64 m.own) (.int .i64 m.ot) (.slice m.ag.A m.ag.l.length m.ag.c) (.slice m.op.A m.op.l.length m.op.c) HMF.out)
          unfold set4 at E BB X R O1 HB
          go_wp2_with fail
          refine bodyPost_ret (v := .tuple #[m.v, .int .i64 0]) (by simp [results, Try.results20, go_sem, *]) rfl ?_
          rw [HERR.out]
          exact ⟨m, rfl, HM.out, HB.out, E.out, fun c hc h => HMF2.out c (by have := EW.out; omega) h⟩
    · have hd : decide (y1 = a) = true := by simpa using hya
      have HF1 := Lib.hid (show h1 = true by rw [HC1.out]; simpa using hya)
      have HERR := Lib.hid (show err = 0 by rw [HE.out, HF1.out]; rfl)
      have HW := Lib.hid (show b.bl.conB a = b.bl by rw [conB_ok (by rw [HE0.out]; exact HERR.out), if_pos (show b.bl.ag.contains a = true from HH1.out.trans HF1.out)])
      rw [hd] at hne1
      clear hya hd
      have x0 := X.out.c 0 _ rfl
      have x1 := X.out.c 1 _ rfl
      have x2 := X.out.c 2 _ rfl
      have x3 := X.out.c 3 _ rfl
      have x4 := X.out.c 4 _ rfl
      have xf := X.out.f
      have xl := X.out.lt
      have bb0 := BB.out.c 0 _ rfl
      have bb1 := BB.out.c 1 _ rfl
      have bb2 := BB.out.c 2 _ rfl
      have bb3 := BB.out.c 3 _ rfl
      have bbf := BB.out.f
      have bbl := BB.out.lt
      have r0 := R.out.c 0 _ rfl
      have r1 := R.out.c 1 _ rfl
      have r2 := R.out.c 2 _ rfl
      have r3 := R.out.c 3 _ rfl
      have rf := R.out.f
      have rl := R.out.lt
      replace E := Lib.hid (ext_set4 E.out (w.heap.size + 1 + 1) (.int .i64 b.own) (.int .i64 b.ot) (.slice b.ag.A b.ag.l.length b.ag.c) (.slice b.op.A b.op.l.length b.op.c) (by first | exact Nat.le_refl _ | omega | (simp; done) | (simp; omega)))
      replace HB := Lib.hid (HB.out.set4 (c := (w.heap.size + 1 + 1)) (.int .i64 b.own) (.int .i64 b.ot) (.slice b.ag.A b.ag.l.length b.ag.c) (.slice b.op.A b.op.l.length b.op.c) (HOFF.out _ (by omega)))
      replace BB := Lib.hid (BB.out.off4 (c := w.heap.size + 1 + 1) (.int .i64 b.own) (.int .i64 b.ot) (.slice b.ag.A b.ag.l.length b.ag.c) (.slice b.op.A b.op.l.length b.op.c) (by first | omega | (simp; done) | (simp; omega)))
      replace X := Lib.hid (X.out.off4 (c := w.heap.size + 1 + 1) (.int .i64 b.own) (.int .i64 b.ot) (.slice b.ag.A b.ag.l.length b.ag.c) (.slice b.op.A b.op.l.length b.op.c) (by first | omega | (simp; done) | (simp; omega)))
      replace R := Lib.hid (R.out.put4 (.int .i64 b.own) (.int .i64 b.ot) (.slice b.ag.A b.ag.l.length b.ag.c) (.slice b.op.A b.op.l.length b.op.c))
      unfold set4 at E HB BB X R
      replace E := Lib.hid (ext_alloc E.out (.cells #[.int .i64 y1.no, .int .i64 y1.f, .int .i64 y1.t, .int .i64 y1.m, .int .i64 y1.r] 26))
      replace HB := Lib.hid (HB.out.alloc (.cells #[.int .i64 y1.no, .int .i64 y1.f, .int .i64 y1.t, .int .i64 y1.m, .int .i64 y1.r] 26))
      go_wp2_with fail
      refine bodyPost_ret (v := .tuple #[b.v, .int .i64 0]) (by simp [results, Try.results20, go_sem, *]) rfl ?_
      rw [HW.out, HERR.out]
      exact ⟨b, rfl, rfl, HB.out, E.out, fun c _ h => h⟩
end Go.Proofs.Ytmnbeikhjbjpiaa
