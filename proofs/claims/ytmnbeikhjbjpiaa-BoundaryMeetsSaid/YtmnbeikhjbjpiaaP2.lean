/- Contracts: an offer is heard. -/
import Derived.Test.YtmnbeikhjbjpiaaP
set_option linter.unusedSimpArgs false
set_option linter.unusedVariables false
namespace Go.Proofs.Ytmnbeikhjbjpiaa
open Go.RowKit
def orA (x y : Option Ag) : Option Ag := match x with | some a => some a | none => y
theorem any_or (b : Bl) (no : Int) : b.any no = orA (numd b.ag no) (numd b.op no) := rfl
def same0 (o : Option Ag) (a : Ag) : Int := match o with | some x => if x = a then 0 else 480 | none => 0
theorem heaE_of (b : Bl) (a : Ag) : b.heaE a = if b.ok && fits b.own b.ot a && !offd a.no b.own b.ot then same0 (b.any a.no) a else 480 := rfl
theorem any_ag {b : Bl} {no : Int} {x : Ag} (h : numd b.ag no = some x) : b.any no = some x := by unfold Bl.any; rw [h]
theorem any_op {b : Bl} {no : Int} (h : numd b.ag no = none) : b.any no = numd b.op no := by unfold Bl.any; rw [h]
theorem idx71_0 (A B : Option Addr) (n m c d : Nat) (w : World) : (Instr.index 71 (.agg #[.slice A n c, .slice B m d]) (.int .i64 0)).run Try.prog w = .ok (.slice A n c) w := by
  have hs : ∀ w, (sizeOf 22).run Try.prog w = .ok 1 w := fun w => by kernel_rfl
  have hp : ∀ (cs : Array Value) (i : Nat) w, (part 22 cs i).run Try.prog w = (match cs[i]? with | some v => .ok v w | none => (part 22 cs i).run Try.prog w) := fun cs i w => by
    cases h : cs[i]? <;> simp [part, h, run_underlying Try.underlying22, go_sem]
  simp [Instr.index, run_underlying Try.underlying71, asIntOf, go_sem, hs, hp]
theorem idx71_1 (A B : Option Addr) (n m c d : Nat) (w : World) : (Instr.index 71 (.agg #[.slice A n c, .slice B m d]) (.int .i64 1)).run Try.prog w = .ok (.slice B m d) w := by
  have hs : ∀ w, (sizeOf 22).run Try.prog w = .ok 1 w := fun w => by kernel_rfl
  have hp : ∀ (cs : Array Value) (i : Nat) w, (part 22 cs i).run Try.prog w = (match cs[i]? with | some v => .ok v w | none => (part 22 cs i).run Try.prog w) := fun cs i w => by
    cases h : cs[i]? <;> simp [part, h, run_underlying Try.underlying22, go_sem]
  simp [Instr.index, run_underlying Try.underlying71, asIntOf, go_sem, hs, hp]
set_option maxHeartbeats 1600000 in
set_option maxRecDepth 100000 in
theorem hear_any (b : Bd) (a : Ag) (w : World) (hb : BOk w b) (hl : b.ag.l.length ≤ 1000 ∧ b.op.l.length ≤ 1000) : Calls Try.prog 14 #[b.v, a.v] w (BdR w b.off (b.bl.heaB a) (b.bl.heaE a)) := by
  have hagl := maxLen_of hb.agl hb.agc
  have hopl := maxLen_of hb.opl hb.opc
  have HOFF := Lib.hid (fun c (h : w.heap.size ≤ c) => hb.off h)
  have HLL := Lib.hid hl
  clear hl
  have HCP := Lib.hid (show _ ∧ _ from ⟨hb.opl, hb.opc⟩)
  obtain ⟨v, hv⟩ : ∃ v, b.bl.ok = v := ⟨_, rfl⟩
  obtain ⟨ft, hft⟩ : ∃ v, fits b.own b.ot a = v := ⟨_, rfl⟩
  obtain ⟨od, hod⟩ : ∃ v, offd a.no b.own b.ot = v := ⟨_, rfl⟩
  obtain ⟨n1, hn1⟩ : ∃ v, numd b.ag.l a.no = v := ⟨_, rfl⟩
  obtain ⟨n2, hn2⟩ : ∃ v, numd b.op.l a.no = v := ⟨_, rfl⟩
  obtain ⟨err, herr⟩ : ∃ e, b.bl.heaE a = e := ⟨_, rfl⟩
  have HAN := Lib.hid (show b.bl.any a.no = orA n1 n2 by rw [← hn1, ← hn2]; exact any_or b.bl a.no)
  have HE := Lib.hid (show err = if v && ft && !od then same0 (b.bl.any a.no) a else 480 by rw [← herr, ← hv, ← hft, ← hod]; exact heaE_of b.bl a)
  have HE0 := Lib.hid herr
  have HZ := Lib.hid (show err ≠ 0 → b.bl.heaB a = zeroB from fun h => by unfold Bl.heaB; rw [herr, if_neg h])
  have HV := Lib.hid hv
  have HFT := Lib.hid hft
  have HOD := Lib.hid hod
  have H1 := Lib.hid hn1
  have H2 := Lib.hid hn2
  rw [herr]
  clear hv hft hod hn1 hn2 herr
  cases v
  · have E := Lib.hid (ext_refl w)
    have HB := Lib.hid (hb)
    clear hb
    replace E := Lib.hid (ext_alloc E.out (.cells #[.int .i64 b.own, .int .i64 b.ot, .slice b.ag.A b.ag.l.length b.ag.c, .slice b.op.A b.op.l.length b.op.c] 24))
    replace HB := Lib.hid (HB.out.alloc (.cells #[.int .i64 b.own, .int .i64 b.ot, .slice b.ag.A b.ag.l.length b.ag.c, .slice b.op.A b.op.l.length b.op.c] 24))
    have BB := Lib.hid (Blk.newH w [.int .i64 b.own, .int .i64 b.ot, .slice b.ag.A b.ag.l.length b.ag.c, .slice b.op.A b.op.l.length b.op.c] 24 (w.heap.size) (by first | rfl | simp))
    replace E := Lib.hid (ext_alloc E.out (.cells #[.int .i64 a.no, .int .i64 a.f, .int .i64 a.t, .int .i64 a.m, .int .i64 a.r] 26))
    replace HB := Lib.hid (HB.out.alloc (.cells #[.int .i64 a.no, .int .i64 a.f, .int .i64 a.t, .int .i64 a.m, .int .i64 a.r] 26))
    replace BB := Lib.hid (BB.out.alloc (.cells #[.int .i64 a.no, .int .i64 a.f, .int .i64 a.t, .int .i64 a.m, .int .i64 a.r] 26))
    have X := Lib.hid (Blk.newH (w.alloc (.cells #[.int .i64 b.own, .int .i64 b.ot, .slice b.ag.A b.ag.l.length b.ag.c, .slice b.op.A b.op.l.length b.op.c] 24)) [.int .i64 a.no, .int .i64 a.f, .int .i64 a.t, .int .i64 a.m, .int .i64 a.r] 26 (w.heap.size + 1) (by first | rfl | simp))
    replace E := Lib.hid (ext_alloc E.out (.cells #[.int .i64 0, .int .i64 0, .slice none 0 0, .slice none 0 0] 24))
    replace HB := Lib.hid (HB.out.alloc (.cells #[.int .i64 0, .int .i64 0, .slice none 0 0, .slice none 0 0] 24))
    replace BB := Lib.hid (BB.out.alloc (.cells #[.int .i64 0, .int .i64 0, .slice none 0 0, .slice none 0 0] 24))
    replace X := Lib.hid (X.out.alloc (.cells #[.int .i64 0, .int .i64 0, .slice none 0 0, .slice none 0 0] 24))
    have R := Lib.hid (Blk.newH ((w.alloc (.cells #[.int .i64 b.own, .int .i64 b.ot, .slice b.ag.A b.ag.l.length b.ag.c, .slice b.op.A b.op.l.length b.op.c] 24)).alloc (.cells #[.int .i64 a.no, .int .i64 a.f, .int .i64 a.t, .int .i64 a.m, .int .i64 a.r] 26)) [.int .i64 0, .int .i64 0, .slice none 0 0, .slice none 0 0] 24 (w.heap.size + 1 + 1) (by first | rfl | simp))
    replace E := Lib.hid (ext_alloc E.out (.cells #[.int .i64 b.own, .int .i64 b.ot, .slice b.ag.A b.ag.l.length b.ag.c, .slice b.op.A b.op.l.length b.op.c] 64))
    replace HB := Lib.hid (HB.out.alloc (.cells #[.int .i64 b.own, .int .i64 b.ot, .slice b.ag.A b.ag.l.length b.ag.c, .slice b.op.A b.op.l.length b.op.c] 64))
    replace BB := Lib.hid (BB.out.alloc (.cells #[.int .i64 b.own, .int .i64 b.ot, .slice b.ag.A b.ag.l.length b.ag.c, .slice b.op.A b.op.l.length b.op.c] 64))
    replace X := Lib.hid (X.out.alloc (.cells #[.int .i64 b.own, .int .i64 b.ot, .slice b.ag.A b.ag.l.length b.ag.c, .slice b.op.A b.op.l.length b.op.c] 64))
    replace R := Lib.hid (R.out.alloc (.cells #[.int .i64 b.own, .int .i64 b.ot, .slice b.ag.A b.ag.l.length b.ag.c, .slice b.op.A b.op.l.length b.op.c] 64))
    have Y := Lib.hid (Blk.newH (((w.alloc (.cells #[.int .i64 b.own, .int .i64 b.ot, .slice b.ag.A b.ag.l.length b.ag.c, .slice b.op.A b.op.l.length b.op.c] 24)).alloc (.cells #[.int .i64 a.no, .int .i64 a.f, .int .i64 a.t, .int .i64 a.m, .int .i64 a.r] 26)).alloc (.cells #[.int .i64 0, .int .i64 0, .slice none 0 0, .slice none 0 0] 24)) [.int .i64 b.own, .int .i64 b.ot, .slice b.ag.A b.ag.l.length b.ag.c, .slice b.op.A b.op.l.length b.op.c] 64 (w.heap.size + 1 + 1 + 1) (by first | rfl | simp))
    go_enter Try.func14, Try.ntmps14
    have c0 := Y.out.c 0 _ rfl
    have c1 := Y.out.c 1 _ rfl
    have c2 := Y.out.c 2 _ rfl
    have c3 := Y.out.c 3 _ rfl
    go_wp2_with fail
    refine (valid33_at false HV.out HB.out).mono ?_
    rintro e v1 ⟨rfl, B⟩
    clear c0 c1 c2 c3
    replace E := Lib.hid (ext_trans E.out B)
    replace HB := Lib.hid (HB.out.ext B)
    replace BB := Lib.hid (BB.out.ext B)
    replace X := Lib.hid (X.out.ext B)
    replace R := Lib.hid (R.out.ext B)
    replace Y := Lib.hid (Y.out.ext B)
    clear B
    have HERR := Lib.hid (show err = 480 by rw [HE.out]; rfl)
    have r0 := R.out.c 0 _ rfl
    have r1 := R.out.c 1 _ rfl
    have r2 := R.out.c 2 _ rfl
    have r3 := R.out.c 3 _ rfl
    have rf := R.out.f
    have rl := R.out.lt
    replace E := Lib.hid (ext_set4 E.out (w.heap.size + 1 + 1) (.int .i64 0) (.int .i64 0) (.slice none 0 0) (.slice none 0 0) (by first | exact Nat.le_refl _ | omega | (simp; done) | (simp; omega)))
    replace HB := Lib.hid (HB.out.set4 (c := (w.heap.size + 1 + 1)) (.int .i64 0) (.int .i64 0) (.slice none 0 0) (.slice none 0 0) (HOFF.out _ (by omega)))
    replace BB := Lib.hid (BB.out.off4 (c := w.heap.size + 1 + 1) (.int .i64 0) (.int .i64 0) (.slice none 0 0) (.slice none 0 0) (by first | omega | (simp; done) | (simp; omega)))
    replace X := Lib.hid (X.out.off4 (c := w.heap.size + 1 + 1) (.int .i64 0) (.int .i64 0) (.slice none 0 0) (.slice none 0 0) (by first | omega | (simp; done) | (simp; omega)))
    replace R := Lib.hid (R.out.put4 (.int .i64 0) (.int .i64 0) (.slice none 0 0) (.slice none 0 0))
    replace Y := Lib.hid (Y.out.off4 (c := w.heap.size + 1 + 1) (.int .i64 0) (.int .i64 0) (.slice none 0 0) (.slice none 0 0) (by first | omega | (simp; done) | (simp; omega)))
    unfold set4 at E HB BB X R Y
    go_wp2_with fail
    refine bodyPost_ret (v := .tuple #[.agg #[.int .i64 0, .int .i64 0, .slice none 0 0, .slice none 0 0], .int .i64 480]) (by simp [results, Try.results14, go_sem, *]) rfl ?_
    exact BdR.zero HERR.out HZ.out (by decide) rfl E.out
  cases ft
  · have E := Lib.hid (ext_refl w)
    have HB := Lib.hid (hb)
    clear hb
    replace E := Lib.hid (ext_alloc E.out (.cells #[.int .i64 b.own, .int .i64 b.ot, .slice b.ag.A b.ag.l.length b.ag.c, .slice b.op.A b.op.l.length b.op.c] 24))
    replace HB := Lib.hid (HB.out.alloc (.cells #[.int .i64 b.own, .int .i64 b.ot, .slice b.ag.A b.ag.l.length b.ag.c, .slice b.op.A b.op.l.length b.op.c] 24))
    have BB := Lib.hid (Blk.newH w [.int .i64 b.own, .int .i64 b.ot, .slice b.ag.A b.ag.l.length b.ag.c, .slice b.op.A b.op.l.length b.op.c] 24 (w.heap.size) (by first | rfl | simp))
    replace E := Lib.hid (ext_alloc E.out (.cells #[.int .i64 a.no, .int .i64 a.f, .int .i64 a.t, .int .i64 a.m, .int .i64 a.r] 26))
    replace HB := Lib.hid (HB.out.alloc (.cells #[.int .i64 a.no, .int .i64 a.f, .int .i64 a.t, .int .i64 a.m, .int .i64 a.r] 26))
    replace BB := Lib.hid (BB.out.alloc (.cells #[.int .i64 a.no, .int .i64 a.f, .int .i64 a.t, .int .i64 a.m, .int .i64 a.r] 26))
    have X := Lib.hid (Blk.newH (w.alloc (.cells #[.int .i64 b.own, .int .i64 b.ot, .slice b.ag.A b.ag.l.length b.ag.c, .slice b.op.A b.op.l.length b.op.c] 24)) [.int .i64 a.no, .int .i64 a.f, .int .i64 a.t, .int .i64 a.m, .int .i64 a.r] 26 (w.heap.size + 1) (by first | rfl | simp))
    replace E := Lib.hid (ext_alloc E.out (.cells #[.int .i64 0, .int .i64 0, .slice none 0 0, .slice none 0 0] 24))
    replace HB := Lib.hid (HB.out.alloc (.cells #[.int .i64 0, .int .i64 0, .slice none 0 0, .slice none 0 0] 24))
    replace BB := Lib.hid (BB.out.alloc (.cells #[.int .i64 0, .int .i64 0, .slice none 0 0, .slice none 0 0] 24))
    replace X := Lib.hid (X.out.alloc (.cells #[.int .i64 0, .int .i64 0, .slice none 0 0, .slice none 0 0] 24))
    have R := Lib.hid (Blk.newH ((w.alloc (.cells #[.int .i64 b.own, .int .i64 b.ot, .slice b.ag.A b.ag.l.length b.ag.c, .slice b.op.A b.op.l.length b.op.c] 24)).alloc (.cells #[.int .i64 a.no, .int .i64 a.f, .int .i64 a.t, .int .i64 a.m, .int .i64 a.r] 26)) [.int .i64 0, .int .i64 0, .slice none 0 0, .slice none 0 0] 24 (w.heap.size + 1 + 1) (by first | rfl | simp))
    replace E := Lib.hid (ext_alloc E.out (.cells #[.int .i64 b.own, .int .i64 b.ot, .slice b.ag.A b.ag.l.length b.ag.c, .slice b.op.A b.op.l.length b.op.c] 64))
    replace HB := Lib.hid (HB.out.alloc (.cells #[.int .i64 b.own, .int .i64 b.ot, .slice b.ag.A b.ag.l.length b.ag.c, .slice b.op.A b.op.l.length b.op.c] 64))
    replace BB := Lib.hid (BB.out.alloc (.cells #[.int .i64 b.own, .int .i64 b.ot, .slice b.ag.A b.ag.l.length b.ag.c, .slice b.op.A b.op.l.length b.op.c] 64))
    replace X := Lib.hid (X.out.alloc (.cells #[.int .i64 b.own, .int .i64 b.ot, .slice b.ag.A b.ag.l.length b.ag.c, .slice b.op.A b.op.l.length b.op.c] 64))
    replace R := Lib.hid (R.out.alloc (.cells #[.int .i64 b.own, .int .i64 b.ot, .slice b.ag.A b.ag.l.length b.ag.c, .slice b.op.A b.op.l.length b.op.c] 64))
    have Y := Lib.hid (Blk.newH (((w.alloc (.cells #[.int .i64 b.own, .int .i64 b.ot, .slice b.ag.A b.ag.l.length b.ag.c, .slice b.op.A b.op.l.length b.op.c] 24)).alloc (.cells #[.int .i64 a.no, .int .i64 a.f, .int .i64 a.t, .int .i64 a.m, .int .i64 a.r] 26)).alloc (.cells #[.int .i64 0, .int .i64 0, .slice none 0 0, .slice none 0 0] 24)) [.int .i64 b.own, .int .i64 b.ot, .slice b.ag.A b.ag.l.length b.ag.c, .slice b.op.A b.op.l.length b.op.c] 64 (w.heap.size + 1 + 1 + 1) (by first | rfl | simp))
    go_enter Try.func14, Try.ntmps14
    have c0 := Y.out.c 0 _ rfl
    have c1 := Y.out.c 1 _ rfl
    have c2 := Y.out.c 2 _ rfl
    have c3 := Y.out.c 3 _ rfl
    go_wp2_with fail
    refine (valid33_at true HV.out HB.out).mono ?_
    rintro e v1 ⟨rfl, B⟩
    clear c0 c1 c2 c3
    replace E := Lib.hid (ext_trans E.out B)
    replace HB := Lib.hid (HB.out.ext B)
    replace BB := Lib.hid (BB.out.ext B)
    replace X := Lib.hid (X.out.ext B)
    replace R := Lib.hid (R.out.ext B)
    replace Y := Lib.hid (Y.out.ext B)
    clear B
    have c0 := Y.out.c 0 _ rfl
    have c1 := Y.out.c 1 _ rfl
    have c2 := Y.out.c 2 _ rfl
    have c3 := Y.out.c 3 _ rfl
    have c4 := X.out.c 0 _ rfl
    have c5 := X.out.c 1 _ rfl
    have c6 := X.out.c 2 _ rfl
    have c7 := X.out.c 3 _ rfl
    have c8 := X.out.c 4 _ rfl
    go_wp2_with fail
    refine (fits_at (b := b) (x := a) false HFT.out).mono ?_
    rintro e v2 ⟨rfl, B⟩
    clear c0 c1 c2 c3 c4 c5 c6 c7 c8
    replace E := Lib.hid (ext_trans E.out B)
    replace HB := Lib.hid (HB.out.ext B)
    replace BB := Lib.hid (BB.out.ext B)
    replace X := Lib.hid (X.out.ext B)
    replace R := Lib.hid (R.out.ext B)
    replace Y := Lib.hid (Y.out.ext B)
    clear B
    have HERR := Lib.hid (show err = 480 by rw [HE.out]; rfl)
    have r0 := R.out.c 0 _ rfl
    have r1 := R.out.c 1 _ rfl
    have r2 := R.out.c 2 _ rfl
    have r3 := R.out.c 3 _ rfl
    have rf := R.out.f
    have rl := R.out.lt
    replace E := Lib.hid (ext_set4 E.out (w.heap.size + 1 + 1) (.int .i64 0) (.int .i64 0) (.slice none 0 0) (.slice none 0 0) (by first | exact Nat.le_refl _ | omega | (simp; done) | (simp; omega)))
    replace HB := Lib.hid (HB.out.set4 (c := (w.heap.size + 1 + 1)) (.int .i64 0) (.int .i64 0) (.slice none 0 0) (.slice none 0 0) (HOFF.out _ (by omega)))
    replace BB := Lib.hid (BB.out.off4 (c := w.heap.size + 1 + 1) (.int .i64 0) (.int .i64 0) (.slice none 0 0) (.slice none 0 0) (by first | omega | (simp; done) | (simp; omega)))
    replace X := Lib.hid (X.out.off4 (c := w.heap.size + 1 + 1) (.int .i64 0) (.int .i64 0) (.slice none 0 0) (.slice none 0 0) (by first | omega | (simp; done) | (simp; omega)))
    replace R := Lib.hid (R.out.put4 (.int .i64 0) (.int .i64 0) (.slice none 0 0) (.slice none 0 0))
    replace Y := Lib.hid (Y.out.off4 (c := w.heap.size + 1 + 1) (.int .i64 0) (.int .i64 0) (.slice none 0 0) (.slice none 0 0) (by first | omega | (simp; done) | (simp; omega)))
    unfold set4 at E HB BB X R Y
    go_wp2_with fail
    refine bodyPost_ret (v := .tuple #[.agg #[.int .i64 0, .int .i64 0, .slice none 0 0, .slice none 0 0], .int .i64 480]) (by simp [results, Try.results14, go_sem, *]) rfl ?_
    exact BdR.zero HERR.out HZ.out (by decide) rfl E.out
  cases od
  rotate_left
  · have E := Lib.hid (ext_refl w)
    have HB := Lib.hid (hb)
    clear hb
    replace E := Lib.hid (ext_alloc E.out (.cells #[.int .i64 b.own, .int .i64 b.ot, .slice b.ag.A b.ag.l.length b.ag.c, .slice b.op.A b.op.l.length b.op.c] 24))
    replace HB := Lib.hid (HB.out.alloc (.cells #[.int .i64 b.own, .int .i64 b.ot, .slice b.ag.A b.ag.l.length b.ag.c, .slice b.op.A b.op.l.length b.op.c] 24))
    have BB := Lib.hid (Blk.newH w [.int .i64 b.own, .int .i64 b.ot, .slice b.ag.A b.ag.l.length b.ag.c, .slice b.op.A b.op.l.length b.op.c] 24 (w.heap.size) (by first | rfl | simp))
    replace E := Lib.hid (ext_alloc E.out (.cells #[.int .i64 a.no, .int .i64 a.f, .int .i64 a.t, .int .i64 a.m, .int .i64 a.r] 26))
    replace HB := Lib.hid (HB.out.alloc (.cells #[.int .i64 a.no, .int .i64 a.f, .int .i64 a.t, .int .i64 a.m, .int .i64 a.r] 26))
    replace BB := Lib.hid (BB.out.alloc (.cells #[.int .i64 a.no, .int .i64 a.f, .int .i64 a.t, .int .i64 a.m, .int .i64 a.r] 26))
    have X := Lib.hid (Blk.newH (w.alloc (.cells #[.int .i64 b.own, .int .i64 b.ot, .slice b.ag.A b.ag.l.length b.ag.c, .slice b.op.A b.op.l.length b.op.c] 24)) [.int .i64 a.no, .int .i64 a.f, .int .i64 a.t, .int .i64 a.m, .int .i64 a.r] 26 (w.heap.size + 1) (by first | rfl | simp))
    replace E := Lib.hid (ext_alloc E.out (.cells #[.int .i64 0, .int .i64 0, .slice none 0 0, .slice none 0 0] 24))
    replace HB := Lib.hid (HB.out.alloc (.cells #[.int .i64 0, .int .i64 0, .slice none 0 0, .slice none 0 0] 24))
    replace BB := Lib.hid (BB.out.alloc (.cells #[.int .i64 0, .int .i64 0, .slice none 0 0, .slice none 0 0] 24))
    replace X := Lib.hid (X.out.alloc (.cells #[.int .i64 0, .int .i64 0, .slice none 0 0, .slice none 0 0] 24))
    have R := Lib.hid (Blk.newH ((w.alloc (.cells #[.int .i64 b.own, .int .i64 b.ot, .slice b.ag.A b.ag.l.length b.ag.c, .slice b.op.A b.op.l.length b.op.c] 24)).alloc (.cells #[.int .i64 a.no, .int .i64 a.f, .int .i64 a.t, .int .i64 a.m, .int .i64 a.r] 26)) [.int .i64 0, .int .i64 0, .slice none 0 0, .slice none 0 0] 24 (w.heap.size + 1 + 1) (by first | rfl | simp))
    replace E := Lib.hid (ext_alloc E.out (.cells #[.int .i64 b.own, .int .i64 b.ot, .slice b.ag.A b.ag.l.length b.ag.c, .slice b.op.A b.op.l.length b.op.c] 64))
    replace HB := Lib.hid (HB.out.alloc (.cells #[.int .i64 b.own, .int .i64 b.ot, .slice b.ag.A b.ag.l.length b.ag.c, .slice b.op.A b.op.l.length b.op.c] 64))
    replace BB := Lib.hid (BB.out.alloc (.cells #[.int .i64 b.own, .int .i64 b.ot, .slice b.ag.A b.ag.l.length b.ag.c, .slice b.op.A b.op.l.length b.op.c] 64))
    replace X := Lib.hid (X.out.alloc (.cells #[.int .i64 b.own, .int .i64 b.ot, .slice b.ag.A b.ag.l.length b.ag.c, .slice b.op.A b.op.l.length b.op.c] 64))
    replace R := Lib.hid (R.out.alloc (.cells #[.int .i64 b.own, .int .i64 b.ot, .slice b.ag.A b.ag.l.length b.ag.c, .slice b.op.A b.op.l.length b.op.c] 64))
    have Y := Lib.hid (Blk.newH (((w.alloc (.cells #[.int .i64 b.own, .int .i64 b.ot, .slice b.ag.A b.ag.l.length b.ag.c, .slice b.op.A b.op.l.length b.op.c] 24)).alloc (.cells #[.int .i64 a.no, .int .i64 a.f, .int .i64 a.t, .int .i64 a.m, .int .i64 a.r] 26)).alloc (.cells #[.int .i64 0, .int .i64 0, .slice none 0 0, .slice none 0 0] 24)) [.int .i64 b.own, .int .i64 b.ot, .slice b.ag.A b.ag.l.length b.ag.c, .slice b.op.A b.op.l.length b.op.c] 64 (w.heap.size + 1 + 1 + 1) (by first | rfl | simp))
    go_enter Try.func14, Try.ntmps14
    have c0 := Y.out.c 0 _ rfl
    have c1 := Y.out.c 1 _ rfl
    have c2 := Y.out.c 2 _ rfl
    have c3 := Y.out.c 3 _ rfl
    go_wp2_with fail
    refine (valid33_at true HV.out HB.out).mono ?_
    rintro e v1 ⟨rfl, B⟩
    clear c0 c1 c2 c3
    replace E := Lib.hid (ext_trans E.out B)
    replace HB := Lib.hid (HB.out.ext B)
    replace BB := Lib.hid (BB.out.ext B)
    replace X := Lib.hid (X.out.ext B)
    replace R := Lib.hid (R.out.ext B)
    replace Y := Lib.hid (Y.out.ext B)
    clear B
    have c0 := Y.out.c 0 _ rfl
    have c1 := Y.out.c 1 _ rfl
    have c2 := Y.out.c 2 _ rfl
    have c3 := Y.out.c 3 _ rfl
    have c4 := X.out.c 0 _ rfl
    have c5 := X.out.c 1 _ rfl
    have c6 := X.out.c 2 _ rfl
    have c7 := X.out.c 3 _ rfl
    have c8 := X.out.c 4 _ rfl
    go_wp2_with fail
    refine (fits_at (b := b) (x := a) true HFT.out).mono ?_
    rintro e v2 ⟨rfl, B⟩
    clear c0 c1 c2 c3 c4 c5 c6 c7 c8
    replace E := Lib.hid (ext_trans E.out B)
    replace HB := Lib.hid (HB.out.ext B)
    replace BB := Lib.hid (BB.out.ext B)
    replace X := Lib.hid (X.out.ext B)
    replace R := Lib.hid (R.out.ext B)
    replace Y := Lib.hid (Y.out.ext B)
    clear B
    have c0 := Y.out.c 0 _ rfl
    have c1 := Y.out.c 1 _ rfl
    have c2 := Y.out.c 2 _ rfl
    have c3 := Y.out.c 3 _ rfl
    have c4 := X.out.c 0 _ rfl
    go_wp2_with fail
    refine (ours_at (b := b) true HOD.out).mono ?_
    rintro e v3 ⟨rfl, B⟩
    clear c0 c1 c2 c3 c4
    replace E := Lib.hid (ext_trans E.out B)
    replace HB := Lib.hid (HB.out.ext B)
    replace BB := Lib.hid (BB.out.ext B)
    replace X := Lib.hid (X.out.ext B)
    replace R := Lib.hid (R.out.ext B)
    replace Y := Lib.hid (Y.out.ext B)
    clear B
    have HERR := Lib.hid (show err = 480 by rw [HE.out]; rfl)
    have r0 := R.out.c 0 _ rfl
    have r1 := R.out.c 1 _ rfl
    have r2 := R.out.c 2 _ rfl
    have r3 := R.out.c 3 _ rfl
    have rf := R.out.f
    have rl := R.out.lt
    replace E := Lib.hid (ext_set4 E.out (w.heap.size + 1 + 1) (.int .i64 0) (.int .i64 0) (.slice none 0 0) (.slice none 0 0) (by first | exact Nat.le_refl _ | omega | (simp; done) | (simp; omega)))
    replace HB := Lib.hid (HB.out.set4 (c := (w.heap.size + 1 + 1)) (.int .i64 0) (.int .i64 0) (.slice none 0 0) (.slice none 0 0) (HOFF.out _ (by omega)))
    replace BB := Lib.hid (BB.out.off4 (c := w.heap.size + 1 + 1) (.int .i64 0) (.int .i64 0) (.slice none 0 0) (.slice none 0 0) (by first | omega | (simp; done) | (simp; omega)))
    replace X := Lib.hid (X.out.off4 (c := w.heap.size + 1 + 1) (.int .i64 0) (.int .i64 0) (.slice none 0 0) (.slice none 0 0) (by first | omega | (simp; done) | (simp; omega)))
    replace R := Lib.hid (R.out.put4 (.int .i64 0) (.int .i64 0) (.slice none 0 0) (.slice none 0 0))
    replace Y := Lib.hid (Y.out.off4 (c := w.heap.size + 1 + 1) (.int .i64 0) (.int .i64 0) (.slice none 0 0) (.slice none 0 0) (by first | omega | (simp; done) | (simp; omega)))
    unfold set4 at E HB BB X R Y
    go_wp2_with fail
    refine bodyPost_ret (v := .tuple #[.agg #[.int .i64 0, .int .i64 0, .slice none 0 0, .slice none 0 0], .int .i64 480]) (by simp [results, Try.results14, go_sem, *]) rfl ?_
    exact BdR.zero HERR.out HZ.out (by decide) rfl E.out
  have E := Lib.hid (ext_refl w)
  have HB := Lib.hid (hb)
  clear hb
  replace E := Lib.hid (ext_alloc E.out (.cells #[.int .i64 b.own, .int .i64 b.ot, .slice b.ag.A b.ag.l.length b.ag.c, .slice b.op.A b.op.l.length b.op.c] 24))
  replace HB := Lib.hid (HB.out.alloc (.cells #[.int .i64 b.own, .int .i64 b.ot, .slice b.ag.A b.ag.l.length b.ag.c, .slice b.op.A b.op.l.length b.op.c] 24))
  have BB := Lib.hid (Blk.newH w [.int .i64 b.own, .int .i64 b.ot, .slice b.ag.A b.ag.l.length b.ag.c, .slice b.op.A b.op.l.length b.op.c] 24 (w.heap.size) (by first | rfl | simp))
  replace E := Lib.hid (ext_alloc E.out (.cells #[.int .i64 a.no, .int .i64 a.f, .int .i64 a.t, .int .i64 a.m, .int .i64 a.r] 26))
  replace HB := Lib.hid (HB.out.alloc (.cells #[.int .i64 a.no, .int .i64 a.f, .int .i64 a.t, .int .i64 a.m, .int .i64 a.r] 26))
  replace BB := Lib.hid (BB.out.alloc (.cells #[.int .i64 a.no, .int .i64 a.f, .int .i64 a.t, .int .i64 a.m, .int .i64 a.r] 26))
  have X := Lib.hid (Blk.newH (w.alloc (.cells #[.int .i64 b.own, .int .i64 b.ot, .slice b.ag.A b.ag.l.length b.ag.c, .slice b.op.A b.op.l.length b.op.c] 24)) [.int .i64 a.no, .int .i64 a.f, .int .i64 a.t, .int .i64 a.m, .int .i64 a.r] 26 (w.heap.size + 1) (by first | rfl | simp))
  replace E := Lib.hid (ext_alloc E.out (.cells #[.int .i64 0, .int .i64 0, .slice none 0 0, .slice none 0 0] 24))
  replace HB := Lib.hid (HB.out.alloc (.cells #[.int .i64 0, .int .i64 0, .slice none 0 0, .slice none 0 0] 24))
  replace BB := Lib.hid (BB.out.alloc (.cells #[.int .i64 0, .int .i64 0, .slice none 0 0, .slice none 0 0] 24))
  replace X := Lib.hid (X.out.alloc (.cells #[.int .i64 0, .int .i64 0, .slice none 0 0, .slice none 0 0] 24))
  have R := Lib.hid (Blk.newH ((w.alloc (.cells #[.int .i64 b.own, .int .i64 b.ot, .slice b.ag.A b.ag.l.length b.ag.c, .slice b.op.A b.op.l.length b.op.c] 24)).alloc (.cells #[.int .i64 a.no, .int .i64 a.f, .int .i64 a.t, .int .i64 a.m, .int .i64 a.r] 26)) [.int .i64 0, .int .i64 0, .slice none 0 0, .slice none 0 0] 24 (w.heap.size + 1 + 1) (by first | rfl | simp))
  replace E := Lib.hid (ext_alloc E.out (.cells #[.int .i64 b.own, .int .i64 b.ot, .slice b.ag.A b.ag.l.length b.ag.c, .slice b.op.A b.op.l.length b.op.c] 64))
  replace HB := Lib.hid (HB.out.alloc (.cells #[.int .i64 b.own, .int .i64 b.ot, .slice b.ag.A b.ag.l.length b.ag.c, .slice b.op.A b.op.l.length b.op.c] 64))
  replace BB := Lib.hid (BB.out.alloc (.cells #[.int .i64 b.own, .int .i64 b.ot, .slice b.ag.A b.ag.l.length b.ag.c, .slice b.op.A b.op.l.length b.op.c] 64))
  replace X := Lib.hid (X.out.alloc (.cells #[.int .i64 b.own, .int .i64 b.ot, .slice b.ag.A b.ag.l.length b.ag.c, .slice b.op.A b.op.l.length b.op.c] 64))
  replace R := Lib.hid (R.out.alloc (.cells #[.int .i64 b.own, .int .i64 b.ot, .slice b.ag.A b.ag.l.length b.ag.c, .slice b.op.A b.op.l.length b.op.c] 64))
  have Y := Lib.hid (Blk.newH (((w.alloc (.cells #[.int .i64 b.own, .int .i64 b.ot, .slice b.ag.A b.ag.l.length b.ag.c, .slice b.op.A b.op.l.length b.op.c] 24)).alloc (.cells #[.int .i64 a.no, .int .i64 a.f, .int .i64 a.t, .int .i64 a.m, .int .i64 a.r] 26)).alloc (.cells #[.int .i64 0, .int .i64 0, .slice none 0 0, .slice none 0 0] 24)) [.int .i64 b.own, .int .i64 b.ot, .slice b.ag.A b.ag.l.length b.ag.c, .slice b.op.A b.op.l.length b.op.c] 64 (w.heap.size + 1 + 1 + 1) (by first | rfl | simp))
  go_enter Try.func14, Try.ntmps14
  have c0 := Y.out.c 0 _ rfl
  have c1 := Y.out.c 1 _ rfl
  have c2 := Y.out.c 2 _ rfl
  have c3 := Y.out.c 3 _ rfl
  go_wp2_with fail
  refine (valid33_at true HV.out HB.out).mono ?_
  rintro e v1 ⟨rfl, B⟩
  clear c0 c1 c2 c3
  replace E := Lib.hid (ext_trans E.out B)
  replace HB := Lib.hid (HB.out.ext B)
  replace BB := Lib.hid (BB.out.ext B)
  replace X := Lib.hid (X.out.ext B)
  replace R := Lib.hid (R.out.ext B)
  replace Y := Lib.hid (Y.out.ext B)
  clear B
  have c0 := Y.out.c 0 _ rfl
  have c1 := Y.out.c 1 _ rfl
  have c2 := Y.out.c 2 _ rfl
  have c3 := Y.out.c 3 _ rfl
  have c4 := X.out.c 0 _ rfl
  have c5 := X.out.c 1 _ rfl
  have c6 := X.out.c 2 _ rfl
  have c7 := X.out.c 3 _ rfl
  have c8 := X.out.c 4 _ rfl
  go_wp2_with fail
  refine (fits_at (b := b) (x := a) true HFT.out).mono ?_
  rintro e v2 ⟨rfl, B⟩
  clear c0 c1 c2 c3 c4 c5 c6 c7 c8
  replace E := Lib.hid (ext_trans E.out B)
  replace HB := Lib.hid (HB.out.ext B)
  replace BB := Lib.hid (BB.out.ext B)
  replace X := Lib.hid (X.out.ext B)
  replace R := Lib.hid (R.out.ext B)
  replace Y := Lib.hid (Y.out.ext B)
  clear B
  have c0 := Y.out.c 0 _ rfl
  have c1 := Y.out.c 1 _ rfl
  have c2 := Y.out.c 2 _ rfl
  have c3 := Y.out.c 3 _ rfl
  have c4 := X.out.c 0 _ rfl
  go_wp2_with fail
  refine (ours_at (b := b) false HOD.out).mono ?_
  rintro e v3 ⟨rfl, B⟩
  clear c0 c1 c2 c3 c4
  replace E := Lib.hid (ext_trans E.out B)
  replace HB := Lib.hid (HB.out.ext B)
  replace BB := Lib.hid (BB.out.ext B)
  replace X := Lib.hid (X.out.ext B)
  replace R := Lib.hid (R.out.ext B)
  replace Y := Lib.hid (Y.out.ext B)
  clear B
  have HE2 := Lib.hid (show err = same0 (b.bl.any a.no) a from HE.out)
  clear HE
  have c0 := BB.out.c 2 _ rfl
  have c1 := BB.out.c 3 _ rfl
  go_wp2_with fail
  clear c0 c1
  go_loopw [34] (fun i wr => ∃ k : Nat, k ≤ 2 ∧ i = .int .i64 k ∧ Hid (1 ≤ k → n1 = none) ∧ Hid (2 ≤ k → n2 = none) ∧ Hid (Blk wr (w.heap.size) [.int .i64 b.own, .int .i64 b.ot, .slice b.ag.A b.ag.l.length b.ag.c, .slice b.op.A b.op.l.length b.op.c]) ∧ Hid (Blk wr (w.heap.size + 1) [.int .i64 a.no, .int .i64 a.f, .int .i64 a.t, .int .i64 a.m, .int .i64 a.r]) ∧ Hid (Blk wr (w.heap.size + 1 + 1) [.int .i64 0, .int .i64 0, .slice none 0 0, .slice none 0 0]) ∧ Hid (BOk wr b) ∧ Hid (Below w.heap.size w wr)) (fun i _ => 2 - (intOf i).toNat)
  case atStart => exact ⟨0, by decide, rfl, (fun h => absurd h (by decide)), (fun h => absurd h (by decide)), BB.out, X.out, R.out, HB.out, E.out⟩
  clear BB X R HB E Y
  case round =>
    obtain ⟨k, hk, rfl, HK1, HK2, BB, X, R, HB, E⟩ := hrel
    obtain rfl | rfl | rfl : k = 0 ∨ k = 1 ∨ k = 2 := by omega
    · rename_i K2 a2
      have HA2 := Lib.hid a2
      clear a2
      have hix := fun w => idx71_0 b.ag.A b.op.A b.ag.l.length b.op.l.length b.ag.c b.op.c w
      have c0 := X.out.c 0 _ rfl
      go_wp2_with fail
      refine (numd_at n1 H1.out rfl HB.out.ag hagl).mono ?_
      rintro e u1 ⟨y, rfl, hy, B⟩
      clear c0
      replace BB := Lib.hid (BB.out.ext B)
      replace X := Lib.hid (X.out.ext B)
      replace R := Lib.hid (R.out.ext B)
      replace HB := Lib.hid (HB.out.ext B)
      replace E := Lib.hid (ext_trans E.out B)
      clear B
      have HY := Lib.hid hy
      clear hy hix
      cases n1 with
      | none =>
        clear HA2
        go_wp2_with fail
        go_roundw
        case rel => exact ⟨1, by decide, by first | rfl | go_num, (by first | exact fun _ => rfl | exact fun _ => trivial | exact trivial), (fun h => absurd h (by decide)), BB.out.alloc (.cells #[.int .i64 y.no, .int .i64 y.f, .int .i64 y.t, .int .i64 y.m, .int .i64 y.r] 26), X.out.alloc (.cells #[.int .i64 y.no, .int .i64 y.f, .int .i64 y.t, .int .i64 y.m, .int .i64 y.r] 26), R.out.alloc (.cells #[.int .i64 y.no, .int .i64 y.f, .int .i64 y.t, .int .i64 y.m, .int .i64 y.r] 26), HB.out.alloc (.cells #[.int .i64 y.no, .int .i64 y.f, .int .i64 y.t, .int .i64 y.m, .int .i64 y.r] 26), ext_alloc E.out _⟩
        case measure => simp [intOf]
      | some z =>
        obtain rfl : y = z := HY.out
        clear HA2
        have hne := fun w => run_neq26 y a w
        have AN := Lib.hid (show b.bl.any a.no = some y by rw [HAN.out]; rfl)
        by_cases hya : y = a
        rotate_left
        · have hd : decide (y = a) = false := by simpa using hya
          rw [hd] at hne
          have HERR := Lib.hid (show err = 480 by rw [HE2.out, AN.out]; exact if_neg hya)
          clear hya hd
          have x0 := X.out.c 0 _ rfl
          have x1 := X.out.c 1 _ rfl
          have x2 := X.out.c 2 _ rfl
          have x3 := X.out.c 3 _ rfl
          have x4 := X.out.c 4 _ rfl
          have xf := X.out.f
          have xl := X.out.lt
          have r0 := R.out.c 0 _ rfl
          have r1 := R.out.c 1 _ rfl
          have r2 := R.out.c 2 _ rfl
          have r3 := R.out.c 3 _ rfl
          have rf := R.out.f
          have rl := R.out.lt
          replace BB := Lib.hid (BB.out.off4 (c := w.heap.size + 1 + 1) (.int .i64 0) (.int .i64 0) (.slice none 0 0) (.slice none 0 0) (by first | omega | (simp; done) | (simp; omega)))
          replace X := Lib.hid (X.out.off4 (c := w.heap.size + 1 + 1) (.int .i64 0) (.int .i64 0) (.slice none 0 0) (.slice none 0 0) (by first | omega | (simp; done) | (simp; omega)))
          replace R := Lib.hid (R.out.put4 (.int .i64 0) (.int .i64 0) (.slice none 0 0) (.slice none 0 0))
          replace HB := Lib.hid (HB.out.set4 (c := (w.heap.size + 1 + 1)) (.int .i64 0) (.int .i64 0) (.slice none 0 0) (.slice none 0 0) (HOFF.out _ (by omega)))
          replace E := Lib.hid (ext_set4 E.out (w.heap.size + 1 + 1) (.int .i64 0) (.int .i64 0) (.slice none 0 0) (.slice none 0 0) (by first | exact Nat.le_refl _ | omega | (simp; done) | (simp; omega)))
          unfold set4 at BB X R HB E
          replace E := Lib.hid (ext_alloc E.out (.cells #[.int .i64 y.no, .int .i64 y.f, .int .i64 y.t, .int .i64 y.m, .int .i64 y.r] 26))
          go_wp2_with fail
          refine bodyPost_ret (v := .tuple #[.agg #[.int .i64 0, .int .i64 0, .slice none 0 0, .slice none 0 0], .int .i64 480]) (by simp [results, Try.results14, go_sem, *]) rfl ?_
          exact BdR.zero HERR.out HZ.out (by decide) rfl E.out
        · have hd : decide (y = a) = true := by simpa using hya
          rw [hd] at hne
          have HERR := Lib.hid (show err = 0 by rw [HE2.out, AN.out]; exact if_pos hya)
          have HW := Lib.hid (show b.bl.heaB a = b.bl by rw [heaB_ok (by rw [HE0.out]; exact HERR.out), AN.out]; rfl)
          clear hya hd
          have x0 := X.out.c 0 _ rfl
          have x1 := X.out.c 1 _ rfl
          have x2 := X.out.c 2 _ rfl
          have x3 := X.out.c 3 _ rfl
          have x4 := X.out.c 4 _ rfl
          have xf := X.out.f
          have xl := X.out.lt
          have bb0 := BB.out.c 0 _ rfl
          have bb1 := BB.out.c 1 _ rfl
          have bb2 := BB.out.c 2 _ rfl
          have bb3 := BB.out.c 3 _ rfl
          have bbf := BB.out.f
          have bbl := BB.out.lt
          have r0 := R.out.c 0 _ rfl
          have r1 := R.out.c 1 _ rfl
          have r2 := R.out.c 2 _ rfl
          have r3 := R.out.c 3 _ rfl
          have rf := R.out.f
          have rl := R.out.lt
          replace BB := Lib.hid (BB.out.off4 (c := w.heap.size + 1 + 1) (.int .i64 b.own) (.int .i64 b.ot) (.slice b.ag.A b.ag.l.length b.ag.c) (.slice b.op.A b.op.l.length b.op.c) (by first | omega | (simp; done) | (simp; omega)))
          replace X := Lib.hid (X.out.off4 (c := w.heap.size + 1 + 1) (.int .i64 b.own) (.int .i64 b.ot) (.slice b.ag.A b.ag.l.length b.ag.c) (.slice b.op.A b.op.l.length b.op.c) (by first | omega | (simp; done) | (simp; omega)))
          replace R := Lib.hid (R.out.put4 (.int .i64 b.own) (.int .i64 b.ot) (.slice b.ag.A b.ag.l.length b.ag.c) (.slice b.op.A b.op.l.length b.op.c))
          replace HB := Lib.hid (HB.out.set4 (c := (w.heap.size + 1 + 1)) (.int .i64 b.own) (.int .i64 b.ot) (.slice b.ag.A b.ag.l.length b.ag.c) (.slice b.op.A b.op.l.length b.op.c) (HOFF.out _ (by omega)))
          replace E := Lib.hid (ext_set4 E.out (w.heap.size + 1 + 1) (.int .i64 b.own) (.int .i64 b.ot) (.slice b.ag.A b.ag.l.length b.ag.c) (.slice b.op.A b.op.l.length b.op.c) (by first | exact Nat.le_refl _ | omega | (simp; done) | (simp; omega)))
          unfold set4 at BB X R HB E
          replace E := Lib.hid (ext_alloc E.out (.cells #[.int .i64 y.no, .int .i64 y.f, .int .i64 y.t, .int .i64 y.m, .int .i64 y.r] 26))
          replace HB := Lib.hid (HB.out.alloc (.cells #[.int .i64 y.no, .int .i64 y.f, .int .i64 y.t, .int .i64 y.m, .int .i64 y.r] 26))
          go_wp2_with fail
          refine bodyPost_ret (v := .tuple #[b.v, .int .i64 0]) (by simp [results, Try.results14, go_sem, *]) rfl ?_
          rw [HW.out, HERR.out]
          exact ⟨b, rfl, rfl, HB.out, E.out, fun c _ h => h⟩
    · obtain rfl := HK1.out (by decide)
      rename_i K2 a2
      have HA2 := Lib.hid a2
      clear a2
      have hix := fun w => idx71_1 b.ag.A b.op.A b.ag.l.length b.op.l.length b.ag.c b.op.c w
      have c0 := X.out.c 0 _ rfl
      go_wp2_with fail
      refine (numd_at n2 H2.out rfl HB.out.op hopl).mono ?_
      rintro e u1 ⟨y, rfl, hy, B⟩
      clear c0
      replace BB := Lib.hid (BB.out.ext B)
      replace X := Lib.hid (X.out.ext B)
      replace R := Lib.hid (R.out.ext B)
      replace HB := Lib.hid (HB.out.ext B)
      replace E := Lib.hid (ext_trans E.out B)
      clear B
      have HY := Lib.hid hy
      clear hy hix
      cases n2 with
      | none =>
        clear HA2
        go_wp2_with fail
        go_roundw
        case rel => exact ⟨2, by decide, by first | rfl | go_num, (by first | exact fun _ => rfl | exact fun _ => trivial | exact trivial), (by first | exact fun _ => rfl | exact fun _ => trivial | exact trivial), BB.out.alloc (.cells #[.int .i64 y.no, .int .i64 y.f, .int .i64 y.t, .int .i64 y.m, .int .i64 y.r] 26), X.out.alloc (.cells #[.int .i64 y.no, .int .i64 y.f, .int .i64 y.t, .int .i64 y.m, .int .i64 y.r] 26), R.out.alloc (.cells #[.int .i64 y.no, .int .i64 y.f, .int .i64 y.t, .int .i64 y.m, .int .i64 y.r] 26), HB.out.alloc (.cells #[.int .i64 y.no, .int .i64 y.f, .int .i64 y.t, .int .i64 y.m, .int .i64 y.r] 26), ext_alloc E.out _⟩
        case measure => simp [intOf]
      | some z =>
        obtain rfl : y = z := HY.out
        clear HA2
        have hne := fun w => run_neq26 y a w
        have AN := Lib.hid (show b.bl.any a.no = some y by rw [HAN.out]; rfl)
        by_cases hya : y = a
        rotate_left
        · have hd : decide (y = a) = false := by simpa using hya
          rw [hd] at hne
          have HERR := Lib.hid (show err = 480 by rw [HE2.out, AN.out]; exact if_neg hya)
          clear hya hd
          have x0 := X.out.c 0 _ rfl
          have x1 := X.out.c 1 _ rfl
          have x2 := X.out.c 2 _ rfl
          have x3 := X.out.c 3 _ rfl
          have x4 := X.out.c 4 _ rfl
          have xf := X.out.f
          have xl := X.out.lt
          have r0 := R.out.c 0 _ rfl
          have r1 := R.out.c 1 _ rfl
          have r2 := R.out.c 2 _ rfl
          have r3 := R.out.c 3 _ rfl
          have rf := R.out.f
          have rl := R.out.lt
          replace BB := Lib.hid (BB.out.off4 (c := w.heap.size + 1 + 1) (.int .i64 0) (.int .i64 0) (.slice none 0 0) (.slice none 0 0) (by first | omega | (simp; done) | (simp; omega)))
          replace X := Lib.hid (X.out.off4 (c := w.heap.size + 1 + 1) (.int .i64 0) (.int .i64 0) (.slice none 0 0) (.slice none 0 0) (by first | omega | (simp; done) | (simp; omega)))
          replace R := Lib.hid (R.out.put4 (.int .i64 0) (.int .i64 0) (.slice none 0 0) (.slice none 0 0))
          replace HB := Lib.hid (HB.out.set4 (c := (w.heap.size + 1 + 1)) (.int .i64 0) (.int .i64 0) (.slice none 0 0) (.slice none 0 0) (HOFF.out _ (by omega)))
          replace E := Lib.hid (ext_set4 E.out (w.heap.size + 1 + 1) (.int .i64 0) (.int .i64 0) (.slice none 0 0) (.slice none 0 0) (by first | exact Nat.le_refl _ | omega | (simp; done) | (simp; omega)))
          unfold set4 at BB X R HB E
          replace E := Lib.hid (ext_alloc E.out (.cells #[.int .i64 y.no, .int .i64 y.f, .int .i64 y.t, .int .i64 y.m, .int .i64 y.r] 26))
          go_wp2_with fail
          refine bodyPost_ret (v := .tuple #[.agg #[.int .i64 0, .int .i64 0, .slice none 0 0, .slice none 0 0], .int .i64 480]) (by simp [results, Try.results14, go_sem, *]) rfl ?_
          exact BdR.zero HERR.out HZ.out (by decide) rfl E.out
        · have hd : decide (y = a) = true := by simpa using hya
          rw [hd] at hne
          have HERR := Lib.hid (show err = 0 by rw [HE2.out, AN.out]; exact if_pos hya)
          have HW := Lib.hid (show b.bl.heaB a = b.bl by rw [heaB_ok (by rw [HE0.out]; exact HERR.out), AN.out]; rfl)
          clear hya hd
          have x0 := X.out.c 0 _ rfl
          have x1 := X.out.c 1 _ rfl
          have x2 := X.out.c 2 _ rfl
          have x3 := X.out.c 3 _ rfl
          have x4 := X.out.c 4 _ rfl
          have xf := X.out.f
          have xl := X.out.lt
          have bb0 := BB.out.c 0 _ rfl
          have bb1 := BB.out.c 1 _ rfl
          have bb2 := BB.out.c 2 _ rfl
          have bb3 := BB.out.c 3 _ rfl
          have bbf := BB.out.f
          have bbl := BB.out.lt
          have r0 := R.out.c 0 _ rfl
          have r1 := R.out.c 1 _ rfl
          have r2 := R.out.c 2 _ rfl
          have r3 := R.out.c 3 _ rfl
          have rf := R.out.f
          have rl := R.out.lt
          replace BB := Lib.hid (BB.out.off4 (c := w.heap.size + 1 + 1) (.int .i64 b.own) (.int .i64 b.ot) (.slice b.ag.A b.ag.l.length b.ag.c) (.slice b.op.A b.op.l.length b.op.c) (by first | omega | (simp; done) | (simp; omega)))
          replace X := Lib.hid (X.out.off4 (c := w.heap.size + 1 + 1) (.int .i64 b.own) (.int .i64 b.ot) (.slice b.ag.A b.ag.l.length b.ag.c) (.slice b.op.A b.op.l.length b.op.c) (by first | omega | (simp; done) | (simp; omega)))
          replace R := Lib.hid (R.out.put4 (.int .i64 b.own) (.int .i64 b.ot) (.slice b.ag.A b.ag.l.length b.ag.c) (.slice b.op.A b.op.l.length b.op.c))
          replace HB := Lib.hid (HB.out.set4 (c := (w.heap.size + 1 + 1)) (.int .i64 b.own) (.int .i64 b.ot) (.slice b.ag.A b.ag.l.length b.ag.c) (.slice b.op.A b.op.l.length b.op.c) (HOFF.out _ (by omega)))
          replace E := Lib.hid (ext_set4 E.out (w.heap.size + 1 + 1) (.int .i64 b.own) (.int .i64 b.ot) (.slice b.ag.A b.ag.l.length b.ag.c) (.slice b.op.A b.op.l.length b.op.c) (by first | exact Nat.le_refl _ | omega | (simp; done) | (simp; omega)))
          unfold set4 at BB X R HB E
          replace E := Lib.hid (ext_alloc E.out (.cells #[.int .i64 y.no, .int .i64 y.f, .int .i64 y.t, .int .i64 y.m, .int .i64 y.r] 26))
          replace HB := Lib.hid (HB.out.alloc (.cells #[.int .i64 y.no, .int .i64 y.f, .int .i64 y.t, .int .i64 y.m, .int .i64 y.r] 26))
          go_wp2_with fail
          refine bodyPost_ret (v := .tuple #[b.v, .int .i64 0]) (by simp [results, Try.results14, go_sem, *]) rfl ?_
          rw [HW.out, HERR.out]
          exact ⟨b, rfl, rfl, HB.out, E.out, fun c _ h => h⟩
    · obtain rfl := HK1.out (by decide)
      obtain rfl := HK2.out (by decide)
      have HERR := Lib.hid (show err = 0 by rw [HE2.out, HAN.out]; rfl)
      have HW := Lib.hid (show b.bl.heaB a = ⟨b.own, b.ot, b.ag.l, putL b.op.l a⟩ by rw [heaB_ok (by rw [HE0.out]; exact HERR.out), HAN.out]; rfl)
      have c0 := BB.out.c 3 _ rfl
      have c1 := X.out.c 0 _ rfl
      have c2 := X.out.c 1 _ rfl
      have c3 := X.out.c 2 _ rfl
      have c4 := X.out.c 3 _ rfl
      have c5 := X.out.c 4 _ rfl
      go_wp2_with fail
      clear c0 c1 c2 c3 c4 c5
      refine (put_at (a := a) rfl HB.out.op (putOk_op HV.out HLL.out.2 HFT.out)).mono ?_
      rintro e v9 ⟨A3, c3, rfl, hO3, B⟩
      have HO3 := Lib.hid (hO3.low (base' := w.heap.size + 3) (by have := R.out.lt; omega))
      clear hO3
      replace BB := Lib.hid (BB.out.ext B)
      replace X := Lib.hid (X.out.ext B)
      replace R := Lib.hid (R.out.ext B)
      replace HB := Lib.hid (HB.out.ext B)
      replace E := Lib.hid (ext_trans E.out B)
      clear B
      have SP := Lib.hid (HO3.out.slc agI.hl agI.hz)
      obtain ⟨N, hN⟩ : ∃ N, (putL b.op.l a).length = N := ⟨_, rfl⟩
      have HNL := Lib.hid hN
      rw [hN] at HO3 ⊢
      clear hN
      have bb0 := BB.out.c 0 _ rfl
      have bb1 := BB.out.c 1 _ rfl
      have bb2 := BB.out.c 2 _ rfl
      have bb3 := BB.out.c 3 _ rfl
      have bbf := BB.out.f
      have bbl := BB.out.lt
      have r0 := R.out.c 0 _ rfl
      have r1 := R.out.c 1 _ rfl
      have r2 := R.out.c 2 _ rfl
      have r3 := R.out.c 3 _ rfl
      have rf := R.out.f
      have rl := R.out.lt
      replace BB := Lib.hid (show Blk _ (w.heap.size) [.int .i64 b.own, .int .i64 b.ot, .slice b.ag.A b.ag.l.length b.ag.c, .slice A3 N c3] from BB.out.set (j := 3) (by simp) (.slice A3 N c3))
      replace X := Lib.hid (X.out.other (p := ⟨w.heap.size, 3, none⟩) (.slice A3 N c3) (by first | omega | (simp; done) | (simp; omega)))
      replace R := Lib.hid (R.out.other (p := ⟨w.heap.size, 3, none⟩) (.slice A3 N c3) (by first | omega | (simp; done) | (simp; omega)))
      replace HB := Lib.hid (HB.out.set (p := ⟨w.heap.size, 3, none⟩) (.slice A3 N c3) (HOFF.out _ (by first | exact Nat.le_refl _ | (simp; done) | (simp; omega))))
      replace E := Lib.hid (ext_set E.out ⟨w.heap.size, 3, none⟩ (.slice A3 N c3) (by first | exact Nat.le_refl _ | omega | (simp; done) | (simp; omega)))
      replace SP := Lib.hid (SP.out.far (p := ⟨w.heap.size, 3, none⟩) (v := (.slice A3 N c3)) (own_off HO3.out (by simp)))
      replace BB := Lib.hid (BB.out.off4 (c := w.heap.size + 1 + 1) (.int .i64 b.own) (.int .i64 b.ot) (.slice b.ag.A b.ag.l.length b.ag.c) (.slice A3 N c3) (by first | omega | (simp; done) | (simp; omega)))
      replace X := Lib.hid (X.out.off4 (c := w.heap.size + 1 + 1) (.int .i64 b.own) (.int .i64 b.ot) (.slice b.ag.A b.ag.l.length b.ag.c) (.slice A3 N c3) (by first | omega | (simp; done) | (simp; omega)))
      replace R := Lib.hid (R.out.put4 (.int .i64 b.own) (.int .i64 b.ot) (.slice b.ag.A b.ag.l.length b.ag.c) (.slice A3 N c3))
      replace HB := Lib.hid (HB.out.set4 (c := (w.heap.size + 1 + 1)) (.int .i64 b.own) (.int .i64 b.ot) (.slice b.ag.A b.ag.l.length b.ag.c) (.slice A3 N c3) (HOFF.out _ (by omega)))
      replace E := Lib.hid (ext_set4 E.out (w.heap.size + 1 + 1) (.int .i64 b.own) (.int .i64 b.ot) (.slice b.ag.A b.ag.l.length b.ag.c) (.slice A3 N c3) (by first | exact Nat.le_refl _ | omega | (simp; done) | (simp; omega)))
      replace SP := Lib.hid (SP.out.far4 (b := (w.heap.size + 1 + 1)) (.int .i64 b.own) (.int .i64 b.ot) (.slice b.ag.A b.ag.l.length b.ag.c) (.slice A3 N c3) (own_off HO3.out (by simp)))
      unfold set4 at BB X R HB E SP
      go_wp2_with fail
      refine bodyPost_ret (v := .tuple #[Bd.v ⟨b.own, b.ot, b.ag, ⟨A3, c3, putL b.op.l a⟩⟩, .int .i64 0]) (by simp [results, Try.results14, go_sem, *, HNL.out]) rfl ?_
      rw [HW.out, HERR.out]
      have k3 := own_cap HO3.out
      exact ⟨⟨b.own, b.ot, b.ag, ⟨A3, c3, putL b.op.l a⟩⟩, rfl, rfl, ⟨HB.out.ag, SP.out, HB.out.agl, HB.out.agc, k3.1, k3.2⟩, E.out, fun c hc hf => ⟨hf.1, own_off HO3.out (by omega)⟩⟩
end Go.Proofs.Ytmnbeikhjbjpiaa
