/- BoundaryValid, walked. -/
import Derived.Test.YtmnbeikhjbjpiaaQ0
import Derived.Test.YtmnbeikhjbjpiaaI
import Derived.Deep.Cut
set_option linter.unusedSimpArgs false
set_option linter.unusedVariables false
namespace Go.Proofs.Ytmnbeikhjbjpiaa
open Go.RowKit
/-- An error and a boundary: what the statement's loop goes through. -/
structure St where
  e : Int
  b : Bd
def St.cells (x : St) : List Value := .int .i64 x.e :: Bd.cells x.b
def AllOk (w : World) (l : List St) : Prop := ∀ x ∈ l, BOk w x.b
theorem AllOk.ext {w w' : World} {l : List St} (h : AllOk w l) (hb : Below w.heap.size w w') : AllOk w' l := fun x hx => (h x hx).ext hb
theorem AllOk.alloc {w : World} {l : List St} (h : AllOk w l) (o : Obj) : AllOk (w.alloc o) l := fun x hx => (h x hx).alloc o
theorem Slc.pre {w : World} {A : Option Addr} {l r : List Ag} (h : Slc w Ag.cells 5 A (l ++ r)) : Slc w Ag.cells 5 A l := fun i x hx => h i x (by rw [List.getElem?_append_left (by have := List.getElem?_eq_some_iff.1 hx; exact this.1)]; exact hx)
theorem neqN {x y : Int} (h : x = y) (w : World) : (binOp .neq 3 (.int .i64 x) (.int .i64 y)).run Try.prog w = .ok (.bool false) w := by subst h; go_simp; all_goals simp
theorem has_mem {l : List Ag} {x : Ag} (h : x ∈ l) : l.any (fun y => decide (y = x)) = true := by
  rw [List.any_eq_true]; exact ⟨x, h, by simp⟩
/-- What the statement asks of each boundary that came back. -/
def Good (b : Bd) (l : List St) : Prop := ∀ x ∈ l, x.e = 0 → x.b.bl.ok = true ∧ x.b.own = b.own ∧ x.b.ot = b.ot ∧ (∀ y ∈ b.ag.l, y ∈ x.b.ag.l) ∧ LenS 31 x.b.bl
theorem good_of {b m : Bd} {X : Bl} {a : Ag} (hm : m.bl = X) (h : Grew b.bl X a) (hl : LenS 31 X) : m.bl.ok = true ∧ m.own = b.own ∧ m.ot = b.ot ∧ (∀ y ∈ b.ag.l, y ∈ m.ag.l) ∧ LenS 31 m.bl := by
  subst hm
  exact ⟨h.ok, h.own, h.ot, h.ag, hl⟩
set_option maxHeartbeats 6400000 in
set_option maxRecDepth 100000 in
theorem law7 (b : Bd) (no : Int) (a : Ag) (w : World) (hb : BOk w b) : Calls Try.prog 7 #[b.v, .int .i64 no, a.v] w (Tru w) := by
  obtain ⟨fw, hfw⟩ : ∃ v, fewB b.bl = v := ⟨_, rfl⟩
  have HF := Lib.hid hfw
  clear hfw
  obtain ⟨ok, hok⟩ : ∃ v, b.bl.ok = v := ⟨_, rfl⟩
  have HV := Lib.hid hok
  clear hok
  cases fw
  · have E := Lib.hid (ext_refl w)
    have HB := Lib.hid (hb)
    clear hb
    replace E := Lib.hid (ext_alloc E.out (.cells #[.int .i64 b.own, .int .i64 b.ot, .slice b.ag.A b.ag.l.length b.ag.c, .slice b.op.A b.op.l.length b.op.c] 24))
    replace HB := Lib.hid (HB.out.alloc (.cells #[.int .i64 b.own, .int .i64 b.ot, .slice b.ag.A b.ag.l.length b.ag.c, .slice b.op.A b.op.l.length b.op.c] 24))
    have BB := Lib.hid (Blk.newH w [.int .i64 b.own, .int .i64 b.ot, .slice b.ag.A b.ag.l.length b.ag.c, .slice b.op.A b.op.l.length b.op.c] 24 (w.heap.size) (by first | rfl | simp))
    replace E := Lib.hid (ext_alloc E.out (.cells #[.int .i64 a.no, .int .i64 a.f, .int .i64 a.t, .int .i64 a.m, .int .i64 a.r] 26))
    replace HB := Lib.hid (HB.out.alloc (.cells #[.int .i64 a.no, .int .i64 a.f, .int .i64 a.t, .int .i64 a.m, .int .i64 a.r] 26))
    replace BB := Lib.hid (BB.out.alloc (.cells #[.int .i64 a.no, .int .i64 a.f, .int .i64 a.t, .int .i64 a.m, .int .i64 a.r] 26))
    have X := Lib.hid (Blk.newH (w.alloc (.cells #[.int .i64 b.own, .int .i64 b.ot, .slice b.ag.A b.ag.l.length b.ag.c, .slice b.op.A b.op.l.length b.op.c] 24)) [.int .i64 a.no, .int .i64 a.f, .int .i64 a.t, .int .i64 a.m, .int .i64 a.r] 26 (w.heap.size + 1) (by first | rfl | simp))
    go_enter Try.func7, Try.ntmps7
    go_wp2_with fail
    refine (sane_any _).mono ?_
    rintro e v1 ⟨rfl, B⟩
    replace E := Lib.hid (ext_trans E.out B)
    replace HB := Lib.hid (HB.out.ext B)
    replace BB := Lib.hid (BB.out.ext B)
    replace X := Lib.hid (X.out.ext B)
    clear B
    have c0 := BB.out.c 0 _ rfl
    have c1 := BB.out.c 1 _ rfl
    have c2 := BB.out.c 2 _ rfl
    have c3 := BB.out.c 3 _ rfl
    go_wp2_with fail
    refine (few_at false HF.out).mono ?_
    rintro e v2 ⟨rfl, B⟩
    clear c0 c1 c2 c3
    replace E := Lib.hid (ext_trans E.out B)
    replace HB := Lib.hid (HB.out.ext B)
    replace BB := Lib.hid (BB.out.ext B)
    replace X := Lib.hid (X.out.ext B)
    clear B
    go_wp2_with fail
    go_ret
    exact ⟨rfl, E.out⟩
  cases ok
  · have E := Lib.hid (ext_refl w)
    have HB := Lib.hid (hb)
    clear hb
    replace E := Lib.hid (ext_alloc E.out (.cells #[.int .i64 b.own, .int .i64 b.ot, .slice b.ag.A b.ag.l.length b.ag.c, .slice b.op.A b.op.l.length b.op.c] 24))
    replace HB := Lib.hid (HB.out.alloc (.cells #[.int .i64 b.own, .int .i64 b.ot, .slice b.ag.A b.ag.l.length b.ag.c, .slice b.op.A b.op.l.length b.op.c] 24))
    have BB := Lib.hid (Blk.newH w [.int .i64 b.own, .int .i64 b.ot, .slice b.ag.A b.ag.l.length b.ag.c, .slice b.op.A b.op.l.length b.op.c] 24 (w.heap.size) (by first | rfl | simp))
    replace E := Lib.hid (ext_alloc E.out (.cells #[.int .i64 a.no, .int .i64 a.f, .int .i64 a.t, .int .i64 a.m, .int .i64 a.r] 26))
    replace HB := Lib.hid (HB.out.alloc (.cells #[.int .i64 a.no, .int .i64 a.f, .int .i64 a.t, .int .i64 a.m, .int .i64 a.r] 26))
    replace BB := Lib.hid (BB.out.alloc (.cells #[.int .i64 a.no, .int .i64 a.f, .int .i64 a.t, .int .i64 a.m, .int .i64 a.r] 26))
    have X := Lib.hid (Blk.newH (w.alloc (.cells #[.int .i64 b.own, .int .i64 b.ot, .slice b.ag.A b.ag.l.length b.ag.c, .slice b.op.A b.op.l.length b.op.c] 24)) [.int .i64 a.no, .int .i64 a.f, .int .i64 a.t, .int .i64 a.m, .int .i64 a.r] 26 (w.heap.size + 1) (by first | rfl | simp))
    go_enter Try.func7, Try.ntmps7
    go_wp2_with fail
    refine (sane_any _).mono ?_
    rintro e v1 ⟨rfl, B⟩
    replace E := Lib.hid (ext_trans E.out B)
    replace HB := Lib.hid (HB.out.ext B)
    replace BB := Lib.hid (BB.out.ext B)
    replace X := Lib.hid (X.out.ext B)
    clear B
    have c0 := BB.out.c 0 _ rfl
    have c1 := BB.out.c 1 _ rfl
    have c2 := BB.out.c 2 _ rfl
    have c3 := BB.out.c 3 _ rfl
    go_wp2_with fail
    refine (few_at true HF.out).mono ?_
    rintro e v2 ⟨rfl, B⟩
    clear c0 c1 c2 c3
    replace E := Lib.hid (ext_trans E.out B)
    replace HB := Lib.hid (HB.out.ext B)
    replace BB := Lib.hid (BB.out.ext B)
    replace X := Lib.hid (X.out.ext B)
    clear B
    have c0 := BB.out.c 0 _ rfl
    have c1 := BB.out.c 1 _ rfl
    have c2 := BB.out.c 2 _ rfl
    have c3 := BB.out.c 3 _ rfl
    go_wp2_with fail
    refine (check_at 480 (by unfold Bl.chk; rw [HV.out]; rfl) HB.out).mono ?_
    rintro e v3 ⟨rfl, B⟩
    clear c0 c1 c2 c3
    replace E := Lib.hid (ext_trans E.out B)
    replace HB := Lib.hid (HB.out.ext B)
    replace BB := Lib.hid (BB.out.ext B)
    replace X := Lib.hid (X.out.ext B)
    clear B
    go_wp2_with fail
    go_ret
    exact ⟨rfl, E.out⟩
  have E := Lib.hid (ext_refl w)
  have HB := Lib.hid (hb)
  clear hb
  replace E := Lib.hid (ext_alloc E.out (.cells #[.int .i64 b.own, .int .i64 b.ot, .slice b.ag.A b.ag.l.length b.ag.c, .slice b.op.A b.op.l.length b.op.c] 24))
  replace HB := Lib.hid (HB.out.alloc (.cells #[.int .i64 b.own, .int .i64 b.ot, .slice b.ag.A b.ag.l.length b.ag.c, .slice b.op.A b.op.l.length b.op.c] 24))
  have BB := Lib.hid (Blk.newH w [.int .i64 b.own, .int .i64 b.ot, .slice b.ag.A b.ag.l.length b.ag.c, .slice b.op.A b.op.l.length b.op.c] 24 (w.heap.size) (by first | rfl | simp))
  replace E := Lib.hid (ext_alloc E.out (.cells #[.int .i64 a.no, .int .i64 a.f, .int .i64 a.t, .int .i64 a.m, .int .i64 a.r] 26))
  replace HB := Lib.hid (HB.out.alloc (.cells #[.int .i64 a.no, .int .i64 a.f, .int .i64 a.t, .int .i64 a.m, .int .i64 a.r] 26))
  replace BB := Lib.hid (BB.out.alloc (.cells #[.int .i64 a.no, .int .i64 a.f, .int .i64 a.t, .int .i64 a.m, .int .i64 a.r] 26))
  have X := Lib.hid (Blk.newH (w.alloc (.cells #[.int .i64 b.own, .int .i64 b.ot, .slice b.ag.A b.ag.l.length b.ag.c, .slice b.op.A b.op.l.length b.op.c] 24)) [.int .i64 a.no, .int .i64 a.f, .int .i64 a.t, .int .i64 a.m, .int .i64 a.r] 26 (w.heap.size + 1) (by first | rfl | simp))
  obtain ⟨X0, hX0⟩ : ∃ x, b.bl.offB a.f a.t a.m a.r = x := ⟨_, rfl⟩
  have HX0 := Lib.hid hX0
  clear hX0
  obtain ⟨A0, hA0⟩ : ∃ x, b.bl.offX a.f a.t a.m a.r = x := ⟨_, rfl⟩
  have HA0 := Lib.hid hA0
  clear hA0
  obtain ⟨E0, hE0⟩ : ∃ x, b.bl.offE a.f a.t a.m a.r = x := ⟨_, rfl⟩
  have HE0 := Lib.hid hE0
  clear hE0
  obtain ⟨X1, hX1⟩ : ∃ x, b.bl.heaB a = x := ⟨_, rfl⟩
  have HX1 := Lib.hid hX1
  clear hX1
  obtain ⟨E1, hE1⟩ : ∃ x, b.bl.heaE a = x := ⟨_, rfl⟩
  have HE1 := Lib.hid hE1
  clear hE1
  obtain ⟨X2, hX2⟩ : ∃ x, b.bl.accB no = x := ⟨_, rfl⟩
  have HX2 := Lib.hid hX2
  clear hX2
  obtain ⟨A2, hA2⟩ : ∃ x, b.bl.accX no = x := ⟨_, rfl⟩
  have HA2 := Lib.hid hA2
  clear hA2
  obtain ⟨E2, hE2⟩ : ∃ x, b.bl.accE no = x := ⟨_, rfl⟩
  have HE2 := Lib.hid hE2
  clear hE2
  obtain ⟨X3, hX3⟩ : ∃ x, b.bl.conB a = x := ⟨_, rfl⟩
  have HX3 := Lib.hid hX3
  clear hX3
  obtain ⟨E3, hE3⟩ : ∃ x, b.bl.conE a = x := ⟨_, rfl⟩
  have HE3 := Lib.hid hE3
  clear hE3
  have HLS := Lib.hid (LenS.few HF.out)
  have HLN := Lib.hid (HLS.out.lens (by decide))
  have hfl : b.ag.l.length ≤ 30 := HLS.out.1
  have L0 := Lib.hid (show LenS 31 X0 by rw [← HX0.out]; exact HLS.out.offB _ _ _ _)
  have L1 := Lib.hid (show LenS 31 X1 by rw [← HX1.out]; exact HLS.out.heaB _)
  have L2 := Lib.hid (show LenS 31 X2 by rw [← HX2.out]; exact HLS.out.accB _)
  have L3 := Lib.hid (show LenS 31 X3 by rw [← HX3.out]; exact HLS.out.conB _)
  have G0 := Lib.hid (show E0 = 0 → Grew b.bl X0 A0 ∧ X0.ag = b.ag.l ∧ X0.op = b.op.l ++ [A0] from fun h => by
    obtain ⟨g, s, hx, hp⟩ := off_grew (HE0.out.trans h)
    rw [hx] at g
    rw [← HX0.out, ← HA0.out, hx]
    exact ⟨g, s, hp⟩)
  have G1 := Lib.hid (show E1 = 0 → Grew b.bl X1 a ∧ X1.ag = b.ag.l ∧ X1.heaE a = 0 ∧ X1.heaB a = X1 from fun h => by
    have h0 := HE1.out.trans h
    obtain ⟨g, s⟩ := hea_grew h0
    obtain ⟨r1, r2⟩ := hea_again h0
    rw [← HX1.out]
    exact ⟨g, s, r1, r2⟩)
  have G2 := Lib.hid (show E2 = 0 → Grew b.bl X2 A2 ∧ A2 ∈ X2.ag ∧ A2.no = no ∧ X2.accE no = 0 ∧ X2.accB no = X2 ∧ X2.accX no = A2 from fun h => by
    have h0 := HE2.out.trans h
    obtain ⟨g, s, hn, _⟩ := acc_grew h0
    obtain ⟨r1, r2, r3⟩ := acc_again h0
    rw [← HX2.out, ← HA2.out]
    exact ⟨g, (s _).2 (.inr rfl), hn, r1, r2, r3⟩)
  have G3 := Lib.hid (show E3 = 0 → Grew b.bl X3 a ∧ a ∈ X3.ag ∧ X3.conE a = 0 ∧ X3.conB a = X3 from fun h => by
    have h0 := HE3.out.trans h
    obtain ⟨g, s⟩ := con_grew h0
    obtain ⟨r1, r2⟩ := con_again h0
    rw [← HX3.out]
    exact ⟨g, (s _).2 (.inr rfl), r1, r2⟩)
  go_enter Try.func7, Try.ntmps7
  go_wp2_with fail
  refine (sane_any _).mono ?_
  rintro e v1 ⟨rfl, B⟩
  replace E := Lib.hid (ext_trans E.out B)
  replace HB := Lib.hid (HB.out.ext B)
  replace BB := Lib.hid (BB.out.ext B)
  replace X := Lib.hid (X.out.ext B)
  clear B
  have c0 := BB.out.c 0 _ rfl
  have c1 := BB.out.c 1 _ rfl
  have c2 := BB.out.c 2 _ rfl
  have c3 := BB.out.c 3 _ rfl
  go_wp2_with fail
  refine (few_at true HF.out).mono ?_
  rintro e v2 ⟨rfl, B⟩
  clear c0 c1 c2 c3
  replace E := Lib.hid (ext_trans E.out B)
  replace HB := Lib.hid (HB.out.ext B)
  replace BB := Lib.hid (BB.out.ext B)
  replace X := Lib.hid (X.out.ext B)
  clear B
  have c0 := BB.out.c 0 _ rfl
  have c1 := BB.out.c 1 _ rfl
  have c2 := BB.out.c 2 _ rfl
  have c3 := BB.out.c 3 _ rfl
  go_wp2_with fail
  refine (check_at 0 (by unfold Bl.chk; rw [HV.out]; rfl) HB.out).mono ?_
  rintro e v3 ⟨rfl, B⟩
  clear c0 c1 c2 c3
  replace E := Lib.hid (ext_trans E.out B)
  replace HB := Lib.hid (HB.out.ext B)
  replace BB := Lib.hid (BB.out.ext B)
  replace X := Lib.hid (X.out.ext B)
  clear B
  have c0 := BB.out.c 0 _ rfl
  have c1 := BB.out.c 1 _ rfl
  have c2 := BB.out.c 2 _ rfl
  have c3 := BB.out.c 3 _ rfl
  have c4 := X.out.c 1 _ rfl
  have c5 := X.out.c 2 _ rfl
  have c6 := X.out.c 3 _ rfl
  have c7 := X.out.c 4 _ rfl
  go_wp2_with fail
  refine (offer_at (b := b) (f := a.f) (t := a.t) (m := a.m) (r := a.r) X0 A0 E0 HX0.out HA0.out HE0.out HB.out HLN.out).mono ?_
  rintro e v4 ⟨m1, rfl, hm, hk, B, -⟩
  clear c0 c1 c2 c3 c4 c5 c6 c7
  replace E := Lib.hid (ext_trans E.out B)
  replace HB := Lib.hid (HB.out.ext B)
  replace BB := Lib.hid (BB.out.ext B)
  replace X := Lib.hid (X.out.ext B)
  clear B
  have Hm1 := Lib.hid hm
  clear hm
  have Nm1 := Lib.hid hk
  clear hk
  replace E := Lib.hid (ext_alloc E.out (.cells #[.int .i64 m1.own, .int .i64 m1.ot, .slice m1.ag.A m1.ag.l.length m1.ag.c, .slice m1.op.A m1.op.l.length m1.op.c] 24))
  replace HB := Lib.hid (HB.out.alloc (.cells #[.int .i64 m1.own, .int .i64 m1.ot, .slice m1.ag.A m1.ag.l.length m1.ag.c, .slice m1.op.A m1.op.l.length m1.op.c] 24))
  replace BB := Lib.hid (BB.out.alloc (.cells #[.int .i64 m1.own, .int .i64 m1.ot, .slice m1.ag.A m1.ag.l.length m1.ag.c, .slice m1.op.A m1.op.l.length m1.op.c] 24))
  replace X := Lib.hid (X.out.alloc (.cells #[.int .i64 m1.own, .int .i64 m1.ot, .slice m1.ag.A m1.ag.l.length m1.ag.c, .slice m1.op.A m1.op.l.length m1.op.c] 24))
  replace Nm1 := Lib.hid (Nm1.out.alloc (.cells #[.int .i64 m1.own, .int .i64 m1.ot, .slice m1.ag.A m1.ag.l.length m1.ag.c, .slice m1.op.A m1.op.l.length m1.op.c] 24))
  have X1b := Lib.hid (Blk.newH v4 [.int .i64 m1.own, .int .i64 m1.ot, .slice m1.ag.A m1.ag.l.length m1.ag.c, .slice m1.op.A m1.op.l.length m1.op.c] 24 (v4.heap.size) (by first | rfl | simp))
  replace E := Lib.hid (ext_alloc E.out (.cells #[.int .i64 A0.no, .int .i64 A0.f, .int .i64 A0.t, .int .i64 A0.m, .int .i64 A0.r] 26))
  replace HB := Lib.hid (HB.out.alloc (.cells #[.int .i64 A0.no, .int .i64 A0.f, .int .i64 A0.t, .int .i64 A0.m, .int .i64 A0.r] 26))
  replace BB := Lib.hid (BB.out.alloc (.cells #[.int .i64 A0.no, .int .i64 A0.f, .int .i64 A0.t, .int .i64 A0.m, .int .i64 A0.r] 26))
  replace X := Lib.hid (X.out.alloc (.cells #[.int .i64 A0.no, .int .i64 A0.f, .int .i64 A0.t, .int .i64 A0.m, .int .i64 A0.r] 26))
  replace Nm1 := Lib.hid (Nm1.out.alloc (.cells #[.int .i64 A0.no, .int .i64 A0.f, .int .i64 A0.t, .int .i64 A0.m, .int .i64 A0.r] 26))
  replace X1b := Lib.hid (X1b.out.alloc (.cells #[.int .i64 A0.no, .int .i64 A0.f, .int .i64 A0.t, .int .i64 A0.m, .int .i64 A0.r] 26))
  have Y1 := Lib.hid (Blk.newH (v4.alloc (.cells #[.int .i64 m1.own, .int .i64 m1.ot, .slice m1.ag.A m1.ag.l.length m1.ag.c, .slice m1.op.A m1.op.l.length m1.op.c] 24)) [.int .i64 A0.no, .int .i64 A0.f, .int .i64 A0.t, .int .i64 A0.m, .int .i64 A0.r] 26 (v4.heap.size + 1) (by first | rfl | simp))
  have c0 := BB.out.c 0 _ rfl
  have c1 := BB.out.c 1 _ rfl
  have c2 := BB.out.c 2 _ rfl
  have c3 := BB.out.c 3 _ rfl
  have c4 := X.out.c 0 _ rfl
  have c5 := X.out.c 1 _ rfl
  have c6 := X.out.c 2 _ rfl
  have c7 := X.out.c 3 _ rfl
  have c8 := X.out.c 4 _ rfl
  go_wp2_with fail
  refine (hear_at (b := b) (a := a) X1 E1 HX1.out HE1.out HB.out HLN.out).mono ?_
  rintro e v5 ⟨m3, rfl, hm, hk, B, -⟩
  clear c0 c1 c2 c3 c4 c5 c6 c7 c8
  replace E := Lib.hid (ext_trans E.out B)
  replace HB := Lib.hid (HB.out.ext B)
  replace BB := Lib.hid (BB.out.ext B)
  replace X := Lib.hid (X.out.ext B)
  replace Nm1 := Lib.hid (Nm1.out.ext B)
  replace X1b := Lib.hid (X1b.out.ext B)
  replace Y1 := Lib.hid (Y1.out.ext B)
  clear B
  have Hm3 := Lib.hid hm
  clear hm
  have Nm3 := Lib.hid hk
  clear hk
  replace E := Lib.hid (ext_alloc E.out (.cells #[.int .i64 m3.own, .int .i64 m3.ot, .slice m3.ag.A m3.ag.l.length m3.ag.c, .slice m3.op.A m3.op.l.length m3.op.c] 24))
  replace HB := Lib.hid (HB.out.alloc (.cells #[.int .i64 m3.own, .int .i64 m3.ot, .slice m3.ag.A m3.ag.l.length m3.ag.c, .slice m3.op.A m3.op.l.length m3.op.c] 24))
  replace BB := Lib.hid (BB.out.alloc (.cells #[.int .i64 m3.own, .int .i64 m3.ot, .slice m3.ag.A m3.ag.l.length m3.ag.c, .slice m3.op.A m3.op.l.length m3.op.c] 24))
  replace X := Lib.hid (X.out.alloc (.cells #[.int .i64 m3.own, .int .i64 m3.ot, .slice m3.ag.A m3.ag.l.length m3.ag.c, .slice m3.op.A m3.op.l.length m3.op.c] 24))
  replace Nm1 := Lib.hid (Nm1.out.alloc (.cells #[.int .i64 m3.own, .int .i64 m3.ot, .slice m3.ag.A m3.ag.l.length m3.ag.c, .slice m3.op.A m3.op.l.length m3.op.c] 24))
  replace X1b := Lib.hid (X1b.out.alloc (.cells #[.int .i64 m3.own, .int .i64 m3.ot, .slice m3.ag.A m3.ag.l.length m3.ag.c, .slice m3.op.A m3.op.l.length m3.op.c] 24))
  replace Y1 := Lib.hid (Y1.out.alloc (.cells #[.int .i64 m3.own, .int .i64 m3.ot, .slice m3.ag.A m3.ag.l.length m3.ag.c, .slice m3.op.A m3.op.l.length m3.op.c] 24))
  replace Nm3 := Lib.hid (Nm3.out.alloc (.cells #[.int .i64 m3.own, .int .i64 m3.ot, .slice m3.ag.A m3.ag.l.length m3.ag.c, .slice m3.op.A m3.op.l.length m3.op.c] 24))
  have X3b := Lib.hid (Blk.newH v5 [.int .i64 m3.own, .int .i64 m3.ot, .slice m3.ag.A m3.ag.l.length m3.ag.c, .slice m3.op.A m3.op.l.length m3.op.c] 24 (v5.heap.size) (by first | rfl | simp))
  have c0 := BB.out.c 0 _ rfl
  have c1 := BB.out.c 1 _ rfl
  have c2 := BB.out.c 2 _ rfl
  have c3 := BB.out.c 3 _ rfl
  go_wp2_with fail
  refine (accept_at (b := b) (no := no) X2 A2 E2 HX2.out HA2.out HE2.out HB.out HLN.out).mono ?_
  rintro e v6 ⟨m5, rfl, hm, hk, B, -⟩
  clear c0 c1 c2 c3
  replace E := Lib.hid (ext_trans E.out B)
  replace HB := Lib.hid (HB.out.ext B)
  replace BB := Lib.hid (BB.out.ext B)
  replace X := Lib.hid (X.out.ext B)
  replace Nm1 := Lib.hid (Nm1.out.ext B)
  replace X1b := Lib.hid (X1b.out.ext B)
  replace Y1 := Lib.hid (Y1.out.ext B)
  replace Nm3 := Lib.hid (Nm3.out.ext B)
  replace X3b := Lib.hid (X3b.out.ext B)
  clear B
  have Hm5 := Lib.hid hm
  clear hm
  have Nm5 := Lib.hid hk
  clear hk
  replace E := Lib.hid (ext_alloc E.out (.cells #[.int .i64 m5.own, .int .i64 m5.ot, .slice m5.ag.A m5.ag.l.length m5.ag.c, .slice m5.op.A m5.op.l.length m5.op.c] 24))
  replace HB := Lib.hid (HB.out.alloc (.cells #[.int .i64 m5.own, .int .i64 m5.ot, .slice m5.ag.A m5.ag.l.length m5.ag.c, .slice m5.op.A m5.op.l.length m5.op.c] 24))
  replace BB := Lib.hid (BB.out.alloc (.cells #[.int .i64 m5.own, .int .i64 m5.ot, .slice m5.ag.A m5.ag.l.length m5.ag.c, .slice m5.op.A m5.op.l.length m5.op.c] 24))
  replace X := Lib.hid (X.out.alloc (.cells #[.int .i64 m5.own, .int .i64 m5.ot, .slice m5.ag.A m5.ag.l.length m5.ag.c, .slice m5.op.A m5.op.l.length m5.op.c] 24))
  replace Nm1 := Lib.hid (Nm1.out.alloc (.cells #[.int .i64 m5.own, .int .i64 m5.ot, .slice m5.ag.A m5.ag.l.length m5.ag.c, .slice m5.op.A m5.op.l.length m5.op.c] 24))
  replace X1b := Lib.hid (X1b.out.alloc (.cells #[.int .i64 m5.own, .int .i64 m5.ot, .slice m5.ag.A m5.ag.l.length m5.ag.c, .slice m5.op.A m5.op.l.length m5.op.c] 24))
  replace Y1 := Lib.hid (Y1.out.alloc (.cells #[.int .i64 m5.own, .int .i64 m5.ot, .slice m5.ag.A m5.ag.l.length m5.ag.c, .slice m5.op.A m5.op.l.length m5.op.c] 24))
  replace Nm3 := Lib.hid (Nm3.out.alloc (.cells #[.int .i64 m5.own, .int .i64 m5.ot, .slice m5.ag.A m5.ag.l.length m5.ag.c, .slice m5.op.A m5.op.l.length m5.op.c] 24))
  replace X3b := Lib.hid (X3b.out.alloc (.cells #[.int .i64 m5.own, .int .i64 m5.ot, .slice m5.ag.A m5.ag.l.length m5.ag.c, .slice m5.op.A m5.op.l.length m5.op.c] 24))
  replace Nm5 := Lib.hid (Nm5.out.alloc (.cells #[.int .i64 m5.own, .int .i64 m5.ot, .slice m5.ag.A m5.ag.l.length m5.ag.c, .slice m5.op.A m5.op.l.length m5.op.c] 24))
  have X5b := Lib.hid (Blk.newH v6 [.int .i64 m5.own, .int .i64 m5.ot, .slice m5.ag.A m5.ag.l.length m5.ag.c, .slice m5.op.A m5.op.l.length m5.op.c] 24 (v6.heap.size) (by first | rfl | simp))
  replace E := Lib.hid (ext_alloc E.out (.cells #[.int .i64 A2.no, .int .i64 A2.f, .int .i64 A2.t, .int .i64 A2.m, .int .i64 A2.r] 26))
  replace HB := Lib.hid (HB.out.alloc (.cells #[.int .i64 A2.no, .int .i64 A2.f, .int .i64 A2.t, .int .i64 A2.m, .int .i64 A2.r] 26))
  replace BB := Lib.hid (BB.out.alloc (.cells #[.int .i64 A2.no, .int .i64 A2.f, .int .i64 A2.t, .int .i64 A2.m, .int .i64 A2.r] 26))
  replace X := Lib.hid (X.out.alloc (.cells #[.int .i64 A2.no, .int .i64 A2.f, .int .i64 A2.t, .int .i64 A2.m, .int .i64 A2.r] 26))
  replace Nm1 := Lib.hid (Nm1.out.alloc (.cells #[.int .i64 A2.no, .int .i64 A2.f, .int .i64 A2.t, .int .i64 A2.m, .int .i64 A2.r] 26))
  replace X1b := Lib.hid (X1b.out.alloc (.cells #[.int .i64 A2.no, .int .i64 A2.f, .int .i64 A2.t, .int .i64 A2.m, .int .i64 A2.r] 26))
  replace Y1 := Lib.hid (Y1.out.alloc (.cells #[.int .i64 A2.no, .int .i64 A2.f, .int .i64 A2.t, .int .i64 A2.m, .int .i64 A2.r] 26))
  replace Nm3 := Lib.hid (Nm3.out.alloc (.cells #[.int .i64 A2.no, .int .i64 A2.f, .int .i64 A2.t, .int .i64 A2.m, .int .i64 A2.r] 26))
  replace X3b := Lib.hid (X3b.out.alloc (.cells #[.int .i64 A2.no, .int .i64 A2.f, .int .i64 A2.t, .int .i64 A2.m, .int .i64 A2.r] 26))
  replace Nm5 := Lib.hid (Nm5.out.alloc (.cells #[.int .i64 A2.no, .int .i64 A2.f, .int .i64 A2.t, .int .i64 A2.m, .int .i64 A2.r] 26))
  replace X5b := Lib.hid (X5b.out.alloc (.cells #[.int .i64 A2.no, .int .i64 A2.f, .int .i64 A2.t, .int .i64 A2.m, .int .i64 A2.r] 26))
  have Y5 := Lib.hid (Blk.newH (v6.alloc (.cells #[.int .i64 m5.own, .int .i64 m5.ot, .slice m5.ag.A m5.ag.l.length m5.ag.c, .slice m5.op.A m5.op.l.length m5.op.c] 24)) [.int .i64 A2.no, .int .i64 A2.f, .int .i64 A2.t, .int .i64 A2.m, .int .i64 A2.r] 26 (v6.heap.size + 1) (by first | rfl | simp))
  have c0 := BB.out.c 0 _ rfl
  have c1 := BB.out.c 1 _ rfl
  have c2 := BB.out.c 2 _ rfl
  have c3 := BB.out.c 3 _ rfl
  have c4 := X.out.c 0 _ rfl
  have c5 := X.out.c 1 _ rfl
  have c6 := X.out.c 2 _ rfl
  have c7 := X.out.c 3 _ rfl
  have c8 := X.out.c 4 _ rfl
  go_wp2_with fail
  refine (confirm_at (b := b) (a := a) X3 E3 HX3.out HE3.out HB.out HLN.out).mono ?_
  rintro e v7 ⟨m6, rfl, hm, hk, B, -⟩
  clear c0 c1 c2 c3 c4 c5 c6 c7 c8
  replace E := Lib.hid (ext_trans E.out B)
  replace HB := Lib.hid (HB.out.ext B)
  replace BB := Lib.hid (BB.out.ext B)
  replace X := Lib.hid (X.out.ext B)
  replace Nm1 := Lib.hid (Nm1.out.ext B)
  replace X1b := Lib.hid (X1b.out.ext B)
  replace Y1 := Lib.hid (Y1.out.ext B)
  replace Nm3 := Lib.hid (Nm3.out.ext B)
  replace X3b := Lib.hid (X3b.out.ext B)
  replace Nm5 := Lib.hid (Nm5.out.ext B)
  replace X5b := Lib.hid (X5b.out.ext B)
  replace Y5 := Lib.hid (Y5.out.ext B)
  clear B
  have Hm6 := Lib.hid hm
  clear hm
  have Nm6 := Lib.hid hk
  clear hk
  replace E := Lib.hid (ext_alloc E.out (.cells #[.int .i64 m6.own, .int .i64 m6.ot, .slice m6.ag.A m6.ag.l.length m6.ag.c, .slice m6.op.A m6.op.l.length m6.op.c] 24))
  replace HB := Lib.hid (HB.out.alloc (.cells #[.int .i64 m6.own, .int .i64 m6.ot, .slice m6.ag.A m6.ag.l.length m6.ag.c, .slice m6.op.A m6.op.l.length m6.op.c] 24))
  replace BB := Lib.hid (BB.out.alloc (.cells #[.int .i64 m6.own, .int .i64 m6.ot, .slice m6.ag.A m6.ag.l.length m6.ag.c, .slice m6.op.A m6.op.l.length m6.op.c] 24))
  replace X := Lib.hid (X.out.alloc (.cells #[.int .i64 m6.own, .int .i64 m6.ot, .slice m6.ag.A m6.ag.l.length m6.ag.c, .slice m6.op.A m6.op.l.length m6.op.c] 24))
  replace Nm1 := Lib.hid (Nm1.out.alloc (.cells #[.int .i64 m6.own, .int .i64 m6.ot, .slice m6.ag.A m6.ag.l.length m6.ag.c, .slice m6.op.A m6.op.l.length m6.op.c] 24))
  replace X1b := Lib.hid (X1b.out.alloc (.cells #[.int .i64 m6.own, .int .i64 m6.ot, .slice m6.ag.A m6.ag.l.length m6.ag.c, .slice m6.op.A m6.op.l.length m6.op.c] 24))
  replace Y1 := Lib.hid (Y1.out.alloc (.cells #[.int .i64 m6.own, .int .i64 m6.ot, .slice m6.ag.A m6.ag.l.length m6.ag.c, .slice m6.op.A m6.op.l.length m6.op.c] 24))
  replace Nm3 := Lib.hid (Nm3.out.alloc (.cells #[.int .i64 m6.own, .int .i64 m6.ot, .slice m6.ag.A m6.ag.l.length m6.ag.c, .slice m6.op.A m6.op.l.length m6.op.c] 24))
  replace X3b := Lib.hid (X3b.out.alloc (.cells #[.int .i64 m6.own, .int .i64 m6.ot, .slice m6.ag.A m6.ag.l.length m6.ag.c, .slice m6.op.A m6.op.l.length m6.op.c] 24))
  replace Nm5 := Lib.hid (Nm5.out.alloc (.cells #[.int .i64 m6.own, .int .i64 m6.ot, .slice m6.ag.A m6.ag.l.length m6.ag.c, .slice m6.op.A m6.op.l.length m6.op.c] 24))
  replace X5b := Lib.hid (X5b.out.alloc (.cells #[.int .i64 m6.own, .int .i64 m6.ot, .slice m6.ag.A m6.ag.l.length m6.ag.c, .slice m6.op.A m6.op.l.length m6.op.c] 24))
  replace Y5 := Lib.hid (Y5.out.alloc (.cells #[.int .i64 m6.own, .int .i64 m6.ot, .slice m6.ag.A m6.ag.l.length m6.ag.c, .slice m6.op.A m6.op.l.length m6.op.c] 24))
  replace Nm6 := Lib.hid (Nm6.out.alloc (.cells #[.int .i64 m6.own, .int .i64 m6.ot, .slice m6.ag.A m6.ag.l.length m6.ag.c, .slice m6.op.A m6.op.l.length m6.op.c] 24))
  have X6b := Lib.hid (Blk.newH v7 [.int .i64 m6.own, .int .i64 m6.ot, .slice m6.ag.A m6.ag.l.length m6.ag.c, .slice m6.op.A m6.op.l.length m6.op.c] 24 (v7.heap.size) (by first | rfl | simp))
  go_upto_region 9 with fail
  go_cut [113] from 300 (fun s113 wc => s113 = .bool false ∧ Hid (Below w.heap.size w wc) ∧ Hid (BOk wc b) ∧ Hid (Blk wc (w.heap.size) [.int .i64 b.own, .int .i64 b.ot, .slice b.ag.A b.ag.l.length b.ag.c, .slice b.op.A b.op.l.length b.op.c]) ∧ Hid (Blk wc (w.heap.size + 1) [.int .i64 a.no, .int .i64 a.f, .int .i64 a.t, .int .i64 a.m, .int .i64 a.r]) ∧ Hid (BOk wc m1) ∧ Hid (Blk wc (v4.heap.size) [.int .i64 m1.own, .int .i64 m1.ot, .slice m1.ag.A m1.ag.l.length m1.ag.c, .slice m1.op.A m1.op.l.length m1.op.c]) ∧ Hid (Blk wc (v4.heap.size + 1) [.int .i64 A0.no, .int .i64 A0.f, .int .i64 A0.t, .int .i64 A0.m, .int .i64 A0.r]) ∧ Hid (BOk wc m3) ∧ Hid (Blk wc (v5.heap.size) [.int .i64 m3.own, .int .i64 m3.ot, .slice m3.ag.A m3.ag.l.length m3.ag.c, .slice m3.op.A m3.op.l.length m3.op.c]) ∧ Hid (BOk wc m5) ∧ Hid (Blk wc (v6.heap.size) [.int .i64 m5.own, .int .i64 m5.ot, .slice m5.ag.A m5.ag.l.length m5.ag.c, .slice m5.op.A m5.op.l.length m5.op.c]) ∧ Hid (Blk wc (v6.heap.size + 1) [.int .i64 A2.no, .int .i64 A2.f, .int .i64 A2.t, .int .i64 A2.m, .int .i64 A2.r]) ∧ Hid (BOk wc m6) ∧ Hid (Blk wc (v7.heap.size) [.int .i64 m6.own, .int .i64 m6.ot, .slice m6.ag.A m6.ag.l.length m6.ag.c, .slice m6.op.A m6.op.l.length m6.op.c]))
  case first =>
    by_cases he0 : E0 = 0
    rotate_left
    · have f0 : (E0 == 0) = false := by simp [he0]
      clear he0
      have SS := Lib.hid (show ∀ w', Below (v7.alloc (.cells #[.int .i64 m6.own, .int .i64 m6.ot, .slice m6.ag.A m6.ag.l.length m6.ag.c, .slice m6.op.A m6.op.l.length m6.op.c] 24)).heap.size (v7.alloc (.cells #[.int .i64 m6.own, .int .i64 m6.ot, .slice m6.ag.A m6.ag.l.length m6.ag.c, .slice m6.op.A m6.op.l.length m6.op.c] 24)) w' → (fun w' => Below (v7.alloc (.cells #[.int .i64 m6.own, .int .i64 m6.ot, .slice m6.ag.A m6.ag.l.length m6.ag.c, .slice m6.op.A m6.op.l.length m6.op.c] 24)).heap.size (v7.alloc (.cells #[.int .i64 m6.own, .int .i64 m6.ot, .slice m6.ag.A m6.ag.l.length m6.ag.c, .slice m6.op.A m6.op.l.length m6.op.c] 24)) w') w' from fun w' h => h)
      refine rg_begin (S := (fun w' => Below (v7.alloc (.cells #[.int .i64 m6.own, .int .i64 m6.ot, .slice m6.ag.A m6.ag.l.length m6.ag.c, .slice m6.op.A m6.op.l.length m6.op.c] 24)).heap.size (v7.alloc (.cells #[.int .i64 m6.own, .int .i64 m6.ot, .slice m6.ag.A m6.ag.l.length m6.ag.c, .slice m6.op.A m6.op.l.length m6.op.c] 24)) w')) 43 (by kernel_rfl) (by intro d; cases d <;> intro _ _ _ _ h <;> exact h) ?_ (fun Q7 hQ7 hN7 hHeld => ?_)
      · exact SS.out _ (ext_drew (ext_refl _))
      refine rg_take (i := 0) (some 71) (v := ?_) rfl rfl (by kernel_rfl) (by rfl) hQ7 hHeld ?_ ?_
      rotate_left
      · intro w7 hSw; (try dsimp only at hSw); go_simp; all_goals with_reducible rfl
      try simp only [Act.put, List.setIfInBounds_toArray, List.set_cons_zero, List.set_cons_succ]
      refine rg_take (i := 1) (some 72) (v := ?_) rfl rfl (by kernel_rfl) (by rfl) hQ7 hHeld ?_ ?_
      rotate_left
      · intro w7 hSw; (try dsimp only at hSw); go_simp; all_goals with_reducible rfl
      try simp only [Act.put, List.setIfInBounds_toArray, List.set_cons_zero, List.set_cons_succ]
      refine rg_take (i := 2) (some 73) (v := ?_) rfl rfl (by kernel_rfl) (by rfl) hQ7 hHeld ?_ ?_
      rotate_left
      · intro w7 hSw; (try dsimp only at hSw); go_simp; all_goals with_reducible rfl
      try simp only [Act.put, List.setIfInBounds_toArray, List.set_cons_zero, List.set_cons_succ]
      refine rg_skip (i := 3) (some 74) rfl rfl (by kernel_rfl) (by rfl) hQ7 hHeld ?_
      try simp only [Act.put, List.setIfInBounds_toArray, List.set_cons_zero, List.set_cons_succ]
      refine rg_skip (i := 4) (some 75) rfl rfl (by kernel_rfl) (by rfl) hQ7 hHeld ?_
      try simp only [Act.put, List.setIfInBounds_toArray, List.set_cons_zero, List.set_cons_succ]
      refine rg_skip (i := 5) (some 76) rfl rfl (by kernel_rfl) (by rfl) hQ7 hHeld ?_
      try simp only [Act.put, List.setIfInBounds_toArray, List.set_cons_zero, List.set_cons_succ]
      refine rg_skip (i := 6) (some 77) rfl rfl (by kernel_rfl) (by rfl) hQ7 hHeld ?_
      try simp only [Act.put, List.setIfInBounds_toArray, List.set_cons_zero, List.set_cons_succ]
      refine rg_skip (i := 7) (some 78) rfl rfl (by kernel_rfl) (by rfl) hQ7 hHeld ?_
      try simp only [Act.put, List.setIfInBounds_toArray, List.set_cons_zero, List.set_cons_succ]
      refine rg_skip (i := 8) (some 79) rfl rfl (by kernel_rfl) (by rfl) hQ7 hHeld ?_
      try simp only [Act.put, List.setIfInBounds_toArray, List.set_cons_zero, List.set_cons_succ]
      refine rg_skip (i := 9) (some 80) rfl rfl (by kernel_rfl) (by rfl) hQ7 hHeld ?_
      try simp only [Act.put, List.setIfInBounds_toArray, List.set_cons_zero, List.set_cons_succ]
      refine rg_skip (i := 10) (some 81) rfl rfl (by kernel_rfl) (by rfl) hQ7 hHeld ?_
      try simp only [Act.put, List.setIfInBounds_toArray, List.set_cons_zero, List.set_cons_succ]
      refine rg_skip (i := 11) (some 82) rfl rfl (by kernel_rfl) (by rfl) hQ7 hHeld ?_
      try simp only [Act.put, List.setIfInBounds_toArray, List.set_cons_zero, List.set_cons_succ]
      refine rg_skip (i := 12) (some 83) rfl rfl (by kernel_rfl) (by rfl) hQ7 hHeld ?_
      try simp only [Act.put, List.setIfInBounds_toArray, List.set_cons_zero, List.set_cons_succ]
      refine rg_skip (i := 13) (some 84) rfl rfl (by kernel_rfl) (by rfl) hQ7 hHeld ?_
      try simp only [Act.put, List.setIfInBounds_toArray, List.set_cons_zero, List.set_cons_succ]
      refine rg_skip (i := 14) (some 85) rfl rfl (by kernel_rfl) (by rfl) hQ7 hHeld ?_
      try simp only [Act.put, List.setIfInBounds_toArray, List.set_cons_zero, List.set_cons_succ]
      refine rg_skip (i := 15) (some 86) rfl rfl (by kernel_rfl) (by rfl) hQ7 hHeld ?_
      try simp only [Act.put, List.setIfInBounds_toArray, List.set_cons_zero, List.set_cons_succ]
      refine rg_skip (i := 16) (some 87) rfl rfl (by kernel_rfl) (by rfl) hQ7 hHeld ?_
      try simp only [Act.put, List.setIfInBounds_toArray, List.set_cons_zero, List.set_cons_succ]
      refine rg_skip (i := 17) (some 88) rfl rfl (by kernel_rfl) (by rfl) hQ7 hHeld ?_
      try simp only [Act.put, List.setIfInBounds_toArray, List.set_cons_zero, List.set_cons_succ]
      refine rg_skip (i := 18) (some 89) rfl rfl (by kernel_rfl) (by rfl) hQ7 hHeld ?_
      try simp only [Act.put, List.setIfInBounds_toArray, List.set_cons_zero, List.set_cons_succ]
      refine rg_skip (i := 19) (some 90) rfl rfl (by kernel_rfl) (by rfl) hQ7 hHeld ?_
      try simp only [Act.put, List.setIfInBounds_toArray, List.set_cons_zero, List.set_cons_succ]
      refine rg_skip (i := 20) (some 91) rfl rfl (by kernel_rfl) (by rfl) hQ7 hHeld ?_
      try simp only [Act.put, List.setIfInBounds_toArray, List.set_cons_zero, List.set_cons_succ]
      refine rg_skip (i := 21) (some 92) rfl rfl (by kernel_rfl) (by rfl) hQ7 hHeld ?_
      try simp only [Act.put, List.setIfInBounds_toArray, List.set_cons_zero, List.set_cons_succ]
      refine rg_skip (i := 22) (some 93) rfl rfl (by kernel_rfl) (by rfl) hQ7 hHeld ?_
      try simp only [Act.put, List.setIfInBounds_toArray, List.set_cons_zero, List.set_cons_succ]
      refine rg_skip (i := 23) (some 94) rfl rfl (by kernel_rfl) (by rfl) hQ7 hHeld ?_
      try simp only [Act.put, List.setIfInBounds_toArray, List.set_cons_zero, List.set_cons_succ]
      refine rg_skip (i := 24) (some 95) rfl rfl (by kernel_rfl) (by rfl) hQ7 hHeld ?_
      try simp only [Act.put, List.setIfInBounds_toArray, List.set_cons_zero, List.set_cons_succ]
      refine rg_skip (i := 25) (some 96) rfl rfl (by kernel_rfl) (by rfl) hQ7 hHeld ?_
      try simp only [Act.put, List.setIfInBounds_toArray, List.set_cons_zero, List.set_cons_succ]
      refine rg_skip (i := 26) (some 97) rfl rfl (by kernel_rfl) (by rfl) hQ7 hHeld ?_
      try simp only [Act.put, List.setIfInBounds_toArray, List.set_cons_zero, List.set_cons_succ]
      refine rg_skip (i := 27) (some 98) rfl rfl (by kernel_rfl) (by rfl) hQ7 hHeld ?_
      try simp only [Act.put, List.setIfInBounds_toArray, List.set_cons_zero, List.set_cons_succ]
      refine rg_skip (i := 28) (some 99) rfl rfl (by kernel_rfl) (by rfl) hQ7 hHeld ?_
      try simp only [Act.put, List.setIfInBounds_toArray, List.set_cons_zero, List.set_cons_succ]
      refine rg_skip (i := 29) (some 100) rfl rfl (by kernel_rfl) (by rfl) hQ7 hHeld ?_
      try simp only [Act.put, List.setIfInBounds_toArray, List.set_cons_zero, List.set_cons_succ]
      refine rg_skip (i := 30) (some 101) rfl rfl (by kernel_rfl) (by rfl) hQ7 hHeld ?_
      try simp only [Act.put, List.setIfInBounds_toArray, List.set_cons_zero, List.set_cons_succ]
      refine rg_skip (i := 31) (some 102) rfl rfl (by kernel_rfl) (by rfl) hQ7 hHeld ?_
      try simp only [Act.put, List.setIfInBounds_toArray, List.set_cons_zero, List.set_cons_succ]
      refine rg_skip (i := 32) (some 103) rfl rfl (by kernel_rfl) (by rfl) hQ7 hHeld ?_
      try simp only [Act.put, List.setIfInBounds_toArray, List.set_cons_zero, List.set_cons_succ]
      refine rg_skip (i := 33) (some 104) rfl rfl (by kernel_rfl) (by rfl) hQ7 hHeld ?_
      try simp only [Act.put, List.setIfInBounds_toArray, List.set_cons_zero, List.set_cons_succ]
      refine rg_skip (i := 34) (some 105) rfl rfl (by kernel_rfl) (by rfl) hQ7 hHeld ?_
      try simp only [Act.put, List.setIfInBounds_toArray, List.set_cons_zero, List.set_cons_succ]
      refine rg_skip (i := 35) (some 106) rfl rfl (by kernel_rfl) (by rfl) hQ7 hHeld ?_
      try simp only [Act.put, List.setIfInBounds_toArray, List.set_cons_zero, List.set_cons_succ]
      refine rg_skip (i := 36) (some 107) rfl rfl (by kernel_rfl) (by rfl) hQ7 hHeld ?_
      try simp only [Act.put, List.setIfInBounds_toArray, List.set_cons_zero, List.set_cons_succ]
      refine rg_skip (i := 37) (some 108) rfl rfl (by kernel_rfl) (by rfl) hQ7 hHeld ?_
      try simp only [Act.put, List.setIfInBounds_toArray, List.set_cons_zero, List.set_cons_succ]
      refine rg_skip (i := 38) (some 109) rfl rfl (by kernel_rfl) (by rfl) hQ7 hHeld ?_
      try simp only [Act.put, List.setIfInBounds_toArray, List.set_cons_zero, List.set_cons_succ]
      refine rg_skip (i := 39) (some 110) rfl rfl (by kernel_rfl) (by rfl) hQ7 hHeld ?_
      try simp only [Act.put, List.setIfInBounds_toArray, List.set_cons_zero, List.set_cons_succ]
      refine rg_skip (i := 40) (some 111) rfl rfl (by kernel_rfl) (by rfl) hQ7 hHeld ?_
      try simp only [Act.put, List.setIfInBounds_toArray, List.set_cons_zero, List.set_cons_succ]
      refine rg_skip (i := 41) (some 112) rfl rfl (by kernel_rfl) (by rfl) hQ7 hHeld ?_
      try simp only [Act.put, List.setIfInBounds_toArray, List.set_cons_zero, List.set_cons_succ]
      refine rg_take (i := 42) (some 113) (v := ?_) rfl rfl (by kernel_rfl) (by rfl) hQ7 hHeld ?_ ?_
      rotate_left
      · intro w7 hSw; (try dsimp only at hSw); go_simp; all_goals with_reducible rfl
      try simp only [Act.put, List.setIfInBounds_toArray, List.set_cons_zero, List.set_cons_succ]
      refine rg_end (by kernel_rfl) (hN7 _ _ ?_) _
      clear hQ7 hN7 Q7
      have BX := hHeld
      clear SS
      go_wp2_with fail
      replace E := Lib.hid (ext_trans E.out BX)
      replace HB := Lib.hid (HB.out.ext BX)
      replace BB := Lib.hid (BB.out.ext BX)
      replace X := Lib.hid (X.out.ext BX)
      replace Nm1 := Lib.hid (Nm1.out.ext BX)
      replace X1b := Lib.hid (X1b.out.ext BX)
      replace Y1 := Lib.hid (Y1.out.ext BX)
      replace Nm3 := Lib.hid (Nm3.out.ext BX)
      replace X3b := Lib.hid (X3b.out.ext BX)
      replace Nm5 := Lib.hid (Nm5.out.ext BX)
      replace X5b := Lib.hid (X5b.out.ext BX)
      replace Y5 := Lib.hid (Y5.out.ext BX)
      replace Nm6 := Lib.hid (Nm6.out.ext BX)
      replace X6b := Lib.hid (X6b.out.ext BX)
      clear BX
      go_meet
      case rel => exact ⟨rfl, E, HB, BB, X, Nm1, X1b, Y1, Nm3, X3b, Nm5, X5b, Y5, Nm6, X6b⟩
    obtain ⟨-, gA, gO⟩ := G0.out he0
    have hA1 : m1.ag.l = b.ag.l := (congrArg Bl.ag Hm1.out).trans gA
    have hO1 : m1.op.l = b.op.l ++ [A0] := (congrArg Bl.op Hm1.out).trans gO
    have hn1 : m1.op.l.length = b.op.l.length + 1 := by rw [hO1]; simp
    have hx1 : m1.op.l[b.op.l.length]? = some A0 := by rw [hO1]; simp
    have SP := Lib.hid (Slc.pre (hO1 ▸ Nm1.out.op))
    have hcap := Nm1.out.opl
    obtain ⟨x, b1, o1, hx, hA, hb1, hd⟩ := Nm1.out.op.at_ (k := b.op.l.length) (by omega)
    obtain rfl : A0 = x := Option.some.inj (hx1.symm.trans hx)
    have HA1 := Lib.hid hA1
    have hlen : b.ag.l.length ≤ 30 ∧ b.op.l.length ≤ 30 := HLS.out
    have HLE := Lib.hid hlen
    subst he0
    have SO := Lib.hid Nm1.out.ag
    rw [hA] at SP
    have HN1 := Lib.hid hn1
    have hlt1 : (b.op.l.length : Int) < m1.op.l.length := by omega
    have hcap1 : b.op.l.length ≤ m1.op.c := by omega
    have hwr : IntKind.i64.wrap ((b.op.l.length : Int) + 1) = (b.op.l.length : Int) + 1 := IntWalk.i64_in _ (by omega)
    have hneq := fun w => neq26_self A0 w
    clear hO1 hx1 hx hA1 gA gO hn1 hcap
    have SS := Lib.hid (show ∀ w', Below (v7.alloc (.cells #[.int .i64 m6.own, .int .i64 m6.ot, .slice m6.ag.A m6.ag.l.length m6.ag.c, .slice m6.op.A m6.op.l.length m6.op.c] 24)).heap.size (v7.alloc (.cells #[.int .i64 m6.own, .int .i64 m6.ot, .slice m6.ag.A m6.ag.l.length m6.ag.c, .slice m6.op.A m6.op.l.length m6.op.c] 24)) w' → (fun w' => Below (v7.alloc (.cells #[.int .i64 m6.own, .int .i64 m6.ot, .slice m6.ag.A m6.ag.l.length m6.ag.c, .slice m6.op.A m6.op.l.length m6.op.c] 24)).heap.size (v7.alloc (.cells #[.int .i64 m6.own, .int .i64 m6.ot, .slice m6.ag.A m6.ag.l.length m6.ag.c, .slice m6.op.A m6.op.l.length m6.op.c] 24)) w' ∧ w'.cell? ⟨v4.heap.size, 0, none⟩ = some (.int .i64 m1.own) ∧ w'.cell? ⟨v4.heap.size, 1, none⟩ = some (.int .i64 m1.ot) ∧ w'.cell? ⟨v4.heap.size, 2, none⟩ = some (.slice m1.ag.A m1.ag.l.length m1.ag.c) ∧ w'.cell? ⟨v4.heap.size, 3, none⟩ = some (.slice m1.op.A m1.op.l.length m1.op.c) ∧ w'.cell? ⟨w.heap.size, 0, none⟩ = some (.int .i64 b.own) ∧ w'.cell? ⟨w.heap.size, 1, none⟩ = some (.int .i64 b.ot) ∧ w'.cell? ⟨w.heap.size, 2, none⟩ = some (.slice b.ag.A b.ag.l.length b.ag.c) ∧ w'.cell? ⟨w.heap.size, 3, none⟩ = some (.slice b.op.A b.op.l.length b.op.c) ∧ w'.cell? ⟨v4.heap.size + 1, 0, none⟩ = some (.int .i64 A0.no) ∧ w'.cell? ⟨v4.heap.size + 1, 1, none⟩ = some (.int .i64 A0.f) ∧ w'.cell? ⟨v4.heap.size + 1, 2, none⟩ = some (.int .i64 A0.t) ∧ w'.cell? ⟨v4.heap.size + 1, 3, none⟩ = some (.int .i64 A0.m) ∧ w'.cell? ⟨v4.heap.size + 1, 4, none⟩ = some (.int .i64 A0.r) ∧ w'.cell? ⟨b1, o1 + b.op.l.length * 5, none⟩ = some (.int .i64 A0.no) ∧ w'.cell? ⟨b1, o1 + b.op.l.length * 5 + 1, none⟩ = some (.int .i64 A0.f) ∧ w'.cell? ⟨b1, o1 + b.op.l.length * 5 + 2, none⟩ = some (.int .i64 A0.t) ∧ w'.cell? ⟨b1, o1 + b.op.l.length * 5 + 3, none⟩ = some (.int .i64 A0.m) ∧ w'.cell? ⟨b1, o1 + b.op.l.length * 5 + 4, none⟩ = some (.int .i64 A0.r)) w' from fun w' h => ⟨h, (X1b.out.ext h).c 0 _ rfl, (X1b.out.ext h).c 1 _ rfl, (X1b.out.ext h).c 2 _ rfl, (X1b.out.ext h).c 3 _ rfl, (BB.out.ext h).c 0 _ rfl, (BB.out.ext h).c 1 _ rfl, (BB.out.ext h).c 2 _ rfl, (BB.out.ext h).c 3 _ rfl, (Y1.out.ext h).c 0 _ rfl, (Y1.out.ext h).c 1 _ rfl, (Y1.out.ext h).c 2 _ rfl, (Y1.out.ext h).c 3 _ rfl, (Y1.out.ext h).c 4 _ rfl, (h.cell (p := ⟨b1, o1 + b.op.l.length * 5 + 0, none⟩) hb1).trans (hd 0 _ rfl), (h.cell (p := ⟨b1, o1 + b.op.l.length * 5 + 1, none⟩) hb1).trans (hd 1 _ rfl), (h.cell (p := ⟨b1, o1 + b.op.l.length * 5 + 2, none⟩) hb1).trans (hd 2 _ rfl), (h.cell (p := ⟨b1, o1 + b.op.l.length * 5 + 3, none⟩) hb1).trans (hd 3 _ rfl), (h.cell (p := ⟨b1, o1 + b.op.l.length * 5 + 4, none⟩) hb1).trans (hd 4 _ rfl)⟩)
    refine rg_begin (S := (fun w' => Below (v7.alloc (.cells #[.int .i64 m6.own, .int .i64 m6.ot, .slice m6.ag.A m6.ag.l.length m6.ag.c, .slice m6.op.A m6.op.l.length m6.op.c] 24)).heap.size (v7.alloc (.cells #[.int .i64 m6.own, .int .i64 m6.ot, .slice m6.ag.A m6.ag.l.length m6.ag.c, .slice m6.op.A m6.op.l.length m6.op.c] 24)) w' ∧ w'.cell? ⟨v4.heap.size, 0, none⟩ = some (.int .i64 m1.own) ∧ w'.cell? ⟨v4.heap.size, 1, none⟩ = some (.int .i64 m1.ot) ∧ w'.cell? ⟨v4.heap.size, 2, none⟩ = some (.slice m1.ag.A m1.ag.l.length m1.ag.c) ∧ w'.cell? ⟨v4.heap.size, 3, none⟩ = some (.slice m1.op.A m1.op.l.length m1.op.c) ∧ w'.cell? ⟨w.heap.size, 0, none⟩ = some (.int .i64 b.own) ∧ w'.cell? ⟨w.heap.size, 1, none⟩ = some (.int .i64 b.ot) ∧ w'.cell? ⟨w.heap.size, 2, none⟩ = some (.slice b.ag.A b.ag.l.length b.ag.c) ∧ w'.cell? ⟨w.heap.size, 3, none⟩ = some (.slice b.op.A b.op.l.length b.op.c) ∧ w'.cell? ⟨v4.heap.size + 1, 0, none⟩ = some (.int .i64 A0.no) ∧ w'.cell? ⟨v4.heap.size + 1, 1, none⟩ = some (.int .i64 A0.f) ∧ w'.cell? ⟨v4.heap.size + 1, 2, none⟩ = some (.int .i64 A0.t) ∧ w'.cell? ⟨v4.heap.size + 1, 3, none⟩ = some (.int .i64 A0.m) ∧ w'.cell? ⟨v4.heap.size + 1, 4, none⟩ = some (.int .i64 A0.r) ∧ w'.cell? ⟨b1, o1 + b.op.l.length * 5, none⟩ = some (.int .i64 A0.no) ∧ w'.cell? ⟨b1, o1 + b.op.l.length * 5 + 1, none⟩ = some (.int .i64 A0.f) ∧ w'.cell? ⟨b1, o1 + b.op.l.length * 5 + 2, none⟩ = some (.int .i64 A0.t) ∧ w'.cell? ⟨b1, o1 + b.op.l.length * 5 + 3, none⟩ = some (.int .i64 A0.m) ∧ w'.cell? ⟨b1, o1 + b.op.l.length * 5 + 4, none⟩ = some (.int .i64 A0.r))) 43 (by kernel_rfl) (by intro d; cases d <;> intro _ _ _ _ h <;> exact h) ?_ (fun Q7 hQ7 hN7 hHeld => ?_)
    · exact SS.out _ (ext_drew (ext_refl _))
    refine rg_take (i := 0) (some 71) (v := ?_) rfl rfl (by kernel_rfl) (by rfl) hQ7 hHeld ?_ ?_
    rotate_left
    · intro w7 hSw; (try dsimp only at hSw); go_simp; all_goals with_reducible rfl
    try simp only [Act.put, List.setIfInBounds_toArray, List.set_cons_zero, List.set_cons_succ]
    refine rg_take (i := 1) (some 72) (v := ?_) rfl rfl (by kernel_rfl) (by rfl) hQ7 hHeld ?_ ?_
    rotate_left
    · intro w7 hSw; (try dsimp only at hSw); go_simp; all_goals with_reducible rfl
    try simp only [Act.put, List.setIfInBounds_toArray, List.set_cons_zero, List.set_cons_succ]
    refine rg_take (i := 2) (some 73) (v := ?_) rfl rfl (by kernel_rfl) (by rfl) hQ7 hHeld ?_ ?_
    rotate_left
    · intro w7 hSw; (try dsimp only at hSw); go_simp; all_goals with_reducible rfl
    try simp only [Act.put, List.setIfInBounds_toArray, List.set_cons_zero, List.set_cons_succ]
    refine rg_take (i := 3) (some 74) (v := ?_) rfl rfl (by kernel_rfl) (by rfl) hQ7 hHeld ?_ ?_
    rotate_left
    · intro w7 hSw; (try dsimp only at hSw); go_simp; all_goals with_reducible rfl
    try simp only [Act.put, List.setIfInBounds_toArray, List.set_cons_zero, List.set_cons_succ]
    refine rg_take (i := 4) (some 75) (v := ?_) rfl rfl (by kernel_rfl) (by rfl) hQ7 hHeld ?_ ?_
    rotate_left
    · intro w7 hSw; (try dsimp only at hSw); go_simp; all_goals with_reducible rfl
    try simp only [Act.put, List.setIfInBounds_toArray, List.set_cons_zero, List.set_cons_succ]
    refine rg_take (i := 5) (some 76) (v := ?_) rfl rfl (by kernel_rfl) (by rfl) hQ7 hHeld ?_ ?_
    rotate_left
    · intro w7 hSw; (try dsimp only at hSw); go_simp; all_goals with_reducible rfl
    try simp only [Act.put, List.setIfInBounds_toArray, List.set_cons_zero, List.set_cons_succ]
    refine rg_take (i := 6) (some 77) (v := ?_) rfl rfl (by kernel_rfl) (by rfl) hQ7 hHeld ?_ ?_
    rotate_left
    · intro w7 hSw; (try dsimp only at hSw); go_simp; all_goals with_reducible rfl
    try simp only [Act.put, List.setIfInBounds_toArray, List.set_cons_zero, List.set_cons_succ]
    refine rg_take (i := 7) (some 78) (v := ?_) rfl rfl (by kernel_rfl) (by rfl) hQ7 hHeld ?_ ?_
    rotate_left
    · intro w7 hSw; (try dsimp only at hSw); go_simp; all_goals with_reducible rfl
    try simp only [Act.put, List.setIfInBounds_toArray, List.set_cons_zero, List.set_cons_succ]
    refine rg_take (i := 8) (some 79) (v := ?_) rfl rfl (by kernel_rfl) (by rfl) hQ7 hHeld ?_ ?_
    rotate_left
    · intro w7 hSw; (try dsimp only at hSw); go_simp; all_goals with_reducible rfl
    try simp only [Act.put, List.setIfInBounds_toArray, List.set_cons_zero, List.set_cons_succ]
    refine rg_take (i := 9) (some 80) (v := ?_) rfl rfl (by kernel_rfl) (by rfl) hQ7 hHeld ?_ ?_
    rotate_left
    · intro w7 hSw; (try dsimp only at hSw); go_simp; all_goals with_reducible rfl
    try simp only [Act.put, List.setIfInBounds_toArray, List.set_cons_zero, List.set_cons_succ]
    refine rg_take (i := 10) (some 81) (v := .bool false) rfl rfl (by kernel_rfl) (by rfl) hQ7 hHeld (fun w7 hSw => run_v (neqN (by have := HN1.out; omega) w7)) ?_
    try simp only [Act.put, List.setIfInBounds_toArray, List.set_cons_zero, List.set_cons_succ]
    refine rg_take (i := 11) (some 82) (v := ?_) rfl rfl (by kernel_rfl) (by rfl) hQ7 hHeld ?_ ?_
    rotate_left
    · intro w7 hSw; (try dsimp only at hSw); go_simp; all_goals with_reducible rfl
    try simp only [Act.put, List.setIfInBounds_toArray, List.set_cons_zero, List.set_cons_succ]
    refine rg_take (i := 12) (some 83) (v := ?_) rfl rfl (by kernel_rfl) (by rfl) hQ7 hHeld ?_ ?_
    rotate_left
    · intro w7 hSw; (try dsimp only at hSw); go_simp; all_goals with_reducible rfl
    try simp only [Act.put, List.setIfInBounds_toArray, List.set_cons_zero, List.set_cons_succ]
    refine rg_take (i := 13) (some 84) (v := ?_) rfl rfl (by kernel_rfl) (by rfl) hQ7 hHeld ?_ ?_
    rotate_left
    · intro w7 hSw; (try dsimp only at hSw); go_simp; all_goals with_reducible rfl
    try simp only [Act.put, List.setIfInBounds_toArray, List.set_cons_zero, List.set_cons_succ]
    refine rg_take (i := 14) (some 85) (v := ?_) rfl rfl (by kernel_rfl) (by rfl) hQ7 hHeld ?_ ?_
    rotate_left
    · intro w7 hSw; (try dsimp only at hSw); go_simp; all_goals with_reducible rfl
    try simp only [Act.put, List.setIfInBounds_toArray, List.set_cons_zero, List.set_cons_succ]
    refine rg_take (i := 15) (some 86) (v := ?_) rfl rfl (by kernel_rfl) (by rfl) hQ7 hHeld ?_ ?_
    rotate_left
    · intro w7 hSw; (try dsimp only at hSw); go_simp; all_goals with_reducible rfl
    try simp only [Act.put, List.setIfInBounds_toArray, List.set_cons_zero, List.set_cons_succ]
    refine rg_take (i := 16) (some 87) (v := ?_) rfl rfl (by kernel_rfl) (by rfl) hQ7 hHeld ?_ ?_
    rotate_left
    · intro w7 hSw; (try dsimp only at hSw); go_simp; all_goals with_reducible rfl
    try simp only [Act.put, List.setIfInBounds_toArray, List.set_cons_zero, List.set_cons_succ]
    refine rg_take (i := 17) (some 88) (v := ?_) rfl rfl (by kernel_rfl) (by rfl) hQ7 hHeld ?_ ?_
    rotate_left
    · intro w7 hSw; (try dsimp only at hSw); go_simp; all_goals with_reducible rfl
    try simp only [Act.put, List.setIfInBounds_toArray, List.set_cons_zero, List.set_cons_succ]
    refine rg_take (i := 18) (some 89) (v := ?_) rfl rfl (by kernel_rfl) (by rfl) hQ7 hHeld ?_ ?_
    rotate_left
    · intro w7 hSw; (try dsimp only at hSw); go_simp; all_goals with_reducible rfl
    try simp only [Act.put, List.setIfInBounds_toArray, List.set_cons_zero, List.set_cons_succ]
    refine rg_take (i := 19) (some 90) (v := ?_) rfl rfl (by kernel_rfl) (by rfl) hQ7 hHeld ?_ ?_
    rotate_left
    · intro w7 hSw; (try dsimp only at hSw); go_simp; all_goals with_reducible rfl
    try simp only [Act.put, List.setIfInBounds_toArray, List.set_cons_zero, List.set_cons_succ]
    refine rg_take (i := 20) (some 91) (v := ?_) rfl rfl (by kernel_rfl) (by rfl) hQ7 hHeld ?_ ?_
    rotate_left
    · intro w7 hSw; (try dsimp only at hSw); go_simp; all_goals with_reducible rfl
    try simp only [Act.put, List.setIfInBounds_toArray, List.set_cons_zero, List.set_cons_succ]
    refine rg_take (i := 21) (some 92) (v := ?_) rfl rfl (by kernel_rfl) (by rfl) hQ7 hHeld ?_ ?_
    rotate_left
    · intro w7 hSw; (try dsimp only at hSw); go_simp; all_goals with_reducible rfl
    try simp only [Act.put, List.setIfInBounds_toArray, List.set_cons_zero, List.set_cons_succ]
    refine rg_take (i := 22) (some 93) (v := ?_) rfl rfl (by kernel_rfl) (by rfl) hQ7 hHeld ?_ ?_
    rotate_left
    · intro w7 hSw; (try dsimp only at hSw); go_simp; all_goals with_reducible rfl
    try simp only [Act.put, List.setIfInBounds_toArray, List.set_cons_zero, List.set_cons_succ]
    refine rg_take (i := 23) (some 94) (v := ?_) rfl rfl (by kernel_rfl) (by rfl) hQ7 hHeld ?_ ?_
    rotate_left
    · intro w7 hSw; (try dsimp only at hSw); go_simp; all_goals with_reducible rfl
    try simp only [Act.put, List.setIfInBounds_toArray, List.set_cons_zero, List.set_cons_succ]
    refine rg_take (i := 24) (some 95) (v := ?_) rfl rfl (by kernel_rfl) (by rfl) hQ7 hHeld ?_ ?_
    rotate_left
    · intro w7 hSw; (try dsimp only at hSw); go_simp; all_goals with_reducible rfl
    try simp only [Act.put, List.setIfInBounds_toArray, List.set_cons_zero, List.set_cons_succ]
    refine rg_take (i := 25) (some 96) (v := ?_) rfl rfl (by kernel_rfl) (by rfl) hQ7 hHeld ?_ ?_
    rotate_left
    · intro w7 hSw; (try dsimp only at hSw); go_simp; all_goals with_reducible rfl
    try simp only [Act.put, List.setIfInBounds_toArray, List.set_cons_zero, List.set_cons_succ]
    refine rg_take (i := 26) (some 97) (v := ?_) rfl rfl (by kernel_rfl) (by rfl) hQ7 hHeld ?_ ?_
    rotate_left
    · intro w7 hSw; (try dsimp only at hSw); go_simp; all_goals with_reducible rfl
    try simp only [Act.put, List.setIfInBounds_toArray, List.set_cons_zero, List.set_cons_succ]
    refine rg_take (i := 27) (some 98) (v := ?_) rfl rfl (by kernel_rfl) (by rfl) hQ7 hHeld ?_ ?_
    rotate_left
    · intro w7 hSw; (try dsimp only at hSw); go_simp; all_goals with_reducible rfl
    try simp only [Act.put, List.setIfInBounds_toArray, List.set_cons_zero, List.set_cons_succ]
    refine rg_take (i := 28) (some 99) (v := .slice (some ⟨b1, o1, none⟩) b.op.l.length m1.op.c) rfl rfl (by kernel_rfl) (by rfl) hQ7 hHeld (fun w7 hSw => run_v (slice_headAg (some ⟨b1, o1, none⟩) m1.op.l.length m1.op.c b.op.l.length _ rfl (by omega) w7)) ?_
    try simp only [Act.put, List.setIfInBounds_toArray, List.set_cons_zero, List.set_cons_succ]
    refine rg_take (i := 29) (some 100) (v := ?_) rfl rfl (by kernel_rfl) (by rfl) hQ7 hHeld ?_ ?_
    rotate_left
    · intro w7 hSw; (try dsimp only at hSw); go_simp; all_goals with_reducible rfl
    try simp only [Act.put, List.setIfInBounds_toArray, List.set_cons_zero, List.set_cons_succ]
    refine rg_take (i := 30) (some 101) (v := ?_) rfl rfl (by kernel_rfl) (by rfl) hQ7 hHeld ?_ ?_
    rotate_left
    · intro w7 hSw; (try dsimp only at hSw); go_simp; all_goals with_reducible rfl
    try simp only [Act.put, List.setIfInBounds_toArray, List.set_cons_zero, List.set_cons_succ]
    refine rg_one (i := 31) (by kernel_rfl) (rg_step rfl (by rfl) (fun K hK => ?_))
    go_simp
    refine (sameAg (n := b.op.l.length) true (by simp) rfl rfl (SP.out.ext hHeld.1) (HB.out.op.ext hHeld.1) (by omega)).mono ?_
    rintro e u1 ⟨rfl, B1⟩
    go_wp2_with fail
    refine hK.out _ _ ?_ (fun hHeld2 => ?_)
    · exact SS.out _ (ext_trans hHeld.1 B1)
    clear hHeld
    have hHeld := hHeld2
    clear hHeld2
    clear hK K
    try simp only [Act.put, List.setIfInBounds_toArray, List.set_cons_zero, List.set_cons_succ]
    refine rg_take (i := 32) (some 103) (v := ?_) rfl rfl (by kernel_rfl) (by rfl) hQ7 hHeld ?_ ?_
    rotate_left
    · intro w7 hSw; (try dsimp only at hSw); go_simp; all_goals with_reducible rfl
    try simp only [Act.put, List.setIfInBounds_toArray, List.set_cons_zero, List.set_cons_succ]
    refine rg_take (i := 33) (some 104) (v := ?_) rfl rfl (by kernel_rfl) (by rfl) hQ7 hHeld ?_ ?_
    rotate_left
    · intro w7 hSw; (try dsimp only at hSw); go_simp; all_goals with_reducible rfl
    try simp only [Act.put, List.setIfInBounds_toArray, List.set_cons_zero, List.set_cons_succ]
    refine rg_take (i := 34) (some 105) (v := ?_) rfl rfl (by kernel_rfl) (by rfl) hQ7 hHeld ?_ ?_
    rotate_left
    · intro w7 hSw; (try dsimp only at hSw); go_simp; all_goals with_reducible rfl
    try simp only [Act.put, List.setIfInBounds_toArray, List.set_cons_zero, List.set_cons_succ]
    refine rg_take (i := 35) (some 106) (v := ?_) rfl rfl (by kernel_rfl) (by rfl) hQ7 hHeld ?_ ?_
    rotate_left
    · intro w7 hSw; (try dsimp only at hSw); go_simp; all_goals with_reducible rfl
    try simp only [Act.put, List.setIfInBounds_toArray, List.set_cons_zero, List.set_cons_succ]
    refine rg_take (i := 36) (some 107) (v := ?_) rfl rfl (by kernel_rfl) (by rfl) hQ7 hHeld ?_ ?_
    rotate_left
    · intro w7 hSw; (try dsimp only at hSw); go_simp; all_goals with_reducible rfl
    try simp only [Act.put, List.setIfInBounds_toArray, List.set_cons_zero, List.set_cons_succ]
    refine rg_take (i := 37) (some 108) (v := ?_) rfl rfl (by kernel_rfl) (by rfl) hQ7 hHeld ?_ ?_
    rotate_left
    · intro w7 hSw; (try dsimp only at hSw); go_simp; all_goals with_reducible rfl
    try simp only [Act.put, List.setIfInBounds_toArray, List.set_cons_zero, List.set_cons_succ]
    refine rg_take (i := 38) (some 109) (v := ?_) rfl rfl (by kernel_rfl) (by rfl) hQ7 hHeld ?_ ?_
    rotate_left
    · intro w7 hSw; (try dsimp only at hSw); go_simp; all_goals with_reducible rfl
    try simp only [Act.put, List.setIfInBounds_toArray, List.set_cons_zero, List.set_cons_succ]
    refine rg_one (i := 39) (by kernel_rfl) (rg_step rfl (by rfl) (fun K hK => ?_))
    go_simp
    refine (sameAg true (by rw [HA1.out]; simp) rfl rfl (SO.out.ext hHeld.1) (HB.out.ag.ext hHeld.1) (by rw [HA1.out]; omega)).mono ?_
    rintro e u2 ⟨rfl, B2⟩
    go_wp2_with fail
    refine hK.out _ _ ?_ (fun hHeld2 => ?_)
    · exact SS.out _ (ext_trans hHeld.1 B2)
    clear hHeld
    have hHeld := hHeld2
    clear hHeld2
    clear hK K
    try simp only [Act.put, List.setIfInBounds_toArray, List.set_cons_zero, List.set_cons_succ]
    refine rg_take (i := 40) (some 111) (v := ?_) rfl rfl (by kernel_rfl) (by rfl) hQ7 hHeld ?_ ?_
    rotate_left
    · intro w7 hSw; (try dsimp only at hSw); go_simp; all_goals with_reducible rfl
    try simp only [Act.put, List.setIfInBounds_toArray, List.set_cons_zero, List.set_cons_succ]
    refine rg_take (i := 41) (some 112) (v := ?_) rfl rfl (by kernel_rfl) (by rfl) hQ7 hHeld ?_ ?_
    rotate_left
    · intro w7 hSw; (try dsimp only at hSw); go_simp; all_goals with_reducible rfl
    try simp only [Act.put, List.setIfInBounds_toArray, List.set_cons_zero, List.set_cons_succ]
    refine rg_take (i := 42) (some 113) (v := ?_) rfl rfl (by kernel_rfl) (by rfl) hQ7 hHeld ?_ ?_
    rotate_left
    · intro w7 hSw; (try dsimp only at hSw); go_simp; all_goals with_reducible rfl
    try simp only [Act.put, List.setIfInBounds_toArray, List.set_cons_zero, List.set_cons_succ]
    refine rg_end (by kernel_rfl) (hN7 _ _ ?_) _
    clear hQ7 hN7 Q7
    have BX := hHeld.1
    clear SS
    go_wp2_with fail
    replace E := Lib.hid (ext_trans E.out BX)
    replace HB := Lib.hid (HB.out.ext BX)
    replace BB := Lib.hid (BB.out.ext BX)
    replace X := Lib.hid (X.out.ext BX)
    replace Nm1 := Lib.hid (Nm1.out.ext BX)
    replace X1b := Lib.hid (X1b.out.ext BX)
    replace Y1 := Lib.hid (Y1.out.ext BX)
    replace Nm3 := Lib.hid (Nm3.out.ext BX)
    replace X3b := Lib.hid (X3b.out.ext BX)
    replace Nm5 := Lib.hid (Nm5.out.ext BX)
    replace X5b := Lib.hid (X5b.out.ext BX)
    replace Y5 := Lib.hid (Y5.out.ext BX)
    replace Nm6 := Lib.hid (Nm6.out.ext BX)
    replace X6b := Lib.hid (X6b.out.ext BX)
    clear BX
    go_meet
    case rel => exact ⟨rfl, E, HB, BB, X, Nm1, X1b, Y1, Nm3, X3b, Nm5, X5b, Y5, Nm6, X6b⟩
  clear E HB BB X Nm1 X1b Y1 Nm3 X3b Nm5 X5b Y5 Nm6 X6b
  case rest =>
    obtain ⟨rfl, E, HB, BB, X, Nm1, X1b, Y1, Nm3, X3b, Nm5, X5b, Y5, Nm6, X6b⟩ := hcut
    go_upto_if 115 with fail
    go_cut [] from 300 (fun wc => Hid (Below w.heap.size w wc) ∧ Hid (BOk wc b) ∧ Hid (Blk wc (w.heap.size) [.int .i64 b.own, .int .i64 b.ot, .slice b.ag.A b.ag.l.length b.ag.c, .slice b.op.A b.op.l.length b.op.c]) ∧ Hid (Blk wc (w.heap.size + 1) [.int .i64 a.no, .int .i64 a.f, .int .i64 a.t, .int .i64 a.m, .int .i64 a.r]) ∧ Hid (BOk wc m1) ∧ Hid (Blk wc (v4.heap.size) [.int .i64 m1.own, .int .i64 m1.ot, .slice m1.ag.A m1.ag.l.length m1.ag.c, .slice m1.op.A m1.op.l.length m1.op.c]) ∧ Hid (Blk wc (v4.heap.size + 1) [.int .i64 A0.no, .int .i64 A0.f, .int .i64 A0.t, .int .i64 A0.m, .int .i64 A0.r]) ∧ Hid (BOk wc m3) ∧ Hid (Blk wc (v5.heap.size) [.int .i64 m3.own, .int .i64 m3.ot, .slice m3.ag.A m3.ag.l.length m3.ag.c, .slice m3.op.A m3.op.l.length m3.op.c]) ∧ Hid (BOk wc m5) ∧ Hid (Blk wc (v6.heap.size) [.int .i64 m5.own, .int .i64 m5.ot, .slice m5.ag.A m5.ag.l.length m5.ag.c, .slice m5.op.A m5.op.l.length m5.op.c]) ∧ Hid (Blk wc (v6.heap.size + 1) [.int .i64 A2.no, .int .i64 A2.f, .int .i64 A2.t, .int .i64 A2.m, .int .i64 A2.r]) ∧ Hid (BOk wc m6) ∧ Hid (Blk wc (v7.heap.size) [.int .i64 m6.own, .int .i64 m6.ot, .slice m6.ag.A m6.ag.l.length m6.ag.c, .slice m6.op.A m6.op.l.length m6.op.c]))
    case first =>
      by_cases he : E1 = 0
      rotate_left
      · have f0 : (E1 == 0) = false := by simp [he]
        clear he
        go_wp2_with fail
        go_meet
        case rel => exact ⟨E, HB, BB, X, Nm1, X1b, Y1, Nm3, X3b, Nm5, X5b, Y5, Nm6, X6b⟩
      have GG := Lib.hid (G1.out he)
      subst he
      have c0 := X3b.out.c 0 _ rfl
      have c1 := X3b.out.c 1 _ rfl
      have c2 := X3b.out.c 2 _ rfl
      have c3 := X3b.out.c 3 _ rfl
      have c4 := X.out.c 0 _ rfl
      have c5 := X.out.c 1 _ rfl
      have c6 := X.out.c 2 _ rfl
      have c7 := X.out.c 3 _ rfl
      have c8 := X.out.c 4 _ rfl
      go_wp2_with fail
      refine (hear_at (b := m3) (a := a) X1 0 (by rw [Hm3.out]; exact GG.out.2.2.2) (by rw [Hm3.out]; exact GG.out.2.2.1) Nm3.out (lens_of Hm3.out (L1.out.up (by decide)))).mono ?_
      rintro e v8 ⟨m7, rfl, hm, hk, B, -⟩
      clear c0 c1 c2 c3 c4 c5 c6 c7 c8
      replace E := Lib.hid (ext_trans E.out B)
      replace HB := Lib.hid (HB.out.ext B)
      replace BB := Lib.hid (BB.out.ext B)
      replace X := Lib.hid (X.out.ext B)
      replace Nm1 := Lib.hid (Nm1.out.ext B)
      replace X1b := Lib.hid (X1b.out.ext B)
      replace Y1 := Lib.hid (Y1.out.ext B)
      replace Nm3 := Lib.hid (Nm3.out.ext B)
      replace X3b := Lib.hid (X3b.out.ext B)
      replace Nm5 := Lib.hid (Nm5.out.ext B)
      replace X5b := Lib.hid (X5b.out.ext B)
      replace Y5 := Lib.hid (Y5.out.ext B)
      replace Nm6 := Lib.hid (Nm6.out.ext B)
      replace X6b := Lib.hid (X6b.out.ext B)
      clear B
      have Hm7 := Lib.hid hm
      clear hm
      have Nm7 := Lib.hid hk
      clear hk
      replace E := Lib.hid (ext_alloc E.out (.cells #[.int .i64 m7.own, .int .i64 m7.ot, .slice m7.ag.A m7.ag.l.length m7.ag.c, .slice m7.op.A m7.op.l.length m7.op.c] 24))
      replace HB := Lib.hid (HB.out.alloc (.cells #[.int .i64 m7.own, .int .i64 m7.ot, .slice m7.ag.A m7.ag.l.length m7.ag.c, .slice m7.op.A m7.op.l.length m7.op.c] 24))
      replace BB := Lib.hid (BB.out.alloc (.cells #[.int .i64 m7.own, .int .i64 m7.ot, .slice m7.ag.A m7.ag.l.length m7.ag.c, .slice m7.op.A m7.op.l.length m7.op.c] 24))
      replace X := Lib.hid (X.out.alloc (.cells #[.int .i64 m7.own, .int .i64 m7.ot, .slice m7.ag.A m7.ag.l.length m7.ag.c, .slice m7.op.A m7.op.l.length m7.op.c] 24))
      replace Nm1 := Lib.hid (Nm1.out.alloc (.cells #[.int .i64 m7.own, .int .i64 m7.ot, .slice m7.ag.A m7.ag.l.length m7.ag.c, .slice m7.op.A m7.op.l.length m7.op.c] 24))
      replace X1b := Lib.hid (X1b.out.alloc (.cells #[.int .i64 m7.own, .int .i64 m7.ot, .slice m7.ag.A m7.ag.l.length m7.ag.c, .slice m7.op.A m7.op.l.length m7.op.c] 24))
      replace Y1 := Lib.hid (Y1.out.alloc (.cells #[.int .i64 m7.own, .int .i64 m7.ot, .slice m7.ag.A m7.ag.l.length m7.ag.c, .slice m7.op.A m7.op.l.length m7.op.c] 24))
      replace Nm3 := Lib.hid (Nm3.out.alloc (.cells #[.int .i64 m7.own, .int .i64 m7.ot, .slice m7.ag.A m7.ag.l.length m7.ag.c, .slice m7.op.A m7.op.l.length m7.op.c] 24))
      replace X3b := Lib.hid (X3b.out.alloc (.cells #[.int .i64 m7.own, .int .i64 m7.ot, .slice m7.ag.A m7.ag.l.length m7.ag.c, .slice m7.op.A m7.op.l.length m7.op.c] 24))
      replace Nm5 := Lib.hid (Nm5.out.alloc (.cells #[.int .i64 m7.own, .int .i64 m7.ot, .slice m7.ag.A m7.ag.l.length m7.ag.c, .slice m7.op.A m7.op.l.length m7.op.c] 24))
      replace X5b := Lib.hid (X5b.out.alloc (.cells #[.int .i64 m7.own, .int .i64 m7.ot, .slice m7.ag.A m7.ag.l.length m7.ag.c, .slice m7.op.A m7.op.l.length m7.op.c] 24))
      replace Y5 := Lib.hid (Y5.out.alloc (.cells #[.int .i64 m7.own, .int .i64 m7.ot, .slice m7.ag.A m7.ag.l.length m7.ag.c, .slice m7.op.A m7.op.l.length m7.op.c] 24))
      replace Nm6 := Lib.hid (Nm6.out.alloc (.cells #[.int .i64 m7.own, .int .i64 m7.ot, .slice m7.ag.A m7.ag.l.length m7.ag.c, .slice m7.op.A m7.op.l.length m7.op.c] 24))
      replace X6b := Lib.hid (X6b.out.alloc (.cells #[.int .i64 m7.own, .int .i64 m7.ot, .slice m7.ag.A m7.ag.l.length m7.ag.c, .slice m7.op.A m7.op.l.length m7.op.c] 24))
      replace Nm7 := Lib.hid (Nm7.out.alloc (.cells #[.int .i64 m7.own, .int .i64 m7.ot, .slice m7.ag.A m7.ag.l.length m7.ag.c, .slice m7.op.A m7.op.l.length m7.op.c] 24))
      have X7b := Lib.hid (Blk.newH v8 [.int .i64 m7.own, .int .i64 m7.ot, .slice m7.ag.A m7.ag.l.length m7.ag.c, .slice m7.op.A m7.op.l.length m7.op.c] 24 (v8.heap.size) (by first | rfl | simp))
      have c0 := X7b.out.c 0 _ rfl
      have c1 := X7b.out.c 1 _ rfl
      have c2 := X7b.out.c 2 _ rfl
      have c3 := X7b.out.c 3 _ rfl
      have c4 := X3b.out.c 0 _ rfl
      have c5 := X3b.out.c 1 _ rfl
      have c6 := X3b.out.c 2 _ rfl
      have c7 := X3b.out.c 3 _ rfl
      go_wp2_with fail
      refine (sameB_at (a := m7) (b := m3) true (by rw [Hm7.out, Hm3.out]; simp) Nm7.out Nm3.out (by have := L1.out; rw [← Hm7.out] at this; exact ⟨by have := this.1; show m7.ag.l.length < _; simp only [Bd.bl] at this; omega, by have := this.2; show m7.op.l.length < _; simp only [Bd.bl] at this; omega⟩)).mono ?_
      rintro e v9 ⟨rfl, B⟩
      clear c0 c1 c2 c3 c4 c5 c6 c7
      replace E := Lib.hid (ext_trans E.out B)
      replace HB := Lib.hid (HB.out.ext B)
      replace BB := Lib.hid (BB.out.ext B)
      replace X := Lib.hid (X.out.ext B)
      replace Nm1 := Lib.hid (Nm1.out.ext B)
      replace X1b := Lib.hid (X1b.out.ext B)
      replace Y1 := Lib.hid (Y1.out.ext B)
      replace Nm3 := Lib.hid (Nm3.out.ext B)
      replace X3b := Lib.hid (X3b.out.ext B)
      replace Nm5 := Lib.hid (Nm5.out.ext B)
      replace X5b := Lib.hid (X5b.out.ext B)
      replace Y5 := Lib.hid (Y5.out.ext B)
      replace Nm6 := Lib.hid (Nm6.out.ext B)
      replace X6b := Lib.hid (X6b.out.ext B)
      replace Nm7 := Lib.hid (Nm7.out.ext B)
      replace X7b := Lib.hid (X7b.out.ext B)
      clear B
      have c0 := X3b.out.c 2 _ rfl
      have c1 := BB.out.c 2 _ rfl
      go_wp2_with fail
      refine (sameAg true (by rw [show m3.ag.l = X1.ag from congrArg Bl.ag Hm3.out, GG.out.2.1]; simp) rfl rfl Nm3.out.ag HB.out.ag (by have := (LenS.few HF.out).1; simp only [Bd.bl] at this; rw [show m3.ag.l = X1.ag from congrArg Bl.ag Hm3.out, GG.out.2.1]; omega)).mono ?_
      rintro e v10 ⟨rfl, B⟩
      clear c0 c1
      replace E := Lib.hid (ext_trans E.out B)
      replace HB := Lib.hid (HB.out.ext B)
      replace BB := Lib.hid (BB.out.ext B)
      replace X := Lib.hid (X.out.ext B)
      replace Nm1 := Lib.hid (Nm1.out.ext B)
      replace X1b := Lib.hid (X1b.out.ext B)
      replace Y1 := Lib.hid (Y1.out.ext B)
      replace Nm3 := Lib.hid (Nm3.out.ext B)
      replace X3b := Lib.hid (X3b.out.ext B)
      replace Nm5 := Lib.hid (Nm5.out.ext B)
      replace X5b := Lib.hid (X5b.out.ext B)
      replace Y5 := Lib.hid (Y5.out.ext B)
      replace Nm6 := Lib.hid (Nm6.out.ext B)
      replace X6b := Lib.hid (X6b.out.ext B)
      replace Nm7 := Lib.hid (Nm7.out.ext B)
      replace X7b := Lib.hid (X7b.out.ext B)
      clear B
      go_wp2_with fail
      go_meet
      case rel => exact ⟨E, HB, BB, X, Nm1, X1b, Y1, Nm3, X3b, Nm5, X5b, Y5, Nm6, X6b⟩
    clear E HB BB X Nm1 X1b Y1 Nm3 X3b Nm5 X5b Y5 Nm6 X6b
    case rest =>
      obtain ⟨E, HB, BB, X, Nm1, X1b, Y1, Nm3, X3b, Nm5, X5b, Y5, Nm6, X6b⟩ := hcut
      go_upto_if 139 with fail
      go_cut [] from 300 (fun wc => Hid (Below w.heap.size w wc) ∧ Hid (BOk wc b) ∧ Hid (Blk wc (w.heap.size) [.int .i64 b.own, .int .i64 b.ot, .slice b.ag.A b.ag.l.length b.ag.c, .slice b.op.A b.op.l.length b.op.c]) ∧ Hid (Blk wc (w.heap.size + 1) [.int .i64 a.no, .int .i64 a.f, .int .i64 a.t, .int .i64 a.m, .int .i64 a.r]) ∧ Hid (BOk wc m1) ∧ Hid (Blk wc (v4.heap.size) [.int .i64 m1.own, .int .i64 m1.ot, .slice m1.ag.A m1.ag.l.length m1.ag.c, .slice m1.op.A m1.op.l.length m1.op.c]) ∧ Hid (Blk wc (v4.heap.size + 1) [.int .i64 A0.no, .int .i64 A0.f, .int .i64 A0.t, .int .i64 A0.m, .int .i64 A0.r]) ∧ Hid (BOk wc m3) ∧ Hid (Blk wc (v5.heap.size) [.int .i64 m3.own, .int .i64 m3.ot, .slice m3.ag.A m3.ag.l.length m3.ag.c, .slice m3.op.A m3.op.l.length m3.op.c]) ∧ Hid (BOk wc m5) ∧ Hid (Blk wc (v6.heap.size) [.int .i64 m5.own, .int .i64 m5.ot, .slice m5.ag.A m5.ag.l.length m5.ag.c, .slice m5.op.A m5.op.l.length m5.op.c]) ∧ Hid (Blk wc (v6.heap.size + 1) [.int .i64 A2.no, .int .i64 A2.f, .int .i64 A2.t, .int .i64 A2.m, .int .i64 A2.r]) ∧ Hid (BOk wc m6) ∧ Hid (Blk wc (v7.heap.size) [.int .i64 m6.own, .int .i64 m6.ot, .slice m6.ag.A m6.ag.l.length m6.ag.c, .slice m6.op.A m6.op.l.length m6.op.c]))
      case first =>
        by_cases he : E2 = 0
        rotate_left
        · have f0 : (E2 == 0) = false := by simp [he]
          clear he
          go_wp2_with fail
          go_meet
          case rel => exact ⟨E, HB, BB, X, Nm1, X1b, Y1, Nm3, X3b, Nm5, X5b, Y5, Nm6, X6b⟩
        have GG := Lib.hid (G2.out he)
        subst he
        have c0 := X5b.out.c 0 _ rfl
        have c1 := X5b.out.c 1 _ rfl
        have c2 := X5b.out.c 2 _ rfl
        have c3 := X5b.out.c 3 _ rfl
        go_wp2_with fail
        refine (accept_at (b := m5) (no := no) X2 A2 0 (by rw [Hm5.out]; exact GG.out.2.2.2.2.1) (by rw [Hm5.out]; exact GG.out.2.2.2.2.2) (by rw [Hm5.out]; exact GG.out.2.2.2.1) Nm5.out (lens_of Hm5.out (L2.out.up (by decide)))).mono ?_
        rintro e v8 ⟨m8, rfl, hm, hk, B, -⟩
        clear c0 c1 c2 c3
        replace E := Lib.hid (ext_trans E.out B)
        replace HB := Lib.hid (HB.out.ext B)
        replace BB := Lib.hid (BB.out.ext B)
        replace X := Lib.hid (X.out.ext B)
        replace Nm1 := Lib.hid (Nm1.out.ext B)
        replace X1b := Lib.hid (X1b.out.ext B)
        replace Y1 := Lib.hid (Y1.out.ext B)
        replace Nm3 := Lib.hid (Nm3.out.ext B)
        replace X3b := Lib.hid (X3b.out.ext B)
        replace Nm5 := Lib.hid (Nm5.out.ext B)
        replace X5b := Lib.hid (X5b.out.ext B)
        replace Y5 := Lib.hid (Y5.out.ext B)
        replace Nm6 := Lib.hid (Nm6.out.ext B)
        replace X6b := Lib.hid (X6b.out.ext B)
        clear B
        have Hm8 := Lib.hid hm
        clear hm
        have Nm8 := Lib.hid hk
        clear hk
        replace E := Lib.hid (ext_alloc E.out (.cells #[.int .i64 m8.own, .int .i64 m8.ot, .slice m8.ag.A m8.ag.l.length m8.ag.c, .slice m8.op.A m8.op.l.length m8.op.c] 24))
        replace HB := Lib.hid (HB.out.alloc (.cells #[.int .i64 m8.own, .int .i64 m8.ot, .slice m8.ag.A m8.ag.l.length m8.ag.c, .slice m8.op.A m8.op.l.length m8.op.c] 24))
        replace BB := Lib.hid (BB.out.alloc (.cells #[.int .i64 m8.own, .int .i64 m8.ot, .slice m8.ag.A m8.ag.l.length m8.ag.c, .slice m8.op.A m8.op.l.length m8.op.c] 24))
        replace X := Lib.hid (X.out.alloc (.cells #[.int .i64 m8.own, .int .i64 m8.ot, .slice m8.ag.A m8.ag.l.length m8.ag.c, .slice m8.op.A m8.op.l.length m8.op.c] 24))
        replace Nm1 := Lib.hid (Nm1.out.alloc (.cells #[.int .i64 m8.own, .int .i64 m8.ot, .slice m8.ag.A m8.ag.l.length m8.ag.c, .slice m8.op.A m8.op.l.length m8.op.c] 24))
        replace X1b := Lib.hid (X1b.out.alloc (.cells #[.int .i64 m8.own, .int .i64 m8.ot, .slice m8.ag.A m8.ag.l.length m8.ag.c, .slice m8.op.A m8.op.l.length m8.op.c] 24))
        replace Y1 := Lib.hid (Y1.out.alloc (.cells #[.int .i64 m8.own, .int .i64 m8.ot, .slice m8.ag.A m8.ag.l.length m8.ag.c, .slice m8.op.A m8.op.l.length m8.op.c] 24))
        replace Nm3 := Lib.hid (Nm3.out.alloc (.cells #[.int .i64 m8.own, .int .i64 m8.ot, .slice m8.ag.A m8.ag.l.length m8.ag.c, .slice m8.op.A m8.op.l.length m8.op.c] 24))
        replace X3b := Lib.hid (X3b.out.alloc (.cells #[.int .i64 m8.own, .int .i64 m8.ot, .slice m8.ag.A m8.ag.l.length m8.ag.c, .slice m8.op.A m8.op.l.length m8.op.c] 24))
        replace Nm5 := Lib.hid (Nm5.out.alloc (.cells #[.int .i64 m8.own, .int .i64 m8.ot, .slice m8.ag.A m8.ag.l.length m8.ag.c, .slice m8.op.A m8.op.l.length m8.op.c] 24))
        replace X5b := Lib.hid (X5b.out.alloc (.cells #[.int .i64 m8.own, .int .i64 m8.ot, .slice m8.ag.A m8.ag.l.length m8.ag.c, .slice m8.op.A m8.op.l.length m8.op.c] 24))
        replace Y5 := Lib.hid (Y5.out.alloc (.cells #[.int .i64 m8.own, .int .i64 m8.ot, .slice m8.ag.A m8.ag.l.length m8.ag.c, .slice m8.op.A m8.op.l.length m8.op.c] 24))
        replace Nm6 := Lib.hid (Nm6.out.alloc (.cells #[.int .i64 m8.own, .int .i64 m8.ot, .slice m8.ag.A m8.ag.l.length m8.ag.c, .slice m8.op.A m8.op.l.length m8.op.c] 24))
        replace X6b := Lib.hid (X6b.out.alloc (.cells #[.int .i64 m8.own, .int .i64 m8.ot, .slice m8.ag.A m8.ag.l.length m8.ag.c, .slice m8.op.A m8.op.l.length m8.op.c] 24))
        replace Nm8 := Lib.hid (Nm8.out.alloc (.cells #[.int .i64 m8.own, .int .i64 m8.ot, .slice m8.ag.A m8.ag.l.length m8.ag.c, .slice m8.op.A m8.op.l.length m8.op.c] 24))
        have X8b := Lib.hid (Blk.newH v8 [.int .i64 m8.own, .int .i64 m8.ot, .slice m8.ag.A m8.ag.l.length m8.ag.c, .slice m8.op.A m8.op.l.length m8.op.c] 24 (v8.heap.size) (by first | rfl | simp))
        replace E := Lib.hid (ext_alloc E.out (.cells #[.int .i64 A2.no, .int .i64 A2.f, .int .i64 A2.t, .int .i64 A2.m, .int .i64 A2.r] 26))
        replace HB := Lib.hid (HB.out.alloc (.cells #[.int .i64 A2.no, .int .i64 A2.f, .int .i64 A2.t, .int .i64 A2.m, .int .i64 A2.r] 26))
        replace BB := Lib.hid (BB.out.alloc (.cells #[.int .i64 A2.no, .int .i64 A2.f, .int .i64 A2.t, .int .i64 A2.m, .int .i64 A2.r] 26))
        replace X := Lib.hid (X.out.alloc (.cells #[.int .i64 A2.no, .int .i64 A2.f, .int .i64 A2.t, .int .i64 A2.m, .int .i64 A2.r] 26))
        replace Nm1 := Lib.hid (Nm1.out.alloc (.cells #[.int .i64 A2.no, .int .i64 A2.f, .int .i64 A2.t, .int .i64 A2.m, .int .i64 A2.r] 26))
        replace X1b := Lib.hid (X1b.out.alloc (.cells #[.int .i64 A2.no, .int .i64 A2.f, .int .i64 A2.t, .int .i64 A2.m, .int .i64 A2.r] 26))
        replace Y1 := Lib.hid (Y1.out.alloc (.cells #[.int .i64 A2.no, .int .i64 A2.f, .int .i64 A2.t, .int .i64 A2.m, .int .i64 A2.r] 26))
        replace Nm3 := Lib.hid (Nm3.out.alloc (.cells #[.int .i64 A2.no, .int .i64 A2.f, .int .i64 A2.t, .int .i64 A2.m, .int .i64 A2.r] 26))
        replace X3b := Lib.hid (X3b.out.alloc (.cells #[.int .i64 A2.no, .int .i64 A2.f, .int .i64 A2.t, .int .i64 A2.m, .int .i64 A2.r] 26))
        replace Nm5 := Lib.hid (Nm5.out.alloc (.cells #[.int .i64 A2.no, .int .i64 A2.f, .int .i64 A2.t, .int .i64 A2.m, .int .i64 A2.r] 26))
        replace X5b := Lib.hid (X5b.out.alloc (.cells #[.int .i64 A2.no, .int .i64 A2.f, .int .i64 A2.t, .int .i64 A2.m, .int .i64 A2.r] 26))
        replace Y5 := Lib.hid (Y5.out.alloc (.cells #[.int .i64 A2.no, .int .i64 A2.f, .int .i64 A2.t, .int .i64 A2.m, .int .i64 A2.r] 26))
        replace Nm6 := Lib.hid (Nm6.out.alloc (.cells #[.int .i64 A2.no, .int .i64 A2.f, .int .i64 A2.t, .int .i64 A2.m, .int .i64 A2.r] 26))
        replace X6b := Lib.hid (X6b.out.alloc (.cells #[.int .i64 A2.no, .int .i64 A2.f, .int .i64 A2.t, .int .i64 A2.m, .int .i64 A2.r] 26))
        replace Nm8 := Lib.hid (Nm8.out.alloc (.cells #[.int .i64 A2.no, .int .i64 A2.f, .int .i64 A2.t, .int .i64 A2.m, .int .i64 A2.r] 26))
        replace X8b := Lib.hid (X8b.out.alloc (.cells #[.int .i64 A2.no, .int .i64 A2.f, .int .i64 A2.t, .int .i64 A2.m, .int .i64 A2.r] 26))
        have Y8 := Lib.hid (Blk.newH (v8.alloc (.cells #[.int .i64 m8.own, .int .i64 m8.ot, .slice m8.ag.A m8.ag.l.length m8.ag.c, .slice m8.op.A m8.op.l.length m8.op.c] 24)) [.int .i64 A2.no, .int .i64 A2.f, .int .i64 A2.t, .int .i64 A2.m, .int .i64 A2.r] 26 (v8.heap.size + 1) (by first | rfl | simp))
        have c0 := X8b.out.c 0 _ rfl
        have c1 := X8b.out.c 1 _ rfl
        have c2 := X8b.out.c 2 _ rfl
        have c3 := X8b.out.c 3 _ rfl
        have c4 := X5b.out.c 0 _ rfl
        have c5 := X5b.out.c 1 _ rfl
        have c6 := X5b.out.c 2 _ rfl
        have c7 := X5b.out.c 3 _ rfl
        go_wp2_with fail
        refine (sameB_at (a := m8) (b := m5) true (by rw [Hm8.out, Hm5.out]; simp) Nm8.out Nm5.out (by have := L2.out; rw [← Hm8.out] at this; exact ⟨by have := this.1; show m8.ag.l.length < _; simp only [Bd.bl] at this; omega, by have := this.2; show m8.op.l.length < _; simp only [Bd.bl] at this; omega⟩)).mono ?_
        rintro e v9 ⟨rfl, B⟩
        clear c0 c1 c2 c3 c4 c5 c6 c7
        replace E := Lib.hid (ext_trans E.out B)
        replace HB := Lib.hid (HB.out.ext B)
        replace BB := Lib.hid (BB.out.ext B)
        replace X := Lib.hid (X.out.ext B)
        replace Nm1 := Lib.hid (Nm1.out.ext B)
        replace X1b := Lib.hid (X1b.out.ext B)
        replace Y1 := Lib.hid (Y1.out.ext B)
        replace Nm3 := Lib.hid (Nm3.out.ext B)
        replace X3b := Lib.hid (X3b.out.ext B)
        replace Nm5 := Lib.hid (Nm5.out.ext B)
        replace X5b := Lib.hid (X5b.out.ext B)
        replace Y5 := Lib.hid (Y5.out.ext B)
        replace Nm6 := Lib.hid (Nm6.out.ext B)
        replace X6b := Lib.hid (X6b.out.ext B)
        replace Nm8 := Lib.hid (Nm8.out.ext B)
        replace X8b := Lib.hid (X8b.out.ext B)
        replace Y8 := Lib.hid (Y8.out.ext B)
        clear B
        have hneq := fun w => neq26_self A2 w
        have y80 := Y8.out.c 0 _ rfl
        have y81 := Y8.out.c 1 _ rfl
        have y82 := Y8.out.c 2 _ rfl
        have y83 := Y8.out.c 3 _ rfl
        have y84 := Y8.out.c 4 _ rfl
        have y8f := Y8.out.f
        have y8l := Y8.out.lt
        have c0 := X5b.out.c 2 _ rfl
        have c1 := Y5.out.c 0 _ rfl
        have c2 := Y5.out.c 1 _ rfl
        have c3 := Y5.out.c 2 _ rfl
        have c4 := Y5.out.c 3 _ rfl
        have c5 := Y5.out.c 4 _ rfl
        go_wp2_with fail
        refine (has_at (x := A2) true (has_mem (by rw [show m5.ag.l = X2.ag from congrArg Bl.ag Hm5.out]; exact GG.out.2.1)) rfl Nm5.out.ag (maxLen_of Nm5.out.agl Nm5.out.agc)).mono ?_
        rintro e v10 ⟨rfl, B⟩
        clear c0 c1 c2 c3 c4 c5
        replace E := Lib.hid (ext_trans E.out B)
        replace HB := Lib.hid (HB.out.ext B)
        replace BB := Lib.hid (BB.out.ext B)
        replace X := Lib.hid (X.out.ext B)
        replace Nm1 := Lib.hid (Nm1.out.ext B)
        replace X1b := Lib.hid (X1b.out.ext B)
        replace Y1 := Lib.hid (Y1.out.ext B)
        replace Nm3 := Lib.hid (Nm3.out.ext B)
        replace X3b := Lib.hid (X3b.out.ext B)
        replace Nm5 := Lib.hid (Nm5.out.ext B)
        replace X5b := Lib.hid (X5b.out.ext B)
        replace Y5 := Lib.hid (Y5.out.ext B)
        replace Nm6 := Lib.hid (Nm6.out.ext B)
        replace X6b := Lib.hid (X6b.out.ext B)
        replace Nm8 := Lib.hid (Nm8.out.ext B)
        replace X8b := Lib.hid (X8b.out.ext B)
        replace Y8 := Lib.hid (Y8.out.ext B)
        clear B
        clear hneq
        clear y80 y81 y82 y83 y84 y8f y8l
        have hno : (A2.no != no) = false := by simp [GG.out.2.2.1]
        have y0 := Y5.out.c 0 _ rfl
        go_wp2_with fail
        go_meet
        case rel => exact ⟨E, HB, BB, X, Nm1, X1b, Y1, Nm3, X3b, Nm5, X5b, Y5, Nm6, X6b⟩
      clear E HB BB X Nm1 X1b Y1 Nm3 X3b Nm5 X5b Y5 Nm6 X6b
      case rest =>
        obtain ⟨E, HB, BB, X, Nm1, X1b, Y1, Nm3, X3b, Nm5, X5b, Y5, Nm6, X6b⟩ := hcut
        go_upto_if 174 with fail
        go_cut [] from 300 (fun wc => Hid (Below w.heap.size w wc) ∧ Hid (BOk wc b) ∧ Hid (Blk wc (w.heap.size) [.int .i64 b.own, .int .i64 b.ot, .slice b.ag.A b.ag.l.length b.ag.c, .slice b.op.A b.op.l.length b.op.c]) ∧ Hid (Blk wc (w.heap.size + 1) [.int .i64 a.no, .int .i64 a.f, .int .i64 a.t, .int .i64 a.m, .int .i64 a.r]) ∧ Hid (BOk wc m1) ∧ Hid (Blk wc (v4.heap.size) [.int .i64 m1.own, .int .i64 m1.ot, .slice m1.ag.A m1.ag.l.length m1.ag.c, .slice m1.op.A m1.op.l.length m1.op.c]) ∧ Hid (Blk wc (v4.heap.size + 1) [.int .i64 A0.no, .int .i64 A0.f, .int .i64 A0.t, .int .i64 A0.m, .int .i64 A0.r]) ∧ Hid (BOk wc m3) ∧ Hid (Blk wc (v5.heap.size) [.int .i64 m3.own, .int .i64 m3.ot, .slice m3.ag.A m3.ag.l.length m3.ag.c, .slice m3.op.A m3.op.l.length m3.op.c]) ∧ Hid (BOk wc m5) ∧ Hid (Blk wc (v6.heap.size) [.int .i64 m5.own, .int .i64 m5.ot, .slice m5.ag.A m5.ag.l.length m5.ag.c, .slice m5.op.A m5.op.l.length m5.op.c]) ∧ Hid (Blk wc (v6.heap.size + 1) [.int .i64 A2.no, .int .i64 A2.f, .int .i64 A2.t, .int .i64 A2.m, .int .i64 A2.r]) ∧ Hid (BOk wc m6) ∧ Hid (Blk wc (v7.heap.size) [.int .i64 m6.own, .int .i64 m6.ot, .slice m6.ag.A m6.ag.l.length m6.ag.c, .slice m6.op.A m6.op.l.length m6.op.c]))
        case first =>
          by_cases he : E3 = 0
          rotate_left
          · have f0 : (E3 == 0) = false := by simp [he]
            clear he
            go_wp2_with fail
            go_meet
            case rel => exact ⟨E, HB, BB, X, Nm1, X1b, Y1, Nm3, X3b, Nm5, X5b, Y5, Nm6, X6b⟩
          have GG := Lib.hid (G3.out he)
          subst he
          have c0 := X6b.out.c 0 _ rfl
          have c1 := X6b.out.c 1 _ rfl
          have c2 := X6b.out.c 2 _ rfl
          have c3 := X6b.out.c 3 _ rfl
          have c4 := X.out.c 0 _ rfl
          have c5 := X.out.c 1 _ rfl
          have c6 := X.out.c 2 _ rfl
          have c7 := X.out.c 3 _ rfl
          have c8 := X.out.c 4 _ rfl
          go_wp2_with fail
          refine (confirm_at (b := m6) (a := a) X3 0 (by rw [Hm6.out]; exact GG.out.2.2.2) (by rw [Hm6.out]; exact GG.out.2.2.1) Nm6.out (lens_of Hm6.out (L3.out.up (by decide)))).mono ?_
          rintro e v8 ⟨m9, rfl, hm, hk, B, -⟩
          clear c0 c1 c2 c3 c4 c5 c6 c7 c8
          replace E := Lib.hid (ext_trans E.out B)
          replace HB := Lib.hid (HB.out.ext B)
          replace BB := Lib.hid (BB.out.ext B)
          replace X := Lib.hid (X.out.ext B)
          replace Nm1 := Lib.hid (Nm1.out.ext B)
          replace X1b := Lib.hid (X1b.out.ext B)
          replace Y1 := Lib.hid (Y1.out.ext B)
          replace Nm3 := Lib.hid (Nm3.out.ext B)
          replace X3b := Lib.hid (X3b.out.ext B)
          replace Nm5 := Lib.hid (Nm5.out.ext B)
          replace X5b := Lib.hid (X5b.out.ext B)
          replace Y5 := Lib.hid (Y5.out.ext B)
          replace Nm6 := Lib.hid (Nm6.out.ext B)
          replace X6b := Lib.hid (X6b.out.ext B)
          clear B
          have Hm9 := Lib.hid hm
          clear hm
          have Nm9 := Lib.hid hk
          clear hk
          replace E := Lib.hid (ext_alloc E.out (.cells #[.int .i64 m9.own, .int .i64 m9.ot, .slice m9.ag.A m9.ag.l.length m9.ag.c, .slice m9.op.A m9.op.l.length m9.op.c] 24))
          replace HB := Lib.hid (HB.out.alloc (.cells #[.int .i64 m9.own, .int .i64 m9.ot, .slice m9.ag.A m9.ag.l.length m9.ag.c, .slice m9.op.A m9.op.l.length m9.op.c] 24))
          replace BB := Lib.hid (BB.out.alloc (.cells #[.int .i64 m9.own, .int .i64 m9.ot, .slice m9.ag.A m9.ag.l.length m9.ag.c, .slice m9.op.A m9.op.l.length m9.op.c] 24))
          replace X := Lib.hid (X.out.alloc (.cells #[.int .i64 m9.own, .int .i64 m9.ot, .slice m9.ag.A m9.ag.l.length m9.ag.c, .slice m9.op.A m9.op.l.length m9.op.c] 24))
          replace Nm1 := Lib.hid (Nm1.out.alloc (.cells #[.int .i64 m9.own, .int .i64 m9.ot, .slice m9.ag.A m9.ag.l.length m9.ag.c, .slice m9.op.A m9.op.l.length m9.op.c] 24))
          replace X1b := Lib.hid (X1b.out.alloc (.cells #[.int .i64 m9.own, .int .i64 m9.ot, .slice m9.ag.A m9.ag.l.length m9.ag.c, .slice m9.op.A m9.op.l.length m9.op.c] 24))
          replace Y1 := Lib.hid (Y1.out.alloc (.cells #[.int .i64 m9.own, .int .i64 m9.ot, .slice m9.ag.A m9.ag.l.length m9.ag.c, .slice m9.op.A m9.op.l.length m9.op.c] 24))
          replace Nm3 := Lib.hid (Nm3.out.alloc (.cells #[.int .i64 m9.own, .int .i64 m9.ot, .slice m9.ag.A m9.ag.l.length m9.ag.c, .slice m9.op.A m9.op.l.length m9.op.c] 24))
          replace X3b := Lib.hid (X3b.out.alloc (.cells #[.int .i64 m9.own, .int .i64 m9.ot, .slice m9.ag.A m9.ag.l.length m9.ag.c, .slice m9.op.A m9.op.l.length m9.op.c] 24))
          replace Nm5 := Lib.hid (Nm5.out.alloc (.cells #[.int .i64 m9.own, .int .i64 m9.ot, .slice m9.ag.A m9.ag.l.length m9.ag.c, .slice m9.op.A m9.op.l.length m9.op.c] 24))
          replace X5b := Lib.hid (X5b.out.alloc (.cells #[.int .i64 m9.own, .int .i64 m9.ot, .slice m9.ag.A m9.ag.l.length m9.ag.c, .slice m9.op.A m9.op.l.length m9.op.c] 24))
          replace Y5 := Lib.hid (Y5.out.alloc (.cells #[.int .i64 m9.own, .int .i64 m9.ot, .slice m9.ag.A m9.ag.l.length m9.ag.c, .slice m9.op.A m9.op.l.length m9.op.c] 24))
          replace Nm6 := Lib.hid (Nm6.out.alloc (.cells #[.int .i64 m9.own, .int .i64 m9.ot, .slice m9.ag.A m9.ag.l.length m9.ag.c, .slice m9.op.A m9.op.l.length m9.op.c] 24))
          replace X6b := Lib.hid (X6b.out.alloc (.cells #[.int .i64 m9.own, .int .i64 m9.ot, .slice m9.ag.A m9.ag.l.length m9.ag.c, .slice m9.op.A m9.op.l.length m9.op.c] 24))
          replace Nm9 := Lib.hid (Nm9.out.alloc (.cells #[.int .i64 m9.own, .int .i64 m9.ot, .slice m9.ag.A m9.ag.l.length m9.ag.c, .slice m9.op.A m9.op.l.length m9.op.c] 24))
          have X9b := Lib.hid (Blk.newH v8 [.int .i64 m9.own, .int .i64 m9.ot, .slice m9.ag.A m9.ag.l.length m9.ag.c, .slice m9.op.A m9.op.l.length m9.op.c] 24 (v8.heap.size) (by first | rfl | simp))
          have c0 := X9b.out.c 0 _ rfl
          have c1 := X9b.out.c 1 _ rfl
          have c2 := X9b.out.c 2 _ rfl
          have c3 := X9b.out.c 3 _ rfl
          have c4 := X6b.out.c 0 _ rfl
          have c5 := X6b.out.c 1 _ rfl
          have c6 := X6b.out.c 2 _ rfl
          have c7 := X6b.out.c 3 _ rfl
          go_wp2_with fail
          refine (sameB_at (a := m9) (b := m6) true (by rw [Hm9.out, Hm6.out]; simp) Nm9.out Nm6.out (by have := L3.out; rw [← Hm9.out] at this; exact ⟨by have := this.1; show m9.ag.l.length < _; simp only [Bd.bl] at this; omega, by have := this.2; show m9.op.l.length < _; simp only [Bd.bl] at this; omega⟩)).mono ?_
          rintro e v9 ⟨rfl, B⟩
          clear c0 c1 c2 c3 c4 c5 c6 c7
          replace E := Lib.hid (ext_trans E.out B)
          replace HB := Lib.hid (HB.out.ext B)
          replace BB := Lib.hid (BB.out.ext B)
          replace X := Lib.hid (X.out.ext B)
          replace Nm1 := Lib.hid (Nm1.out.ext B)
          replace X1b := Lib.hid (X1b.out.ext B)
          replace Y1 := Lib.hid (Y1.out.ext B)
          replace Nm3 := Lib.hid (Nm3.out.ext B)
          replace X3b := Lib.hid (X3b.out.ext B)
          replace Nm5 := Lib.hid (Nm5.out.ext B)
          replace X5b := Lib.hid (X5b.out.ext B)
          replace Y5 := Lib.hid (Y5.out.ext B)
          replace Nm6 := Lib.hid (Nm6.out.ext B)
          replace X6b := Lib.hid (X6b.out.ext B)
          replace Nm9 := Lib.hid (Nm9.out.ext B)
          replace X9b := Lib.hid (X9b.out.ext B)
          clear B
          have c0 := X6b.out.c 2 _ rfl
          have c1 := X.out.c 0 _ rfl
          have c2 := X.out.c 1 _ rfl
          have c3 := X.out.c 2 _ rfl
          have c4 := X.out.c 3 _ rfl
          have c5 := X.out.c 4 _ rfl
          go_wp2_with fail
          refine (has_at (x := a) true (has_mem (by rw [show m6.ag.l = X3.ag from congrArg Bl.ag Hm6.out]; exact GG.out.2.1)) rfl Nm6.out.ag (maxLen_of Nm6.out.agl Nm6.out.agc)).mono ?_
          rintro e v10 ⟨rfl, B⟩
          clear c0 c1 c2 c3 c4 c5
          replace E := Lib.hid (ext_trans E.out B)
          replace HB := Lib.hid (HB.out.ext B)
          replace BB := Lib.hid (BB.out.ext B)
          replace X := Lib.hid (X.out.ext B)
          replace Nm1 := Lib.hid (Nm1.out.ext B)
          replace X1b := Lib.hid (X1b.out.ext B)
          replace Y1 := Lib.hid (Y1.out.ext B)
          replace Nm3 := Lib.hid (Nm3.out.ext B)
          replace X3b := Lib.hid (X3b.out.ext B)
          replace Nm5 := Lib.hid (Nm5.out.ext B)
          replace X5b := Lib.hid (X5b.out.ext B)
          replace Y5 := Lib.hid (Y5.out.ext B)
          replace Nm6 := Lib.hid (Nm6.out.ext B)
          replace X6b := Lib.hid (X6b.out.ext B)
          replace Nm9 := Lib.hid (Nm9.out.ext B)
          replace X9b := Lib.hid (X9b.out.ext B)
          clear B
          go_wp2_with fail
          go_meet
          case rel => exact ⟨E, HB, BB, X, Nm1, X1b, Y1, Nm3, X3b, Nm5, X5b, Y5, Nm6, X6b⟩
        clear E HB BB X Nm1 X1b Y1 Nm3 X3b Nm5 X5b Y5 Nm6 X6b
        case rest =>
          obtain ⟨E, HB, BB, X, Nm1, X1b, Y1, Nm3, X3b, Nm5, X5b, Y5, Nm6, X6b⟩ := hcut
          have NS : Hid (AllOk wc [⟨E0, m1⟩, ⟨E1, m3⟩, ⟨E2, m5⟩, ⟨E3, m6⟩]) := by
            intro x hx
            simp only [List.mem_cons, List.not_mem_nil, or_false] at hx
            rcases hx with rfl | rfl | rfl | rfl
            · exact Nm1.out
            · exact Nm3.out
            · exact Nm5.out
            · exact Nm6.out
          have GS : Hid (Good b [⟨E0, m1⟩, ⟨E1, m3⟩, ⟨E2, m5⟩, ⟨E3, m6⟩]) := by
            intro x hx h0
            simp only [List.mem_cons, List.not_mem_nil, or_false] at hx
            rcases hx with rfl | rfl | rfl | rfl
            · exact good_of Hm1.out (G0.out h0).1 L0.out
            · exact good_of Hm3.out (G1.out h0).1 L1.out
            · exact good_of Hm5.out (G2.out h0).1 L2.out
            · exact good_of Hm6.out (G3.out h0).1 L3.out
          clear Nm1 Nm3 Nm5 Nm6
          have x1b0 := X1b.out.c 0 _ rfl
          have x1b1 := X1b.out.c 1 _ rfl
          have x1b2 := X1b.out.c 2 _ rfl
          have x1b3 := X1b.out.c 3 _ rfl
          have x1bf := X1b.out.f
          have x1bl := X1b.out.lt
          have x3b0 := X3b.out.c 0 _ rfl
          have x3b1 := X3b.out.c 1 _ rfl
          have x3b2 := X3b.out.c 2 _ rfl
          have x3b3 := X3b.out.c 3 _ rfl
          have x3bf := X3b.out.f
          have x3bl := X3b.out.lt
          have x5b0 := X5b.out.c 0 _ rfl
          have x5b1 := X5b.out.c 1 _ rfl
          have x5b2 := X5b.out.c 2 _ rfl
          have x5b3 := X5b.out.c 3 _ rfl
          have x5bf := X5b.out.f
          have x5bl := X5b.out.lt
          have x6b0 := X6b.out.c 0 _ rfl
          have x6b1 := X6b.out.c 1 _ rfl
          have x6b2 := X6b.out.c 2 _ rfl
          have x6b3 := X6b.out.c 3 _ rfl
          have x6bf := X6b.out.f
          have x6bl := X6b.out.lt
          replace E := Lib.hid (ext_alloc E.out (.cells #[.int .i64 E0, .int .i64 m1.own, .int .i64 m1.ot, .slice m1.ag.A m1.ag.l.length m1.ag.c, .slice m1.op.A m1.op.l.length m1.op.c, .int .i64 E1, .int .i64 m3.own, .int .i64 m3.ot, .slice m3.ag.A m3.ag.l.length m3.ag.c, .slice m3.op.A m3.op.l.length m3.op.c, .int .i64 E2, .int .i64 m5.own, .int .i64 m5.ot, .slice m5.ag.A m5.ag.l.length m5.ag.c, .slice m5.op.A m5.op.l.length m5.op.c, .int .i64 E3, .int .i64 m6.own, .int .i64 m6.ot, .slice m6.ag.A m6.ag.l.length m6.ag.c, .slice m6.op.A m6.op.l.length m6.op.c] 60))
          replace HB := Lib.hid (HB.out.alloc (.cells #[.int .i64 E0, .int .i64 m1.own, .int .i64 m1.ot, .slice m1.ag.A m1.ag.l.length m1.ag.c, .slice m1.op.A m1.op.l.length m1.op.c, .int .i64 E1, .int .i64 m3.own, .int .i64 m3.ot, .slice m3.ag.A m3.ag.l.length m3.ag.c, .slice m3.op.A m3.op.l.length m3.op.c, .int .i64 E2, .int .i64 m5.own, .int .i64 m5.ot, .slice m5.ag.A m5.ag.l.length m5.ag.c, .slice m5.op.A m5.op.l.length m5.op.c, .int .i64 E3, .int .i64 m6.own, .int .i64 m6.ot, .slice m6.ag.A m6.ag.l.length m6.ag.c, .slice m6.op.A m6.op.l.length m6.op.c] 60))
          replace BB := Lib.hid (BB.out.alloc (.cells #[.int .i64 E0, .int .i64 m1.own, .int .i64 m1.ot, .slice m1.ag.A m1.ag.l.length m1.ag.c, .slice m1.op.A m1.op.l.length m1.op.c, .int .i64 E1, .int .i64 m3.own, .int .i64 m3.ot, .slice m3.ag.A m3.ag.l.length m3.ag.c, .slice m3.op.A m3.op.l.length m3.op.c, .int .i64 E2, .int .i64 m5.own, .int .i64 m5.ot, .slice m5.ag.A m5.ag.l.length m5.ag.c, .slice m5.op.A m5.op.l.length m5.op.c, .int .i64 E3, .int .i64 m6.own, .int .i64 m6.ot, .slice m6.ag.A m6.ag.l.length m6.ag.c, .slice m6.op.A m6.op.l.length m6.op.c] 60))
          replace X := Lib.hid (X.out.alloc (.cells #[.int .i64 E0, .int .i64 m1.own, .int .i64 m1.ot, .slice m1.ag.A m1.ag.l.length m1.ag.c, .slice m1.op.A m1.op.l.length m1.op.c, .int .i64 E1, .int .i64 m3.own, .int .i64 m3.ot, .slice m3.ag.A m3.ag.l.length m3.ag.c, .slice m3.op.A m3.op.l.length m3.op.c, .int .i64 E2, .int .i64 m5.own, .int .i64 m5.ot, .slice m5.ag.A m5.ag.l.length m5.ag.c, .slice m5.op.A m5.op.l.length m5.op.c, .int .i64 E3, .int .i64 m6.own, .int .i64 m6.ot, .slice m6.ag.A m6.ag.l.length m6.ag.c, .slice m6.op.A m6.op.l.length m6.op.c] 60))
          replace X1b := Lib.hid (X1b.out.alloc (.cells #[.int .i64 E0, .int .i64 m1.own, .int .i64 m1.ot, .slice m1.ag.A m1.ag.l.length m1.ag.c, .slice m1.op.A m1.op.l.length m1.op.c, .int .i64 E1, .int .i64 m3.own, .int .i64 m3.ot, .slice m3.ag.A m3.ag.l.length m3.ag.c, .slice m3.op.A m3.op.l.length m3.op.c, .int .i64 E2, .int .i64 m5.own, .int .i64 m5.ot, .slice m5.ag.A m5.ag.l.length m5.ag.c, .slice m5.op.A m5.op.l.length m5.op.c, .int .i64 E3, .int .i64 m6.own, .int .i64 m6.ot, .slice m6.ag.A m6.ag.l.length m6.ag.c, .slice m6.op.A m6.op.l.length m6.op.c] 60))
          replace Y1 := Lib.hid (Y1.out.alloc (.cells #[.int .i64 E0, .int .i64 m1.own, .int .i64 m1.ot, .slice m1.ag.A m1.ag.l.length m1.ag.c, .slice m1.op.A m1.op.l.length m1.op.c, .int .i64 E1, .int .i64 m3.own, .int .i64 m3.ot, .slice m3.ag.A m3.ag.l.length m3.ag.c, .slice m3.op.A m3.op.l.length m3.op.c, .int .i64 E2, .int .i64 m5.own, .int .i64 m5.ot, .slice m5.ag.A m5.ag.l.length m5.ag.c, .slice m5.op.A m5.op.l.length m5.op.c, .int .i64 E3, .int .i64 m6.own, .int .i64 m6.ot, .slice m6.ag.A m6.ag.l.length m6.ag.c, .slice m6.op.A m6.op.l.length m6.op.c] 60))
          replace X3b := Lib.hid (X3b.out.alloc (.cells #[.int .i64 E0, .int .i64 m1.own, .int .i64 m1.ot, .slice m1.ag.A m1.ag.l.length m1.ag.c, .slice m1.op.A m1.op.l.length m1.op.c, .int .i64 E1, .int .i64 m3.own, .int .i64 m3.ot, .slice m3.ag.A m3.ag.l.length m3.ag.c, .slice m3.op.A m3.op.l.length m3.op.c, .int .i64 E2, .int .i64 m5.own, .int .i64 m5.ot, .slice m5.ag.A m5.ag.l.length m5.ag.c, .slice m5.op.A m5.op.l.length m5.op.c, .int .i64 E3, .int .i64 m6.own, .int .i64 m6.ot, .slice m6.ag.A m6.ag.l.length m6.ag.c, .slice m6.op.A m6.op.l.length m6.op.c] 60))
          replace X5b := Lib.hid (X5b.out.alloc (.cells #[.int .i64 E0, .int .i64 m1.own, .int .i64 m1.ot, .slice m1.ag.A m1.ag.l.length m1.ag.c, .slice m1.op.A m1.op.l.length m1.op.c, .int .i64 E1, .int .i64 m3.own, .int .i64 m3.ot, .slice m3.ag.A m3.ag.l.length m3.ag.c, .slice m3.op.A m3.op.l.length m3.op.c, .int .i64 E2, .int .i64 m5.own, .int .i64 m5.ot, .slice m5.ag.A m5.ag.l.length m5.ag.c, .slice m5.op.A m5.op.l.length m5.op.c, .int .i64 E3, .int .i64 m6.own, .int .i64 m6.ot, .slice m6.ag.A m6.ag.l.length m6.ag.c, .slice m6.op.A m6.op.l.length m6.op.c] 60))
          replace Y5 := Lib.hid (Y5.out.alloc (.cells #[.int .i64 E0, .int .i64 m1.own, .int .i64 m1.ot, .slice m1.ag.A m1.ag.l.length m1.ag.c, .slice m1.op.A m1.op.l.length m1.op.c, .int .i64 E1, .int .i64 m3.own, .int .i64 m3.ot, .slice m3.ag.A m3.ag.l.length m3.ag.c, .slice m3.op.A m3.op.l.length m3.op.c, .int .i64 E2, .int .i64 m5.own, .int .i64 m5.ot, .slice m5.ag.A m5.ag.l.length m5.ag.c, .slice m5.op.A m5.op.l.length m5.op.c, .int .i64 E3, .int .i64 m6.own, .int .i64 m6.ot, .slice m6.ag.A m6.ag.l.length m6.ag.c, .slice m6.op.A m6.op.l.length m6.op.c] 60))
          replace X6b := Lib.hid (X6b.out.alloc (.cells #[.int .i64 E0, .int .i64 m1.own, .int .i64 m1.ot, .slice m1.ag.A m1.ag.l.length m1.ag.c, .slice m1.op.A m1.op.l.length m1.op.c, .int .i64 E1, .int .i64 m3.own, .int .i64 m3.ot, .slice m3.ag.A m3.ag.l.length m3.ag.c, .slice m3.op.A m3.op.l.length m3.op.c, .int .i64 E2, .int .i64 m5.own, .int .i64 m5.ot, .slice m5.ag.A m5.ag.l.length m5.ag.c, .slice m5.op.A m5.op.l.length m5.op.c, .int .i64 E3, .int .i64 m6.own, .int .i64 m6.ot, .slice m6.ag.A m6.ag.l.length m6.ag.c, .slice m6.op.A m6.op.l.length m6.op.c] 60))
          replace NS := Lib.hid (NS.out.alloc (.cells #[.int .i64 E0, .int .i64 m1.own, .int .i64 m1.ot, .slice m1.ag.A m1.ag.l.length m1.ag.c, .slice m1.op.A m1.op.l.length m1.op.c, .int .i64 E1, .int .i64 m3.own, .int .i64 m3.ot, .slice m3.ag.A m3.ag.l.length m3.ag.c, .slice m3.op.A m3.op.l.length m3.op.c, .int .i64 E2, .int .i64 m5.own, .int .i64 m5.ot, .slice m5.ag.A m5.ag.l.length m5.ag.c, .slice m5.op.A m5.op.l.length m5.op.c, .int .i64 E3, .int .i64 m6.own, .int .i64 m6.ot, .slice m6.ag.A m6.ag.l.length m6.ag.c, .slice m6.op.A m6.op.l.length m6.op.c] 60))
          have WW := Lib.hid (Blk.newH wc [.int .i64 E0, .int .i64 m1.own, .int .i64 m1.ot, .slice m1.ag.A m1.ag.l.length m1.ag.c, .slice m1.op.A m1.op.l.length m1.op.c, .int .i64 E1, .int .i64 m3.own, .int .i64 m3.ot, .slice m3.ag.A m3.ag.l.length m3.ag.c, .slice m3.op.A m3.op.l.length m3.op.c, .int .i64 E2, .int .i64 m5.own, .int .i64 m5.ot, .slice m5.ag.A m5.ag.l.length m5.ag.c, .slice m5.op.A m5.op.l.length m5.op.c, .int .i64 E3, .int .i64 m6.own, .int .i64 m6.ot, .slice m6.ag.A m6.ag.l.length m6.ag.c, .slice m6.op.A m6.op.l.length m6.op.c] 60 (wc.heap.size) (by first | rfl | simp))
          go_wp2_with fail
          clear x1b0 x1b1 x1b2 x1b3 x1bf x1bl x3b0 x3b1 x3b2 x3b3 x3bf x3bl x5b0 x5b1 x5b2 x5b3 x5bf x5bl x6b0 x6b1 x6b2 x6b3 x6bf x6bl
          obtain ⟨vW, hNvW⟩ : ∃ W0, W0 = (wc.alloc (.cells #[.int .i64 E0, .int .i64 m1.own, .int .i64 m1.ot, .slice m1.ag.A m1.ag.l.length m1.ag.c, .slice m1.op.A m1.op.l.length m1.op.c, .int .i64 E1, .int .i64 m3.own, .int .i64 m3.ot, .slice m3.ag.A m3.ag.l.length m3.ag.c, .slice m3.op.A m3.op.l.length m3.op.c, .int .i64 E2, .int .i64 m5.own, .int .i64 m5.ot, .slice m5.ag.A m5.ag.l.length m5.ag.c, .slice m5.op.A m5.op.l.length m5.op.c, .int .i64 E3, .int .i64 m6.own, .int .i64 m6.ot, .slice m6.ag.A m6.ag.l.length m6.ag.c, .slice m6.op.A m6.op.l.length m6.op.c] 60)) := ⟨_, rfl⟩
          rw [← hNvW] at E HB BB X X1b Y1 X3b X5b Y5 X6b NS WW ⊢
          clear hNvW
          have SW : Hid (Slc vW St.cells 5 (some ⟨wc.heap.size, 0, none⟩) [⟨E0, m1⟩, ⟨E1, m3⟩, ⟨E2, m5⟩, ⟨E3, m6⟩]) := by
            intro i y hy
            have hl := WW.out.lt
            match i, hy with
            | 0, hy => cases hy; exact ⟨_, 0, rfl, hl, fun j v hj => by match j, hj with | 0, hj => exact WW.out.c 0 _ hj | 1, hj => exact WW.out.c 1 _ hj | 2, hj => exact WW.out.c 2 _ hj | 3, hj => exact WW.out.c 3 _ hj | 4, hj => exact WW.out.c 4 _ hj⟩
            | 1, hy => cases hy; exact ⟨_, 0, rfl, hl, fun j v hj => by match j, hj with | 0, hj => exact WW.out.c 5 _ hj | 1, hj => exact WW.out.c 6 _ hj | 2, hj => exact WW.out.c 7 _ hj | 3, hj => exact WW.out.c 8 _ hj | 4, hj => exact WW.out.c 9 _ hj⟩
            | 2, hy => cases hy; exact ⟨_, 0, rfl, hl, fun j v hj => by match j, hj with | 0, hj => exact WW.out.c 10 _ hj | 1, hj => exact WW.out.c 11 _ hj | 2, hj => exact WW.out.c 12 _ hj | 3, hj => exact WW.out.c 13 _ hj | 4, hj => exact WW.out.c 14 _ hj⟩
            | 3, hy => cases hy; exact ⟨_, 0, rfl, hl, fun j v hj => by match j, hj with | 0, hj => exact WW.out.c 15 _ hj | 1, hj => exact WW.out.c 16 _ hj | 2, hj => exact WW.out.c 17 _ hj | 3, hj => exact WW.out.c 18 _ hj | 4, hj => exact WW.out.c 19 _ hj⟩
          clear WW X X1b Y1 X3b X5b Y5 X6b
          obtain ⟨l4, hl4⟩ : ∃ l : List St, l = [⟨E0, m1⟩, ⟨E1, m3⟩, ⟨E2, m5⟩, ⟨E3, m6⟩] := ⟨_, rfl⟩
          have hn4 : l4.length = 4 := by rw [hl4]; rfl
          rw [← hl4] at NS GS SW
          clear hl4
          go_loopw [210] (fun i wr => ∃ k : Nat, k ≤ 4 ∧ i = .int .i64 k ∧ Hid (Blk wr (w.heap.size) [.int .i64 b.own, .int .i64 b.ot, .slice b.ag.A b.ag.l.length b.ag.c, .slice b.op.A b.op.l.length b.op.c]) ∧ Hid (BOk wr b) ∧ Hid (AllOk wr l4) ∧ Hid (Slc wr St.cells 5 (some ⟨wc.heap.size, 0, none⟩) l4) ∧ Hid (Below w.heap.size w wr)) (fun i _ => 4 - (intOf i).toNat)
          case atStart => exact ⟨0, by decide, rfl, BB.out, HB.out, NS.out, SW.out, E.out⟩
          clear BB HB NS SW E
          case round =>
            obtain ⟨k, hk, rfl, BB, HB, NS, SW, E⟩ := hrel
            by_cases hlt : k < 4
            rotate_left
            · have hge : ¬ (k : Int) < 4 := by omega
              go_wp2_with fail
              go_ret
              exact ⟨rfl, E.out⟩
            obtain ⟨x, b1, o1, hx, hA, hb1, hd⟩ := SW.out.at_ (k := k) (by omega)
            cases hA
            have d0 := hd 0 _ rfl
            have d1 := hd 1 _ rfl
            have d2 := hd 2 _ rfl
            have d3 := hd 3 _ rfl
            have d4 := hd 4 _ rfl
            simp only [Nat.add_zero, Nat.zero_add] at d0 d1 d2 d3 d4
            have hlt' : (k : Int) < 4 := by omega
            have hxm : x ∈ l4 := List.mem_of_getElem? hx
            have GX := Lib.hid (GS.out x hxm)
            have NX := Lib.hid (NS.out x hxm)
            clear hd hx hxm
            rename_i K2 a2
            by_cases he : x.e = 0
            rotate_left
            · clear a2
              have f0 : (x.e != 0) = true := by simp [he]
              clear he
              replace BB := Lib.hid (BB.out.alloc (.cells #[.int .i64 x.e, .int .i64 x.b.own, .int .i64 x.b.ot, .slice x.b.ag.A x.b.ag.l.length x.b.ag.c, .slice x.b.op.A x.b.op.l.length x.b.op.c] 60))
              replace HB := Lib.hid (HB.out.alloc (.cells #[.int .i64 x.e, .int .i64 x.b.own, .int .i64 x.b.ot, .slice x.b.ag.A x.b.ag.l.length x.b.ag.c, .slice x.b.op.A x.b.op.l.length x.b.op.c] 60))
              replace NS := Lib.hid (NS.out.alloc (.cells #[.int .i64 x.e, .int .i64 x.b.own, .int .i64 x.b.ot, .slice x.b.ag.A x.b.ag.l.length x.b.ag.c, .slice x.b.op.A x.b.op.l.length x.b.op.c] 60))
              replace SW := Lib.hid (SW.out.alloc (.cells #[.int .i64 x.e, .int .i64 x.b.own, .int .i64 x.b.ot, .slice x.b.ag.A x.b.ag.l.length x.b.ag.c, .slice x.b.op.A x.b.op.l.length x.b.op.c] 60))
              replace E := Lib.hid (ext_alloc E.out (.cells #[.int .i64 x.e, .int .i64 x.b.own, .int .i64 x.b.ot, .slice x.b.ag.A x.b.ag.l.length x.b.ag.c, .slice x.b.op.A x.b.op.l.length x.b.op.c] 60))
              replace NX := Lib.hid (NX.out.alloc (.cells #[.int .i64 x.e, .int .i64 x.b.own, .int .i64 x.b.ot, .slice x.b.ag.A x.b.ag.l.length x.b.ag.c, .slice x.b.op.A x.b.op.l.length x.b.op.c] 60))
              have SX := Lib.hid (Blk.newH wr [.int .i64 x.e, .int .i64 x.b.own, .int .i64 x.b.ot, .slice x.b.ag.A x.b.ag.l.length x.b.ag.c, .slice x.b.op.A x.b.op.l.length x.b.op.c] 60 (wr.heap.size) (by first | rfl | simp))
              go_wp2_with fail
              go_roundw
              case rel => exact ⟨k + 1, by omega, by go_num, BB.out, HB.out, NS.out, SW.out, E.out⟩
              case measure => simp [intOf]; omega
            have f0 : (x.e != 0) = false := by simp [he]
            have GG := Lib.hid (GX.out he)
            clear he GX
            replace BB := Lib.hid (BB.out.alloc (.cells #[.int .i64 x.e, .int .i64 x.b.own, .int .i64 x.b.ot, .slice x.b.ag.A x.b.ag.l.length x.b.ag.c, .slice x.b.op.A x.b.op.l.length x.b.op.c] 60))
            replace HB := Lib.hid (HB.out.alloc (.cells #[.int .i64 x.e, .int .i64 x.b.own, .int .i64 x.b.ot, .slice x.b.ag.A x.b.ag.l.length x.b.ag.c, .slice x.b.op.A x.b.op.l.length x.b.op.c] 60))
            replace NS := Lib.hid (NS.out.alloc (.cells #[.int .i64 x.e, .int .i64 x.b.own, .int .i64 x.b.ot, .slice x.b.ag.A x.b.ag.l.length x.b.ag.c, .slice x.b.op.A x.b.op.l.length x.b.op.c] 60))
            replace SW := Lib.hid (SW.out.alloc (.cells #[.int .i64 x.e, .int .i64 x.b.own, .int .i64 x.b.ot, .slice x.b.ag.A x.b.ag.l.length x.b.ag.c, .slice x.b.op.A x.b.op.l.length x.b.op.c] 60))
            replace E := Lib.hid (ext_alloc E.out (.cells #[.int .i64 x.e, .int .i64 x.b.own, .int .i64 x.b.ot, .slice x.b.ag.A x.b.ag.l.length x.b.ag.c, .slice x.b.op.A x.b.op.l.length x.b.op.c] 60))
            replace NX := Lib.hid (NX.out.alloc (.cells #[.int .i64 x.e, .int .i64 x.b.own, .int .i64 x.b.ot, .slice x.b.ag.A x.b.ag.l.length x.b.ag.c, .slice x.b.op.A x.b.op.l.length x.b.op.c] 60))
            have SX := Lib.hid (Blk.newH wr [.int .i64 x.e, .int .i64 x.b.own, .int .i64 x.b.ot, .slice x.b.ag.A x.b.ag.l.length x.b.ag.c, .slice x.b.op.A x.b.op.l.length x.b.op.c] 60 (wr.heap.size) (by first | rfl | simp))
            have c0 := SX.out.c 0 _ rfl
            have c1 := SX.out.c 1 _ rfl
            have c2 := SX.out.c 2 _ rfl
            have c3 := SX.out.c 3 _ rfl
            have c4 := SX.out.c 4 _ rfl
            go_wp2_with fail
            refine (check_at 0 (by unfold Bl.chk; rw [GG.out.1]; rfl) NX.out).mono ?_
            rintro e u1 ⟨rfl, B⟩
            clear c0 c1 c2 c3 c4
            replace BB := Lib.hid (BB.out.ext B)
            replace HB := Lib.hid (HB.out.ext B)
            replace NS := Lib.hid (NS.out.ext B)
            replace SW := Lib.hid (SW.out.ext B)
            replace E := Lib.hid (ext_trans E.out B)
            replace NX := Lib.hid (NX.out.ext B)
            replace SX := Lib.hid (SX.out.ext B)
            clear B
            have g1 : (x.b.own != b.own) = false := by simp [GG.out.2.1]
            have g2 : (x.b.ot != b.ot) = false := by simp [GG.out.2.2.1]
            have c0 := SX.out.c 1 _ rfl
            have c1 := SX.out.c 2 _ rfl
            have c2 := BB.out.c 0 _ rfl
            have c3 := BB.out.c 1 _ rfl
            have c4 := BB.out.c 2 _ rfl
            go_wp2_with fail
            clear c0 c1 c2 c3 c4 g1 g2 f0 d0 d1 d2 d3 d4
            obtain ⟨sB, hsB⟩ : ∃ s, s = wr.heap.size := ⟨_, rfl⟩
            rw [← hsB] at SX ⊢
            clear hsB
            go_loopw [240] (fun i wr => ∃ j : Nat, j ≤ b.ag.l.length ∧ i = .int .i64 j ∧ Hid (Blk wr (w.heap.size) [.int .i64 b.own, .int .i64 b.ot, .slice b.ag.A b.ag.l.length b.ag.c, .slice b.op.A b.op.l.length b.op.c]) ∧ Hid (Blk wr (sB) [.int .i64 x.e, .int .i64 x.b.own, .int .i64 x.b.ot, .slice x.b.ag.A x.b.ag.l.length x.b.ag.c, .slice x.b.op.A x.b.op.l.length x.b.op.c]) ∧ Hid (BOk wr b) ∧ Hid (BOk wr x.b) ∧ Hid (AllOk wr l4) ∧ Hid (Slc wr St.cells 5 (some ⟨wc.heap.size, 0, none⟩) l4) ∧ Hid (Below w.heap.size w wr)) (fun i _ => b.ag.l.length - (intOf i).toNat)
            case atStart => exact ⟨0, Nat.zero_le _, rfl, BB.out, SX.out, HB.out, NX.out, NS.out, SW.out, E.out⟩
            clear BB SX HB NX NS SW E
            case round =>
              obtain ⟨j, hj, rfl, BB, SX, HB, NX, NS, SW, E⟩ := hrel
              by_cases hjl : j < b.ag.l.length
              rotate_left
              · have hge : ¬ (j : Int) < b.ag.l.length := by omega
                go_wp2_with fail
                go_roundw
                case rel => exact ⟨k + 1, by omega, by go_num, BB.out, HB.out, NS.out, SW.out, E.out⟩
                case measure => simp [intOf]; omega
              obtain ⟨y, b2, o2, hy, hA, hb2, hd⟩ := HB.out.ag.at_ hjl
              have d0 := hd 0 _ rfl
              have d1 := hd 1 _ rfl
              have d2 := hd 2 _ rfl
              have d3 := hd 3 _ rfl
              have d4 := hd 4 _ rfl
              simp only [Nat.add_zero] at d0
              have hjl' : (j : Int) < b.ag.l.length := by omega
              have HY := Lib.hid (has_mem (GG.out.2.2.2.1 y (List.mem_of_getElem? hy)))
              clear hd hy
              rename_i K3 a3
              clear a3
              replace BB := Lib.hid (BB.out.alloc (.cells #[.int .i64 y.no, .int .i64 y.f, .int .i64 y.t, .int .i64 y.m, .int .i64 y.r] 26))
              replace SX := Lib.hid (SX.out.alloc (.cells #[.int .i64 y.no, .int .i64 y.f, .int .i64 y.t, .int .i64 y.m, .int .i64 y.r] 26))
              replace HB := Lib.hid (HB.out.alloc (.cells #[.int .i64 y.no, .int .i64 y.f, .int .i64 y.t, .int .i64 y.m, .int .i64 y.r] 26))
              replace NX := Lib.hid (NX.out.alloc (.cells #[.int .i64 y.no, .int .i64 y.f, .int .i64 y.t, .int .i64 y.m, .int .i64 y.r] 26))
              replace NS := Lib.hid (NS.out.alloc (.cells #[.int .i64 y.no, .int .i64 y.f, .int .i64 y.t, .int .i64 y.m, .int .i64 y.r] 26))
              replace SW := Lib.hid (SW.out.alloc (.cells #[.int .i64 y.no, .int .i64 y.f, .int .i64 y.t, .int .i64 y.m, .int .i64 y.r] 26))
              replace E := Lib.hid (ext_alloc E.out (.cells #[.int .i64 y.no, .int .i64 y.f, .int .i64 y.t, .int .i64 y.m, .int .i64 y.r] 26))
              have KX := Lib.hid (Blk.newH wr [.int .i64 y.no, .int .i64 y.f, .int .i64 y.t, .int .i64 y.m, .int .i64 y.r] 26 (wr.heap.size) (by first | rfl | simp))
              have c0 := SX.out.c 3 _ rfl
              have c1 := KX.out.c 0 _ rfl
              have c2 := KX.out.c 1 _ rfl
              have c3 := KX.out.c 2 _ rfl
              have c4 := KX.out.c 3 _ rfl
              have c5 := KX.out.c 4 _ rfl
              go_wp2_with fail
              refine (has_at (x := y) true HY.out rfl NX.out.ag (maxLen_of NX.out.agl NX.out.agc)).mono ?_
              rintro e z1 ⟨rfl, B⟩
              clear c0 c1 c2 c3 c4 c5
              replace BB := Lib.hid (BB.out.ext B)
              replace SX := Lib.hid (SX.out.ext B)
              replace HB := Lib.hid (HB.out.ext B)
              replace NX := Lib.hid (NX.out.ext B)
              replace NS := Lib.hid (NS.out.ext B)
              replace SW := Lib.hid (SW.out.ext B)
              replace E := Lib.hid (ext_trans E.out B)
              replace KX := Lib.hid (KX.out.ext B)
              clear B
              go_wp2_with fail
              rw [← hA]
              go_roundw
              case rel => exact ⟨j + 1, hjl, by go_num, BB.out, SX.out, HB.out, NX.out, NS.out, SW.out, E.out⟩
              case measure => simp [intOf]; omega
end Go.Proofs.Ytmnbeikhjbjpiaa
