/- Contracts: an agreement is settled. -/
import Derived.Test.YtmnbeikhjbjpiaaH
import Derived.Test.YtmnbeikhjbjpiaaJ
import Derived.Test.YtmnbeikhjbjpiaaL0
set_option linter.unusedSimpArgs false
set_option linter.unusedVariables false
namespace Go.Proofs.Ytmnbeikhjbjpiaa
open Go.RowKit
/-- A boundary alone. -/
def BvR (w : World) (F : Nat → Prop) (x : Bl) (e : Ending) (w' : World) : Prop :=
  ∃ m : Bd, e = .returned m.v ∧ m.bl = x ∧ BOk w' m ∧ Below w.heap.size w w' ∧ ∀ b, b < w.heap.size → F b → m.off b
theorem own_off {w : World} {base : Nat} {A : Option Addr} {n c : Nat} {l : List Ag} (h : Own w base 26 Ag.cells 5 (.slice A n c) l) {b : Nat} (hb : b < base) : rowOff A l b := fun _ g o s e => by
  have := (h.lt g (by rw [e]; rfl)).2; omega
theorem own_cap {w : World} {base : Nat} {A : Option Addr} {n c : Nat} {l : List Ag} (h : Own w base 26 Ag.cells 5 (.slice A n c) l) : l.length ≤ c ∧ c ≤ maxLen := by
  obtain ⟨_, _, h1, h2, h3, _⟩ := h.cap; injection h1 with _ _ h1; subst h1; exact ⟨h2, h3⟩
theorem run_app {w w1 : World} {base n c : Nat} {A B : Option Addr} {D : List Ag} {x : Ag} (h : Own w1 base 26 Ag.cells 5 (.slice A n c) D) (hE : Below w.heap.size w w1) (hb : base ≤ w1.heap.size ∧ w.heap.size ≤ base) (hn : D.length = n) (hs : Slc w1 Ag.cells 5 B [x]) (hm : n ≤ 1000) :
    ∃ v' w', (Builtin.append_ #[22, 22] 22 #[.slice A n c, .slice B 1 1]).run Try.prog w1 = .ok v' w' ∧ ∃ A' c', v' = .slice A' (n + 1) c' ∧ Own w' base 26 Ag.cells 5 (.slice A' (n + 1) c') (D ++ [x]) ∧ (Below w.heap.size w w' ∧ base ≤ w'.heap.size) ∧ w1.grownBy w' (Value.slice A n c).ownBlock ∧ n + 1 ≤ c' ∧ c' ≤ maxLen := by
  obtain ⟨v', w', h1, h2, h3, _⟩ := h.append agI 22 (ys := [x]) (m := 1) rfl 1 hs (by simp; omega) (by unfold maxLen; simp; omega) hb.1
  obtain ⟨A', c', rfl, k1, k2, _⟩ := h2.cap
  have hl : (D ++ [x]).length = n + 1 := by simp [hn]
  rw [hl] at h2 k1
  refine ⟨_, w', h1, A', c', by rw [hl], h2, ⟨ext_grown hE h3 (fun r e => by have := (h.lt r e).2; omega), Nat.le_trans hb.1 h3.size⟩, h3, k1, k2⟩
theorem put_len {l : List Ag} {a : Ag} : (putL l a).length = l.length + 1 := ins_len
/-- What is asked of a list before an agreement is put into it. -/
structure PutOk (l : List Ag) (a : Ag) : Prop where
  len : l.length ≤ 1000
  pw : l.Pairwise (fun x y => x.no < y.no)
  nos : ∀ x ∈ l, 1 ≤ x.no ∧ x.no ≤ 1048576
  no : 1 ≤ a.no ∧ a.no ≤ 1048576
theorem put_at {a : Ag} {A : Option Addr} {c n : Nat} {l : List Ag} {w : World} (hn : n = l.length) (ha : Slc w Ag.cells 5 A l) (h : PutOk l a) : Calls Try.prog 37 #[.slice A n c, .agg #[.int .i64 a.no, .int .i64 a.f, .int .i64 a.t, .int .i64 a.m, .int .i64 a.r]] w (PutR w (putL l a)) :=
  put_any a A c n l w hn ha h.len h.pw h.nos h.no
theorem rput_at {a : Ag} {A : Option Addr} {c n : Nat} {l : List Ag} {w : World} (hn : n = l.length) (ha : Slc w Ag.cells 5 A l) (h : PutOk l a) (hc : l.length ≤ c) : Calls Try.prog 40 #[.slice A n c, .agg #[.int .i64 a.no, .int .i64 a.f, .int .i64 a.t, .int .i64 a.m, .int .i64 a.r]] w (PutR w (putL l a)) :=
  rput_any a A c n l w hn ha h.len hc h.pw
theorem agr1_at (a : Ag) (b : Nat) (x : Ag) (w : World) (h : Blk w b [.int .i64 a.no, .int .i64 a.f, .int .i64 a.t, .int .i64 a.m, .int .i64 a.r]) : Calls Try.prog 61 #[x.v, .pointer (some ⟨b, 0, none⟩)] w (RetB w (x.no == a.no)) := agr1_any x a.no b 0 w (h.c 0 _ rfl) h.lt
set_option maxHeartbeats 1600000 in
theorem agree_any (b : Bd) (a : Ag) (w : World) (hb : BOk w b) (ho : b.op.l.length ≤ 1000) (hp : PutOk b.ag.l a) : Calls Try.prog 43 #[b.v, a.v] w (BvR w b.off (b.bl.agree a)) := by
  have HOFF := Lib.hid (fun c (h : w.heap.size ≤ c) => hb.off h)
  have HCP := Lib.hid (show _ ∧ _ ∧ _ ∧ _ from ⟨hb.agl, hb.agc, hb.opl, hb.opc⟩)
  have HP := Lib.hid hp
  clear hp
  have E := Lib.hid (ext_refl w)
  have HA := Lib.hid (hb.ag)
  have HO := Lib.hid (hb.op)
  clear hb
  replace E := Lib.hid (ext_alloc E.out (.cells #[.int .i64 b.own, .int .i64 b.ot, .slice b.ag.A b.ag.l.length b.ag.c, .slice b.op.A b.op.l.length b.op.c] 64))
  replace HA := Lib.hid (HA.out.alloc (.cells #[.int .i64 b.own, .int .i64 b.ot, .slice b.ag.A b.ag.l.length b.ag.c, .slice b.op.A b.op.l.length b.op.c] 64))
  replace HO := Lib.hid (HO.out.alloc (.cells #[.int .i64 b.own, .int .i64 b.ot, .slice b.ag.A b.ag.l.length b.ag.c, .slice b.op.A b.op.l.length b.op.c] 64))
  have BB := Lib.hid (Blk.newH w [.int .i64 b.own, .int .i64 b.ot, .slice b.ag.A b.ag.l.length b.ag.c, .slice b.op.A b.op.l.length b.op.c] 64 (w.heap.size) (by first | rfl | simp))
  replace E := Lib.hid (ext_alloc E.out (.cells #[.int .i64 a.no, .int .i64 a.f, .int .i64 a.t, .int .i64 a.m, .int .i64 a.r] 26))
  replace HA := Lib.hid (HA.out.alloc (.cells #[.int .i64 a.no, .int .i64 a.f, .int .i64 a.t, .int .i64 a.m, .int .i64 a.r] 26))
  replace HO := Lib.hid (HO.out.alloc (.cells #[.int .i64 a.no, .int .i64 a.f, .int .i64 a.t, .int .i64 a.m, .int .i64 a.r] 26))
  replace BB := Lib.hid (BB.out.alloc (.cells #[.int .i64 a.no, .int .i64 a.f, .int .i64 a.t, .int .i64 a.m, .int .i64 a.r] 26))
  have X := Lib.hid (Blk.newH (w.alloc (.cells #[.int .i64 b.own, .int .i64 b.ot, .slice b.ag.A b.ag.l.length b.ag.c, .slice b.op.A b.op.l.length b.op.c] 64)) [.int .i64 a.no, .int .i64 a.f, .int .i64 a.t, .int .i64 a.m, .int .i64 a.r] 26 (w.heap.size + 1) (by first | rfl | simp))
  replace E := Lib.hid (ext_alloc E.out (.cells #[.int .i64 0, .int .i64 0, .slice none 0 0, .slice none 0 0] 24))
  replace HA := Lib.hid (HA.out.alloc (.cells #[.int .i64 0, .int .i64 0, .slice none 0 0, .slice none 0 0] 24))
  replace HO := Lib.hid (HO.out.alloc (.cells #[.int .i64 0, .int .i64 0, .slice none 0 0, .slice none 0 0] 24))
  replace BB := Lib.hid (BB.out.alloc (.cells #[.int .i64 0, .int .i64 0, .slice none 0 0, .slice none 0 0] 24))
  replace X := Lib.hid (X.out.alloc (.cells #[.int .i64 0, .int .i64 0, .slice none 0 0, .slice none 0 0] 24))
  have R := Lib.hid (Blk.newH ((w.alloc (.cells #[.int .i64 b.own, .int .i64 b.ot, .slice b.ag.A b.ag.l.length b.ag.c, .slice b.op.A b.op.l.length b.op.c] 64)).alloc (.cells #[.int .i64 a.no, .int .i64 a.f, .int .i64 a.t, .int .i64 a.m, .int .i64 a.r] 26)) [.int .i64 0, .int .i64 0, .slice none 0 0, .slice none 0 0] 24 (w.heap.size + 1 + 1) (by first | rfl | simp))
  go_enter Try.func43, Try.ntmps43
  have q3 := BB.out.c 3 _ rfl
  go_wp2_with fail
  refine (clone_any b.op.A b.op.c _ b.op.l _ rfl HO.out (by omega)).mono ?_
  rintro e v1 ⟨A1, c1, rfl, hO1, B1⟩
  clear q3
  go_wp2_with fail
  refine (deleteAg (((w.alloc (.cells #[.int .i64 b.own, .int .i64 b.ot, .slice b.ag.A b.ag.l.length b.ag.c, .slice b.op.A b.op.l.length b.op.c] 64)).alloc (.cells #[.int .i64 a.no, .int .i64 a.f, .int .i64 a.t, .int .i64 a.m, .int .i64 a.r] 26)).alloc (.cells #[.int .i64 0, .int .i64 0, .slice none 0 0, .slice none 0 0] 24)) v1 61 (.pointer (some ⟨w.heap.size + 1, 0, none⟩)) (fun x => x.no == a.no) A1 _ c1 b.op.l rfl hO1 B1 (by omega) enters61 (fun x W _ hW => agr1_at a (w.heap.size + 1) x W (X.out.ext hW))).mono ?_
  rintro e v2 ⟨A2, c2, rfl, hO2, B⟩
  obtain ⟨D, hD⟩ : ∃ D, b.op.l.filter (fun x => !(x.no == a.no)) = D := ⟨_, rfl⟩
  rw [hD] at hO2 ⊢
  have HD := Lib.hid (show delL b.op.l a.no = D from hD)
  have hDl : D.length ≤ b.op.l.length := by rw [← hD]; exact List.length_filter_le _ _
  have HO2 := Lib.hid (hO2.low (base' := w.heap.size + 3) (by simp))
  clear hD hO1 B1 hO2
  clear HO
  replace E := Lib.hid (ext_trans E.out B)
  replace HA := Lib.hid (HA.out.ext B)
  replace BB := Lib.hid (BB.out.ext B)
  replace X := Lib.hid (X.out.ext B)
  replace R := Lib.hid (R.out.ext B)
  clear B
  have HD2 := Lib.hid (HO2.out.slc agI.hl agI.hz)
  have q0 := BB.out.c 0 _ rfl
  have q1 := BB.out.c 1 _ rfl
  have q2 := BB.out.c 2 _ rfl
  have q3 := BB.out.c 3 _ rfl
  have qf := BB.out.f
  have qb := BB.out.lt
  have x0 := X.out.c 0 _ rfl
  have x1 := X.out.c 1 _ rfl
  have x2 := X.out.c 2 _ rfl
  have x3 := X.out.c 3 _ rfl
  have x4 := X.out.c 4 _ rfl
  replace E := Lib.hid (ext_set E.out ⟨w.heap.size, 3, none⟩ (.slice A2 D.length c2) (by first | exact Nat.le_refl _ | omega | (simp; done) | (simp; omega)))
  replace HA := Lib.hid (HA.out.far (p := ⟨w.heap.size, 3, none⟩) (v := (.slice A2 D.length c2)) (HOFF.out _ (Nat.le_refl _)).1)
  replace BB := Lib.hid (show Blk _ (w.heap.size) [.int .i64 b.own, .int .i64 b.ot, .slice b.ag.A b.ag.l.length b.ag.c, .slice A2 D.length c2] from BB.out.set (j := 3) (by simp) (.slice A2 D.length c2))
  replace X := Lib.hid (X.out.other (p := ⟨w.heap.size, 3, none⟩) (.slice A2 D.length c2) (by first | omega | (simp; done) | (simp; omega)))
  replace R := Lib.hid (R.out.other (p := ⟨w.heap.size, 3, none⟩) (.slice A2 D.length c2) (by first | omega | (simp; done) | (simp; omega)))
  replace HD2 := Lib.hid (HD2.out.far (p := ⟨w.heap.size, 3, none⟩) (v := (.slice A2 D.length c2)) (own_off HO2.out (by simp)))
  go_wp2_with fail
  clear q0 q1 q2 q3 qf qb x0 x1 x2 x3 x4
  obtain ⟨v3, hNv3⟩ : ∃ W0, W0 = (v2.setCell ⟨w.heap.size, 3, none⟩ (.slice A2 D.length c2)) := ⟨_, rfl⟩
  rw [← hNv3] at E HA BB X R HD2 ⊢
  clear hNv3
  refine (put_at rfl HA.out HP.out).mono ?_
  rintro e v4 ⟨A3, c3, rfl, hO3, B⟩
  have HO3 := Lib.hid (hO3.low (base' := w.heap.size + 3) (by have := R.out.lt; omega))
  clear hO3
  clear HA
  replace E := Lib.hid (ext_trans E.out B)
  replace BB := Lib.hid (BB.out.ext B)
  replace X := Lib.hid (X.out.ext B)
  replace R := Lib.hid (R.out.ext B)
  replace HD2 := Lib.hid (HD2.out.ext B)
  clear B
  have HP3 := Lib.hid (HO3.out.slc agI.hl agI.hz)
  obtain ⟨N, hN⟩ : ∃ N, (putL b.ag.l a).length = N := ⟨_, rfl⟩
  have HN := Lib.hid hN
  rw [hN] at HO3 ⊢
  clear hN
  have q0 := BB.out.c 0 _ rfl
  have q1 := BB.out.c 1 _ rfl
  have q2 := BB.out.c 2 _ rfl
  have q3 := BB.out.c 3 _ rfl
  have qf := BB.out.f
  have qb := BB.out.lt
  have r0 := R.out.c 0 _ rfl
  have r1 := R.out.c 1 _ rfl
  have r2 := R.out.c 2 _ rfl
  have r3 := R.out.c 3 _ rfl
  have rf := R.out.f
  have rb := R.out.lt
  replace E := Lib.hid (ext_set E.out ⟨w.heap.size, 2, none⟩ (.slice A3 N c3) (by first | exact Nat.le_refl _ | omega | (simp; done) | (simp; omega)))
  replace BB := Lib.hid (show Blk _ (w.heap.size) [.int .i64 b.own, .int .i64 b.ot, .slice A3 N c3, .slice A2 D.length c2] from BB.out.set (j := 2) (by simp) (.slice A3 N c3))
  replace X := Lib.hid (X.out.other (p := ⟨w.heap.size, 2, none⟩) (.slice A3 N c3) (by first | omega | (simp; done) | (simp; omega)))
  replace R := Lib.hid (R.out.other (p := ⟨w.heap.size, 2, none⟩) (.slice A3 N c3) (by first | omega | (simp; done) | (simp; omega)))
  replace HD2 := Lib.hid (HD2.out.far (p := ⟨w.heap.size, 2, none⟩) (v := (.slice A3 N c3)) (own_off HO2.out (by simp)))
  replace HP3 := Lib.hid (HP3.out.far (p := ⟨w.heap.size, 2, none⟩) (v := (.slice A3 N c3)) (own_off HO3.out (by simp)))
  replace E := Lib.hid (ext_set4 E.out (w.heap.size + 1 + 1) (.int .i64 b.own) (.int .i64 b.ot) (.slice A3 N c3) (.slice A2 D.length c2) (by first | exact Nat.le_refl _ | omega | (simp; done) | (simp; omega)))
  replace BB := Lib.hid (BB.out.off4 (c := w.heap.size + 1 + 1) (.int .i64 b.own) (.int .i64 b.ot) (.slice A3 N c3) (.slice A2 D.length c2) (by first | omega | (simp; done) | (simp; omega)))
  replace X := Lib.hid (X.out.off4 (c := w.heap.size + 1 + 1) (.int .i64 b.own) (.int .i64 b.ot) (.slice A3 N c3) (.slice A2 D.length c2) (by first | omega | (simp; done) | (simp; omega)))
  replace R := Lib.hid (R.out.put4 (.int .i64 b.own) (.int .i64 b.ot) (.slice A3 N c3) (.slice A2 D.length c2))
  replace HD2 := Lib.hid (HD2.out.far4 (b := (w.heap.size + 1 + 1)) (.int .i64 b.own) (.int .i64 b.ot) (.slice A3 N c3) (.slice A2 D.length c2) (own_off HO2.out (by simp)))
  replace HP3 := Lib.hid (HP3.out.far4 (b := (w.heap.size + 1 + 1)) (.int .i64 b.own) (.int .i64 b.ot) (.slice A3 N c3) (.slice A2 D.length c2) (own_off HO3.out (by simp)))
  unfold set4 at E BB X R HD2 HP3
  go_wp2_with fail
  have hcp := HCP.out
  have k3 := own_cap HO3.out
  have k2 := own_cap HO2.out
  refine bodyPost_ret (v := Bd.v ⟨b.own, b.ot, ⟨A3, c3, putL b.ag.l a⟩, ⟨A2, c2, D⟩⟩) (by simp [results, Try.results43, go_sem, *, HN.out]) rfl ?_
  refine ⟨_, rfl, by rw [← HD.out]; rfl, ⟨HP3.out, HD2.out, k3.1, k3.2, k2.1, k2.2⟩, E.out, fun c hc _ => ⟨own_off HO3.out (by omega), own_off HO2.out (by omega)⟩⟩
end Go.Proofs.Ytmnbeikhjbjpiaa
