/- Contracts: an agreement is settled, the reference's. -/
import Derived.Test.YtmnbeikhjbjpiaaN
set_option linter.unusedSimpArgs false
set_option linter.unusedVariables false
namespace Go.Proofs.Ytmnbeikhjbjpiaa
open Go.RowKit
theorem del_step {l : List Ag} {k : Nat} {x : Ag} {no : Int} (hx : l[k]? = some x) : delL (l.take (k + 1)) no = delL (l.take k) no ++ (if x.no = no then [] else [x]) := by
  unfold delL
  rw [List.take_add_one, hx, Option.toList_some, List.filter_append]; congr 1
  by_cases h : x.no = no <;> simp [h]
theorem del_len (l : List Ag) (k : Nat) (no : Int) : (delL (l.take k) no).length ≤ k := Nat.le_trans (List.length_filter_le _ _) (by rw [List.length_take]; omega)
set_option maxHeartbeats 1600000 in
theorem move_any (b : Bd) (a : Ag) (w : World) (hb : BOk w b) (ho : b.op.l.length ≤ 1000) (hp : PutOk b.ag.l a) : Calls Try.prog 44 #[b.v, a.v] w (BvR w b.off (b.bl.agree a)) := by
  have HOFF := Lib.hid (fun c (h : w.heap.size ≤ c) => hb.off h)
  have HCP := Lib.hid (show _ ∧ _ ∧ _ ∧ _ from ⟨hb.agl, hb.agc, hb.opl, hb.opc⟩)
  have HP := Lib.hid hp
  have HPL := Lib.hid hp.len
  clear hp
  have E := Lib.hid (ext_refl w)
  have HA := Lib.hid (hb.ag)
  have HO := Lib.hid (hb.op)
  clear hb
  replace E := Lib.hid (ext_alloc E.out (.cells #[.int .i64 b.own, .int .i64 b.ot, .slice b.ag.A b.ag.l.length b.ag.c, .slice b.op.A b.op.l.length b.op.c] 24))
  replace HA := Lib.hid (HA.out.alloc (.cells #[.int .i64 b.own, .int .i64 b.ot, .slice b.ag.A b.ag.l.length b.ag.c, .slice b.op.A b.op.l.length b.op.c] 24))
  replace HO := Lib.hid (HO.out.alloc (.cells #[.int .i64 b.own, .int .i64 b.ot, .slice b.ag.A b.ag.l.length b.ag.c, .slice b.op.A b.op.l.length b.op.c] 24))
  have BB := Lib.hid (Blk.newH w [.int .i64 b.own, .int .i64 b.ot, .slice b.ag.A b.ag.l.length b.ag.c, .slice b.op.A b.op.l.length b.op.c] 24 (w.heap.size) (by first | rfl | simp))
  replace E := Lib.hid (ext_alloc E.out (.cells #[.int .i64 a.no, .int .i64 a.f, .int .i64 a.t, .int .i64 a.m, .int .i64 a.r] 26))
  replace HA := Lib.hid (HA.out.alloc (.cells #[.int .i64 a.no, .int .i64 a.f, .int .i64 a.t, .int .i64 a.m, .int .i64 a.r] 26))
  replace HO := Lib.hid (HO.out.alloc (.cells #[.int .i64 a.no, .int .i64 a.f, .int .i64 a.t, .int .i64 a.m, .int .i64 a.r] 26))
  replace BB := Lib.hid (BB.out.alloc (.cells #[.int .i64 a.no, .int .i64 a.f, .int .i64 a.t, .int .i64 a.m, .int .i64 a.r] 26))
  have X := Lib.hid (Blk.newH (w.alloc (.cells #[.int .i64 b.own, .int .i64 b.ot, .slice b.ag.A b.ag.l.length b.ag.c, .slice b.op.A b.op.l.length b.op.c] 24)) [.int .i64 a.no, .int .i64 a.f, .int .i64 a.t, .int .i64 a.m, .int .i64 a.r] 26 (w.heap.size + 1) (by first | rfl | simp))
  replace E := Lib.hid (ext_alloc E.out (.cells #[.int .i64 0, .int .i64 0, .slice none 0 0, .slice none 0 0] 24))
  replace HA := Lib.hid (HA.out.alloc (.cells #[.int .i64 0, .int .i64 0, .slice none 0 0, .slice none 0 0] 24))
  replace HO := Lib.hid (HO.out.alloc (.cells #[.int .i64 0, .int .i64 0, .slice none 0 0, .slice none 0 0] 24))
  replace BB := Lib.hid (BB.out.alloc (.cells #[.int .i64 0, .int .i64 0, .slice none 0 0, .slice none 0 0] 24))
  replace X := Lib.hid (X.out.alloc (.cells #[.int .i64 0, .int .i64 0, .slice none 0 0, .slice none 0 0] 24))
  have R := Lib.hid (Blk.newH ((w.alloc (.cells #[.int .i64 b.own, .int .i64 b.ot, .slice b.ag.A b.ag.l.length b.ag.c, .slice b.op.A b.op.l.length b.op.c] 24)).alloc (.cells #[.int .i64 a.no, .int .i64 a.f, .int .i64 a.t, .int .i64 a.m, .int .i64 a.r] 26)) [.int .i64 0, .int .i64 0, .slice none 0 0, .slice none 0 0] 24 (w.heap.size + 1 + 1) (by first | rfl | simp))
  go_enter Try.func44, Try.ntmps44
  go_wp2_with fail
  go_loopw [5, 6] (fun v i wr => ∃ (k n c : Nat) (A : Option Addr) (D : List Ag), k ≤ b.op.l.length ∧ i = .int .i64 k ∧ v = .slice A n c ∧ n ≤ k ∧ Hid (delL (b.op.l.take k) a.no = D ∧ D.length = n) ∧ Hid (Own wr (w.heap.size + 3) 26 Ag.cells 5 (.slice A n c) D) ∧ Hid (Blk wr (w.heap.size) [.int .i64 b.own, .int .i64 b.ot, .slice b.ag.A b.ag.l.length b.ag.c, .slice b.op.A b.op.l.length b.op.c]) ∧ Hid (Blk wr (w.heap.size + 1) [.int .i64 a.no, .int .i64 a.f, .int .i64 a.t, .int .i64 a.m, .int .i64 a.r]) ∧ Hid (Blk wr (w.heap.size + 1 + 1) [.int .i64 0, .int .i64 0, .slice none 0 0, .slice none 0 0]) ∧ Hid (Slc wr Ag.cells 5 b.ag.A b.ag.l) ∧ Hid (Slc wr Ag.cells 5 b.op.A b.op.l) ∧ Hid (Below w.heap.size w wr) ∧ Hid (w.heap.size + 3 ≤ wr.heap.size)) (fun _ i _ => b.op.l.length - (intOf i).toNat)
  case atStart => exact ⟨0, 0, 0, none, [], Nat.zero_le _, rfl, rfl, Nat.le_refl _, ⟨rfl, rfl⟩, Own.nil _ _ _ _ _, BB.out, X.out, R.out, HA.out, HO.out, E.out, by simp [Hid]⟩
  clear BB X R HA HO E
  case round =>
    obtain ⟨k, n, c2, A2, D, hk, rfl, rfl, hnk, HD, HO2, BB, X, R, HA, HO, E, HZ⟩ := hrel
    have q3 := BB.out.c 3 _ rfl
    by_cases hlt : k < b.op.l.length
    rotate_left
    · have hge : ¬ (k : Int) < b.op.l.length := by omega
      have HD3 := Lib.hid (show delL b.op.l a.no = D by have := HD.out.1; rwa [List.take_of_length_le (by omega)] at this)
      obtain rfl : n = D.length := HD.out.2.symm
      have HD2 := Lib.hid (HO2.out.slc agI.hl agI.hz)
      have q0 := BB.out.c 0 _ rfl
      have q1 := BB.out.c 1 _ rfl
      have q2 := BB.out.c 2 _ rfl
      have qf := BB.out.f
      have qb := BB.out.lt
      have x0 := X.out.c 0 _ rfl
      have x1 := X.out.c 1 _ rfl
      have x2 := X.out.c 2 _ rfl
      have x3 := X.out.c 3 _ rfl
      have x4 := X.out.c 4 _ rfl
      have HOW := HO2
      clear HD
      have HD := HD3
      clear HD3
      clear HO
      replace BB := Lib.hid (show Blk _ (w.heap.size) [.int .i64 b.own, .int .i64 b.ot, .slice b.ag.A b.ag.l.length b.ag.c, .slice A2 D.length c2] from BB.out.set (j := 3) (by simp) (.slice A2 D.length c2))
      replace X := Lib.hid (X.out.other (p := ⟨w.heap.size, 3, none⟩) (.slice A2 D.length c2) (by first | omega | (simp; done) | (simp; omega)))
      replace R := Lib.hid (R.out.other (p := ⟨w.heap.size, 3, none⟩) (.slice A2 D.length c2) (by first | omega | (simp; done) | (simp; omega)))
      replace HA := Lib.hid (HA.out.far (p := ⟨w.heap.size, 3, none⟩) (v := (.slice A2 D.length c2)) (HOFF.out _ (Nat.le_refl _)).1)
      replace E := Lib.hid (ext_set E.out ⟨w.heap.size, 3, none⟩ (.slice A2 D.length c2) (by first | exact Nat.le_refl _ | omega | (simp; done) | (simp; omega)))
      replace HD2 := Lib.hid (HD2.out.far (p := ⟨w.heap.size, 3, none⟩) (v := (.slice A2 D.length c2)) (own_off HO2.out (by simp)))
      have HZ2 := Lib.hid (show w.heap.size + 3 ≤ (wr.setCell ⟨w.heap.size, 3, none⟩ (.slice A2 D.length c2)).heap.size by simpa [World.setCell] using HZ.out)
      go_wp2_with fail
      clear q0 q1 q2 q3 qf qb x0 x1 x2 x3 x4
      obtain ⟨v3, hNv3⟩ : ∃ W0, W0 = (wr.setCell ⟨w.heap.size, 3, none⟩ (.slice A2 D.length c2)) := ⟨_, rfl⟩
      rw [← hNv3] at BB X R HA E HD2 HZ2 ⊢
      clear hNv3
      refine (rput_at rfl HA.out HP.out HCP.out.1).mono ?_
      rintro e v4 ⟨A3, c3, rfl, hO3, B⟩
      have HO3 := Lib.hid (hO3.low (base' := w.heap.size + 3) (by have := R.out.lt; omega))
      clear hO3
      clear HA
      replace BB := Lib.hid (BB.out.ext B)
      replace X := Lib.hid (X.out.ext B)
      replace R := Lib.hid (R.out.ext B)
      replace E := Lib.hid (ext_trans E.out B)
      replace HD2 := Lib.hid (HD2.out.ext B)
      clear B
      have HP3 := Lib.hid (HO3.out.slc agI.hl agI.hz)
      obtain ⟨N, hN⟩ : ∃ N, (putL b.ag.l a).length = N := ⟨_, rfl⟩
      have HN := Lib.hid hN
      rw [hN] at HO3 ⊢
      clear hN
      have q0 := BB.out.c 0 _ rfl
      have q1 := BB.out.c 1 _ rfl
      have q2 := BB.out.c 2 _ rfl
      have q3 := BB.out.c 3 _ rfl
      have qf := BB.out.f
      have qb := BB.out.lt
      have r0 := R.out.c 0 _ rfl
      have r1 := R.out.c 1 _ rfl
      have r2 := R.out.c 2 _ rfl
      have r3 := R.out.c 3 _ rfl
      have rf := R.out.f
      have rb := R.out.lt
      replace BB := Lib.hid (show Blk _ (w.heap.size) [.int .i64 b.own, .int .i64 b.ot, .slice A3 N c3, .slice A2 D.length c2] from BB.out.set (j := 2) (by simp) (.slice A3 N c3))
      replace X := Lib.hid (X.out.other (p := ⟨w.heap.size, 2, none⟩) (.slice A3 N c3) (by first | omega | (simp; done) | (simp; omega)))
      replace R := Lib.hid (R.out.other (p := ⟨w.heap.size, 2, none⟩) (.slice A3 N c3) (by first | omega | (simp; done) | (simp; omega)))
      replace E := Lib.hid (ext_set E.out ⟨w.heap.size, 2, none⟩ (.slice A3 N c3) (by first | exact Nat.le_refl _ | omega | (simp; done) | (simp; omega)))
      replace HD2 := Lib.hid (HD2.out.far (p := ⟨w.heap.size, 2, none⟩) (v := (.slice A3 N c3)) (own_off HO2.out (by simp)))
      replace HP3 := Lib.hid (HP3.out.far (p := ⟨w.heap.size, 2, none⟩) (v := (.slice A3 N c3)) (own_off HO3.out (by simp)))
      replace BB := Lib.hid (BB.out.off4 (c := w.heap.size + 1 + 1) (.int .i64 b.own) (.int .i64 b.ot) (.slice A3 N c3) (.slice A2 D.length c2) (by first | omega | (simp; done) | (simp; omega)))
      replace X := Lib.hid (X.out.off4 (c := w.heap.size + 1 + 1) (.int .i64 b.own) (.int .i64 b.ot) (.slice A3 N c3) (.slice A2 D.length c2) (by first | omega | (simp; done) | (simp; omega)))
      replace R := Lib.hid (R.out.put4 (.int .i64 b.own) (.int .i64 b.ot) (.slice A3 N c3) (.slice A2 D.length c2))
      replace E := Lib.hid (ext_set4 E.out (w.heap.size + 1 + 1) (.int .i64 b.own) (.int .i64 b.ot) (.slice A3 N c3) (.slice A2 D.length c2) (by first | exact Nat.le_refl _ | omega | (simp; done) | (simp; omega)))
      replace HD2 := Lib.hid (HD2.out.far4 (b := (w.heap.size + 1 + 1)) (.int .i64 b.own) (.int .i64 b.ot) (.slice A3 N c3) (.slice A2 D.length c2) (own_off HO2.out (by simp)))
      replace HP3 := Lib.hid (HP3.out.far4 (b := (w.heap.size + 1 + 1)) (.int .i64 b.own) (.int .i64 b.ot) (.slice A3 N c3) (.slice A2 D.length c2) (own_off HO3.out (by simp)))
      unfold set4 at BB X R E HD2 HP3
      go_wp2_with fail
      have hcp := HCP.out
      have k3 := own_cap HO3.out
      have k2 := own_cap HO2.out
      refine bodyPost_ret (v := Bd.v ⟨b.own, b.ot, ⟨A3, c3, putL b.ag.l a⟩, ⟨A2, c2, D⟩⟩) (by simp [results, Try.results44, go_sem, *, HN.out]) rfl ?_
      refine ⟨_, rfl, by rw [← HD.out]; rfl, ⟨HP3.out, HD2.out, k3.1, k3.2, k2.1, k2.2⟩, E.out, fun c hc _ => ⟨own_off HO3.out (by omega), own_off HO2.out (by omega)⟩⟩
    obtain ⟨x, b1, o1, hx, hA, hb1, hd⟩ := HO.out.at_ hlt
    have d0 := hd 0 _ rfl
    have d1 := hd 1 _ rfl
    have d2 := hd 2 _ rfl
    have d3 := hd 3 _ rfl
    have d4 := hd 4 _ rfl
    simp only [Nat.add_zero] at d0
    have x0 := X.out.c 0 _ rfl
    have HX := Lib.hid (del_step (no := a.no) hx)
    have hlt' : (k : Int) < b.op.l.length := by omega
    obtain ⟨sA, hsA⟩ : ∃ sA, b.op.A = sA := ⟨_, rfl⟩
    have HSA := Lib.hid hsA
    rw [hsA] at hA
    subst hA
    have HOFF2 := Lib.hid (show ∀ c, w.heap.size ≤ c → rowOff b.op.A b.op.l c from fun c h => (HOFF.out c h).2)
    simp only [hsA] at *
    clear hd hx
    rename_i K2 a2
    clear a2
    by_cases hq : x.no = a.no
    · have e1 : (x.no != a.no) = false := by simpa using hq
      have HD2 := Lib.hid (show delL (b.op.l.take (k + 1)) a.no = D by rw [HX.out, if_pos hq, HD.out.1]; simp)
      clear hq
      go_wp2_with fail
      go_quiet (fail)
      go_wp2_with fail
      go_roundw
      case rel => exact ⟨k + 1, n, c2, A2, D, hlt, by go_num, rfl, by omega, ⟨HD2.out, HD.out.2⟩, HO2.out.drewN_ _, BB.out.ext (ext_drewN (ext_refl _) _), X.out.ext (ext_drewN (ext_refl _) _), R.out.ext (ext_drewN (ext_refl _) _), HA.out.ext (ext_drewN (ext_refl _) _), HO.out.ext (ext_drewN (ext_refl _) _), ext_drewN E.out _, HZ.out⟩
      case measure => simp [intOf]; omega
    · have e1 : (x.no != a.no) = true := by simpa using hq
      have HD2 := Lib.hid (show delL (b.op.l.take (k + 1)) a.no = D ++ [x] by rw [HX.out, if_neg hq, HD.out.1])
      clear hq
      go_wp2_with fail
      go_quiet (fail)
      obtain ⟨wq, hwq⟩ : ∃ wq, wq = wr.drewN nq := ⟨_, rfl⟩
      have BN := ext_drewN (ext_refl wr) nq
      replace HO2 := Lib.hid (HO2.out.drewN_ nq)
      replace BB := Lib.hid (BB.out.ext BN)
      replace X := Lib.hid (X.out.ext BN)
      replace R := Lib.hid (R.out.ext BN)
      replace HA := Lib.hid (HA.out.ext BN)
      replace HO := Lib.hid (HO.out.ext BN)
      replace E := Lib.hid (ext_drewN E.out nq)
      have HZ2 := Lib.hid (show w.heap.size + 3 ≤ (wr.drewN nq).heap.size from HZ.out)
      replace d0 := (BN.cell (p := ⟨b1, _, none⟩) hb1).trans d0
      replace d1 := (BN.cell (p := ⟨b1, _, none⟩) hb1).trans d1
      replace d2 := (BN.cell (p := ⟨b1, _, none⟩) hb1).trans d2
      replace d3 := (BN.cell (p := ⟨b1, _, none⟩) hb1).trans d3
      replace d4 := (BN.cell (p := ⟨b1, _, none⟩) hb1).trans d4
      replace q3 := (BN.cell (p := ⟨w.heap.size, _, none⟩) (by show w.heap.size < wr.heap.size; have := HZ.out; omega)).trans q3
      rw [← hwq] at HO2 BB X R HA HO E HZ2 d0 d1 d2 d3 d4 q3 ⊢
      clear hwq BN x0 HZ
      have AL := ext_alloc (ext_refl wq) (.cells #[.int .i64 x.no, .int .i64 x.f, .int .i64 x.t, .int .i64 x.m, .int .i64 x.r] 26)
      have hDn := HD.out.2
      have hO5 := HO2.out.alloc (.cells #[.int .i64 x.no, .int .i64 x.f, .int .i64 x.t, .int .i64 x.m, .int .i64 x.r] 26)
      obtain ⟨v', x10, hrun, A5, c5, rfl, hO6, hB6, hg6, hc6, hm6⟩ := run_app hO5 (ext_alloc E.out _) ⟨by have := HZ2.out; simp; omega, by omega⟩ HD.out.2 (slc_litH wq [x] #[.int .i64 x.no, .int .i64 x.f, .int .i64 x.t, .int .i64 x.m, .int .i64 x.r] 26 (enc := Ag.cells) (sz := 5) (fun _ => rfl) rfl wq.heap.size rfl) (by omega)
      have HRUN := Lib.hid hrun
      have HO7 := Lib.hid hO6
      have off2 := fun r (hr : r < w.heap.size + 3) (hn : (Value.slice A2 n c2).ownBlock = some r) => (hO5.lt r hn).2
      replace BB := Lib.hid ((BB.out.ext AL).keepB (hg6.block _ (Nat.lt_of_lt_of_le BB.out.lt AL.size) (fun e => by have := off2 _ (by omega) e.symm; omega)))
      replace X := Lib.hid ((X.out.ext AL).keepB (hg6.block _ (Nat.lt_of_lt_of_le X.out.lt AL.size) (fun e => by have := off2 _ (by omega) e.symm; omega)))
      replace R := Lib.hid ((R.out.ext AL).keepB (hg6.block _ (Nat.lt_of_lt_of_le R.out.lt AL.size) (fun e => by have := off2 _ (by omega) e.symm; omega)))
      replace HA := Lib.hid ((HA.out.ext AL).grown2 hg6 (fun r hr => (HOFF.out r (by have := (hO5.lt r hr).2; omega)).1))
      replace HO := Lib.hid ((HO.out.ext AL).grown2 hg6 (fun r hr => HOFF2.out r (by have := (hO5.lt r hr).2; omega)))
      clear hrun hO5 hO6 AL hg6 off2
      go_wp2_with (at_builtin; refine wpList_append_run rfl (.tmp 23) (.tmp 29) 22 rfl (.slice A2 n c2) (.slice (some ⟨wq.heap.size, 0, none⟩) 1 1) rfl rfl HRUN.out ?_)
      go_roundw
      case rel => exact ⟨k + 1, n + 1, c5, A5, D ++ [x], hlt, by go_num, rfl, by omega, ⟨HD2.out, by simp [HD.out.2]⟩, HO7.out, BB.out, X.out, R.out, HA.out, HO.out, hB6.1, hB6.2⟩
      case measure => simp [intOf]; omega
end Go.Proofs.Ytmnbeikhjbjpiaa
