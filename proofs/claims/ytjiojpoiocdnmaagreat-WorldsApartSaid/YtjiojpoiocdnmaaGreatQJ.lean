/- Law 4: one more track. -/
import Derived.Test.YtjiojpoiocdnmaaGreatU43
import Derived.Deep.Cut
set_option linter.unusedSimpArgs false
set_option linter.unusedVariables false
namespace Go.Proofs.YtjiojpoiocdnmaaGreat
open Go.RowKit Go.Shelf
theorem PR.cap {W : World} {base : Nat} {A : Option Addr} {r c : Nat} {L : List (List Bool)} (h : PR W base A r c L) : r ≤ c ∧ c ≤ maxLen := by
  obtain ⟨rows, h1, h2, h3⟩ := h
  obtain ⟨A', c', e, k1, k2, k3⟩ := h1.o.cap
  cases e
  exact ⟨k1, k2⟩
theorem take_drop_ins {α : Type} (L : List α) (i : Nat) (x : α) (h : i ≤ L.length) : (insA L i x).take i ++ (insA L i x).drop (i + 1) = L := by
  unfold insA
  rw [List.take_append_of_le_length (by rw [List.length_take]; omega), List.take_of_length_le (by rw [List.length_take]; omega)]
  rw [List.drop_append, List.drop_of_length_le (by rw [List.length_take]; omega), List.nil_append, List.length_take, show i + 1 - min i L.length = 1 by omega, List.drop_succ_cons, List.drop_zero, List.take_append_drop]
theorem trkI : EInfo Tryz.prog 31 52 Trk.cells 14 168 := by
  obtain ⟨i, h1, h2, h3, h4⟩ := iparts (show (Tryz.prog.info? 52).map (fun i => (i.zero, i.size, i.bytes)) = some (some (.agg #[.int .i64 0, .int .i64 0, .int .i64 0, .string ⟨#[]⟩, .slice none 0 0, .int .i64 0, .int .i64 0, .bool false, .int .i64 0, .int .i64 0, .int .i64 0, .bool false, .slice none 0 0, .slice none 0 0]), 14, 168) by kernel_rfl)
  exact ⟨Tryz.underlying31, ⟨i, _, h1, h2, h3, h4, rfl⟩, by decide, fun _ => rfl, fun x u hu => by simp [Trk.cells] at hu; rcases hu with rfl | rfl | rfl | rfl | rfl | rfl | rfl | rfl | rfl | rfl | rfl | rfl | rfl | rfl <;> rfl⟩
set_option maxRecDepth 100000 in
set_option maxHeartbeats 64000000 in
theorem law4 (t : Tab) (SA : Option Addr) (sc : Nat) (s : List Stn) (RA : Option Addr) (rc : Nat) (R : List Rep) (LA : Option Addr) (lc : Nat) (l : List Trk) (x : Trk) (ia : Int) (ha0 : 0 ≤ ia) (ha1 : ia ≤ 255) (w : World) (ht : Tab.ok w t) (hs : StnS w SA sc s) (hR : SliceOf.ok Rep.cells 6 Rep.ok w ⟨RA, rc, R⟩) (hl : TrkS w LA lc l) (hx : Trk.ok w x) (hlb : l.length * 168 ≤ 140737488351232) :
    Calls Tryz.prog 4 #[t.v, .slice SA s.length sc, .slice RA R.length rc, .slice LA l.length lc, x.v, .int .u8 ia] w (Tru w) := by
  obtain ⟨rn, hrn⟩ : ∃ rn, R.length = rn := ⟨_, rfl⟩
  obtain ⟨sn, hsn⟩ : ∃ sn, s.length = sn := ⟨_, rfl⟩
  obtain ⟨ln, hln⟩ : ∃ ln, l.length = ln := ⟨_, rfl⟩
  have HRN := Lib.hid hrn
  have HSN := Lib.hid hsn
  have HLN := Lib.hid hln
  have hrc : rn ≤ rc := by rw [← hrn]; exact hR.2.1
  have hrm : rc ≤ 2 ^ 63 - 1 := hR.2.2.1
  have hsc : sn ≤ 2 ^ 63 - 1 := by rw [← hsn]; exact hs.len
  have hlc : ln ≤ lc := by rw [← hln]; exact hl.2.1
  have hlm : lc ≤ 2 ^ 63 - 1 := hl.2.2.1
  rw [hln] at hlb
  rw [hrn, hsn, hln]
  clear hrn hsn hln
  have HT := Lib.hid ht
  have HS := Lib.hid hs
  have HR := Lib.hid hR
  have HL := Lib.hid hl
  have HX := Lib.hid hx
  obtain ⟨W0, hW0⟩ : ∃ W0, (w.alloc (.cells #[.int .i64 t.n, .slice t.ss.A t.ss.l.length t.ss.c, .slice t.cs.A t.cs.l.length t.cs.c, .slice t.ws.A t.ws.l.length t.ws.c, .slice t.ms.A t.ms.l.length t.ms.c, .slice t.ks.A t.ks.l.length t.ks.c] 28)).alloc (.cells #[.int .i64 x.fl.id, .int .i64 x.fl.al, .int .i64 x.fl.cl, .string x.fl.call, .slice x.fl.ws.A x.fl.ws.n x.fl.ws.c, .int .i64 x.fl.wi.f, .int .i64 x.fl.wi.t, .bool x.fl.cn, .int .i64 x.op.de, .int .i64 x.op.way, .int .i64 x.op.ho, .bool x.op.cn, .slice x.ps.A x.ps.l.length x.ps.c, .slice x.po.A x.po.n x.po.c] 52) = W0 := ⟨_, rfl⟩
  have E0 : Hid (Below w.heap.size w W0) := by rw [← hW0]; exact ext_alloc (ext_alloc (ext_refl w) _) _
  have T0 : Hid (Blk W0 w.heap.size t.cells) := by rw [← hW0]; exact (Blk.newH w t.cells 28 w.heap.size rfl).alloc _
  have X0 : Hid (Blk W0 (w.heap.size + 1) x.cells) := by rw [← hW0]; exact Blk.newH (w.alloc _) x.cells 52 (w.heap.size + 1) (by simp)
  clear ht hs hR hl hx
  go_enter Tryz.func4, Tryz.ntmps4
  go_wp2_with fail
  refine (sane_any W0).mono ?_
  rintro e wr ⟨rfl, B⟩
  have E1 := Lib.hid (ext_trans E0.out B)
  have T1 := Lib.hid (T0.out.ext B)
  have X1 := Lib.hid (X0.out.ext B)
  clear hW0 B E0 T0 X0
  obtain ⟨i, hi⟩ : ∃ i : Nat, ia.tmod ((ln : Int) + 1) = (i : Int) := ⟨(ia.tmod ((ln : Int) + 1)).toNat, by rw [Int.toNat_of_nonneg (Int.tmod_nonneg _ ha0)]⟩
  have hiln : i ≤ ln := by
    have := Int.tmod_lt_of_pos ia (show (0 : Int) < (ln : Int) + 1 by omega)
    omega
  have hw0 : IntKind.i64.wrap ((ln : Int) + 1) = (ln : Int) + 1 := IntWalk.i64_in _ (by omega)
  have hne0 : ¬ ((ln : Int) + 1 = 0) := by omega
  obtain ⟨mn, hmn⟩ : ∃ mn, ln + 1 = mn := ⟨_, rfl⟩
  have HMN : Hid ((insA l i x).length = mn) := by unfold Hid; rw [insA_len (by rw [HLN.out]; exact hiln), HLN.out]; exact hmn
  have HIN : Hid ((l.take i ++ [x]) ++ l.drop i = insA l i x) := by unfold insA Hid; simp
  have HKT := Lib.hid (show (l.take i).length = i by rw [List.length_take, HLN.out]; omega)
  have HKE := Lib.hid (show (l.drop i).length = ln - i by rw [List.length_drop, HLN.out])
  have hs1 := fun w : World => slice_headT LA ln lc i (i : Int) rfl (by omega) w
  have hs3 := fun w : World => slice_fromT LA ln lc i (i : Int) rfl (by omega) hlc w
  obtain ⟨AG, hAG⟩ : ∃ z, fromT LA lc i = z := ⟨_, rfl⟩
  have HLr := Lib.hid (HL.out.ext E1.out)
  have HDL := Lib.hid (show Slc wr Trk.cells 14 AG (l.drop i) by rw [← hAG]; exact HLr.out.slc.fromT i lc (by rw [HLN.out]; exact hlc))
  rw [hAG] at hs3
  clear hAG
  go_wp2_with fail
  go_cut [14] from 25 (fun v wc => ∃ (A3 : Option Addr) (q3 : Nat), v = .slice A3 mn q3 ∧ Hid (Own wc wr.heap.size 52 Trk.cells 14 (.slice A3 mn q3) (insA l i x)) ∧ Hid (mn ≤ q3 ∧ q3 ≤ maxLen) ∧ Hid (Below wr.heap.size wr wc))
  case first =>
    have SS := Lib.hid (show ∀ w', Below wr.heap.size wr w' → (fun w' => Below wr.heap.size wr w' ∧ w'.cell? ⟨w.heap.size + 1, 0, none⟩ = some (.int .i64 x.fl.id) ∧ w'.cell? ⟨w.heap.size + 1, 1, none⟩ = some (.int .i64 x.fl.al) ∧ w'.cell? ⟨w.heap.size + 1, 2, none⟩ = some (.int .i64 x.fl.cl) ∧ w'.cell? ⟨w.heap.size + 1, 3, none⟩ = some (.string x.fl.call) ∧ w'.cell? ⟨w.heap.size + 1, 4, none⟩ = some (.slice x.fl.ws.A x.fl.ws.n x.fl.ws.c) ∧ w'.cell? ⟨w.heap.size + 1, 5, none⟩ = some (.int .i64 x.fl.wi.f) ∧ w'.cell? ⟨w.heap.size + 1, 6, none⟩ = some (.int .i64 x.fl.wi.t) ∧ w'.cell? ⟨w.heap.size + 1, 7, none⟩ = some (.bool x.fl.cn) ∧ w'.cell? ⟨w.heap.size + 1, 8, none⟩ = some (.int .i64 x.op.de) ∧ w'.cell? ⟨w.heap.size + 1, 9, none⟩ = some (.int .i64 x.op.way) ∧ w'.cell? ⟨w.heap.size + 1, 10, none⟩ = some (.int .i64 x.op.ho) ∧ w'.cell? ⟨w.heap.size + 1, 11, none⟩ = some (.bool x.op.cn) ∧ w'.cell? ⟨w.heap.size + 1, 12, none⟩ = some (.slice x.ps.A x.ps.l.length x.ps.c) ∧ w'.cell? ⟨w.heap.size + 1, 13, none⟩ = some (.slice x.po.A x.po.n x.po.c)) w' from fun w' h => ⟨h, (X1.out.ext h).c 0 _ rfl, (X1.out.ext h).c 1 _ rfl, (X1.out.ext h).c 2 _ rfl, (X1.out.ext h).c 3 _ rfl, (X1.out.ext h).c 4 _ rfl, (X1.out.ext h).c 5 _ rfl, (X1.out.ext h).c 6 _ rfl, (X1.out.ext h).c 7 _ rfl, (X1.out.ext h).c 8 _ rfl, (X1.out.ext h).c 9 _ rfl, (X1.out.ext h).c 10 _ rfl, (X1.out.ext h).c 11 _ rfl, (X1.out.ext h).c 12 _ rfl, (X1.out.ext h).c 13 _ rfl⟩)
    refine rg_begin (S := (fun w' => Below wr.heap.size wr w' ∧ w'.cell? ⟨w.heap.size + 1, 0, none⟩ = some (.int .i64 x.fl.id) ∧ w'.cell? ⟨w.heap.size + 1, 1, none⟩ = some (.int .i64 x.fl.al) ∧ w'.cell? ⟨w.heap.size + 1, 2, none⟩ = some (.int .i64 x.fl.cl) ∧ w'.cell? ⟨w.heap.size + 1, 3, none⟩ = some (.string x.fl.call) ∧ w'.cell? ⟨w.heap.size + 1, 4, none⟩ = some (.slice x.fl.ws.A x.fl.ws.n x.fl.ws.c) ∧ w'.cell? ⟨w.heap.size + 1, 5, none⟩ = some (.int .i64 x.fl.wi.f) ∧ w'.cell? ⟨w.heap.size + 1, 6, none⟩ = some (.int .i64 x.fl.wi.t) ∧ w'.cell? ⟨w.heap.size + 1, 7, none⟩ = some (.bool x.fl.cn) ∧ w'.cell? ⟨w.heap.size + 1, 8, none⟩ = some (.int .i64 x.op.de) ∧ w'.cell? ⟨w.heap.size + 1, 9, none⟩ = some (.int .i64 x.op.way) ∧ w'.cell? ⟨w.heap.size + 1, 10, none⟩ = some (.int .i64 x.op.ho) ∧ w'.cell? ⟨w.heap.size + 1, 11, none⟩ = some (.bool x.op.cn) ∧ w'.cell? ⟨w.heap.size + 1, 12, none⟩ = some (.slice x.ps.A x.ps.l.length x.ps.c) ∧ w'.cell? ⟨w.heap.size + 1, 13, none⟩ = some (.slice x.po.A x.po.n x.po.c))) 13 (by kernel_rfl) (by intro d; cases d <;> intro _ _ _ _ h <;> exact h) ?_ (fun Q7 hQ7 hN7 hHeld => ?_)
    · exact SS.out _ (ext_drew (ext_refl _))
    refine rg_take (i := 1) (some 34) (v := ?_) rfl rfl (by kernel_rfl) (by rfl) hQ7 hHeld ?_ ?_
    rotate_left
    · intro w7 hSw; (try dsimp only at hSw); go_simp; all_goals with_reducible rfl
    try simp only [Act.put, List.setIfInBounds_toArray, List.set_cons_zero, List.set_cons_succ]
    refine rg_take (i := 2) (some 35) (v := ?_) rfl rfl (by kernel_rfl) (by rfl) hQ7 hHeld ?_ ?_
    rotate_left
    · intro w7 hSw; (try dsimp only at hSw); go_simp; all_goals with_reducible rfl
    try simp only [Act.put, List.setIfInBounds_toArray, List.set_cons_zero, List.set_cons_succ]
    refine rg_take (i := 3) (some 36) (v := .slice LA i lc) rfl rfl (by kernel_rfl) (by rfl) hQ7 hHeld (fun w7 hSw => run_v (hs1 w7)) ?_
    try simp only [Act.put, List.setIfInBounds_toArray, List.set_cons_zero, List.set_cons_succ]
    refine rg_take (i := 5) (some 38) (v := ?_) rfl rfl (by kernel_rfl) (by rfl) hQ7 hHeld ?_ ?_
    rotate_left
    · intro w7 hSw; (try dsimp only at hSw); go_simp; all_goals with_reducible rfl
    try simp only [Act.put, List.setIfInBounds_toArray, List.set_cons_zero, List.set_cons_succ]
    refine rg_take (i := 8) (some 41) (v := ?_) rfl rfl (by kernel_rfl) (by rfl) hQ7 hHeld ?_ ?_
    rotate_left
    · intro w7 hSw; (try dsimp only at hSw); go_simp; all_goals with_reducible rfl
    try simp only [Act.put, List.setIfInBounds_toArray, List.set_cons_zero, List.set_cons_succ]
    refine rg_take (i := 9) (some 42) (v := ?_) rfl rfl (by kernel_rfl) (by rfl) hQ7 hHeld ?_ ?_
    rotate_left
    · intro w7 hSw; (try dsimp only at hSw); go_simp; all_goals with_reducible rfl
    try simp only [Act.put, List.setIfInBounds_toArray, List.set_cons_zero, List.set_cons_succ]
    refine rg_take (i := 10) (some 43) (v := .slice AG (ln - i) (lc - i)) rfl rfl (by kernel_rfl) (by rfl) hQ7 hHeld (fun w7 hSw => run_v (hs3 w7)) ?_
    try simp only [Act.put, List.setIfInBounds_toArray, List.set_cons_zero, List.set_cons_succ]
    refine rg_two (i := 0) (j := 6) (by kernel_rfl) (rg_step rfl (by rfl) (fun K hK => ?_)) (rg_step rfl (by rfl) (fun K hK => ?_))
    · go_simp
      refine hK.out _ _ ?_ (fun hHeld2 => ?_)
      · exact SS.out _ (ext_alloc hHeld.1 _)
      clear hHeld
      have hHeld := hHeld2
      clear hHeld2
      clear hK K
      try simp only [Act.put, List.setIfInBounds_toArray, List.set_cons_zero, List.set_cons_succ]
      refine rg_two (i := 4) (j := 6) (by kernel_rfl) (rg_step rfl (by rfl) (fun K hK => ?_)) (rg_step rfl (by rfl) (fun K hK => ?_))
      · refine rg_append (some 37) _ _ 31 31 rfl rfl rfl _ _ rfl rfl (Own.append_k (w0 := wr) trkI 31 (Own.madeH (α := Trk) wr wr.heap.size 52 Trk.cells 14 (by simp) wr.heap.size (by simp)).drew_ hHeld.1 (ys := l.take i) (m := i) HKT.out.symm lc ((HLr.out.slc.ext hHeld.1).take i) (l.take i) rfl i HKT.out (by omega) (by unfold maxLen; omega)) ?_
        rintro _ u1 ⟨A1, q1, rfl, hO1, B1, hg1, hq1, hm1⟩
        refine hK.out _ _ ?_ (fun hHeld2 => ?_)
        · exact SS.out _ B1
        clear hHeld
        have hHeld := hHeld2
        clear hHeld2
        clear hK K
        try simp only [Act.put, List.setIfInBounds_toArray, List.set_cons_zero, List.set_cons_succ]
        refine rg_one (i := 6) (by kernel_rfl) (rg_step rfl (by rfl) (fun K hK => ?_))
        go_simp
        refine hK.out _ _ ?_ (fun hHeld2 => ?_)
        · exact SS.out _ (ext_alloc hHeld.1 _)
        clear hHeld
        have hHeld := hHeld2
        clear hHeld2
        clear hK K
        try simp only [Act.put, List.setIfInBounds_toArray, List.set_cons_zero, List.set_cons_succ]
        refine rg_one (i := 7) (by kernel_rfl) (rg_step rfl (by rfl) (fun K hK => ?_))
        refine rg_append (some 40) _ _ 31 31 rfl rfl rfl _ _ rfl rfl (Own.append_k (w0 := wr) trkI 31 (hO1.alloc _) hHeld.1 (ys := [x]) (m := 1) rfl 1 (slc_litH u1 [x] _ 52 (enc := Trk.cells) (sz := 14) (fun _ => rfl) rfl u1.heap.size (by first | rfl | simp)) (l.take i ++ [x]) rfl (i + 1) (by rw [List.length_append, HKT.out]; rfl) (by omega) (by unfold maxLen; omega)) ?_
        rintro _ u2 ⟨A2, q2, rfl, hO2, B2, hg2, hq2, hm2⟩
        refine hK.out _ _ ?_ (fun hHeld2 => ?_)
        · exact SS.out _ B2
        clear hHeld
        have hHeld := hHeld2
        clear hHeld2
        clear hK K
        try simp only [Act.put, List.setIfInBounds_toArray, List.set_cons_zero, List.set_cons_succ]
        refine rg_one (i := 11) (by kernel_rfl) (rg_step rfl (by rfl) (fun K hK => ?_))
        refine rg_append (some 44) _ _ 31 31 rfl rfl rfl _ _ rfl rfl (Own.append_k (w0 := wr) trkI 31 hO2 hHeld.1 (ys := l.drop i) (m := ln - i) HKE.out.symm (lc - i) (HDL.out.ext hHeld.1) (insA l i x) HIN.out mn HMN.out (by omega) (by unfold maxLen; omega)) ?_
        rintro _ u3 ⟨A3, q3, rfl, hO3, B3, hg3, hq3, hm3⟩
        refine hK.out _ _ ?_ (fun hHeld2 => ?_)
        · exact SS.out _ B3
        clear hHeld
        have hHeld := hHeld2
        clear hHeld2
        clear hK K
        try simp only [Act.put, List.setIfInBounds_toArray, List.set_cons_zero, List.set_cons_succ]
        refine rg_take (i := 12) (some 14) (v := ?_) rfl rfl (by kernel_rfl) (by rfl) hQ7 hHeld ?_ ?_
        rotate_left
        · intro w7 hSw; (try dsimp only at hSw); go_simp; all_goals with_reducible rfl
        try simp only [Act.put, List.setIfInBounds_toArray, List.set_cons_zero, List.set_cons_succ]
        refine rg_end (by kernel_rfl) (hN7 _ _ ?_) _
        clear hQ7 hN7 Q7
        have BX := hHeld.1
        clear SS
        go_wp2_with fail
        go_meet
        exact ⟨A3, q3, rfl, hO3, ⟨hq3, hm3⟩, B3⟩
      · go_simp
        refine hK.out _ _ ?_ (fun hHeld2 => ?_)
        · exact SS.out _ (ext_alloc hHeld.1 _)
        clear hHeld
        have hHeld := hHeld2
        clear hHeld2
        clear hK K
        try simp only [Act.put, List.setIfInBounds_toArray, List.set_cons_zero, List.set_cons_succ]
        refine rg_one (i := 4) (by kernel_rfl) (rg_step rfl (by rfl) (fun K hK => ?_))
        refine rg_append (some 37) _ _ 31 31 rfl rfl rfl _ _ rfl rfl (Own.append_k (w0 := wr) trkI 31 ((Own.madeH (α := Trk) wr wr.heap.size 52 Trk.cells 14 (by simp) wr.heap.size (by simp)).alloc _).drew_ hHeld.1 (ys := l.take i) (m := i) HKT.out.symm lc ((HLr.out.slc.ext hHeld.1).take i) (l.take i) rfl i HKT.out (by omega) (by unfold maxLen; omega)) ?_
        rintro _ u1 ⟨A1, q1, rfl, hO1, B1, hg1, hq1, hm1⟩
        refine hK.out _ _ ?_ (fun hHeld2 => ?_)
        · exact SS.out _ B1
        clear hHeld
        have hHeld := hHeld2
        clear hHeld2
        clear hK K
        try simp only [Act.put, List.setIfInBounds_toArray, List.set_cons_zero, List.set_cons_succ]
        refine rg_one (i := 7) (by kernel_rfl) (rg_step rfl (by rfl) (fun K hK => ?_))
        refine rg_append (some 40) _ _ 31 31 rfl rfl rfl _ _ rfl rfl (Own.append_k (w0 := wr) trkI 31 hO1 hHeld.1 (ys := [x]) (m := 1) rfl 1 ((slc_litH _ [x] _ 52 (enc := Trk.cells) (sz := 14) (fun _ => rfl) rfl (wr.heap.size + 1) (by first | rfl | simp)).drew_.grown hg1 (fun b o s e => by cases e; simp [Value.ownBlock])) (l.take i ++ [x]) rfl (i + 1) (by rw [List.length_append, HKT.out]; rfl) (by omega) (by unfold maxLen; omega)) ?_
        rintro _ u2 ⟨A2, q2, rfl, hO2, B2, hg2, hq2, hm2⟩
        refine hK.out _ _ ?_ (fun hHeld2 => ?_)
        · exact SS.out _ B2
        clear hHeld
        have hHeld := hHeld2
        clear hHeld2
        clear hK K
        try simp only [Act.put, List.setIfInBounds_toArray, List.set_cons_zero, List.set_cons_succ]
        refine rg_one (i := 11) (by kernel_rfl) (rg_step rfl (by rfl) (fun K hK => ?_))
        refine rg_append (some 44) _ _ 31 31 rfl rfl rfl _ _ rfl rfl (Own.append_k (w0 := wr) trkI 31 hO2 hHeld.1 (ys := l.drop i) (m := ln - i) HKE.out.symm (lc - i) (HDL.out.ext hHeld.1) (insA l i x) HIN.out mn HMN.out (by omega) (by unfold maxLen; omega)) ?_
        rintro _ u3 ⟨A3, q3, rfl, hO3, B3, hg3, hq3, hm3⟩
        refine hK.out _ _ ?_ (fun hHeld2 => ?_)
        · exact SS.out _ B3
        clear hHeld
        have hHeld := hHeld2
        clear hHeld2
        clear hK K
        try simp only [Act.put, List.setIfInBounds_toArray, List.set_cons_zero, List.set_cons_succ]
        refine rg_take (i := 12) (some 14) (v := ?_) rfl rfl (by kernel_rfl) (by rfl) hQ7 hHeld ?_ ?_
        rotate_left
        · intro w7 hSw; (try dsimp only at hSw); go_simp; all_goals with_reducible rfl
        try simp only [Act.put, List.setIfInBounds_toArray, List.set_cons_zero, List.set_cons_succ]
        refine rg_end (by kernel_rfl) (hN7 _ _ ?_) _
        clear hQ7 hN7 Q7
        have BX := hHeld.1
        clear SS
        go_wp2_with fail
        go_meet
        exact ⟨A3, q3, rfl, hO3, ⟨hq3, hm3⟩, B3⟩
    · go_simp
      refine hK.out _ _ ?_ (fun hHeld2 => ?_)
      · exact SS.out _ (ext_alloc hHeld.1 _)
      clear hHeld
      have hHeld := hHeld2
      clear hHeld2
      clear hK K
      try simp only [Act.put, List.setIfInBounds_toArray, List.set_cons_zero, List.set_cons_succ]
      refine rg_one (i := 0) (by kernel_rfl) (rg_step rfl (by rfl) (fun K hK => ?_))
      go_simp
      refine hK.out _ _ ?_ (fun hHeld2 => ?_)
      · exact SS.out _ (ext_alloc hHeld.1 _)
      clear hHeld
      have hHeld := hHeld2
      clear hHeld2
      clear hK K
      try simp only [Act.put, List.setIfInBounds_toArray, List.set_cons_zero, List.set_cons_succ]
      refine rg_one (i := 4) (by kernel_rfl) (rg_step rfl (by rfl) (fun K hK => ?_))
      refine rg_append (some 37) _ _ 31 31 rfl rfl rfl _ _ rfl rfl (Own.append_k (w0 := wr) trkI 31 (Own.madeH (α := Trk) _ wr.heap.size 52 Trk.cells 14 (by simp) (wr.heap.size + 1) (by simp)).drew_ hHeld.1 (ys := l.take i) (m := i) HKT.out.symm lc ((HLr.out.slc.ext hHeld.1).take i) (l.take i) rfl i HKT.out (by omega) (by unfold maxLen; omega)) ?_
      rintro _ u1 ⟨A1, q1, rfl, hO1, B1, hg1, hq1, hm1⟩
      refine hK.out _ _ ?_ (fun hHeld2 => ?_)
      · exact SS.out _ B1
      clear hHeld
      have hHeld := hHeld2
      clear hHeld2
      clear hK K
      try simp only [Act.put, List.setIfInBounds_toArray, List.set_cons_zero, List.set_cons_succ]
      refine rg_one (i := 7) (by kernel_rfl) (rg_step rfl (by rfl) (fun K hK => ?_))
      refine rg_append (some 40) _ _ 31 31 rfl rfl rfl _ _ rfl rfl (Own.append_k (w0 := wr) trkI 31 hO1 hHeld.1 (ys := [x]) (m := 1) rfl 1 (((slc_litH _ [x] _ 52 (enc := Trk.cells) (sz := 14) (fun _ => rfl) rfl wr.heap.size (by first | rfl | simp)).alloc _).drew_.grown hg1 (fun b o s e => by cases e; simp [Value.ownBlock])) (l.take i ++ [x]) rfl (i + 1) (by rw [List.length_append, HKT.out]; rfl) (by omega) (by unfold maxLen; omega)) ?_
      rintro _ u2 ⟨A2, q2, rfl, hO2, B2, hg2, hq2, hm2⟩
      refine hK.out _ _ ?_ (fun hHeld2 => ?_)
      · exact SS.out _ B2
      clear hHeld
      have hHeld := hHeld2
      clear hHeld2
      clear hK K
      try simp only [Act.put, List.setIfInBounds_toArray, List.set_cons_zero, List.set_cons_succ]
      refine rg_one (i := 11) (by kernel_rfl) (rg_step rfl (by rfl) (fun K hK => ?_))
      refine rg_append (some 44) _ _ 31 31 rfl rfl rfl _ _ rfl rfl (Own.append_k (w0 := wr) trkI 31 hO2 hHeld.1 (ys := l.drop i) (m := ln - i) HKE.out.symm (lc - i) (HDL.out.ext hHeld.1) (insA l i x) HIN.out mn HMN.out (by omega) (by unfold maxLen; omega)) ?_
      rintro _ u3 ⟨A3, q3, rfl, hO3, B3, hg3, hq3, hm3⟩
      refine hK.out _ _ ?_ (fun hHeld2 => ?_)
      · exact SS.out _ B3
      clear hHeld
      have hHeld := hHeld2
      clear hHeld2
      clear hK K
      try simp only [Act.put, List.setIfInBounds_toArray, List.set_cons_zero, List.set_cons_succ]
      refine rg_take (i := 12) (some 14) (v := ?_) rfl rfl (by kernel_rfl) (by rfl) hQ7 hHeld ?_ ?_
      rotate_left
      · intro w7 hSw; (try dsimp only at hSw); go_simp; all_goals with_reducible rfl
      try simp only [Act.put, List.setIfInBounds_toArray, List.set_cons_zero, List.set_cons_succ]
      refine rg_end (by kernel_rfl) (hN7 _ _ ?_) _
      clear hQ7 hN7 Q7
      have BX := hHeld.1
      clear SS
      go_wp2_with fail
      go_meet
      exact ⟨A3, q3, rfl, hO3, ⟨hq3, hm3⟩, B3⟩
  case rest =>
    obtain ⟨A3, q3, rfl, O3, HQ3, B3⟩ := hcut
    have E3 := Lib.hid (ext_trans E1.out B3.out)
    have T3 := Lib.hid (T1.out.ext B3.out)
    have X3 := Lib.hid (X1.out.ext B3.out)
    clear E1 T1 X1 HLr HDL B3 hs1 hs3 hw0 hne0
    obtain ⟨gA, hgA, -, -, -⟩ := O3.out.addr (by omega)
    have HM3 : Hid (TrkS wc A3 q3 (insA l i x)) := ⟨O3.out.slc (fun _ => rfl) (by decide), by rw [HMN.out]; exact HQ3.out.1, HQ3.out.2, (fun e => by rw [hgA] at e; cases e), fun y hy => (insA_mem.1 hy).elim (fun e => by rw [e]; exact HX.out.ext E3.out) (fun h => (HL.out.ext E3.out).all h)⟩
    clear hgA
    have b0 := T3.out.c 0 _ rfl
    have b1 := T3.out.c 1 _ rfl
    have b2 := T3.out.c 2 _ rfl
    have b3 := T3.out.c 3 _ rfl
    have b4 := T3.out.c 4 _ rfl
    have b5 := T3.out.c 5 _ rfl
    have bl := T3.out.lt
    have c0 := X3.out.c 0 _ rfl
    have c1 := X3.out.c 1 _ rfl
    have c2 := X3.out.c 2 _ rfl
    have c3 := X3.out.c 3 _ rfl
    have c4 := X3.out.c 4 _ rfl
    have c5 := X3.out.c 5 _ rfl
    have c6 := X3.out.c 6 _ rfl
    have c7 := X3.out.c 7 _ rfl
    have c8 := X3.out.c 8 _ rfl
    have c9 := X3.out.c 9 _ rfl
    have c10 := X3.out.c 10 _ rfl
    have c11 := X3.out.c 11 _ rfl
    have c12 := X3.out.c 12 _ rfl
    have c13 := X3.out.c 13 _ rfl
    have cl := X3.out.lt
    go_wp2_with fail
    clear b0 b1 b2 b3 b4 b5 bl c0 c1 c2 c3 c4 c5 c6 c7 c8 c9 c10 c11 c12 c13 cl
    refine (light_at (s := s) (R := R) (l := insA l i x) 400 400 rfl (by decide) (by decide) HSN.out.symm HRN.out.symm HMN.out.symm (by unfold maxLen; omega) (HT.out.ext E3.out) (HS.out.ext E3.out) HM3.out).mono ?_
    rintro e w4 ⟨r, rfl, hLP, B⟩
    have E4 := Lib.hid (ext_trans E3.out B)
    have T4 := Lib.hid (T3.out.ext B)
    have X4 := Lib.hid (X3.out.ext B)
    have HM4 := Lib.hid (HM3.out.ext B)
    clear B E3 T3 X3 HM3
    cases r
    · go_wp2_with fail
      go_ret
      exact ⟨rfl, E4.out⟩
    have HLP := Lib.hid (hLP rfl)
    clear hLP
    have hln4 : ln ≤ 4 := by have h1 := HLP.out.hl; have h2 := HMN.out; omega
    have h12 : ¬ (12 : Int) ≤ (ln : Int) := by omega
    have h12' : (ln : Int) < 12 := by omega
    have b0 := T4.out.c 0 _ rfl
    have b1 := T4.out.c 1 _ rfl
    have b2 := T4.out.c 2 _ rfl
    have b3 := T4.out.c 3 _ rfl
    have b4 := T4.out.c 4 _ rfl
    have b5 := T4.out.c 5 _ rfl
    have bl := T4.out.lt
    have c0 := X4.out.c 0 _ rfl
    have c1 := X4.out.c 1 _ rfl
    have c2 := X4.out.c 2 _ rfl
    have c3 := X4.out.c 3 _ rfl
    have c4 := X4.out.c 4 _ rfl
    have c5 := X4.out.c 5 _ rfl
    have c6 := X4.out.c 6 _ rfl
    have c7 := X4.out.c 7 _ rfl
    have c8 := X4.out.c 8 _ rfl
    have c9 := X4.out.c 9 _ rfl
    have c10 := X4.out.c 10 _ rfl
    have c11 := X4.out.c 11 _ rfl
    have c12 := X4.out.c 12 _ rfl
    have c13 := X4.out.c 13 _ rfl
    have cl := X4.out.lt
    obtain ⟨W5, hW5⟩ : ∃ W5, w4.alloc (.cells #[.int .i64 x.fl.id, .int .i64 x.fl.al, .int .i64 x.fl.cl, .string x.fl.call, .slice x.fl.ws.A x.fl.ws.n x.fl.ws.c, .int .i64 x.fl.wi.f, .int .i64 x.fl.wi.t, .bool x.fl.cn, .int .i64 x.op.de, .int .i64 x.op.way, .int .i64 x.op.ho, .bool x.op.cn, .slice x.ps.A x.ps.l.length x.ps.c, .slice x.po.A x.po.n x.po.c] 52) = W5 := ⟨_, rfl⟩
    have E5 : Hid (Below w4.heap.size w4 W5) := by rw [← hW5]; exact ext_alloc (ext_refl w4) _
    have L5 : Hid (Slc W5 Trk.cells 14 (some ⟨w4.heap.size, 0, none⟩) [x]) := by rw [← hW5]; exact slc_litH w4 [x] #[.int .i64 x.fl.id, .int .i64 x.fl.al, .int .i64 x.fl.cl, .string x.fl.call, .slice x.fl.ws.A x.fl.ws.n x.fl.ws.c, .int .i64 x.fl.wi.f, .int .i64 x.fl.wi.t, .bool x.fl.cn, .int .i64 x.op.de, .int .i64 x.op.way, .int .i64 x.op.ho, .bool x.op.cn, .slice x.ps.A x.ps.l.length x.ps.c, .slice x.po.A x.po.n x.po.c] 52 (enc := Trk.cells) (sz := 14) (fun _ => rfl) rfl w4.heap.size rfl
    obtain ⟨EC, hEC⟩ : ∃ EC, wchkE t [x] = EC := ⟨_, rfl⟩
    have HEC := Lib.hid hEC
    have HW := Lib.hid (wchk_at (A := some ⟨w4.heap.size, 0, none⟩) (n := 1) (c := 1) (w := W5) EC hEC rfl ((HT.out.ext E4.out).ext E5.out) (okS L5.out rfl (by decide) (all1 ((HX.out.ext E4.out).ext E5.out))))
    clear hEC
    go_wp2_with fail
    clear b0 b1 b2 b3 b4 b5 bl c0 c1 c2 c3 c4 c5 c6 c7 c8 c9 c10 c11 c12 c13 cl hW5
    refine HW.out.mono ?_
    rintro e w6 ⟨rfl, B⟩
    have B46 := ext_trans E5.out B
    have E6 := Lib.hid (ext_trans E4.out B46)
    have T6 := Lib.hid (T4.out.ext B46)
    have X6 := Lib.hid (X4.out.ext B46)
    have HM6 := Lib.hid (HM4.out.ext B46)
    clear B46 B E4 T4 X4 HM4 E5 L5 HW
    by_cases hz : EC = 0
    rotate_left
    · have hz' : ((EC : Int) == 0) = false := by rw [beq_eq_false_iff_ne]; exact hz
      have hz2 : (EC != 0) = true := by rw [bne, hz']; rfl
      go_wp2_with fail
      go_ret
      exact ⟨rfl, E6.out⟩
    subst hz
    go_wp2_with fail
    go_loopw [65] (fun k wq => ∃ j : Nat, j ≤ ln ∧ k = .int .i64 j ∧ Hid (∀ (n : Nat) (y : Trk), n < j → l[n]? = some y → y.fl.call ≠ x.fl.call) ∧ Hid (Below w6.heap.size w6 wq)) (fun k _ => ln - (intOf k).toNat)
    case atStart => exact ⟨0, by omega, rfl, (fun n y h => by omega), ext_refl _⟩
    case round =>
      obtain ⟨j, hj, rfl, HNO, EE⟩ := hrel
      obtain ⟨wa, rfl⟩ : ∃ wa, wa = wr := ⟨_, rfl⟩
      by_cases hlt : j < ln
      rotate_left
      · obtain rfl : j = ln := by omega
        have hjn : ¬ (j : Int) < (j : Int) := by omega
        have HNL : Hid (∀ y ∈ l, y.fl.call ≠ x.fl.call) := fun y hy => by
          obtain ⟨n, hn⟩ := List.mem_iff_getElem?.1 hy
          exact HNO.out n y (by rw [← HLN.out]; exact (List.getElem?_eq_some_iff.1 hn).1) hn
        have E8 := Lib.hid (ext_trans E6.out EE.out)
        have T8 := Lib.hid (T6.out.ext EE.out)
        have X8 := Lib.hid (X6.out.ext EE.out)
        have HM8 := Lib.hid (HM6.out.ext EE.out)
        clear E6 T6 X6 HM6 HNO EE
        go_wp2_with fail
        clear hjn
        go_loopw [79] (fun k wq => ∃ j : Nat, j ≤ rn ∧ k = .int .i64 j ∧ Hid (∀ (n : Nat) (r : Rep), n < j → R[n]? = some r → r.call ≠ x.fl.call) ∧ Hid (Below wa.heap.size wa wq)) (fun k _ => rn - (intOf k).toNat)
        case atStart => exact ⟨0, by omega, rfl, (fun n y h => by omega), ext_refl _⟩
        case round =>
          obtain ⟨q, hq, rfl, HNO, EE⟩ := hrel
          obtain ⟨wb, rfl⟩ : ∃ wb, wb = wr := ⟨_, rfl⟩
          by_cases hqt : q < rn
          rotate_left
          · obtain rfl : q = rn := by omega
            have hqn : ¬ (q : Int) < (q : Int) := by omega
            have HNR : Hid (∀ r ∈ R, r.call ≠ x.fl.call) := fun r hr => by
              obtain ⟨n, hn⟩ := List.mem_iff_getElem?.1 hr
              exact HNO.out n r (by rw [← HRN.out]; exact (List.getElem?_eq_some_iff.1 hn).1) hn
            have E9 := Lib.hid (ext_trans E8.out EE.out)
            have T9 := Lib.hid (T8.out.ext EE.out)
            have X9 := Lib.hid (X8.out.ext EE.out)
            have HM9 := Lib.hid (HM8.out.ext EE.out)
            clear E8 T8 X8 HM8 HNO EE
            have hqr : q ≤ 10 := by rw [← HRN.out]; exact HLP.out.hr
            obtain ⟨EP, hE⟩ : ∃ EP, possErr t s R l = EP := ⟨_, rfl⟩
            have HIJ : Hid (i ≤ l.length) := by rw [HLN.out]; exact hiln
            have hE2 : possErr t s R (insA l i x) = EP := (err_ins (by rw [HLN.out]; omega) HEC.out HIJ.out HNR.out (Nat.le_trans HLP.out.hp (by decide))).trans hE
            obtain ⟨L1, hL1⟩ : ∃ L1, possV t s R l = L1 := ⟨_, rfl⟩
            obtain ⟨n1, hn1⟩ : ∃ n1, L1.length = n1 := ⟨_, rfl⟩
            obtain ⟨L2, hL2⟩ : ∃ L2, possV t s R (insA l i x) = L2 := ⟨_, rfl⟩
            obtain ⟨n2, hn2⟩ : ∃ n2, L2.length = n2 := ⟨_, rfl⟩
            have HE1 := Lib.hid hE
            have HL1 := Lib.hid hL1
            have HL2 := Lib.hid hL2
            have HN2 := Lib.hid hn2
            have HP1 := Lib.hid (fun u hu => poss_lit (w := u) (SA := SA) (sn := sn) (sc := sc) (RA := RA) (rc := rc) (LA := LA) (ln := j) (lc := lc) EP n1 L1 hE hL1 hn1 HSN.out.symm HRN.out.symm HLN.out.symm (HT.out.ext hu) (HS.out.ext hu) (HR.out.slc.ext hu) (HL.out.ext hu) (by have := HLP.out.hs; omega) (by have := HLP.out.hr; omega) (by rw [HLN.out]; omega))
            have HP2 := Lib.hid (fun u (hu : Below w.heap.size w u) hm => poss_lit (w := u) (SA := SA) (sn := sn) (sc := sc) (RA := RA) (rc := rc) (LA := A3) (ln := mn) (lc := q3) EP n2 L2 hE2 hL2 hn2 HSN.out.symm HRN.out.symm HMN.out.symm (HT.out.ext hu) (HS.out.ext hu) (HR.out.slc.ext hu) hm (by have := HLP.out.hs; omega) (by have := HLP.out.hr; omega) (by rw [HMN.out]; have := HLP.out.hl; rw [HMN.out] at this; omega))
            clear hE hE2 hL1 hn1 hL2 hn2
            have b0 := T9.out.c 0 _ rfl
            have b1 := T9.out.c 1 _ rfl
            have b2 := T9.out.c 2 _ rfl
            have b3 := T9.out.c 3 _ rfl
            have b4 := T9.out.c 4 _ rfl
            have b5 := T9.out.c 5 _ rfl
            have bl := T9.out.lt
            go_wp2_with fail
            clear b0 b1 b2 b3 b4 b5 bl hqn
            refine (HP1.out _ E9.out).mono ?_
            rintro e w10 ⟨A5, c5, rfl, hP, B⟩
            have E10 := Lib.hid (ext_trans E9.out B)
            have T10 := Lib.hid (T9.out.ext B)
            have X10 := Lib.hid (X9.out.ext B)
            have P10 := Lib.hid hP.ra
            have HM10 := Lib.hid (HM9.out.ext B)
            clear hP B HP1 E9 T9 X9 HM9
            have b0 := T10.out.c 0 _ rfl
            have b1 := T10.out.c 1 _ rfl
            have b2 := T10.out.c 2 _ rfl
            have b3 := T10.out.c 3 _ rfl
            have b4 := T10.out.c 4 _ rfl
            have b5 := T10.out.c 5 _ rfl
            have bl := T10.out.lt
            go_wp2_with fail
            clear b0 b1 b2 b3 b4 b5 bl
            refine (HP2.out _ E10.out HM10.out).mono ?_
            rintro e w11 ⟨A6, c6, rfl, hP, B⟩
            have E11 := Lib.hid (ext_trans E10.out B)
            have X11 := Lib.hid (X10.out.ext B)
            have P11 := Lib.hid (P10.out.ext B)
            have Q11 := Lib.hid hP.ra
            have HQ6 := Lib.hid hP.cap
            clear hP B HP2 E10 T10 X10 P10 HM10
            by_cases hz : EP = 0
            rotate_left
            · have hz' : ((EP : Int) == 0) = false := by rw [beq_eq_false_iff_ne]; exact hz
              have hz2 : (EP != 0) = true := by rw [bne, hz']; rfl
              go_wp2_with fail
              go_ret
              exact ⟨rfl, E11.out⟩
            subst hz
            have hx0 : 0 < x.ps.l.length := by
              have h := (wchk_one HEC.out).2
              simp only [trkB, Bool.and_eq_true, decide_eq_true_eq] at h
              omega
            have hf0 := (pErr0.1 HE1.out).2.2
            have HE2 : possErr t s R (insA l i x) = 0 := (err_ins (by rw [HLN.out]; omega) HEC.out HIJ.out HNR.out (Nat.le_trans HLP.out.hp (by decide))).trans HE1.out
            have HLI : Hid (L2 = insA L1 i (List.replicate x.ps.l.length true)) := by
              unfold Hid
              rw [← HL2.out, ← HL1.out, possV0 HE1.out, possV0 HE2]
              exact possL_ins HIJ.out hx0 HNR.out hf0
            have HL1n : Hid (L1.length = j) := by unfold Hid; rw [← HL1.out, possV0 HE1.out, possL_len]; exact HLN.out
            have hn2 : n2 = mn := by
              have h := HN2.out
              rw [HLI.out, insA_len (by rw [HL1n.out]; exact hiln), HL1n.out] at h
              omega
            obtain ⟨rows, hS, hok, hmap, hlen⟩ := Q11.out
            have hilt : i < rows.length := by rw [← hlen, hn2]; omega
            obtain ⟨r, qb, qo, hr, hA6, hqb, hqc⟩ := hS.at_ hilt
            have hrl : r.l = List.replicate x.ps.l.length true := by
              have h1 := map_at hr
              rw [hmap, HLI.out, insA_eq (by rw [HL1n.out]; exact hiln)] at h1
              injection h1 with h1
              exact h1.symm
            have hrok : r.ok w11 := hok r (List.mem_of_getElem? hr)
            obtain ⟨m, hm⟩ : ∃ m, x.ps.l.length = m := ⟨_, rfl⟩
            have HRK : Hid (w11.heap[r.b]? = some (Obj.cells ((List.replicate m true).map Value.bool).toArray 4 (0, 0))) := by have := hrok; unfold BR.ok at this; rw [hrl, hm] at this; exact this
            have d0 : w11.cell? ⟨qb, qo + i, none⟩ = some (.slice (some ⟨r.b, 0, none⟩) m m) := by
              have h := hqc 0 _ rfl
              simp only [Nat.mul_one, Nat.add_zero, BR.v, hrl, List.length_replicate, hm] at h
              exact h
            obtain ⟨rb, hrb⟩ : ∃ rb, r.b = rb := ⟨_, rfl⟩
            rw [hrb] at d0 HRK
            have HSR := Lib.hid hS
            have HOK := Lib.hid hok
            have HMP := Lib.hid hmap
            have HLR : Hid (rows.length = mn) := by unfold Hid; omega
            have x12 : w11.cell? ⟨w.heap.size + 1, 12, none⟩ = some (.slice x.ps.A m x.ps.c) := by have h := X11.out.c 12 _ rfl; rw [hm] at h; exact h
            have xl11 := X11.out.lt
            have him : (i : Int) < (mn : Int) := by omega
            have hmb : m ≤ 20 := by rw [← hm]; exact HLP.out.hps x (insA_mem.2 (.inl rfl))
            subst hA6
            clear hx0 hf0 HE2 hS hok hmap hlen hilt hr hqc hrl hrok hm hrb
            subst hn2
            go_wp2_with fail
            have SS := Lib.hid (show ∀ w', Below w11.heap.size w11 w' → (fun w' => Below w11.heap.size w11 w' ∧ w'.cell? ⟨qb, qo + i, none⟩ = some (.slice (some ⟨rb, 0, none⟩) m m) ∧ w'.cell? ⟨w.heap.size + 1, 12, none⟩ = some (.slice x.ps.A m x.ps.c)) w' from fun w' h => ⟨h, (h.cell (p := ⟨qb, qo + i, none⟩) hqb).trans d0, (h.cell (p := ⟨w.heap.size + 1, 12, none⟩) xl11).trans x12⟩)
            refine rg_begin (S := (fun w' => Below w11.heap.size w11 w' ∧ w'.cell? ⟨qb, qo + i, none⟩ = some (.slice (some ⟨rb, 0, none⟩) m m) ∧ w'.cell? ⟨w.heap.size + 1, 12, none⟩ = some (.slice x.ps.A m x.ps.c))) 16 (by kernel_rfl) (by intro d; cases d <;> intro _ _ _ _ h <;> exact h) ?_ (fun Q7 hQ7 hN7 hHeld => ?_)
            · exact SS.out _ (ext_drew (ext_refl _))
            refine rg_take (i := 0) (some 115) (v := ?_) rfl rfl (by kernel_rfl) (by rfl) hQ7 hHeld ?_ ?_
            rotate_left
            · intro w7 hSw; (try dsimp only at hSw); go_simp; all_goals with_reducible rfl
            try simp only [Act.put, List.setIfInBounds_toArray, List.set_cons_zero, List.set_cons_succ]
            refine rg_take (i := 1) (some 116) (v := ?_) rfl rfl (by kernel_rfl) (by rfl) hQ7 hHeld ?_ ?_
            rotate_left
            · intro w7 hSw; (try dsimp only at hSw); go_simp; all_goals with_reducible rfl
            try simp only [Act.put, List.setIfInBounds_toArray, List.set_cons_zero, List.set_cons_succ]
            refine rg_take (i := 2) (some 117) (v := ?_) rfl rfl (by kernel_rfl) (by rfl) hQ7 hHeld ?_ ?_
            rotate_left
            · intro w7 hSw; (try dsimp only at hSw); go_simp; all_goals with_reducible rfl
            try simp only [Act.put, List.setIfInBounds_toArray, List.set_cons_zero, List.set_cons_succ]
            refine rg_take (i := 3) (some 118) (v := ?_) rfl rfl (by kernel_rfl) (by rfl) hQ7 hHeld ?_ ?_
            rotate_left
            · intro w7 hSw; (try dsimp only at hSw); go_simp; all_goals with_reducible rfl
            try simp only [Act.put, List.setIfInBounds_toArray, List.set_cons_zero, List.set_cons_succ]
            refine rg_take (i := 4) (some 119) (v := ?_) rfl rfl (by kernel_rfl) (by rfl) hQ7 hHeld ?_ ?_
            rotate_left
            · intro w7 hSw; (try dsimp only at hSw); go_simp; all_goals with_reducible rfl
            try simp only [Act.put, List.setIfInBounds_toArray, List.set_cons_zero, List.set_cons_succ]
            refine rg_take (i := 5) (some 120) (v := ?_) rfl rfl (by kernel_rfl) (by rfl) hQ7 hHeld ?_ ?_
            rotate_left
            · intro w7 hSw; (try dsimp only at hSw); go_simp; all_goals with_reducible rfl
            try simp only [Act.put, List.setIfInBounds_toArray, List.set_cons_zero, List.set_cons_succ]
            refine rg_take (i := 6) (some 121) (v := ?_) rfl rfl (by kernel_rfl) (by rfl) hQ7 hHeld ?_ ?_
            rotate_left
            · intro w7 hSw; (try dsimp only at hSw); go_simp; all_goals with_reducible rfl
            try simp only [Act.put, List.setIfInBounds_toArray, List.set_cons_zero, List.set_cons_succ]
            refine rg_take (i := 7) (some 122) (v := ?_) rfl rfl (by kernel_rfl) (by rfl) hQ7 hHeld ?_ ?_
            rotate_left
            · intro w7 hSw; (try dsimp only at hSw); go_simp; all_goals with_reducible rfl
            try simp only [Act.put, List.setIfInBounds_toArray, List.set_cons_zero, List.set_cons_succ]
            refine rg_take (i := 8) (some 123) (v := ?_) rfl rfl (by kernel_rfl) (by rfl) hQ7 hHeld ?_ ?_
            rotate_left
            · intro w7 hSw; (try dsimp only at hSw); go_simp; all_goals with_reducible rfl
            try simp only [Act.put, List.setIfInBounds_toArray, List.set_cons_zero, List.set_cons_succ]
            refine rg_take (i := 9) (some 124) (v := ?_) rfl rfl (by kernel_rfl) (by rfl) hQ7 hHeld ?_ ?_
            rotate_left
            · intro w7 hSw; (try dsimp only at hSw); go_simp; all_goals with_reducible rfl
            try simp only [Act.put, List.setIfInBounds_toArray, List.set_cons_zero, List.set_cons_succ]
            refine rg_take (i := 10) (some 125) (v := ?_) rfl rfl (by kernel_rfl) (by rfl) hQ7 hHeld ?_ ?_
            rotate_left
            · intro w7 hSw; (try dsimp only at hSw); go_simp; all_goals with_reducible rfl
            try simp only [Act.put, List.setIfInBounds_toArray, List.set_cons_zero, List.set_cons_succ]
            refine rg_take (i := 11) (some 126) (v := ?_) rfl rfl (by kernel_rfl) (by rfl) hQ7 hHeld ?_ ?_
            rotate_left
            · intro w7 hSw; (try dsimp only at hSw); go_simp; all_goals with_reducible rfl
            try simp only [Act.put, List.setIfInBounds_toArray, List.set_cons_zero, List.set_cons_succ]
            refine rg_take (i := 12) (some 127) (v := ?_) rfl rfl (by kernel_rfl) (by rfl) hQ7 hHeld ?_ ?_
            rotate_left
            · intro w7 hSw; (try dsimp only at hSw); go_simp; all_goals with_reducible rfl
            try simp only [Act.put, List.setIfInBounds_toArray, List.set_cons_zero, List.set_cons_succ]
            refine rg_take (i := 13) (some 128) (v := ?_) rfl rfl (by kernel_rfl) (by rfl) hQ7 hHeld ?_ ?_
            rotate_left
            · intro w7 hSw; (try dsimp only at hSw); go_simp; all_goals with_reducible rfl
            try simp only [Act.put, List.setIfInBounds_toArray, List.set_cons_zero, List.set_cons_succ]
            refine rg_take (i := 14) (some 129) (v := ?_) rfl rfl (by kernel_rfl) (by rfl) hQ7 hHeld ?_ ?_
            rotate_left
            · intro w7 hSw; (try dsimp only at hSw); go_simp; all_goals with_reducible rfl
            try simp only [Act.put, List.setIfInBounds_toArray, List.set_cons_zero, List.set_cons_succ]
            refine rg_take (i := 15) (some 130) (v := ?_) rfl rfl (by kernel_rfl) (by rfl) hQ7 hHeld ?_ ?_
            rotate_left
            · intro w7 hSw; (try dsimp only at hSw); go_simp; all_goals with_reducible rfl
            try simp only [Act.put, List.setIfInBounds_toArray, List.set_cons_zero, List.set_cons_succ]
            refine rg_end (by kernel_rfl) (hN7 _ _ ?_) _
            clear hQ7 hN7 Q7
            have BX := hHeld.1
            clear SS
            obtain ⟨W12, hW12⟩ : ∃ W12, w11.drew = W12 := ⟨_, rfl⟩
            rw [hW12] at BX ⊢
            have E12 := Lib.hid (ext_trans E11.out BX)
            have P12 := Lib.hid (P11.out.ext BX)
            have d12 : W12.cell? ⟨qb, qo + i, none⟩ = some (.slice (some ⟨rb, 0, none⟩) m m) := (BX.cell (p := ⟨qb, qo + i, none⟩) hqb).trans d0
            have S12 := Lib.hid (HSR.out.ext BX)
            have O12 : Hid (∀ y ∈ rows, y.ok W12) := fun y hy => Below.cellsB BX (HOK.out y hy)
            have K12 : Hid (W12.heap[rb]? = some (Obj.cells ((List.replicate m true).map Value.bool).toArray 4 (0, 0))) := Below.cellsB BX HRK.out
            clear hW12 BX E11 P11 d0 HSR HOK HRK x12 xl11 X11 Q11
            go_wp2_with fail
            clear d12
            go_loopw [136] (fun k wq => ∃ z : Nat, z ≤ m ∧ k = .int .i64 z ∧ Hid (Below W12.heap.size W12 wq)) (fun k _ => m - (intOf k).toNat)
            case atStart => exact ⟨0, by omega, rfl, ext_refl _⟩
            case round =>
              obtain ⟨z, hz, rfl, EE⟩ := hrel
              obtain ⟨wd, rfl⟩ : ∃ wd, wd = wr := ⟨_, rfl⟩
              by_cases hzt : z < m
              rotate_left
              · obtain rfl : z = m := by omega
                have hzn : ¬ (z : Int) < (z : Int) := by omega
                obtain ⟨k6, hk6⟩ : ∃ k6, i + 1 = k6 := ⟨_, rfl⟩
                have hq6 := HQ6.out.1
                have hq7 : c6 ≤ 2 ^ 63 - 1 := HQ6.out.2
                have hk7 : k6 ≤ n2 := by omega
                have hmn5 : n2 ≤ 5 := by have := HLP.out.hl; rw [HMN.out] at this; exact this
                have hw1 : IntKind.i64.wrap ((i : Int) + 1) = (k6 : Int) := by rw [← hk6]; exact IntWalk.i64_in _ (by omega)
                have hb1 := fun w : World => slice_headB (some ⟨qb, qo, none⟩) n2 c6 i (i : Int) rfl (by omega) w
                have hb3 := fun w : World => slice_fromB (some ⟨qb, qo, none⟩) n2 c6 k6 (k6 : Int) rfl hk7 hq6 w
                obtain ⟨AB, hAB⟩ : ∃ z, fromB (some ⟨qb, qo, none⟩) c6 k6 = z := ⟨_, rfl⟩
                have HSd := Lib.hid (S12.out.ext EE.out)
                have HDR := Lib.hid (show Slc wd BR.enc 1 AB (rows.drop k6) by rw [← hAB]; exact HSd.out.fromB k6 c6 (by rw [HLR.out]; exact hq6))
                rw [hAB] at hb3
                have P13 := Lib.hid (P12.out.ext EE.out)
                have O13 : Hid (∀ y ∈ rows, y.ok wd) := fun y hy => Below.cellsB EE.out (O12.out y hy)
                have HK1 := Lib.hid (show (rows.take i).length = i by rw [List.length_take, HLR.out]; omega)
                have HK2 := Lib.hid (show (rows.drop k6).length = n2 - k6 by rw [List.length_drop, HLR.out])
                have HK3 := Lib.hid (show (rows.take i ++ rows.drop k6).length = j by rw [List.length_append, HK1.out, HK2.out]; omega)
                have HMM : Hid ((rows.take i ++ rows.drop k6).map (·.l) = L1) := by
                  unfold Hid
                  rw [List.map_append, List.map_take, List.map_drop, HMP.out, HLI.out, ← hk6]
                  exact take_drop_ins L1 i _ (by rw [HL1n.out]; exact hiln)
                have HRA : Hid (∀ u (A : Option Addr) (c : Nat), Below wd.heap.size wd u → Own u wd.heap.size 50 BR.enc 1 (.slice A j c) (rows.take i ++ rows.drop k6) → Go.Proofs.YtjiojpoiocdnmaaGreat.RA u A j L1) := fun u A c hu ho =>
                  ⟨_, ho.slc (fun _ => rfl) (by decide), fun y hy => Below.cellsB hu (O13.out y ((List.mem_append.1 hy).elim List.mem_of_mem_take List.mem_of_mem_drop)), HMM.out, HK3.out.symm⟩
                have HLB : Hid (L1.length ≤ 100000 ∧ ∀ x ∈ L1, x.length ≤ 100000) := by
                  unfold Hid
                  rw [← HL1.out]
                  exact L_bounds (by rw [HLN.out]; omega) (fun y hy => HLP.out.hps y (insA_mem.2 (.inr hy)))
                have E13 := Lib.hid (ext_trans E12.out EE.out)
                clear hAB
                go_wp2_with fail
                have SS := Lib.hid (show ∀ w', Below wd.heap.size wd w' → (fun w' => Below wd.heap.size wd w') w' from fun w' h => h)
                refine rg_begin (S := (fun w' => Below wd.heap.size wd w')) 13 (by kernel_rfl) (by intro d; cases d <;> intro _ _ _ _ h <;> exact h) ?_ (fun Q7 hQ7 hN7 hHeld => ?_)
                · exact SS.out _ (ext_drew (ext_refl _))
                refine rg_take (i := 0) (some 143) (v := ?_) rfl rfl (by kernel_rfl) (by rfl) hQ7 hHeld ?_ ?_
                rotate_left
                · intro w7 hSw; (try dsimp only at hSw); go_simp; all_goals with_reducible rfl
                try simp only [Act.put, List.setIfInBounds_toArray, List.set_cons_zero, List.set_cons_succ]
                refine rg_take (i := 2) (some 145) (v := ?_) rfl rfl (by kernel_rfl) (by rfl) hQ7 hHeld ?_ ?_
                rotate_left
                · intro w7 hSw; (try dsimp only at hSw); go_simp; all_goals with_reducible rfl
                try simp only [Act.put, List.setIfInBounds_toArray, List.set_cons_zero, List.set_cons_succ]
                refine rg_take (i := 3) (some 146) (v := ?_) rfl rfl (by kernel_rfl) (by rfl) hQ7 hHeld ?_ ?_
                rotate_left
                · intro w7 hSw; (try dsimp only at hSw); go_simp; all_goals with_reducible rfl
                try simp only [Act.put, List.setIfInBounds_toArray, List.set_cons_zero, List.set_cons_succ]
                refine rg_take (i := 4) (some 147) (v := .slice (some ⟨qb, qo, none⟩) i c6) rfl rfl (by kernel_rfl) (by rfl) hQ7 hHeld (fun w7 hSw => run_v (hb1 w7)) ?_
                try simp only [Act.put, List.setIfInBounds_toArray, List.set_cons_zero, List.set_cons_succ]
                refine rg_take (i := 6) (some 149) (v := ?_) rfl rfl (by kernel_rfl) (by rfl) hQ7 hHeld ?_ ?_
                rotate_left
                · intro w7 hSw; (try dsimp only at hSw); go_simp; all_goals with_reducible rfl
                try simp only [Act.put, List.setIfInBounds_toArray, List.set_cons_zero, List.set_cons_succ]
                refine rg_take (i := 7) (some 150) (v := ?_) rfl rfl (by kernel_rfl) (by rfl) hQ7 hHeld ?_ ?_
                rotate_left
                · intro w7 hSw; (try dsimp only at hSw); go_simp; all_goals with_reducible rfl
                try simp only [Act.put, List.setIfInBounds_toArray, List.set_cons_zero, List.set_cons_succ]
                refine rg_take (i := 8) (some 151) (v := ?_) rfl rfl (by kernel_rfl) (by rfl) hQ7 hHeld ?_ ?_
                rotate_left
                · intro w7 hSw; (try dsimp only at hSw); go_simp; all_goals with_reducible rfl
                try simp only [Act.put, List.setIfInBounds_toArray, List.set_cons_zero, List.set_cons_succ]
                refine rg_take (i := 9) (some 152) (v := .slice AB (n2 - k6) (c6 - k6)) rfl rfl (by kernel_rfl) (by rfl) hQ7 hHeld (fun w7 hSw => run_v (hb3 w7)) ?_
                try simp only [Act.put, List.setIfInBounds_toArray, List.set_cons_zero, List.set_cons_succ]
                refine rg_one (i := 1) (by kernel_rfl) (rg_step rfl (by rfl) (fun K hK => ?_))
                go_simp
                refine hK.out _ _ ?_ (fun hHeld2 => ?_)
                · exact SS.out _ (ext_alloc hHeld _)
                clear hHeld
                have hHeld := hHeld2
                clear hHeld2
                clear hK K
                try simp only [Act.put, List.setIfInBounds_toArray, List.set_cons_zero, List.set_cons_succ]
                refine rg_one (i := 5) (by kernel_rfl) (rg_step rfl (by rfl) (fun K hK => ?_))
                refine rg_append (some 148) _ _ 34 34 rfl rfl rfl _ _ rfl rfl (Own.append_k (w0 := wd) brI 34 ((Own.madeH (α := BR) wd wd.heap.size 50 BR.enc 1 (by simp) wd.heap.size (by simp)).drew_) hHeld (ys := rows.take i) (m := i) HK1.out.symm c6 ((HSd.out.ext hHeld).take i) (rows.take i) rfl i HK1.out (by omega) (by unfold maxLen; omega)) ?_
                rintro _ u1 ⟨A7, q7, rfl, hO1, B1, hg1, hq71, hm1⟩
                refine hK.out _ _ ?_ (fun hHeld2 => ?_)
                · exact SS.out _ B1
                clear hHeld
                have hHeld := hHeld2
                clear hHeld2
                clear hK K
                try simp only [Act.put, List.setIfInBounds_toArray, List.set_cons_zero, List.set_cons_succ]
                refine rg_one (i := 10) (by kernel_rfl) (rg_step rfl (by rfl) (fun K hK => ?_))
                refine rg_append (some 153) _ _ 34 34 rfl rfl rfl _ _ rfl rfl (Own.append_k (w0 := wd) brI 34 hO1 hHeld (ys := rows.drop k6) (m := n2 - k6) HK2.out.symm (c6 - k6) (HDR.out.ext hHeld) (rows.take i ++ rows.drop k6) rfl j HK3.out (by omega) (by unfold maxLen; omega)) ?_
                rintro _ u2 ⟨A8, q8, rfl, hO2, B2, hg2, hq8, hm2⟩
                refine hK.out _ _ ?_ (fun hHeld2 => ?_)
                · exact SS.out _ B2
                clear hHeld
                have hHeld := hHeld2
                clear hHeld2
                clear hK K
                try simp only [Act.put, List.setIfInBounds_toArray, List.set_cons_zero, List.set_cons_succ]
                refine rg_one (i := 11) (by kernel_rfl) (rg_step rfl (by rfl) (fun K hK => ?_))
                go_simp
                refine (same_ra true (by simp) (P13.out.ext hHeld) (HRA.out _ _ _ hHeld hO2) HLB.out.1 HLB.out.2).mono ?_
                rintro e u3 ⟨rfl, B3⟩
                go_wp2_with fail
                refine hK.out _ _ ?_ (fun hHeld2 => ?_)
                · exact SS.out _ (ext_trans hHeld B3)
                clear hHeld
                have hHeld := hHeld2
                clear hHeld2
                clear hK K
                try simp only [Act.put, List.setIfInBounds_toArray, List.set_cons_zero, List.set_cons_succ]
                refine rg_take (i := 12) (some 12) (v := ?_) rfl rfl (by kernel_rfl) (by rfl) hQ7 hHeld ?_ ?_
                rotate_left
                · intro w7 hSw; (try dsimp only at hSw); go_simp; all_goals with_reducible rfl
                try simp only [Act.put, List.setIfInBounds_toArray, List.set_cons_zero, List.set_cons_succ]
                refine rg_end (by kernel_rfl) (hN7 _ _ ?_) _
                clear hQ7 hN7 Q7
                have BX := hHeld
                clear SS
                go_wp2_with fail
                go_ret
                exact ⟨rfl, ext_trans E13.out BX⟩
              · have hzi : (z : Int) < (m : Int) := by omega
                have k0 : wd.cell? ⟨rb, z, none⟩ = some (.bool true) := cellAt (Below.cellsB EE.out K12.out) z (by simp [hzt])
                go_wp2_with fail
                go_roundw
                case rel => exact ⟨z + 1, hzt, by go_num, EE⟩
                case measure => simp [intOf]; (try omega)
          · have hqi : (q : Int) < (rn : Int) := by omega
            obtain ⟨y, yb, yo, hy, hA, hyb, hyc⟩ := ((HR.out.slc.ext E8.out).below (Nat.le_refl _) EE.out).at_ (k := q) (by rw [HRN.out]; exact hqt)
            have d0 := hyc 0 _ rfl
            have d1 := hyc 1 _ rfl
            have d2 := hyc 2 _ rfl
            have d3 := hyc 3 _ rfl
            have d4 := hyc 4 _ rfl
            have d5 := hyc 5 _ rfl
            simp only [Nat.add_zero] at d0
            have HY := Lib.hid hy
            subst hA
            obtain ⟨W7, hW7⟩ : ∃ W7, wb.alloc (.cells #[.int .i64 y.st, .int .i64 y.no, .int .i64 y.mi, .int .i64 y.ar, .string y.call, .int .i64 y.vol] 55) = W7 := ⟨_, rfl⟩
            have E7 : Hid (Below wb.heap.size wb W7) := by rw [← hW7]; exact ext_alloc (ext_refl wb) _
            have Y7 : Blk W7 wb.heap.size y.cells := by rw [← hW7]; exact Blk.newH wb y.cells 55 wb.heap.size rfl
            have y4 := Y7.c 4 _ rfl
            have X7 := (X8.out.ext EE.out).ext E7.out
            have x3 := X7.c 3 _ rfl
            have xl := X7.lt
            have EE7 := Lib.hid (EE.out.trans (E7.out.mono EE.out.size))
            clear hyc hy Y7 X7
            cases hc : (y.call.toList == x.fl.call.toList) with
            | true =>
              go_wp2_with fail
              go_ret
              exact ⟨rfl, ext_trans E8.out EE7.out⟩
            | false =>
              have HNO7 : Hid (∀ (n : Nat) (r : Rep), n < q + 1 → R[n]? = some r → r.call ≠ x.fl.call) := fun n z hn hz => by
                by_cases e : n = q
                · subst e; rw [HY.out] at hz; cases hz
                  exact fun e => by rw [e] at hc; simp at hc
                · exact HNO.out n z (by omega) hz
              go_wp2_with fail
              go_roundw
              case rel => exact ⟨q + 1, hqt, by go_num, HNO7, EE7⟩
              case measure => simp [intOf]; (try omega)
      · have hji : (j : Int) < (ln : Int) := by omega
        obtain ⟨y, yb, yo, hy, hA, hyb, hyc⟩ := ((HL.out.ext E6.out).slc.below (Nat.le_refl _) EE.out).at_ (k := j) (by rw [HLN.out]; exact hlt)
        have d0 := hyc 0 _ rfl
        have d1 := hyc 1 _ rfl
        have d2 := hyc 2 _ rfl
        have d3 := hyc 3 _ rfl
        have d4 := hyc 4 _ rfl
        have d5 := hyc 5 _ rfl
        have d6 := hyc 6 _ rfl
        have d7 := hyc 7 _ rfl
        have d8 := hyc 8 _ rfl
        have d9 := hyc 9 _ rfl
        have d10 := hyc 10 _ rfl
        have d11 := hyc 11 _ rfl
        have d12 := hyc 12 _ rfl
        have d13 := hyc 13 _ rfl
        simp only [Nat.add_zero] at d0
        have HY := Lib.hid hy
        subst hA
        obtain ⟨W7, hW7⟩ : ∃ W7, wa.alloc (.cells #[.int .i64 y.fl.id, .int .i64 y.fl.al, .int .i64 y.fl.cl, .string y.fl.call, .slice y.fl.ws.A y.fl.ws.n y.fl.ws.c, .int .i64 y.fl.wi.f, .int .i64 y.fl.wi.t, .bool y.fl.cn, .int .i64 y.op.de, .int .i64 y.op.way, .int .i64 y.op.ho, .bool y.op.cn, .slice y.ps.A y.ps.l.length y.ps.c, .slice y.po.A y.po.n y.po.c] 52) = W7 := ⟨_, rfl⟩
        have E7 : Hid (Below wa.heap.size wa W7) := by rw [← hW7]; exact ext_alloc (ext_refl wa) _
        have Y7 : Blk W7 wa.heap.size y.cells := by rw [← hW7]; exact Blk.newH wa y.cells 52 wa.heap.size rfl
        have y3 := Y7.c 3 _ rfl
        have X7 := (X6.out.ext EE.out).ext E7.out
        have x3 := X7.c 3 _ rfl
        have xl := X7.lt
        have EE7 := Lib.hid (EE.out.trans (E7.out.mono EE.out.size))
        clear hyc hy Y7 X7
        cases hc : (y.fl.call.toList == x.fl.call.toList) with
        | true =>
          go_wp2_with fail
          go_ret
          exact ⟨rfl, ext_trans E6.out EE7.out⟩
        | false =>
          have HNO7 : Hid (∀ (n : Nat) (y : Trk), n < j + 1 → l[n]? = some y → y.fl.call ≠ x.fl.call) := fun n z hn hz => by
            by_cases e : n = j
            · subst e; rw [HY.out] at hz; cases hz
              exact fun e => by rw [e] at hc; simp at hc
            · exact HNO.out n z (by omega) hz
          go_wp2_with fail
          go_roundw
          case rel => exact ⟨j + 1, hlt, by go_num, HNO7, EE7⟩
          case measure => simp [intOf]; (try omega)
end Go.Proofs.YtjiojpoiocdnmaaGreat
