/- Contracts: an offer is accepted at a side. -/
import Derived.Test.YtmnbeikhjbjpiaaT1
set_option linter.unusedSimpArgs false
set_option linter.unusedVariables false
namespace Go.Proofs.Ytmnbeikhjbjpiaa
open Go.RowKit
set_option maxHeartbeats 1600000 in
set_option maxRecDepth 100000 in
theorem taken_0 (x y : Bd) (A : Option Addr) (n c P : Nat) (l : List Lt) (no : Int) (a : Ag) (X : Bl) (w : World) (hP : Blk w P (Pc x y A n c)) (hp : PR w P x y A n c l) (hx : x.bl.accB no = X) (ha : x.bl.accX no = a) (he : x.bl.accE no = 0) (hl : Lens x) (hn : n ≤ 1000) :
    Calls Try.prog 49 #[.pointer (some ⟨P, 0, none⟩), .int .i64 0, .int .i64 no] w (PrR w P ⟨X, y.bl, l ++ [⟨true, true, a⟩]⟩) := by
  have HX := Lib.hid hx
  have HA := Lib.hid ha
  have HE := Lib.hid he
  have HL := Lib.hid hl
  have HN := Lib.hid hn
  clear hx ha he hl hn
  have E := Lib.hid (ext_refl w)
  have PB := Lib.hid (hP)
  have PP := Lib.hid (hp)
  have HPL := Lib.hid hp.lt
  have HLN := Lib.hid hp.hn
  clear hP hp
  go_enter Try.func49, Try.ntmps49
  have PP0 := PP
  have c0 := PB.out.c 0 _ rfl
  have c1 := PB.out.c 1 _ rfl
  have c2 := PB.out.c 2 _ rfl
  have c3 := PB.out.c 3 _ rfl
  go_wp2_with fail
  refine (accept_at (b := x) (no := no) X a 0 HX.out HA.out HE.out PP.out.hx HL.out).mono ?_
  rintro e v1 ⟨m, rfl, hm, hM, B, hF⟩
  clear c0 c1 c2 c3
  replace E := Lib.hid (ext_trans E.out B)
  replace PB := Lib.hid (PB.out.ext B)
  replace PP := Lib.hid (PP.out.ext B)
  clear B
  have HM := Lib.hid hm
  have HK := Lib.hid hM
  have HF := Lib.hid hF
  have HS := Lib.hid (show P < v1.heap.size from PP.out.lt)
  have HNE := Lib.hid (show some (v1.heap.size + 1) ≠ (Value.slice A n c).ownBlock from fun e => by have := (PP.out.own.lt _ e.symm).1; omega)
  clear hm hM hF
  replace E := Lib.hid (ext_alloc E.out (.cells #[.int .i64 m.own, .int .i64 m.ot, .slice m.ag.A m.ag.l.length m.ag.c, .slice m.op.A m.op.l.length m.op.c] 24))
  replace PB := Lib.hid (PB.out.alloc (.cells #[.int .i64 m.own, .int .i64 m.ot, .slice m.ag.A m.ag.l.length m.ag.c, .slice m.op.A m.op.l.length m.op.c] 24))
  replace PP := Lib.hid (PP.out.alloc (.cells #[.int .i64 m.own, .int .i64 m.ot, .slice m.ag.A m.ag.l.length m.ag.c, .slice m.op.A m.op.l.length m.op.c] 24))
  replace HK := Lib.hid (HK.out.alloc (.cells #[.int .i64 m.own, .int .i64 m.ot, .slice m.ag.A m.ag.l.length m.ag.c, .slice m.op.A m.op.l.length m.op.c] 24))
  have M1 := Lib.hid (Blk.newH v1 [.int .i64 m.own, .int .i64 m.ot, .slice m.ag.A m.ag.l.length m.ag.c, .slice m.op.A m.op.l.length m.op.c] 24 (v1.heap.size) (by first | rfl | simp))
  replace E := Lib.hid (ext_alloc E.out (.cells #[.int .i64 a.no, .int .i64 a.f, .int .i64 a.t, .int .i64 a.m, .int .i64 a.r] 26))
  replace PB := Lib.hid (PB.out.alloc (.cells #[.int .i64 a.no, .int .i64 a.f, .int .i64 a.t, .int .i64 a.m, .int .i64 a.r] 26))
  replace PP := Lib.hid (PP.out.alloc (.cells #[.int .i64 a.no, .int .i64 a.f, .int .i64 a.t, .int .i64 a.m, .int .i64 a.r] 26))
  replace HK := Lib.hid (HK.out.alloc (.cells #[.int .i64 a.no, .int .i64 a.f, .int .i64 a.t, .int .i64 a.m, .int .i64 a.r] 26))
  replace M1 := Lib.hid (M1.out.alloc (.cells #[.int .i64 a.no, .int .i64 a.f, .int .i64 a.t, .int .i64 a.m, .int .i64 a.r] 26))
  have A1 := Lib.hid (Blk.newH (v1.alloc (.cells #[.int .i64 m.own, .int .i64 m.ot, .slice m.ag.A m.ag.l.length m.ag.c, .slice m.op.A m.op.l.length m.op.c] 24)) [.int .i64 a.no, .int .i64 a.f, .int .i64 a.t, .int .i64 a.m, .int .i64 a.r] 26 (v1.heap.size + 1) (by first | rfl | simp))
  go_wp2_with fail
  have SZ := Lib.hid (show P < ((v1.alloc (.cells #[.int .i64 m.own, .int .i64 m.ot, .slice m.ag.A m.ag.l.length m.ag.c, .slice m.op.A m.op.l.length m.op.c] 24)).alloc (.cells #[.int .i64 a.no, .int .i64 a.f, .int .i64 a.t, .int .i64 a.m, .int .i64 a.r] 26)).heap.size from PP.out.lt)
  have SS := Lib.hid (show ∀ w', Below ((v1.alloc (.cells #[.int .i64 m.own, .int .i64 m.ot, .slice m.ag.A m.ag.l.length m.ag.c, .slice m.op.A m.op.l.length m.op.c] 24)).alloc (.cells #[.int .i64 a.no, .int .i64 a.f, .int .i64 a.t, .int .i64 a.m, .int .i64 a.r] 26)).heap.size ((v1.alloc (.cells #[.int .i64 m.own, .int .i64 m.ot, .slice m.ag.A m.ag.l.length m.ag.c, .slice m.op.A m.op.l.length m.op.c] 24)).alloc (.cells #[.int .i64 a.no, .int .i64 a.f, .int .i64 a.t, .int .i64 a.m, .int .i64 a.r] 26)) w' → (fun w' => Below ((v1.alloc (.cells #[.int .i64 m.own, .int .i64 m.ot, .slice m.ag.A m.ag.l.length m.ag.c, .slice m.op.A m.op.l.length m.op.c] 24)).alloc (.cells #[.int .i64 a.no, .int .i64 a.f, .int .i64 a.t, .int .i64 a.m, .int .i64 a.r] 26)).heap.size ((v1.alloc (.cells #[.int .i64 m.own, .int .i64 m.ot, .slice m.ag.A m.ag.l.length m.ag.c, .slice m.op.A m.op.l.length m.op.c] 24)).alloc (.cells #[.int .i64 a.no, .int .i64 a.f, .int .i64 a.t, .int .i64 a.m, .int .i64 a.r] 26)) w' ∧ w'.cell? ⟨v1.heap.size, 0, none⟩ = some (.int .i64 m.own) ∧ w'.cell? ⟨v1.heap.size, 1, none⟩ = some (.int .i64 m.ot) ∧ w'.cell? ⟨v1.heap.size, 2, none⟩ = some (.slice m.ag.A m.ag.l.length m.ag.c) ∧ w'.cell? ⟨v1.heap.size, 3, none⟩ = some (.slice m.op.A m.op.l.length m.op.c)) w' from fun w' h => ⟨h, (M1.out.ext h).c 0 _ rfl, (M1.out.ext h).c 1 _ rfl, (M1.out.ext h).c 2 _ rfl, (M1.out.ext h).c 3 _ rfl⟩)
  refine rg_begin (S := (fun w' => Below ((v1.alloc (.cells #[.int .i64 m.own, .int .i64 m.ot, .slice m.ag.A m.ag.l.length m.ag.c, .slice m.op.A m.op.l.length m.op.c] 24)).alloc (.cells #[.int .i64 a.no, .int .i64 a.f, .int .i64 a.t, .int .i64 a.m, .int .i64 a.r] 26)).heap.size ((v1.alloc (.cells #[.int .i64 m.own, .int .i64 m.ot, .slice m.ag.A m.ag.l.length m.ag.c, .slice m.op.A m.op.l.length m.op.c] 24)).alloc (.cells #[.int .i64 a.no, .int .i64 a.f, .int .i64 a.t, .int .i64 a.m, .int .i64 a.r] 26)) w' ∧ w'.cell? ⟨v1.heap.size, 0, none⟩ = some (.int .i64 m.own) ∧ w'.cell? ⟨v1.heap.size, 1, none⟩ = some (.int .i64 m.ot) ∧ w'.cell? ⟨v1.heap.size, 2, none⟩ = some (.slice m.ag.A m.ag.l.length m.ag.c) ∧ w'.cell? ⟨v1.heap.size, 3, none⟩ = some (.slice m.op.A m.op.l.length m.op.c))) 6 (by kernel_rfl) (by intro d; cases d <;> intro _ _ _ _ h <;> exact h) ?_ (fun Q7 hQ7 hN7 hHeld => ?_)
  · exact SS.out _ (ext_drew (ext_refl _))
  refine rg_take (i := 0) (some 24) (v := ?_) rfl rfl (by kernel_rfl) (by rfl) hQ7 hHeld ?_ ?_
  rotate_left
  · intro w7 hSw; (try dsimp only at hSw); go_simp; all_goals with_reducible rfl
  try simp only [Act.put, List.setIfInBounds_toArray, List.set_cons_zero, List.set_cons_succ]
  refine rg_take (i := 1) (some 25) (v := ?_) rfl rfl (by kernel_rfl) (by rfl) hQ7 hHeld ?_ ?_
  rotate_left
  · intro w7 hSw; (try dsimp only at hSw); go_simp; all_goals with_reducible rfl
  try simp only [Act.put, List.setIfInBounds_toArray, List.set_cons_zero, List.set_cons_succ]
  refine rg_take (i := 2) (some 26) (v := ?_) rfl rfl (by kernel_rfl) (by rfl) hQ7 hHeld ?_ ?_
  rotate_left
  · intro w7 hSw; (try dsimp only at hSw); go_simp; all_goals with_reducible rfl
  try simp only [Act.put, List.setIfInBounds_toArray, List.set_cons_zero, List.set_cons_succ]
  refine rg_take (i := 3) (some 27) (v := ?_) rfl rfl (by kernel_rfl) (by rfl) hQ7 hHeld ?_ ?_
  rotate_left
  · intro w7 hSw; (try dsimp only at hSw); go_simp; all_goals with_reducible rfl
  try simp only [Act.put, List.setIfInBounds_toArray, List.set_cons_zero, List.set_cons_succ]
  refine rg_take (i := 4) (some 28) (v := ?_) rfl rfl (by kernel_rfl) (by rfl) hQ7 hHeld ?_ ?_
  rotate_left
  · intro w7 hSw; (try dsimp only at hSw); go_simp; all_goals with_reducible rfl
  try simp only [Act.put, List.setIfInBounds_toArray, List.set_cons_zero, List.set_cons_succ]
  refine rg_take (i := 5) (some 29) (v := ?_) rfl rfl (by kernel_rfl) (by rfl) hQ7 hHeld ?_ ?_
  rotate_left
  · intro w7 hSw; (try dsimp only at hSw); go_simp; all_goals with_reducible rfl
  try simp only [Act.put, List.setIfInBounds_toArray, List.set_cons_zero, List.set_cons_succ]
  have PBx := PB.out
  have gp0 := PBx.c 0 _ rfl
  have gp1 := PBx.c 1 _ rfl
  have gp2 := PBx.c 2 _ rfl
  have gp3 := PBx.c 3 _ rfl
  have gp4 := PBx.c 4 _ rfl
  have gp5 := PBx.c 5 _ rfl
  have gp6 := PBx.c 6 _ rfl
  have gp7 := PBx.c 7 _ rfl
  have gp8 := PBx.c 8 _ rfl
  have gpf := PBx.f
  have gpl := PBx.lt
  refine rg_one (i := 6) (by kernel_rfl) (rg_late rfl (by rfl) (by kernel_rfl) (fun K hK => ?_))
  go_simp
  refine hK.out _ _ ?_
  clear hK K
  try simp only [Act.put, List.setIfInBounds_toArray, List.set_cons_zero, List.set_cons_succ]
  refine rg_end (by kernel_rfl) (hN7 _ _ ?_) _
  clear hQ7 hN7 Q7
  have BX := hHeld.1
  clear SS
  clear BX
  replace A1 := Lib.hid (((((A1.out.other (p := ⟨P, 0, none⟩) (.int .i64 m.own) (by show P ≠ _; have := HS.out; omega)).other (p := ⟨P, 1, none⟩) (.int .i64 m.ot) (by show P ≠ _; have := HS.out; omega)).other (p := ⟨P, 2, none⟩) (.slice m.ag.A m.ag.l.length m.ag.c) (by show P ≠ _; have := HS.out; omega)).other (p := ⟨P, 3, none⟩) (.slice m.op.A m.op.l.length m.op.c) (by show P ≠ _; have := HS.out; omega)))
  obtain ⟨ho1, ho2⟩ := PP0.out.off0 HF.out
  have EP := Lib.hid (E.out.mono (Nat.le_of_lt HPL.out))
  replace PP := Lib.hid (((((PP.out.side0 HK.out ho1 ho2).set 0 (.int .i64 m.own)).set 1 (.int .i64 m.ot)).set 2 (.slice m.ag.A m.ag.l.length m.ag.c)).set 3 (.slice m.op.A m.op.l.length m.op.c))
  replace PB := Lib.hid (((((PB.out.set (j := 0) (by simp [Pc]) (.int .i64 m.own)).set (j := 1) (by simp [Pc]) (.int .i64 m.ot)).set (j := 2) (by simp [Pc]) (.slice m.ag.A m.ag.l.length m.ag.c)).set (j := 3) (by simp [Pc]) (.slice m.op.A m.op.l.length m.op.c)))
  replace EP := Lib.hid (below_set (below_set (below_set (below_set (EP.out) ⟨P, 0, none⟩ (.int .i64 m.own) (Nat.le_refl _)) ⟨P, 1, none⟩ (.int .i64 m.ot) (Nat.le_refl _)) ⟨P, 2, none⟩ (.slice m.ag.A m.ag.l.length m.ag.c) (Nat.le_refl _)) ⟨P, 3, none⟩ (.slice m.op.A m.op.l.length m.op.c) (Nat.le_refl _))
  clear ho1 ho2
  clear SZ
  clear E HK M1
  replace PB := Lib.hid PB.out.drew
  replace A1 := Lib.hid A1.out.drew
  replace EP := Lib.hid EP.out.drew
  replace PP := Lib.hid (PP.out.ext (ext_drew (ext_refl _)))
  obtain ⟨z0, hNz0⟩ : ∃ W0, W0 = ((((((v1.alloc (.cells #[.int .i64 m.own, .int .i64 m.ot, .slice m.ag.A m.ag.l.length m.ag.c, .slice m.op.A m.op.l.length m.op.c] 24)).alloc (.cells #[.int .i64 a.no, .int .i64 a.f, .int .i64 a.t, .int .i64 a.m, .int .i64 a.r] 26)).setCell ⟨P, 0, none⟩ (.int .i64 m.own)).setCell ⟨P, 1, none⟩ (.int .i64 m.ot)).setCell ⟨P, 2, none⟩ (.slice m.ag.A m.ag.l.length m.ag.c)).setCell ⟨P, 3, none⟩ (.slice m.op.A m.op.l.length m.op.c)).drew := ⟨_, rfl⟩
  rw [← hNz0] at PB PP A1 EP ⊢
  clear hNz0
  go_wp2_with fail
  have DD := ext_drew (ext_refl z0)
  replace PB := Lib.hid (PB.out.ext DD)
  replace PP := Lib.hid (PP.out.ext DD)
  replace A1 := Lib.hid (A1.out.ext DD)
  clear DD
  refine rg_begin (S := (fun w' => w'.cell? ⟨P, 8, none⟩ = some (.slice A n c) ∧ w'.cell? ⟨v1.heap.size + 1, 0, none⟩ = some (.int .i64 a.no) ∧ w'.cell? ⟨v1.heap.size + 1, 1, none⟩ = some (.int .i64 a.f) ∧ w'.cell? ⟨v1.heap.size + 1, 2, none⟩ = some (.int .i64 a.t) ∧ w'.cell? ⟨v1.heap.size + 1, 3, none⟩ = some (.int .i64 a.m) ∧ w'.cell? ⟨v1.heap.size + 1, 4, none⟩ = some (.int .i64 a.r))) 13 (by kernel_rfl) (by intro d; cases d <;> intro _ _ _ _ h <;> exact h) ?_ (fun Q7 hQ7 hN7 hHeld => ?_)
  · exact ⟨PB.out.c 8 _ rfl, A1.out.c 0 _ rfl, A1.out.c 1 _ rfl, A1.out.c 2 _ rfl, A1.out.c 3 _ rfl, A1.out.c 4 _ rfl⟩
  refine rg_take (i := 0) (some 30) (v := ?_) rfl rfl (by kernel_rfl) (by rfl) hQ7 hHeld ?_ ?_
  rotate_left
  · intro w7 hSw; (try dsimp only at hSw); go_simp; all_goals with_reducible rfl
  try simp only [Act.put, List.setIfInBounds_toArray, List.set_cons_zero, List.set_cons_succ]
  refine rg_take (i := 1) (some 31) (v := ?_) rfl rfl (by kernel_rfl) (by rfl) hQ7 hHeld ?_ ?_
  rotate_left
  · intro w7 hSw; (try dsimp only at hSw); go_simp; all_goals with_reducible rfl
  try simp only [Act.put, List.setIfInBounds_toArray, List.set_cons_zero, List.set_cons_succ]
  refine rg_take (i := 2) (some 32) (v := ?_) rfl rfl (by kernel_rfl) (by rfl) hQ7 hHeld ?_ ?_
  rotate_left
  · intro w7 hSw; (try dsimp only at hSw); go_simp; all_goals with_reducible rfl
  try simp only [Act.put, List.setIfInBounds_toArray, List.set_cons_zero, List.set_cons_succ]
  refine rg_take (i := 3) (some 33) (v := ?_) rfl rfl (by kernel_rfl) (by rfl) hQ7 hHeld ?_ ?_
  rotate_left
  · intro w7 hSw; (try dsimp only at hSw); go_simp; all_goals with_reducible rfl
  try simp only [Act.put, List.setIfInBounds_toArray, List.set_cons_zero, List.set_cons_succ]
  refine rg_take (i := 4) (some 34) (v := ?_) rfl rfl (by kernel_rfl) (by rfl) hQ7 hHeld ?_ ?_
  rotate_left
  · intro w7 hSw; (try dsimp only at hSw); go_simp; all_goals with_reducible rfl
  try simp only [Act.put, List.setIfInBounds_toArray, List.set_cons_zero, List.set_cons_succ]
  refine rg_take (i := 5) (some 35) (v := ?_) rfl rfl (by kernel_rfl) (by rfl) hQ7 hHeld ?_ ?_
  rotate_left
  · intro w7 hSw; (try dsimp only at hSw); go_simp; all_goals with_reducible rfl
  try simp only [Act.put, List.setIfInBounds_toArray, List.set_cons_zero, List.set_cons_succ]
  refine rg_take (i := 6) (some 36) (v := ?_) rfl rfl (by kernel_rfl) (by rfl) hQ7 hHeld ?_ ?_
  rotate_left
  · intro w7 hSw; (try dsimp only at hSw); go_simp; all_goals with_reducible rfl
  try simp only [Act.put, List.setIfInBounds_toArray, List.set_cons_zero, List.set_cons_succ]
  refine rg_take (i := 7) (some 37) (v := ?_) rfl rfl (by kernel_rfl) (by rfl) hQ7 hHeld ?_ ?_
  rotate_left
  · intro w7 hSw; (try dsimp only at hSw); go_simp; all_goals with_reducible rfl
  try simp only [Act.put, List.setIfInBounds_toArray, List.set_cons_zero, List.set_cons_succ]
  refine rg_take (i := 8) (some 38) (v := ?_) rfl rfl (by kernel_rfl) (by rfl) hQ7 hHeld ?_ ?_
  rotate_left
  · intro w7 hSw; (try dsimp only at hSw); go_simp; all_goals with_reducible rfl
  try simp only [Act.put, List.setIfInBounds_toArray, List.set_cons_zero, List.set_cons_succ]
  refine rg_one (i := 9) (by kernel_rfl) (rg_step rfl (by rfl) (fun K hK => ?_))
  go_simp
  refine hK.out _ _ ?_ (fun hHeld2 => ?_)
  · exact ⟨(PB.out.alloc _).c 8 _ rfl, (A1.out.alloc _).c 0 _ rfl, (A1.out.alloc _).c 1 _ rfl, (A1.out.alloc _).c 2 _ rfl, (A1.out.alloc _).c 3 _ rfl, (A1.out.alloc _).c 4 _ rfl⟩
  clear hHeld
  have hHeld := hHeld2
  clear hHeld2
  clear hK K
  try simp only [Act.put, List.setIfInBounds_toArray, List.set_cons_zero, List.set_cons_succ]
  refine rg_one (i := 10) (by kernel_rfl) (rg_step rfl (by rfl) (fun K hK => ?_))
  refine rg_append (some 40) _ _ 46 46 rfl rfl rfl _ _ rfl rfl ((PP.out.alloc (.cells #[.int .i64 1, .bool true, .int .i64 a.no, .int .i64 a.f, .int .i64 a.t, .int .i64 a.m, .int .i64 a.r] 53)).say (PB.out.alloc (.cells #[.int .i64 1, .bool true, .int .i64 a.no, .int .i64 a.f, .int .i64 a.t, .int .i64 a.m, .int .i64 a.r] 53)) (slc_litH _ [⟨true, true, a⟩] _ 53 (enc := Lt.cells) (sz := 7) (fun _ => rfl) rfl _ rfl) HN.out) ?_
  rintro _ z ⟨A', c', rfl, PPz, PBz, Ez, Gz⟩
  refine hK.out _ _ ?_ (fun hHeld2 => ?_)
  · exact ⟨PBz.c 8 _ rfl, ((A1.out.alloc _).keepB (Gz.block _ (by have := A1.out.lt; simp at this ⊢; omega) HNE.out)).c 0 _ rfl, ((A1.out.alloc _).keepB (Gz.block _ (by have := A1.out.lt; simp at this ⊢; omega) HNE.out)).c 1 _ rfl, ((A1.out.alloc _).keepB (Gz.block _ (by have := A1.out.lt; simp at this ⊢; omega) HNE.out)).c 2 _ rfl, ((A1.out.alloc _).keepB (Gz.block _ (by have := A1.out.lt; simp at this ⊢; omega) HNE.out)).c 3 _ rfl, ((A1.out.alloc _).keepB (Gz.block _ (by have := A1.out.lt; simp at this ⊢; omega) HNE.out)).c 4 _ rfl⟩
  clear hHeld
  have hHeld := hHeld2
  clear hHeld2
  clear hK K
  try simp only [Act.put, List.setIfInBounds_toArray, List.set_cons_zero, List.set_cons_succ]
  have gp8 := PBz.c 8 _ rfl
  have gpf := PBz.f
  have gpl := PBz.lt
  refine rg_take (i := 11) (some 41) (v := ?_) rfl rfl (by kernel_rfl) (by rfl) hQ7 hHeld ?_ ?_
  rotate_left
  · intro w7 hSw; (try dsimp only at hSw); go_simp; all_goals with_reducible rfl
  try simp only [Act.put, List.setIfInBounds_toArray, List.set_cons_zero, List.set_cons_succ]
  refine rg_take (i := 12) (some 42) (v := ?_) rfl rfl (by kernel_rfl) (by rfl) hQ7 hHeld ?_ ?_
  rotate_left
  · intro w7 hSw; (try dsimp only at hSw); go_simp; all_goals with_reducible rfl
  try simp only [Act.put, List.setIfInBounds_toArray, List.set_cons_zero, List.set_cons_succ]
  refine rg_one (i := 13) (by kernel_rfl) (rg_late rfl (by rfl) (by kernel_rfl) (fun K hK => ?_))
  go_simp
  refine hK.out _ _ ?_
  clear hK K
  try simp only [Act.put, List.setIfInBounds_toArray, List.set_cons_zero, List.set_cons_succ]
  refine rg_end (by kernel_rfl) (hN7 _ _ ?_) _
  clear hQ7 hN7 Q7
  replace EP := Lib.hid (below_set (((EP.out.drew).alloc (by have := PP.out.lt; simpa using Nat.le_of_lt this) _).trans Ez) ⟨P, 8, none⟩ (.slice A' (n + 1) c') (Nat.le_refl _))
  replace PB := Lib.hid (PBz.set (j := 8) (by simp [Pc]) (.slice A' (n + 1) c'))
  replace PP := Lib.hid (PPz.set 8 (.slice A' (n + 1) c'))
  clear PBz PPz Ez Gz
  go_wp2_with fail
  go_ret
  exact ⟨rfl, m, y, A', n + 1, c', HM.out, rfl, PB.out, PP.out, EP.out⟩
set_option maxHeartbeats 1600000 in
set_option maxRecDepth 100000 in
theorem taken_1 (x y : Bd) (A : Option Addr) (n c P : Nat) (l : List Lt) (no : Int) (a : Ag) (X : Bl) (w : World) (hP : Blk w P (Pc x y A n c)) (hp : PR w P x y A n c l) (hx : y.bl.accB no = X) (ha : y.bl.accX no = a) (he : y.bl.accE no = 0) (hl : Lens y) (hn : n ≤ 1000) :
    Calls Try.prog 49 #[.pointer (some ⟨P, 0, none⟩), .int .i64 1, .int .i64 no] w (PrR w P ⟨x.bl, X, l ++ [⟨false, true, a⟩]⟩) := by
  have HX := Lib.hid hx
  have HA := Lib.hid ha
  have HE := Lib.hid he
  have HL := Lib.hid hl
  have HN := Lib.hid hn
  clear hx ha he hl hn
  have E := Lib.hid (ext_refl w)
  have PB := Lib.hid (hP)
  have PP := Lib.hid (hp)
  have HPL := Lib.hid hp.lt
  have HLN := Lib.hid hp.hn
  clear hP hp
  go_enter Try.func49, Try.ntmps49
  have PP0 := PP
  have c0 := PB.out.c 4 _ rfl
  have c1 := PB.out.c 5 _ rfl
  have c2 := PB.out.c 6 _ rfl
  have c3 := PB.out.c 7 _ rfl
  go_wp2_with fail
  refine (accept_at (b := y) (no := no) X a 0 HX.out HA.out HE.out PP.out.hy HL.out).mono ?_
  rintro e v1 ⟨m, rfl, hm, hM, B, hF⟩
  clear c0 c1 c2 c3
  replace E := Lib.hid (ext_trans E.out B)
  replace PB := Lib.hid (PB.out.ext B)
  replace PP := Lib.hid (PP.out.ext B)
  clear B
  have HM := Lib.hid hm
  have HK := Lib.hid hM
  have HF := Lib.hid hF
  have HS := Lib.hid (show P < v1.heap.size from PP.out.lt)
  have HNE := Lib.hid (show some (v1.heap.size + 1) ≠ (Value.slice A n c).ownBlock from fun e => by have := (PP.out.own.lt _ e.symm).1; omega)
  clear hm hM hF
  replace E := Lib.hid (ext_alloc E.out (.cells #[.int .i64 m.own, .int .i64 m.ot, .slice m.ag.A m.ag.l.length m.ag.c, .slice m.op.A m.op.l.length m.op.c] 24))
  replace PB := Lib.hid (PB.out.alloc (.cells #[.int .i64 m.own, .int .i64 m.ot, .slice m.ag.A m.ag.l.length m.ag.c, .slice m.op.A m.op.l.length m.op.c] 24))
  replace PP := Lib.hid (PP.out.alloc (.cells #[.int .i64 m.own, .int .i64 m.ot, .slice m.ag.A m.ag.l.length m.ag.c, .slice m.op.A m.op.l.length m.op.c] 24))
  replace HK := Lib.hid (HK.out.alloc (.cells #[.int .i64 m.own, .int .i64 m.ot, .slice m.ag.A m.ag.l.length m.ag.c, .slice m.op.A m.op.l.length m.op.c] 24))
  have M1 := Lib.hid (Blk.newH v1 [.int .i64 m.own, .int .i64 m.ot, .slice m.ag.A m.ag.l.length m.ag.c, .slice m.op.A m.op.l.length m.op.c] 24 (v1.heap.size) (by first | rfl | simp))
  replace E := Lib.hid (ext_alloc E.out (.cells #[.int .i64 a.no, .int .i64 a.f, .int .i64 a.t, .int .i64 a.m, .int .i64 a.r] 26))
  replace PB := Lib.hid (PB.out.alloc (.cells #[.int .i64 a.no, .int .i64 a.f, .int .i64 a.t, .int .i64 a.m, .int .i64 a.r] 26))
  replace PP := Lib.hid (PP.out.alloc (.cells #[.int .i64 a.no, .int .i64 a.f, .int .i64 a.t, .int .i64 a.m, .int .i64 a.r] 26))
  replace HK := Lib.hid (HK.out.alloc (.cells #[.int .i64 a.no, .int .i64 a.f, .int .i64 a.t, .int .i64 a.m, .int .i64 a.r] 26))
  replace M1 := Lib.hid (M1.out.alloc (.cells #[.int .i64 a.no, .int .i64 a.f, .int .i64 a.t, .int .i64 a.m, .int .i64 a.r] 26))
  have A1 := Lib.hid (Blk.newH (v1.alloc (.cells #[.int .i64 m.own, .int .i64 m.ot, .slice m.ag.A m.ag.l.length m.ag.c, .slice m.op.A m.op.l.length m.op.c] 24)) [.int .i64 a.no, .int .i64 a.f, .int .i64 a.t, .int .i64 a.m, .int .i64 a.r] 26 (v1.heap.size + 1) (by first | rfl | simp))
  go_wp2_with fail
  have SZ := Lib.hid (show P < ((v1.alloc (.cells #[.int .i64 m.own, .int .i64 m.ot, .slice m.ag.A m.ag.l.length m.ag.c, .slice m.op.A m.op.l.length m.op.c] 24)).alloc (.cells #[.int .i64 a.no, .int .i64 a.f, .int .i64 a.t, .int .i64 a.m, .int .i64 a.r] 26)).heap.size from PP.out.lt)
  have SS := Lib.hid (show ∀ w', Below ((v1.alloc (.cells #[.int .i64 m.own, .int .i64 m.ot, .slice m.ag.A m.ag.l.length m.ag.c, .slice m.op.A m.op.l.length m.op.c] 24)).alloc (.cells #[.int .i64 a.no, .int .i64 a.f, .int .i64 a.t, .int .i64 a.m, .int .i64 a.r] 26)).heap.size ((v1.alloc (.cells #[.int .i64 m.own, .int .i64 m.ot, .slice m.ag.A m.ag.l.length m.ag.c, .slice m.op.A m.op.l.length m.op.c] 24)).alloc (.cells #[.int .i64 a.no, .int .i64 a.f, .int .i64 a.t, .int .i64 a.m, .int .i64 a.r] 26)) w' → (fun w' => Below ((v1.alloc (.cells #[.int .i64 m.own, .int .i64 m.ot, .slice m.ag.A m.ag.l.length m.ag.c, .slice m.op.A m.op.l.length m.op.c] 24)).alloc (.cells #[.int .i64 a.no, .int .i64 a.f, .int .i64 a.t, .int .i64 a.m, .int .i64 a.r] 26)).heap.size ((v1.alloc (.cells #[.int .i64 m.own, .int .i64 m.ot, .slice m.ag.A m.ag.l.length m.ag.c, .slice m.op.A m.op.l.length m.op.c] 24)).alloc (.cells #[.int .i64 a.no, .int .i64 a.f, .int .i64 a.t, .int .i64 a.m, .int .i64 a.r] 26)) w' ∧ w'.cell? ⟨v1.heap.size, 0, none⟩ = some (.int .i64 m.own) ∧ w'.cell? ⟨v1.heap.size, 1, none⟩ = some (.int .i64 m.ot) ∧ w'.cell? ⟨v1.heap.size, 2, none⟩ = some (.slice m.ag.A m.ag.l.length m.ag.c) ∧ w'.cell? ⟨v1.heap.size, 3, none⟩ = some (.slice m.op.A m.op.l.length m.op.c)) w' from fun w' h => ⟨h, (M1.out.ext h).c 0 _ rfl, (M1.out.ext h).c 1 _ rfl, (M1.out.ext h).c 2 _ rfl, (M1.out.ext h).c 3 _ rfl⟩)
  refine rg_begin (S := (fun w' => Below ((v1.alloc (.cells #[.int .i64 m.own, .int .i64 m.ot, .slice m.ag.A m.ag.l.length m.ag.c, .slice m.op.A m.op.l.length m.op.c] 24)).alloc (.cells #[.int .i64 a.no, .int .i64 a.f, .int .i64 a.t, .int .i64 a.m, .int .i64 a.r] 26)).heap.size ((v1.alloc (.cells #[.int .i64 m.own, .int .i64 m.ot, .slice m.ag.A m.ag.l.length m.ag.c, .slice m.op.A m.op.l.length m.op.c] 24)).alloc (.cells #[.int .i64 a.no, .int .i64 a.f, .int .i64 a.t, .int .i64 a.m, .int .i64 a.r] 26)) w' ∧ w'.cell? ⟨v1.heap.size, 0, none⟩ = some (.int .i64 m.own) ∧ w'.cell? ⟨v1.heap.size, 1, none⟩ = some (.int .i64 m.ot) ∧ w'.cell? ⟨v1.heap.size, 2, none⟩ = some (.slice m.ag.A m.ag.l.length m.ag.c) ∧ w'.cell? ⟨v1.heap.size, 3, none⟩ = some (.slice m.op.A m.op.l.length m.op.c))) 6 (by kernel_rfl) (by intro d; cases d <;> intro _ _ _ _ h <;> exact h) ?_ (fun Q7 hQ7 hN7 hHeld => ?_)
  · exact SS.out _ (ext_drew (ext_refl _))
  refine rg_take (i := 0) (some 24) (v := ?_) rfl rfl (by kernel_rfl) (by rfl) hQ7 hHeld ?_ ?_
  rotate_left
  · intro w7 hSw; (try dsimp only at hSw); go_simp; all_goals with_reducible rfl
  try simp only [Act.put, List.setIfInBounds_toArray, List.set_cons_zero, List.set_cons_succ]
  refine rg_take (i := 1) (some 25) (v := ?_) rfl rfl (by kernel_rfl) (by rfl) hQ7 hHeld ?_ ?_
  rotate_left
  · intro w7 hSw; (try dsimp only at hSw); go_simp; all_goals with_reducible rfl
  try simp only [Act.put, List.setIfInBounds_toArray, List.set_cons_zero, List.set_cons_succ]
  refine rg_take (i := 2) (some 26) (v := ?_) rfl rfl (by kernel_rfl) (by rfl) hQ7 hHeld ?_ ?_
  rotate_left
  · intro w7 hSw; (try dsimp only at hSw); go_simp; all_goals with_reducible rfl
  try simp only [Act.put, List.setIfInBounds_toArray, List.set_cons_zero, List.set_cons_succ]
  refine rg_take (i := 3) (some 27) (v := ?_) rfl rfl (by kernel_rfl) (by rfl) hQ7 hHeld ?_ ?_
  rotate_left
  · intro w7 hSw; (try dsimp only at hSw); go_simp; all_goals with_reducible rfl
  try simp only [Act.put, List.setIfInBounds_toArray, List.set_cons_zero, List.set_cons_succ]
  refine rg_take (i := 4) (some 28) (v := ?_) rfl rfl (by kernel_rfl) (by rfl) hQ7 hHeld ?_ ?_
  rotate_left
  · intro w7 hSw; (try dsimp only at hSw); go_simp; all_goals with_reducible rfl
  try simp only [Act.put, List.setIfInBounds_toArray, List.set_cons_zero, List.set_cons_succ]
  refine rg_take (i := 5) (some 29) (v := ?_) rfl rfl (by kernel_rfl) (by rfl) hQ7 hHeld ?_ ?_
  rotate_left
  · intro w7 hSw; (try dsimp only at hSw); go_simp; all_goals with_reducible rfl
  try simp only [Act.put, List.setIfInBounds_toArray, List.set_cons_zero, List.set_cons_succ]
  have PBx := PB.out
  have gp0 := PBx.c 0 _ rfl
  have gp1 := PBx.c 1 _ rfl
  have gp2 := PBx.c 2 _ rfl
  have gp3 := PBx.c 3 _ rfl
  have gp4 := PBx.c 4 _ rfl
  have gp5 := PBx.c 5 _ rfl
  have gp6 := PBx.c 6 _ rfl
  have gp7 := PBx.c 7 _ rfl
  have gp8 := PBx.c 8 _ rfl
  have gpf := PBx.f
  have gpl := PBx.lt
  refine rg_one (i := 6) (by kernel_rfl) (rg_late rfl (by rfl) (by kernel_rfl) (fun K hK => ?_))
  go_simp
  refine hK.out _ _ ?_
  clear hK K
  try simp only [Act.put, List.setIfInBounds_toArray, List.set_cons_zero, List.set_cons_succ]
  refine rg_end (by kernel_rfl) (hN7 _ _ ?_) _
  clear hQ7 hN7 Q7
  have BX := hHeld.1
  clear SS
  clear BX
  replace A1 := Lib.hid (((((A1.out.other (p := ⟨P, 4, none⟩) (.int .i64 m.own) (by show P ≠ _; have := HS.out; omega)).other (p := ⟨P, 5, none⟩) (.int .i64 m.ot) (by show P ≠ _; have := HS.out; omega)).other (p := ⟨P, 6, none⟩) (.slice m.ag.A m.ag.l.length m.ag.c) (by show P ≠ _; have := HS.out; omega)).other (p := ⟨P, 7, none⟩) (.slice m.op.A m.op.l.length m.op.c) (by show P ≠ _; have := HS.out; omega)))
  obtain ⟨ho1, ho2⟩ := PP0.out.off1 HF.out
  have EP := Lib.hid (E.out.mono (Nat.le_of_lt HPL.out))
  replace PP := Lib.hid (((((PP.out.side1 HK.out ho1 ho2).set 4 (.int .i64 m.own)).set 5 (.int .i64 m.ot)).set 6 (.slice m.ag.A m.ag.l.length m.ag.c)).set 7 (.slice m.op.A m.op.l.length m.op.c))
  replace PB := Lib.hid (((((PB.out.set (j := 4) (by simp [Pc]) (.int .i64 m.own)).set (j := 5) (by simp [Pc]) (.int .i64 m.ot)).set (j := 6) (by simp [Pc]) (.slice m.ag.A m.ag.l.length m.ag.c)).set (j := 7) (by simp [Pc]) (.slice m.op.A m.op.l.length m.op.c)))
  replace EP := Lib.hid (below_set (below_set (below_set (below_set (EP.out) ⟨P, 4, none⟩ (.int .i64 m.own) (Nat.le_refl _)) ⟨P, 5, none⟩ (.int .i64 m.ot) (Nat.le_refl _)) ⟨P, 6, none⟩ (.slice m.ag.A m.ag.l.length m.ag.c) (Nat.le_refl _)) ⟨P, 7, none⟩ (.slice m.op.A m.op.l.length m.op.c) (Nat.le_refl _))
  clear ho1 ho2
  clear SZ
  clear E HK M1
  replace PB := Lib.hid PB.out.drew
  replace A1 := Lib.hid A1.out.drew
  replace EP := Lib.hid EP.out.drew
  replace PP := Lib.hid (PP.out.ext (ext_drew (ext_refl _)))
  obtain ⟨z0, hNz0⟩ : ∃ W0, W0 = ((((((v1.alloc (.cells #[.int .i64 m.own, .int .i64 m.ot, .slice m.ag.A m.ag.l.length m.ag.c, .slice m.op.A m.op.l.length m.op.c] 24)).alloc (.cells #[.int .i64 a.no, .int .i64 a.f, .int .i64 a.t, .int .i64 a.m, .int .i64 a.r] 26)).setCell ⟨P, 4, none⟩ (.int .i64 m.own)).setCell ⟨P, 5, none⟩ (.int .i64 m.ot)).setCell ⟨P, 6, none⟩ (.slice m.ag.A m.ag.l.length m.ag.c)).setCell ⟨P, 7, none⟩ (.slice m.op.A m.op.l.length m.op.c)).drew := ⟨_, rfl⟩
  rw [← hNz0] at PB PP A1 EP ⊢
  clear hNz0
  go_wp2_with fail
  have DD := ext_drew (ext_refl z0)
  replace PB := Lib.hid (PB.out.ext DD)
  replace PP := Lib.hid (PP.out.ext DD)
  replace A1 := Lib.hid (A1.out.ext DD)
  clear DD
  refine rg_begin (S := (fun w' => w'.cell? ⟨P, 8, none⟩ = some (.slice A n c) ∧ w'.cell? ⟨v1.heap.size + 1, 0, none⟩ = some (.int .i64 a.no) ∧ w'.cell? ⟨v1.heap.size + 1, 1, none⟩ = some (.int .i64 a.f) ∧ w'.cell? ⟨v1.heap.size + 1, 2, none⟩ = some (.int .i64 a.t) ∧ w'.cell? ⟨v1.heap.size + 1, 3, none⟩ = some (.int .i64 a.m) ∧ w'.cell? ⟨v1.heap.size + 1, 4, none⟩ = some (.int .i64 a.r))) 13 (by kernel_rfl) (by intro d; cases d <;> intro _ _ _ _ h <;> exact h) ?_ (fun Q7 hQ7 hN7 hHeld => ?_)
  · exact ⟨PB.out.c 8 _ rfl, A1.out.c 0 _ rfl, A1.out.c 1 _ rfl, A1.out.c 2 _ rfl, A1.out.c 3 _ rfl, A1.out.c 4 _ rfl⟩
  refine rg_take (i := 0) (some 30) (v := ?_) rfl rfl (by kernel_rfl) (by rfl) hQ7 hHeld ?_ ?_
  rotate_left
  · intro w7 hSw; (try dsimp only at hSw); go_simp; all_goals with_reducible rfl
  try simp only [Act.put, List.setIfInBounds_toArray, List.set_cons_zero, List.set_cons_succ]
  refine rg_take (i := 1) (some 31) (v := ?_) rfl rfl (by kernel_rfl) (by rfl) hQ7 hHeld ?_ ?_
  rotate_left
  · intro w7 hSw; (try dsimp only at hSw); go_simp; all_goals with_reducible rfl
  try simp only [Act.put, List.setIfInBounds_toArray, List.set_cons_zero, List.set_cons_succ]
  refine rg_take (i := 2) (some 32) (v := ?_) rfl rfl (by kernel_rfl) (by rfl) hQ7 hHeld ?_ ?_
  rotate_left
  · intro w7 hSw; (try dsimp only at hSw); go_simp; all_goals with_reducible rfl
  try simp only [Act.put, List.setIfInBounds_toArray, List.set_cons_zero, List.set_cons_succ]
  refine rg_take (i := 3) (some 33) (v := ?_) rfl rfl (by kernel_rfl) (by rfl) hQ7 hHeld ?_ ?_
  rotate_left
  · intro w7 hSw; (try dsimp only at hSw); go_simp; all_goals with_reducible rfl
  try simp only [Act.put, List.setIfInBounds_toArray, List.set_cons_zero, List.set_cons_succ]
  refine rg_take (i := 4) (some 34) (v := ?_) rfl rfl (by kernel_rfl) (by rfl) hQ7 hHeld ?_ ?_
  rotate_left
  · intro w7 hSw; (try dsimp only at hSw); go_simp; all_goals with_reducible rfl
  try simp only [Act.put, List.setIfInBounds_toArray, List.set_cons_zero, List.set_cons_succ]
  refine rg_take (i := 5) (some 35) (v := ?_) rfl rfl (by kernel_rfl) (by rfl) hQ7 hHeld ?_ ?_
  rotate_left
  · intro w7 hSw; (try dsimp only at hSw); go_simp; all_goals with_reducible rfl
  try simp only [Act.put, List.setIfInBounds_toArray, List.set_cons_zero, List.set_cons_succ]
  refine rg_take (i := 6) (some 36) (v := ?_) rfl rfl (by kernel_rfl) (by rfl) hQ7 hHeld ?_ ?_
  rotate_left
  · intro w7 hSw; (try dsimp only at hSw); go_simp; all_goals with_reducible rfl
  try simp only [Act.put, List.setIfInBounds_toArray, List.set_cons_zero, List.set_cons_succ]
  refine rg_take (i := 7) (some 37) (v := ?_) rfl rfl (by kernel_rfl) (by rfl) hQ7 hHeld ?_ ?_
  rotate_left
  · intro w7 hSw; (try dsimp only at hSw); go_simp; all_goals with_reducible rfl
  try simp only [Act.put, List.setIfInBounds_toArray, List.set_cons_zero, List.set_cons_succ]
  refine rg_take (i := 8) (some 38) (v := ?_) rfl rfl (by kernel_rfl) (by rfl) hQ7 hHeld ?_ ?_
  rotate_left
  · intro w7 hSw; (try dsimp only at hSw); go_simp; all_goals with_reducible rfl
  try simp only [Act.put, List.setIfInBounds_toArray, List.set_cons_zero, List.set_cons_succ]
  refine rg_one (i := 9) (by kernel_rfl) (rg_step rfl (by rfl) (fun K hK => ?_))
  go_simp
  refine hK.out _ _ ?_ (fun hHeld2 => ?_)
  · exact ⟨(PB.out.alloc _).c 8 _ rfl, (A1.out.alloc _).c 0 _ rfl, (A1.out.alloc _).c 1 _ rfl, (A1.out.alloc _).c 2 _ rfl, (A1.out.alloc _).c 3 _ rfl, (A1.out.alloc _).c 4 _ rfl⟩
  clear hHeld
  have hHeld := hHeld2
  clear hHeld2
  clear hK K
  try simp only [Act.put, List.setIfInBounds_toArray, List.set_cons_zero, List.set_cons_succ]
  refine rg_one (i := 10) (by kernel_rfl) (rg_step rfl (by rfl) (fun K hK => ?_))
  refine rg_append (some 40) _ _ 46 46 rfl rfl rfl _ _ rfl rfl ((PP.out.alloc (.cells #[.int .i64 0, .bool true, .int .i64 a.no, .int .i64 a.f, .int .i64 a.t, .int .i64 a.m, .int .i64 a.r] 53)).say (PB.out.alloc (.cells #[.int .i64 0, .bool true, .int .i64 a.no, .int .i64 a.f, .int .i64 a.t, .int .i64 a.m, .int .i64 a.r] 53)) (slc_litH _ [⟨false, true, a⟩] _ 53 (enc := Lt.cells) (sz := 7) (fun _ => rfl) rfl _ rfl) HN.out) ?_
  rintro _ z ⟨A', c', rfl, PPz, PBz, Ez, Gz⟩
  refine hK.out _ _ ?_ (fun hHeld2 => ?_)
  · exact ⟨PBz.c 8 _ rfl, ((A1.out.alloc _).keepB (Gz.block _ (by have := A1.out.lt; simp at this ⊢; omega) HNE.out)).c 0 _ rfl, ((A1.out.alloc _).keepB (Gz.block _ (by have := A1.out.lt; simp at this ⊢; omega) HNE.out)).c 1 _ rfl, ((A1.out.alloc _).keepB (Gz.block _ (by have := A1.out.lt; simp at this ⊢; omega) HNE.out)).c 2 _ rfl, ((A1.out.alloc _).keepB (Gz.block _ (by have := A1.out.lt; simp at this ⊢; omega) HNE.out)).c 3 _ rfl, ((A1.out.alloc _).keepB (Gz.block _ (by have := A1.out.lt; simp at this ⊢; omega) HNE.out)).c 4 _ rfl⟩
  clear hHeld
  have hHeld := hHeld2
  clear hHeld2
  clear hK K
  try simp only [Act.put, List.setIfInBounds_toArray, List.set_cons_zero, List.set_cons_succ]
  have gp8 := PBz.c 8 _ rfl
  have gpf := PBz.f
  have gpl := PBz.lt
  refine rg_take (i := 11) (some 41) (v := ?_) rfl rfl (by kernel_rfl) (by rfl) hQ7 hHeld ?_ ?_
  rotate_left
  · intro w7 hSw; (try dsimp only at hSw); go_simp; all_goals with_reducible rfl
  try simp only [Act.put, List.setIfInBounds_toArray, List.set_cons_zero, List.set_cons_succ]
  refine rg_take (i := 12) (some 42) (v := ?_) rfl rfl (by kernel_rfl) (by rfl) hQ7 hHeld ?_ ?_
  rotate_left
  · intro w7 hSw; (try dsimp only at hSw); go_simp; all_goals with_reducible rfl
  try simp only [Act.put, List.setIfInBounds_toArray, List.set_cons_zero, List.set_cons_succ]
  refine rg_one (i := 13) (by kernel_rfl) (rg_late rfl (by rfl) (by kernel_rfl) (fun K hK => ?_))
  go_simp
  refine hK.out _ _ ?_
  clear hK K
  try simp only [Act.put, List.setIfInBounds_toArray, List.set_cons_zero, List.set_cons_succ]
  refine rg_end (by kernel_rfl) (hN7 _ _ ?_) _
  clear hQ7 hN7 Q7
  replace EP := Lib.hid (below_set (((EP.out.drew).alloc (by have := PP.out.lt; simpa using Nat.le_of_lt this) _).trans Ez) ⟨P, 8, none⟩ (.slice A' (n + 1) c') (Nat.le_refl _))
  replace PB := Lib.hid (PBz.set (j := 8) (by simp [Pc]) (.slice A' (n + 1) c'))
  replace PP := Lib.hid (PPz.set 8 (.slice A' (n + 1) c'))
  clear PBz PPz Ez Gz
  go_wp2_with fail
  go_ret
  exact ⟨rfl, x, m, A', n + 1, c', rfl, HM.out, PB.out, PP.out, EP.out⟩
end Go.Proofs.Ytmnbeikhjbjpiaa
