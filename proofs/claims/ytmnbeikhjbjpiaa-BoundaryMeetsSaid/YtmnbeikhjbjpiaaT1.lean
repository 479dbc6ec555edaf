/- Contracts: a message is delivered. -/
import Derived.Test.YtmnbeikhjbjpiaaT0
set_option linter.unusedSimpArgs false
set_option linter.unusedVariables false
namespace Go.Proofs.Ytmnbeikhjbjpiaa
open Go.RowKit
set_option maxHeartbeats 1600000 in
set_option maxRecDepth 100000 in
theorem deliver_h0 (x y : Bd) (A : Option Addr) (n c P : Nat) (l : List Lt) (a : Ag) (X : Bl) (w : World) (hP : Blk w P (Pc x y A n c)) (hp : PR w P x y A n c l) (hx : x.bl.heaB a = X) (he : x.bl.heaE a = 0) (hl : Lens x) :
    Calls Try.prog 29 #[.pointer (some ⟨P, 0, none⟩), .agg #[.int .i64 0, .bool false, .int .i64 a.no, .int .i64 a.f, .int .i64 a.t, .int .i64 a.m, .int .i64 a.r]] w (PsR w P A n c ⟨X, y.bl, l⟩) := by
  have HX := Lib.hid hx
  have HE := Lib.hid he
  have HL := Lib.hid hl
  clear hx he hl
  have E := Lib.hid (ext_refl w)
  have PB := Lib.hid (hP)
  have PP := Lib.hid (hp)
  have HPL := Lib.hid hp.lt
  have HLN := Lib.hid hp.hn
  clear hP hp
  replace E := Lib.hid (ext_alloc E.out (.cells #[.int .i64 0, .bool false, .int .i64 a.no, .int .i64 a.f, .int .i64 a.t, .int .i64 a.m, .int .i64 a.r] 53))
  replace PB := Lib.hid (PB.out.alloc (.cells #[.int .i64 0, .bool false, .int .i64 a.no, .int .i64 a.f, .int .i64 a.t, .int .i64 a.m, .int .i64 a.r] 53))
  replace PP := Lib.hid (PP.out.alloc (.cells #[.int .i64 0, .bool false, .int .i64 a.no, .int .i64 a.f, .int .i64 a.t, .int .i64 a.m, .int .i64 a.r] 53))
  have MX := Lib.hid (Blk.newH w [.int .i64 0, .bool false, .int .i64 a.no, .int .i64 a.f, .int .i64 a.t, .int .i64 a.m, .int .i64 a.r] 53 (w.heap.size) (by first | rfl | simp))
  go_enter Try.func29, Try.ntmps29
  have c0 := MX.out.c 1 _ rfl
  go_wp2_with fail
  have SS := Lib.hid (show ∀ w', Below (w.alloc (.cells #[.int .i64 0, .bool false, .int .i64 a.no, .int .i64 a.f, .int .i64 a.t, .int .i64 a.m, .int .i64 a.r] 53)).heap.size (w.alloc (.cells #[.int .i64 0, .bool false, .int .i64 a.no, .int .i64 a.f, .int .i64 a.t, .int .i64 a.m, .int .i64 a.r] 53)) w' → (fun w' => Below (w.alloc (.cells #[.int .i64 0, .bool false, .int .i64 a.no, .int .i64 a.f, .int .i64 a.t, .int .i64 a.m, .int .i64 a.r] 53)).heap.size (w.alloc (.cells #[.int .i64 0, .bool false, .int .i64 a.no, .int .i64 a.f, .int .i64 a.t, .int .i64 a.m, .int .i64 a.r] 53)) w' ∧ w'.cell? ⟨w.heap.size, 0, none⟩ = some (.int .i64 0) ∧ w'.cell? ⟨w.heap.size, 1, none⟩ = some (.bool false) ∧ w'.cell? ⟨w.heap.size, 2, none⟩ = some (.int .i64 a.no) ∧ w'.cell? ⟨w.heap.size, 3, none⟩ = some (.int .i64 a.f) ∧ w'.cell? ⟨w.heap.size, 4, none⟩ = some (.int .i64 a.t) ∧ w'.cell? ⟨w.heap.size, 5, none⟩ = some (.int .i64 a.m) ∧ w'.cell? ⟨w.heap.size, 6, none⟩ = some (.int .i64 a.r) ∧ w'.cell? ⟨P, 0, none⟩ = some (.int .i64 x.own) ∧ w'.cell? ⟨P, 1, none⟩ = some (.int .i64 x.ot) ∧ w'.cell? ⟨P, 2, none⟩ = some (.slice x.ag.A x.ag.l.length x.ag.c) ∧ w'.cell? ⟨P, 3, none⟩ = some (.slice x.op.A x.op.l.length x.op.c)) w' from fun w' h => ⟨h, (MX.out.ext h).c 0 _ rfl, (MX.out.ext h).c 1 _ rfl, (MX.out.ext h).c 2 _ rfl, (MX.out.ext h).c 3 _ rfl, (MX.out.ext h).c 4 _ rfl, (MX.out.ext h).c 5 _ rfl, (MX.out.ext h).c 6 _ rfl, (PB.out.ext h).c 0 _ rfl, (PB.out.ext h).c 1 _ rfl, (PB.out.ext h).c 2 _ rfl, (PB.out.ext h).c 3 _ rfl⟩)
  refine rg_begin (S := (fun w' => Below (w.alloc (.cells #[.int .i64 0, .bool false, .int .i64 a.no, .int .i64 a.f, .int .i64 a.t, .int .i64 a.m, .int .i64 a.r] 53)).heap.size (w.alloc (.cells #[.int .i64 0, .bool false, .int .i64 a.no, .int .i64 a.f, .int .i64 a.t, .int .i64 a.m, .int .i64 a.r] 53)) w' ∧ w'.cell? ⟨w.heap.size, 0, none⟩ = some (.int .i64 0) ∧ w'.cell? ⟨w.heap.size, 1, none⟩ = some (.bool false) ∧ w'.cell? ⟨w.heap.size, 2, none⟩ = some (.int .i64 a.no) ∧ w'.cell? ⟨w.heap.size, 3, none⟩ = some (.int .i64 a.f) ∧ w'.cell? ⟨w.heap.size, 4, none⟩ = some (.int .i64 a.t) ∧ w'.cell? ⟨w.heap.size, 5, none⟩ = some (.int .i64 a.m) ∧ w'.cell? ⟨w.heap.size, 6, none⟩ = some (.int .i64 a.r) ∧ w'.cell? ⟨P, 0, none⟩ = some (.int .i64 x.own) ∧ w'.cell? ⟨P, 1, none⟩ = some (.int .i64 x.ot) ∧ w'.cell? ⟨P, 2, none⟩ = some (.slice x.ag.A x.ag.l.length x.ag.c) ∧ w'.cell? ⟨P, 3, none⟩ = some (.slice x.op.A x.op.l.length x.op.c))) 19 (by kernel_rfl) (by intro d; cases d <;> intro _ _ _ _ h <;> exact h) ?_ (fun Q7 hQ7 hN7 hHeld => ?_)
  · exact SS.out _ (ext_drew (ext_refl _))
  refine rg_take (i := 0) (some 28) (v := ?_) rfl rfl (by kernel_rfl) (by rfl) hQ7 hHeld ?_ ?_
  rotate_left
  · intro w7 hSw; (try dsimp only at hSw); go_simp; all_goals with_reducible rfl
  try simp only [Act.put, List.setIfInBounds_toArray, List.set_cons_zero, List.set_cons_succ]
  refine rg_take (i := 1) (some 29) (v := ?_) rfl rfl (by kernel_rfl) (by rfl) hQ7 hHeld ?_ ?_
  rotate_left
  · intro w7 hSw; (try dsimp only at hSw); go_simp; all_goals with_reducible rfl
  try simp only [Act.put, List.setIfInBounds_toArray, List.set_cons_zero, List.set_cons_succ]
  refine rg_take (i := 2) (some 30) (v := ?_) rfl rfl (by kernel_rfl) (by rfl) hQ7 hHeld ?_ ?_
  rotate_left
  · intro w7 hSw; (try dsimp only at hSw); go_simp; all_goals with_reducible rfl
  try simp only [Act.put, List.setIfInBounds_toArray, List.set_cons_zero, List.set_cons_succ]
  refine rg_take (i := 3) (some 31) (v := ?_) rfl rfl (by kernel_rfl) (by rfl) hQ7 hHeld ?_ ?_
  rotate_left
  · intro w7 hSw; (try dsimp only at hSw); go_simp; all_goals with_reducible rfl
  try simp only [Act.put, List.setIfInBounds_toArray, List.set_cons_zero, List.set_cons_succ]
  refine rg_take (i := 4) (some 32) (v := ?_) rfl rfl (by kernel_rfl) (by rfl) hQ7 hHeld ?_ ?_
  rotate_left
  · intro w7 hSw; (try dsimp only at hSw); go_simp; all_goals with_reducible rfl
  try simp only [Act.put, List.setIfInBounds_toArray, List.set_cons_zero, List.set_cons_succ]
  refine rg_take (i := 5) (some 33) (v := ?_) rfl rfl (by kernel_rfl) (by rfl) hQ7 hHeld ?_ ?_
  rotate_left
  · intro w7 hSw; (try dsimp only at hSw); go_simp; all_goals with_reducible rfl
  try simp only [Act.put, List.setIfInBounds_toArray, List.set_cons_zero, List.set_cons_succ]
  refine rg_take (i := 6) (some 34) (v := ?_) rfl rfl (by kernel_rfl) (by rfl) hQ7 hHeld ?_ ?_
  rotate_left
  · intro w7 hSw; (try dsimp only at hSw); go_simp; all_goals with_reducible rfl
  try simp only [Act.put, List.setIfInBounds_toArray, List.set_cons_zero, List.set_cons_succ]
  refine rg_take (i := 7) (some 35) (v := ?_) rfl rfl (by kernel_rfl) (by rfl) hQ7 hHeld ?_ ?_
  rotate_left
  · intro w7 hSw; (try dsimp only at hSw); go_simp; all_goals with_reducible rfl
  try simp only [Act.put, List.setIfInBounds_toArray, List.set_cons_zero, List.set_cons_succ]
  refine rg_take (i := 8) (some 36) (v := ?_) rfl rfl (by kernel_rfl) (by rfl) hQ7 hHeld ?_ ?_
  rotate_left
  · intro w7 hSw; (try dsimp only at hSw); go_simp; all_goals with_reducible rfl
  try simp only [Act.put, List.setIfInBounds_toArray, List.set_cons_zero, List.set_cons_succ]
  refine rg_take (i := 9) (some 37) (v := ?_) rfl rfl (by kernel_rfl) (by rfl) hQ7 hHeld ?_ ?_
  rotate_left
  · intro w7 hSw; (try dsimp only at hSw); go_simp; all_goals with_reducible rfl
  try simp only [Act.put, List.setIfInBounds_toArray, List.set_cons_zero, List.set_cons_succ]
  refine rg_take (i := 10) (some 38) (v := ?_) rfl rfl (by kernel_rfl) (by rfl) hQ7 hHeld ?_ ?_
  rotate_left
  · intro w7 hSw; (try dsimp only at hSw); go_simp; all_goals with_reducible rfl
  try simp only [Act.put, List.setIfInBounds_toArray, List.set_cons_zero, List.set_cons_succ]
  refine rg_take (i := 11) (some 39) (v := ?_) rfl rfl (by kernel_rfl) (by rfl) hQ7 hHeld ?_ ?_
  rotate_left
  · intro w7 hSw; (try dsimp only at hSw); go_simp; all_goals with_reducible rfl
  try simp only [Act.put, List.setIfInBounds_toArray, List.set_cons_zero, List.set_cons_succ]
  refine rg_take (i := 16) (some 43) (v := ?_) rfl rfl (by kernel_rfl) (by rfl) hQ7 hHeld ?_ ?_
  rotate_left
  · intro w7 hSw; (try dsimp only at hSw); go_simp; all_goals with_reducible rfl
  try simp only [Act.put, List.setIfInBounds_toArray, List.set_cons_zero, List.set_cons_succ]
  refine rg_take (i := 17) (some 44) (v := ?_) rfl rfl (by kernel_rfl) (by rfl) hQ7 hHeld ?_ ?_
  rotate_left
  · intro w7 hSw; (try dsimp only at hSw); go_simp; all_goals with_reducible rfl
  try simp only [Act.put, List.setIfInBounds_toArray, List.set_cons_zero, List.set_cons_succ]
  refine rg_one (i := 12) (by kernel_rfl) (rg_step rfl (by rfl) (fun K hK => ?_))
  go_simp
  refine (hear_at (b := x) (a := a) X 0 HX.out HE.out (PP.out.hx.ext hHeld.1) HL.out).mono ?_
  rintro e u1 ⟨m, rfl, hm, hM, B1, hF⟩
  go_wp2_with fail
  refine hK.out _ _ ?_ (fun hHeld2 => ?_)
  · exact SS.out _ (ext_trans hHeld.1 B1)
  clear hHeld
  have hHeld := hHeld2
  clear hHeld2
  clear hK K
  try simp only [Act.put, List.setIfInBounds_toArray, List.set_cons_zero, List.set_cons_succ]
  refine rg_take (i := 13) (some 27) (v := ?_) rfl rfl (by kernel_rfl) (by rfl) hQ7 hHeld ?_ ?_
  rotate_left
  · intro w7 hSw; (try dsimp only at hSw); go_simp; all_goals with_reducible rfl
  try simp only [Act.put, List.setIfInBounds_toArray, List.set_cons_zero, List.set_cons_succ]
  refine rg_take (i := 14) (some 41) (v := ?_) rfl rfl (by kernel_rfl) (by rfl) hQ7 hHeld ?_ ?_
  rotate_left
  · intro w7 hSw; (try dsimp only at hSw); go_simp; all_goals with_reducible rfl
  try simp only [Act.put, List.setIfInBounds_toArray, List.set_cons_zero, List.set_cons_succ]
  refine rg_pure (i := 15) (some 42) (v := ?_) rfl rfl (by kernel_rfl) (by rfl) hQ7 (by first | exact .inr hHeld | exact .inl (by kernel_rfl)) ?_ ?_
  rotate_left
  · intro w7; go_simp; all_goals with_reducible rfl
  try simp only [Act.put, List.setIfInBounds_toArray, List.set_cons_zero, List.set_cons_succ]
  refine rg_take (i := 18) (some 45) (v := ?_) rfl rfl (by kernel_rfl) (by rfl) hQ7 hHeld ?_ ?_
  rotate_left
  · intro w7 hSw; (try dsimp only at hSw); go_simp; all_goals with_reducible rfl
  try simp only [Act.put, List.setIfInBounds_toArray, List.set_cons_zero, List.set_cons_succ]
  have PBx := PB.out.ext hHeld.1
  have gp0 := PBx.c 0 _ rfl
  have gp1 := PBx.c 1 _ rfl
  have gp2 := PBx.c 2 _ rfl
  have gp3 := PBx.c 3 _ rfl
  have gp4 := PBx.c 4 _ rfl
  have gp5 := PBx.c 5 _ rfl
  have gp6 := PBx.c 6 _ rfl
  have gp7 := PBx.c 7 _ rfl
  have gp8 := PBx.c 8 _ rfl
  have gpf := PBx.f
  have gpl := PBx.lt
  refine rg_one (i := 19) (by kernel_rfl) (rg_late rfl (by rfl) (by kernel_rfl) (fun K hK => ?_))
  go_simp
  refine hK.out _ _ ?_
  clear hK K
  try simp only [Act.put, List.setIfInBounds_toArray, List.set_cons_zero, List.set_cons_succ]
  refine rg_pure (i := 20) (some 5) (v := ?_) rfl rfl (by kernel_rfl) (by rfl) hQ7 (.inl (by kernel_rfl)) ?_ ?_
  rotate_left
  · intro w7; go_simp; all_goals with_reducible rfl
  try simp only [Act.put, List.setIfInBounds_toArray, List.set_cons_zero, List.set_cons_succ]
  refine rg_end (by kernel_rfl) (hN7 _ _ ?_) _
  clear hQ7 hN7 Q7
  have BX := hHeld.1
  clear SS
  have PP0 := PP
  replace E := Lib.hid (ext_trans E.out BX)
  replace PB := Lib.hid (PB.out.ext BX)
  replace PP := Lib.hid (PP.out.ext BX)
  replace MX := Lib.hid (MX.out.ext BX)
  clear BX
  obtain ⟨ho1, ho2⟩ := PP0.out.off0 hF
  have EP := Lib.hid (E.out.mono (Nat.le_of_lt HPL.out))
  replace PP := Lib.hid (((((PP.out.side0 hM ho1 ho2).set 0 (.int .i64 m.own)).set 1 (.int .i64 m.ot)).set 2 (.slice m.ag.A m.ag.l.length m.ag.c)).set 3 (.slice m.op.A m.op.l.length m.op.c))
  replace PB := Lib.hid (((((PB.out.set (j := 0) (by simp [Pc]) (.int .i64 m.own)).set (j := 1) (by simp [Pc]) (.int .i64 m.ot)).set (j := 2) (by simp [Pc]) (.slice m.ag.A m.ag.l.length m.ag.c)).set (j := 3) (by simp [Pc]) (.slice m.op.A m.op.l.length m.op.c)))
  replace EP := Lib.hid (below_set (below_set (below_set (below_set (EP.out) ⟨P, 0, none⟩ (.int .i64 m.own) (Nat.le_refl _)) ⟨P, 1, none⟩ (.int .i64 m.ot) (Nat.le_refl _)) ⟨P, 2, none⟩ (.slice m.ag.A m.ag.l.length m.ag.c) (Nat.le_refl _)) ⟨P, 3, none⟩ (.slice m.op.A m.op.l.length m.op.c) (Nat.le_refl _))
  clear ho1 ho2
  go_wp2_with fail
  go_ret
  exact ⟨rfl, m, y, hm, rfl, PB.out, PP.out, EP.out⟩
set_option maxHeartbeats 1600000 in
set_option maxRecDepth 100000 in
theorem deliver_o0 (x y : Bd) (A : Option Addr) (n c P : Nat) (l : List Lt) (a : Ag) (X : Bl) (w : World) (hP : Blk w P (Pc x y A n c)) (hp : PR w P x y A n c l) (hx : x.bl.conB a = X) (he : x.bl.conE a = 0) (hl : Lens x) :
    Calls Try.prog 29 #[.pointer (some ⟨P, 0, none⟩), .agg #[.int .i64 0, .bool true, .int .i64 a.no, .int .i64 a.f, .int .i64 a.t, .int .i64 a.m, .int .i64 a.r]] w (PsR w P A n c ⟨X, y.bl, l⟩) := by
  have HX := Lib.hid hx
  have HE := Lib.hid he
  have HL := Lib.hid hl
  clear hx he hl
  have E := Lib.hid (ext_refl w)
  have PB := Lib.hid (hP)
  have PP := Lib.hid (hp)
  have HPL := Lib.hid hp.lt
  have HLN := Lib.hid hp.hn
  clear hP hp
  replace E := Lib.hid (ext_alloc E.out (.cells #[.int .i64 0, .bool true, .int .i64 a.no, .int .i64 a.f, .int .i64 a.t, .int .i64 a.m, .int .i64 a.r] 53))
  replace PB := Lib.hid (PB.out.alloc (.cells #[.int .i64 0, .bool true, .int .i64 a.no, .int .i64 a.f, .int .i64 a.t, .int .i64 a.m, .int .i64 a.r] 53))
  replace PP := Lib.hid (PP.out.alloc (.cells #[.int .i64 0, .bool true, .int .i64 a.no, .int .i64 a.f, .int .i64 a.t, .int .i64 a.m, .int .i64 a.r] 53))
  have MX := Lib.hid (Blk.newH w [.int .i64 0, .bool true, .int .i64 a.no, .int .i64 a.f, .int .i64 a.t, .int .i64 a.m, .int .i64 a.r] 53 (w.heap.size) (by first | rfl | simp))
  go_enter Try.func29, Try.ntmps29
  have c0 := MX.out.c 1 _ rfl
  go_wp2_with fail
  have SS := Lib.hid (show ∀ w', Below (w.alloc (.cells #[.int .i64 0, .bool true, .int .i64 a.no, .int .i64 a.f, .int .i64 a.t, .int .i64 a.m, .int .i64 a.r] 53)).heap.size (w.alloc (.cells #[.int .i64 0, .bool true, .int .i64 a.no, .int .i64 a.f, .int .i64 a.t, .int .i64 a.m, .int .i64 a.r] 53)) w' → (fun w' => Below (w.alloc (.cells #[.int .i64 0, .bool true, .int .i64 a.no, .int .i64 a.f, .int .i64 a.t, .int .i64 a.m, .int .i64 a.r] 53)).heap.size (w.alloc (.cells #[.int .i64 0, .bool true, .int .i64 a.no, .int .i64 a.f, .int .i64 a.t, .int .i64 a.m, .int .i64 a.r] 53)) w' ∧ w'.cell? ⟨w.heap.size, 0, none⟩ = some (.int .i64 0) ∧ w'.cell? ⟨w.heap.size, 1, none⟩ = some (.bool true) ∧ w'.cell? ⟨w.heap.size, 2, none⟩ = some (.int .i64 a.no) ∧ w'.cell? ⟨w.heap.size, 3, none⟩ = some (.int .i64 a.f) ∧ w'.cell? ⟨w.heap.size, 4, none⟩ = some (.int .i64 a.t) ∧ w'.cell? ⟨w.heap.size, 5, none⟩ = some (.int .i64 a.m) ∧ w'.cell? ⟨w.heap.size, 6, none⟩ = some (.int .i64 a.r) ∧ w'.cell? ⟨P, 0, none⟩ = some (.int .i64 x.own) ∧ w'.cell? ⟨P, 1, none⟩ = some (.int .i64 x.ot) ∧ w'.cell? ⟨P, 2, none⟩ = some (.slice x.ag.A x.ag.l.length x.ag.c) ∧ w'.cell? ⟨P, 3, none⟩ = some (.slice x.op.A x.op.l.length x.op.c)) w' from fun w' h => ⟨h, (MX.out.ext h).c 0 _ rfl, (MX.out.ext h).c 1 _ rfl, (MX.out.ext h).c 2 _ rfl, (MX.out.ext h).c 3 _ rfl, (MX.out.ext h).c 4 _ rfl, (MX.out.ext h).c 5 _ rfl, (MX.out.ext h).c 6 _ rfl, (PB.out.ext h).c 0 _ rfl, (PB.out.ext h).c 1 _ rfl, (PB.out.ext h).c 2 _ rfl, (PB.out.ext h).c 3 _ rfl⟩)
  refine rg_begin (S := (fun w' => Below (w.alloc (.cells #[.int .i64 0, .bool true, .int .i64 a.no, .int .i64 a.f, .int .i64 a.t, .int .i64 a.m, .int .i64 a.r] 53)).heap.size (w.alloc (.cells #[.int .i64 0, .bool true, .int .i64 a.no, .int .i64 a.f, .int .i64 a.t, .int .i64 a.m, .int .i64 a.r] 53)) w' ∧ w'.cell? ⟨w.heap.size, 0, none⟩ = some (.int .i64 0) ∧ w'.cell? ⟨w.heap.size, 1, none⟩ = some (.bool true) ∧ w'.cell? ⟨w.heap.size, 2, none⟩ = some (.int .i64 a.no) ∧ w'.cell? ⟨w.heap.size, 3, none⟩ = some (.int .i64 a.f) ∧ w'.cell? ⟨w.heap.size, 4, none⟩ = some (.int .i64 a.t) ∧ w'.cell? ⟨w.heap.size, 5, none⟩ = some (.int .i64 a.m) ∧ w'.cell? ⟨w.heap.size, 6, none⟩ = some (.int .i64 a.r) ∧ w'.cell? ⟨P, 0, none⟩ = some (.int .i64 x.own) ∧ w'.cell? ⟨P, 1, none⟩ = some (.int .i64 x.ot) ∧ w'.cell? ⟨P, 2, none⟩ = some (.slice x.ag.A x.ag.l.length x.ag.c) ∧ w'.cell? ⟨P, 3, none⟩ = some (.slice x.op.A x.op.l.length x.op.c))) 19 (by kernel_rfl) (by intro d; cases d <;> intro _ _ _ _ h <;> exact h) ?_ (fun Q7 hQ7 hN7 hHeld => ?_)
  · exact SS.out _ (ext_drew (ext_refl _))
  refine rg_take (i := 0) (some 9) (v := ?_) rfl rfl (by kernel_rfl) (by rfl) hQ7 hHeld ?_ ?_
  rotate_left
  · intro w7 hSw; (try dsimp only at hSw); go_simp; all_goals with_reducible rfl
  try simp only [Act.put, List.setIfInBounds_toArray, List.set_cons_zero, List.set_cons_succ]
  refine rg_take (i := 1) (some 10) (v := ?_) rfl rfl (by kernel_rfl) (by rfl) hQ7 hHeld ?_ ?_
  rotate_left
  · intro w7 hSw; (try dsimp only at hSw); go_simp; all_goals with_reducible rfl
  try simp only [Act.put, List.setIfInBounds_toArray, List.set_cons_zero, List.set_cons_succ]
  refine rg_take (i := 2) (some 11) (v := ?_) rfl rfl (by kernel_rfl) (by rfl) hQ7 hHeld ?_ ?_
  rotate_left
  · intro w7 hSw; (try dsimp only at hSw); go_simp; all_goals with_reducible rfl
  try simp only [Act.put, List.setIfInBounds_toArray, List.set_cons_zero, List.set_cons_succ]
  refine rg_take (i := 3) (some 12) (v := ?_) rfl rfl (by kernel_rfl) (by rfl) hQ7 hHeld ?_ ?_
  rotate_left
  · intro w7 hSw; (try dsimp only at hSw); go_simp; all_goals with_reducible rfl
  try simp only [Act.put, List.setIfInBounds_toArray, List.set_cons_zero, List.set_cons_succ]
  refine rg_take (i := 4) (some 13) (v := ?_) rfl rfl (by kernel_rfl) (by rfl) hQ7 hHeld ?_ ?_
  rotate_left
  · intro w7 hSw; (try dsimp only at hSw); go_simp; all_goals with_reducible rfl
  try simp only [Act.put, List.setIfInBounds_toArray, List.set_cons_zero, List.set_cons_succ]
  refine rg_take (i := 5) (some 14) (v := ?_) rfl rfl (by kernel_rfl) (by rfl) hQ7 hHeld ?_ ?_
  rotate_left
  · intro w7 hSw; (try dsimp only at hSw); go_simp; all_goals with_reducible rfl
  try simp only [Act.put, List.setIfInBounds_toArray, List.set_cons_zero, List.set_cons_succ]
  refine rg_take (i := 6) (some 15) (v := ?_) rfl rfl (by kernel_rfl) (by rfl) hQ7 hHeld ?_ ?_
  rotate_left
  · intro w7 hSw; (try dsimp only at hSw); go_simp; all_goals with_reducible rfl
  try simp only [Act.put, List.setIfInBounds_toArray, List.set_cons_zero, List.set_cons_succ]
  refine rg_take (i := 7) (some 16) (v := ?_) rfl rfl (by kernel_rfl) (by rfl) hQ7 hHeld ?_ ?_
  rotate_left
  · intro w7 hSw; (try dsimp only at hSw); go_simp; all_goals with_reducible rfl
  try simp only [Act.put, List.setIfInBounds_toArray, List.set_cons_zero, List.set_cons_succ]
  refine rg_take (i := 8) (some 17) (v := ?_) rfl rfl (by kernel_rfl) (by rfl) hQ7 hHeld ?_ ?_
  rotate_left
  · intro w7 hSw; (try dsimp only at hSw); go_simp; all_goals with_reducible rfl
  try simp only [Act.put, List.setIfInBounds_toArray, List.set_cons_zero, List.set_cons_succ]
  refine rg_take (i := 9) (some 18) (v := ?_) rfl rfl (by kernel_rfl) (by rfl) hQ7 hHeld ?_ ?_
  rotate_left
  · intro w7 hSw; (try dsimp only at hSw); go_simp; all_goals with_reducible rfl
  try simp only [Act.put, List.setIfInBounds_toArray, List.set_cons_zero, List.set_cons_succ]
  refine rg_take (i := 10) (some 19) (v := ?_) rfl rfl (by kernel_rfl) (by rfl) hQ7 hHeld ?_ ?_
  rotate_left
  · intro w7 hSw; (try dsimp only at hSw); go_simp; all_goals with_reducible rfl
  try simp only [Act.put, List.setIfInBounds_toArray, List.set_cons_zero, List.set_cons_succ]
  refine rg_take (i := 11) (some 20) (v := ?_) rfl rfl (by kernel_rfl) (by rfl) hQ7 hHeld ?_ ?_
  rotate_left
  · intro w7 hSw; (try dsimp only at hSw); go_simp; all_goals with_reducible rfl
  try simp only [Act.put, List.setIfInBounds_toArray, List.set_cons_zero, List.set_cons_succ]
  refine rg_take (i := 16) (some 24) (v := ?_) rfl rfl (by kernel_rfl) (by rfl) hQ7 hHeld ?_ ?_
  rotate_left
  · intro w7 hSw; (try dsimp only at hSw); go_simp; all_goals with_reducible rfl
  try simp only [Act.put, List.setIfInBounds_toArray, List.set_cons_zero, List.set_cons_succ]
  refine rg_take (i := 17) (some 25) (v := ?_) rfl rfl (by kernel_rfl) (by rfl) hQ7 hHeld ?_ ?_
  rotate_left
  · intro w7 hSw; (try dsimp only at hSw); go_simp; all_goals with_reducible rfl
  try simp only [Act.put, List.setIfInBounds_toArray, List.set_cons_zero, List.set_cons_succ]
  refine rg_one (i := 12) (by kernel_rfl) (rg_step rfl (by rfl) (fun K hK => ?_))
  go_simp
  refine (confirm_at (b := x) (a := a) X 0 HX.out HE.out (PP.out.hx.ext hHeld.1) HL.out).mono ?_
  rintro e u1 ⟨m, rfl, hm, hM, B1, hF⟩
  go_wp2_with fail
  refine hK.out _ _ ?_ (fun hHeld2 => ?_)
  · exact SS.out _ (ext_trans hHeld.1 B1)
  clear hHeld
  have hHeld := hHeld2
  clear hHeld2
  clear hK K
  try simp only [Act.put, List.setIfInBounds_toArray, List.set_cons_zero, List.set_cons_succ]
  refine rg_take (i := 13) (some 8) (v := ?_) rfl rfl (by kernel_rfl) (by rfl) hQ7 hHeld ?_ ?_
  rotate_left
  · intro w7 hSw; (try dsimp only at hSw); go_simp; all_goals with_reducible rfl
  try simp only [Act.put, List.setIfInBounds_toArray, List.set_cons_zero, List.set_cons_succ]
  refine rg_take (i := 14) (some 22) (v := ?_) rfl rfl (by kernel_rfl) (by rfl) hQ7 hHeld ?_ ?_
  rotate_left
  · intro w7 hSw; (try dsimp only at hSw); go_simp; all_goals with_reducible rfl
  try simp only [Act.put, List.setIfInBounds_toArray, List.set_cons_zero, List.set_cons_succ]
  refine rg_pure (i := 15) (some 23) (v := ?_) rfl rfl (by kernel_rfl) (by rfl) hQ7 (by first | exact .inr hHeld | exact .inl (by kernel_rfl)) ?_ ?_
  rotate_left
  · intro w7; go_simp; all_goals with_reducible rfl
  try simp only [Act.put, List.setIfInBounds_toArray, List.set_cons_zero, List.set_cons_succ]
  refine rg_take (i := 18) (some 26) (v := ?_) rfl rfl (by kernel_rfl) (by rfl) hQ7 hHeld ?_ ?_
  rotate_left
  · intro w7 hSw; (try dsimp only at hSw); go_simp; all_goals with_reducible rfl
  try simp only [Act.put, List.setIfInBounds_toArray, List.set_cons_zero, List.set_cons_succ]
  have PBx := PB.out.ext hHeld.1
  have gp0 := PBx.c 0 _ rfl
  have gp1 := PBx.c 1 _ rfl
  have gp2 := PBx.c 2 _ rfl
  have gp3 := PBx.c 3 _ rfl
  have gp4 := PBx.c 4 _ rfl
  have gp5 := PBx.c 5 _ rfl
  have gp6 := PBx.c 6 _ rfl
  have gp7 := PBx.c 7 _ rfl
  have gp8 := PBx.c 8 _ rfl
  have gpf := PBx.f
  have gpl := PBx.lt
  refine rg_one (i := 19) (by kernel_rfl) (rg_late rfl (by rfl) (by kernel_rfl) (fun K hK => ?_))
  go_simp
  refine hK.out _ _ ?_
  clear hK K
  try simp only [Act.put, List.setIfInBounds_toArray, List.set_cons_zero, List.set_cons_succ]
  refine rg_pure (i := 20) (some 5) (v := ?_) rfl rfl (by kernel_rfl) (by rfl) hQ7 (.inl (by kernel_rfl)) ?_ ?_
  rotate_left
  · intro w7; go_simp; all_goals with_reducible rfl
  try simp only [Act.put, List.setIfInBounds_toArray, List.set_cons_zero, List.set_cons_succ]
  refine rg_end (by kernel_rfl) (hN7 _ _ ?_) _
  clear hQ7 hN7 Q7
  have BX := hHeld.1
  clear SS
  have PP0 := PP
  replace E := Lib.hid (ext_trans E.out BX)
  replace PB := Lib.hid (PB.out.ext BX)
  replace PP := Lib.hid (PP.out.ext BX)
  replace MX := Lib.hid (MX.out.ext BX)
  clear BX
  obtain ⟨ho1, ho2⟩ := PP0.out.off0 hF
  have EP := Lib.hid (E.out.mono (Nat.le_of_lt HPL.out))
  replace PP := Lib.hid (((((PP.out.side0 hM ho1 ho2).set 0 (.int .i64 m.own)).set 1 (.int .i64 m.ot)).set 2 (.slice m.ag.A m.ag.l.length m.ag.c)).set 3 (.slice m.op.A m.op.l.length m.op.c))
  replace PB := Lib.hid (((((PB.out.set (j := 0) (by simp [Pc]) (.int .i64 m.own)).set (j := 1) (by simp [Pc]) (.int .i64 m.ot)).set (j := 2) (by simp [Pc]) (.slice m.ag.A m.ag.l.length m.ag.c)).set (j := 3) (by simp [Pc]) (.slice m.op.A m.op.l.length m.op.c)))
  replace EP := Lib.hid (below_set (below_set (below_set (below_set (EP.out) ⟨P, 0, none⟩ (.int .i64 m.own) (Nat.le_refl _)) ⟨P, 1, none⟩ (.int .i64 m.ot) (Nat.le_refl _)) ⟨P, 2, none⟩ (.slice m.ag.A m.ag.l.length m.ag.c) (Nat.le_refl _)) ⟨P, 3, none⟩ (.slice m.op.A m.op.l.length m.op.c) (Nat.le_refl _))
  clear ho1 ho2
  go_wp2_with fail
  go_ret
  exact ⟨rfl, m, y, hm, rfl, PB.out, PP.out, EP.out⟩
set_option maxHeartbeats 1600000 in
set_option maxRecDepth 100000 in
theorem deliver_h1 (x y : Bd) (A : Option Addr) (n c P : Nat) (l : List Lt) (a : Ag) (X : Bl) (w : World) (hP : Blk w P (Pc x y A n c)) (hp : PR w P x y A n c l) (hx : y.bl.heaB a = X) (he : y.bl.heaE a = 0) (hl : Lens y) :
    Calls Try.prog 29 #[.pointer (some ⟨P, 0, none⟩), .agg #[.int .i64 1, .bool false, .int .i64 a.no, .int .i64 a.f, .int .i64 a.t, .int .i64 a.m, .int .i64 a.r]] w (PsR w P A n c ⟨x.bl, X, l⟩) := by
  have HX := Lib.hid hx
  have HE := Lib.hid he
  have HL := Lib.hid hl
  clear hx he hl
  have E := Lib.hid (ext_refl w)
  have PB := Lib.hid (hP)
  have PP := Lib.hid (hp)
  have HPL := Lib.hid hp.lt
  have HLN := Lib.hid hp.hn
  clear hP hp
  replace E := Lib.hid (ext_alloc E.out (.cells #[.int .i64 1, .bool false, .int .i64 a.no, .int .i64 a.f, .int .i64 a.t, .int .i64 a.m, .int .i64 a.r] 53))
  replace PB := Lib.hid (PB.out.alloc (.cells #[.int .i64 1, .bool false, .int .i64 a.no, .int .i64 a.f, .int .i64 a.t, .int .i64 a.m, .int .i64 a.r] 53))
  replace PP := Lib.hid (PP.out.alloc (.cells #[.int .i64 1, .bool false, .int .i64 a.no, .int .i64 a.f, .int .i64 a.t, .int .i64 a.m, .int .i64 a.r] 53))
  have MX := Lib.hid (Blk.newH w [.int .i64 1, .bool false, .int .i64 a.no, .int .i64 a.f, .int .i64 a.t, .int .i64 a.m, .int .i64 a.r] 53 (w.heap.size) (by first | rfl | simp))
  go_enter Try.func29, Try.ntmps29
  have c0 := MX.out.c 1 _ rfl
  go_wp2_with fail
  have SS := Lib.hid (show ∀ w', Below (w.alloc (.cells #[.int .i64 1, .bool false, .int .i64 a.no, .int .i64 a.f, .int .i64 a.t, .int .i64 a.m, .int .i64 a.r] 53)).heap.size (w.alloc (.cells #[.int .i64 1, .bool false, .int .i64 a.no, .int .i64 a.f, .int .i64 a.t, .int .i64 a.m, .int .i64 a.r] 53)) w' → (fun w' => Below (w.alloc (.cells #[.int .i64 1, .bool false, .int .i64 a.no, .int .i64 a.f, .int .i64 a.t, .int .i64 a.m, .int .i64 a.r] 53)).heap.size (w.alloc (.cells #[.int .i64 1, .bool false, .int .i64 a.no, .int .i64 a.f, .int .i64 a.t, .int .i64 a.m, .int .i64 a.r] 53)) w' ∧ w'.cell? ⟨w.heap.size, 0, none⟩ = some (.int .i64 1) ∧ w'.cell? ⟨w.heap.size, 1, none⟩ = some (.bool false) ∧ w'.cell? ⟨w.heap.size, 2, none⟩ = some (.int .i64 a.no) ∧ w'.cell? ⟨w.heap.size, 3, none⟩ = some (.int .i64 a.f) ∧ w'.cell? ⟨w.heap.size, 4, none⟩ = some (.int .i64 a.t) ∧ w'.cell? ⟨w.heap.size, 5, none⟩ = some (.int .i64 a.m) ∧ w'.cell? ⟨w.heap.size, 6, none⟩ = some (.int .i64 a.r) ∧ w'.cell? ⟨P, 4, none⟩ = some (.int .i64 y.own) ∧ w'.cell? ⟨P, 5, none⟩ = some (.int .i64 y.ot) ∧ w'.cell? ⟨P, 6, none⟩ = some (.slice y.ag.A y.ag.l.length y.ag.c) ∧ w'.cell? ⟨P, 7, none⟩ = some (.slice y.op.A y.op.l.length y.op.c)) w' from fun w' h => ⟨h, (MX.out.ext h).c 0 _ rfl, (MX.out.ext h).c 1 _ rfl, (MX.out.ext h).c 2 _ rfl, (MX.out.ext h).c 3 _ rfl, (MX.out.ext h).c 4 _ rfl, (MX.out.ext h).c 5 _ rfl, (MX.out.ext h).c 6 _ rfl, (PB.out.ext h).c 4 _ rfl, (PB.out.ext h).c 5 _ rfl, (PB.out.ext h).c 6 _ rfl, (PB.out.ext h).c 7 _ rfl⟩)
  refine rg_begin (S := (fun w' => Below (w.alloc (.cells #[.int .i64 1, .bool false, .int .i64 a.no, .int .i64 a.f, .int .i64 a.t, .int .i64 a.m, .int .i64 a.r] 53)).heap.size (w.alloc (.cells #[.int .i64 1, .bool false, .int .i64 a.no, .int .i64 a.f, .int .i64 a.t, .int .i64 a.m, .int .i64 a.r] 53)) w' ∧ w'.cell? ⟨w.heap.size, 0, none⟩ = some (.int .i64 1) ∧ w'.cell? ⟨w.heap.size, 1, none⟩ = some (.bool false) ∧ w'.cell? ⟨w.heap.size, 2, none⟩ = some (.int .i64 a.no) ∧ w'.cell? ⟨w.heap.size, 3, none⟩ = some (.int .i64 a.f) ∧ w'.cell? ⟨w.heap.size, 4, none⟩ = some (.int .i64 a.t) ∧ w'.cell? ⟨w.heap.size, 5, none⟩ = some (.int .i64 a.m) ∧ w'.cell? ⟨w.heap.size, 6, none⟩ = some (.int .i64 a.r) ∧ w'.cell? ⟨P, 4, none⟩ = some (.int .i64 y.own) ∧ w'.cell? ⟨P, 5, none⟩ = some (.int .i64 y.ot) ∧ w'.cell? ⟨P, 6, none⟩ = some (.slice y.ag.A y.ag.l.length y.ag.c) ∧ w'.cell? ⟨P, 7, none⟩ = some (.slice y.op.A y.op.l.length y.op.c))) 19 (by kernel_rfl) (by intro d; cases d <;> intro _ _ _ _ h <;> exact h) ?_ (fun Q7 hQ7 hN7 hHeld => ?_)
  · exact SS.out _ (ext_drew (ext_refl _))
  refine rg_take (i := 0) (some 28) (v := ?_) rfl rfl (by kernel_rfl) (by rfl) hQ7 hHeld ?_ ?_
  rotate_left
  · intro w7 hSw; (try dsimp only at hSw); go_simp; all_goals with_reducible rfl
  try simp only [Act.put, List.setIfInBounds_toArray, List.set_cons_zero, List.set_cons_succ]
  refine rg_take (i := 1) (some 29) (v := ?_) rfl rfl (by kernel_rfl) (by rfl) hQ7 hHeld ?_ ?_
  rotate_left
  · intro w7 hSw; (try dsimp only at hSw); go_simp; all_goals with_reducible rfl
  try simp only [Act.put, List.setIfInBounds_toArray, List.set_cons_zero, List.set_cons_succ]
  refine rg_take (i := 2) (some 30) (v := ?_) rfl rfl (by kernel_rfl) (by rfl) hQ7 hHeld ?_ ?_
  rotate_left
  · intro w7 hSw; (try dsimp only at hSw); go_simp; all_goals with_reducible rfl
  try simp only [Act.put, List.setIfInBounds_toArray, List.set_cons_zero, List.set_cons_succ]
  refine rg_take (i := 3) (some 31) (v := ?_) rfl rfl (by kernel_rfl) (by rfl) hQ7 hHeld ?_ ?_
  rotate_left
  · intro w7 hSw; (try dsimp only at hSw); go_simp; all_goals with_reducible rfl
  try simp only [Act.put, List.setIfInBounds_toArray, List.set_cons_zero, List.set_cons_succ]
  refine rg_take (i := 4) (some 32) (v := ?_) rfl rfl (by kernel_rfl) (by rfl) hQ7 hHeld ?_ ?_
  rotate_left
  · intro w7 hSw; (try dsimp only at hSw); go_simp; all_goals with_reducible rfl
  try simp only [Act.put, List.setIfInBounds_toArray, List.set_cons_zero, List.set_cons_succ]
  refine rg_take (i := 5) (some 33) (v := ?_) rfl rfl (by kernel_rfl) (by rfl) hQ7 hHeld ?_ ?_
  rotate_left
  · intro w7 hSw; (try dsimp only at hSw); go_simp; all_goals with_reducible rfl
  try simp only [Act.put, List.setIfInBounds_toArray, List.set_cons_zero, List.set_cons_succ]
  refine rg_take (i := 6) (some 34) (v := ?_) rfl rfl (by kernel_rfl) (by rfl) hQ7 hHeld ?_ ?_
  rotate_left
  · intro w7 hSw; (try dsimp only at hSw); go_simp; all_goals with_reducible rfl
  try simp only [Act.put, List.setIfInBounds_toArray, List.set_cons_zero, List.set_cons_succ]
  refine rg_take (i := 7) (some 35) (v := ?_) rfl rfl (by kernel_rfl) (by rfl) hQ7 hHeld ?_ ?_
  rotate_left
  · intro w7 hSw; (try dsimp only at hSw); go_simp; all_goals with_reducible rfl
  try simp only [Act.put, List.setIfInBounds_toArray, List.set_cons_zero, List.set_cons_succ]
  refine rg_take (i := 8) (some 36) (v := ?_) rfl rfl (by kernel_rfl) (by rfl) hQ7 hHeld ?_ ?_
  rotate_left
  · intro w7 hSw; (try dsimp only at hSw); go_simp; all_goals with_reducible rfl
  try simp only [Act.put, List.setIfInBounds_toArray, List.set_cons_zero, List.set_cons_succ]
  refine rg_take (i := 9) (some 37) (v := ?_) rfl rfl (by kernel_rfl) (by rfl) hQ7 hHeld ?_ ?_
  rotate_left
  · intro w7 hSw; (try dsimp only at hSw); go_simp; all_goals with_reducible rfl
  try simp only [Act.put, List.setIfInBounds_toArray, List.set_cons_zero, List.set_cons_succ]
  refine rg_take (i := 10) (some 38) (v := ?_) rfl rfl (by kernel_rfl) (by rfl) hQ7 hHeld ?_ ?_
  rotate_left
  · intro w7 hSw; (try dsimp only at hSw); go_simp; all_goals with_reducible rfl
  try simp only [Act.put, List.setIfInBounds_toArray, List.set_cons_zero, List.set_cons_succ]
  refine rg_take (i := 11) (some 39) (v := ?_) rfl rfl (by kernel_rfl) (by rfl) hQ7 hHeld ?_ ?_
  rotate_left
  · intro w7 hSw; (try dsimp only at hSw); go_simp; all_goals with_reducible rfl
  try simp only [Act.put, List.setIfInBounds_toArray, List.set_cons_zero, List.set_cons_succ]
  refine rg_take (i := 16) (some 43) (v := ?_) rfl rfl (by kernel_rfl) (by rfl) hQ7 hHeld ?_ ?_
  rotate_left
  · intro w7 hSw; (try dsimp only at hSw); go_simp; all_goals with_reducible rfl
  try simp only [Act.put, List.setIfInBounds_toArray, List.set_cons_zero, List.set_cons_succ]
  refine rg_take (i := 17) (some 44) (v := ?_) rfl rfl (by kernel_rfl) (by rfl) hQ7 hHeld ?_ ?_
  rotate_left
  · intro w7 hSw; (try dsimp only at hSw); go_simp; all_goals with_reducible rfl
  try simp only [Act.put, List.setIfInBounds_toArray, List.set_cons_zero, List.set_cons_succ]
  refine rg_one (i := 12) (by kernel_rfl) (rg_step rfl (by rfl) (fun K hK => ?_))
  go_simp
  refine (hear_at (b := y) (a := a) X 0 HX.out HE.out (PP.out.hy.ext hHeld.1) HL.out).mono ?_
  rintro e u1 ⟨m, rfl, hm, hM, B1, hF⟩
  go_wp2_with fail
  refine hK.out _ _ ?_ (fun hHeld2 => ?_)
  · exact SS.out _ (ext_trans hHeld.1 B1)
  clear hHeld
  have hHeld := hHeld2
  clear hHeld2
  clear hK K
  try simp only [Act.put, List.setIfInBounds_toArray, List.set_cons_zero, List.set_cons_succ]
  refine rg_take (i := 13) (some 27) (v := ?_) rfl rfl (by kernel_rfl) (by rfl) hQ7 hHeld ?_ ?_
  rotate_left
  · intro w7 hSw; (try dsimp only at hSw); go_simp; all_goals with_reducible rfl
  try simp only [Act.put, List.setIfInBounds_toArray, List.set_cons_zero, List.set_cons_succ]
  refine rg_take (i := 14) (some 41) (v := ?_) rfl rfl (by kernel_rfl) (by rfl) hQ7 hHeld ?_ ?_
  rotate_left
  · intro w7 hSw; (try dsimp only at hSw); go_simp; all_goals with_reducible rfl
  try simp only [Act.put, List.setIfInBounds_toArray, List.set_cons_zero, List.set_cons_succ]
  refine rg_pure (i := 15) (some 42) (v := ?_) rfl rfl (by kernel_rfl) (by rfl) hQ7 (by first | exact .inr hHeld | exact .inl (by kernel_rfl)) ?_ ?_
  rotate_left
  · intro w7; go_simp; all_goals with_reducible rfl
  try simp only [Act.put, List.setIfInBounds_toArray, List.set_cons_zero, List.set_cons_succ]
  refine rg_take (i := 18) (some 45) (v := ?_) rfl rfl (by kernel_rfl) (by rfl) hQ7 hHeld ?_ ?_
  rotate_left
  · intro w7 hSw; (try dsimp only at hSw); go_simp; all_goals with_reducible rfl
  try simp only [Act.put, List.setIfInBounds_toArray, List.set_cons_zero, List.set_cons_succ]
  have PBx := PB.out.ext hHeld.1
  have gp0 := PBx.c 0 _ rfl
  have gp1 := PBx.c 1 _ rfl
  have gp2 := PBx.c 2 _ rfl
  have gp3 := PBx.c 3 _ rfl
  have gp4 := PBx.c 4 _ rfl
  have gp5 := PBx.c 5 _ rfl
  have gp6 := PBx.c 6 _ rfl
  have gp7 := PBx.c 7 _ rfl
  have gp8 := PBx.c 8 _ rfl
  have gpf := PBx.f
  have gpl := PBx.lt
  refine rg_one (i := 19) (by kernel_rfl) (rg_late rfl (by rfl) (by kernel_rfl) (fun K hK => ?_))
  go_simp
  refine hK.out _ _ ?_
  clear hK K
  try simp only [Act.put, List.setIfInBounds_toArray, List.set_cons_zero, List.set_cons_succ]
  refine rg_pure (i := 20) (some 5) (v := ?_) rfl rfl (by kernel_rfl) (by rfl) hQ7 (.inl (by kernel_rfl)) ?_ ?_
  rotate_left
  · intro w7; go_simp; all_goals with_reducible rfl
  try simp only [Act.put, List.setIfInBounds_toArray, List.set_cons_zero, List.set_cons_succ]
  refine rg_end (by kernel_rfl) (hN7 _ _ ?_) _
  clear hQ7 hN7 Q7
  have BX := hHeld.1
  clear SS
  have PP0 := PP
  replace E := Lib.hid (ext_trans E.out BX)
  replace PB := Lib.hid (PB.out.ext BX)
  replace PP := Lib.hid (PP.out.ext BX)
  replace MX := Lib.hid (MX.out.ext BX)
  clear BX
  obtain ⟨ho1, ho2⟩ := PP0.out.off1 hF
  have EP := Lib.hid (E.out.mono (Nat.le_of_lt HPL.out))
  replace PP := Lib.hid (((((PP.out.side1 hM ho1 ho2).set 4 (.int .i64 m.own)).set 5 (.int .i64 m.ot)).set 6 (.slice m.ag.A m.ag.l.length m.ag.c)).set 7 (.slice m.op.A m.op.l.length m.op.c))
  replace PB := Lib.hid (((((PB.out.set (j := 4) (by simp [Pc]) (.int .i64 m.own)).set (j := 5) (by simp [Pc]) (.int .i64 m.ot)).set (j := 6) (by simp [Pc]) (.slice m.ag.A m.ag.l.length m.ag.c)).set (j := 7) (by simp [Pc]) (.slice m.op.A m.op.l.length m.op.c)))
  replace EP := Lib.hid (below_set (below_set (below_set (below_set (EP.out) ⟨P, 4, none⟩ (.int .i64 m.own) (Nat.le_refl _)) ⟨P, 5, none⟩ (.int .i64 m.ot) (Nat.le_refl _)) ⟨P, 6, none⟩ (.slice m.ag.A m.ag.l.length m.ag.c) (Nat.le_refl _)) ⟨P, 7, none⟩ (.slice m.op.A m.op.l.length m.op.c) (Nat.le_refl _))
  clear ho1 ho2
  go_wp2_with fail
  go_ret
  exact ⟨rfl, x, m, rfl, hm, PB.out, PP.out, EP.out⟩
set_option maxHeartbeats 1600000 in
set_option maxRecDepth 100000 in
theorem deliver_o1 (x y : Bd) (A : Option Addr) (n c P : Nat) (l : List Lt) (a : Ag) (X : Bl) (w : World) (hP : Blk w P (Pc x y A n c)) (hp : PR w P x y A n c l) (hx : y.bl.conB a = X) (he : y.bl.conE a = 0) (hl : Lens y) :
    Calls Try.prog 29 #[.pointer (some ⟨P, 0, none⟩), .agg #[.int .i64 1, .bool true, .int .i64 a.no, .int .i64 a.f, .int .i64 a.t, .int .i64 a.m, .int .i64 a.r]] w (PsR w P A n c ⟨x.bl, X, l⟩) := by
  have HX := Lib.hid hx
  have HE := Lib.hid he
  have HL := Lib.hid hl
  clear hx he hl
  have E := Lib.hid (ext_refl w)
  have PB := Lib.hid (hP)
  have PP := Lib.hid (hp)
  have HPL := Lib.hid hp.lt
  have HLN := Lib.hid hp.hn
  clear hP hp
  replace E := Lib.hid (ext_alloc E.out (.cells #[.int .i64 1, .bool true, .int .i64 a.no, .int .i64 a.f, .int .i64 a.t, .int .i64 a.m, .int .i64 a.r] 53))
  replace PB := Lib.hid (PB.out.alloc (.cells #[.int .i64 1, .bool true, .int .i64 a.no, .int .i64 a.f, .int .i64 a.t, .int .i64 a.m, .int .i64 a.r] 53))
  replace PP := Lib.hid (PP.out.alloc (.cells #[.int .i64 1, .bool true, .int .i64 a.no, .int .i64 a.f, .int .i64 a.t, .int .i64 a.m, .int .i64 a.r] 53))
  have MX := Lib.hid (Blk.newH w [.int .i64 1, .bool true, .int .i64 a.no, .int .i64 a.f, .int .i64 a.t, .int .i64 a.m, .int .i64 a.r] 53 (w.heap.size) (by first | rfl | simp))
  go_enter Try.func29, Try.ntmps29
  have c0 := MX.out.c 1 _ rfl
  go_wp2_with fail
  have SS := Lib.hid (show ∀ w', Below (w.alloc (.cells #[.int .i64 1, .bool true, .int .i64 a.no, .int .i64 a.f, .int .i64 a.t, .int .i64 a.m, .int .i64 a.r] 53)).heap.size (w.alloc (.cells #[.int .i64 1, .bool true, .int .i64 a.no, .int .i64 a.f, .int .i64 a.t, .int .i64 a.m, .int .i64 a.r] 53)) w' → (fun w' => Below (w.alloc (.cells #[.int .i64 1, .bool true, .int .i64 a.no, .int .i64 a.f, .int .i64 a.t, .int .i64 a.m, .int .i64 a.r] 53)).heap.size (w.alloc (.cells #[.int .i64 1, .bool true, .int .i64 a.no, .int .i64 a.f, .int .i64 a.t, .int .i64 a.m, .int .i64 a.r] 53)) w' ∧ w'.cell? ⟨w.heap.size, 0, none⟩ = some (.int .i64 1) ∧ w'.cell? ⟨w.heap.size, 1, none⟩ = some (.bool true) ∧ w'.cell? ⟨w.heap.size, 2, none⟩ = some (.int .i64 a.no) ∧ w'.cell? ⟨w.heap.size, 3, none⟩ = some (.int .i64 a.f) ∧ w'.cell? ⟨w.heap.size, 4, none⟩ = some (.int .i64 a.t) ∧ w'.cell? ⟨w.heap.size, 5, none⟩ = some (.int .i64 a.m) ∧ w'.cell? ⟨w.heap.size, 6, none⟩ = some (.int .i64 a.r) ∧ w'.cell? ⟨P, 4, none⟩ = some (.int .i64 y.own) ∧ w'.cell? ⟨P, 5, none⟩ = some (.int .i64 y.ot) ∧ w'.cell? ⟨P, 6, none⟩ = some (.slice y.ag.A y.ag.l.length y.ag.c) ∧ w'.cell? ⟨P, 7, none⟩ = some (.slice y.op.A y.op.l.length y.op.c)) w' from fun w' h => ⟨h, (MX.out.ext h).c 0 _ rfl, (MX.out.ext h).c 1 _ rfl, (MX.out.ext h).c 2 _ rfl, (MX.out.ext h).c 3 _ rfl, (MX.out.ext h).c 4 _ rfl, (MX.out.ext h).c 5 _ rfl, (MX.out.ext h).c 6 _ rfl, (PB.out.ext h).c 4 _ rfl, (PB.out.ext h).c 5 _ rfl, (PB.out.ext h).c 6 _ rfl, (PB.out.ext h).c 7 _ rfl⟩)
  refine rg_begin (S := (fun w' => Below (w.alloc (.cells #[.int .i64 1, .bool true, .int .i64 a.no, .int .i64 a.f, .int .i64 a.t, .int .i64 a.m, .int .i64 a.r] 53)).heap.size (w.alloc (.cells #[.int .i64 1, .bool true, .int .i64 a.no, .int .i64 a.f, .int .i64 a.t, .int .i64 a.m, .int .i64 a.r] 53)) w' ∧ w'.cell? ⟨w.heap.size, 0, none⟩ = some (.int .i64 1) ∧ w'.cell? ⟨w.heap.size, 1, none⟩ = some (.bool true) ∧ w'.cell? ⟨w.heap.size, 2, none⟩ = some (.int .i64 a.no) ∧ w'.cell? ⟨w.heap.size, 3, none⟩ = some (.int .i64 a.f) ∧ w'.cell? ⟨w.heap.size, 4, none⟩ = some (.int .i64 a.t) ∧ w'.cell? ⟨w.heap.size, 5, none⟩ = some (.int .i64 a.m) ∧ w'.cell? ⟨w.heap.size, 6, none⟩ = some (.int .i64 a.r) ∧ w'.cell? ⟨P, 4, none⟩ = some (.int .i64 y.own) ∧ w'.cell? ⟨P, 5, none⟩ = some (.int .i64 y.ot) ∧ w'.cell? ⟨P, 6, none⟩ = some (.slice y.ag.A y.ag.l.length y.ag.c) ∧ w'.cell? ⟨P, 7, none⟩ = some (.slice y.op.A y.op.l.length y.op.c))) 19 (by kernel_rfl) (by intro d; cases d <;> intro _ _ _ _ h <;> exact h) ?_ (fun Q7 hQ7 hN7 hHeld => ?_)
  · exact SS.out _ (ext_drew (ext_refl _))
  refine rg_take (i := 0) (some 9) (v := ?_) rfl rfl (by kernel_rfl) (by rfl) hQ7 hHeld ?_ ?_
  rotate_left
  · intro w7 hSw; (try dsimp only at hSw); go_simp; all_goals with_reducible rfl
  try simp only [Act.put, List.setIfInBounds_toArray, List.set_cons_zero, List.set_cons_succ]
  refine rg_take (i := 1) (some 10) (v := ?_) rfl rfl (by kernel_rfl) (by rfl) hQ7 hHeld ?_ ?_
  rotate_left
  · intro w7 hSw; (try dsimp only at hSw); go_simp; all_goals with_reducible rfl
  try simp only [Act.put, List.setIfInBounds_toArray, List.set_cons_zero, List.set_cons_succ]
  refine rg_take (i := 2) (some 11) (v := ?_) rfl rfl (by kernel_rfl) (by rfl) hQ7 hHeld ?_ ?_
  rotate_left
  · intro w7 hSw; (try dsimp only at hSw); go_simp; all_goals with_reducible rfl
  try simp only [Act.put, List.setIfInBounds_toArray, List.set_cons_zero, List.set_cons_succ]
  refine rg_take (i := 3) (some 12) (v := ?_) rfl rfl (by kernel_rfl) (by rfl) hQ7 hHeld ?_ ?_
  rotate_left
  · intro w7 hSw; (try dsimp only at hSw); go_simp; all_goals with_reducible rfl
  try simp only [Act.put, List.setIfInBounds_toArray, List.set_cons_zero, List.set_cons_succ]
  refine rg_take (i := 4) (some 13) (v := ?_) rfl rfl (by kernel_rfl) (by rfl) hQ7 hHeld ?_ ?_
  rotate_left
  · intro w7 hSw; (try dsimp only at hSw); go_simp; all_goals with_reducible rfl
  try simp only [Act.put, List.setIfInBounds_toArray, List.set_cons_zero, List.set_cons_succ]
  refine rg_take (i := 5) (some 14) (v := ?_) rfl rfl (by kernel_rfl) (by rfl) hQ7 hHeld ?_ ?_
  rotate_left
  · intro w7 hSw; (try dsimp only at hSw); go_simp; all_goals with_reducible rfl
  try simp only [Act.put, List.setIfInBounds_toArray, List.set_cons_zero, List.set_cons_succ]
  refine rg_take (i := 6) (some 15) (v := ?_) rfl rfl (by kernel_rfl) (by rfl) hQ7 hHeld ?_ ?_
  rotate_left
  · intro w7 hSw; (try dsimp only at hSw); go_simp; all_goals with_reducible rfl
  try simp only [Act.put, List.setIfInBounds_toArray, List.set_cons_zero, List.set_cons_succ]
  refine rg_take (i := 7) (some 16) (v := ?_) rfl rfl (by kernel_rfl) (by rfl) hQ7 hHeld ?_ ?_
  rotate_left
  · intro w7 hSw; (try dsimp only at hSw); go_simp; all_goals with_reducible rfl
  try simp only [Act.put, List.setIfInBounds_toArray, List.set_cons_zero, List.set_cons_succ]
  refine rg_take (i := 8) (some 17) (v := ?_) rfl rfl (by kernel_rfl) (by rfl) hQ7 hHeld ?_ ?_
  rotate_left
  · intro w7 hSw; (try dsimp only at hSw); go_simp; all_goals with_reducible rfl
  try simp only [Act.put, List.setIfInBounds_toArray, List.set_cons_zero, List.set_cons_succ]
  refine rg_take (i := 9) (some 18) (v := ?_) rfl rfl (by kernel_rfl) (by rfl) hQ7 hHeld ?_ ?_
  rotate_left
  · intro w7 hSw; (try dsimp only at hSw); go_simp; all_goals with_reducible rfl
  try simp only [Act.put, List.setIfInBounds_toArray, List.set_cons_zero, List.set_cons_succ]
  refine rg_take (i := 10) (some 19) (v := ?_) rfl rfl (by kernel_rfl) (by rfl) hQ7 hHeld ?_ ?_
  rotate_left
  · intro w7 hSw; (try dsimp only at hSw); go_simp; all_goals with_reducible rfl
  try simp only [Act.put, List.setIfInBounds_toArray, List.set_cons_zero, List.set_cons_succ]
  refine rg_take (i := 11) (some 20) (v := ?_) rfl rfl (by kernel_rfl) (by rfl) hQ7 hHeld ?_ ?_
  rotate_left
  · intro w7 hSw; (try dsimp only at hSw); go_simp; all_goals with_reducible rfl
  try simp only [Act.put, List.setIfInBounds_toArray, List.set_cons_zero, List.set_cons_succ]
  refine rg_take (i := 16) (some 24) (v := ?_) rfl rfl (by kernel_rfl) (by rfl) hQ7 hHeld ?_ ?_
  rotate_left
  · intro w7 hSw; (try dsimp only at hSw); go_simp; all_goals with_reducible rfl
  try simp only [Act.put, List.setIfInBounds_toArray, List.set_cons_zero, List.set_cons_succ]
  refine rg_take (i := 17) (some 25) (v := ?_) rfl rfl (by kernel_rfl) (by rfl) hQ7 hHeld ?_ ?_
  rotate_left
  · intro w7 hSw; (try dsimp only at hSw); go_simp; all_goals with_reducible rfl
  try simp only [Act.put, List.setIfInBounds_toArray, List.set_cons_zero, List.set_cons_succ]
  refine rg_one (i := 12) (by kernel_rfl) (rg_step rfl (by rfl) (fun K hK => ?_))
  go_simp
  refine (confirm_at (b := y) (a := a) X 0 HX.out HE.out (PP.out.hy.ext hHeld.1) HL.out).mono ?_
  rintro e u1 ⟨m, rfl, hm, hM, B1, hF⟩
  go_wp2_with fail
  refine hK.out _ _ ?_ (fun hHeld2 => ?_)
  · exact SS.out _ (ext_trans hHeld.1 B1)
  clear hHeld
  have hHeld := hHeld2
  clear hHeld2
  clear hK K
  try simp only [Act.put, List.setIfInBounds_toArray, List.set_cons_zero, List.set_cons_succ]
  refine rg_take (i := 13) (some 8) (v := ?_) rfl rfl (by kernel_rfl) (by rfl) hQ7 hHeld ?_ ?_
  rotate_left
  · intro w7 hSw; (try dsimp only at hSw); go_simp; all_goals with_reducible rfl
  try simp only [Act.put, List.setIfInBounds_toArray, List.set_cons_zero, List.set_cons_succ]
  refine rg_take (i := 14) (some 22) (v := ?_) rfl rfl (by kernel_rfl) (by rfl) hQ7 hHeld ?_ ?_
  rotate_left
  · intro w7 hSw; (try dsimp only at hSw); go_simp; all_goals with_reducible rfl
  try simp only [Act.put, List.setIfInBounds_toArray, List.set_cons_zero, List.set_cons_succ]
  refine rg_pure (i := 15) (some 23) (v := ?_) rfl rfl (by kernel_rfl) (by rfl) hQ7 (by first | exact .inr hHeld | exact .inl (by kernel_rfl)) ?_ ?_
  rotate_left
  · intro w7; go_simp; all_goals with_reducible rfl
  try simp only [Act.put, List.setIfInBounds_toArray, List.set_cons_zero, List.set_cons_succ]
  refine rg_take (i := 18) (some 26) (v := ?_) rfl rfl (by kernel_rfl) (by rfl) hQ7 hHeld ?_ ?_
  rotate_left
  · intro w7 hSw; (try dsimp only at hSw); go_simp; all_goals with_reducible rfl
  try simp only [Act.put, List.setIfInBounds_toArray, List.set_cons_zero, List.set_cons_succ]
  have PBx := PB.out.ext hHeld.1
  have gp0 := PBx.c 0 _ rfl
  have gp1 := PBx.c 1 _ rfl
  have gp2 := PBx.c 2 _ rfl
  have gp3 := PBx.c 3 _ rfl
  have gp4 := PBx.c 4 _ rfl
  have gp5 := PBx.c 5 _ rfl
  have gp6 := PBx.c 6 _ rfl
  have gp7 := PBx.c 7 _ rfl
  have gp8 := PBx.c 8 _ rfl
  have gpf := PBx.f
  have gpl := PBx.lt
  refine rg_one (i := 19) (by kernel_rfl) (rg_late rfl (by rfl) (by kernel_rfl) (fun K hK => ?_))
  go_simp
  refine hK.out _ _ ?_
  clear hK K
  try simp only [Act.put, List.setIfInBounds_toArray, List.set_cons_zero, List.set_cons_succ]
  refine rg_pure (i := 20) (some 5) (v := ?_) rfl rfl (by kernel_rfl) (by rfl) hQ7 (.inl (by kernel_rfl)) ?_ ?_
  rotate_left
  · intro w7; go_simp; all_goals with_reducible rfl
  try simp only [Act.put, List.setIfInBounds_toArray, List.set_cons_zero, List.set_cons_succ]
  refine rg_end (by kernel_rfl) (hN7 _ _ ?_) _
  clear hQ7 hN7 Q7
  have BX := hHeld.1
  clear SS
  have PP0 := PP
  replace E := Lib.hid (ext_trans E.out BX)
  replace PB := Lib.hid (PB.out.ext BX)
  replace PP := Lib.hid (PP.out.ext BX)
  replace MX := Lib.hid (MX.out.ext BX)
  clear BX
  obtain ⟨ho1, ho2⟩ := PP0.out.off1 hF
  have EP := Lib.hid (E.out.mono (Nat.le_of_lt HPL.out))
  replace PP := Lib.hid (((((PP.out.side1 hM ho1 ho2).set 4 (.int .i64 m.own)).set 5 (.int .i64 m.ot)).set 6 (.slice m.ag.A m.ag.l.length m.ag.c)).set 7 (.slice m.op.A m.op.l.length m.op.c))
  replace PB := Lib.hid (((((PB.out.set (j := 4) (by simp [Pc]) (.int .i64 m.own)).set (j := 5) (by simp [Pc]) (.int .i64 m.ot)).set (j := 6) (by simp [Pc]) (.slice m.ag.A m.ag.l.length m.ag.c)).set (j := 7) (by simp [Pc]) (.slice m.op.A m.op.l.length m.op.c)))
  replace EP := Lib.hid (below_set (below_set (below_set (below_set (EP.out) ⟨P, 4, none⟩ (.int .i64 m.own) (Nat.le_refl _)) ⟨P, 5, none⟩ (.int .i64 m.ot) (Nat.le_refl _)) ⟨P, 6, none⟩ (.slice m.ag.A m.ag.l.length m.ag.c) (Nat.le_refl _)) ⟨P, 7, none⟩ (.slice m.op.A m.op.l.length m.op.c) (Nat.le_refl _))
  clear ho1 ho2
  go_wp2_with fail
  go_ret
  exact ⟨rfl, x, m, rfl, hm, PB.out, PP.out, EP.out⟩
end Go.Proofs.Ytmnbeikhjbjpiaa
