/- Contracts: a step of the script. -/
import Derived.Test.YtmnbeikhjbjpiaaT3
set_option linter.unusedSimpArgs false
set_option linter.unusedVariables false
namespace Go.Proofs.Ytmnbeikhjbjpiaa
open Go.RowKit
set_option maxHeartbeats 1600000 in
set_option maxRecDepth 100000 in
theorem step_00t (x y : Bd) (A : Option Addr) (n c P L : Nat) (l : List Lt) (sk ssi sn : Int) (mi ra : Int) (w : World) (hP : Blk w P (Pc x y A n c)) (hp : PR w P x y A n c l) (h2 : Two ⟨x.bl, y.bl, l⟩) (hlx : LenS L x.bl) (hly : LenS L y.bl) (hL : L ≤ 900) (hn : n ≤ 900) (hk0 : 0 ≤ sk ∧ sk < 256) (hs0 : 0 ≤ ssi ∧ ssi < 256) (hn0 : 0 ≤ sn ∧ sn < 256) (hsi : ssi.tmod 2 = 0) (hsk : sk.tmod 4 = 0) :
    Calls Try.prog 27 #[.pointer (some ⟨P, 0, none⟩), .agg #[.int .u8 sk, .int .u8 ssi, .int .u8 sn, .bool true, .int .i64 mi, .int .i64 ra]] w (Went w P L n) := by
  have H2 := Lib.hid h2
  have LX := Lib.hid hlx
  have LY := Lib.hid hly
  have HL := Lib.hid hL
  have HN := Lib.hid (show n ≤ 1000 by omega)
  have ks : IntKind.i64.wrap ssi = ssi := IntWalk.i64_in _ (by omega)
  have kn : IntKind.i64.wrap sn = sn := IntWalk.i64_in _ (by omega)
  have HN0 := Lib.hid hn0
  clear h2 hlx hly hL hn hk0 hs0 hn0
  have E := Lib.hid (ext_refl w)
  have PB := Lib.hid (hP)
  have PP := Lib.hid (hp)
  have HPL := Lib.hid hp.lt
  have HLN := Lib.hid hp.hn
  clear hP hp
  replace E := Lib.hid (ext_alloc E.out (.cells #[.int .u8 sk, .int .u8 ssi, .int .u8 sn, .bool true, .int .i64 mi, .int .i64 ra] 50))
  replace PB := Lib.hid (PB.out.alloc (.cells #[.int .u8 sk, .int .u8 ssi, .int .u8 sn, .bool true, .int .i64 mi, .int .i64 ra] 50))
  replace PP := Lib.hid (PP.out.alloc (.cells #[.int .u8 sk, .int .u8 ssi, .int .u8 sn, .bool true, .int .i64 mi, .int .i64 ra] 50))
  have SX := Lib.hid (Blk.newH w [.int .u8 sk, .int .u8 ssi, .int .u8 sn, .bool true, .int .i64 mi, .int .i64 ra] 50 (w.heap.size) (by first | rfl | simp))
  go_enter Try.func27, Try.ntmps27
  have pb0 := PB.out.c 0 _ rfl
  have pb1 := PB.out.c 1 _ rfl
  have pb2 := PB.out.c 2 _ rfl
  have pb3 := PB.out.c 3 _ rfl
  have pb4 := PB.out.c 4 _ rfl
  have pb5 := PB.out.c 5 _ rfl
  have pb6 := PB.out.c 6 _ rfl
  have pb7 := PB.out.c 7 _ rfl
  have pb8 := PB.out.c 8 _ rfl
  have pbf := PB.out.f
  have pbl := PB.out.lt
  have sx0 := SX.out.c 0 _ rfl
  have sx1 := SX.out.c 1 _ rfl
  have sx2 := SX.out.c 2 _ rfl
  have sx3 := SX.out.c 3 _ rfl
  have sx4 := SX.out.c 4 _ rfl
  have sx5 := SX.out.c 5 _ rfl
  have sxf := SX.out.f
  have sxl := SX.out.lt
  go_wp2_with fail
  clear pb0 pb1 pb2 pb3 pb4 pb5 pb6 pb7 pb8 pbf pbl sx0 sx1 sx2 sx3 sx4 sx5 sxf sxl
  replace E := Lib.hid (ext_alloc E.out (.cells #[.int .i64 x.own, .int .i64 x.ot, .slice x.ag.A x.ag.l.length x.ag.c, .slice x.op.A x.op.l.length x.op.c] 24))
  replace PB := Lib.hid (PB.out.alloc (.cells #[.int .i64 x.own, .int .i64 x.ot, .slice x.ag.A x.ag.l.length x.ag.c, .slice x.op.A x.op.l.length x.op.c] 24))
  replace PP := Lib.hid (PP.out.alloc (.cells #[.int .i64 x.own, .int .i64 x.ot, .slice x.ag.A x.ag.l.length x.ag.c, .slice x.op.A x.op.l.length x.op.c] 24))
  replace SX := Lib.hid (SX.out.alloc (.cells #[.int .i64 x.own, .int .i64 x.ot, .slice x.ag.A x.ag.l.length x.ag.c, .slice x.op.A x.op.l.length x.op.c] 24))
  have BB := Lib.hid (Blk.newH (w.alloc (.cells #[.int .u8 sk, .int .u8 ssi, .int .u8 sn, .bool true, .int .i64 mi, .int .i64 ra] 50)) [.int .i64 x.own, .int .i64 x.ot, .slice x.ag.A x.ag.l.length x.ag.c, .slice x.op.A x.op.l.length x.op.c] 24 (w.heap.size + 1) (by first | rfl | simp))
  have SS := Lib.hid (show ∀ w', Below ((w.alloc (.cells #[.int .u8 sk, .int .u8 ssi, .int .u8 sn, .bool true, .int .i64 mi, .int .i64 ra] 50)).alloc (.cells #[.int .i64 x.own, .int .i64 x.ot, .slice x.ag.A x.ag.l.length x.ag.c, .slice x.op.A x.op.l.length x.op.c] 24)).heap.size ((w.alloc (.cells #[.int .u8 sk, .int .u8 ssi, .int .u8 sn, .bool true, .int .i64 mi, .int .i64 ra] 50)).alloc (.cells #[.int .i64 x.own, .int .i64 x.ot, .slice x.ag.A x.ag.l.length x.ag.c, .slice x.op.A x.op.l.length x.op.c] 24)) w' → (fun w' => Below ((w.alloc (.cells #[.int .u8 sk, .int .u8 ssi, .int .u8 sn, .bool true, .int .i64 mi, .int .i64 ra] 50)).alloc (.cells #[.int .i64 x.own, .int .i64 x.ot, .slice x.ag.A x.ag.l.length x.ag.c, .slice x.op.A x.op.l.length x.op.c] 24)).heap.size ((w.alloc (.cells #[.int .u8 sk, .int .u8 ssi, .int .u8 sn, .bool true, .int .i64 mi, .int .i64 ra] 50)).alloc (.cells #[.int .i64 x.own, .int .i64 x.ot, .slice x.ag.A x.ag.l.length x.ag.c, .slice x.op.A x.op.l.length x.op.c] 24)) w' ∧ w'.cell? ⟨w.heap.size + 1, 0, none⟩ = some (.int .i64 x.own) ∧ w'.cell? ⟨w.heap.size + 1, 1, none⟩ = some (.int .i64 x.ot)) w' from fun w' h => ⟨h, (BB.out.ext h).c 0 _ rfl, (BB.out.ext h).c 1 _ rfl⟩)
  refine rg_begin (S := (fun w' => Below ((w.alloc (.cells #[.int .u8 sk, .int .u8 ssi, .int .u8 sn, .bool true, .int .i64 mi, .int .i64 ra] 50)).alloc (.cells #[.int .i64 x.own, .int .i64 x.ot, .slice x.ag.A x.ag.l.length x.ag.c, .slice x.op.A x.op.l.length x.op.c] 24)).heap.size ((w.alloc (.cells #[.int .u8 sk, .int .u8 ssi, .int .u8 sn, .bool true, .int .i64 mi, .int .i64 ra] 50)).alloc (.cells #[.int .i64 x.own, .int .i64 x.ot, .slice x.ag.A x.ag.l.length x.ag.c, .slice x.op.A x.op.l.length x.op.c] 24)) w' ∧ w'.cell? ⟨w.heap.size + 1, 0, none⟩ = some (.int .i64 x.own) ∧ w'.cell? ⟨w.heap.size + 1, 1, none⟩ = some (.int .i64 x.ot))) 6 (by kernel_rfl) (by intro d; cases d <;> intro _ _ _ _ h <;> exact h) ?_ (fun Q7 hQ7 hN7 hHeld => ?_)
  · exact SS.out _ (ext_drew (ext_refl _))
  refine rg_take (i := 0) (some 50) (v := ?_) rfl rfl (by kernel_rfl) (by rfl) hQ7 hHeld ?_ ?_
  rotate_left
  · intro w7 hSw; (try dsimp only at hSw); go_simp; all_goals with_reducible rfl
  try simp only [Act.put, List.setIfInBounds_toArray, List.set_cons_zero, List.set_cons_succ]
  refine rg_take (i := 1) (some 51) (v := ?_) rfl rfl (by kernel_rfl) (by rfl) hQ7 hHeld ?_ ?_
  rotate_left
  · intro w7 hSw; (try dsimp only at hSw); go_simp; all_goals with_reducible rfl
  try simp only [Act.put, List.setIfInBounds_toArray, List.set_cons_zero, List.set_cons_succ]
  refine rg_take (i := 2) (some 52) (v := ?_) rfl rfl (by kernel_rfl) (by rfl) hQ7 hHeld ?_ ?_
  rotate_left
  · intro w7 hSw; (try dsimp only at hSw); go_simp; all_goals with_reducible rfl
  try simp only [Act.put, List.setIfInBounds_toArray, List.set_cons_zero, List.set_cons_succ]
  refine rg_take (i := 3) (some 53) (v := ?_) rfl rfl (by kernel_rfl) (by rfl) hQ7 hHeld ?_ ?_
  rotate_left
  · intro w7 hSw; (try dsimp only at hSw); go_simp; all_goals with_reducible rfl
  try simp only [Act.put, List.setIfInBounds_toArray, List.set_cons_zero, List.set_cons_succ]
  refine rg_take (i := 4) (some 7) (v := ?_) rfl rfl (by kernel_rfl) (by rfl) hQ7 hHeld ?_ ?_
  rotate_left
  · intro w7 hSw; (try dsimp only at hSw); go_simp; all_goals with_reducible rfl
  try simp only [Act.put, List.setIfInBounds_toArray, List.set_cons_zero, List.set_cons_succ]
  refine rg_take (i := 5) (some 8) (v := ?_) rfl rfl (by kernel_rfl) (by rfl) hQ7 hHeld ?_ ?_
  rotate_left
  · intro w7 hSw; (try dsimp only at hSw); go_simp; all_goals with_reducible rfl
  try simp only [Act.put, List.setIfInBounds_toArray, List.set_cons_zero, List.set_cons_succ]
  refine rg_end (by kernel_rfl) (hN7 _ _ ?_) _
  clear hQ7 hN7 Q7
  have BX := hHeld.1
  clear SS
  replace E := Lib.hid (ext_trans E.out BX)
  replace PB := Lib.hid (PB.out.ext BX)
  replace PP := Lib.hid (PP.out.ext BX)
  replace SX := Lib.hid (SX.out.ext BX)
  replace BB := Lib.hid (BB.out.ext BX)
  clear BX
  obtain ⟨z9, hNz9⟩ : ∃ W0, W0 = ((w.alloc (.cells #[.int .u8 sk, .int .u8 ssi, .int .u8 sn, .bool true, .int .i64 mi, .int .i64 ra] 50)).alloc (.cells #[.int .i64 x.own, .int .i64 x.ot, .slice x.ag.A x.ag.l.length x.ag.c, .slice x.op.A x.op.l.length x.op.c] 24)).drew := ⟨_, rfl⟩
  rw [← hNz9] at E PB PP SX BB ⊢
  clear hNz9
  obtain ⟨E0, hE0⟩ : ∃ e, x.bl.offE x.ot x.own mi ra = e := ⟨_, rfl⟩
  obtain ⟨A0, hA0⟩ : ∃ e, x.bl.offX x.ot x.own mi ra = e := ⟨_, rfl⟩
  have HE0 := Lib.hid hE0
  have HA0 := Lib.hid hA0
  clear hE0 hA0
  have PP0 := PP
  have c0 := BB.out.c 0 _ rfl
  have c1 := BB.out.c 1 _ rfl
  have c2 := BB.out.c 2 _ rfl
  have c3 := BB.out.c 3 _ rfl
  have c4 := SX.out.c 3 _ rfl
  have c5 := SX.out.c 4 _ rfl
  have c6 := SX.out.c 5 _ rfl
  go_wp2_with fail
  refine (offer_at (b := x) (f := x.ot) (t := x.own) (m := mi) (r := ra) _ A0 E0 rfl HA0.out HE0.out PP.out.hx (LX.out.lens (by have := HL.out; omega))).mono ?_
  rintro e v1 ⟨m, rfl, hm, hM, B, hF⟩
  clear c0 c1 c2 c3 c4 c5 c6
  replace E := Lib.hid (ext_trans E.out B)
  replace PB := Lib.hid (PB.out.ext B)
  replace PP := Lib.hid (PP.out.ext B)
  replace SX := Lib.hid (SX.out.ext B)
  replace BB := Lib.hid (BB.out.ext B)
  clear B
  have HM := Lib.hid hm
  have HK := Lib.hid hM
  have HF := Lib.hid hF
  clear hm hM hF
  have HS := Lib.hid (show P < v1.heap.size from PP.out.lt)
  have HNE := Lib.hid (show some (v1.heap.size + 1) ≠ (Value.slice A n c).ownBlock from fun e => by have := (PP.out.own.lt _ e.symm).1; omega)
  have XX := HNE
  replace E := Lib.hid (ext_alloc E.out (.cells #[.int .i64 m.own, .int .i64 m.ot, .slice m.ag.A m.ag.l.length m.ag.c, .slice m.op.A m.op.l.length m.op.c] 24))
  replace PB := Lib.hid (PB.out.alloc (.cells #[.int .i64 m.own, .int .i64 m.ot, .slice m.ag.A m.ag.l.length m.ag.c, .slice m.op.A m.op.l.length m.op.c] 24))
  replace PP := Lib.hid (PP.out.alloc (.cells #[.int .i64 m.own, .int .i64 m.ot, .slice m.ag.A m.ag.l.length m.ag.c, .slice m.op.A m.op.l.length m.op.c] 24))
  replace SX := Lib.hid (SX.out.alloc (.cells #[.int .i64 m.own, .int .i64 m.ot, .slice m.ag.A m.ag.l.length m.ag.c, .slice m.op.A m.op.l.length m.op.c] 24))
  replace BB := Lib.hid (BB.out.alloc (.cells #[.int .i64 m.own, .int .i64 m.ot, .slice m.ag.A m.ag.l.length m.ag.c, .slice m.op.A m.op.l.length m.op.c] 24))
  replace HK := Lib.hid (HK.out.alloc (.cells #[.int .i64 m.own, .int .i64 m.ot, .slice m.ag.A m.ag.l.length m.ag.c, .slice m.op.A m.op.l.length m.op.c] 24))
  have M1 := Lib.hid (Blk.newH v1 [.int .i64 m.own, .int .i64 m.ot, .slice m.ag.A m.ag.l.length m.ag.c, .slice m.op.A m.op.l.length m.op.c] 24 (v1.heap.size) (by first | rfl | simp))
  replace E := Lib.hid (ext_alloc E.out (.cells #[.int .i64 A0.no, .int .i64 A0.f, .int .i64 A0.t, .int .i64 A0.m, .int .i64 A0.r] 26))
  replace PB := Lib.hid (PB.out.alloc (.cells #[.int .i64 A0.no, .int .i64 A0.f, .int .i64 A0.t, .int .i64 A0.m, .int .i64 A0.r] 26))
  replace PP := Lib.hid (PP.out.alloc (.cells #[.int .i64 A0.no, .int .i64 A0.f, .int .i64 A0.t, .int .i64 A0.m, .int .i64 A0.r] 26))
  replace SX := Lib.hid (SX.out.alloc (.cells #[.int .i64 A0.no, .int .i64 A0.f, .int .i64 A0.t, .int .i64 A0.m, .int .i64 A0.r] 26))
  replace BB := Lib.hid (BB.out.alloc (.cells #[.int .i64 A0.no, .int .i64 A0.f, .int .i64 A0.t, .int .i64 A0.m, .int .i64 A0.r] 26))
  replace HK := Lib.hid (HK.out.alloc (.cells #[.int .i64 A0.no, .int .i64 A0.f, .int .i64 A0.t, .int .i64 A0.m, .int .i64 A0.r] 26))
  replace M1 := Lib.hid (M1.out.alloc (.cells #[.int .i64 A0.no, .int .i64 A0.f, .int .i64 A0.t, .int .i64 A0.m, .int .i64 A0.r] 26))
  have A1 := Lib.hid (Blk.newH (v1.alloc (.cells #[.int .i64 m.own, .int .i64 m.ot, .slice m.ag.A m.ag.l.length m.ag.c, .slice m.op.A m.op.l.length m.op.c] 24)) [.int .i64 A0.no, .int .i64 A0.f, .int .i64 A0.t, .int .i64 A0.m, .int .i64 A0.r] 26 (v1.heap.size + 1) (by first | rfl | simp))
  by_cases he : E0 = 0
  rotate_left
  · have f0 : (E0 == 0) = false := by simp [he]
    clear he
    go_wp2_with fail
    go_ret
    exact went_same H2.out LX.out LY.out PB.out PP.out (E.out.mono (Nat.le_of_lt HPL.out))
  subst he
  clear BB SX
  go_wp2_with fail
  have SZ := Lib.hid (show P < ((v1.alloc (.cells #[.int .i64 m.own, .int .i64 m.ot, .slice m.ag.A m.ag.l.length m.ag.c, .slice m.op.A m.op.l.length m.op.c] 24)).alloc (.cells #[.int .i64 A0.no, .int .i64 A0.f, .int .i64 A0.t, .int .i64 A0.m, .int .i64 A0.r] 26)).heap.size from PP.out.lt)
  have SS := Lib.hid (show ∀ w', Below ((v1.alloc (.cells #[.int .i64 m.own, .int .i64 m.ot, .slice m.ag.A m.ag.l.length m.ag.c, .slice m.op.A m.op.l.length m.op.c] 24)).alloc (.cells #[.int .i64 A0.no, .int .i64 A0.f, .int .i64 A0.t, .int .i64 A0.m, .int .i64 A0.r] 26)).heap.size ((v1.alloc (.cells #[.int .i64 m.own, .int .i64 m.ot, .slice m.ag.A m.ag.l.length m.ag.c, .slice m.op.A m.op.l.length m.op.c] 24)).alloc (.cells #[.int .i64 A0.no, .int .i64 A0.f, .int .i64 A0.t, .int .i64 A0.m, .int .i64 A0.r] 26)) w' → (fun w' => Below ((v1.alloc (.cells #[.int .i64 m.own, .int .i64 m.ot, .slice m.ag.A m.ag.l.length m.ag.c, .slice m.op.A m.op.l.length m.op.c] 24)).alloc (.cells #[.int .i64 A0.no, .int .i64 A0.f, .int .i64 A0.t, .int .i64 A0.m, .int .i64 A0.r] 26)).heap.size ((v1.alloc (.cells #[.int .i64 m.own, .int .i64 m.ot, .slice m.ag.A m.ag.l.length m.ag.c, .slice m.op.A m.op.l.length m.op.c] 24)).alloc (.cells #[.int .i64 A0.no, .int .i64 A0.f, .int .i64 A0.t, .int .i64 A0.m, .int .i64 A0.r] 26)) w' ∧ w'.cell? ⟨v1.heap.size, 0, none⟩ = some (.int .i64 m.own) ∧ w'.cell? ⟨v1.heap.size, 1, none⟩ = some (.int .i64 m.ot) ∧ w'.cell? ⟨v1.heap.size, 2, none⟩ = some (.slice m.ag.A m.ag.l.length m.ag.c) ∧ w'.cell? ⟨v1.heap.size, 3, none⟩ = some (.slice m.op.A m.op.l.length m.op.c)) w' from fun w' h => ⟨h, (M1.out.ext h).c 0 _ rfl, (M1.out.ext h).c 1 _ rfl, (M1.out.ext h).c 2 _ rfl, (M1.out.ext h).c 3 _ rfl⟩)
  refine rg_begin (S := (fun w' => Below ((v1.alloc (.cells #[.int .i64 m.own, .int .i64 m.ot, .slice m.ag.A m.ag.l.length m.ag.c, .slice m.op.A m.op.l.length m.op.c] 24)).alloc (.cells #[.int .i64 A0.no, .int .i64 A0.f, .int .i64 A0.t, .int .i64 A0.m, .int .i64 A0.r] 26)).heap.size ((v1.alloc (.cells #[.int .i64 m.own, .int .i64 m.ot, .slice m.ag.A m.ag.l.length m.ag.c, .slice m.op.A m.op.l.length m.op.c] 24)).alloc (.cells #[.int .i64 A0.no, .int .i64 A0.f, .int .i64 A0.t, .int .i64 A0.m, .int .i64 A0.r] 26)) w' ∧ w'.cell? ⟨v1.heap.size, 0, none⟩ = some (.int .i64 m.own) ∧ w'.cell? ⟨v1.heap.size, 1, none⟩ = some (.int .i64 m.ot) ∧ w'.cell? ⟨v1.heap.size, 2, none⟩ = some (.slice m.ag.A m.ag.l.length m.ag.c) ∧ w'.cell? ⟨v1.heap.size, 3, none⟩ = some (.slice m.op.A m.op.l.length m.op.c))) 6 (by kernel_rfl) (by intro d; cases d <;> intro _ _ _ _ h <;> exact h) ?_ (fun Q7 hQ7 hN7 hHeld => ?_)
  · exact SS.out _ (ext_drew (ext_refl _))
  refine rg_take (i := 0) (some 72) (v := ?_) rfl rfl (by kernel_rfl) (by rfl) hQ7 hHeld ?_ ?_
  rotate_left
  · intro w7 hSw; (try dsimp only at hSw); go_simp; all_goals with_reducible rfl
  try simp only [Act.put, List.setIfInBounds_toArray, List.set_cons_zero, List.set_cons_succ]
  refine rg_take (i := 1) (some 73) (v := ?_) rfl rfl (by kernel_rfl) (by rfl) hQ7 hHeld ?_ ?_
  rotate_left
  · intro w7 hSw; (try dsimp only at hSw); go_simp; all_goals with_reducible rfl
  try simp only [Act.put, List.setIfInBounds_toArray, List.set_cons_zero, List.set_cons_succ]
  refine rg_take (i := 2) (some 74) (v := ?_) rfl rfl (by kernel_rfl) (by rfl) hQ7 hHeld ?_ ?_
  rotate_left
  · intro w7 hSw; (try dsimp only at hSw); go_simp; all_goals with_reducible rfl
  try simp only [Act.put, List.setIfInBounds_toArray, List.set_cons_zero, List.set_cons_succ]
  refine rg_take (i := 3) (some 75) (v := ?_) rfl rfl (by kernel_rfl) (by rfl) hQ7 hHeld ?_ ?_
  rotate_left
  · intro w7 hSw; (try dsimp only at hSw); go_simp; all_goals with_reducible rfl
  try simp only [Act.put, List.setIfInBounds_toArray, List.set_cons_zero, List.set_cons_succ]
  refine rg_take (i := 4) (some 76) (v := ?_) rfl rfl (by kernel_rfl) (by rfl) hQ7 hHeld ?_ ?_
  rotate_left
  · intro w7 hSw; (try dsimp only at hSw); go_simp; all_goals with_reducible rfl
  try simp only [Act.put, List.setIfInBounds_toArray, List.set_cons_zero, List.set_cons_succ]
  refine rg_take (i := 5) (some 77) (v := ?_) rfl rfl (by kernel_rfl) (by rfl) hQ7 hHeld ?_ ?_
  rotate_left
  · intro w7 hSw; (try dsimp only at hSw); go_simp; all_goals with_reducible rfl
  try simp only [Act.put, List.setIfInBounds_toArray, List.set_cons_zero, List.set_cons_succ]
  have PBx := PB.out
  have gp0 := PBx.c 0 _ rfl
  have gp1 := PBx.c 1 _ rfl
  have gp2 := PBx.c 2 _ rfl
  have gp3 := PBx.c 3 _ rfl
  have gp4 := PBx.c 4 _ rfl
  have gp5 := PBx.c 5 _ rfl
  have gp6 := PBx.c 6 _ rfl
  have gp7 := PBx.c 7 _ rfl
  have gp8 := PBx.c 8 _ rfl
  have gpf := PBx.f
  have gpl := PBx.lt
  refine rg_one (i := 6) (by kernel_rfl) (rg_late rfl (by rfl) (by kernel_rfl) (fun K hK => ?_))
  go_simp
  refine hK.out _ _ ?_
  clear hK K
  try simp only [Act.put, List.setIfInBounds_toArray, List.set_cons_zero, List.set_cons_succ]
  refine rg_end (by kernel_rfl) (hN7 _ _ ?_) _
  clear hQ7 hN7 Q7
  have BX := hHeld.1
  clear SS
  clear BX
  replace A1 := Lib.hid (((((A1.out.other (p := ⟨P, 0, none⟩) (.int .i64 m.own) (by show P ≠ _; have := HS.out; omega)).other (p := ⟨P, 1, none⟩) (.int .i64 m.ot) (by show P ≠ _; have := HS.out; omega)).other (p := ⟨P, 2, none⟩) (.slice m.ag.A m.ag.l.length m.ag.c) (by show P ≠ _; have := HS.out; omega)).other (p := ⟨P, 3, none⟩) (.slice m.op.A m.op.l.length m.op.c) (by show P ≠ _; have := HS.out; omega)))
  obtain ⟨ho1, ho2⟩ := PP0.out.off0 HF.out
  have EP := Lib.hid (E.out.mono (Nat.le_of_lt HPL.out))
  replace PP := Lib.hid (((((PP.out.side0 HK.out ho1 ho2).set 0 (.int .i64 m.own)).set 1 (.int .i64 m.ot)).set 2 (.slice m.ag.A m.ag.l.length m.ag.c)).set 3 (.slice m.op.A m.op.l.length m.op.c))
  replace PB := Lib.hid (((((PB.out.set (j := 0) (by simp [Pc]) (.int .i64 m.own)).set (j := 1) (by simp [Pc]) (.int .i64 m.ot)).set (j := 2) (by simp [Pc]) (.slice m.ag.A m.ag.l.length m.ag.c)).set (j := 3) (by simp [Pc]) (.slice m.op.A m.op.l.length m.op.c)))
  replace EP := Lib.hid (below_set (below_set (below_set (below_set (EP.out) ⟨P, 0, none⟩ (.int .i64 m.own) (Nat.le_refl _)) ⟨P, 1, none⟩ (.int .i64 m.ot) (Nat.le_refl _)) ⟨P, 2, none⟩ (.slice m.ag.A m.ag.l.length m.ag.c) (Nat.le_refl _)) ⟨P, 3, none⟩ (.slice m.op.A m.op.l.length m.op.c) (Nat.le_refl _))
  clear ho1 ho2
  clear SZ
  clear E HK M1
  replace PB := Lib.hid PB.out.drew
  replace A1 := Lib.hid A1.out.drew
  replace EP := Lib.hid EP.out.drew
  replace PP := Lib.hid (PP.out.ext (ext_drew (ext_refl _)))
  obtain ⟨z0, hNz0⟩ : ∃ W0, W0 = ((((((v1.alloc (.cells #[.int .i64 m.own, .int .i64 m.ot, .slice m.ag.A m.ag.l.length m.ag.c, .slice m.op.A m.op.l.length m.op.c] 24)).alloc (.cells #[.int .i64 A0.no, .int .i64 A0.f, .int .i64 A0.t, .int .i64 A0.m, .int .i64 A0.r] 26)).setCell ⟨P, 0, none⟩ (.int .i64 m.own)).setCell ⟨P, 1, none⟩ (.int .i64 m.ot)).setCell ⟨P, 2, none⟩ (.slice m.ag.A m.ag.l.length m.ag.c)).setCell ⟨P, 3, none⟩ (.slice m.op.A m.op.l.length m.op.c)).drew := ⟨_, rfl⟩
  rw [← hNz0] at PB PP A1 EP ⊢
  clear hNz0
  go_wp2_with fail
  have DD := ext_drew (ext_refl z0)
  replace PB := Lib.hid (PB.out.ext DD)
  replace PP := Lib.hid (PP.out.ext DD)
  replace A1 := Lib.hid (A1.out.ext DD)
  clear DD
  refine rg_begin (S := (fun w' => w'.cell? ⟨P, 8, none⟩ = some (.slice A n c) ∧ w'.cell? ⟨v1.heap.size + 1, 0, none⟩ = some (.int .i64 A0.no) ∧ w'.cell? ⟨v1.heap.size + 1, 1, none⟩ = some (.int .i64 A0.f) ∧ w'.cell? ⟨v1.heap.size + 1, 2, none⟩ = some (.int .i64 A0.t) ∧ w'.cell? ⟨v1.heap.size + 1, 3, none⟩ = some (.int .i64 A0.m) ∧ w'.cell? ⟨v1.heap.size + 1, 4, none⟩ = some (.int .i64 A0.r))) 13 (by kernel_rfl) (by intro d; cases d <;> intro _ _ _ _ h <;> exact h) ?_ (fun Q7 hQ7 hN7 hHeld => ?_)
  · exact ⟨PB.out.c 8 _ rfl, A1.out.c 0 _ rfl, A1.out.c 1 _ rfl, A1.out.c 2 _ rfl, A1.out.c 3 _ rfl, A1.out.c 4 _ rfl⟩
  refine rg_take (i := 0) (some 78) (v := ?_) rfl rfl (by kernel_rfl) (by rfl) hQ7 hHeld ?_ ?_
  rotate_left
  · intro w7 hSw; (try dsimp only at hSw); go_simp; all_goals with_reducible rfl
  try simp only [Act.put, List.setIfInBounds_toArray, List.set_cons_zero, List.set_cons_succ]
  refine rg_take (i := 1) (some 79) (v := ?_) rfl rfl (by kernel_rfl) (by rfl) hQ7 hHeld ?_ ?_
  rotate_left
  · intro w7 hSw; (try dsimp only at hSw); go_simp; all_goals with_reducible rfl
  try simp only [Act.put, List.setIfInBounds_toArray, List.set_cons_zero, List.set_cons_succ]
  refine rg_take (i := 2) (some 80) (v := ?_) rfl rfl (by kernel_rfl) (by rfl) hQ7 hHeld ?_ ?_
  rotate_left
  · intro w7 hSw; (try dsimp only at hSw); go_simp; all_goals with_reducible rfl
  try simp only [Act.put, List.setIfInBounds_toArray, List.set_cons_zero, List.set_cons_succ]
  refine rg_take (i := 3) (some 81) (v := ?_) rfl rfl (by kernel_rfl) (by rfl) hQ7 hHeld ?_ ?_
  rotate_left
  · intro w7 hSw; (try dsimp only at hSw); go_simp; all_goals with_reducible rfl
  try simp only [Act.put, List.setIfInBounds_toArray, List.set_cons_zero, List.set_cons_succ]
  refine rg_take (i := 4) (some 82) (v := ?_) rfl rfl (by kernel_rfl) (by rfl) hQ7 hHeld ?_ ?_
  rotate_left
  · intro w7 hSw; (try dsimp only at hSw); go_simp; all_goals with_reducible rfl
  try simp only [Act.put, List.setIfInBounds_toArray, List.set_cons_zero, List.set_cons_succ]
  refine rg_take (i := 5) (some 83) (v := ?_) rfl rfl (by kernel_rfl) (by rfl) hQ7 hHeld ?_ ?_
  rotate_left
  · intro w7 hSw; (try dsimp only at hSw); go_simp; all_goals with_reducible rfl
  try simp only [Act.put, List.setIfInBounds_toArray, List.set_cons_zero, List.set_cons_succ]
  refine rg_take (i := 6) (some 84) (v := ?_) rfl rfl (by kernel_rfl) (by rfl) hQ7 hHeld ?_ ?_
  rotate_left
  · intro w7 hSw; (try dsimp only at hSw); go_simp; all_goals with_reducible rfl
  try simp only [Act.put, List.setIfInBounds_toArray, List.set_cons_zero, List.set_cons_succ]
  refine rg_take (i := 7) (some 85) (v := ?_) rfl rfl (by kernel_rfl) (by rfl) hQ7 hHeld ?_ ?_
  rotate_left
  · intro w7 hSw; (try dsimp only at hSw); go_simp; all_goals with_reducible rfl
  try simp only [Act.put, List.setIfInBounds_toArray, List.set_cons_zero, List.set_cons_succ]
  refine rg_take (i := 8) (some 86) (v := ?_) rfl rfl (by kernel_rfl) (by rfl) hQ7 hHeld ?_ ?_
  rotate_left
  · intro w7 hSw; (try dsimp only at hSw); go_simp; all_goals with_reducible rfl
  try simp only [Act.put, List.setIfInBounds_toArray, List.set_cons_zero, List.set_cons_succ]
  refine rg_one (i := 9) (by kernel_rfl) (rg_step rfl (by rfl) (fun K hK => ?_))
  go_simp
  refine hK.out _ _ ?_ (fun hHeld2 => ?_)
  · exact ⟨(PB.out.alloc _).c 8 _ rfl, (A1.out.alloc _).c 0 _ rfl, (A1.out.alloc _).c 1 _ rfl, (A1.out.alloc _).c 2 _ rfl, (A1.out.alloc _).c 3 _ rfl, (A1.out.alloc _).c 4 _ rfl⟩
  clear hHeld
  have hHeld := hHeld2
  clear hHeld2
  clear hK K
  try simp only [Act.put, List.setIfInBounds_toArray, List.set_cons_zero, List.set_cons_succ]
  refine rg_one (i := 10) (by kernel_rfl) (rg_step rfl (by rfl) (fun K hK => ?_))
  refine rg_append (some 88) _ _ 46 46 rfl rfl rfl _ _ rfl rfl ((PP.out.alloc (.cells #[.int .i64 1, .bool false, .int .i64 A0.no, .int .i64 A0.f, .int .i64 A0.t, .int .i64 A0.m, .int .i64 A0.r] 53)).say (PB.out.alloc (.cells #[.int .i64 1, .bool false, .int .i64 A0.no, .int .i64 A0.f, .int .i64 A0.t, .int .i64 A0.m, .int .i64 A0.r] 53)) (slc_litH _ [⟨true, false, A0⟩] _ 53 (enc := Lt.cells) (sz := 7) (fun _ => rfl) rfl _ rfl) HN.out) ?_
  rintro _ z ⟨A', c', rfl, PPz, PBz, Ez, Gz⟩
  refine hK.out _ _ ?_ (fun hHeld2 => ?_)
  · exact ⟨PBz.c 8 _ rfl, ((A1.out.alloc _).keepB (Gz.block _ (by have := A1.out.lt; simp at this ⊢; omega) HNE.out)).c 0 _ rfl, ((A1.out.alloc _).keepB (Gz.block _ (by have := A1.out.lt; simp at this ⊢; omega) HNE.out)).c 1 _ rfl, ((A1.out.alloc _).keepB (Gz.block _ (by have := A1.out.lt; simp at this ⊢; omega) HNE.out)).c 2 _ rfl, ((A1.out.alloc _).keepB (Gz.block _ (by have := A1.out.lt; simp at this ⊢; omega) HNE.out)).c 3 _ rfl, ((A1.out.alloc _).keepB (Gz.block _ (by have := A1.out.lt; simp at this ⊢; omega) HNE.out)).c 4 _ rfl⟩
  clear hHeld
  have hHeld := hHeld2
  clear hHeld2
  clear hK K
  try simp only [Act.put, List.setIfInBounds_toArray, List.set_cons_zero, List.set_cons_succ]
  have gp8 := PBz.c 8 _ rfl
  have gpf := PBz.f
  have gpl := PBz.lt
  refine rg_take (i := 11) (some 89) (v := ?_) rfl rfl (by kernel_rfl) (by rfl) hQ7 hHeld ?_ ?_
  rotate_left
  · intro w7 hSw; (try dsimp only at hSw); go_simp; all_goals with_reducible rfl
  try simp only [Act.put, List.setIfInBounds_toArray, List.set_cons_zero, List.set_cons_succ]
  refine rg_take (i := 12) (some 90) (v := ?_) rfl rfl (by kernel_rfl) (by rfl) hQ7 hHeld ?_ ?_
  rotate_left
  · intro w7 hSw; (try dsimp only at hSw); go_simp; all_goals with_reducible rfl
  try simp only [Act.put, List.setIfInBounds_toArray, List.set_cons_zero, List.set_cons_succ]
  refine rg_one (i := 13) (by kernel_rfl) (rg_late rfl (by rfl) (by kernel_rfl) (fun K hK => ?_))
  go_simp
  refine hK.out _ _ ?_
  clear hK K
  try simp only [Act.put, List.setIfInBounds_toArray, List.set_cons_zero, List.set_cons_succ]
  refine rg_end (by kernel_rfl) (hN7 _ _ ?_) _
  clear hQ7 hN7 Q7
  replace EP := Lib.hid (below_set (((EP.out.drew).alloc (by have := PP.out.lt; simpa using Nat.le_of_lt this) _).trans Ez) ⟨P, 8, none⟩ (.slice A' (n + 1) c') (Nat.le_refl _))
  replace PB := Lib.hid (PBz.set (j := 8) (by simp [Pc]) (.slice A' (n + 1) c'))
  replace PP := Lib.hid (PPz.set 8 (.slice A' (n + 1) c'))
  clear PBz PPz Ez Gz
  go_wp2_with fail
  go_ret
  have HA1 := HA0.out
  subst HA1
  exact went_offer0 H2.out LX.out LY.out HLN.out HE0.out HM.out PB.out PP.out EP.out
set_option maxHeartbeats 1600000 in
set_option maxRecDepth 100000 in
theorem step_00f (x y : Bd) (A : Option Addr) (n c P L : Nat) (l : List Lt) (sk ssi sn : Int) (mi ra : Int) (w : World) (hP : Blk w P (Pc x y A n c)) (hp : PR w P x y A n c l) (h2 : Two ⟨x.bl, y.bl, l⟩) (hlx : LenS L x.bl) (hly : LenS L y.bl) (hL : L ≤ 900) (hn : n ≤ 900) (hk0 : 0 ≤ sk ∧ sk < 256) (hs0 : 0 ≤ ssi ∧ ssi < 256) (hn0 : 0 ≤ sn ∧ sn < 256) (hsi : ssi.tmod 2 = 0) (hsk : sk.tmod 4 = 0) :
    Calls Try.prog 27 #[.pointer (some ⟨P, 0, none⟩), .agg #[.int .u8 sk, .int .u8 ssi, .int .u8 sn, .bool false, .int .i64 mi, .int .i64 ra]] w (Went w P L n) := by
  have H2 := Lib.hid h2
  have LX := Lib.hid hlx
  have LY := Lib.hid hly
  have HL := Lib.hid hL
  have HN := Lib.hid (show n ≤ 1000 by omega)
  have ks : IntKind.i64.wrap ssi = ssi := IntWalk.i64_in _ (by omega)
  have kn : IntKind.i64.wrap sn = sn := IntWalk.i64_in _ (by omega)
  have HN0 := Lib.hid hn0
  clear h2 hlx hly hL hn hk0 hs0 hn0
  have E := Lib.hid (ext_refl w)
  have PB := Lib.hid (hP)
  have PP := Lib.hid (hp)
  have HPL := Lib.hid hp.lt
  have HLN := Lib.hid hp.hn
  clear hP hp
  replace E := Lib.hid (ext_alloc E.out (.cells #[.int .u8 sk, .int .u8 ssi, .int .u8 sn, .bool false, .int .i64 mi, .int .i64 ra] 50))
  replace PB := Lib.hid (PB.out.alloc (.cells #[.int .u8 sk, .int .u8 ssi, .int .u8 sn, .bool false, .int .i64 mi, .int .i64 ra] 50))
  replace PP := Lib.hid (PP.out.alloc (.cells #[.int .u8 sk, .int .u8 ssi, .int .u8 sn, .bool false, .int .i64 mi, .int .i64 ra] 50))
  have SX := Lib.hid (Blk.newH w [.int .u8 sk, .int .u8 ssi, .int .u8 sn, .bool false, .int .i64 mi, .int .i64 ra] 50 (w.heap.size) (by first | rfl | simp))
  go_enter Try.func27, Try.ntmps27
  have pb0 := PB.out.c 0 _ rfl
  have pb1 := PB.out.c 1 _ rfl
  have pb2 := PB.out.c 2 _ rfl
  have pb3 := PB.out.c 3 _ rfl
  have pb4 := PB.out.c 4 _ rfl
  have pb5 := PB.out.c 5 _ rfl
  have pb6 := PB.out.c 6 _ rfl
  have pb7 := PB.out.c 7 _ rfl
  have pb8 := PB.out.c 8 _ rfl
  have pbf := PB.out.f
  have pbl := PB.out.lt
  have sx0 := SX.out.c 0 _ rfl
  have sx1 := SX.out.c 1 _ rfl
  have sx2 := SX.out.c 2 _ rfl
  have sx3 := SX.out.c 3 _ rfl
  have sx4 := SX.out.c 4 _ rfl
  have sx5 := SX.out.c 5 _ rfl
  have sxf := SX.out.f
  have sxl := SX.out.lt
  go_wp2_with fail
  clear pb0 pb1 pb2 pb3 pb4 pb5 pb6 pb7 pb8 pbf pbl sx0 sx1 sx2 sx3 sx4 sx5 sxf sxl
  replace E := Lib.hid (ext_alloc E.out (.cells #[.int .i64 x.own, .int .i64 x.ot, .slice x.ag.A x.ag.l.length x.ag.c, .slice x.op.A x.op.l.length x.op.c] 24))
  replace PB := Lib.hid (PB.out.alloc (.cells #[.int .i64 x.own, .int .i64 x.ot, .slice x.ag.A x.ag.l.length x.ag.c, .slice x.op.A x.op.l.length x.op.c] 24))
  replace PP := Lib.hid (PP.out.alloc (.cells #[.int .i64 x.own, .int .i64 x.ot, .slice x.ag.A x.ag.l.length x.ag.c, .slice x.op.A x.op.l.length x.op.c] 24))
  replace SX := Lib.hid (SX.out.alloc (.cells #[.int .i64 x.own, .int .i64 x.ot, .slice x.ag.A x.ag.l.length x.ag.c, .slice x.op.A x.op.l.length x.op.c] 24))
  have BB := Lib.hid (Blk.newH (w.alloc (.cells #[.int .u8 sk, .int .u8 ssi, .int .u8 sn, .bool false, .int .i64 mi, .int .i64 ra] 50)) [.int .i64 x.own, .int .i64 x.ot, .slice x.ag.A x.ag.l.length x.ag.c, .slice x.op.A x.op.l.length x.op.c] 24 (w.heap.size + 1) (by first | rfl | simp))
  have SS := Lib.hid (show ∀ w', Below ((w.alloc (.cells #[.int .u8 sk, .int .u8 ssi, .int .u8 sn, .bool false, .int .i64 mi, .int .i64 ra] 50)).alloc (.cells #[.int .i64 x.own, .int .i64 x.ot, .slice x.ag.A x.ag.l.length x.ag.c, .slice x.op.A x.op.l.length x.op.c] 24)).heap.size ((w.alloc (.cells #[.int .u8 sk, .int .u8 ssi, .int .u8 sn, .bool false, .int .i64 mi, .int .i64 ra] 50)).alloc (.cells #[.int .i64 x.own, .int .i64 x.ot, .slice x.ag.A x.ag.l.length x.ag.c, .slice x.op.A x.op.l.length x.op.c] 24)) w' → (fun w' => Below ((w.alloc (.cells #[.int .u8 sk, .int .u8 ssi, .int .u8 sn, .bool false, .int .i64 mi, .int .i64 ra] 50)).alloc (.cells #[.int .i64 x.own, .int .i64 x.ot, .slice x.ag.A x.ag.l.length x.ag.c, .slice x.op.A x.op.l.length x.op.c] 24)).heap.size ((w.alloc (.cells #[.int .u8 sk, .int .u8 ssi, .int .u8 sn, .bool false, .int .i64 mi, .int .i64 ra] 50)).alloc (.cells #[.int .i64 x.own, .int .i64 x.ot, .slice x.ag.A x.ag.l.length x.ag.c, .slice x.op.A x.op.l.length x.op.c] 24)) w' ∧ w'.cell? ⟨w.heap.size + 1, 0, none⟩ = some (.int .i64 x.own) ∧ w'.cell? ⟨w.heap.size + 1, 1, none⟩ = some (.int .i64 x.ot)) w' from fun w' h => ⟨h, (BB.out.ext h).c 0 _ rfl, (BB.out.ext h).c 1 _ rfl⟩)
  refine rg_begin (S := (fun w' => Below ((w.alloc (.cells #[.int .u8 sk, .int .u8 ssi, .int .u8 sn, .bool false, .int .i64 mi, .int .i64 ra] 50)).alloc (.cells #[.int .i64 x.own, .int .i64 x.ot, .slice x.ag.A x.ag.l.length x.ag.c, .slice x.op.A x.op.l.length x.op.c] 24)).heap.size ((w.alloc (.cells #[.int .u8 sk, .int .u8 ssi, .int .u8 sn, .bool false, .int .i64 mi, .int .i64 ra] 50)).alloc (.cells #[.int .i64 x.own, .int .i64 x.ot, .slice x.ag.A x.ag.l.length x.ag.c, .slice x.op.A x.op.l.length x.op.c] 24)) w' ∧ w'.cell? ⟨w.heap.size + 1, 0, none⟩ = some (.int .i64 x.own) ∧ w'.cell? ⟨w.heap.size + 1, 1, none⟩ = some (.int .i64 x.ot))) 6 (by kernel_rfl) (by intro d; cases d <;> intro _ _ _ _ h <;> exact h) ?_ (fun Q7 hQ7 hN7 hHeld => ?_)
  · exact SS.out _ (ext_drew (ext_refl _))
  refine rg_take (i := 0) (some 50) (v := ?_) rfl rfl (by kernel_rfl) (by rfl) hQ7 hHeld ?_ ?_
  rotate_left
  · intro w7 hSw; (try dsimp only at hSw); go_simp; all_goals with_reducible rfl
  try simp only [Act.put, List.setIfInBounds_toArray, List.set_cons_zero, List.set_cons_succ]
  refine rg_take (i := 1) (some 51) (v := ?_) rfl rfl (by kernel_rfl) (by rfl) hQ7 hHeld ?_ ?_
  rotate_left
  · intro w7 hSw; (try dsimp only at hSw); go_simp; all_goals with_reducible rfl
  try simp only [Act.put, List.setIfInBounds_toArray, List.set_cons_zero, List.set_cons_succ]
  refine rg_take (i := 2) (some 52) (v := ?_) rfl rfl (by kernel_rfl) (by rfl) hQ7 hHeld ?_ ?_
  rotate_left
  · intro w7 hSw; (try dsimp only at hSw); go_simp; all_goals with_reducible rfl
  try simp only [Act.put, List.setIfInBounds_toArray, List.set_cons_zero, List.set_cons_succ]
  refine rg_take (i := 3) (some 53) (v := ?_) rfl rfl (by kernel_rfl) (by rfl) hQ7 hHeld ?_ ?_
  rotate_left
  · intro w7 hSw; (try dsimp only at hSw); go_simp; all_goals with_reducible rfl
  try simp only [Act.put, List.setIfInBounds_toArray, List.set_cons_zero, List.set_cons_succ]
  refine rg_take (i := 4) (some 7) (v := ?_) rfl rfl (by kernel_rfl) (by rfl) hQ7 hHeld ?_ ?_
  rotate_left
  · intro w7 hSw; (try dsimp only at hSw); go_simp; all_goals with_reducible rfl
  try simp only [Act.put, List.setIfInBounds_toArray, List.set_cons_zero, List.set_cons_succ]
  refine rg_take (i := 5) (some 8) (v := ?_) rfl rfl (by kernel_rfl) (by rfl) hQ7 hHeld ?_ ?_
  rotate_left
  · intro w7 hSw; (try dsimp only at hSw); go_simp; all_goals with_reducible rfl
  try simp only [Act.put, List.setIfInBounds_toArray, List.set_cons_zero, List.set_cons_succ]
  refine rg_end (by kernel_rfl) (hN7 _ _ ?_) _
  clear hQ7 hN7 Q7
  have BX := hHeld.1
  clear SS
  replace E := Lib.hid (ext_trans E.out BX)
  replace PB := Lib.hid (PB.out.ext BX)
  replace PP := Lib.hid (PP.out.ext BX)
  replace SX := Lib.hid (SX.out.ext BX)
  replace BB := Lib.hid (BB.out.ext BX)
  clear BX
  obtain ⟨z9, hNz9⟩ : ∃ W0, W0 = ((w.alloc (.cells #[.int .u8 sk, .int .u8 ssi, .int .u8 sn, .bool false, .int .i64 mi, .int .i64 ra] 50)).alloc (.cells #[.int .i64 x.own, .int .i64 x.ot, .slice x.ag.A x.ag.l.length x.ag.c, .slice x.op.A x.op.l.length x.op.c] 24)).drew := ⟨_, rfl⟩
  rw [← hNz9] at E PB PP SX BB ⊢
  clear hNz9
  obtain ⟨E0, hE0⟩ : ∃ e, x.bl.offE x.own x.ot mi ra = e := ⟨_, rfl⟩
  obtain ⟨A0, hA0⟩ : ∃ e, x.bl.offX x.own x.ot mi ra = e := ⟨_, rfl⟩
  have HE0 := Lib.hid hE0
  have HA0 := Lib.hid hA0
  clear hE0 hA0
  have PP0 := PP
  have c0 := BB.out.c 0 _ rfl
  have c1 := BB.out.c 1 _ rfl
  have c2 := BB.out.c 2 _ rfl
  have c3 := BB.out.c 3 _ rfl
  have c4 := SX.out.c 3 _ rfl
  have c5 := SX.out.c 4 _ rfl
  have c6 := SX.out.c 5 _ rfl
  go_wp2_with fail
  refine (offer_at (b := x) (f := x.own) (t := x.ot) (m := mi) (r := ra) _ A0 E0 rfl HA0.out HE0.out PP.out.hx (LX.out.lens (by have := HL.out; omega))).mono ?_
  rintro e v1 ⟨m, rfl, hm, hM, B, hF⟩
  clear c0 c1 c2 c3 c4 c5 c6
  replace E := Lib.hid (ext_trans E.out B)
  replace PB := Lib.hid (PB.out.ext B)
  replace PP := Lib.hid (PP.out.ext B)
  replace SX := Lib.hid (SX.out.ext B)
  replace BB := Lib.hid (BB.out.ext B)
  clear B
  have HM := Lib.hid hm
  have HK := Lib.hid hM
  have HF := Lib.hid hF
  clear hm hM hF
  have HS := Lib.hid (show P < v1.heap.size from PP.out.lt)
  have HNE := Lib.hid (show some (v1.heap.size + 1) ≠ (Value.slice A n c).ownBlock from fun e => by have := (PP.out.own.lt _ e.symm).1; omega)
  have XX := HNE
  replace E := Lib.hid (ext_alloc E.out (.cells #[.int .i64 m.own, .int .i64 m.ot, .slice m.ag.A m.ag.l.length m.ag.c, .slice m.op.A m.op.l.length m.op.c] 24))
  replace PB := Lib.hid (PB.out.alloc (.cells #[.int .i64 m.own, .int .i64 m.ot, .slice m.ag.A m.ag.l.length m.ag.c, .slice m.op.A m.op.l.length m.op.c] 24))
  replace PP := Lib.hid (PP.out.alloc (.cells #[.int .i64 m.own, .int .i64 m.ot, .slice m.ag.A m.ag.l.length m.ag.c, .slice m.op.A m.op.l.length m.op.c] 24))
  replace SX := Lib.hid (SX.out.alloc (.cells #[.int .i64 m.own, .int .i64 m.ot, .slice m.ag.A m.ag.l.length m.ag.c, .slice m.op.A m.op.l.length m.op.c] 24))
  replace BB := Lib.hid (BB.out.alloc (.cells #[.int .i64 m.own, .int .i64 m.ot, .slice m.ag.A m.ag.l.length m.ag.c, .slice m.op.A m.op.l.length m.op.c] 24))
  replace HK := Lib.hid (HK.out.alloc (.cells #[.int .i64 m.own, .int .i64 m.ot, .slice m.ag.A m.ag.l.length m.ag.c, .slice m.op.A m.op.l.length m.op.c] 24))
  have M1 := Lib.hid (Blk.newH v1 [.int .i64 m.own, .int .i64 m.ot, .slice m.ag.A m.ag.l.length m.ag.c, .slice m.op.A m.op.l.length m.op.c] 24 (v1.heap.size) (by first | rfl | simp))
  replace E := Lib.hid (ext_alloc E.out (.cells #[.int .i64 A0.no, .int .i64 A0.f, .int .i64 A0.t, .int .i64 A0.m, .int .i64 A0.r] 26))
  replace PB := Lib.hid (PB.out.alloc (.cells #[.int .i64 A0.no, .int .i64 A0.f, .int .i64 A0.t, .int .i64 A0.m, .int .i64 A0.r] 26))
  replace PP := Lib.hid (PP.out.alloc (.cells #[.int .i64 A0.no, .int .i64 A0.f, .int .i64 A0.t, .int .i64 A0.m, .int .i64 A0.r] 26))
  replace SX := Lib.hid (SX.out.alloc (.cells #[.int .i64 A0.no, .int .i64 A0.f, .int .i64 A0.t, .int .i64 A0.m, .int .i64 A0.r] 26))
  replace BB := Lib.hid (BB.out.alloc (.cells #[.int .i64 A0.no, .int .i64 A0.f, .int .i64 A0.t, .int .i64 A0.m, .int .i64 A0.r] 26))
  replace HK := Lib.hid (HK.out.alloc (.cells #[.int .i64 A0.no, .int .i64 A0.f, .int .i64 A0.t, .int .i64 A0.m, .int .i64 A0.r] 26))
  replace M1 := Lib.hid (M1.out.alloc (.cells #[.int .i64 A0.no, .int .i64 A0.f, .int .i64 A0.t, .int .i64 A0.m, .int .i64 A0.r] 26))
  have A1 := Lib.hid (Blk.newH (v1.alloc (.cells #[.int .i64 m.own, .int .i64 m.ot, .slice m.ag.A m.ag.l.length m.ag.c, .slice m.op.A m.op.l.length m.op.c] 24)) [.int .i64 A0.no, .int .i64 A0.f, .int .i64 A0.t, .int .i64 A0.m, .int .i64 A0.r] 26 (v1.heap.size + 1) (by first | rfl | simp))
  by_cases he : E0 = 0
  rotate_left
  · have f0 : (E0 == 0) = false := by simp [he]
    clear he
    go_wp2_with fail
    go_ret
    exact went_same H2.out LX.out LY.out PB.out PP.out (E.out.mono (Nat.le_of_lt HPL.out))
  subst he
  clear BB SX
  go_wp2_with fail
  have SZ := Lib.hid (show P < ((v1.alloc (.cells #[.int .i64 m.own, .int .i64 m.ot, .slice m.ag.A m.ag.l.length m.ag.c, .slice m.op.A m.op.l.length m.op.c] 24)).alloc (.cells #[.int .i64 A0.no, .int .i64 A0.f, .int .i64 A0.t, .int .i64 A0.m, .int .i64 A0.r] 26)).heap.size from PP.out.lt)
  have SS := Lib.hid (show ∀ w', Below ((v1.alloc (.cells #[.int .i64 m.own, .int .i64 m.ot, .slice m.ag.A m.ag.l.length m.ag.c, .slice m.op.A m.op.l.length m.op.c] 24)).alloc (.cells #[.int .i64 A0.no, .int .i64 A0.f, .int .i64 A0.t, .int .i64 A0.m, .int .i64 A0.r] 26)).heap.size ((v1.alloc (.cells #[.int .i64 m.own, .int .i64 m.ot, .slice m.ag.A m.ag.l.length m.ag.c, .slice m.op.A m.op.l.length m.op.c] 24)).alloc (.cells #[.int .i64 A0.no, .int .i64 A0.f, .int .i64 A0.t, .int .i64 A0.m, .int .i64 A0.r] 26)) w' → (fun w' => Below ((v1.alloc (.cells #[.int .i64 m.own, .int .i64 m.ot, .slice m.ag.A m.ag.l.length m.ag.c, .slice m.op.A m.op.l.length m.op.c] 24)).alloc (.cells #[.int .i64 A0.no, .int .i64 A0.f, .int .i64 A0.t, .int .i64 A0.m, .int .i64 A0.r] 26)).heap.size ((v1.alloc (.cells #[.int .i64 m.own, .int .i64 m.ot, .slice m.ag.A m.ag.l.length m.ag.c, .slice m.op.A m.op.l.length m.op.c] 24)).alloc (.cells #[.int .i64 A0.no, .int .i64 A0.f, .int .i64 A0.t, .int .i64 A0.m, .int .i64 A0.r] 26)) w' ∧ w'.cell? ⟨v1.heap.size, 0, none⟩ = some (.int .i64 m.own) ∧ w'.cell? ⟨v1.heap.size, 1, none⟩ = some (.int .i64 m.ot) ∧ w'.cell? ⟨v1.heap.size, 2, none⟩ = some (.slice m.ag.A m.ag.l.length m.ag.c) ∧ w'.cell? ⟨v1.heap.size, 3, none⟩ = some (.slice m.op.A m.op.l.length m.op.c)) w' from fun w' h => ⟨h, (M1.out.ext h).c 0 _ rfl, (M1.out.ext h).c 1 _ rfl, (M1.out.ext h).c 2 _ rfl, (M1.out.ext h).c 3 _ rfl⟩)
  refine rg_begin (S := (fun w' => Below ((v1.alloc (.cells #[.int .i64 m.own, .int .i64 m.ot, .slice m.ag.A m.ag.l.length m.ag.c, .slice m.op.A m.op.l.length m.op.c] 24)).alloc (.cells #[.int .i64 A0.no, .int .i64 A0.f, .int .i64 A0.t, .int .i64 A0.m, .int .i64 A0.r] 26)).heap.size ((v1.alloc (.cells #[.int .i64 m.own, .int .i64 m.ot, .slice m.ag.A m.ag.l.length m.ag.c, .slice m.op.A m.op.l.length m.op.c] 24)).alloc (.cells #[.int .i64 A0.no, .int .i64 A0.f, .int .i64 A0.t, .int .i64 A0.m, .int .i64 A0.r] 26)) w' ∧ w'.cell? ⟨v1.heap.size, 0, none⟩ = some (.int .i64 m.own) ∧ w'.cell? ⟨v1.heap.size, 1, none⟩ = some (.int .i64 m.ot) ∧ w'.cell? ⟨v1.heap.size, 2, none⟩ = some (.slice m.ag.A m.ag.l.length m.ag.c) ∧ w'.cell? ⟨v1.heap.size, 3, none⟩ = some (.slice m.op.A m.op.l.length m.op.c))) 6 (by kernel_rfl) (by intro d; cases d <;> intro _ _ _ _ h <;> exact h) ?_ (fun Q7 hQ7 hN7 hHeld => ?_)
  · exact SS.out _ (ext_drew (ext_refl _))
  refine rg_take (i := 0) (some 72) (v := ?_) rfl rfl (by kernel_rfl) (by rfl) hQ7 hHeld ?_ ?_
  rotate_left
  · intro w7 hSw; (try dsimp only at hSw); go_simp; all_goals with_reducible rfl
  try simp only [Act.put, List.setIfInBounds_toArray, List.set_cons_zero, List.set_cons_succ]
  refine rg_take (i := 1) (some 73) (v := ?_) rfl rfl (by kernel_rfl) (by rfl) hQ7 hHeld ?_ ?_
  rotate_left
  · intro w7 hSw; (try dsimp only at hSw); go_simp; all_goals with_reducible rfl
  try simp only [Act.put, List.setIfInBounds_toArray, List.set_cons_zero, List.set_cons_succ]
  refine rg_take (i := 2) (some 74) (v := ?_) rfl rfl (by kernel_rfl) (by rfl) hQ7 hHeld ?_ ?_
  rotate_left
  · intro w7 hSw; (try dsimp only at hSw); go_simp; all_goals with_reducible rfl
  try simp only [Act.put, List.setIfInBounds_toArray, List.set_cons_zero, List.set_cons_succ]
  refine rg_take (i := 3) (some 75) (v := ?_) rfl rfl (by kernel_rfl) (by rfl) hQ7 hHeld ?_ ?_
  rotate_left
  · intro w7 hSw; (try dsimp only at hSw); go_simp; all_goals with_reducible rfl
  try simp only [Act.put, List.setIfInBounds_toArray, List.set_cons_zero, List.set_cons_succ]
  refine rg_take (i := 4) (some 76) (v := ?_) rfl rfl (by kernel_rfl) (by rfl) hQ7 hHeld ?_ ?_
  rotate_left
  · intro w7 hSw; (try dsimp only at hSw); go_simp; all_goals with_reducible rfl
  try simp only [Act.put, List.setIfInBounds_toArray, List.set_cons_zero, List.set_cons_succ]
  refine rg_take (i := 5) (some 77) (v := ?_) rfl rfl (by kernel_rfl) (by rfl) hQ7 hHeld ?_ ?_
  rotate_left
  · intro w7 hSw; (try dsimp only at hSw); go_simp; all_goals with_reducible rfl
  try simp only [Act.put, List.setIfInBounds_toArray, List.set_cons_zero, List.set_cons_succ]
  have PBx := PB.out
  have gp0 := PBx.c 0 _ rfl
  have gp1 := PBx.c 1 _ rfl
  have gp2 := PBx.c 2 _ rfl
  have gp3 := PBx.c 3 _ rfl
  have gp4 := PBx.c 4 _ rfl
  have gp5 := PBx.c 5 _ rfl
  have gp6 := PBx.c 6 _ rfl
  have gp7 := PBx.c 7 _ rfl
  have gp8 := PBx.c 8 _ rfl
  have gpf := PBx.f
  have gpl := PBx.lt
  refine rg_one (i := 6) (by kernel_rfl) (rg_late rfl (by rfl) (by kernel_rfl) (fun K hK => ?_))
  go_simp
  refine hK.out _ _ ?_
  clear hK K
  try simp only [Act.put, List.setIfInBounds_toArray, List.set_cons_zero, List.set_cons_succ]
  refine rg_end (by kernel_rfl) (hN7 _ _ ?_) _
  clear hQ7 hN7 Q7
  have BX := hHeld.1
  clear SS
  clear BX
  replace A1 := Lib.hid (((((A1.out.other (p := ⟨P, 0, none⟩) (.int .i64 m.own) (by show P ≠ _; have := HS.out; omega)).other (p := ⟨P, 1, none⟩) (.int .i64 m.ot) (by show P ≠ _; have := HS.out; omega)).other (p := ⟨P, 2, none⟩) (.slice m.ag.A m.ag.l.length m.ag.c) (by show P ≠ _; have := HS.out; omega)).other (p := ⟨P, 3, none⟩) (.slice m.op.A m.op.l.length m.op.c) (by show P ≠ _; have := HS.out; omega)))
  obtain ⟨ho1, ho2⟩ := PP0.out.off0 HF.out
  have EP := Lib.hid (E.out.mono (Nat.le_of_lt HPL.out))
  replace PP := Lib.hid (((((PP.out.side0 HK.out ho1 ho2).set 0 (.int .i64 m.own)).set 1 (.int .i64 m.ot)).set 2 (.slice m.ag.A m.ag.l.length m.ag.c)).set 3 (.slice m.op.A m.op.l.length m.op.c))
  replace PB := Lib.hid (((((PB.out.set (j := 0) (by simp [Pc]) (.int .i64 m.own)).set (j := 1) (by simp [Pc]) (.int .i64 m.ot)).set (j := 2) (by simp [Pc]) (.slice m.ag.A m.ag.l.length m.ag.c)).set (j := 3) (by simp [Pc]) (.slice m.op.A m.op.l.length m.op.c)))
  replace EP := Lib.hid (below_set (below_set (below_set (below_set (EP.out) ⟨P, 0, none⟩ (.int .i64 m.own) (Nat.le_refl _)) ⟨P, 1, none⟩ (.int .i64 m.ot) (Nat.le_refl _)) ⟨P, 2, none⟩ (.slice m.ag.A m.ag.l.length m.ag.c) (Nat.le_refl _)) ⟨P, 3, none⟩ (.slice m.op.A m.op.l.length m.op.c) (Nat.le_refl _))
  clear ho1 ho2
  clear SZ
  clear E HK M1
  replace PB := Lib.hid PB.out.drew
  replace A1 := Lib.hid A1.out.drew
  replace EP := Lib.hid EP.out.drew
  replace PP := Lib.hid (PP.out.ext (ext_drew (ext_refl _)))
  obtain ⟨z0, hNz0⟩ : ∃ W0, W0 = ((((((v1.alloc (.cells #[.int .i64 m.own, .int .i64 m.ot, .slice m.ag.A m.ag.l.length m.ag.c, .slice m.op.A m.op.l.length m.op.c] 24)).alloc (.cells #[.int .i64 A0.no, .int .i64 A0.f, .int .i64 A0.t, .int .i64 A0.m, .int .i64 A0.r] 26)).setCell ⟨P, 0, none⟩ (.int .i64 m.own)).setCell ⟨P, 1, none⟩ (.int .i64 m.ot)).setCell ⟨P, 2, none⟩ (.slice m.ag.A m.ag.l.length m.ag.c)).setCell ⟨P, 3, none⟩ (.slice m.op.A m.op.l.length m.op.c)).drew := ⟨_, rfl⟩
  rw [← hNz0] at PB PP A1 EP ⊢
  clear hNz0
  go_wp2_with fail
  have DD := ext_drew (ext_refl z0)
  replace PB := Lib.hid (PB.out.ext DD)
  replace PP := Lib.hid (PP.out.ext DD)
  replace A1 := Lib.hid (A1.out.ext DD)
  clear DD
  refine rg_begin (S := (fun w' => w'.cell? ⟨P, 8, none⟩ = some (.slice A n c) ∧ w'.cell? ⟨v1.heap.size + 1, 0, none⟩ = some (.int .i64 A0.no) ∧ w'.cell? ⟨v1.heap.size + 1, 1, none⟩ = some (.int .i64 A0.f) ∧ w'.cell? ⟨v1.heap.size + 1, 2, none⟩ = some (.int .i64 A0.t) ∧ w'.cell? ⟨v1.heap.size + 1, 3, none⟩ = some (.int .i64 A0.m) ∧ w'.cell? ⟨v1.heap.size + 1, 4, none⟩ = some (.int .i64 A0.r))) 13 (by kernel_rfl) (by intro d; cases d <;> intro _ _ _ _ h <;> exact h) ?_ (fun Q7 hQ7 hN7 hHeld => ?_)
  · exact ⟨PB.out.c 8 _ rfl, A1.out.c 0 _ rfl, A1.out.c 1 _ rfl, A1.out.c 2 _ rfl, A1.out.c 3 _ rfl, A1.out.c 4 _ rfl⟩
  refine rg_take (i := 0) (some 78) (v := ?_) rfl rfl (by kernel_rfl) (by rfl) hQ7 hHeld ?_ ?_
  rotate_left
  · intro w7 hSw; (try dsimp only at hSw); go_simp; all_goals with_reducible rfl
  try simp only [Act.put, List.setIfInBounds_toArray, List.set_cons_zero, List.set_cons_succ]
  refine rg_take (i := 1) (some 79) (v := ?_) rfl rfl (by kernel_rfl) (by rfl) hQ7 hHeld ?_ ?_
  rotate_left
  · intro w7 hSw; (try dsimp only at hSw); go_simp; all_goals with_reducible rfl
  try simp only [Act.put, List.setIfInBounds_toArray, List.set_cons_zero, List.set_cons_succ]
  refine rg_take (i := 2) (some 80) (v := ?_) rfl rfl (by kernel_rfl) (by rfl) hQ7 hHeld ?_ ?_
  rotate_left
  · intro w7 hSw; (try dsimp only at hSw); go_simp; all_goals with_reducible rfl
  try simp only [Act.put, List.setIfInBounds_toArray, List.set_cons_zero, List.set_cons_succ]
  refine rg_take (i := 3) (some 81) (v := ?_) rfl rfl (by kernel_rfl) (by rfl) hQ7 hHeld ?_ ?_
  rotate_left
  · intro w7 hSw; (try dsimp only at hSw); go_simp; all_goals with_reducible rfl
  try simp only [Act.put, List.setIfInBounds_toArray, List.set_cons_zero, List.set_cons_succ]
  refine rg_take (i := 4) (some 82) (v := ?_) rfl rfl (by kernel_rfl) (by rfl) hQ7 hHeld ?_ ?_
  rotate_left
  · intro w7 hSw; (try dsimp only at hSw); go_simp; all_goals with_reducible rfl
  try simp only [Act.put, List.setIfInBounds_toArray, List.set_cons_zero, List.set_cons_succ]
  refine rg_take (i := 5) (some 83) (v := ?_) rfl rfl (by kernel_rfl) (by rfl) hQ7 hHeld ?_ ?_
  rotate_left
  · intro w7 hSw; (try dsimp only at hSw); go_simp; all_goals with_reducible rfl
  try simp only [Act.put, List.setIfInBounds_toArray, List.set_cons_zero, List.set_cons_succ]
  refine rg_take (i := 6) (some 84) (v := ?_) rfl rfl (by kernel_rfl) (by rfl) hQ7 hHeld ?_ ?_
  rotate_left
  · intro w7 hSw; (try dsimp only at hSw); go_simp; all_goals with_reducible rfl
  try simp only [Act.put, List.setIfInBounds_toArray, List.set_cons_zero, List.set_cons_succ]
  refine rg_take (i := 7) (some 85) (v := ?_) rfl rfl (by kernel_rfl) (by rfl) hQ7 hHeld ?_ ?_
  rotate_left
  · intro w7 hSw; (try dsimp only at hSw); go_simp; all_goals with_reducible rfl
  try simp only [Act.put, List.setIfInBounds_toArray, List.set_cons_zero, List.set_cons_succ]
  refine rg_take (i := 8) (some 86) (v := ?_) rfl rfl (by kernel_rfl) (by rfl) hQ7 hHeld ?_ ?_
  rotate_left
  · intro w7 hSw; (try dsimp only at hSw); go_simp; all_goals with_reducible rfl
  try simp only [Act.put, List.setIfInBounds_toArray, List.set_cons_zero, List.set_cons_succ]
  refine rg_one (i := 9) (by kernel_rfl) (rg_step rfl (by rfl) (fun K hK => ?_))
  go_simp
  refine hK.out _ _ ?_ (fun hHeld2 => ?_)
  · exact ⟨(PB.out.alloc _).c 8 _ rfl, (A1.out.alloc _).c 0 _ rfl, (A1.out.alloc _).c 1 _ rfl, (A1.out.alloc _).c 2 _ rfl, (A1.out.alloc _).c 3 _ rfl, (A1.out.alloc _).c 4 _ rfl⟩
  clear hHeld
  have hHeld := hHeld2
  clear hHeld2
  clear hK K
  try simp only [Act.put, List.setIfInBounds_toArray, List.set_cons_zero, List.set_cons_succ]
  refine rg_one (i := 10) (by kernel_rfl) (rg_step rfl (by rfl) (fun K hK => ?_))
  refine rg_append (some 88) _ _ 46 46 rfl rfl rfl _ _ rfl rfl ((PP.out.alloc (.cells #[.int .i64 1, .bool false, .int .i64 A0.no, .int .i64 A0.f, .int .i64 A0.t, .int .i64 A0.m, .int .i64 A0.r] 53)).say (PB.out.alloc (.cells #[.int .i64 1, .bool false, .int .i64 A0.no, .int .i64 A0.f, .int .i64 A0.t, .int .i64 A0.m, .int .i64 A0.r] 53)) (slc_litH _ [⟨true, false, A0⟩] _ 53 (enc := Lt.cells) (sz := 7) (fun _ => rfl) rfl _ rfl) HN.out) ?_
  rintro _ z ⟨A', c', rfl, PPz, PBz, Ez, Gz⟩
  refine hK.out _ _ ?_ (fun hHeld2 => ?_)
  · exact ⟨PBz.c 8 _ rfl, ((A1.out.alloc _).keepB (Gz.block _ (by have := A1.out.lt; simp at this ⊢; omega) HNE.out)).c 0 _ rfl, ((A1.out.alloc _).keepB (Gz.block _ (by have := A1.out.lt; simp at this ⊢; omega) HNE.out)).c 1 _ rfl, ((A1.out.alloc _).keepB (Gz.block _ (by have := A1.out.lt; simp at this ⊢; omega) HNE.out)).c 2 _ rfl, ((A1.out.alloc _).keepB (Gz.block _ (by have := A1.out.lt; simp at this ⊢; omega) HNE.out)).c 3 _ rfl, ((A1.out.alloc _).keepB (Gz.block _ (by have := A1.out.lt; simp at this ⊢; omega) HNE.out)).c 4 _ rfl⟩
  clear hHeld
  have hHeld := hHeld2
  clear hHeld2
  clear hK K
  try simp only [Act.put, List.setIfInBounds_toArray, List.set_cons_zero, List.set_cons_succ]
  have gp8 := PBz.c 8 _ rfl
  have gpf := PBz.f
  have gpl := PBz.lt
  refine rg_take (i := 11) (some 89) (v := ?_) rfl rfl (by kernel_rfl) (by rfl) hQ7 hHeld ?_ ?_
  rotate_left
  · intro w7 hSw; (try dsimp only at hSw); go_simp; all_goals with_reducible rfl
  try simp only [Act.put, List.setIfInBounds_toArray, List.set_cons_zero, List.set_cons_succ]
  refine rg_take (i := 12) (some 90) (v := ?_) rfl rfl (by kernel_rfl) (by rfl) hQ7 hHeld ?_ ?_
  rotate_left
  · intro w7 hSw; (try dsimp only at hSw); go_simp; all_goals with_reducible rfl
  try simp only [Act.put, List.setIfInBounds_toArray, List.set_cons_zero, List.set_cons_succ]
  refine rg_one (i := 13) (by kernel_rfl) (rg_late rfl (by rfl) (by kernel_rfl) (fun K hK => ?_))
  go_simp
  refine hK.out _ _ ?_
  clear hK K
  try simp only [Act.put, List.setIfInBounds_toArray, List.set_cons_zero, List.set_cons_succ]
  refine rg_end (by kernel_rfl) (hN7 _ _ ?_) _
  clear hQ7 hN7 Q7
  replace EP := Lib.hid (below_set (((EP.out.drew).alloc (by have := PP.out.lt; simpa using Nat.le_of_lt this) _).trans Ez) ⟨P, 8, none⟩ (.slice A' (n + 1) c') (Nat.le_refl _))
  replace PB := Lib.hid (PBz.set (j := 8) (by simp [Pc]) (.slice A' (n + 1) c'))
  replace PP := Lib.hid (PPz.set 8 (.slice A' (n + 1) c'))
  clear PBz PPz Ez Gz
  go_wp2_with fail
  go_ret
  have HA1 := HA0.out
  subst HA1
  exact went_offer0 H2.out LX.out LY.out HLN.out HE0.out HM.out PB.out PP.out EP.out
set_option maxHeartbeats 1600000 in
set_option maxRecDepth 100000 in
theorem step_10t (x y : Bd) (A : Option Addr) (n c P L : Nat) (l : List Lt) (sk ssi sn : Int) (mi ra : Int) (w : World) (hP : Blk w P (Pc x y A n c)) (hp : PR w P x y A n c l) (h2 : Two ⟨x.bl, y.bl, l⟩) (hlx : LenS L x.bl) (hly : LenS L y.bl) (hL : L ≤ 900) (hn : n ≤ 900) (hk0 : 0 ≤ sk ∧ sk < 256) (hs0 : 0 ≤ ssi ∧ ssi < 256) (hn0 : 0 ≤ sn ∧ sn < 256) (hsi : ssi.tmod 2 = 1) (hsk : sk.tmod 4 = 0) :
    Calls Try.prog 27 #[.pointer (some ⟨P, 0, none⟩), .agg #[.int .u8 sk, .int .u8 ssi, .int .u8 sn, .bool true, .int .i64 mi, .int .i64 ra]] w (Went w P L n) := by
  have H2 := Lib.hid h2
  have LX := Lib.hid hlx
  have LY := Lib.hid hly
  have HL := Lib.hid hL
  have HN := Lib.hid (show n ≤ 1000 by omega)
  have ks : IntKind.i64.wrap ssi = ssi := IntWalk.i64_in _ (by omega)
  have kn : IntKind.i64.wrap sn = sn := IntWalk.i64_in _ (by omega)
  have HN0 := Lib.hid hn0
  clear h2 hlx hly hL hn hk0 hs0 hn0
  have E := Lib.hid (ext_refl w)
  have PB := Lib.hid (hP)
  have PP := Lib.hid (hp)
  have HPL := Lib.hid hp.lt
  have HLN := Lib.hid hp.hn
  clear hP hp
  replace E := Lib.hid (ext_alloc E.out (.cells #[.int .u8 sk, .int .u8 ssi, .int .u8 sn, .bool true, .int .i64 mi, .int .i64 ra] 50))
  replace PB := Lib.hid (PB.out.alloc (.cells #[.int .u8 sk, .int .u8 ssi, .int .u8 sn, .bool true, .int .i64 mi, .int .i64 ra] 50))
  replace PP := Lib.hid (PP.out.alloc (.cells #[.int .u8 sk, .int .u8 ssi, .int .u8 sn, .bool true, .int .i64 mi, .int .i64 ra] 50))
  have SX := Lib.hid (Blk.newH w [.int .u8 sk, .int .u8 ssi, .int .u8 sn, .bool true, .int .i64 mi, .int .i64 ra] 50 (w.heap.size) (by first | rfl | simp))
  go_enter Try.func27, Try.ntmps27
  have pb0 := PB.out.c 0 _ rfl
  have pb1 := PB.out.c 1 _ rfl
  have pb2 := PB.out.c 2 _ rfl
  have pb3 := PB.out.c 3 _ rfl
  have pb4 := PB.out.c 4 _ rfl
  have pb5 := PB.out.c 5 _ rfl
  have pb6 := PB.out.c 6 _ rfl
  have pb7 := PB.out.c 7 _ rfl
  have pb8 := PB.out.c 8 _ rfl
  have pbf := PB.out.f
  have pbl := PB.out.lt
  have sx0 := SX.out.c 0 _ rfl
  have sx1 := SX.out.c 1 _ rfl
  have sx2 := SX.out.c 2 _ rfl
  have sx3 := SX.out.c 3 _ rfl
  have sx4 := SX.out.c 4 _ rfl
  have sx5 := SX.out.c 5 _ rfl
  have sxf := SX.out.f
  have sxl := SX.out.lt
  go_wp2_with fail
  clear pb0 pb1 pb2 pb3 pb4 pb5 pb6 pb7 pb8 pbf pbl sx0 sx1 sx2 sx3 sx4 sx5 sxf sxl
  replace E := Lib.hid (ext_alloc E.out (.cells #[.int .i64 y.own, .int .i64 y.ot, .slice y.ag.A y.ag.l.length y.ag.c, .slice y.op.A y.op.l.length y.op.c] 24))
  replace PB := Lib.hid (PB.out.alloc (.cells #[.int .i64 y.own, .int .i64 y.ot, .slice y.ag.A y.ag.l.length y.ag.c, .slice y.op.A y.op.l.length y.op.c] 24))
  replace PP := Lib.hid (PP.out.alloc (.cells #[.int .i64 y.own, .int .i64 y.ot, .slice y.ag.A y.ag.l.length y.ag.c, .slice y.op.A y.op.l.length y.op.c] 24))
  replace SX := Lib.hid (SX.out.alloc (.cells #[.int .i64 y.own, .int .i64 y.ot, .slice y.ag.A y.ag.l.length y.ag.c, .slice y.op.A y.op.l.length y.op.c] 24))
  have BB := Lib.hid (Blk.newH (w.alloc (.cells #[.int .u8 sk, .int .u8 ssi, .int .u8 sn, .bool true, .int .i64 mi, .int .i64 ra] 50)) [.int .i64 y.own, .int .i64 y.ot, .slice y.ag.A y.ag.l.length y.ag.c, .slice y.op.A y.op.l.length y.op.c] 24 (w.heap.size + 1) (by first | rfl | simp))
  have SS := Lib.hid (show ∀ w', Below ((w.alloc (.cells #[.int .u8 sk, .int .u8 ssi, .int .u8 sn, .bool true, .int .i64 mi, .int .i64 ra] 50)).alloc (.cells #[.int .i64 y.own, .int .i64 y.ot, .slice y.ag.A y.ag.l.length y.ag.c, .slice y.op.A y.op.l.length y.op.c] 24)).heap.size ((w.alloc (.cells #[.int .u8 sk, .int .u8 ssi, .int .u8 sn, .bool true, .int .i64 mi, .int .i64 ra] 50)).alloc (.cells #[.int .i64 y.own, .int .i64 y.ot, .slice y.ag.A y.ag.l.length y.ag.c, .slice y.op.A y.op.l.length y.op.c] 24)) w' → (fun w' => Below ((w.alloc (.cells #[.int .u8 sk, .int .u8 ssi, .int .u8 sn, .bool true, .int .i64 mi, .int .i64 ra] 50)).alloc (.cells #[.int .i64 y.own, .int .i64 y.ot, .slice y.ag.A y.ag.l.length y.ag.c, .slice y.op.A y.op.l.length y.op.c] 24)).heap.size ((w.alloc (.cells #[.int .u8 sk, .int .u8 ssi, .int .u8 sn, .bool true, .int .i64 mi, .int .i64 ra] 50)).alloc (.cells #[.int .i64 y.own, .int .i64 y.ot, .slice y.ag.A y.ag.l.length y.ag.c, .slice y.op.A y.op.l.length y.op.c] 24)) w' ∧ w'.cell? ⟨w.heap.size + 1, 0, none⟩ = some (.int .i64 y.own) ∧ w'.cell? ⟨w.heap.size + 1, 1, none⟩ = some (.int .i64 y.ot)) w' from fun w' h => ⟨h, (BB.out.ext h).c 0 _ rfl, (BB.out.ext h).c 1 _ rfl⟩)
  refine rg_begin (S := (fun w' => Below ((w.alloc (.cells #[.int .u8 sk, .int .u8 ssi, .int .u8 sn, .bool true, .int .i64 mi, .int .i64 ra] 50)).alloc (.cells #[.int .i64 y.own, .int .i64 y.ot, .slice y.ag.A y.ag.l.length y.ag.c, .slice y.op.A y.op.l.length y.op.c] 24)).heap.size ((w.alloc (.cells #[.int .u8 sk, .int .u8 ssi, .int .u8 sn, .bool true, .int .i64 mi, .int .i64 ra] 50)).alloc (.cells #[.int .i64 y.own, .int .i64 y.ot, .slice y.ag.A y.ag.l.length y.ag.c, .slice y.op.A y.op.l.length y.op.c] 24)) w' ∧ w'.cell? ⟨w.heap.size + 1, 0, none⟩ = some (.int .i64 y.own) ∧ w'.cell? ⟨w.heap.size + 1, 1, none⟩ = some (.int .i64 y.ot))) 6 (by kernel_rfl) (by intro d; cases d <;> intro _ _ _ _ h <;> exact h) ?_ (fun Q7 hQ7 hN7 hHeld => ?_)
  · exact SS.out _ (ext_drew (ext_refl _))
  refine rg_take (i := 0) (some 50) (v := ?_) rfl rfl (by kernel_rfl) (by rfl) hQ7 hHeld ?_ ?_
  rotate_left
  · intro w7 hSw; (try dsimp only at hSw); go_simp; all_goals with_reducible rfl
  try simp only [Act.put, List.setIfInBounds_toArray, List.set_cons_zero, List.set_cons_succ]
  refine rg_take (i := 1) (some 51) (v := ?_) rfl rfl (by kernel_rfl) (by rfl) hQ7 hHeld ?_ ?_
  rotate_left
  · intro w7 hSw; (try dsimp only at hSw); go_simp; all_goals with_reducible rfl
  try simp only [Act.put, List.setIfInBounds_toArray, List.set_cons_zero, List.set_cons_succ]
  refine rg_take (i := 2) (some 52) (v := ?_) rfl rfl (by kernel_rfl) (by rfl) hQ7 hHeld ?_ ?_
  rotate_left
  · intro w7 hSw; (try dsimp only at hSw); go_simp; all_goals with_reducible rfl
  try simp only [Act.put, List.setIfInBounds_toArray, List.set_cons_zero, List.set_cons_succ]
  refine rg_take (i := 3) (some 53) (v := ?_) rfl rfl (by kernel_rfl) (by rfl) hQ7 hHeld ?_ ?_
  rotate_left
  · intro w7 hSw; (try dsimp only at hSw); go_simp; all_goals with_reducible rfl
  try simp only [Act.put, List.setIfInBounds_toArray, List.set_cons_zero, List.set_cons_succ]
  refine rg_take (i := 4) (some 7) (v := ?_) rfl rfl (by kernel_rfl) (by rfl) hQ7 hHeld ?_ ?_
  rotate_left
  · intro w7 hSw; (try dsimp only at hSw); go_simp; all_goals with_reducible rfl
  try simp only [Act.put, List.setIfInBounds_toArray, List.set_cons_zero, List.set_cons_succ]
  refine rg_take (i := 5) (some 8) (v := ?_) rfl rfl (by kernel_rfl) (by rfl) hQ7 hHeld ?_ ?_
  rotate_left
  · intro w7 hSw; (try dsimp only at hSw); go_simp; all_goals with_reducible rfl
  try simp only [Act.put, List.setIfInBounds_toArray, List.set_cons_zero, List.set_cons_succ]
  refine rg_end (by kernel_rfl) (hN7 _ _ ?_) _
  clear hQ7 hN7 Q7
  have BX := hHeld.1
  clear SS
  replace E := Lib.hid (ext_trans E.out BX)
  replace PB := Lib.hid (PB.out.ext BX)
  replace PP := Lib.hid (PP.out.ext BX)
  replace SX := Lib.hid (SX.out.ext BX)
  replace BB := Lib.hid (BB.out.ext BX)
  clear BX
  obtain ⟨z9, hNz9⟩ : ∃ W0, W0 = ((w.alloc (.cells #[.int .u8 sk, .int .u8 ssi, .int .u8 sn, .bool true, .int .i64 mi, .int .i64 ra] 50)).alloc (.cells #[.int .i64 y.own, .int .i64 y.ot, .slice y.ag.A y.ag.l.length y.ag.c, .slice y.op.A y.op.l.length y.op.c] 24)).drew := ⟨_, rfl⟩
  rw [← hNz9] at E PB PP SX BB ⊢
  clear hNz9
  obtain ⟨E0, hE0⟩ : ∃ e, y.bl.offE y.ot y.own mi ra = e := ⟨_, rfl⟩
  obtain ⟨A0, hA0⟩ : ∃ e, y.bl.offX y.ot y.own mi ra = e := ⟨_, rfl⟩
  have HE0 := Lib.hid hE0
  have HA0 := Lib.hid hA0
  clear hE0 hA0
  have PP0 := PP
  have c0 := BB.out.c 0 _ rfl
  have c1 := BB.out.c 1 _ rfl
  have c2 := BB.out.c 2 _ rfl
  have c3 := BB.out.c 3 _ rfl
  have c4 := SX.out.c 3 _ rfl
  have c5 := SX.out.c 4 _ rfl
  have c6 := SX.out.c 5 _ rfl
  go_wp2_with fail
  refine (offer_at (b := y) (f := y.ot) (t := y.own) (m := mi) (r := ra) _ A0 E0 rfl HA0.out HE0.out PP.out.hy (LY.out.lens (by have := HL.out; omega))).mono ?_
  rintro e v1 ⟨m, rfl, hm, hM, B, hF⟩
  clear c0 c1 c2 c3 c4 c5 c6
  replace E := Lib.hid (ext_trans E.out B)
  replace PB := Lib.hid (PB.out.ext B)
  replace PP := Lib.hid (PP.out.ext B)
  replace SX := Lib.hid (SX.out.ext B)
  replace BB := Lib.hid (BB.out.ext B)
  clear B
  have HM := Lib.hid hm
  have HK := Lib.hid hM
  have HF := Lib.hid hF
  clear hm hM hF
  have HS := Lib.hid (show P < v1.heap.size from PP.out.lt)
  have HNE := Lib.hid (show some (v1.heap.size + 1) ≠ (Value.slice A n c).ownBlock from fun e => by have := (PP.out.own.lt _ e.symm).1; omega)
  have XX := HNE
  replace E := Lib.hid (ext_alloc E.out (.cells #[.int .i64 m.own, .int .i64 m.ot, .slice m.ag.A m.ag.l.length m.ag.c, .slice m.op.A m.op.l.length m.op.c] 24))
  replace PB := Lib.hid (PB.out.alloc (.cells #[.int .i64 m.own, .int .i64 m.ot, .slice m.ag.A m.ag.l.length m.ag.c, .slice m.op.A m.op.l.length m.op.c] 24))
  replace PP := Lib.hid (PP.out.alloc (.cells #[.int .i64 m.own, .int .i64 m.ot, .slice m.ag.A m.ag.l.length m.ag.c, .slice m.op.A m.op.l.length m.op.c] 24))
  replace SX := Lib.hid (SX.out.alloc (.cells #[.int .i64 m.own, .int .i64 m.ot, .slice m.ag.A m.ag.l.length m.ag.c, .slice m.op.A m.op.l.length m.op.c] 24))
  replace BB := Lib.hid (BB.out.alloc (.cells #[.int .i64 m.own, .int .i64 m.ot, .slice m.ag.A m.ag.l.length m.ag.c, .slice m.op.A m.op.l.length m.op.c] 24))
  replace HK := Lib.hid (HK.out.alloc (.cells #[.int .i64 m.own, .int .i64 m.ot, .slice m.ag.A m.ag.l.length m.ag.c, .slice m.op.A m.op.l.length m.op.c] 24))
  have M1 := Lib.hid (Blk.newH v1 [.int .i64 m.own, .int .i64 m.ot, .slice m.ag.A m.ag.l.length m.ag.c, .slice m.op.A m.op.l.length m.op.c] 24 (v1.heap.size) (by first | rfl | simp))
  replace E := Lib.hid (ext_alloc E.out (.cells #[.int .i64 A0.no, .int .i64 A0.f, .int .i64 A0.t, .int .i64 A0.m, .int .i64 A0.r] 26))
  replace PB := Lib.hid (PB.out.alloc (.cells #[.int .i64 A0.no, .int .i64 A0.f, .int .i64 A0.t, .int .i64 A0.m, .int .i64 A0.r] 26))
  replace PP := Lib.hid (PP.out.alloc (.cells #[.int .i64 A0.no, .int .i64 A0.f, .int .i64 A0.t, .int .i64 A0.m, .int .i64 A0.r] 26))
  replace SX := Lib.hid (SX.out.alloc (.cells #[.int .i64 A0.no, .int .i64 A0.f, .int .i64 A0.t, .int .i64 A0.m, .int .i64 A0.r] 26))
  replace BB := Lib.hid (BB.out.alloc (.cells #[.int .i64 A0.no, .int .i64 A0.f, .int .i64 A0.t, .int .i64 A0.m, .int .i64 A0.r] 26))
  replace HK := Lib.hid (HK.out.alloc (.cells #[.int .i64 A0.no, .int .i64 A0.f, .int .i64 A0.t, .int .i64 A0.m, .int .i64 A0.r] 26))
  replace M1 := Lib.hid (M1.out.alloc (.cells #[.int .i64 A0.no, .int .i64 A0.f, .int .i64 A0.t, .int .i64 A0.m, .int .i64 A0.r] 26))
  have A1 := Lib.hid (Blk.newH (v1.alloc (.cells #[.int .i64 m.own, .int .i64 m.ot, .slice m.ag.A m.ag.l.length m.ag.c, .slice m.op.A m.op.l.length m.op.c] 24)) [.int .i64 A0.no, .int .i64 A0.f, .int .i64 A0.t, .int .i64 A0.m, .int .i64 A0.r] 26 (v1.heap.size + 1) (by first | rfl | simp))
  by_cases he : E0 = 0
  rotate_left
  · have f0 : (E0 == 0) = false := by simp [he]
    clear he
    go_wp2_with fail
    go_ret
    exact went_same H2.out LX.out LY.out PB.out PP.out (E.out.mono (Nat.le_of_lt HPL.out))
  subst he
  clear BB SX
  go_wp2_with fail
  have SZ := Lib.hid (show P < ((v1.alloc (.cells #[.int .i64 m.own, .int .i64 m.ot, .slice m.ag.A m.ag.l.length m.ag.c, .slice m.op.A m.op.l.length m.op.c] 24)).alloc (.cells #[.int .i64 A0.no, .int .i64 A0.f, .int .i64 A0.t, .int .i64 A0.m, .int .i64 A0.r] 26)).heap.size from PP.out.lt)
  have SS := Lib.hid (show ∀ w', Below ((v1.alloc (.cells #[.int .i64 m.own, .int .i64 m.ot, .slice m.ag.A m.ag.l.length m.ag.c, .slice m.op.A m.op.l.length m.op.c] 24)).alloc (.cells #[.int .i64 A0.no, .int .i64 A0.f, .int .i64 A0.t, .int .i64 A0.m, .int .i64 A0.r] 26)).heap.size ((v1.alloc (.cells #[.int .i64 m.own, .int .i64 m.ot, .slice m.ag.A m.ag.l.length m.ag.c, .slice m.op.A m.op.l.length m.op.c] 24)).alloc (.cells #[.int .i64 A0.no, .int .i64 A0.f, .int .i64 A0.t, .int .i64 A0.m, .int .i64 A0.r] 26)) w' → (fun w' => Below ((v1.alloc (.cells #[.int .i64 m.own, .int .i64 m.ot, .slice m.ag.A m.ag.l.length m.ag.c, .slice m.op.A m.op.l.length m.op.c] 24)).alloc (.cells #[.int .i64 A0.no, .int .i64 A0.f, .int .i64 A0.t, .int .i64 A0.m, .int .i64 A0.r] 26)).heap.size ((v1.alloc (.cells #[.int .i64 m.own, .int .i64 m.ot, .slice m.ag.A m.ag.l.length m.ag.c, .slice m.op.A m.op.l.length m.op.c] 24)).alloc (.cells #[.int .i64 A0.no, .int .i64 A0.f, .int .i64 A0.t, .int .i64 A0.m, .int .i64 A0.r] 26)) w' ∧ w'.cell? ⟨v1.heap.size, 0, none⟩ = some (.int .i64 m.own) ∧ w'.cell? ⟨v1.heap.size, 1, none⟩ = some (.int .i64 m.ot) ∧ w'.cell? ⟨v1.heap.size, 2, none⟩ = some (.slice m.ag.A m.ag.l.length m.ag.c) ∧ w'.cell? ⟨v1.heap.size, 3, none⟩ = some (.slice m.op.A m.op.l.length m.op.c)) w' from fun w' h => ⟨h, (M1.out.ext h).c 0 _ rfl, (M1.out.ext h).c 1 _ rfl, (M1.out.ext h).c 2 _ rfl, (M1.out.ext h).c 3 _ rfl⟩)
  refine rg_begin (S := (fun w' => Below ((v1.alloc (.cells #[.int .i64 m.own, .int .i64 m.ot, .slice m.ag.A m.ag.l.length m.ag.c, .slice m.op.A m.op.l.length m.op.c] 24)).alloc (.cells #[.int .i64 A0.no, .int .i64 A0.f, .int .i64 A0.t, .int .i64 A0.m, .int .i64 A0.r] 26)).heap.size ((v1.alloc (.cells #[.int .i64 m.own, .int .i64 m.ot, .slice m.ag.A m.ag.l.length m.ag.c, .slice m.op.A m.op.l.length m.op.c] 24)).alloc (.cells #[.int .i64 A0.no, .int .i64 A0.f, .int .i64 A0.t, .int .i64 A0.m, .int .i64 A0.r] 26)) w' ∧ w'.cell? ⟨v1.heap.size, 0, none⟩ = some (.int .i64 m.own) ∧ w'.cell? ⟨v1.heap.size, 1, none⟩ = some (.int .i64 m.ot) ∧ w'.cell? ⟨v1.heap.size, 2, none⟩ = some (.slice m.ag.A m.ag.l.length m.ag.c) ∧ w'.cell? ⟨v1.heap.size, 3, none⟩ = some (.slice m.op.A m.op.l.length m.op.c))) 6 (by kernel_rfl) (by intro d; cases d <;> intro _ _ _ _ h <;> exact h) ?_ (fun Q7 hQ7 hN7 hHeld => ?_)
  · exact SS.out _ (ext_drew (ext_refl _))
  refine rg_take (i := 0) (some 72) (v := ?_) rfl rfl (by kernel_rfl) (by rfl) hQ7 hHeld ?_ ?_
  rotate_left
  · intro w7 hSw; (try dsimp only at hSw); go_simp; all_goals with_reducible rfl
  try simp only [Act.put, List.setIfInBounds_toArray, List.set_cons_zero, List.set_cons_succ]
  refine rg_take (i := 1) (some 73) (v := ?_) rfl rfl (by kernel_rfl) (by rfl) hQ7 hHeld ?_ ?_
  rotate_left
  · intro w7 hSw; (try dsimp only at hSw); go_simp; all_goals with_reducible rfl
  try simp only [Act.put, List.setIfInBounds_toArray, List.set_cons_zero, List.set_cons_succ]
  refine rg_take (i := 2) (some 74) (v := ?_) rfl rfl (by kernel_rfl) (by rfl) hQ7 hHeld ?_ ?_
  rotate_left
  · intro w7 hSw; (try dsimp only at hSw); go_simp; all_goals with_reducible rfl
  try simp only [Act.put, List.setIfInBounds_toArray, List.set_cons_zero, List.set_cons_succ]
  refine rg_take (i := 3) (some 75) (v := ?_) rfl rfl (by kernel_rfl) (by rfl) hQ7 hHeld ?_ ?_
  rotate_left
  · intro w7 hSw; (try dsimp only at hSw); go_simp; all_goals with_reducible rfl
  try simp only [Act.put, List.setIfInBounds_toArray, List.set_cons_zero, List.set_cons_succ]
  refine rg_take (i := 4) (some 76) (v := ?_) rfl rfl (by kernel_rfl) (by rfl) hQ7 hHeld ?_ ?_
  rotate_left
  · intro w7 hSw; (try dsimp only at hSw); go_simp; all_goals with_reducible rfl
  try simp only [Act.put, List.setIfInBounds_toArray, List.set_cons_zero, List.set_cons_succ]
  refine rg_take (i := 5) (some 77) (v := ?_) rfl rfl (by kernel_rfl) (by rfl) hQ7 hHeld ?_ ?_
  rotate_left
  · intro w7 hSw; (try dsimp only at hSw); go_simp; all_goals with_reducible rfl
  try simp only [Act.put, List.setIfInBounds_toArray, List.set_cons_zero, List.set_cons_succ]
  have PBx := PB.out
  have gp0 := PBx.c 0 _ rfl
  have gp1 := PBx.c 1 _ rfl
  have gp2 := PBx.c 2 _ rfl
  have gp3 := PBx.c 3 _ rfl
  have gp4 := PBx.c 4 _ rfl
  have gp5 := PBx.c 5 _ rfl
  have gp6 := PBx.c 6 _ rfl
  have gp7 := PBx.c 7 _ rfl
  have gp8 := PBx.c 8 _ rfl
  have gpf := PBx.f
  have gpl := PBx.lt
  refine rg_one (i := 6) (by kernel_rfl) (rg_late rfl (by rfl) (by kernel_rfl) (fun K hK => ?_))
  go_simp
  refine hK.out _ _ ?_
  clear hK K
  try simp only [Act.put, List.setIfInBounds_toArray, List.set_cons_zero, List.set_cons_succ]
  refine rg_end (by kernel_rfl) (hN7 _ _ ?_) _
  clear hQ7 hN7 Q7
  have BX := hHeld.1
  clear SS
  clear BX
  replace A1 := Lib.hid (((((A1.out.other (p := ⟨P, 4, none⟩) (.int .i64 m.own) (by show P ≠ _; have := HS.out; omega)).other (p := ⟨P, 5, none⟩) (.int .i64 m.ot) (by show P ≠ _; have := HS.out; omega)).other (p := ⟨P, 6, none⟩) (.slice m.ag.A m.ag.l.length m.ag.c) (by show P ≠ _; have := HS.out; omega)).other (p := ⟨P, 7, none⟩) (.slice m.op.A m.op.l.length m.op.c) (by show P ≠ _; have := HS.out; omega)))
  obtain ⟨ho1, ho2⟩ := PP0.out.off1 HF.out
  have EP := Lib.hid (E.out.mono (Nat.le_of_lt HPL.out))
  replace PP := Lib.hid (((((PP.out.side1 HK.out ho1 ho2).set 4 (.int .i64 m.own)).set 5 (.int .i64 m.ot)).set 6 (.slice m.ag.A m.ag.l.length m.ag.c)).set 7 (.slice m.op.A m.op.l.length m.op.c))
  replace PB := Lib.hid (((((PB.out.set (j := 4) (by simp [Pc]) (.int .i64 m.own)).set (j := 5) (by simp [Pc]) (.int .i64 m.ot)).set (j := 6) (by simp [Pc]) (.slice m.ag.A m.ag.l.length m.ag.c)).set (j := 7) (by simp [Pc]) (.slice m.op.A m.op.l.length m.op.c)))
  replace EP := Lib.hid (below_set (below_set (below_set (below_set (EP.out) ⟨P, 4, none⟩ (.int .i64 m.own) (Nat.le_refl _)) ⟨P, 5, none⟩ (.int .i64 m.ot) (Nat.le_refl _)) ⟨P, 6, none⟩ (.slice m.ag.A m.ag.l.length m.ag.c) (Nat.le_refl _)) ⟨P, 7, none⟩ (.slice m.op.A m.op.l.length m.op.c) (Nat.le_refl _))
  clear ho1 ho2
  clear SZ
  clear E HK M1
  replace PB := Lib.hid PB.out.drew
  replace A1 := Lib.hid A1.out.drew
  replace EP := Lib.hid EP.out.drew
  replace PP := Lib.hid (PP.out.ext (ext_drew (ext_refl _)))
  obtain ⟨z0, hNz0⟩ : ∃ W0, W0 = ((((((v1.alloc (.cells #[.int .i64 m.own, .int .i64 m.ot, .slice m.ag.A m.ag.l.length m.ag.c, .slice m.op.A m.op.l.length m.op.c] 24)).alloc (.cells #[.int .i64 A0.no, .int .i64 A0.f, .int .i64 A0.t, .int .i64 A0.m, .int .i64 A0.r] 26)).setCell ⟨P, 4, none⟩ (.int .i64 m.own)).setCell ⟨P, 5, none⟩ (.int .i64 m.ot)).setCell ⟨P, 6, none⟩ (.slice m.ag.A m.ag.l.length m.ag.c)).setCell ⟨P, 7, none⟩ (.slice m.op.A m.op.l.length m.op.c)).drew := ⟨_, rfl⟩
  rw [← hNz0] at PB PP A1 EP ⊢
  clear hNz0
  go_wp2_with fail
  have DD := ext_drew (ext_refl z0)
  replace PB := Lib.hid (PB.out.ext DD)
  replace PP := Lib.hid (PP.out.ext DD)
  replace A1 := Lib.hid (A1.out.ext DD)
  clear DD
  refine rg_begin (S := (fun w' => w'.cell? ⟨P, 8, none⟩ = some (.slice A n c) ∧ w'.cell? ⟨v1.heap.size + 1, 0, none⟩ = some (.int .i64 A0.no) ∧ w'.cell? ⟨v1.heap.size + 1, 1, none⟩ = some (.int .i64 A0.f) ∧ w'.cell? ⟨v1.heap.size + 1, 2, none⟩ = some (.int .i64 A0.t) ∧ w'.cell? ⟨v1.heap.size + 1, 3, none⟩ = some (.int .i64 A0.m) ∧ w'.cell? ⟨v1.heap.size + 1, 4, none⟩ = some (.int .i64 A0.r))) 13 (by kernel_rfl) (by intro d; cases d <;> intro _ _ _ _ h <;> exact h) ?_ (fun Q7 hQ7 hN7 hHeld => ?_)
  · exact ⟨PB.out.c 8 _ rfl, A1.out.c 0 _ rfl, A1.out.c 1 _ rfl, A1.out.c 2 _ rfl, A1.out.c 3 _ rfl, A1.out.c 4 _ rfl⟩
  refine rg_take (i := 0) (some 78) (v := ?_) rfl rfl (by kernel_rfl) (by rfl) hQ7 hHeld ?_ ?_
  rotate_left
  · intro w7 hSw; (try dsimp only at hSw); go_simp; all_goals with_reducible rfl
  try simp only [Act.put, List.setIfInBounds_toArray, List.set_cons_zero, List.set_cons_succ]
  refine rg_take (i := 1) (some 79) (v := ?_) rfl rfl (by kernel_rfl) (by rfl) hQ7 hHeld ?_ ?_
  rotate_left
  · intro w7 hSw; (try dsimp only at hSw); go_simp; all_goals with_reducible rfl
  try simp only [Act.put, List.setIfInBounds_toArray, List.set_cons_zero, List.set_cons_succ]
  refine rg_take (i := 2) (some 80) (v := ?_) rfl rfl (by kernel_rfl) (by rfl) hQ7 hHeld ?_ ?_
  rotate_left
  · intro w7 hSw; (try dsimp only at hSw); go_simp; all_goals with_reducible rfl
  try simp only [Act.put, List.setIfInBounds_toArray, List.set_cons_zero, List.set_cons_succ]
  refine rg_take (i := 3) (some 81) (v := ?_) rfl rfl (by kernel_rfl) (by rfl) hQ7 hHeld ?_ ?_
  rotate_left
  · intro w7 hSw; (try dsimp only at hSw); go_simp; all_goals with_reducible rfl
  try simp only [Act.put, List.setIfInBounds_toArray, List.set_cons_zero, List.set_cons_succ]
  refine rg_take (i := 4) (some 82) (v := ?_) rfl rfl (by kernel_rfl) (by rfl) hQ7 hHeld ?_ ?_
  rotate_left
  · intro w7 hSw; (try dsimp only at hSw); go_simp; all_goals with_reducible rfl
  try simp only [Act.put, List.setIfInBounds_toArray, List.set_cons_zero, List.set_cons_succ]
  refine rg_take (i := 5) (some 83) (v := ?_) rfl rfl (by kernel_rfl) (by rfl) hQ7 hHeld ?_ ?_
  rotate_left
  · intro w7 hSw; (try dsimp only at hSw); go_simp; all_goals with_reducible rfl
  try simp only [Act.put, List.setIfInBounds_toArray, List.set_cons_zero, List.set_cons_succ]
  refine rg_take (i := 6) (some 84) (v := ?_) rfl rfl (by kernel_rfl) (by rfl) hQ7 hHeld ?_ ?_
  rotate_left
  · intro w7 hSw; (try dsimp only at hSw); go_simp; all_goals with_reducible rfl
  try simp only [Act.put, List.setIfInBounds_toArray, List.set_cons_zero, List.set_cons_succ]
  refine rg_take (i := 7) (some 85) (v := ?_) rfl rfl (by kernel_rfl) (by rfl) hQ7 hHeld ?_ ?_
  rotate_left
  · intro w7 hSw; (try dsimp only at hSw); go_simp; all_goals with_reducible rfl
  try simp only [Act.put, List.setIfInBounds_toArray, List.set_cons_zero, List.set_cons_succ]
  refine rg_take (i := 8) (some 86) (v := ?_) rfl rfl (by kernel_rfl) (by rfl) hQ7 hHeld ?_ ?_
  rotate_left
  · intro w7 hSw; (try dsimp only at hSw); go_simp; all_goals with_reducible rfl
  try simp only [Act.put, List.setIfInBounds_toArray, List.set_cons_zero, List.set_cons_succ]
  refine rg_one (i := 9) (by kernel_rfl) (rg_step rfl (by rfl) (fun K hK => ?_))
  go_simp
  refine hK.out _ _ ?_ (fun hHeld2 => ?_)
  · exact ⟨(PB.out.alloc _).c 8 _ rfl, (A1.out.alloc _).c 0 _ rfl, (A1.out.alloc _).c 1 _ rfl, (A1.out.alloc _).c 2 _ rfl, (A1.out.alloc _).c 3 _ rfl, (A1.out.alloc _).c 4 _ rfl⟩
  clear hHeld
  have hHeld := hHeld2
  clear hHeld2
  clear hK K
  try simp only [Act.put, List.setIfInBounds_toArray, List.set_cons_zero, List.set_cons_succ]
  refine rg_one (i := 10) (by kernel_rfl) (rg_step rfl (by rfl) (fun K hK => ?_))
  refine rg_append (some 88) _ _ 46 46 rfl rfl rfl _ _ rfl rfl ((PP.out.alloc (.cells #[.int .i64 0, .bool false, .int .i64 A0.no, .int .i64 A0.f, .int .i64 A0.t, .int .i64 A0.m, .int .i64 A0.r] 53)).say (PB.out.alloc (.cells #[.int .i64 0, .bool false, .int .i64 A0.no, .int .i64 A0.f, .int .i64 A0.t, .int .i64 A0.m, .int .i64 A0.r] 53)) (slc_litH _ [⟨false, false, A0⟩] _ 53 (enc := Lt.cells) (sz := 7) (fun _ => rfl) rfl _ rfl) HN.out) ?_
  rintro _ z ⟨A', c', rfl, PPz, PBz, Ez, Gz⟩
  refine hK.out _ _ ?_ (fun hHeld2 => ?_)
  · exact ⟨PBz.c 8 _ rfl, ((A1.out.alloc _).keepB (Gz.block _ (by have := A1.out.lt; simp at this ⊢; omega) HNE.out)).c 0 _ rfl, ((A1.out.alloc _).keepB (Gz.block _ (by have := A1.out.lt; simp at this ⊢; omega) HNE.out)).c 1 _ rfl, ((A1.out.alloc _).keepB (Gz.block _ (by have := A1.out.lt; simp at this ⊢; omega) HNE.out)).c 2 _ rfl, ((A1.out.alloc _).keepB (Gz.block _ (by have := A1.out.lt; simp at this ⊢; omega) HNE.out)).c 3 _ rfl, ((A1.out.alloc _).keepB (Gz.block _ (by have := A1.out.lt; simp at this ⊢; omega) HNE.out)).c 4 _ rfl⟩
  clear hHeld
  have hHeld := hHeld2
  clear hHeld2
  clear hK K
  try simp only [Act.put, List.setIfInBounds_toArray, List.set_cons_zero, List.set_cons_succ]
  have gp8 := PBz.c 8 _ rfl
  have gpf := PBz.f
  have gpl := PBz.lt
  refine rg_take (i := 11) (some 89) (v := ?_) rfl rfl (by kernel_rfl) (by rfl) hQ7 hHeld ?_ ?_
  rotate_left
  · intro w7 hSw; (try dsimp only at hSw); go_simp; all_goals with_reducible rfl
  try simp only [Act.put, List.setIfInBounds_toArray, List.set_cons_zero, List.set_cons_succ]
  refine rg_take (i := 12) (some 90) (v := ?_) rfl rfl (by kernel_rfl) (by rfl) hQ7 hHeld ?_ ?_
  rotate_left
  · intro w7 hSw; (try dsimp only at hSw); go_simp; all_goals with_reducible rfl
  try simp only [Act.put, List.setIfInBounds_toArray, List.set_cons_zero, List.set_cons_succ]
  refine rg_one (i := 13) (by kernel_rfl) (rg_late rfl (by rfl) (by kernel_rfl) (fun K hK => ?_))
  go_simp
  refine hK.out _ _ ?_
  clear hK K
  try simp only [Act.put, List.setIfInBounds_toArray, List.set_cons_zero, List.set_cons_succ]
  refine rg_end (by kernel_rfl) (hN7 _ _ ?_) _
  clear hQ7 hN7 Q7
  replace EP := Lib.hid (below_set (((EP.out.drew).alloc (by have := PP.out.lt; simpa using Nat.le_of_lt this) _).trans Ez) ⟨P, 8, none⟩ (.slice A' (n + 1) c') (Nat.le_refl _))
  replace PB := Lib.hid (PBz.set (j := 8) (by simp [Pc]) (.slice A' (n + 1) c'))
  replace PP := Lib.hid (PPz.set 8 (.slice A' (n + 1) c'))
  clear PBz PPz Ez Gz
  go_wp2_with fail
  go_ret
  have HA1 := HA0.out
  subst HA1
  exact went_offer1 H2.out LX.out LY.out HLN.out HE0.out HM.out PB.out PP.out EP.out
set_option maxHeartbeats 1600000 in
set_option maxRecDepth 100000 in
theorem step_10f (x y : Bd) (A : Option Addr) (n c P L : Nat) (l : List Lt) (sk ssi sn : Int) (mi ra : Int) (w : World) (hP : Blk w P (Pc x y A n c)) (hp : PR w P x y A n c l) (h2 : Two ⟨x.bl, y.bl, l⟩) (hlx : LenS L x.bl) (hly : LenS L y.bl) (hL : L ≤ 900) (hn : n ≤ 900) (hk0 : 0 ≤ sk ∧ sk < 256) (hs0 : 0 ≤ ssi ∧ ssi < 256) (hn0 : 0 ≤ sn ∧ sn < 256) (hsi : ssi.tmod 2 = 1) (hsk : sk.tmod 4 = 0) :
    Calls Try.prog 27 #[.pointer (some ⟨P, 0, none⟩), .agg #[.int .u8 sk, .int .u8 ssi, .int .u8 sn, .bool false, .int .i64 mi, .int .i64 ra]] w (Went w P L n) := by
  have H2 := Lib.hid h2
  have LX := Lib.hid hlx
  have LY := Lib.hid hly
  have HL := Lib.hid hL
  have HN := Lib.hid (show n ≤ 1000 by omega)
  have ks : IntKind.i64.wrap ssi = ssi := IntWalk.i64_in _ (by omega)
  have kn : IntKind.i64.wrap sn = sn := IntWalk.i64_in _ (by omega)
  have HN0 := Lib.hid hn0
  clear h2 hlx hly hL hn hk0 hs0 hn0
  have E := Lib.hid (ext_refl w)
  have PB := Lib.hid (hP)
  have PP := Lib.hid (hp)
  have HPL := Lib.hid hp.lt
  have HLN := Lib.hid hp.hn
  clear hP hp
  replace E := Lib.hid (ext_alloc E.out (.cells #[.int .u8 sk, .int .u8 ssi, .int .u8 sn, .bool false, .int .i64 mi, .int .i64 ra] 50))
  replace PB := Lib.hid (PB.out.alloc (.cells #[.int .u8 sk, .int .u8 ssi, .int .u8 sn, .bool false, .int .i64 mi, .int .i64 ra] 50))
  replace PP := Lib.hid (PP.out.alloc (.cells #[.int .u8 sk, .int .u8 ssi, .int .u8 sn, .bool false, .int .i64 mi, .int .i64 ra] 50))
  have SX := Lib.hid (Blk.newH w [.int .u8 sk, .int .u8 ssi, .int .u8 sn, .bool false, .int .i64 mi, .int .i64 ra] 50 (w.heap.size) (by first | rfl | simp))
  go_enter Try.func27, Try.ntmps27
  have pb0 := PB.out.c 0 _ rfl
  have pb1 := PB.out.c 1 _ rfl
  have pb2 := PB.out.c 2 _ rfl
  have pb3 := PB.out.c 3 _ rfl
  have pb4 := PB.out.c 4 _ rfl
  have pb5 := PB.out.c 5 _ rfl
  have pb6 := PB.out.c 6 _ rfl
  have pb7 := PB.out.c 7 _ rfl
  have pb8 := PB.out.c 8 _ rfl
  have pbf := PB.out.f
  have pbl := PB.out.lt
  have sx0 := SX.out.c 0 _ rfl
  have sx1 := SX.out.c 1 _ rfl
  have sx2 := SX.out.c 2 _ rfl
  have sx3 := SX.out.c 3 _ rfl
  have sx4 := SX.out.c 4 _ rfl
  have sx5 := SX.out.c 5 _ rfl
  have sxf := SX.out.f
  have sxl := SX.out.lt
  go_wp2_with fail
  clear pb0 pb1 pb2 pb3 pb4 pb5 pb6 pb7 pb8 pbf pbl sx0 sx1 sx2 sx3 sx4 sx5 sxf sxl
  replace E := Lib.hid (ext_alloc E.out (.cells #[.int .i64 y.own, .int .i64 y.ot, .slice y.ag.A y.ag.l.length y.ag.c, .slice y.op.A y.op.l.length y.op.c] 24))
  replace PB := Lib.hid (PB.out.alloc (.cells #[.int .i64 y.own, .int .i64 y.ot, .slice y.ag.A y.ag.l.length y.ag.c, .slice y.op.A y.op.l.length y.op.c] 24))
  replace PP := Lib.hid (PP.out.alloc (.cells #[.int .i64 y.own, .int .i64 y.ot, .slice y.ag.A y.ag.l.length y.ag.c, .slice y.op.A y.op.l.length y.op.c] 24))
  replace SX := Lib.hid (SX.out.alloc (.cells #[.int .i64 y.own, .int .i64 y.ot, .slice y.ag.A y.ag.l.length y.ag.c, .slice y.op.A y.op.l.length y.op.c] 24))
  have BB := Lib.hid (Blk.newH (w.alloc (.cells #[.int .u8 sk, .int .u8 ssi, .int .u8 sn, .bool false, .int .i64 mi, .int .i64 ra] 50)) [.int .i64 y.own, .int .i64 y.ot, .slice y.ag.A y.ag.l.length y.ag.c, .slice y.op.A y.op.l.length y.op.c] 24 (w.heap.size + 1) (by first | rfl | simp))
  have SS := Lib.hid (show ∀ w', Below ((w.alloc (.cells #[.int .u8 sk, .int .u8 ssi, .int .u8 sn, .bool false, .int .i64 mi, .int .i64 ra] 50)).alloc (.cells #[.int .i64 y.own, .int .i64 y.ot, .slice y.ag.A y.ag.l.length y.ag.c, .slice y.op.A y.op.l.length y.op.c] 24)).heap.size ((w.alloc (.cells #[.int .u8 sk, .int .u8 ssi, .int .u8 sn, .bool false, .int .i64 mi, .int .i64 ra] 50)).alloc (.cells #[.int .i64 y.own, .int .i64 y.ot, .slice y.ag.A y.ag.l.length y.ag.c, .slice y.op.A y.op.l.length y.op.c] 24)) w' → (fun w' => Below ((w.alloc (.cells #[.int .u8 sk, .int .u8 ssi, .int .u8 sn, .bool false, .int .i64 mi, .int .i64 ra] 50)).alloc (.cells #[.int .i64 y.own, .int .i64 y.ot, .slice y.ag.A y.ag.l.length y.ag.c, .slice y.op.A y.op.l.length y.op.c] 24)).heap.size ((w.alloc (.cells #[.int .u8 sk, .int .u8 ssi, .int .u8 sn, .bool false, .int .i64 mi, .int .i64 ra] 50)).alloc (.cells #[.int .i64 y.own, .int .i64 y.ot, .slice y.ag.A y.ag.l.length y.ag.c, .slice y.op.A y.op.l.length y.op.c] 24)) w' ∧ w'.cell? ⟨w.heap.size + 1, 0, none⟩ = some (.int .i64 y.own) ∧ w'.cell? ⟨w.heap.size + 1, 1, none⟩ = some (.int .i64 y.ot)) w' from fun w' h => ⟨h, (BB.out.ext h).c 0 _ rfl, (BB.out.ext h).c 1 _ rfl⟩)
  refine rg_begin (S := (fun w' => Below ((w.alloc (.cells #[.int .u8 sk, .int .u8 ssi, .int .u8 sn, .bool false, .int .i64 mi, .int .i64 ra] 50)).alloc (.cells #[.int .i64 y.own, .int .i64 y.ot, .slice y.ag.A y.ag.l.length y.ag.c, .slice y.op.A y.op.l.length y.op.c] 24)).heap.size ((w.alloc (.cells #[.int .u8 sk, .int .u8 ssi, .int .u8 sn, .bool false, .int .i64 mi, .int .i64 ra] 50)).alloc (.cells #[.int .i64 y.own, .int .i64 y.ot, .slice y.ag.A y.ag.l.length y.ag.c, .slice y.op.A y.op.l.length y.op.c] 24)) w' ∧ w'.cell? ⟨w.heap.size + 1, 0, none⟩ = some (.int .i64 y.own) ∧ w'.cell? ⟨w.heap.size + 1, 1, none⟩ = some (.int .i64 y.ot))) 6 (by kernel_rfl) (by intro d; cases d <;> intro _ _ _ _ h <;> exact h) ?_ (fun Q7 hQ7 hN7 hHeld => ?_)
  · exact SS.out _ (ext_drew (ext_refl _))
  refine rg_take (i := 0) (some 50) (v := ?_) rfl rfl (by kernel_rfl) (by rfl) hQ7 hHeld ?_ ?_
  rotate_left
  · intro w7 hSw; (try dsimp only at hSw); go_simp; all_goals with_reducible rfl
  try simp only [Act.put, List.setIfInBounds_toArray, List.set_cons_zero, List.set_cons_succ]
  refine rg_take (i := 1) (some 51) (v := ?_) rfl rfl (by kernel_rfl) (by rfl) hQ7 hHeld ?_ ?_
  rotate_left
  · intro w7 hSw; (try dsimp only at hSw); go_simp; all_goals with_reducible rfl
  try simp only [Act.put, List.setIfInBounds_toArray, List.set_cons_zero, List.set_cons_succ]
  refine rg_take (i := 2) (some 52) (v := ?_) rfl rfl (by kernel_rfl) (by rfl) hQ7 hHeld ?_ ?_
  rotate_left
  · intro w7 hSw; (try dsimp only at hSw); go_simp; all_goals with_reducible rfl
  try simp only [Act.put, List.setIfInBounds_toArray, List.set_cons_zero, List.set_cons_succ]
  refine rg_take (i := 3) (some 53) (v := ?_) rfl rfl (by kernel_rfl) (by rfl) hQ7 hHeld ?_ ?_
  rotate_left
  · intro w7 hSw; (try dsimp only at hSw); go_simp; all_goals with_reducible rfl
  try simp only [Act.put, List.setIfInBounds_toArray, List.set_cons_zero, List.set_cons_succ]
  refine rg_take (i := 4) (some 7) (v := ?_) rfl rfl (by kernel_rfl) (by rfl) hQ7 hHeld ?_ ?_
  rotate_left
  · intro w7 hSw; (try dsimp only at hSw); go_simp; all_goals with_reducible rfl
  try simp only [Act.put, List.setIfInBounds_toArray, List.set_cons_zero, List.set_cons_succ]
  refine rg_take (i := 5) (some 8) (v := ?_) rfl rfl (by kernel_rfl) (by rfl) hQ7 hHeld ?_ ?_
  rotate_left
  · intro w7 hSw; (try dsimp only at hSw); go_simp; all_goals with_reducible rfl
  try simp only [Act.put, List.setIfInBounds_toArray, List.set_cons_zero, List.set_cons_succ]
  refine rg_end (by kernel_rfl) (hN7 _ _ ?_) _
  clear hQ7 hN7 Q7
  have BX := hHeld.1
  clear SS
  replace E := Lib.hid (ext_trans E.out BX)
  replace PB := Lib.hid (PB.out.ext BX)
  replace PP := Lib.hid (PP.out.ext BX)
  replace SX := Lib.hid (SX.out.ext BX)
  replace BB := Lib.hid (BB.out.ext BX)
  clear BX
  obtain ⟨z9, hNz9⟩ : ∃ W0, W0 = ((w.alloc (.cells #[.int .u8 sk, .int .u8 ssi, .int .u8 sn, .bool false, .int .i64 mi, .int .i64 ra] 50)).alloc (.cells #[.int .i64 y.own, .int .i64 y.ot, .slice y.ag.A y.ag.l.length y.ag.c, .slice y.op.A y.op.l.length y.op.c] 24)).drew := ⟨_, rfl⟩
  rw [← hNz9] at E PB PP SX BB ⊢
  clear hNz9
  obtain ⟨E0, hE0⟩ : ∃ e, y.bl.offE y.own y.ot mi ra = e := ⟨_, rfl⟩
  obtain ⟨A0, hA0⟩ : ∃ e, y.bl.offX y.own y.ot mi ra = e := ⟨_, rfl⟩
  have HE0 := Lib.hid hE0
  have HA0 := Lib.hid hA0
  clear hE0 hA0
  have PP0 := PP
  have c0 := BB.out.c 0 _ rfl
  have c1 := BB.out.c 1 _ rfl
  have c2 := BB.out.c 2 _ rfl
  have c3 := BB.out.c 3 _ rfl
  have c4 := SX.out.c 3 _ rfl
  have c5 := SX.out.c 4 _ rfl
  have c6 := SX.out.c 5 _ rfl
  go_wp2_with fail
  refine (offer_at (b := y) (f := y.own) (t := y.ot) (m := mi) (r := ra) _ A0 E0 rfl HA0.out HE0.out PP.out.hy (LY.out.lens (by have := HL.out; omega))).mono ?_
  rintro e v1 ⟨m, rfl, hm, hM, B, hF⟩
  clear c0 c1 c2 c3 c4 c5 c6
  replace E := Lib.hid (ext_trans E.out B)
  replace PB := Lib.hid (PB.out.ext B)
  replace PP := Lib.hid (PP.out.ext B)
  replace SX := Lib.hid (SX.out.ext B)
  replace BB := Lib.hid (BB.out.ext B)
  clear B
  have HM := Lib.hid hm
  have HK := Lib.hid hM
  have HF := Lib.hid hF
  clear hm hM hF
  have HS := Lib.hid (show P < v1.heap.size from PP.out.lt)
  have HNE := Lib.hid (show some (v1.heap.size + 1) ≠ (Value.slice A n c).ownBlock from fun e => by have := (PP.out.own.lt _ e.symm).1; omega)
  have XX := HNE
  replace E := Lib.hid (ext_alloc E.out (.cells #[.int .i64 m.own, .int .i64 m.ot, .slice m.ag.A m.ag.l.length m.ag.c, .slice m.op.A m.op.l.length m.op.c] 24))
  replace PB := Lib.hid (PB.out.alloc (.cells #[.int .i64 m.own, .int .i64 m.ot, .slice m.ag.A m.ag.l.length m.ag.c, .slice m.op.A m.op.l.length m.op.c] 24))
  replace PP := Lib.hid (PP.out.alloc (.cells #[.int .i64 m.own, .int .i64 m.ot, .slice m.ag.A m.ag.l.length m.ag.c, .slice m.op.A m.op.l.length m.op.c] 24))
  replace SX := Lib.hid (SX.out.alloc (.cells #[.int .i64 m.own, .int .i64 m.ot, .slice m.ag.A m.ag.l.length m.ag.c, .slice m.op.A m.op.l.length m.op.c] 24))
  replace BB := Lib.hid (BB.out.alloc (.cells #[.int .i64 m.own, .int .i64 m.ot, .slice m.ag.A m.ag.l.length m.ag.c, .slice m.op.A m.op.l.length m.op.c] 24))
  replace HK := Lib.hid (HK.out.alloc (.cells #[.int .i64 m.own, .int .i64 m.ot, .slice m.ag.A m.ag.l.length m.ag.c, .slice m.op.A m.op.l.length m.op.c] 24))
  have M1 := Lib.hid (Blk.newH v1 [.int .i64 m.own, .int .i64 m.ot, .slice m.ag.A m.ag.l.length m.ag.c, .slice m.op.A m.op.l.length m.op.c] 24 (v1.heap.size) (by first | rfl | simp))
  replace E := Lib.hid (ext_alloc E.out (.cells #[.int .i64 A0.no, .int .i64 A0.f, .int .i64 A0.t, .int .i64 A0.m, .int .i64 A0.r] 26))
  replace PB := Lib.hid (PB.out.alloc (.cells #[.int .i64 A0.no, .int .i64 A0.f, .int .i64 A0.t, .int .i64 A0.m, .int .i64 A0.r] 26))
  replace PP := Lib.hid (PP.out.alloc (.cells #[.int .i64 A0.no, .int .i64 A0.f, .int .i64 A0.t, .int .i64 A0.m, .int .i64 A0.r] 26))
  replace SX := Lib.hid (SX.out.alloc (.cells #[.int .i64 A0.no, .int .i64 A0.f, .int .i64 A0.t, .int .i64 A0.m, .int .i64 A0.r] 26))
  replace BB := Lib.hid (BB.out.alloc (.cells #[.int .i64 A0.no, .int .i64 A0.f, .int .i64 A0.t, .int .i64 A0.m, .int .i64 A0.r] 26))
  replace HK := Lib.hid (HK.out.alloc (.cells #[.int .i64 A0.no, .int .i64 A0.f, .int .i64 A0.t, .int .i64 A0.m, .int .i64 A0.r] 26))
  replace M1 := Lib.hid (M1.out.alloc (.cells #[.int .i64 A0.no, .int .i64 A0.f, .int .i64 A0.t, .int .i64 A0.m, .int .i64 A0.r] 26))
  have A1 := Lib.hid (Blk.newH (v1.alloc (.cells #[.int .i64 m.own, .int .i64 m.ot, .slice m.ag.A m.ag.l.length m.ag.c, .slice m.op.A m.op.l.length m.op.c] 24)) [.int .i64 A0.no, .int .i64 A0.f, .int .i64 A0.t, .int .i64 A0.m, .int .i64 A0.r] 26 (v1.heap.size + 1) (by first | rfl | simp))
  by_cases he : E0 = 0
  rotate_left
  · have f0 : (E0 == 0) = false := by simp [he]
    clear he
    go_wp2_with fail
    go_ret
    exact went_same H2.out LX.out LY.out PB.out PP.out (E.out.mono (Nat.le_of_lt HPL.out))
  subst he
  clear BB SX
  go_wp2_with fail
  have SZ := Lib.hid (show P < ((v1.alloc (.cells #[.int .i64 m.own, .int .i64 m.ot, .slice m.ag.A m.ag.l.length m.ag.c, .slice m.op.A m.op.l.length m.op.c] 24)).alloc (.cells #[.int .i64 A0.no, .int .i64 A0.f, .int .i64 A0.t, .int .i64 A0.m, .int .i64 A0.r] 26)).heap.size from PP.out.lt)
  have SS := Lib.hid (show ∀ w', Below ((v1.alloc (.cells #[.int .i64 m.own, .int .i64 m.ot, .slice m.ag.A m.ag.l.length m.ag.c, .slice m.op.A m.op.l.length m.op.c] 24)).alloc (.cells #[.int .i64 A0.no, .int .i64 A0.f, .int .i64 A0.t, .int .i64 A0.m, .int .i64 A0.r] 26)).heap.size ((v1.alloc (.cells #[.int .i64 m.own, .int .i64 m.ot, .slice m.ag.A m.ag.l.length m.ag.c, .slice m.op.A m.op.l.length m.op.c] 24)).alloc (.cells #[.int .i64 A0.no, .int .i64 A0.f, .int .i64 A0.t, .int .i64 A0.m, .int .i64 A0.r] 26)) w' → (fun w' => Below ((v1.alloc (.cells #[.int .i64 m.own, .int .i64 m.ot, .slice m.ag.A m.ag.l.length m.ag.c, .slice m.op.A m.op.l.length m.op.c] 24)).alloc (.cells #[.int .i64 A0.no, .int .i64 A0.f, .int .i64 A0.t, .int .i64 A0.m, .int .i64 A0.r] 26)).heap.size ((v1.alloc (.cells #[.int .i64 m.own, .int .i64 m.ot, .slice m.ag.A m.ag.l.length m.ag.c, .slice m.op.A m.op.l.length m.op.c] 24)).alloc (.cells #[.int .i64 A0.no, .int .i64 A0.f, .int .i64 A0.t, .int .i64 A0.m, .int .i64 A0.r] 26)) w' ∧ w'.cell? ⟨v1.heap.size, 0, none⟩ = some (.int .i64 m.own) ∧ w'.cell? ⟨v1.heap.size, 1, none⟩ = some (.int .i64 m.ot) ∧ w'.cell? ⟨v1.heap.size, 2, none⟩ = some (.slice m.ag.A m.ag.l.length m.ag.c) ∧ w'.cell? ⟨v1.heap.size, 3, none⟩ = some (.slice m.op.A m.op.l.length m.op.c)) w' from fun w' h => ⟨h, (M1.out.ext h).c 0 _ rfl, (M1.out.ext h).c 1 _ rfl, (M1.out.ext h).c 2 _ rfl, (M1.out.ext h).c 3 _ rfl⟩)
  refine rg_begin (S := (fun w' => Below ((v1.alloc (.cells #[.int .i64 m.own, .int .i64 m.ot, .slice m.ag.A m.ag.l.length m.ag.c, .slice m.op.A m.op.l.length m.op.c] 24)).alloc (.cells #[.int .i64 A0.no, .int .i64 A0.f, .int .i64 A0.t, .int .i64 A0.m, .int .i64 A0.r] 26)).heap.size ((v1.alloc (.cells #[.int .i64 m.own, .int .i64 m.ot, .slice m.ag.A m.ag.l.length m.ag.c, .slice m.op.A m.op.l.length m.op.c] 24)).alloc (.cells #[.int .i64 A0.no, .int .i64 A0.f, .int .i64 A0.t, .int .i64 A0.m, .int .i64 A0.r] 26)) w' ∧ w'.cell? ⟨v1.heap.size, 0, none⟩ = some (.int .i64 m.own) ∧ w'.cell? ⟨v1.heap.size, 1, none⟩ = some (.int .i64 m.ot) ∧ w'.cell? ⟨v1.heap.size, 2, none⟩ = some (.slice m.ag.A m.ag.l.length m.ag.c) ∧ w'.cell? ⟨v1.heap.size, 3, none⟩ = some (.slice m.op.A m.op.l.length m.op.c))) 6 (by kernel_rfl) (by intro d; cases d <;> intro _ _ _ _ h <;> exact h) ?_ (fun Q7 hQ7 hN7 hHeld => ?_)
  · exact SS.out _ (ext_drew (ext_refl _))
  refine rg_take (i := 0) (some 72) (v := ?_) rfl rfl (by kernel_rfl) (by rfl) hQ7 hHeld ?_ ?_
  rotate_left
  · intro w7 hSw; (try dsimp only at hSw); go_simp; all_goals with_reducible rfl
  try simp only [Act.put, List.setIfInBounds_toArray, List.set_cons_zero, List.set_cons_succ]
  refine rg_take (i := 1) (some 73) (v := ?_) rfl rfl (by kernel_rfl) (by rfl) hQ7 hHeld ?_ ?_
  rotate_left
  · intro w7 hSw; (try dsimp only at hSw); go_simp; all_goals with_reducible rfl
  try simp only [Act.put, List.setIfInBounds_toArray, List.set_cons_zero, List.set_cons_succ]
  refine rg_take (i := 2) (some 74) (v := ?_) rfl rfl (by kernel_rfl) (by rfl) hQ7 hHeld ?_ ?_
  rotate_left
  · intro w7 hSw; (try dsimp only at hSw); go_simp; all_goals with_reducible rfl
  try simp only [Act.put, List.setIfInBounds_toArray, List.set_cons_zero, List.set_cons_succ]
  refine rg_take (i := 3) (some 75) (v := ?_) rfl rfl (by kernel_rfl) (by rfl) hQ7 hHeld ?_ ?_
  rotate_left
  · intro w7 hSw; (try dsimp only at hSw); go_simp; all_goals with_reducible rfl
  try simp only [Act.put, List.setIfInBounds_toArray, List.set_cons_zero, List.set_cons_succ]
  refine rg_take (i := 4) (some 76) (v := ?_) rfl rfl (by kernel_rfl) (by rfl) hQ7 hHeld ?_ ?_
  rotate_left
  · intro w7 hSw; (try dsimp only at hSw); go_simp; all_goals with_reducible rfl
  try simp only [Act.put, List.setIfInBounds_toArray, List.set_cons_zero, List.set_cons_succ]
  refine rg_take (i := 5) (some 77) (v := ?_) rfl rfl (by kernel_rfl) (by rfl) hQ7 hHeld ?_ ?_
  rotate_left
  · intro w7 hSw; (try dsimp only at hSw); go_simp; all_goals with_reducible rfl
  try simp only [Act.put, List.setIfInBounds_toArray, List.set_cons_zero, List.set_cons_succ]
  have PBx := PB.out
  have gp0 := PBx.c 0 _ rfl
  have gp1 := PBx.c 1 _ rfl
  have gp2 := PBx.c 2 _ rfl
  have gp3 := PBx.c 3 _ rfl
  have gp4 := PBx.c 4 _ rfl
  have gp5 := PBx.c 5 _ rfl
  have gp6 := PBx.c 6 _ rfl
  have gp7 := PBx.c 7 _ rfl
  have gp8 := PBx.c 8 _ rfl
  have gpf := PBx.f
  have gpl := PBx.lt
  refine rg_one (i := 6) (by kernel_rfl) (rg_late rfl (by rfl) (by kernel_rfl) (fun K hK => ?_))
  go_simp
  refine hK.out _ _ ?_
  clear hK K
  try simp only [Act.put, List.setIfInBounds_toArray, List.set_cons_zero, List.set_cons_succ]
  refine rg_end (by kernel_rfl) (hN7 _ _ ?_) _
  clear hQ7 hN7 Q7
  have BX := hHeld.1
  clear SS
  clear BX
  replace A1 := Lib.hid (((((A1.out.other (p := ⟨P, 4, none⟩) (.int .i64 m.own) (by show P ≠ _; have := HS.out; omega)).other (p := ⟨P, 5, none⟩) (.int .i64 m.ot) (by show P ≠ _; have := HS.out; omega)).other (p := ⟨P, 6, none⟩) (.slice m.ag.A m.ag.l.length m.ag.c) (by show P ≠ _; have := HS.out; omega)).other (p := ⟨P, 7, none⟩) (.slice m.op.A m.op.l.length m.op.c) (by show P ≠ _; have := HS.out; omega)))
  obtain ⟨ho1, ho2⟩ := PP0.out.off1 HF.out
  have EP := Lib.hid (E.out.mono (Nat.le_of_lt HPL.out))
  replace PP := Lib.hid (((((PP.out.side1 HK.out ho1 ho2).set 4 (.int .i64 m.own)).set 5 (.int .i64 m.ot)).set 6 (.slice m.ag.A m.ag.l.length m.ag.c)).set 7 (.slice m.op.A m.op.l.length m.op.c))
  replace PB := Lib.hid (((((PB.out.set (j := 4) (by simp [Pc]) (.int .i64 m.own)).set (j := 5) (by simp [Pc]) (.int .i64 m.ot)).set (j := 6) (by simp [Pc]) (.slice m.ag.A m.ag.l.length m.ag.c)).set (j := 7) (by simp [Pc]) (.slice m.op.A m.op.l.length m.op.c)))
  replace EP := Lib.hid (below_set (below_set (below_set (below_set (EP.out) ⟨P, 4, none⟩ (.int .i64 m.own) (Nat.le_refl _)) ⟨P, 5, none⟩ (.int .i64 m.ot) (Nat.le_refl _)) ⟨P, 6, none⟩ (.slice m.ag.A m.ag.l.length m.ag.c) (Nat.le_refl _)) ⟨P, 7, none⟩ (.slice m.op.A m.op.l.length m.op.c) (Nat.le_refl _))
  clear ho1 ho2
  clear SZ
  clear E HK M1
  replace PB := Lib.hid PB.out.drew
  replace A1 := Lib.hid A1.out.drew
  replace EP := Lib.hid EP.out.drew
  replace PP := Lib.hid (PP.out.ext (ext_drew (ext_refl _)))
  obtain ⟨z0, hNz0⟩ : ∃ W0, W0 = ((((((v1.alloc (.cells #[.int .i64 m.own, .int .i64 m.ot, .slice m.ag.A m.ag.l.length m.ag.c, .slice m.op.A m.op.l.length m.op.c] 24)).alloc (.cells #[.int .i64 A0.no, .int .i64 A0.f, .int .i64 A0.t, .int .i64 A0.m, .int .i64 A0.r] 26)).setCell ⟨P, 4, none⟩ (.int .i64 m.own)).setCell ⟨P, 5, none⟩ (.int .i64 m.ot)).setCell ⟨P, 6, none⟩ (.slice m.ag.A m.ag.l.length m.ag.c)).setCell ⟨P, 7, none⟩ (.slice m.op.A m.op.l.length m.op.c)).drew := ⟨_, rfl⟩
  rw [← hNz0] at PB PP A1 EP ⊢
  clear hNz0
  go_wp2_with fail
  have DD := ext_drew (ext_refl z0)
  replace PB := Lib.hid (PB.out.ext DD)
  replace PP := Lib.hid (PP.out.ext DD)
  replace A1 := Lib.hid (A1.out.ext DD)
  clear DD
  refine rg_begin (S := (fun w' => w'.cell? ⟨P, 8, none⟩ = some (.slice A n c) ∧ w'.cell? ⟨v1.heap.size + 1, 0, none⟩ = some (.int .i64 A0.no) ∧ w'.cell? ⟨v1.heap.size + 1, 1, none⟩ = some (.int .i64 A0.f) ∧ w'.cell? ⟨v1.heap.size + 1, 2, none⟩ = some (.int .i64 A0.t) ∧ w'.cell? ⟨v1.heap.size + 1, 3, none⟩ = some (.int .i64 A0.m) ∧ w'.cell? ⟨v1.heap.size + 1, 4, none⟩ = some (.int .i64 A0.r))) 13 (by kernel_rfl) (by intro d; cases d <;> intro _ _ _ _ h <;> exact h) ?_ (fun Q7 hQ7 hN7 hHeld => ?_)
  · exact ⟨PB.out.c 8 _ rfl, A1.out.c 0 _ rfl, A1.out.c 1 _ rfl, A1.out.c 2 _ rfl, A1.out.c 3 _ rfl, A1.out.c 4 _ rfl⟩
  refine rg_take (i := 0) (some 78) (v := ?_) rfl rfl (by kernel_rfl) (by rfl) hQ7 hHeld ?_ ?_
  rotate_left
  · intro w7 hSw; (try dsimp only at hSw); go_simp; all_goals with_reducible rfl
  try simp only [Act.put, List.setIfInBounds_toArray, List.set_cons_zero, List.set_cons_succ]
  refine rg_take (i := 1) (some 79) (v := ?_) rfl rfl (by kernel_rfl) (by rfl) hQ7 hHeld ?_ ?_
  rotate_left
  · intro w7 hSw; (try dsimp only at hSw); go_simp; all_goals with_reducible rfl
  try simp only [Act.put, List.setIfInBounds_toArray, List.set_cons_zero, List.set_cons_succ]
  refine rg_take (i := 2) (some 80) (v := ?_) rfl rfl (by kernel_rfl) (by rfl) hQ7 hHeld ?_ ?_
  rotate_left
  · intro w7 hSw; (try dsimp only at hSw); go_simp; all_goals with_reducible rfl
  try simp only [Act.put, List.setIfInBounds_toArray, List.set_cons_zero, List.set_cons_succ]
  refine rg_take (i := 3) (some 81) (v := ?_) rfl rfl (by kernel_rfl) (by rfl) hQ7 hHeld ?_ ?_
  rotate_left
  · intro w7 hSw; (try dsimp only at hSw); go_simp; all_goals with_reducible rfl
  try simp only [Act.put, List.setIfInBounds_toArray, List.set_cons_zero, List.set_cons_succ]
  refine rg_take (i := 4) (some 82) (v := ?_) rfl rfl (by kernel_rfl) (by rfl) hQ7 hHeld ?_ ?_
  rotate_left
  · intro w7 hSw; (try dsimp only at hSw); go_simp; all_goals with_reducible rfl
  try simp only [Act.put, List.setIfInBounds_toArray, List.set_cons_zero, List.set_cons_succ]
  refine rg_take (i := 5) (some 83) (v := ?_) rfl rfl (by kernel_rfl) (by rfl) hQ7 hHeld ?_ ?_
  rotate_left
  · intro w7 hSw; (try dsimp only at hSw); go_simp; all_goals with_reducible rfl
  try simp only [Act.put, List.setIfInBounds_toArray, List.set_cons_zero, List.set_cons_succ]
  refine rg_take (i := 6) (some 84) (v := ?_) rfl rfl (by kernel_rfl) (by rfl) hQ7 hHeld ?_ ?_
  rotate_left
  · intro w7 hSw; (try dsimp only at hSw); go_simp; all_goals with_reducible rfl
  try simp only [Act.put, List.setIfInBounds_toArray, List.set_cons_zero, List.set_cons_succ]
  refine rg_take (i := 7) (some 85) (v := ?_) rfl rfl (by kernel_rfl) (by rfl) hQ7 hHeld ?_ ?_
  rotate_left
  · intro w7 hSw; (try dsimp only at hSw); go_simp; all_goals with_reducible rfl
  try simp only [Act.put, List.setIfInBounds_toArray, List.set_cons_zero, List.set_cons_succ]
  refine rg_take (i := 8) (some 86) (v := ?_) rfl rfl (by kernel_rfl) (by rfl) hQ7 hHeld ?_ ?_
  rotate_left
  · intro w7 hSw; (try dsimp only at hSw); go_simp; all_goals with_reducible rfl
  try simp only [Act.put, List.setIfInBounds_toArray, List.set_cons_zero, List.set_cons_succ]
  refine rg_one (i := 9) (by kernel_rfl) (rg_step rfl (by rfl) (fun K hK => ?_))
  go_simp
  refine hK.out _ _ ?_ (fun hHeld2 => ?_)
  · exact ⟨(PB.out.alloc _).c 8 _ rfl, (A1.out.alloc _).c 0 _ rfl, (A1.out.alloc _).c 1 _ rfl, (A1.out.alloc _).c 2 _ rfl, (A1.out.alloc _).c 3 _ rfl, (A1.out.alloc _).c 4 _ rfl⟩
  clear hHeld
  have hHeld := hHeld2
  clear hHeld2
  clear hK K
  try simp only [Act.put, List.setIfInBounds_toArray, List.set_cons_zero, List.set_cons_succ]
  refine rg_one (i := 10) (by kernel_rfl) (rg_step rfl (by rfl) (fun K hK => ?_))
  refine rg_append (some 88) _ _ 46 46 rfl rfl rfl _ _ rfl rfl ((PP.out.alloc (.cells #[.int .i64 0, .bool false, .int .i64 A0.no, .int .i64 A0.f, .int .i64 A0.t, .int .i64 A0.m, .int .i64 A0.r] 53)).say (PB.out.alloc (.cells #[.int .i64 0, .bool false, .int .i64 A0.no, .int .i64 A0.f, .int .i64 A0.t, .int .i64 A0.m, .int .i64 A0.r] 53)) (slc_litH _ [⟨false, false, A0⟩] _ 53 (enc := Lt.cells) (sz := 7) (fun _ => rfl) rfl _ rfl) HN.out) ?_
  rintro _ z ⟨A', c', rfl, PPz, PBz, Ez, Gz⟩
  refine hK.out _ _ ?_ (fun hHeld2 => ?_)
  · exact ⟨PBz.c 8 _ rfl, ((A1.out.alloc _).keepB (Gz.block _ (by have := A1.out.lt; simp at this ⊢; omega) HNE.out)).c 0 _ rfl, ((A1.out.alloc _).keepB (Gz.block _ (by have := A1.out.lt; simp at this ⊢; omega) HNE.out)).c 1 _ rfl, ((A1.out.alloc _).keepB (Gz.block _ (by have := A1.out.lt; simp at this ⊢; omega) HNE.out)).c 2 _ rfl, ((A1.out.alloc _).keepB (Gz.block _ (by have := A1.out.lt; simp at this ⊢; omega) HNE.out)).c 3 _ rfl, ((A1.out.alloc _).keepB (Gz.block _ (by have := A1.out.lt; simp at this ⊢; omega) HNE.out)).c 4 _ rfl⟩
  clear hHeld
  have hHeld := hHeld2
  clear hHeld2
  clear hK K
  try simp only [Act.put, List.setIfInBounds_toArray, List.set_cons_zero, List.set_cons_succ]
  have gp8 := PBz.c 8 _ rfl
  have gpf := PBz.f
  have gpl := PBz.lt
  refine rg_take (i := 11) (some 89) (v := ?_) rfl rfl (by kernel_rfl) (by rfl) hQ7 hHeld ?_ ?_
  rotate_left
  · intro w7 hSw; (try dsimp only at hSw); go_simp; all_goals with_reducible rfl
  try simp only [Act.put, List.setIfInBounds_toArray, List.set_cons_zero, List.set_cons_succ]
  refine rg_take (i := 12) (some 90) (v := ?_) rfl rfl (by kernel_rfl) (by rfl) hQ7 hHeld ?_ ?_
  rotate_left
  · intro w7 hSw; (try dsimp only at hSw); go_simp; all_goals with_reducible rfl
  try simp only [Act.put, List.setIfInBounds_toArray, List.set_cons_zero, List.set_cons_succ]
  refine rg_one (i := 13) (by kernel_rfl) (rg_late rfl (by rfl) (by kernel_rfl) (fun K hK => ?_))
  go_simp
  refine hK.out _ _ ?_
  clear hK K
  try simp only [Act.put, List.setIfInBounds_toArray, List.set_cons_zero, List.set_cons_succ]
  refine rg_end (by kernel_rfl) (hN7 _ _ ?_) _
  clear hQ7 hN7 Q7
  replace EP := Lib.hid (below_set (((EP.out.drew).alloc (by have := PP.out.lt; simpa using Nat.le_of_lt this) _).trans Ez) ⟨P, 8, none⟩ (.slice A' (n + 1) c') (Nat.le_refl _))
  replace PB := Lib.hid (PBz.set (j := 8) (by simp [Pc]) (.slice A' (n + 1) c'))
  replace PP := Lib.hid (PPz.set 8 (.slice A' (n + 1) c'))
  clear PBz PPz Ez Gz
  go_wp2_with fail
  go_ret
  have HA1 := HA0.out
  subst HA1
  exact went_offer1 H2.out LX.out LY.out HLN.out HE0.out HM.out PB.out PP.out EP.out
end Go.Proofs.Ytmnbeikhjbjpiaa
