/- Contracts: a step of the script: an offer is accepted, a message delivered. -/
import Derived.Test.YtmnbeikhjbjpiaaT3
set_option linter.unusedSimpArgs false
set_option linter.unusedVariables false
namespace Go.Proofs.Ytmnbeikhjbjpiaa
open Go.RowKit
theorem idx_of {n : Nat} {a : Int} (h : 0 ≤ a) (hn : ¬ n = 0) : ∃ j : Nat, a.tmod (n : Int) = (j : Int) ∧ j < n := by
  have h1 := Int.emod_lt_of_pos a (show (0 : Int) < (n : Int) by omega)
  have h2 := Int.emod_nonneg a (show (n : Int) ≠ 0 by omega)
  rw [← Int.tmod_eq_emod_of_nonneg h] at h1 h2
  exact ⟨(a.tmod (n : Int)).toNat, by omega, by omega⟩
set_option maxHeartbeats 1600000 in
set_option maxRecDepth 100000 in
theorem step_01 (x y : Bd) (A : Option Addr) (n c P L : Nat) (l : List Lt) (sk ssi sn : Int) (back : Bool) (mi ra : Int) (w : World) (hP : Blk w P (Pc x y A n c)) (hp : PR w P x y A n c l) (h2 : Two ⟨x.bl, y.bl, l⟩) (hlx : LenS L x.bl) (hly : LenS L y.bl) (hL : L ≤ 900) (hn : n ≤ 900) (hk0 : 0 ≤ sk ∧ sk < 256) (hs0 : 0 ≤ ssi ∧ ssi < 256) (hn0 : 0 ≤ sn ∧ sn < 256) (hsi : ssi.tmod 2 = 0) (hsk : sk.tmod 4 = 1) :
    Calls Try.prog 27 #[.pointer (some ⟨P, 0, none⟩), .agg #[.int .u8 sk, .int .u8 ssi, .int .u8 sn, .bool back, .int .i64 mi, .int .i64 ra]] w (Went w P L n) := by
  have H2 := Lib.hid h2
  have LX := Lib.hid hlx
  have LY := Lib.hid hly
  have HL := Lib.hid hL
  have HN := Lib.hid (show n ≤ 1000 by omega)
  have ks : IntKind.i64.wrap ssi = ssi := IntWalk.i64_in _ (by omega)
  have kn : IntKind.i64.wrap sn = sn := IntWalk.i64_in _ (by omega)
  have HN0 := Lib.hid hn0
  clear h2 hlx hly hL hn hk0 hs0 hn0
  have E := Lib.hid (ext_refl w)
  have PB := Lib.hid (hP)
  have PP := Lib.hid (hp)
  have HPL := Lib.hid hp.lt
  have HLN := Lib.hid hp.hn
  clear hP hp
  replace E := Lib.hid (ext_alloc E.out (.cells #[.int .u8 sk, .int .u8 ssi, .int .u8 sn, .bool back, .int .i64 mi, .int .i64 ra] 50))
  replace PB := Lib.hid (PB.out.alloc (.cells #[.int .u8 sk, .int .u8 ssi, .int .u8 sn, .bool back, .int .i64 mi, .int .i64 ra] 50))
  replace PP := Lib.hid (PP.out.alloc (.cells #[.int .u8 sk, .int .u8 ssi, .int .u8 sn, .bool back, .int .i64 mi, .int .i64 ra] 50))
  have SX := Lib.hid (Blk.newH w [.int .u8 sk, .int .u8 ssi, .int .u8 sn, .bool back, .int .i64 mi, .int .i64 ra] 50 (w.heap.size) (by first | rfl | simp))
  go_enter Try.func27, Try.ntmps27
  have pb0 := PB.out.c 0 _ rfl
  have pb1 := PB.out.c 1 _ rfl
  have pb2 := PB.out.c 2 _ rfl
  have pb3 := PB.out.c 3 _ rfl
  have pb4 := PB.out.c 4 _ rfl
  have pb5 := PB.out.c 5 _ rfl
  have pb6 := PB.out.c 6 _ rfl
  have pb7 := PB.out.c 7 _ rfl
  have pb8 := PB.out.c 8 _ rfl
  have pbf := PB.out.f
  have pbl := PB.out.lt
  have sx0 := SX.out.c 0 _ rfl
  have sx1 := SX.out.c 1 _ rfl
  have sx2 := SX.out.c 2 _ rfl
  have sx3 := SX.out.c 3 _ rfl
  have sx4 := SX.out.c 4 _ rfl
  have sx5 := SX.out.c 5 _ rfl
  have sxf := SX.out.f
  have sxl := SX.out.lt
  by_cases hop : x.op.l.length = 0
  · have hop1 : ¬ (0 : Int) < x.op.l.length := by omega
    clear hop
    go_wp2_with fail
    clear pb0 pb1 pb2 pb3 pb4 pb5 pb6 pb7 pb8 pbf pbl sx0 sx1 sx2 sx3 sx4 sx5 sxf sxl
    replace E := Lib.hid (ext_alloc E.out (.cells #[.int .i64 x.own, .int .i64 x.ot, .slice x.ag.A x.ag.l.length x.ag.c, .slice x.op.A x.op.l.length x.op.c] 24))
    replace PB := Lib.hid (PB.out.alloc (.cells #[.int .i64 x.own, .int .i64 x.ot, .slice x.ag.A x.ag.l.length x.ag.c, .slice x.op.A x.op.l.length x.op.c] 24))
    replace PP := Lib.hid (PP.out.alloc (.cells #[.int .i64 x.own, .int .i64 x.ot, .slice x.ag.A x.ag.l.length x.ag.c, .slice x.op.A x.op.l.length x.op.c] 24))
    replace SX := Lib.hid (SX.out.alloc (.cells #[.int .i64 x.own, .int .i64 x.ot, .slice x.ag.A x.ag.l.length x.ag.c, .slice x.op.A x.op.l.length x.op.c] 24))
    have BB := Lib.hid (Blk.newH (w.alloc (.cells #[.int .u8 sk, .int .u8 ssi, .int .u8 sn, .bool back, .int .i64 mi, .int .i64 ra] 50)) [.int .i64 x.own, .int .i64 x.ot, .slice x.ag.A x.ag.l.length x.ag.c, .slice x.op.A x.op.l.length x.op.c] 24 (w.heap.size + 1) (by first | rfl | simp))
    go_ret
    exact went_same H2.out LX.out LY.out PB.out PP.out (E.out.mono (Nat.le_of_lt HPL.out))
  have hop1 : (0 : Int) < x.op.l.length := by omega
  obtain ⟨j, hj, hjl⟩ := idx_of HN0.out.1 hop
  have hjl1 : (j : Int) < x.op.l.length := by omega
  have hne : x.op.l ≠ [] := by intro h; rw [h] at hjl; exact absurd hjl (Nat.not_lt_zero _)
  clear hop
  go_wp2_with fail
  clear pb0 pb1 pb2 pb3 pb4 pb5 pb6 pb7 pb8 pbf pbl sx0 sx1 sx2 sx3 sx4 sx5 sxf sxl
  replace E := Lib.hid (ext_alloc E.out (.cells #[.int .i64 x.own, .int .i64 x.ot, .slice x.ag.A x.ag.l.length x.ag.c, .slice x.op.A x.op.l.length x.op.c] 24))
  replace PB := Lib.hid (PB.out.alloc (.cells #[.int .i64 x.own, .int .i64 x.ot, .slice x.ag.A x.ag.l.length x.ag.c, .slice x.op.A x.op.l.length x.op.c] 24))
  replace PP := Lib.hid (PP.out.alloc (.cells #[.int .i64 x.own, .int .i64 x.ot, .slice x.ag.A x.ag.l.length x.ag.c, .slice x.op.A x.op.l.length x.op.c] 24))
  replace SX := Lib.hid (SX.out.alloc (.cells #[.int .i64 x.own, .int .i64 x.ot, .slice x.ag.A x.ag.l.length x.ag.c, .slice x.op.A x.op.l.length x.op.c] 24))
  have BB := Lib.hid (Blk.newH (w.alloc (.cells #[.int .u8 sk, .int .u8 ssi, .int .u8 sn, .bool back, .int .i64 mi, .int .i64 ra] 50)) [.int .i64 x.own, .int .i64 x.ot, .slice x.ag.A x.ag.l.length x.ag.c, .slice x.op.A x.op.l.length x.op.c] 24 (w.heap.size + 1) (by first | rfl | simp))
  obtain ⟨z9, hNz9⟩ : ∃ W0, W0 = ((w.alloc (.cells #[.int .u8 sk, .int .u8 ssi, .int .u8 sn, .bool back, .int .i64 mi, .int .i64 ra] 50)).alloc (.cells #[.int .i64 x.own, .int .i64 x.ot, .slice x.ag.A x.ag.l.length x.ag.c, .slice x.op.A x.op.l.length x.op.c] 24)) := ⟨_, rfl⟩
  rw [← hNz9] at E PB PP SX BB ⊢
  clear hNz9
  obtain ⟨a, b1, o1, hx, hA, hb1, hd⟩ := PP.out.hx.op.at_ hjl
  have HX := Lib.hid (List.mem_of_getElem? hx)
  obtain ⟨ob, hob⟩ : ∃ v, offd a.no x.ot x.own = v := ⟨_, rfl⟩
  have HOB := Lib.hid hob
  clear hx hob
  have SS := Lib.hid (show ∀ w', Below z9.heap.size z9 w' → (fun w' => Below z9.heap.size z9 w' ∧ w'.cell? ⟨w.heap.size + 1, 3, none⟩ = some (.slice x.op.A x.op.l.length x.op.c) ∧ w'.cell? ⟨w.heap.size, 2, none⟩ = some (.int .u8 sn) ∧ w'.cell? ⟨b1, o1 + j * 5, none⟩ = some (.int .i64 a.no) ∧ w'.cell? ⟨b1, o1 + j * 5 + 1, none⟩ = some (.int .i64 a.f) ∧ w'.cell? ⟨b1, o1 + j * 5 + 2, none⟩ = some (.int .i64 a.t) ∧ w'.cell? ⟨b1, o1 + j * 5 + 3, none⟩ = some (.int .i64 a.m) ∧ w'.cell? ⟨b1, o1 + j * 5 + 4, none⟩ = some (.int .i64 a.r)) w' from fun w' h => ⟨h, (BB.out.ext h).c 3 _ rfl, (SX.out.ext h).c 2 _ rfl, (h.cell (p := ⟨b1, o1 + j * 5 + 0, none⟩) hb1).trans (hd 0 _ rfl), (h.cell (p := ⟨b1, o1 + j * 5 + 1, none⟩) hb1).trans (hd 1 _ rfl), (h.cell (p := ⟨b1, o1 + j * 5 + 2, none⟩) hb1).trans (hd 2 _ rfl), (h.cell (p := ⟨b1, o1 + j * 5 + 3, none⟩) hb1).trans (hd 3 _ rfl), (h.cell (p := ⟨b1, o1 + j * 5 + 4, none⟩) hb1).trans (hd 4 _ rfl)⟩)
  refine rg_begin (S := (fun w' => Below z9.heap.size z9 w' ∧ w'.cell? ⟨w.heap.size + 1, 3, none⟩ = some (.slice x.op.A x.op.l.length x.op.c) ∧ w'.cell? ⟨w.heap.size, 2, none⟩ = some (.int .u8 sn) ∧ w'.cell? ⟨b1, o1 + j * 5, none⟩ = some (.int .i64 a.no) ∧ w'.cell? ⟨b1, o1 + j * 5 + 1, none⟩ = some (.int .i64 a.f) ∧ w'.cell? ⟨b1, o1 + j * 5 + 2, none⟩ = some (.int .i64 a.t) ∧ w'.cell? ⟨b1, o1 + j * 5 + 3, none⟩ = some (.int .i64 a.m) ∧ w'.cell? ⟨b1, o1 + j * 5 + 4, none⟩ = some (.int .i64 a.r))) 10 (by kernel_rfl) (by intro d; cases d <;> intro _ _ _ _ h <;> exact h) ?_ (fun Q7 hQ7 hN7 hHeld => ?_)
  · exact SS.out _ (ext_drew (ext_refl _))
  refine rg_take (i := 0) (some 98) (v := ?_) rfl rfl (by kernel_rfl) (by rfl) hQ7 hHeld ?_ ?_
  rotate_left
  · intro w7 hSw; (try dsimp only at hSw); go_simp; all_goals with_reducible rfl
  try simp only [Act.put, List.setIfInBounds_toArray, List.set_cons_zero, List.set_cons_succ]
  refine rg_take (i := 1) (some 99) (v := ?_) rfl rfl (by kernel_rfl) (by rfl) hQ7 hHeld ?_ ?_
  rotate_left
  · intro w7 hSw; (try dsimp only at hSw); go_simp; all_goals with_reducible rfl
  try simp only [Act.put, List.setIfInBounds_toArray, List.set_cons_zero, List.set_cons_succ]
  refine rg_take (i := 2) (some 100) (v := ?_) rfl rfl (by kernel_rfl) (by rfl) hQ7 hHeld ?_ ?_
  rotate_left
  · intro w7 hSw; (try dsimp only at hSw); go_simp; all_goals with_reducible rfl
  try simp only [Act.put, List.setIfInBounds_toArray, List.set_cons_zero, List.set_cons_succ]
  refine rg_take (i := 3) (some 101) (v := ?_) rfl rfl (by kernel_rfl) (by rfl) hQ7 hHeld ?_ ?_
  rotate_left
  · intro w7 hSw; (try dsimp only at hSw); go_simp; all_goals with_reducible rfl
  try simp only [Act.put, List.setIfInBounds_toArray, List.set_cons_zero, List.set_cons_succ]
  refine rg_take (i := 4) (some 102) (v := ?_) rfl rfl (by kernel_rfl) (by rfl) hQ7 hHeld ?_ ?_
  rotate_left
  · intro w7 hSw; (try dsimp only at hSw); go_simp; all_goals with_reducible rfl
  try simp only [Act.put, List.setIfInBounds_toArray, List.set_cons_zero, List.set_cons_succ]
  refine rg_take (i := 5) (some 103) (v := ?_) rfl rfl (by kernel_rfl) (by rfl) hQ7 hHeld ?_ ?_
  rotate_left
  · intro w7 hSw; (try dsimp only at hSw); go_simp; all_goals with_reducible rfl
  try simp only [Act.put, List.setIfInBounds_toArray, List.set_cons_zero, List.set_cons_succ]
  refine rg_take (i := 6) (some 104) (v := ?_) rfl rfl (by kernel_rfl) (by rfl) hQ7 hHeld ?_ ?_
  rotate_left
  · intro w7 hSw; (try dsimp only at hSw); go_simp; all_goals with_reducible rfl
  try simp only [Act.put, List.setIfInBounds_toArray, List.set_cons_zero, List.set_cons_succ]
  refine rg_take (i := 7) (some 105) (v := ?_) rfl rfl (by kernel_rfl) (by rfl) hQ7 hHeld ?_ ?_
  rotate_left
  · intro w7 hSw; (try dsimp only at hSw); go_simp; all_goals with_reducible rfl
  try simp only [Act.put, List.setIfInBounds_toArray, List.set_cons_zero, List.set_cons_succ]
  refine rg_take (i := 8) (some 106) (v := ?_) rfl rfl (by kernel_rfl) (by rfl) hQ7 hHeld ?_ ?_
  rotate_left
  · intro w7 hSw; (try dsimp only at hSw); go_simp; all_goals with_reducible rfl
  try simp only [Act.put, List.setIfInBounds_toArray, List.set_cons_zero, List.set_cons_succ]
  refine rg_one (i := 9) (by kernel_rfl) (rg_step rfl (by rfl) (fun K hK => ?_))
  go_simp
  refine hK.out _ _ ?_ (fun hHeld2 => ?_)
  · exact SS.out _ (ext_alloc hHeld.1 _)
  clear hHeld
  have hHeld := hHeld2
  clear hHeld2
  clear hK K
  try simp only [Act.put, List.setIfInBounds_toArray, List.set_cons_zero, List.set_cons_succ]
  refine rg_one (i := 10) (by kernel_rfl) (rg_late rfl (by rfl) (by kernel_rfl) (fun K hK => ?_))
  go_simp
  refine hK.out _ _ ?_
  clear hK K
  try simp only [Act.put, List.setIfInBounds_toArray, List.set_cons_zero, List.set_cons_succ]
  refine rg_end (by kernel_rfl) (hN7 _ _ ?_) _
  clear hQ7 hN7 Q7
  have BX := hHeld.1
  clear SS
  clear BX hd hb1 hA
  replace E := Lib.hid (ext_alloc E.out (.cells #[.int .i64 a.no, .int .i64 a.f, .int .i64 a.t, .int .i64 a.m, .int .i64 a.r] 26))
  replace PB := Lib.hid (PB.out.alloc (.cells #[.int .i64 a.no, .int .i64 a.f, .int .i64 a.t, .int .i64 a.m, .int .i64 a.r] 26))
  replace PP := Lib.hid (PP.out.alloc (.cells #[.int .i64 a.no, .int .i64 a.f, .int .i64 a.t, .int .i64 a.m, .int .i64 a.r] 26))
  replace SX := Lib.hid (SX.out.alloc (.cells #[.int .i64 a.no, .int .i64 a.f, .int .i64 a.t, .int .i64 a.m, .int .i64 a.r] 26))
  replace BB := Lib.hid (BB.out.alloc (.cells #[.int .i64 a.no, .int .i64 a.f, .int .i64 a.t, .int .i64 a.m, .int .i64 a.r] 26))
  have AX := Lib.hid (Blk.newH z9 [.int .i64 a.no, .int .i64 a.f, .int .i64 a.t, .int .i64 a.m, .int .i64 a.r] 26 (z9.heap.size) (by first | rfl | simp))
  have DD := ext_drew (ext_refl (z9.alloc (.cells #[.int .i64 a.no, .int .i64 a.f, .int .i64 a.t, .int .i64 a.m, .int .i64 a.r] 26)))
  replace E := Lib.hid (ext_trans E.out DD)
  replace PB := Lib.hid (PB.out.ext DD)
  replace PP := Lib.hid (PP.out.ext DD)
  replace SX := Lib.hid (SX.out.ext DD)
  replace BB := Lib.hid (BB.out.ext DD)
  replace AX := Lib.hid (AX.out.ext DD)
  clear DD
  obtain ⟨z8, hNz8⟩ : ∃ W0, W0 = (z9.alloc (.cells #[.int .i64 a.no, .int .i64 a.f, .int .i64 a.t, .int .i64 a.m, .int .i64 a.r] 26)).drew := ⟨_, rfl⟩
  rw [← hNz8] at E PB PP SX BB AX ⊢
  clear hNz8
  have c0 := AX.out.c 0 _ rfl
  have c1 := BB.out.c 0 _ rfl
  have c2 := BB.out.c 1 _ rfl
  go_wp2_with fail
  refine (offd_at ob HOB.out).mono ?_
  rintro e _ ⟨rfl, rfl⟩
  cases ob
  · go_wp2_with fail
    go_ret
    exact went_same H2.out LX.out LY.out PB.out PP.out (E.out.mono (Nat.le_of_lt HPL.out))
  go_wp2_with fail
  refine (taken_two0 PB.out PP.out H2.out HX.out HOB.out LX.out LY.out HL.out HN.out).mono ?_
  rintro e u ⟨q, ⟨rfl, hr⟩, hq⟩
  go_wp2_with fail
  go_ret
  exact Went.low ⟨q, ⟨rfl, hr⟩, hq⟩ (E.out.mono (Nat.le_of_lt HPL.out))
set_option maxHeartbeats 1600000 in
set_option maxRecDepth 100000 in
theorem step_02 (x y : Bd) (A : Option Addr) (n c P L : Nat) (l : List Lt) (sk ssi sn : Int) (back : Bool) (mi ra : Int) (w : World) (hP : Blk w P (Pc x y A n c)) (hp : PR w P x y A n c l) (h2 : Two ⟨x.bl, y.bl, l⟩) (hlx : LenS L x.bl) (hly : LenS L y.bl) (hL : L ≤ 900) (hn : n ≤ 900) (hk0 : 0 ≤ sk ∧ sk < 256) (hs0 : 0 ≤ ssi ∧ ssi < 256) (hn0 : 0 ≤ sn ∧ sn < 256) (hsi : ssi.tmod 2 = 0) (hsk : sk.tmod 4 = 2) :
    Calls Try.prog 27 #[.pointer (some ⟨P, 0, none⟩), .agg #[.int .u8 sk, .int .u8 ssi, .int .u8 sn, .bool back, .int .i64 mi, .int .i64 ra]] w (Went w P L n) := by
  have H2 := Lib.hid h2
  have LX := Lib.hid hlx
  have LY := Lib.hid hly
  have HL := Lib.hid hL
  have HN := Lib.hid (show n ≤ 1000 by omega)
  have ks : IntKind.i64.wrap ssi = ssi := IntWalk.i64_in _ (by omega)
  have kn : IntKind.i64.wrap sn = sn := IntWalk.i64_in _ (by omega)
  have HN0 := Lib.hid hn0
  clear h2 hlx hly hL hn hk0 hs0 hn0
  have E := Lib.hid (ext_refl w)
  have PB := Lib.hid (hP)
  have PP := Lib.hid (hp)
  have HPL := Lib.hid hp.lt
  have HLN := Lib.hid hp.hn
  clear hP hp
  replace E := Lib.hid (ext_alloc E.out (.cells #[.int .u8 sk, .int .u8 ssi, .int .u8 sn, .bool back, .int .i64 mi, .int .i64 ra] 50))
  replace PB := Lib.hid (PB.out.alloc (.cells #[.int .u8 sk, .int .u8 ssi, .int .u8 sn, .bool back, .int .i64 mi, .int .i64 ra] 50))
  replace PP := Lib.hid (PP.out.alloc (.cells #[.int .u8 sk, .int .u8 ssi, .int .u8 sn, .bool back, .int .i64 mi, .int .i64 ra] 50))
  have SX := Lib.hid (Blk.newH w [.int .u8 sk, .int .u8 ssi, .int .u8 sn, .bool back, .int .i64 mi, .int .i64 ra] 50 (w.heap.size) (by first | rfl | simp))
  go_enter Try.func27, Try.ntmps27
  have pb0 := PB.out.c 0 _ rfl
  have pb1 := PB.out.c 1 _ rfl
  have pb2 := PB.out.c 2 _ rfl
  have pb3 := PB.out.c 3 _ rfl
  have pb4 := PB.out.c 4 _ rfl
  have pb5 := PB.out.c 5 _ rfl
  have pb6 := PB.out.c 6 _ rfl
  have pb7 := PB.out.c 7 _ rfl
  have pb8 := PB.out.c 8 _ rfl
  have pbf := PB.out.f
  have pbl := PB.out.lt
  have sx0 := SX.out.c 0 _ rfl
  have sx1 := SX.out.c 1 _ rfl
  have sx2 := SX.out.c 2 _ rfl
  have sx3 := SX.out.c 3 _ rfl
  have sx4 := SX.out.c 4 _ rfl
  have sx5 := SX.out.c 5 _ rfl
  have sxf := SX.out.f
  have sxl := SX.out.lt
  have hpl := HPL.out
  have hpl1 : P < w.heap.size + 1 := by omega
  by_cases hop : n = 0
  · have hop1 : ¬ (0 : Int) < (n : Int) := by omega
    clear hop
    go_wp2_with fail
    clear pb0 pb1 pb2 pb3 pb4 pb5 pb6 pb7 pb8 pbf pbl sx0 sx1 sx2 sx3 sx4 sx5 sxf sxl
    replace E := Lib.hid (ext_alloc E.out (.cells #[.int .i64 x.own, .int .i64 x.ot, .slice x.ag.A x.ag.l.length x.ag.c, .slice x.op.A x.op.l.length x.op.c] 24))
    replace PB := Lib.hid (PB.out.alloc (.cells #[.int .i64 x.own, .int .i64 x.ot, .slice x.ag.A x.ag.l.length x.ag.c, .slice x.op.A x.op.l.length x.op.c] 24))
    replace PP := Lib.hid (PP.out.alloc (.cells #[.int .i64 x.own, .int .i64 x.ot, .slice x.ag.A x.ag.l.length x.ag.c, .slice x.op.A x.op.l.length x.op.c] 24))
    replace SX := Lib.hid (SX.out.alloc (.cells #[.int .i64 x.own, .int .i64 x.ot, .slice x.ag.A x.ag.l.length x.ag.c, .slice x.op.A x.op.l.length x.op.c] 24))
    have BB := Lib.hid (Blk.newH (w.alloc (.cells #[.int .u8 sk, .int .u8 ssi, .int .u8 sn, .bool back, .int .i64 mi, .int .i64 ra] 50)) [.int .i64 x.own, .int .i64 x.ot, .slice x.ag.A x.ag.l.length x.ag.c, .slice x.op.A x.op.l.length x.op.c] 24 (w.heap.size + 1) (by first | rfl | simp))
    go_ret
    exact went_same H2.out LX.out LY.out PB.out PP.out (E.out.mono (Nat.le_of_lt HPL.out))
  have hop1 : (0 : Int) < (n : Int) := by omega
  obtain ⟨j, hj, hjl⟩ := idx_of HN0.out.1 hop
  have hjl1 : (j : Int) < (n : Int) := by omega
  have hne : n ≠ 0 := hop
  clear hop
  go_wp2_with fail
  clear pb0 pb1 pb2 pb3 pb4 pb5 pb6 pb7 pb8 pbf pbl sx0 sx1 sx2 sx3 sx4 sx5 sxf sxl
  clear hpl hpl1
  replace E := Lib.hid (ext_alloc E.out (.cells #[.int .i64 x.own, .int .i64 x.ot, .slice x.ag.A x.ag.l.length x.ag.c, .slice x.op.A x.op.l.length x.op.c] 24))
  replace PB := Lib.hid (PB.out.alloc (.cells #[.int .i64 x.own, .int .i64 x.ot, .slice x.ag.A x.ag.l.length x.ag.c, .slice x.op.A x.op.l.length x.op.c] 24))
  replace PP := Lib.hid (PP.out.alloc (.cells #[.int .i64 x.own, .int .i64 x.ot, .slice x.ag.A x.ag.l.length x.ag.c, .slice x.op.A x.op.l.length x.op.c] 24))
  replace SX := Lib.hid (SX.out.alloc (.cells #[.int .i64 x.own, .int .i64 x.ot, .slice x.ag.A x.ag.l.length x.ag.c, .slice x.op.A x.op.l.length x.op.c] 24))
  have BB := Lib.hid (Blk.newH (w.alloc (.cells #[.int .u8 sk, .int .u8 ssi, .int .u8 sn, .bool back, .int .i64 mi, .int .i64 ra] 50)) [.int .i64 x.own, .int .i64 x.ot, .slice x.ag.A x.ag.l.length x.ag.c, .slice x.op.A x.op.l.length x.op.c] 24 (w.heap.size + 1) (by first | rfl | simp))
  obtain ⟨z9, hNz9⟩ : ∃ W0, W0 = ((w.alloc (.cells #[.int .u8 sk, .int .u8 ssi, .int .u8 sn, .bool back, .int .i64 mi, .int .i64 ra] 50)).alloc (.cells #[.int .i64 x.own, .int .i64 x.ot, .slice x.ag.A x.ag.l.length x.ag.c, .slice x.op.A x.op.l.length x.op.c] 24)) := ⟨_, rfl⟩
  rw [← hNz9] at E PB PP SX BB ⊢
  clear hNz9
  obtain ⟨m, b1, o1, hx, rfl, hb1, hd⟩ := PP.out.row.at_ (k := j) (by rw [HLN.out]; exact hjl)
  have HX := Lib.hid (List.mem_of_getElem? hx)
  clear hx
  have SS := Lib.hid (show ∀ w', Below z9.heap.size z9 w' → (fun w' => Below z9.heap.size z9 w' ∧ w'.cell? ⟨P, 8, none⟩ = some (.slice (some ⟨b1, o1, none⟩) n c) ∧ w'.cell? ⟨w.heap.size, 2, none⟩ = some (.int .u8 sn) ∧ w'.cell? ⟨b1, o1 + j * 7, none⟩ = some (.int .i64 (bi m.to)) ∧ w'.cell? ⟨b1, o1 + j * 7 + 1, none⟩ = some (.bool m.acc) ∧ w'.cell? ⟨b1, o1 + j * 7 + 2, none⟩ = some (.int .i64 m.a.no) ∧ w'.cell? ⟨b1, o1 + j * 7 + 3, none⟩ = some (.int .i64 m.a.f) ∧ w'.cell? ⟨b1, o1 + j * 7 + 4, none⟩ = some (.int .i64 m.a.t) ∧ w'.cell? ⟨b1, o1 + j * 7 + 5, none⟩ = some (.int .i64 m.a.m) ∧ w'.cell? ⟨b1, o1 + j * 7 + 6, none⟩ = some (.int .i64 m.a.r)) w' from fun w' h => ⟨h, (PB.out.ext h).c 8 _ rfl, (SX.out.ext h).c 2 _ rfl, (h.cell (p := ⟨b1, o1 + j * 7 + 0, none⟩) hb1).trans (hd 0 _ rfl), (h.cell (p := ⟨b1, o1 + j * 7 + 1, none⟩) hb1).trans (hd 1 _ rfl), (h.cell (p := ⟨b1, o1 + j * 7 + 2, none⟩) hb1).trans (hd 2 _ rfl), (h.cell (p := ⟨b1, o1 + j * 7 + 3, none⟩) hb1).trans (hd 3 _ rfl), (h.cell (p := ⟨b1, o1 + j * 7 + 4, none⟩) hb1).trans (hd 4 _ rfl), (h.cell (p := ⟨b1, o1 + j * 7 + 5, none⟩) hb1).trans (hd 5 _ rfl), (h.cell (p := ⟨b1, o1 + j * 7 + 6, none⟩) hb1).trans (hd 6 _ rfl)⟩)
  refine rg_begin (S := (fun w' => Below z9.heap.size z9 w' ∧ w'.cell? ⟨P, 8, none⟩ = some (.slice (some ⟨b1, o1, none⟩) n c) ∧ w'.cell? ⟨w.heap.size, 2, none⟩ = some (.int .u8 sn) ∧ w'.cell? ⟨b1, o1 + j * 7, none⟩ = some (.int .i64 (bi m.to)) ∧ w'.cell? ⟨b1, o1 + j * 7 + 1, none⟩ = some (.bool m.acc) ∧ w'.cell? ⟨b1, o1 + j * 7 + 2, none⟩ = some (.int .i64 m.a.no) ∧ w'.cell? ⟨b1, o1 + j * 7 + 3, none⟩ = some (.int .i64 m.a.f) ∧ w'.cell? ⟨b1, o1 + j * 7 + 4, none⟩ = some (.int .i64 m.a.t) ∧ w'.cell? ⟨b1, o1 + j * 7 + 5, none⟩ = some (.int .i64 m.a.m) ∧ w'.cell? ⟨b1, o1 + j * 7 + 6, none⟩ = some (.int .i64 m.a.r))) 12 (by kernel_rfl) (by intro d; cases d <;> intro _ _ _ _ h <;> exact h) ?_ (fun Q7 hQ7 hN7 hHeld => ?_)
  · exact SS.out _ (ext_drew (ext_refl _))
  refine rg_take (i := 0) (some 35) (v := ?_) rfl rfl (by kernel_rfl) (by rfl) hQ7 hHeld ?_ ?_
  rotate_left
  · intro w7 hSw; (try dsimp only at hSw); go_simp; all_goals with_reducible rfl
  try simp only [Act.put, List.setIfInBounds_toArray, List.set_cons_zero, List.set_cons_succ]
  refine rg_take (i := 1) (some 36) (v := ?_) rfl rfl (by kernel_rfl) (by rfl) hQ7 hHeld ?_ ?_
  rotate_left
  · intro w7 hSw; (try dsimp only at hSw); go_simp; all_goals with_reducible rfl
  try simp only [Act.put, List.setIfInBounds_toArray, List.set_cons_zero, List.set_cons_succ]
  refine rg_take (i := 2) (some 37) (v := ?_) rfl rfl (by kernel_rfl) (by rfl) hQ7 hHeld ?_ ?_
  rotate_left
  · intro w7 hSw; (try dsimp only at hSw); go_simp; all_goals with_reducible rfl
  try simp only [Act.put, List.setIfInBounds_toArray, List.set_cons_zero, List.set_cons_succ]
  refine rg_take (i := 3) (some 38) (v := ?_) rfl rfl (by kernel_rfl) (by rfl) hQ7 hHeld ?_ ?_
  rotate_left
  · intro w7 hSw; (try dsimp only at hSw); go_simp; all_goals with_reducible rfl
  try simp only [Act.put, List.setIfInBounds_toArray, List.set_cons_zero, List.set_cons_succ]
  refine rg_take (i := 4) (some 39) (v := ?_) rfl rfl (by kernel_rfl) (by rfl) hQ7 hHeld ?_ ?_
  rotate_left
  · intro w7 hSw; (try dsimp only at hSw); go_simp; all_goals with_reducible rfl
  try simp only [Act.put, List.setIfInBounds_toArray, List.set_cons_zero, List.set_cons_succ]
  refine rg_take (i := 5) (some 40) (v := ?_) rfl rfl (by kernel_rfl) (by rfl) hQ7 hHeld ?_ ?_
  rotate_left
  · intro w7 hSw; (try dsimp only at hSw); go_simp; all_goals with_reducible rfl
  try simp only [Act.put, List.setIfInBounds_toArray, List.set_cons_zero, List.set_cons_succ]
  refine rg_take (i := 6) (some 41) (v := ?_) rfl rfl (by kernel_rfl) (by rfl) hQ7 hHeld ?_ ?_
  rotate_left
  · intro w7 hSw; (try dsimp only at hSw); go_simp; all_goals with_reducible rfl
  try simp only [Act.put, List.setIfInBounds_toArray, List.set_cons_zero, List.set_cons_succ]
  refine rg_take (i := 7) (some 42) (v := ?_) rfl rfl (by kernel_rfl) (by rfl) hQ7 hHeld ?_ ?_
  rotate_left
  · intro w7 hSw; (try dsimp only at hSw); go_simp; all_goals with_reducible rfl
  try simp only [Act.put, List.setIfInBounds_toArray, List.set_cons_zero, List.set_cons_succ]
  refine rg_take (i := 8) (some 43) (v := ?_) rfl rfl (by kernel_rfl) (by rfl) hQ7 hHeld ?_ ?_
  rotate_left
  · intro w7 hSw; (try dsimp only at hSw); go_simp; all_goals with_reducible rfl
  try simp only [Act.put, List.setIfInBounds_toArray, List.set_cons_zero, List.set_cons_succ]
  refine rg_take (i := 9) (some 44) (v := ?_) rfl rfl (by kernel_rfl) (by rfl) hQ7 hHeld ?_ ?_
  rotate_left
  · intro w7 hSw; (try dsimp only at hSw); go_simp; all_goals with_reducible rfl
  try simp only [Act.put, List.setIfInBounds_toArray, List.set_cons_zero, List.set_cons_succ]
  refine rg_take (i := 10) (some 45) (v := ?_) rfl rfl (by kernel_rfl) (by rfl) hQ7 hHeld ?_ ?_
  rotate_left
  · intro w7 hSw; (try dsimp only at hSw); go_simp; all_goals with_reducible rfl
  try simp only [Act.put, List.setIfInBounds_toArray, List.set_cons_zero, List.set_cons_succ]
  refine rg_take (i := 11) (some 46) (v := ?_) rfl rfl (by kernel_rfl) (by rfl) hQ7 hHeld ?_ ?_
  rotate_left
  · intro w7 hSw; (try dsimp only at hSw); go_simp; all_goals with_reducible rfl
  try simp only [Act.put, List.setIfInBounds_toArray, List.set_cons_zero, List.set_cons_succ]
  refine rg_one (i := 12) (by kernel_rfl) (rg_late rfl (by rfl) (by kernel_rfl) (fun K hK => ?_))
  go_simp
  refine (told_two (PB.out.ext hHeld.1) (PP.out.ext hHeld.1) H2.out HX.out LX.out LY.out HL.out).mono ?_
  rintro e u ⟨q, ⟨rfl, hr⟩, hq⟩
  go_wp2_with fail
  refine hK.out _ _ ?_
  clear hK K
  try simp only [Act.put, List.setIfInBounds_toArray, List.set_cons_zero, List.set_cons_succ]
  refine rg_pure (i := 13) (some 4) (v := ?_) rfl rfl (by kernel_rfl) (by rfl) hQ7 (.inl (by kernel_rfl)) ?_ ?_
  rotate_left
  · intro w7; go_simp; all_goals with_reducible rfl
  try simp only [Act.put, List.setIfInBounds_toArray, List.set_cons_zero, List.set_cons_succ]
  refine rg_end (by kernel_rfl) (hN7 _ _ ?_) _
  clear hQ7 hN7 Q7
  have BX := hHeld.1
  clear SS
  replace E := Lib.hid (ext_trans E.out BX)
  clear BX
  go_wp2_with fail
  go_ret
  exact Went.low ⟨q, ⟨rfl, hr⟩, hq⟩ (E.out.mono (Nat.le_of_lt HPL.out))
set_option maxHeartbeats 1600000 in
set_option maxRecDepth 100000 in
theorem step_03 (x y : Bd) (A : Option Addr) (n c P L : Nat) (l : List Lt) (sk ssi sn : Int) (back : Bool) (mi ra : Int) (w : World) (hP : Blk w P (Pc x y A n c)) (hp : PR w P x y A n c l) (h2 : Two ⟨x.bl, y.bl, l⟩) (hlx : LenS L x.bl) (hly : LenS L y.bl) (hL : L ≤ 900) (hn : n ≤ 900) (hk0 : 0 ≤ sk ∧ sk < 256) (hs0 : 0 ≤ ssi ∧ ssi < 256) (hn0 : 0 ≤ sn ∧ sn < 256) (hsi : ssi.tmod 2 = 0) (hsk : sk.tmod 4 = 3) :
    Calls Try.prog 27 #[.pointer (some ⟨P, 0, none⟩), .agg #[.int .u8 sk, .int .u8 ssi, .int .u8 sn, .bool back, .int .i64 mi, .int .i64 ra]] w (Went w P L n) := by
  have H2 := Lib.hid h2
  have LX := Lib.hid hlx
  have LY := Lib.hid hly
  have HL := Lib.hid hL
  have HN := Lib.hid (show n ≤ 1000 by omega)
  have ks : IntKind.i64.wrap ssi = ssi := IntWalk.i64_in _ (by omega)
  have kn : IntKind.i64.wrap sn = sn := IntWalk.i64_in _ (by omega)
  have HN0 := Lib.hid hn0
  clear h2 hlx hly hL hn hk0 hs0 hn0
  have E := Lib.hid (ext_refl w)
  have PB := Lib.hid (hP)
  have PP := Lib.hid (hp)
  have HPL := Lib.hid hp.lt
  have HLN := Lib.hid hp.hn
  clear hP hp
  replace E := Lib.hid (ext_alloc E.out (.cells #[.int .u8 sk, .int .u8 ssi, .int .u8 sn, .bool back, .int .i64 mi, .int .i64 ra] 50))
  replace PB := Lib.hid (PB.out.alloc (.cells #[.int .u8 sk, .int .u8 ssi, .int .u8 sn, .bool back, .int .i64 mi, .int .i64 ra] 50))
  replace PP := Lib.hid (PP.out.alloc (.cells #[.int .u8 sk, .int .u8 ssi, .int .u8 sn, .bool back, .int .i64 mi, .int .i64 ra] 50))
  have SX := Lib.hid (Blk.newH w [.int .u8 sk, .int .u8 ssi, .int .u8 sn, .bool back, .int .i64 mi, .int .i64 ra] 50 (w.heap.size) (by first | rfl | simp))
  go_enter Try.func27, Try.ntmps27
  have pb0 := PB.out.c 0 _ rfl
  have pb1 := PB.out.c 1 _ rfl
  have pb2 := PB.out.c 2 _ rfl
  have pb3 := PB.out.c 3 _ rfl
  have pb4 := PB.out.c 4 _ rfl
  have pb5 := PB.out.c 5 _ rfl
  have pb6 := PB.out.c 6 _ rfl
  have pb7 := PB.out.c 7 _ rfl
  have pb8 := PB.out.c 8 _ rfl
  have pbf := PB.out.f
  have pbl := PB.out.lt
  have sx0 := SX.out.c 0 _ rfl
  have sx1 := SX.out.c 1 _ rfl
  have sx2 := SX.out.c 2 _ rfl
  have sx3 := SX.out.c 3 _ rfl
  have sx4 := SX.out.c 4 _ rfl
  have sx5 := SX.out.c 5 _ rfl
  have sxf := SX.out.f
  have sxl := SX.out.lt
  have hpl := HPL.out
  have hpl1 : P < w.heap.size + 1 := by omega
  by_cases hop : n = 0
  · have hop1 : ¬ (0 : Int) < (n : Int) := by omega
    clear hop
    go_wp2_with fail
    clear pb0 pb1 pb2 pb3 pb4 pb5 pb6 pb7 pb8 pbf pbl sx0 sx1 sx2 sx3 sx4 sx5 sxf sxl
    replace E := Lib.hid (ext_alloc E.out (.cells #[.int .i64 x.own, .int .i64 x.ot, .slice x.ag.A x.ag.l.length x.ag.c, .slice x.op.A x.op.l.length x.op.c] 24))
    replace PB := Lib.hid (PB.out.alloc (.cells #[.int .i64 x.own, .int .i64 x.ot, .slice x.ag.A x.ag.l.length x.ag.c, .slice x.op.A x.op.l.length x.op.c] 24))
    replace PP := Lib.hid (PP.out.alloc (.cells #[.int .i64 x.own, .int .i64 x.ot, .slice x.ag.A x.ag.l.length x.ag.c, .slice x.op.A x.op.l.length x.op.c] 24))
    replace SX := Lib.hid (SX.out.alloc (.cells #[.int .i64 x.own, .int .i64 x.ot, .slice x.ag.A x.ag.l.length x.ag.c, .slice x.op.A x.op.l.length x.op.c] 24))
    have BB := Lib.hid (Blk.newH (w.alloc (.cells #[.int .u8 sk, .int .u8 ssi, .int .u8 sn, .bool back, .int .i64 mi, .int .i64 ra] 50)) [.int .i64 x.own, .int .i64 x.ot, .slice x.ag.A x.ag.l.length x.ag.c, .slice x.op.A x.op.l.length x.op.c] 24 (w.heap.size + 1) (by first | rfl | simp))
    go_ret
    exact went_same H2.out LX.out LY.out PB.out PP.out (E.out.mono (Nat.le_of_lt HPL.out))
  have hop1 : (0 : Int) < (n : Int) := by omega
  obtain ⟨j, hj, hjl⟩ := idx_of HN0.out.1 hop
  have hjl1 : (j : Int) < (n : Int) := by omega
  have hne : n ≠ 0 := hop
  clear hop
  go_wp2_with fail
  clear pb0 pb1 pb2 pb3 pb4 pb5 pb6 pb7 pb8 pbf pbl sx0 sx1 sx2 sx3 sx4 sx5 sxf sxl
  clear hpl hpl1
  replace E := Lib.hid (ext_alloc E.out (.cells #[.int .i64 x.own, .int .i64 x.ot, .slice x.ag.A x.ag.l.length x.ag.c, .slice x.op.A x.op.l.length x.op.c] 24))
  replace PB := Lib.hid (PB.out.alloc (.cells #[.int .i64 x.own, .int .i64 x.ot, .slice x.ag.A x.ag.l.length x.ag.c, .slice x.op.A x.op.l.length x.op.c] 24))
  replace PP := Lib.hid (PP.out.alloc (.cells #[.int .i64 x.own, .int .i64 x.ot, .slice x.ag.A x.ag.l.length x.ag.c, .slice x.op.A x.op.l.length x.op.c] 24))
  replace SX := Lib.hid (SX.out.alloc (.cells #[.int .i64 x.own, .int .i64 x.ot, .slice x.ag.A x.ag.l.length x.ag.c, .slice x.op.A x.op.l.length x.op.c] 24))
  have BB := Lib.hid (Blk.newH (w.alloc (.cells #[.int .u8 sk, .int .u8 ssi, .int .u8 sn, .bool back, .int .i64 mi, .int .i64 ra] 50)) [.int .i64 x.own, .int .i64 x.ot, .slice x.ag.A x.ag.l.length x.ag.c, .slice x.op.A x.op.l.length x.op.c] 24 (w.heap.size + 1) (by first | rfl | simp))
  obtain ⟨z9, hNz9⟩ : ∃ W0, W0 = ((w.alloc (.cells #[.int .u8 sk, .int .u8 ssi, .int .u8 sn, .bool back, .int .i64 mi, .int .i64 ra] 50)).alloc (.cells #[.int .i64 x.own, .int .i64 x.ot, .slice x.ag.A x.ag.l.length x.ag.c, .slice x.op.A x.op.l.length x.op.c] 24)) := ⟨_, rfl⟩
  rw [← hNz9] at E PB PP SX BB ⊢
  clear hNz9
  obtain ⟨m, b1, o1, hx, rfl, hb1, hd⟩ := PP.out.row.at_ (k := j) (by rw [HLN.out]; exact hjl)
  have HX := Lib.hid (List.mem_of_getElem? hx)
  clear hx
  have SS := Lib.hid (show ∀ w', Below z9.heap.size z9 w' → (fun w' => Below z9.heap.size z9 w' ∧ w'.cell? ⟨P, 8, none⟩ = some (.slice (some ⟨b1, o1, none⟩) n c) ∧ w'.cell? ⟨w.heap.size, 2, none⟩ = some (.int .u8 sn) ∧ w'.cell? ⟨b1, o1 + j * 7, none⟩ = some (.int .i64 (bi m.to)) ∧ w'.cell? ⟨b1, o1 + j * 7 + 1, none⟩ = some (.bool m.acc) ∧ w'.cell? ⟨b1, o1 + j * 7 + 2, none⟩ = some (.int .i64 m.a.no) ∧ w'.cell? ⟨b1, o1 + j * 7 + 3, none⟩ = some (.int .i64 m.a.f) ∧ w'.cell? ⟨b1, o1 + j * 7 + 4, none⟩ = some (.int .i64 m.a.t) ∧ w'.cell? ⟨b1, o1 + j * 7 + 5, none⟩ = some (.int .i64 m.a.m) ∧ w'.cell? ⟨b1, o1 + j * 7 + 6, none⟩ = some (.int .i64 m.a.r)) w' from fun w' h => ⟨h, (PB.out.ext h).c 8 _ rfl, (SX.out.ext h).c 2 _ rfl, (h.cell (p := ⟨b1, o1 + j * 7 + 0, none⟩) hb1).trans (hd 0 _ rfl), (h.cell (p := ⟨b1, o1 + j * 7 + 1, none⟩) hb1).trans (hd 1 _ rfl), (h.cell (p := ⟨b1, o1 + j * 7 + 2, none⟩) hb1).trans (hd 2 _ rfl), (h.cell (p := ⟨b1, o1 + j * 7 + 3, none⟩) hb1).trans (hd 3 _ rfl), (h.cell (p := ⟨b1, o1 + j * 7 + 4, none⟩) hb1).trans (hd 4 _ rfl), (h.cell (p := ⟨b1, o1 + j * 7 + 5, none⟩) hb1).trans (hd 5 _ rfl), (h.cell (p := ⟨b1, o1 + j * 7 + 6, none⟩) hb1).trans (hd 6 _ rfl)⟩)
  refine rg_begin (S := (fun w' => Below z9.heap.size z9 w' ∧ w'.cell? ⟨P, 8, none⟩ = some (.slice (some ⟨b1, o1, none⟩) n c) ∧ w'.cell? ⟨w.heap.size, 2, none⟩ = some (.int .u8 sn) ∧ w'.cell? ⟨b1, o1 + j * 7, none⟩ = some (.int .i64 (bi m.to)) ∧ w'.cell? ⟨b1, o1 + j * 7 + 1, none⟩ = some (.bool m.acc) ∧ w'.cell? ⟨b1, o1 + j * 7 + 2, none⟩ = some (.int .i64 m.a.no) ∧ w'.cell? ⟨b1, o1 + j * 7 + 3, none⟩ = some (.int .i64 m.a.f) ∧ w'.cell? ⟨b1, o1 + j * 7 + 4, none⟩ = some (.int .i64 m.a.t) ∧ w'.cell? ⟨b1, o1 + j * 7 + 5, none⟩ = some (.int .i64 m.a.m) ∧ w'.cell? ⟨b1, o1 + j * 7 + 6, none⟩ = some (.int .i64 m.a.r))) 12 (by kernel_rfl) (by intro d; cases d <;> intro _ _ _ _ h <;> exact h) ?_ (fun Q7 hQ7 hN7 hHeld => ?_)
  · exact SS.out _ (ext_drew (ext_refl _))
  refine rg_take (i := 0) (some 35) (v := ?_) rfl rfl (by kernel_rfl) (by rfl) hQ7 hHeld ?_ ?_
  rotate_left
  · intro w7 hSw; (try dsimp only at hSw); go_simp; all_goals with_reducible rfl
  try simp only [Act.put, List.setIfInBounds_toArray, List.set_cons_zero, List.set_cons_succ]
  refine rg_take (i := 1) (some 36) (v := ?_) rfl rfl (by kernel_rfl) (by rfl) hQ7 hHeld ?_ ?_
  rotate_left
  · intro w7 hSw; (try dsimp only at hSw); go_simp; all_goals with_reducible rfl
  try simp only [Act.put, List.setIfInBounds_toArray, List.set_cons_zero, List.set_cons_succ]
  refine rg_take (i := 2) (some 37) (v := ?_) rfl rfl (by kernel_rfl) (by rfl) hQ7 hHeld ?_ ?_
  rotate_left
  · intro w7 hSw; (try dsimp only at hSw); go_simp; all_goals with_reducible rfl
  try simp only [Act.put, List.setIfInBounds_toArray, List.set_cons_zero, List.set_cons_succ]
  refine rg_take (i := 3) (some 38) (v := ?_) rfl rfl (by kernel_rfl) (by rfl) hQ7 hHeld ?_ ?_
  rotate_left
  · intro w7 hSw; (try dsimp only at hSw); go_simp; all_goals with_reducible rfl
  try simp only [Act.put, List.setIfInBounds_toArray, List.set_cons_zero, List.set_cons_succ]
  refine rg_take (i := 4) (some 39) (v := ?_) rfl rfl (by kernel_rfl) (by rfl) hQ7 hHeld ?_ ?_
  rotate_left
  · intro w7 hSw; (try dsimp only at hSw); go_simp; all_goals with_reducible rfl
  try simp only [Act.put, List.setIfInBounds_toArray, List.set_cons_zero, List.set_cons_succ]
  refine rg_take (i := 5) (some 40) (v := ?_) rfl rfl (by kernel_rfl) (by rfl) hQ7 hHeld ?_ ?_
  rotate_left
  · intro w7 hSw; (try dsimp only at hSw); go_simp; all_goals with_reducible rfl
  try simp only [Act.put, List.setIfInBounds_toArray, List.set_cons_zero, List.set_cons_succ]
  refine rg_take (i := 6) (some 41) (v := ?_) rfl rfl (by kernel_rfl) (by rfl) hQ7 hHeld ?_ ?_
  rotate_left
  · intro w7 hSw; (try dsimp only at hSw); go_simp; all_goals with_reducible rfl
  try simp only [Act.put, List.setIfInBounds_toArray, List.set_cons_zero, List.set_cons_succ]
  refine rg_take (i := 7) (some 42) (v := ?_) rfl rfl (by kernel_rfl) (by rfl) hQ7 hHeld ?_ ?_
  rotate_left
  · intro w7 hSw; (try dsimp only at hSw); go_simp; all_goals with_reducible rfl
  try simp only [Act.put, List.setIfInBounds_toArray, List.set_cons_zero, List.set_cons_succ]
  refine rg_take (i := 8) (some 43) (v := ?_) rfl rfl (by kernel_rfl) (by rfl) hQ7 hHeld ?_ ?_
  rotate_left
  · intro w7 hSw; (try dsimp only at hSw); go_simp; all_goals with_reducible rfl
  try simp only [Act.put, List.setIfInBounds_toArray, List.set_cons_zero, List.set_cons_succ]
  refine rg_take (i := 9) (some 44) (v := ?_) rfl rfl (by kernel_rfl) (by rfl) hQ7 hHeld ?_ ?_
  rotate_left
  · intro w7 hSw; (try dsimp only at hSw); go_simp; all_goals with_reducible rfl
  try simp only [Act.put, List.setIfInBounds_toArray, List.set_cons_zero, List.set_cons_succ]
  refine rg_take (i := 10) (some 45) (v := ?_) rfl rfl (by kernel_rfl) (by rfl) hQ7 hHeld ?_ ?_
  rotate_left
  · intro w7 hSw; (try dsimp only at hSw); go_simp; all_goals with_reducible rfl
  try simp only [Act.put, List.setIfInBounds_toArray, List.set_cons_zero, List.set_cons_succ]
  refine rg_take (i := 11) (some 46) (v := ?_) rfl rfl (by kernel_rfl) (by rfl) hQ7 hHeld ?_ ?_
  rotate_left
  · intro w7 hSw; (try dsimp only at hSw); go_simp; all_goals with_reducible rfl
  try simp only [Act.put, List.setIfInBounds_toArray, List.set_cons_zero, List.set_cons_succ]
  refine rg_one (i := 12) (by kernel_rfl) (rg_late rfl (by rfl) (by kernel_rfl) (fun K hK => ?_))
  go_simp
  refine (told_two (PB.out.ext hHeld.1) (PP.out.ext hHeld.1) H2.out HX.out LX.out LY.out HL.out).mono ?_
  rintro e u ⟨q, ⟨rfl, hr⟩, hq⟩
  go_wp2_with fail
  refine hK.out _ _ ?_
  clear hK K
  try simp only [Act.put, List.setIfInBounds_toArray, List.set_cons_zero, List.set_cons_succ]
  refine rg_pure (i := 13) (some 4) (v := ?_) rfl rfl (by kernel_rfl) (by rfl) hQ7 (.inl (by kernel_rfl)) ?_ ?_
  rotate_left
  · intro w7; go_simp; all_goals with_reducible rfl
  try simp only [Act.put, List.setIfInBounds_toArray, List.set_cons_zero, List.set_cons_succ]
  refine rg_end (by kernel_rfl) (hN7 _ _ ?_) _
  clear hQ7 hN7 Q7
  have BX := hHeld.1
  clear SS
  replace E := Lib.hid (ext_trans E.out BX)
  clear BX
  go_wp2_with fail
  go_ret
  exact Went.low ⟨q, ⟨rfl, hr⟩, hq⟩ (E.out.mono (Nat.le_of_lt HPL.out))
set_option maxHeartbeats 1600000 in
set_option maxRecDepth 100000 in
theorem step_11 (x y : Bd) (A : Option Addr) (n c P L : Nat) (l : List Lt) (sk ssi sn : Int) (back : Bool) (mi ra : Int) (w : World) (hP : Blk w P (Pc x y A n c)) (hp : PR w P x y A n c l) (h2 : Two ⟨x.bl, y.bl, l⟩) (hlx : LenS L x.bl) (hly : LenS L y.bl) (hL : L ≤ 900) (hn : n ≤ 900) (hk0 : 0 ≤ sk ∧ sk < 256) (hs0 : 0 ≤ ssi ∧ ssi < 256) (hn0 : 0 ≤ sn ∧ sn < 256) (hsi : ssi.tmod 2 = 1) (hsk : sk.tmod 4 = 1) :
    Calls Try.prog 27 #[.pointer (some ⟨P, 0, none⟩), .agg #[.int .u8 sk, .int .u8 ssi, .int .u8 sn, .bool back, .int .i64 mi, .int .i64 ra]] w (Went w P L n) := by
  have H2 := Lib.hid h2
  have LX := Lib.hid hlx
  have LY := Lib.hid hly
  have HL := Lib.hid hL
  have HN := Lib.hid (show n ≤ 1000 by omega)
  have ks : IntKind.i64.wrap ssi = ssi := IntWalk.i64_in _ (by omega)
  have kn : IntKind.i64.wrap sn = sn := IntWalk.i64_in _ (by omega)
  have HN0 := Lib.hid hn0
  clear h2 hlx hly hL hn hk0 hs0 hn0
  have E := Lib.hid (ext_refl w)
  have PB := Lib.hid (hP)
  have PP := Lib.hid (hp)
  have HPL := Lib.hid hp.lt
  have HLN := Lib.hid hp.hn
  clear hP hp
  replace E := Lib.hid (ext_alloc E.out (.cells #[.int .u8 sk, .int .u8 ssi, .int .u8 sn, .bool back, .int .i64 mi, .int .i64 ra] 50))
  replace PB := Lib.hid (PB.out.alloc (.cells #[.int .u8 sk, .int .u8 ssi, .int .u8 sn, .bool back, .int .i64 mi, .int .i64 ra] 50))
  replace PP := Lib.hid (PP.out.alloc (.cells #[.int .u8 sk, .int .u8 ssi, .int .u8 sn, .bool back, .int .i64 mi, .int .i64 ra] 50))
  have SX := Lib.hid (Blk.newH w [.int .u8 sk, .int .u8 ssi, .int .u8 sn, .bool back, .int .i64 mi, .int .i64 ra] 50 (w.heap.size) (by first | rfl | simp))
  go_enter Try.func27, Try.ntmps27
  have pb0 := PB.out.c 0 _ rfl
  have pb1 := PB.out.c 1 _ rfl
  have pb2 := PB.out.c 2 _ rfl
  have pb3 := PB.out.c 3 _ rfl
  have pb4 := PB.out.c 4 _ rfl
  have pb5 := PB.out.c 5 _ rfl
  have pb6 := PB.out.c 6 _ rfl
  have pb7 := PB.out.c 7 _ rfl
  have pb8 := PB.out.c 8 _ rfl
  have pbf := PB.out.f
  have pbl := PB.out.lt
  have sx0 := SX.out.c 0 _ rfl
  have sx1 := SX.out.c 1 _ rfl
  have sx2 := SX.out.c 2 _ rfl
  have sx3 := SX.out.c 3 _ rfl
  have sx4 := SX.out.c 4 _ rfl
  have sx5 := SX.out.c 5 _ rfl
  have sxf := SX.out.f
  have sxl := SX.out.lt
  by_cases hop : y.op.l.length = 0
  · have hop1 : ¬ (0 : Int) < y.op.l.length := by omega
    clear hop
    go_wp2_with fail
    clear pb0 pb1 pb2 pb3 pb4 pb5 pb6 pb7 pb8 pbf pbl sx0 sx1 sx2 sx3 sx4 sx5 sxf sxl
    replace E := Lib.hid (ext_alloc E.out (.cells #[.int .i64 y.own, .int .i64 y.ot, .slice y.ag.A y.ag.l.length y.ag.c, .slice y.op.A y.op.l.length y.op.c] 24))
    replace PB := Lib.hid (PB.out.alloc (.cells #[.int .i64 y.own, .int .i64 y.ot, .slice y.ag.A y.ag.l.length y.ag.c, .slice y.op.A y.op.l.length y.op.c] 24))
    replace PP := Lib.hid (PP.out.alloc (.cells #[.int .i64 y.own, .int .i64 y.ot, .slice y.ag.A y.ag.l.length y.ag.c, .slice y.op.A y.op.l.length y.op.c] 24))
    replace SX := Lib.hid (SX.out.alloc (.cells #[.int .i64 y.own, .int .i64 y.ot, .slice y.ag.A y.ag.l.length y.ag.c, .slice y.op.A y.op.l.length y.op.c] 24))
    have BB := Lib.hid (Blk.newH (w.alloc (.cells #[.int .u8 sk, .int .u8 ssi, .int .u8 sn, .bool back, .int .i64 mi, .int .i64 ra] 50)) [.int .i64 y.own, .int .i64 y.ot, .slice y.ag.A y.ag.l.length y.ag.c, .slice y.op.A y.op.l.length y.op.c] 24 (w.heap.size + 1) (by first | rfl | simp))
    go_ret
    exact went_same H2.out LX.out LY.out PB.out PP.out (E.out.mono (Nat.le_of_lt HPL.out))
  have hop1 : (0 : Int) < y.op.l.length := by omega
  obtain ⟨j, hj, hjl⟩ := idx_of HN0.out.1 hop
  have hjl1 : (j : Int) < y.op.l.length := by omega
  have hne : y.op.l ≠ [] := by intro h; rw [h] at hjl; exact absurd hjl (Nat.not_lt_zero _)
  clear hop
  go_wp2_with fail
  clear pb0 pb1 pb2 pb3 pb4 pb5 pb6 pb7 pb8 pbf pbl sx0 sx1 sx2 sx3 sx4 sx5 sxf sxl
  replace E := Lib.hid (ext_alloc E.out (.cells #[.int .i64 y.own, .int .i64 y.ot, .slice y.ag.A y.ag.l.length y.ag.c, .slice y.op.A y.op.l.length y.op.c] 24))
  replace PB := Lib.hid (PB.out.alloc (.cells #[.int .i64 y.own, .int .i64 y.ot, .slice y.ag.A y.ag.l.length y.ag.c, .slice y.op.A y.op.l.length y.op.c] 24))
  replace PP := Lib.hid (PP.out.alloc (.cells #[.int .i64 y.own, .int .i64 y.ot, .slice y.ag.A y.ag.l.length y.ag.c, .slice y.op.A y.op.l.length y.op.c] 24))
  replace SX := Lib.hid (SX.out.alloc (.cells #[.int .i64 y.own, .int .i64 y.ot, .slice y.ag.A y.ag.l.length y.ag.c, .slice y.op.A y.op.l.length y.op.c] 24))
  have BB := Lib.hid (Blk.newH (w.alloc (.cells #[.int .u8 sk, .int .u8 ssi, .int .u8 sn, .bool back, .int .i64 mi, .int .i64 ra] 50)) [.int .i64 y.own, .int .i64 y.ot, .slice y.ag.A y.ag.l.length y.ag.c, .slice y.op.A y.op.l.length y.op.c] 24 (w.heap.size + 1) (by first | rfl | simp))
  obtain ⟨z9, hNz9⟩ : ∃ W0, W0 = ((w.alloc (.cells #[.int .u8 sk, .int .u8 ssi, .int .u8 sn, .bool back, .int .i64 mi, .int .i64 ra] 50)).alloc (.cells #[.int .i64 y.own, .int .i64 y.ot, .slice y.ag.A y.ag.l.length y.ag.c, .slice y.op.A y.op.l.length y.op.c] 24)) := ⟨_, rfl⟩
  rw [← hNz9] at E PB PP SX BB ⊢
  clear hNz9
  obtain ⟨a, b1, o1, hx, hA, hb1, hd⟩ := PP.out.hy.op.at_ hjl
  have HX := Lib.hid (List.mem_of_getElem? hx)
  obtain ⟨ob, hob⟩ : ∃ v, offd a.no y.ot y.own = v := ⟨_, rfl⟩
  have HOB := Lib.hid hob
  clear hx hob
  have SS := Lib.hid (show ∀ w', Below z9.heap.size z9 w' → (fun w' => Below z9.heap.size z9 w' ∧ w'.cell? ⟨w.heap.size + 1, 3, none⟩ = some (.slice y.op.A y.op.l.length y.op.c) ∧ w'.cell? ⟨w.heap.size, 2, none⟩ = some (.int .u8 sn) ∧ w'.cell? ⟨b1, o1 + j * 5, none⟩ = some (.int .i64 a.no) ∧ w'.cell? ⟨b1, o1 + j * 5 + 1, none⟩ = some (.int .i64 a.f) ∧ w'.cell? ⟨b1, o1 + j * 5 + 2, none⟩ = some (.int .i64 a.t) ∧ w'.cell? ⟨b1, o1 + j * 5 + 3, none⟩ = some (.int .i64 a.m) ∧ w'.cell? ⟨b1, o1 + j * 5 + 4, none⟩ = some (.int .i64 a.r)) w' from fun w' h => ⟨h, (BB.out.ext h).c 3 _ rfl, (SX.out.ext h).c 2 _ rfl, (h.cell (p := ⟨b1, o1 + j * 5 + 0, none⟩) hb1).trans (hd 0 _ rfl), (h.cell (p := ⟨b1, o1 + j * 5 + 1, none⟩) hb1).trans (hd 1 _ rfl), (h.cell (p := ⟨b1, o1 + j * 5 + 2, none⟩) hb1).trans (hd 2 _ rfl), (h.cell (p := ⟨b1, o1 + j * 5 + 3, none⟩) hb1).trans (hd 3 _ rfl), (h.cell (p := ⟨b1, o1 + j * 5 + 4, none⟩) hb1).trans (hd 4 _ rfl)⟩)
  refine rg_begin (S := (fun w' => Below z9.heap.size z9 w' ∧ w'.cell? ⟨w.heap.size + 1, 3, none⟩ = some (.slice y.op.A y.op.l.length y.op.c) ∧ w'.cell? ⟨w.heap.size, 2, none⟩ = some (.int .u8 sn) ∧ w'.cell? ⟨b1, o1 + j * 5, none⟩ = some (.int .i64 a.no) ∧ w'.cell? ⟨b1, o1 + j * 5 + 1, none⟩ = some (.int .i64 a.f) ∧ w'.cell? ⟨b1, o1 + j * 5 + 2, none⟩ = some (.int .i64 a.t) ∧ w'.cell? ⟨b1, o1 + j * 5 + 3, none⟩ = some (.int .i64 a.m) ∧ w'.cell? ⟨b1, o1 + j * 5 + 4, none⟩ = some (.int .i64 a.r))) 10 (by kernel_rfl) (by intro d; cases d <;> intro _ _ _ _ h <;> exact h) ?_ (fun Q7 hQ7 hN7 hHeld => ?_)
  · exact SS.out _ (ext_drew (ext_refl _))
  refine rg_take (i := 0) (some 98) (v := ?_) rfl rfl (by kernel_rfl) (by rfl) hQ7 hHeld ?_ ?_
  rotate_left
  · intro w7 hSw; (try dsimp only at hSw); go_simp; all_goals with_reducible rfl
  try simp only [Act.put, List.setIfInBounds_toArray, List.set_cons_zero, List.set_cons_succ]
  refine rg_take (i := 1) (some 99) (v := ?_) rfl rfl (by kernel_rfl) (by rfl) hQ7 hHeld ?_ ?_
  rotate_left
  · intro w7 hSw; (try dsimp only at hSw); go_simp; all_goals with_reducible rfl
  try simp only [Act.put, List.setIfInBounds_toArray, List.set_cons_zero, List.set_cons_succ]
  refine rg_take (i := 2) (some 100) (v := ?_) rfl rfl (by kernel_rfl) (by rfl) hQ7 hHeld ?_ ?_
  rotate_left
  · intro w7 hSw; (try dsimp only at hSw); go_simp; all_goals with_reducible rfl
  try simp only [Act.put, List.setIfInBounds_toArray, List.set_cons_zero, List.set_cons_succ]
  refine rg_take (i := 3) (some 101) (v := ?_) rfl rfl (by kernel_rfl) (by rfl) hQ7 hHeld ?_ ?_
  rotate_left
  · intro w7 hSw; (try dsimp only at hSw); go_simp; all_goals with_reducible rfl
  try simp only [Act.put, List.setIfInBounds_toArray, List.set_cons_zero, List.set_cons_succ]
  refine rg_take (i := 4) (some 102) (v := ?_) rfl rfl (by kernel_rfl) (by rfl) hQ7 hHeld ?_ ?_
  rotate_left
  · intro w7 hSw; (try dsimp only at hSw); go_simp; all_goals with_reducible rfl
  try simp only [Act.put, List.setIfInBounds_toArray, List.set_cons_zero, List.set_cons_succ]
  refine rg_take (i := 5) (some 103) (v := ?_) rfl rfl (by kernel_rfl) (by rfl) hQ7 hHeld ?_ ?_
  rotate_left
  · intro w7 hSw; (try dsimp only at hSw); go_simp; all_goals with_reducible rfl
  try simp only [Act.put, List.setIfInBounds_toArray, List.set_cons_zero, List.set_cons_succ]
  refine rg_take (i := 6) (some 104) (v := ?_) rfl rfl (by kernel_rfl) (by rfl) hQ7 hHeld ?_ ?_
  rotate_left
  · intro w7 hSw; (try dsimp only at hSw); go_simp; all_goals with_reducible rfl
  try simp only [Act.put, List.setIfInBounds_toArray, List.set_cons_zero, List.set_cons_succ]
  refine rg_take (i := 7) (some 105) (v := ?_) rfl rfl (by kernel_rfl) (by rfl) hQ7 hHeld ?_ ?_
  rotate_left
  · intro w7 hSw; (try dsimp only at hSw); go_simp; all_goals with_reducible rfl
  try simp only [Act.put, List.setIfInBounds_toArray, List.set_cons_zero, List.set_cons_succ]
  refine rg_take (i := 8) (some 106) (v := ?_) rfl rfl (by kernel_rfl) (by rfl) hQ7 hHeld ?_ ?_
  rotate_left
  · intro w7 hSw; (try dsimp only at hSw); go_simp; all_goals with_reducible rfl
  try simp only [Act.put, List.setIfInBounds_toArray, List.set_cons_zero, List.set_cons_succ]
  refine rg_one (i := 9) (by kernel_rfl) (rg_step rfl (by rfl) (fun K hK => ?_))
  go_simp
  refine hK.out _ _ ?_ (fun hHeld2 => ?_)
  · exact SS.out _ (ext_alloc hHeld.1 _)
  clear hHeld
  have hHeld := hHeld2
  clear hHeld2
  clear hK K
  try simp only [Act.put, List.setIfInBounds_toArray, List.set_cons_zero, List.set_cons_succ]
  refine rg_one (i := 10) (by kernel_rfl) (rg_late rfl (by rfl) (by kernel_rfl) (fun K hK => ?_))
  go_simp
  refine hK.out _ _ ?_
  clear hK K
  try simp only [Act.put, List.setIfInBounds_toArray, List.set_cons_zero, List.set_cons_succ]
  refine rg_end (by kernel_rfl) (hN7 _ _ ?_) _
  clear hQ7 hN7 Q7
  have BX := hHeld.1
  clear SS
  clear BX hd hb1 hA
  replace E := Lib.hid (ext_alloc E.out (.cells #[.int .i64 a.no, .int .i64 a.f, .int .i64 a.t, .int .i64 a.m, .int .i64 a.r] 26))
  replace PB := Lib.hid (PB.out.alloc (.cells #[.int .i64 a.no, .int .i64 a.f, .int .i64 a.t, .int .i64 a.m, .int .i64 a.r] 26))
  replace PP := Lib.hid (PP.out.alloc (.cells #[.int .i64 a.no, .int .i64 a.f, .int .i64 a.t, .int .i64 a.m, .int .i64 a.r] 26))
  replace SX := Lib.hid (SX.out.alloc (.cells #[.int .i64 a.no, .int .i64 a.f, .int .i64 a.t, .int .i64 a.m, .int .i64 a.r] 26))
  replace BB := Lib.hid (BB.out.alloc (.cells #[.int .i64 a.no, .int .i64 a.f, .int .i64 a.t, .int .i64 a.m, .int .i64 a.r] 26))
  have AX := Lib.hid (Blk.newH z9 [.int .i64 a.no, .int .i64 a.f, .int .i64 a.t, .int .i64 a.m, .int .i64 a.r] 26 (z9.heap.size) (by first | rfl | simp))
  have DD := ext_drew (ext_refl (z9.alloc (.cells #[.int .i64 a.no, .int .i64 a.f, .int .i64 a.t, .int .i64 a.m, .int .i64 a.r] 26)))
  replace E := Lib.hid (ext_trans E.out DD)
  replace PB := Lib.hid (PB.out.ext DD)
  replace PP := Lib.hid (PP.out.ext DD)
  replace SX := Lib.hid (SX.out.ext DD)
  replace BB := Lib.hid (BB.out.ext DD)
  replace AX := Lib.hid (AX.out.ext DD)
  clear DD
  obtain ⟨z8, hNz8⟩ : ∃ W0, W0 = (z9.alloc (.cells #[.int .i64 a.no, .int .i64 a.f, .int .i64 a.t, .int .i64 a.m, .int .i64 a.r] 26)).drew := ⟨_, rfl⟩
  rw [← hNz8] at E PB PP SX BB AX ⊢
  clear hNz8
  have c0 := AX.out.c 0 _ rfl
  have c1 := BB.out.c 0 _ rfl
  have c2 := BB.out.c 1 _ rfl
  go_wp2_with fail
  refine (offd_at ob HOB.out).mono ?_
  rintro e _ ⟨rfl, rfl⟩
  cases ob
  · go_wp2_with fail
    go_ret
    exact went_same H2.out LX.out LY.out PB.out PP.out (E.out.mono (Nat.le_of_lt HPL.out))
  go_wp2_with fail
  refine (taken_two1 PB.out PP.out H2.out HX.out HOB.out LX.out LY.out HL.out HN.out).mono ?_
  rintro e u ⟨q, ⟨rfl, hr⟩, hq⟩
  go_wp2_with fail
  go_ret
  exact Went.low ⟨q, ⟨rfl, hr⟩, hq⟩ (E.out.mono (Nat.le_of_lt HPL.out))
set_option maxHeartbeats 1600000 in
set_option maxRecDepth 100000 in
theorem step_12 (x y : Bd) (A : Option Addr) (n c P L : Nat) (l : List Lt) (sk ssi sn : Int) (back : Bool) (mi ra : Int) (w : World) (hP : Blk w P (Pc x y A n c)) (hp : PR w P x y A n c l) (h2 : Two ⟨x.bl, y.bl, l⟩) (hlx : LenS L x.bl) (hly : LenS L y.bl) (hL : L ≤ 900) (hn : n ≤ 900) (hk0 : 0 ≤ sk ∧ sk < 256) (hs0 : 0 ≤ ssi ∧ ssi < 256) (hn0 : 0 ≤ sn ∧ sn < 256) (hsi : ssi.tmod 2 = 1) (hsk : sk.tmod 4 = 2) :
    Calls Try.prog 27 #[.pointer (some ⟨P, 0, none⟩), .agg #[.int .u8 sk, .int .u8 ssi, .int .u8 sn, .bool back, .int .i64 mi, .int .i64 ra]] w (Went w P L n) := by
  have H2 := Lib.hid h2
  have LX := Lib.hid hlx
  have LY := Lib.hid hly
  have HL := Lib.hid hL
  have HN := Lib.hid (show n ≤ 1000 by omega)
  have ks : IntKind.i64.wrap ssi = ssi := IntWalk.i64_in _ (by omega)
  have kn : IntKind.i64.wrap sn = sn := IntWalk.i64_in _ (by omega)
  have HN0 := Lib.hid hn0
  clear h2 hlx hly hL hn hk0 hs0 hn0
  have E := Lib.hid (ext_refl w)
  have PB := Lib.hid (hP)
  have PP := Lib.hid (hp)
  have HPL := Lib.hid hp.lt
  have HLN := Lib.hid hp.hn
  clear hP hp
  replace E := Lib.hid (ext_alloc E.out (.cells #[.int .u8 sk, .int .u8 ssi, .int .u8 sn, .bool back, .int .i64 mi, .int .i64 ra] 50))
  replace PB := Lib.hid (PB.out.alloc (.cells #[.int .u8 sk, .int .u8 ssi, .int .u8 sn, .bool back, .int .i64 mi, .int .i64 ra] 50))
  replace PP := Lib.hid (PP.out.alloc (.cells #[.int .u8 sk, .int .u8 ssi, .int .u8 sn, .bool back, .int .i64 mi, .int .i64 ra] 50))
  have SX := Lib.hid (Blk.newH w [.int .u8 sk, .int .u8 ssi, .int .u8 sn, .bool back, .int .i64 mi, .int .i64 ra] 50 (w.heap.size) (by first | rfl | simp))
  go_enter Try.func27, Try.ntmps27
  have pb0 := PB.out.c 0 _ rfl
  have pb1 := PB.out.c 1 _ rfl
  have pb2 := PB.out.c 2 _ rfl
  have pb3 := PB.out.c 3 _ rfl
  have pb4 := PB.out.c 4 _ rfl
  have pb5 := PB.out.c 5 _ rfl
  have pb6 := PB.out.c 6 _ rfl
  have pb7 := PB.out.c 7 _ rfl
  have pb8 := PB.out.c 8 _ rfl
  have pbf := PB.out.f
  have pbl := PB.out.lt
  have sx0 := SX.out.c 0 _ rfl
  have sx1 := SX.out.c 1 _ rfl
  have sx2 := SX.out.c 2 _ rfl
  have sx3 := SX.out.c 3 _ rfl
  have sx4 := SX.out.c 4 _ rfl
  have sx5 := SX.out.c 5 _ rfl
  have sxf := SX.out.f
  have sxl := SX.out.lt
  have hpl := HPL.out
  have hpl1 : P < w.heap.size + 1 := by omega
  by_cases hop : n = 0
  · have hop1 : ¬ (0 : Int) < (n : Int) := by omega
    clear hop
    go_wp2_with fail
    clear pb0 pb1 pb2 pb3 pb4 pb5 pb6 pb7 pb8 pbf pbl sx0 sx1 sx2 sx3 sx4 sx5 sxf sxl
    replace E := Lib.hid (ext_alloc E.out (.cells #[.int .i64 y.own, .int .i64 y.ot, .slice y.ag.A y.ag.l.length y.ag.c, .slice y.op.A y.op.l.length y.op.c] 24))
    replace PB := Lib.hid (PB.out.alloc (.cells #[.int .i64 y.own, .int .i64 y.ot, .slice y.ag.A y.ag.l.length y.ag.c, .slice y.op.A y.op.l.length y.op.c] 24))
    replace PP := Lib.hid (PP.out.alloc (.cells #[.int .i64 y.own, .int .i64 y.ot, .slice y.ag.A y.ag.l.length y.ag.c, .slice y.op.A y.op.l.length y.op.c] 24))
    replace SX := Lib.hid (SX.out.alloc (.cells #[.int .i64 y.own, .int .i64 y.ot, .slice y.ag.A y.ag.l.length y.ag.c, .slice y.op.A y.op.l.length y.op.c] 24))
    have BB := Lib.hid (Blk.newH (w.alloc (.cells #[.int .u8 sk, .int .u8 ssi, .int .u8 sn, .bool back, .int .i64 mi, .int .i64 ra] 50)) [.int .i64 y.own, .int .i64 y.ot, .slice y.ag.A y.ag.l.length y.ag.c, .slice y.op.A y.op.l.length y.op.c] 24 (w.heap.size + 1) (by first | rfl | simp))
    go_ret
    exact went_same H2.out LX.out LY.out PB.out PP.out (E.out.mono (Nat.le_of_lt HPL.out))
  have hop1 : (0 : Int) < (n : Int) := by omega
  obtain ⟨j, hj, hjl⟩ := idx_of HN0.out.1 hop
  have hjl1 : (j : Int) < (n : Int) := by omega
  have hne : n ≠ 0 := hop
  clear hop
  go_wp2_with fail
  clear pb0 pb1 pb2 pb3 pb4 pb5 pb6 pb7 pb8 pbf pbl sx0 sx1 sx2 sx3 sx4 sx5 sxf sxl
  clear hpl hpl1
  replace E := Lib.hid (ext_alloc E.out (.cells #[.int .i64 y.own, .int .i64 y.ot, .slice y.ag.A y.ag.l.length y.ag.c, .slice y.op.A y.op.l.length y.op.c] 24))
  replace PB := Lib.hid (PB.out.alloc (.cells #[.int .i64 y.own, .int .i64 y.ot, .slice y.ag.A y.ag.l.length y.ag.c, .slice y.op.A y.op.l.length y.op.c] 24))
  replace PP := Lib.hid (PP.out.alloc (.cells #[.int .i64 y.own, .int .i64 y.ot, .slice y.ag.A y.ag.l.length y.ag.c, .slice y.op.A y.op.l.length y.op.c] 24))
  replace SX := Lib.hid (SX.out.alloc (.cells #[.int .i64 y.own, .int .i64 y.ot, .slice y.ag.A y.ag.l.length y.ag.c, .slice y.op.A y.op.l.length y.op.c] 24))
  have BB := Lib.hid (Blk.newH (w.alloc (.cells #[.int .u8 sk, .int .u8 ssi, .int .u8 sn, .bool back, .int .i64 mi, .int .i64 ra] 50)) [.int .i64 y.own, .int .i64 y.ot, .slice y.ag.A y.ag.l.length y.ag.c, .slice y.op.A y.op.l.length y.op.c] 24 (w.heap.size + 1) (by first | rfl | simp))
  obtain ⟨z9, hNz9⟩ : ∃ W0, W0 = ((w.alloc (.cells #[.int .u8 sk, .int .u8 ssi, .int .u8 sn, .bool back, .int .i64 mi, .int .i64 ra] 50)).alloc (.cells #[.int .i64 y.own, .int .i64 y.ot, .slice y.ag.A y.ag.l.length y.ag.c, .slice y.op.A y.op.l.length y.op.c] 24)) := ⟨_, rfl⟩
  rw [← hNz9] at E PB PP SX BB ⊢
  clear hNz9
  obtain ⟨m, b1, o1, hx, rfl, hb1, hd⟩ := PP.out.row.at_ (k := j) (by rw [HLN.out]; exact hjl)
  have HX := Lib.hid (List.mem_of_getElem? hx)
  clear hx
  have SS := Lib.hid (show ∀ w', Below z9.heap.size z9 w' → (fun w' => Below z9.heap.size z9 w' ∧ w'.cell? ⟨P, 8, none⟩ = some (.slice (some ⟨b1, o1, none⟩) n c) ∧ w'.cell? ⟨w.heap.size, 2, none⟩ = some (.int .u8 sn) ∧ w'.cell? ⟨b1, o1 + j * 7, none⟩ = some (.int .i64 (bi m.to)) ∧ w'.cell? ⟨b1, o1 + j * 7 + 1, none⟩ = some (.bool m.acc) ∧ w'.cell? ⟨b1, o1 + j * 7 + 2, none⟩ = some (.int .i64 m.a.no) ∧ w'.cell? ⟨b1, o1 + j * 7 + 3, none⟩ = some (.int .i64 m.a.f) ∧ w'.cell? ⟨b1, o1 + j * 7 + 4, none⟩ = some (.int .i64 m.a.t) ∧ w'.cell? ⟨b1, o1 + j * 7 + 5, none⟩ = some (.int .i64 m.a.m) ∧ w'.cell? ⟨b1, o1 + j * 7 + 6, none⟩ = some (.int .i64 m.a.r)) w' from fun w' h => ⟨h, (PB.out.ext h).c 8 _ rfl, (SX.out.ext h).c 2 _ rfl, (h.cell (p := ⟨b1, o1 + j * 7 + 0, none⟩) hb1).trans (hd 0 _ rfl), (h.cell (p := ⟨b1, o1 + j * 7 + 1, none⟩) hb1).trans (hd 1 _ rfl), (h.cell (p := ⟨b1, o1 + j * 7 + 2, none⟩) hb1).trans (hd 2 _ rfl), (h.cell (p := ⟨b1, o1 + j * 7 + 3, none⟩) hb1).trans (hd 3 _ rfl), (h.cell (p := ⟨b1, o1 + j * 7 + 4, none⟩) hb1).trans (hd 4 _ rfl), (h.cell (p := ⟨b1, o1 + j * 7 + 5, none⟩) hb1).trans (hd 5 _ rfl), (h.cell (p := ⟨b1, o1 + j * 7 + 6, none⟩) hb1).trans (hd 6 _ rfl)⟩)
  refine rg_begin (S := (fun w' => Below z9.heap.size z9 w' ∧ w'.cell? ⟨P, 8, none⟩ = some (.slice (some ⟨b1, o1, none⟩) n c) ∧ w'.cell? ⟨w.heap.size, 2, none⟩ = some (.int .u8 sn) ∧ w'.cell? ⟨b1, o1 + j * 7, none⟩ = some (.int .i64 (bi m.to)) ∧ w'.cell? ⟨b1, o1 + j * 7 + 1, none⟩ = some (.bool m.acc) ∧ w'.cell? ⟨b1, o1 + j * 7 + 2, none⟩ = some (.int .i64 m.a.no) ∧ w'.cell? ⟨b1, o1 + j * 7 + 3, none⟩ = some (.int .i64 m.a.f) ∧ w'.cell? ⟨b1, o1 + j * 7 + 4, none⟩ = some (.int .i64 m.a.t) ∧ w'.cell? ⟨b1, o1 + j * 7 + 5, none⟩ = some (.int .i64 m.a.m) ∧ w'.cell? ⟨b1, o1 + j * 7 + 6, none⟩ = some (.int .i64 m.a.r))) 12 (by kernel_rfl) (by intro d; cases d <;> intro _ _ _ _ h <;> exact h) ?_ (fun Q7 hQ7 hN7 hHeld => ?_)
  · exact SS.out _ (ext_drew (ext_refl _))
  refine rg_take (i := 0) (some 35) (v := ?_) rfl rfl (by kernel_rfl) (by rfl) hQ7 hHeld ?_ ?_
  rotate_left
  · intro w7 hSw; (try dsimp only at hSw); go_simp; all_goals with_reducible rfl
  try simp only [Act.put, List.setIfInBounds_toArray, List.set_cons_zero, List.set_cons_succ]
  refine rg_take (i := 1) (some 36) (v := ?_) rfl rfl (by kernel_rfl) (by rfl) hQ7 hHeld ?_ ?_
  rotate_left
  · intro w7 hSw; (try dsimp only at hSw); go_simp; all_goals with_reducible rfl
  try simp only [Act.put, List.setIfInBounds_toArray, List.set_cons_zero, List.set_cons_succ]
  refine rg_take (i := 2) (some 37) (v := ?_) rfl rfl (by kernel_rfl) (by rfl) hQ7 hHeld ?_ ?_
  rotate_left
  · intro w7 hSw; (try dsimp only at hSw); go_simp; all_goals with_reducible rfl
  try simp only [Act.put, List.setIfInBounds_toArray, List.set_cons_zero, List.set_cons_succ]
  refine rg_take (i := 3) (some 38) (v := ?_) rfl rfl (by kernel_rfl) (by rfl) hQ7 hHeld ?_ ?_
  rotate_left
  · intro w7 hSw; (try dsimp only at hSw); go_simp; all_goals with_reducible rfl
  try simp only [Act.put, List.setIfInBounds_toArray, List.set_cons_zero, List.set_cons_succ]
  refine rg_take (i := 4) (some 39) (v := ?_) rfl rfl (by kernel_rfl) (by rfl) hQ7 hHeld ?_ ?_
  rotate_left
  · intro w7 hSw; (try dsimp only at hSw); go_simp; all_goals with_reducible rfl
  try simp only [Act.put, List.setIfInBounds_toArray, List.set_cons_zero, List.set_cons_succ]
  refine rg_take (i := 5) (some 40) (v := ?_) rfl rfl (by kernel_rfl) (by rfl) hQ7 hHeld ?_ ?_
  rotate_left
  · intro w7 hSw; (try dsimp only at hSw); go_simp; all_goals with_reducible rfl
  try simp only [Act.put, List.setIfInBounds_toArray, List.set_cons_zero, List.set_cons_succ]
  refine rg_take (i := 6) (some 41) (v := ?_) rfl rfl (by kernel_rfl) (by rfl) hQ7 hHeld ?_ ?_
  rotate_left
  · intro w7 hSw; (try dsimp only at hSw); go_simp; all_goals with_reducible rfl
  try simp only [Act.put, List.setIfInBounds_toArray, List.set_cons_zero, List.set_cons_succ]
  refine rg_take (i := 7) (some 42) (v := ?_) rfl rfl (by kernel_rfl) (by rfl) hQ7 hHeld ?_ ?_
  rotate_left
  · intro w7 hSw; (try dsimp only at hSw); go_simp; all_goals with_reducible rfl
  try simp only [Act.put, List.setIfInBounds_toArray, List.set_cons_zero, List.set_cons_succ]
  refine rg_take (i := 8) (some 43) (v := ?_) rfl rfl (by kernel_rfl) (by rfl) hQ7 hHeld ?_ ?_
  rotate_left
  · intro w7 hSw; (try dsimp only at hSw); go_simp; all_goals with_reducible rfl
  try simp only [Act.put, List.setIfInBounds_toArray, List.set_cons_zero, List.set_cons_succ]
  refine rg_take (i := 9) (some 44) (v := ?_) rfl rfl (by kernel_rfl) (by rfl) hQ7 hHeld ?_ ?_
  rotate_left
  · intro w7 hSw; (try dsimp only at hSw); go_simp; all_goals with_reducible rfl
  try simp only [Act.put, List.setIfInBounds_toArray, List.set_cons_zero, List.set_cons_succ]
  refine rg_take (i := 10) (some 45) (v := ?_) rfl rfl (by kernel_rfl) (by rfl) hQ7 hHeld ?_ ?_
  rotate_left
  · intro w7 hSw; (try dsimp only at hSw); go_simp; all_goals with_reducible rfl
  try simp only [Act.put, List.setIfInBounds_toArray, List.set_cons_zero, List.set_cons_succ]
  refine rg_take (i := 11) (some 46) (v := ?_) rfl rfl (by kernel_rfl) (by rfl) hQ7 hHeld ?_ ?_
  rotate_left
  · intro w7 hSw; (try dsimp only at hSw); go_simp; all_goals with_reducible rfl
  try simp only [Act.put, List.setIfInBounds_toArray, List.set_cons_zero, List.set_cons_succ]
  refine rg_one (i := 12) (by kernel_rfl) (rg_late rfl (by rfl) (by kernel_rfl) (fun K hK => ?_))
  go_simp
  refine (told_two (PB.out.ext hHeld.1) (PP.out.ext hHeld.1) H2.out HX.out LX.out LY.out HL.out).mono ?_
  rintro e u ⟨q, ⟨rfl, hr⟩, hq⟩
  go_wp2_with fail
  refine hK.out _ _ ?_
  clear hK K
  try simp only [Act.put, List.setIfInBounds_toArray, List.set_cons_zero, List.set_cons_succ]
  refine rg_pure (i := 13) (some 4) (v := ?_) rfl rfl (by kernel_rfl) (by rfl) hQ7 (.inl (by kernel_rfl)) ?_ ?_
  rotate_left
  · intro w7; go_simp; all_goals with_reducible rfl
  try simp only [Act.put, List.setIfInBounds_toArray, List.set_cons_zero, List.set_cons_succ]
  refine rg_end (by kernel_rfl) (hN7 _ _ ?_) _
  clear hQ7 hN7 Q7
  have BX := hHeld.1
  clear SS
  replace E := Lib.hid (ext_trans E.out BX)
  clear BX
  go_wp2_with fail
  go_ret
  exact Went.low ⟨q, ⟨rfl, hr⟩, hq⟩ (E.out.mono (Nat.le_of_lt HPL.out))
set_option maxHeartbeats 1600000 in
set_option maxRecDepth 100000 in
theorem step_13 (x y : Bd) (A : Option Addr) (n c P L : Nat) (l : List Lt) (sk ssi sn : Int) (back : Bool) (mi ra : Int) (w : World) (hP : Blk w P (Pc x y A n c)) (hp : PR w P x y A n c l) (h2 : Two ⟨x.bl, y.bl, l⟩) (hlx : LenS L x.bl) (hly : LenS L y.bl) (hL : L ≤ 900) (hn : n ≤ 900) (hk0 : 0 ≤ sk ∧ sk < 256) (hs0 : 0 ≤ ssi ∧ ssi < 256) (hn0 : 0 ≤ sn ∧ sn < 256) (hsi : ssi.tmod 2 = 1) (hsk : sk.tmod 4 = 3) :
    Calls Try.prog 27 #[.pointer (some ⟨P, 0, none⟩), .agg #[.int .u8 sk, .int .u8 ssi, .int .u8 sn, .bool back, .int .i64 mi, .int .i64 ra]] w (Went w P L n) := by
  have H2 := Lib.hid h2
  have LX := Lib.hid hlx
  have LY := Lib.hid hly
  have HL := Lib.hid hL
  have HN := Lib.hid (show n ≤ 1000 by omega)
  have ks : IntKind.i64.wrap ssi = ssi := IntWalk.i64_in _ (by omega)
  have kn : IntKind.i64.wrap sn = sn := IntWalk.i64_in _ (by omega)
  have HN0 := Lib.hid hn0
  clear h2 hlx hly hL hn hk0 hs0 hn0
  have E := Lib.hid (ext_refl w)
  have PB := Lib.hid (hP)
  have PP := Lib.hid (hp)
  have HPL := Lib.hid hp.lt
  have HLN := Lib.hid hp.hn
  clear hP hp
  replace E := Lib.hid (ext_alloc E.out (.cells #[.int .u8 sk, .int .u8 ssi, .int .u8 sn, .bool back, .int .i64 mi, .int .i64 ra] 50))
  replace PB := Lib.hid (PB.out.alloc (.cells #[.int .u8 sk, .int .u8 ssi, .int .u8 sn, .bool back, .int .i64 mi, .int .i64 ra] 50))
  replace PP := Lib.hid (PP.out.alloc (.cells #[.int .u8 sk, .int .u8 ssi, .int .u8 sn, .bool back, .int .i64 mi, .int .i64 ra] 50))
  have SX := Lib.hid (Blk.newH w [.int .u8 sk, .int .u8 ssi, .int .u8 sn, .bool back, .int .i64 mi, .int .i64 ra] 50 (w.heap.size) (by first | rfl | simp))
  go_enter Try.func27, Try.ntmps27
  have pb0 := PB.out.c 0 _ rfl
  have pb1 := PB.out.c 1 _ rfl
  have pb2 := PB.out.c 2 _ rfl
  have pb3 := PB.out.c 3 _ rfl
  have pb4 := PB.out.c 4 _ rfl
  have pb5 := PB.out.c 5 _ rfl
  have pb6 := PB.out.c 6 _ rfl
  have pb7 := PB.out.c 7 _ rfl
  have pb8 := PB.out.c 8 _ rfl
  have pbf := PB.out.f
  have pbl := PB.out.lt
  have sx0 := SX.out.c 0 _ rfl
  have sx1 := SX.out.c 1 _ rfl
  have sx2 := SX.out.c 2 _ rfl
  have sx3 := SX.out.c 3 _ rfl
  have sx4 := SX.out.c 4 _ rfl
  have sx5 := SX.out.c 5 _ rfl
  have sxf := SX.out.f
  have sxl := SX.out.lt
  have hpl := HPL.out
  have hpl1 : P < w.heap.size + 1 := by omega
  by_cases hop : n = 0
  · have hop1 : ¬ (0 : Int) < (n : Int) := by omega
    clear hop
    go_wp2_with fail
    clear pb0 pb1 pb2 pb3 pb4 pb5 pb6 pb7 pb8 pbf pbl sx0 sx1 sx2 sx3 sx4 sx5 sxf sxl
    replace E := Lib.hid (ext_alloc E.out (.cells #[.int .i64 y.own, .int .i64 y.ot, .slice y.ag.A y.ag.l.length y.ag.c, .slice y.op.A y.op.l.length y.op.c] 24))
    replace PB := Lib.hid (PB.out.alloc (.cells #[.int .i64 y.own, .int .i64 y.ot, .slice y.ag.A y.ag.l.length y.ag.c, .slice y.op.A y.op.l.length y.op.c] 24))
    replace PP := Lib.hid (PP.out.alloc (.cells #[.int .i64 y.own, .int .i64 y.ot, .slice y.ag.A y.ag.l.length y.ag.c, .slice y.op.A y.op.l.length y.op.c] 24))
    replace SX := Lib.hid (SX.out.alloc (.cells #[.int .i64 y.own, .int .i64 y.ot, .slice y.ag.A y.ag.l.length y.ag.c, .slice y.op.A y.op.l.length y.op.c] 24))
    have BB := Lib.hid (Blk.newH (w.alloc (.cells #[.int .u8 sk, .int .u8 ssi, .int .u8 sn, .bool back, .int .i64 mi, .int .i64 ra] 50)) [.int .i64 y.own, .int .i64 y.ot, .slice y.ag.A y.ag.l.length y.ag.c, .slice y.op.A y.op.l.length y.op.c] 24 (w.heap.size + 1) (by first | rfl | simp))
    go_ret
    exact went_same H2.out LX.out LY.out PB.out PP.out (E.out.mono (Nat.le_of_lt HPL.out))
  have hop1 : (0 : Int) < (n : Int) := by omega
  obtain ⟨j, hj, hjl⟩ := idx_of HN0.out.1 hop
  have hjl1 : (j : Int) < (n : Int) := by omega
  have hne : n ≠ 0 := hop
  clear hop
  go_wp2_with fail
  clear pb0 pb1 pb2 pb3 pb4 pb5 pb6 pb7 pb8 pbf pbl sx0 sx1 sx2 sx3 sx4 sx5 sxf sxl
  clear hpl hpl1
  replace E := Lib.hid (ext_alloc E.out (.cells #[.int .i64 y.own, .int .i64 y.ot, .slice y.ag.A y.ag.l.length y.ag.c, .slice y.op.A y.op.l.length y.op.c] 24))
  replace PB := Lib.hid (PB.out.alloc (.cells #[.int .i64 y.own, .int .i64 y.ot, .slice y.ag.A y.ag.l.length y.ag.c, .slice y.op.A y.op.l.length y.op.c] 24))
  replace PP := Lib.hid (PP.out.alloc (.cells #[.int .i64 y.own, .int .i64 y.ot, .slice y.ag.A y.ag.l.length y.ag.c, .slice y.op.A y.op.l.length y.op.c] 24))
  replace SX := Lib.hid (SX.out.alloc (.cells #[.int .i64 y.own, .int .i64 y.ot, .slice y.ag.A y.ag.l.length y.ag.c, .slice y.op.A y.op.l.length y.op.c] 24))
  have BB := Lib.hid (Blk.newH (w.alloc (.cells #[.int .u8 sk, .int .u8 ssi, .int .u8 sn, .bool back, .int .i64 mi, .int .i64 ra] 50)) [.int .i64 y.own, .int .i64 y.ot, .slice y.ag.A y.ag.l.length y.ag.c, .slice y.op.A y.op.l.length y.op.c] 24 (w.heap.size + 1) (by first | rfl | simp))
  obtain ⟨z9, hNz9⟩ : ∃ W0, W0 = ((w.alloc (.cells #[.int .u8 sk, .int .u8 ssi, .int .u8 sn, .bool back, .int .i64 mi, .int .i64 ra] 50)).alloc (.cells #[.int .i64 y.own, .int .i64 y.ot, .slice y.ag.A y.ag.l.length y.ag.c, .slice y.op.A y.op.l.length y.op.c] 24)) := ⟨_, rfl⟩
  rw [← hNz9] at E PB PP SX BB ⊢
  clear hNz9
  obtain ⟨m, b1, o1, hx, rfl, hb1, hd⟩ := PP.out.row.at_ (k := j) (by rw [HLN.out]; exact hjl)
  have HX := Lib.hid (List.mem_of_getElem? hx)
  clear hx
  have SS := Lib.hid (show ∀ w', Below z9.heap.size z9 w' → (fun w' => Below z9.heap.size z9 w' ∧ w'.cell? ⟨P, 8, none⟩ = some (.slice (some ⟨b1, o1, none⟩) n c) ∧ w'.cell? ⟨w.heap.size, 2, none⟩ = some (.int .u8 sn) ∧ w'.cell? ⟨b1, o1 + j * 7, none⟩ = some (.int .i64 (bi m.to)) ∧ w'.cell? ⟨b1, o1 + j * 7 + 1, none⟩ = some (.bool m.acc) ∧ w'.cell? ⟨b1, o1 + j * 7 + 2, none⟩ = some (.int .i64 m.a.no) ∧ w'.cell? ⟨b1, o1 + j * 7 + 3, none⟩ = some (.int .i64 m.a.f) ∧ w'.cell? ⟨b1, o1 + j * 7 + 4, none⟩ = some (.int .i64 m.a.t) ∧ w'.cell? ⟨b1, o1 + j * 7 + 5, none⟩ = some (.int .i64 m.a.m) ∧ w'.cell? ⟨b1, o1 + j * 7 + 6, none⟩ = some (.int .i64 m.a.r)) w' from fun w' h => ⟨h, (PB.out.ext h).c 8 _ rfl, (SX.out.ext h).c 2 _ rfl, (h.cell (p := ⟨b1, o1 + j * 7 + 0, none⟩) hb1).trans (hd 0 _ rfl), (h.cell (p := ⟨b1, o1 + j * 7 + 1, none⟩) hb1).trans (hd 1 _ rfl), (h.cell (p := ⟨b1, o1 + j * 7 + 2, none⟩) hb1).trans (hd 2 _ rfl), (h.cell (p := ⟨b1, o1 + j * 7 + 3, none⟩) hb1).trans (hd 3 _ rfl), (h.cell (p := ⟨b1, o1 + j * 7 + 4, none⟩) hb1).trans (hd 4 _ rfl), (h.cell (p := ⟨b1, o1 + j * 7 + 5, none⟩) hb1).trans (hd 5 _ rfl), (h.cell (p := ⟨b1, o1 + j * 7 + 6, none⟩) hb1).trans (hd 6 _ rfl)⟩)
  refine rg_begin (S := (fun w' => Below z9.heap.size z9 w' ∧ w'.cell? ⟨P, 8, none⟩ = some (.slice (some ⟨b1, o1, none⟩) n c) ∧ w'.cell? ⟨w.heap.size, 2, none⟩ = some (.int .u8 sn) ∧ w'.cell? ⟨b1, o1 + j * 7, none⟩ = some (.int .i64 (bi m.to)) ∧ w'.cell? ⟨b1, o1 + j * 7 + 1, none⟩ = some (.bool m.acc) ∧ w'.cell? ⟨b1, o1 + j * 7 + 2, none⟩ = some (.int .i64 m.a.no) ∧ w'.cell? ⟨b1, o1 + j * 7 + 3, none⟩ = some (.int .i64 m.a.f) ∧ w'.cell? ⟨b1, o1 + j * 7 + 4, none⟩ = some (.int .i64 m.a.t) ∧ w'.cell? ⟨b1, o1 + j * 7 + 5, none⟩ = some (.int .i64 m.a.m) ∧ w'.cell? ⟨b1, o1 + j * 7 + 6, none⟩ = some (.int .i64 m.a.r))) 12 (by kernel_rfl) (by intro d; cases d <;> intro _ _ _ _ h <;> exact h) ?_ (fun Q7 hQ7 hN7 hHeld => ?_)
  · exact SS.out _ (ext_drew (ext_refl _))
  refine rg_take (i := 0) (some 35) (v := ?_) rfl rfl (by kernel_rfl) (by rfl) hQ7 hHeld ?_ ?_
  rotate_left
  · intro w7 hSw; (try dsimp only at hSw); go_simp; all_goals with_reducible rfl
  try simp only [Act.put, List.setIfInBounds_toArray, List.set_cons_zero, List.set_cons_succ]
  refine rg_take (i := 1) (some 36) (v := ?_) rfl rfl (by kernel_rfl) (by rfl) hQ7 hHeld ?_ ?_
  rotate_left
  · intro w7 hSw; (try dsimp only at hSw); go_simp; all_goals with_reducible rfl
  try simp only [Act.put, List.setIfInBounds_toArray, List.set_cons_zero, List.set_cons_succ]
  refine rg_take (i := 2) (some 37) (v := ?_) rfl rfl (by kernel_rfl) (by rfl) hQ7 hHeld ?_ ?_
  rotate_left
  · intro w7 hSw; (try dsimp only at hSw); go_simp; all_goals with_reducible rfl
  try simp only [Act.put, List.setIfInBounds_toArray, List.set_cons_zero, List.set_cons_succ]
  refine rg_take (i := 3) (some 38) (v := ?_) rfl rfl (by kernel_rfl) (by rfl) hQ7 hHeld ?_ ?_
  rotate_left
  · intro w7 hSw; (try dsimp only at hSw); go_simp; all_goals with_reducible rfl
  try simp only [Act.put, List.setIfInBounds_toArray, List.set_cons_zero, List.set_cons_succ]
  refine rg_take (i := 4) (some 39) (v := ?_) rfl rfl (by kernel_rfl) (by rfl) hQ7 hHeld ?_ ?_
  rotate_left
  · intro w7 hSw; (try dsimp only at hSw); go_simp; all_goals with_reducible rfl
  try simp only [Act.put, List.setIfInBounds_toArray, List.set_cons_zero, List.set_cons_succ]
  refine rg_take (i := 5) (some 40) (v := ?_) rfl rfl (by kernel_rfl) (by rfl) hQ7 hHeld ?_ ?_
  rotate_left
  · intro w7 hSw; (try dsimp only at hSw); go_simp; all_goals with_reducible rfl
  try simp only [Act.put, List.setIfInBounds_toArray, List.set_cons_zero, List.set_cons_succ]
  refine rg_take (i := 6) (some 41) (v := ?_) rfl rfl (by kernel_rfl) (by rfl) hQ7 hHeld ?_ ?_
  rotate_left
  · intro w7 hSw; (try dsimp only at hSw); go_simp; all_goals with_reducible rfl
  try simp only [Act.put, List.setIfInBounds_toArray, List.set_cons_zero, List.set_cons_succ]
  refine rg_take (i := 7) (some 42) (v := ?_) rfl rfl (by kernel_rfl) (by rfl) hQ7 hHeld ?_ ?_
  rotate_left
  · intro w7 hSw; (try dsimp only at hSw); go_simp; all_goals with_reducible rfl
  try simp only [Act.put, List.setIfInBounds_toArray, List.set_cons_zero, List.set_cons_succ]
  refine rg_take (i := 8) (some 43) (v := ?_) rfl rfl (by kernel_rfl) (by rfl) hQ7 hHeld ?_ ?_
  rotate_left
  · intro w7 hSw; (try dsimp only at hSw); go_simp; all_goals with_reducible rfl
  try simp only [Act.put, List.setIfInBounds_toArray, List.set_cons_zero, List.set_cons_succ]
  refine rg_take (i := 9) (some 44) (v := ?_) rfl rfl (by kernel_rfl) (by rfl) hQ7 hHeld ?_ ?_
  rotate_left
  · intro w7 hSw; (try dsimp only at hSw); go_simp; all_goals with_reducible rfl
  try simp only [Act.put, List.setIfInBounds_toArray, List.set_cons_zero, List.set_cons_succ]
  refine rg_take (i := 10) (some 45) (v := ?_) rfl rfl (by kernel_rfl) (by rfl) hQ7 hHeld ?_ ?_
  rotate_left
  · intro w7 hSw; (try dsimp only at hSw); go_simp; all_goals with_reducible rfl
  try simp only [Act.put, List.setIfInBounds_toArray, List.set_cons_zero, List.set_cons_succ]
  refine rg_take (i := 11) (some 46) (v := ?_) rfl rfl (by kernel_rfl) (by rfl) hQ7 hHeld ?_ ?_
  rotate_left
  · intro w7 hSw; (try dsimp only at hSw); go_simp; all_goals with_reducible rfl
  try simp only [Act.put, List.setIfInBounds_toArray, List.set_cons_zero, List.set_cons_succ]
  refine rg_one (i := 12) (by kernel_rfl) (rg_late rfl (by rfl) (by kernel_rfl) (fun K hK => ?_))
  go_simp
  refine (told_two (PB.out.ext hHeld.1) (PP.out.ext hHeld.1) H2.out HX.out LX.out LY.out HL.out).mono ?_
  rintro e u ⟨q, ⟨rfl, hr⟩, hq⟩
  go_wp2_with fail
  refine hK.out _ _ ?_
  clear hK K
  try simp only [Act.put, List.setIfInBounds_toArray, List.set_cons_zero, List.set_cons_succ]
  refine rg_pure (i := 13) (some 4) (v := ?_) rfl rfl (by kernel_rfl) (by rfl) hQ7 (.inl (by kernel_rfl)) ?_ ?_
  rotate_left
  · intro w7; go_simp; all_goals with_reducible rfl
  try simp only [Act.put, List.setIfInBounds_toArray, List.set_cons_zero, List.set_cons_succ]
  refine rg_end (by kernel_rfl) (hN7 _ _ ?_) _
  clear hQ7 hN7 Q7
  have BX := hHeld.1
  clear SS
  replace E := Lib.hid (ext_trans E.out BX)
  clear BX
  go_wp2_with fail
  go_ret
  exact Went.low ⟨q, ⟨rfl, hr⟩, hq⟩ (E.out.mono (Nat.le_of_lt HPL.out))
end Go.Proofs.Ytmnbeikhjbjpiaa
