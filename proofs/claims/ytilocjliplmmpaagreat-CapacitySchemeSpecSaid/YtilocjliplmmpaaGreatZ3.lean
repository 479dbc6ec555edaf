/- Law 3 of the great seat: Check and Add agree with the reference. -/
import Derived.Test.YtilocjliplmmpaaGreatQ3
import Derived.Test.YtilocjliplmmpaaGreatZF
set_option linter.unusedSimpArgs false
set_option linter.unusedVariables false
namespace Go.Proofs.YtilocjliplmmpaaGreat
open Go.RowKit
theorem radd_lit {t : Tab} {A : Option Addr} {n c : Nat} {l : List Chg} {x : Chg} {w : World} {E : Int} {L : List Chg} (r : Nat) (hE : addE t l x = E) (hL : addL t l x = L) (hr : r = L.length) (hn : n = l.length) (ht : Tab.ok w t) (ha : Slc w Chg.cells 3 A l) (hl : l.length ≤ 1000) (hao : ∀ y ∈ l, Chg.ok w y) (hx : Chg.ok w x) :
    Calls Tryz.prog 9 #[t.v, .agg #[.slice A n c], x.v] w fun e w' => ∃ A cp, e = .returned (.tuple #[.agg #[.slice A r cp], .int .i64 E]) ∧ Own w' w.heap.size 34 Chg.cells 3 (.slice A r cp) L ∧ Below w.heap.size w w' := by
  subst hE hL hr; exact radd_at hn ht ha hl hao hx
theorem addL_mem {t : Tab} {l : List Chg} {x y : Chg} (h : y ∈ addL t l x) : y = x ∨ y ∈ l := by
  unfold addL at h
  split at h
  · rcases mem_putC.1 h with h | ⟨h, _⟩
    · exact .inl h
    · exact .inr h
  · cases h
theorem addL_len {t : Tab} {l : List Chg} {x : Chg} : (addL t l x).length ≤ l.length + 1 := by
  unfold addL
  split
  · exact putC_len
  · simp
set_option maxRecDepth 100000 in
set_option maxHeartbeats 32000000 in
theorem law3 (t : Tab) (A : Option Addr) (c : Nat) (l : List Chg) (x : Chg) (w : World) (ht : Tab.ok w t) (hs : SOk w A l) (hx : Chg.ok w x) : Calls Tryz.prog 3 #[t.v, .agg #[.slice A l.length c], x.v] w (Tru w) := by
  have E := Lib.hid (ext_refl w)
  have HT := Lib.hid (ht)
  have HS := Lib.hid (hs)
  have HX := Lib.hid (hx)
  clear ht hs hx
  replace E := Lib.hid (ext_alloc E.out (.cells #[.int .i64 t.n, .slice t.ss.A t.ss.l.length t.ss.c, .slice t.cs.A t.cs.l.length t.cs.c, .slice t.ws.A t.ws.l.length t.ws.c, .slice t.ms.A t.ms.l.length t.ms.c, .slice t.ks.A t.ks.l.length t.ks.c] 28))
  replace HT := Lib.hid (HT.out.alloc (.cells #[.int .i64 t.n, .slice t.ss.A t.ss.l.length t.ss.c, .slice t.cs.A t.cs.l.length t.cs.c, .slice t.ws.A t.ws.l.length t.ws.c, .slice t.ms.A t.ms.l.length t.ms.c, .slice t.ks.A t.ks.l.length t.ks.c] 28))
  replace HS := Lib.hid (HS.out.alloc (.cells #[.int .i64 t.n, .slice t.ss.A t.ss.l.length t.ss.c, .slice t.cs.A t.cs.l.length t.cs.c, .slice t.ws.A t.ws.l.length t.ws.c, .slice t.ms.A t.ms.l.length t.ms.c, .slice t.ks.A t.ks.l.length t.ks.c] 28))
  replace HX := Lib.hid (HX.out.alloc (.cells #[.int .i64 t.n, .slice t.ss.A t.ss.l.length t.ss.c, .slice t.cs.A t.cs.l.length t.cs.c, .slice t.ws.A t.ws.l.length t.ws.c, .slice t.ms.A t.ms.l.length t.ms.c, .slice t.ks.A t.ks.l.length t.ks.c] 28))
  have T1 := Lib.hid (Blk.newH w [.int .i64 t.n, .slice t.ss.A t.ss.l.length t.ss.c, .slice t.cs.A t.cs.l.length t.cs.c, .slice t.ws.A t.ws.l.length t.ws.c, .slice t.ms.A t.ms.l.length t.ms.c, .slice t.ks.A t.ks.l.length t.ks.c] 28 (w.heap.size) (by first | rfl | simp))
  replace E := Lib.hid (ext_alloc E.out (.cells #[.slice A l.length c] 31))
  replace HT := Lib.hid (HT.out.alloc (.cells #[.slice A l.length c] 31))
  replace HS := Lib.hid (HS.out.alloc (.cells #[.slice A l.length c] 31))
  replace HX := Lib.hid (HX.out.alloc (.cells #[.slice A l.length c] 31))
  replace T1 := Lib.hid (T1.out.alloc (.cells #[.slice A l.length c] 31))
  have B1 := Lib.hid (Blk.newH (w.alloc (.cells #[.int .i64 t.n, .slice t.ss.A t.ss.l.length t.ss.c, .slice t.cs.A t.cs.l.length t.cs.c, .slice t.ws.A t.ws.l.length t.ws.c, .slice t.ms.A t.ms.l.length t.ms.c, .slice t.ks.A t.ks.l.length t.ks.c] 28)) [.slice A l.length c] 31 (w.heap.size + 1) (by first | rfl | simp))
  replace E := Lib.hid (ext_alloc E.out (.cells #[.int .i64 x.f, .int .i64 x.cfg, .slice x.ms.A x.ms.l.length x.ms.c] 34))
  replace HT := Lib.hid (HT.out.alloc (.cells #[.int .i64 x.f, .int .i64 x.cfg, .slice x.ms.A x.ms.l.length x.ms.c] 34))
  replace HS := Lib.hid (HS.out.alloc (.cells #[.int .i64 x.f, .int .i64 x.cfg, .slice x.ms.A x.ms.l.length x.ms.c] 34))
  replace HX := Lib.hid (HX.out.alloc (.cells #[.int .i64 x.f, .int .i64 x.cfg, .slice x.ms.A x.ms.l.length x.ms.c] 34))
  replace T1 := Lib.hid (T1.out.alloc (.cells #[.int .i64 x.f, .int .i64 x.cfg, .slice x.ms.A x.ms.l.length x.ms.c] 34))
  replace B1 := Lib.hid (B1.out.alloc (.cells #[.int .i64 x.f, .int .i64 x.cfg, .slice x.ms.A x.ms.l.length x.ms.c] 34))
  have C1 := Lib.hid (Blk.newH ((w.alloc (.cells #[.int .i64 t.n, .slice t.ss.A t.ss.l.length t.ss.c, .slice t.cs.A t.cs.l.length t.cs.c, .slice t.ws.A t.ws.l.length t.ws.c, .slice t.ms.A t.ms.l.length t.ms.c, .slice t.ks.A t.ks.l.length t.ks.c] 28)).alloc (.cells #[.slice A l.length c] 31)) [.int .i64 x.f, .int .i64 x.cfg, .slice x.ms.A x.ms.l.length x.ms.c] 34 (w.heap.size + 1 + 1) (by first | rfl | simp))
  obtain ⟨W, hW⟩ : ∃ xw, (((w.alloc (.cells #[.int .i64 t.n, .slice t.ss.A t.ss.l.length t.ss.c, .slice t.cs.A t.cs.l.length t.cs.c, .slice t.ws.A t.ws.l.length t.ws.c, .slice t.ms.A t.ms.l.length t.ms.c, .slice t.ks.A t.ks.l.length t.ks.c] 28)).alloc (.cells #[.slice A l.length c] 31)).alloc (.cells #[.int .i64 x.f, .int .i64 x.cfg, .slice x.ms.A x.ms.l.length x.ms.c] 34)) = xw := ⟨_, rfl⟩
  rw [hW] at E HT HS HX T1 B1 C1
  have HW := Lib.hid hW
  clear hW
  go_enter Tryz.func3, Tryz.ntmps3
  go_wp2_with fail
  rw [HW.out]
  clear HW
  refine (sane_any _).mono ?_
  rintro e w1 ⟨rfl, B⟩
  replace E := Lib.hid (ext_trans E.out B)
  replace HT := Lib.hid (HT.out.ext B)
  replace HS := Lib.hid (HS.out.ext B)
  replace HX := Lib.hid (HX.out.ext B)
  replace T1 := Lib.hid (T1.out.ext B)
  replace B1 := Lib.hid (B1.out.ext B)
  replace C1 := Lib.hid (C1.out.ext B)
  clear B
  have q0 := T1.out.c 0 _ rfl
  have q1 := T1.out.c 1 _ rfl
  have q2 := T1.out.c 2 _ rfl
  have q3 := T1.out.c 3 _ rfl
  have q4 := T1.out.c 4 _ rfl
  have q5 := T1.out.c 5 _ rfl
  have q6 := T1.out.lt
  go_wp2_with fail
  refine (few14_any t _ HT.out).mono ?_
  rintro e w2 ⟨r, rfl, hr, B⟩
  clear q0 q1 q2 q3 q4 q5 q6
  replace E := Lib.hid (ext_trans E.out B)
  replace HT := Lib.hid (HT.out.ext B)
  replace HS := Lib.hid (HS.out.ext B)
  replace HX := Lib.hid (HX.out.ext B)
  replace T1 := Lib.hid (T1.out.ext B)
  replace B1 := Lib.hid (B1.out.ext B)
  replace C1 := Lib.hid (C1.out.ext B)
  clear B
  have HRw2 := Lib.hid hr
  clear hr
  cases r
  · go_wp2_with fail
    go_ret
    exact ⟨rfl, E.out⟩
  have q0 := B1.out.c 0 _ rfl
  have q1 := B1.out.lt
  go_wp2_with fail
  refine (few19_any A c l _ HS.out.s HS.out.n).mono ?_
  rintro e w3 ⟨r, rfl, hr, B⟩
  clear q0 q1
  replace E := Lib.hid (ext_trans E.out B)
  replace HT := Lib.hid (HT.out.ext B)
  replace HS := Lib.hid (HS.out.ext B)
  replace HX := Lib.hid (HX.out.ext B)
  replace T1 := Lib.hid (T1.out.ext B)
  replace B1 := Lib.hid (B1.out.ext B)
  replace C1 := Lib.hid (C1.out.ext B)
  clear B
  have HRw3 := Lib.hid hr
  clear hr
  cases r
  · go_wp2_with fail
    go_ret
    exact ⟨rfl, E.out⟩
  have hl10 := (HRw3.out rfl).1
  have q0 := C1.out.c 0 _ rfl
  have q1 := C1.out.c 1 _ rfl
  have q2 := C1.out.c 2 _ rfl
  have q3 := C1.out.lt
  by_cases hm : 10 < x.ms.l.length
  · have e1 : decide ((x.ms.l.length : Int) > 10) = true := decide_eq_true (by omega)
    go_wp2_with fail
    go_ret
    exact ⟨rfl, E.out⟩
  have e1 : decide ((x.ms.l.length : Int) > 10) = false := decide_eq_false (by omega)
  have r0 := T1.out.c 0 _ rfl
  have r1 := T1.out.c 1 _ rfl
  have r2 := T1.out.c 2 _ rfl
  have r3 := T1.out.c 3 _ rfl
  have r4 := T1.out.c 4 _ rfl
  have r5 := T1.out.c 5 _ rfl
  have r6 := T1.out.lt
  have r7 := B1.out.c 0 _ rfl
  have r8 := B1.out.lt
  obtain ⟨v, hv⟩ : ∃ v, addE t l x = v := ⟨_, rfl⟩
  obtain ⟨P, hP⟩ : ∃ P, addL t l x = P := ⟨_, rfl⟩
  obtain ⟨pl, hpl⟩ : ∃ n, P.length = n := ⟨_, rfl⟩
  obtain ⟨v2, hv2⟩ : ∃ v, chkS t l = v := ⟨_, rfl⟩
  have HV := Lib.hid hv
  have HP := Lib.hid hP
  have HPL := Lib.hid hpl
  have HV2 := Lib.hid hv2
  clear hv hP hpl hv2
  have hpl2 : pl ≤ 1000 := by have := addL_len (t := t) (l := l) (x := x); rw [HP.out, HPL.out] at this; omega
  go_wp2_with fail
  clear e1 hm
  refine (add_lit (L := P) pl HV.out HP.out HPL.out.symm rfl HT.out HS.out.s (by omega) HS.out.o HX.out).mono ?_
  rintro e w4 ⟨A1, cp1, rfl, hO1, B⟩
  clear q0 q1 q2 q3 r0 r1 r2 r3 r4 r5 r6 r7 r8
  replace E := Lib.hid (ext_trans E.out B)
  replace HT := Lib.hid (HT.out.ext B)
  replace HS := Lib.hid (HS.out.ext B)
  replace HX := Lib.hid (HX.out.ext B)
  replace T1 := Lib.hid (T1.out.ext B)
  replace B1 := Lib.hid (B1.out.ext B)
  replace C1 := Lib.hid (C1.out.ext B)
  clear B
  have S1 := Lib.hid (show SOk _ A1 P from ⟨hO1.slc (sz := 3) (fun _ => rfl) (by decide), by rw [HPL.out]; unfold maxLen; omega, fun y hy => by rw [← HP.out] at hy; rcases addL_mem hy with rfl | hy; exact HX.out; exact HS.out.o y hy⟩)
  clear hO1
  replace E := Lib.hid (ext_alloc E.out (.cells #[.slice A1 pl cp1] 31))
  replace HT := Lib.hid (HT.out.alloc (.cells #[.slice A1 pl cp1] 31))
  replace HS := Lib.hid (HS.out.alloc (.cells #[.slice A1 pl cp1] 31))
  replace HX := Lib.hid (HX.out.alloc (.cells #[.slice A1 pl cp1] 31))
  replace T1 := Lib.hid (T1.out.alloc (.cells #[.slice A1 pl cp1] 31))
  replace B1 := Lib.hid (B1.out.alloc (.cells #[.slice A1 pl cp1] 31))
  replace C1 := Lib.hid (C1.out.alloc (.cells #[.slice A1 pl cp1] 31))
  replace S1 := Lib.hid (S1.out.alloc (.cells #[.slice A1 pl cp1] 31))
  have X1 := Lib.hid (Blk.newH w4 [.slice A1 pl cp1] 31 (w4.heap.size) (by first | rfl | simp))
  have q0 := T1.out.c 0 _ rfl
  have q1 := T1.out.c 1 _ rfl
  have q2 := T1.out.c 2 _ rfl
  have q3 := T1.out.c 3 _ rfl
  have q4 := T1.out.c 4 _ rfl
  have q5 := T1.out.c 5 _ rfl
  have q6 := T1.out.lt
  have q7 := B1.out.c 0 _ rfl
  have q8 := B1.out.lt
  have q9 := C1.out.c 0 _ rfl
  have q10 := C1.out.c 1 _ rfl
  have q11 := C1.out.c 2 _ rfl
  have q12 := C1.out.lt
  go_wp2_with fail
  refine (radd_lit (L := P) pl HV.out HP.out HPL.out.symm rfl HT.out HS.out.s (by omega) HS.out.o HX.out).mono ?_
  rintro e w5 ⟨A2, cp2, rfl, hO2, B⟩
  clear q0 q1 q2 q3 q4 q5 q6 q7 q8 q9 q10 q11 q12
  replace E := Lib.hid (ext_trans E.out B)
  replace HT := Lib.hid (HT.out.ext B)
  replace HS := Lib.hid (HS.out.ext B)
  replace HX := Lib.hid (HX.out.ext B)
  replace T1 := Lib.hid (T1.out.ext B)
  replace B1 := Lib.hid (B1.out.ext B)
  replace C1 := Lib.hid (C1.out.ext B)
  replace S1 := Lib.hid (S1.out.ext B)
  replace X1 := Lib.hid (X1.out.ext B)
  clear B
  have S2 := Lib.hid (show SOk _ A2 P from ⟨hO2.slc (sz := 3) (fun _ => rfl) (by decide), by rw [HPL.out]; unfold maxLen; omega, fun y hy => by rw [← HP.out] at hy; rcases addL_mem hy with rfl | hy; exact HX.out; exact HS.out.o y hy⟩)
  clear hO2
  replace E := Lib.hid (ext_alloc E.out (.cells #[.slice A2 pl cp2] 31))
  replace HT := Lib.hid (HT.out.alloc (.cells #[.slice A2 pl cp2] 31))
  replace HS := Lib.hid (HS.out.alloc (.cells #[.slice A2 pl cp2] 31))
  replace HX := Lib.hid (HX.out.alloc (.cells #[.slice A2 pl cp2] 31))
  replace T1 := Lib.hid (T1.out.alloc (.cells #[.slice A2 pl cp2] 31))
  replace B1 := Lib.hid (B1.out.alloc (.cells #[.slice A2 pl cp2] 31))
  replace C1 := Lib.hid (C1.out.alloc (.cells #[.slice A2 pl cp2] 31))
  replace S1 := Lib.hid (S1.out.alloc (.cells #[.slice A2 pl cp2] 31))
  replace X1 := Lib.hid (X1.out.alloc (.cells #[.slice A2 pl cp2] 31))
  replace S2 := Lib.hid (S2.out.alloc (.cells #[.slice A2 pl cp2] 31))
  have X2 := Lib.hid (Blk.newH w5 [.slice A2 pl cp2] 31 (w5.heap.size) (by first | rfl | simp))
  obtain ⟨wz, hwz⟩ : ∃ xw, (w5.alloc (.cells #[.slice A2 pl cp2] 31)) = xw := ⟨_, rfl⟩
  rw [hwz] at E HT HS HX T1 B1 C1 S1 X1 S2 X2
  have HWZ := Lib.hid hwz
  clear hwz
  go_wp2_with fail
  rw [HWZ.out]
  clear HWZ
  have e2 : (v2 == v2) = true := by simp
  have e3 : (v == v) = true := by simp
  have hsm := sameS_refl P
  have HSM := Lib.hid hsm
  clear hsm
  have SS := Lib.hid (show ∀ w', Below wz.heap.size wz w' → (fun w' => Below wz.heap.size wz w' ∧ w'.cell? ⟨w.heap.size, 0, none⟩ = some (.int .i64 t.n) ∧ w'.cell? ⟨w.heap.size, 1, none⟩ = some (.slice t.ss.A t.ss.l.length t.ss.c) ∧ w'.cell? ⟨w.heap.size, 2, none⟩ = some (.slice t.cs.A t.cs.l.length t.cs.c) ∧ w'.cell? ⟨w.heap.size, 3, none⟩ = some (.slice t.ws.A t.ws.l.length t.ws.c) ∧ w'.cell? ⟨w.heap.size, 4, none⟩ = some (.slice t.ms.A t.ms.l.length t.ms.c) ∧ w'.cell? ⟨w.heap.size, 5, none⟩ = some (.slice t.ks.A t.ks.l.length t.ks.c) ∧ w'.cell? ⟨w.heap.size + 1, 0, none⟩ = some (.slice A l.length c) ∧ w'.cell? ⟨w4.heap.size, 0, none⟩ = some (.slice A1 pl cp1) ∧ w'.cell? ⟨w5.heap.size, 0, none⟩ = some (.slice A2 pl cp2)) w' from fun w' h => ⟨h, (T1.out.ext h).c 0 _ rfl, (T1.out.ext h).c 1 _ rfl, (T1.out.ext h).c 2 _ rfl, (T1.out.ext h).c 3 _ rfl, (T1.out.ext h).c 4 _ rfl, (T1.out.ext h).c 5 _ rfl, (B1.out.ext h).c 0 _ rfl, (X1.out.ext h).c 0 _ rfl, (X2.out.ext h).c 0 _ rfl⟩)
  refine rg_begin (S := (fun w' => Below wz.heap.size wz w' ∧ w'.cell? ⟨w.heap.size, 0, none⟩ = some (.int .i64 t.n) ∧ w'.cell? ⟨w.heap.size, 1, none⟩ = some (.slice t.ss.A t.ss.l.length t.ss.c) ∧ w'.cell? ⟨w.heap.size, 2, none⟩ = some (.slice t.cs.A t.cs.l.length t.cs.c) ∧ w'.cell? ⟨w.heap.size, 3, none⟩ = some (.slice t.ws.A t.ws.l.length t.ws.c) ∧ w'.cell? ⟨w.heap.size, 4, none⟩ = some (.slice t.ms.A t.ms.l.length t.ms.c) ∧ w'.cell? ⟨w.heap.size, 5, none⟩ = some (.slice t.ks.A t.ks.l.length t.ks.c) ∧ w'.cell? ⟨w.heap.size + 1, 0, none⟩ = some (.slice A l.length c) ∧ w'.cell? ⟨w4.heap.size, 0, none⟩ = some (.slice A1 pl cp1) ∧ w'.cell? ⟨w5.heap.size, 0, none⟩ = some (.slice A2 pl cp2))) 18 (by kernel_rfl) (by intro d; cases d <;> intro _ _ _ _ h <;> exact h) ?_ (fun Q7 hQ7 hN7 hHeld => ?_)
  · exact SS.out _ (ext_drew (ext_refl _))
  refine rg_take (i := 0) (some 41) (v := ?_) rfl rfl (by kernel_rfl) (by rfl) hQ7 hHeld ?_ ?_
  rotate_left
  · intro w7 hSw; (try dsimp only at hSw); go_simp; all_goals with_reducible rfl
  try simp only [Act.put, List.setIfInBounds_toArray, List.set_cons_zero, List.set_cons_succ]
  refine rg_take (i := 1) (some 42) (v := ?_) rfl rfl (by kernel_rfl) (by rfl) hQ7 hHeld ?_ ?_
  rotate_left
  · intro w7 hSw; (try dsimp only at hSw); go_simp; all_goals with_reducible rfl
  try simp only [Act.put, List.setIfInBounds_toArray, List.set_cons_zero, List.set_cons_succ]
  refine rg_take (i := 3) (some 44) (v := ?_) rfl rfl (by kernel_rfl) (by rfl) hQ7 hHeld ?_ ?_
  rotate_left
  · intro w7 hSw; (try dsimp only at hSw); go_simp; all_goals with_reducible rfl
  try simp only [Act.put, List.setIfInBounds_toArray, List.set_cons_zero, List.set_cons_succ]
  refine rg_take (i := 4) (some 45) (v := ?_) rfl rfl (by kernel_rfl) (by rfl) hQ7 hHeld ?_ ?_
  rotate_left
  · intro w7 hSw; (try dsimp only at hSw); go_simp; all_goals with_reducible rfl
  try simp only [Act.put, List.setIfInBounds_toArray, List.set_cons_zero, List.set_cons_succ]
  refine rg_one (i := 2) (by kernel_rfl) (rg_step rfl (by rfl) (fun K hK => ?_))
  go_simp
  refine (check_sat v2 HV2.out rfl (HT.out.ext hHeld.1) (HS.out.s.ext hHeld.1) HS.out.n (fun y hy => (HS.out.o y hy).ext hHeld.1)).mono ?_
  rintro e u1 ⟨rfl, B1⟩
  go_wp2_with fail
  refine hK.out _ _ ?_ (fun hHeld2 => ?_)
  · exact SS.out _ (ext_trans hHeld.1 B1)
  clear hHeld
  have hHeld := hHeld2
  clear hHeld2
  clear hK K
  try simp only [Act.put, List.setIfInBounds_toArray, List.set_cons_zero, List.set_cons_succ]
  refine rg_one (i := 5) (by kernel_rfl) (rg_step rfl (by rfl) (fun K hK => ?_))
  go_simp
  refine (rcheck_sat v2 HV2.out rfl (HT.out.ext hHeld.1) (HS.out.s.ext hHeld.1) HS.out.n (fun y hy => (HS.out.o y hy).ext hHeld.1)).mono ?_
  rintro e u2 ⟨rfl, B2⟩
  go_wp2_with fail
  refine hK.out _ _ ?_ (fun hHeld2 => ?_)
  · exact SS.out _ (ext_trans hHeld.1 B2)
  clear hHeld
  have hHeld := hHeld2
  clear hHeld2
  clear hK K
  try simp only [Act.put, List.setIfInBounds_toArray, List.set_cons_zero, List.set_cons_succ]
  refine rg_take (i := 6) (some 47) (v := ?_) rfl rfl (by kernel_rfl) (by rfl) hQ7 hHeld ?_ ?_
  rotate_left
  · intro w7 hSw; (try dsimp only at hSw); go_simp; all_goals with_reducible rfl
  try simp only [Act.put, List.setIfInBounds_toArray, List.set_cons_zero, List.set_cons_succ]
  refine rg_take (i := 7) (some 48) (v := ?_) rfl rfl (by kernel_rfl) (by rfl) hQ7 hHeld ?_ ?_
  rotate_left
  · intro w7 hSw; (try dsimp only at hSw); go_simp; all_goals with_reducible rfl
  try simp only [Act.put, List.setIfInBounds_toArray, List.set_cons_zero, List.set_cons_succ]
  refine rg_take (i := 8) (some 49) (v := ?_) rfl rfl (by kernel_rfl) (by rfl) hQ7 hHeld ?_ ?_
  rotate_left
  · intro w7 hSw; (try dsimp only at hSw); go_simp; all_goals with_reducible rfl
  try simp only [Act.put, List.setIfInBounds_toArray, List.set_cons_zero, List.set_cons_succ]
  refine rg_take (i := 9) (some 50) (v := ?_) rfl rfl (by kernel_rfl) (by rfl) hQ7 hHeld ?_ ?_
  rotate_left
  · intro w7 hSw; (try dsimp only at hSw); go_simp; all_goals with_reducible rfl
  try simp only [Act.put, List.setIfInBounds_toArray, List.set_cons_zero, List.set_cons_succ]
  refine rg_one (i := 10) (by kernel_rfl) (rg_step rfl (by rfl) (fun K hK => ?_))
  go_simp
  refine (sameS_at true HSM.out HPL.out.symm HPL.out.symm (S1.out.s.ext hHeld.1) S1.out.n (fun y hy => (S1.out.o y hy).ext hHeld.1) (S2.out.s.ext hHeld.1) S2.out.n (fun y hy => (S2.out.o y hy).ext hHeld.1)).mono ?_
  rintro e u3 ⟨rfl, B3⟩
  go_wp2_with fail
  refine hK.out _ _ ?_ (fun hHeld2 => ?_)
  · exact SS.out _ (ext_trans hHeld.1 B3)
  clear hHeld
  have hHeld := hHeld2
  clear hHeld2
  clear hK K
  try simp only [Act.put, List.setIfInBounds_toArray, List.set_cons_zero, List.set_cons_succ]
  refine rg_take (i := 11) (some 52) (v := ?_) rfl rfl (by kernel_rfl) (by rfl) hQ7 hHeld ?_ ?_
  rotate_left
  · intro w7 hSw; (try dsimp only at hSw); go_simp; all_goals with_reducible rfl
  try simp only [Act.put, List.setIfInBounds_toArray, List.set_cons_zero, List.set_cons_succ]
  refine rg_take (i := 12) (some 53) (v := ?_) rfl rfl (by kernel_rfl) (by rfl) hQ7 hHeld ?_ ?_
  rotate_left
  · intro w7 hSw; (try dsimp only at hSw); go_simp; all_goals with_reducible rfl
  try simp only [Act.put, List.setIfInBounds_toArray, List.set_cons_zero, List.set_cons_succ]
  refine rg_take (i := 13) (some 54) (v := ?_) rfl rfl (by kernel_rfl) (by rfl) hQ7 hHeld ?_ ?_
  rotate_left
  · intro w7 hSw; (try dsimp only at hSw); go_simp; all_goals with_reducible rfl
  try simp only [Act.put, List.setIfInBounds_toArray, List.set_cons_zero, List.set_cons_succ]
  refine rg_take (i := 14) (some 55) (v := ?_) rfl rfl (by kernel_rfl) (by rfl) hQ7 hHeld ?_ ?_
  rotate_left
  · intro w7 hSw; (try dsimp only at hSw); go_simp; all_goals with_reducible rfl
  try simp only [Act.put, List.setIfInBounds_toArray, List.set_cons_zero, List.set_cons_succ]
  refine rg_take (i := 15) (some 56) (v := ?_) rfl rfl (by kernel_rfl) (by rfl) hQ7 hHeld ?_ ?_
  rotate_left
  · intro w7 hSw; (try dsimp only at hSw); go_simp; all_goals with_reducible rfl
  try simp only [Act.put, List.setIfInBounds_toArray, List.set_cons_zero, List.set_cons_succ]
  refine rg_take (i := 16) (some 57) (v := ?_) rfl rfl (by kernel_rfl) (by rfl) hQ7 hHeld ?_ ?_
  rotate_left
  · intro w7 hSw; (try dsimp only at hSw); go_simp; all_goals with_reducible rfl
  try simp only [Act.put, List.setIfInBounds_toArray, List.set_cons_zero, List.set_cons_succ]
  refine rg_take (i := 17) (some 6) (v := ?_) rfl rfl (by kernel_rfl) (by rfl) hQ7 hHeld ?_ ?_
  rotate_left
  · intro w7 hSw; (try dsimp only at hSw); go_simp; all_goals with_reducible rfl
  try simp only [Act.put, List.setIfInBounds_toArray, List.set_cons_zero, List.set_cons_succ]
  refine rg_end (by kernel_rfl) (hN7 _ _ ?_) _
  clear hQ7 hN7 Q7
  have BX := hHeld.1
  clear SS
  have HR1 := Lib.hid (ext_trans E.out BX)
  clear BX
  go_wp2_with fail
  go_ret
  exact ⟨rfl, HR1.out⟩
theorem walk3 (t : Tab) (s : Sch) (x : Chg) (w : World) (ht : Tab.ok w t) (hs : Sch.ok w s) (hx : Chg.ok w x) : Calls Tryz.prog 3 #[.agg t.cells.toArray, .agg s.cells.toArray, .agg x.cells.toArray] w (Tru w) :=
  law3 t s.ch.A s.ch.c s.ch.l x w ht ⟨hs.slc, hs.len, fun y hy => hs.all hy⟩ hx
end Go.Proofs.YtilocjliplmmpaaGreat
