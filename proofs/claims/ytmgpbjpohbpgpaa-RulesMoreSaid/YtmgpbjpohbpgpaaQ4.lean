/- Law 4: contradictions do not disappear. -/
import Derived.Test.YtmgpbjpohbpgpaaQ3
import Derived.Deep.Cut
set_option linter.unusedSimpArgs false
set_option linter.unusedVariables false
namespace Go.Proofs.Ytmgpbjpohbpgpaa
open Go.RowKit
theorem reaL_bad {nC nA : Nat} {l : List Ru} (h : chkR nC nA l ≠ 0) : reaL nC nA l = [] := by unfold reaL; rw [if_neg h]
theorem reaL_ok {nC nA : Nat} {l : List Ru} (h : chkR nC nA l = 0) : reaL nC nA l = reasonL nC nA l := by unfold reaL; rw [if_pos h]
theorem more_w {nC nA cl : Int} {l : List Ru} {x : Ru} (h : chkR nC nA (l ++ [x]) = 0) (hx : x.cl ≠ cl) : chkC nC nA (l ++ [x]) cl = chkC nC nA l cl ∧ weightN nC nA (l ++ [x]) cl = weightN nC nA l cl ∧ longN nC nA (l ++ [x]) cl = longN nC nA l cl := by
  have h1 := chk_app h
  have e : chkC nC nA (l ++ [x]) cl = chkC nC nA l cl := by unfold chkC; rw [h, h1]
  refine ⟨e, ?_, ?_⟩
  · unfold weightN; rw [e, num_app hx]
  · unfold longN; rw [e, num_app hx, num_app hx]
theorem AOk.far {w : World} {a : As} (h : AOk w a) {p : Addr} {v : Value} (hp : rowOff a.rs.A a.rs.l p.block) : AOk (w.setCell p v) a := ⟨h.aps, h.cls, h.rs.far hp, h.rl, h.rc⟩
set_option maxRecDepth 100000 in
set_option maxHeartbeats 51200000 in
theorem law4 (a : As) (x : Ru) (cl : Int) (w : World) (ha : AOk w a) : Calls Try.prog 4 #[a.v, x.v, .int .i64 cl] w (Tru w) := by
  obtain ⟨m, hm⟩ : ∃ m, a.rs.l ++ [x] = m := ⟨_, rfl⟩
  have HM := Lib.hid hm
  obtain ⟨v, hv⟩ : ∃ v, chkR a.cls.n a.aps.n a.rs.l = v := ⟨_, rfl⟩
  obtain ⟨v2, hv2⟩ : ∃ v, chkR a.cls.n a.aps.n m = v := ⟨_, rfl⟩
  obtain ⟨R, hR⟩ : ∃ R, reaL a.cls.n a.aps.n a.rs.l = R := ⟨_, rfl⟩
  obtain ⟨M, hMM⟩ : ∃ R, reaL a.cls.n a.aps.n m = R := ⟨_, rfl⟩
  have HV := Lib.hid hv
  have HV2 := Lib.hid hv2
  have HR := Lib.hid hR
  have HMM := Lib.hid hMM
  have HRl := Lib.hid (show R.length ≤ 64 from hR ▸ reaL_len a.cls.n a.aps.n a.rs.l)
  have HMl := Lib.hid (show M.length ≤ 64 from hMM ▸ reaL_len a.cls.n a.aps.n m)
  have HVV := Lib.hid (show v ≠ 0 → v2 ≠ 0 from fun h e => h (by rw [← hv]; exact chk_app (x := x) (by rw [hm, hv2]; exact e)))
  have HRN := Lib.hid (show v ≠ 0 → R = [] from fun h => by rw [← hR]; exact reaL_bad (by rw [hv]; exact h))
  have HMN := Lib.hid (show v2 ≠ 0 → M = [] from fun h => by rw [← hMM]; exact reaL_bad (by rw [hv2]; exact h))
  have HMo := Lib.hid (show v2 = 0 → R ≠ [] → M ≠ [] ∧ M.length ≤ R.length ∧ (M.length = R.length → R ≠ M → M[M.length - 1]? = some a.rs.l.length) from fun h hne => by
    subst hm
    have h1 := hv2.trans h
    exact more_of h1 (by rw [← reaL_ok (chk_app h1)]; exact hR) (by rw [← reaL_ok h1]; exact hMM) hne)
  have HW := Lib.hid (show v2 = 0 → x.cl ≠ cl → chkC a.cls.n a.aps.n m cl = chkC a.cls.n a.aps.n a.rs.l cl ∧ weightN a.cls.n a.aps.n m cl = weightN a.cls.n a.aps.n a.rs.l cl ∧ longN a.cls.n a.aps.n m cl = longN a.cls.n a.aps.n a.rs.l cl from fun h hx => by
    subst hm
    exact more_w (hv2.trans h) hx)
  clear hm hv hv2 hR hMM
  have E := Lib.hid (ext_refl w)
  have HA := Lib.hid (ha)
  clear ha
  replace E := Lib.hid (ext_alloc E.out (.cells #[.slice a.s0.A a.s0.n a.s0.c, .slice a.s1.A a.s1.n a.s1.c, .slice a.s2.A a.s2.n a.s2.c, .slice a.s3.A a.s3.n a.s3.c, .slice a.s4.A a.s4.n a.s4.c, .slice a.aps.A a.aps.n a.aps.c, .slice a.cls.A a.cls.n a.cls.c, .slice a.rs.A a.rs.l.length a.rs.c] 31))
  replace HA := Lib.hid (HA.out.alloc (.cells #[.slice a.s0.A a.s0.n a.s0.c, .slice a.s1.A a.s1.n a.s1.c, .slice a.s2.A a.s2.n a.s2.c, .slice a.s3.A a.s3.n a.s3.c, .slice a.s4.A a.s4.n a.s4.c, .slice a.aps.A a.aps.n a.aps.c, .slice a.cls.A a.cls.n a.cls.c, .slice a.rs.A a.rs.l.length a.rs.c] 31))
  have X := Lib.hid (Blk.newH w [.slice a.s0.A a.s0.n a.s0.c, .slice a.s1.A a.s1.n a.s1.c, .slice a.s2.A a.s2.n a.s2.c, .slice a.s3.A a.s3.n a.s3.c, .slice a.s4.A a.s4.n a.s4.c, .slice a.aps.A a.aps.n a.aps.c, .slice a.cls.A a.cls.n a.cls.c, .slice a.rs.A a.rs.l.length a.rs.c] 31 (w.heap.size) (by first | rfl | simp))
  replace E := Lib.hid (ext_alloc E.out (.cells #[.int .i64 x.k, .string x.sc, .string x.sa, .int .i64 x.cl, .int .i64 x.ap, .int .i64 x.n, .int .i64 x.f, .int .i64 x.t] 42))
  replace HA := Lib.hid (HA.out.alloc (.cells #[.int .i64 x.k, .string x.sc, .string x.sa, .int .i64 x.cl, .int .i64 x.ap, .int .i64 x.n, .int .i64 x.f, .int .i64 x.t] 42))
  replace X := Lib.hid (X.out.alloc (.cells #[.int .i64 x.k, .string x.sc, .string x.sa, .int .i64 x.cl, .int .i64 x.ap, .int .i64 x.n, .int .i64 x.f, .int .i64 x.t] 42))
  have Z := Lib.hid (Blk.newH (w.alloc (.cells #[.slice a.s0.A a.s0.n a.s0.c, .slice a.s1.A a.s1.n a.s1.c, .slice a.s2.A a.s2.n a.s2.c, .slice a.s3.A a.s3.n a.s3.c, .slice a.s4.A a.s4.n a.s4.c, .slice a.aps.A a.aps.n a.aps.c, .slice a.cls.A a.cls.n a.cls.c, .slice a.rs.A a.rs.l.length a.rs.c] 31)) [.int .i64 x.k, .string x.sc, .string x.sa, .int .i64 x.cl, .int .i64 x.ap, .int .i64 x.n, .int .i64 x.f, .int .i64 x.t] 42 (w.heap.size + 1) (by first | rfl | simp))
  go_enter Try.func4, Try.ntmps4
  go_wp2_with fail
  refine (sane_any _).mono ?_
  rintro e z1 ⟨rfl, B⟩
  replace E := Lib.hid (ext_trans E.out B)
  replace HA := Lib.hid (HA.out.ext B)
  replace X := Lib.hid (X.out.ext B)
  replace Z := Lib.hid (Z.out.ext B)
  clear B
  by_cases hl : (64 : Int) ≤ a.rs.l.length
  · have c0 := X.out.c 7 _ rfl
    go_wp2_with fail
    go_ret
    exact ⟨rfl, E.out⟩
  have hl2 : a.rs.l.length < 64 := by omega
  have hwl : w.heap.size ≤ z1.heap.size := E.out.size
  have hxl : w.heap.size < z1.heap.size := X.out.lt
  have hzl : w.heap.size + 1 < z1.heap.size := Z.out.lt
  have HRO := Lib.hid (HA.out.rs.rowOff (b := z1.heap.size) (Nat.le_refl _))
  have c0 := X.out.c 0 _ rfl
  have c1 := X.out.c 1 _ rfl
  have c2 := X.out.c 2 _ rfl
  have c3 := X.out.c 3 _ rfl
  have c4 := X.out.c 4 _ rfl
  have c5 := X.out.c 5 _ rfl
  have c6 := X.out.c 6 _ rfl
  have c7 := X.out.c 7 _ rfl
  replace E := Lib.hid (ext_alloc E.out (.cells #[.slice a.s0.A a.s0.n a.s0.c, .slice a.s1.A a.s1.n a.s1.c, .slice a.s2.A a.s2.n a.s2.c, .slice a.s3.A a.s3.n a.s3.c, .slice a.s4.A a.s4.n a.s4.c, .slice a.aps.A a.aps.n a.aps.c, .slice a.cls.A a.cls.n a.cls.c, .slice a.rs.A a.rs.l.length a.rs.c] 31))
  replace HA := Lib.hid (HA.out.alloc (.cells #[.slice a.s0.A a.s0.n a.s0.c, .slice a.s1.A a.s1.n a.s1.c, .slice a.s2.A a.s2.n a.s2.c, .slice a.s3.A a.s3.n a.s3.c, .slice a.s4.A a.s4.n a.s4.c, .slice a.aps.A a.aps.n a.aps.c, .slice a.cls.A a.cls.n a.cls.c, .slice a.rs.A a.rs.l.length a.rs.c] 31))
  replace X := Lib.hid (X.out.alloc (.cells #[.slice a.s0.A a.s0.n a.s0.c, .slice a.s1.A a.s1.n a.s1.c, .slice a.s2.A a.s2.n a.s2.c, .slice a.s3.A a.s3.n a.s3.c, .slice a.s4.A a.s4.n a.s4.c, .slice a.aps.A a.aps.n a.aps.c, .slice a.cls.A a.cls.n a.cls.c, .slice a.rs.A a.rs.l.length a.rs.c] 31))
  replace Z := Lib.hid (Z.out.alloc (.cells #[.slice a.s0.A a.s0.n a.s0.c, .slice a.s1.A a.s1.n a.s1.c, .slice a.s2.A a.s2.n a.s2.c, .slice a.s3.A a.s3.n a.s3.c, .slice a.s4.A a.s4.n a.s4.c, .slice a.aps.A a.aps.n a.aps.c, .slice a.cls.A a.cls.n a.cls.c, .slice a.rs.A a.rs.l.length a.rs.c] 31))
  have Y := Lib.hid (Blk.newH z1 [.slice a.s0.A a.s0.n a.s0.c, .slice a.s1.A a.s1.n a.s1.c, .slice a.s2.A a.s2.n a.s2.c, .slice a.s3.A a.s3.n a.s3.c, .slice a.s4.A a.s4.n a.s4.c, .slice a.aps.A a.aps.n a.aps.c, .slice a.cls.A a.cls.n a.cls.c, .slice a.rs.A a.rs.l.length a.rs.c] 31 (z1.heap.size) (by first | rfl | simp))
  go_wp2_with fail
  clear c0 c1 c2 c3 c4 c5 c6 c7
  obtain ⟨wq, hNwq⟩ : ∃ W0, W0 = (z1.alloc (.cells #[.slice a.s0.A a.s0.n a.s0.c, .slice a.s1.A a.s1.n a.s1.c, .slice a.s2.A a.s2.n a.s2.c, .slice a.s3.A a.s3.n a.s3.c, .slice a.s4.A a.s4.n a.s4.c, .slice a.aps.A a.aps.n a.aps.c, .slice a.cls.A a.cls.n a.cls.c, .slice a.rs.A a.rs.l.length a.rs.c] 31)) := ⟨_, rfl⟩
  rw [← hNwq] at E HA X Z Y ⊢
  clear hNwq
  have hyq : z1.heap.size < wq.heap.size := Y.out.lt
  go_cut [] from 300 (fun wc => ∃ A2 q2, Hid (Below w.heap.size w wc) ∧ Hid (AOk wc a) ∧ Hid (Blk wc (w.heap.size) [.slice a.s0.A a.s0.n a.s0.c, .slice a.s1.A a.s1.n a.s1.c, .slice a.s2.A a.s2.n a.s2.c, .slice a.s3.A a.s3.n a.s3.c, .slice a.s4.A a.s4.n a.s4.c, .slice a.aps.A a.aps.n a.aps.c, .slice a.cls.A a.cls.n a.cls.c, .slice a.rs.A a.rs.l.length a.rs.c]) ∧ Hid (Blk wc (w.heap.size + 1) [.int .i64 x.k, .string x.sc, .string x.sa, .int .i64 x.cl, .int .i64 x.ap, .int .i64 x.n, .int .i64 x.f, .int .i64 x.t]) ∧ Hid (Blk wc (z1.heap.size) [.slice a.s0.A a.s0.n a.s0.c, .slice a.s1.A a.s1.n a.s1.c, .slice a.s2.A a.s2.n a.s2.c, .slice a.s3.A a.s3.n a.s3.c, .slice a.s4.A a.s4.n a.s4.c, .slice a.aps.A a.aps.n a.aps.c, .slice a.cls.A a.cls.n a.cls.c, .slice A2 m.length q2]) ∧ Hid (AOk wc { a with rs := ⟨A2, q2, m⟩ }))
  case first =>
    have SS := Lib.hid (show ∀ w', Below wq.heap.size wq w' → (fun w' => Below wq.heap.size wq w' ∧ w'.cell? ⟨w.heap.size, 7, none⟩ = some (.slice a.rs.A a.rs.l.length a.rs.c) ∧ w'.cell? ⟨w.heap.size + 1, 0, none⟩ = some (.int .i64 x.k) ∧ w'.cell? ⟨w.heap.size + 1, 1, none⟩ = some (.string x.sc) ∧ w'.cell? ⟨w.heap.size + 1, 2, none⟩ = some (.string x.sa) ∧ w'.cell? ⟨w.heap.size + 1, 3, none⟩ = some (.int .i64 x.cl) ∧ w'.cell? ⟨w.heap.size + 1, 4, none⟩ = some (.int .i64 x.ap) ∧ w'.cell? ⟨w.heap.size + 1, 5, none⟩ = some (.int .i64 x.n) ∧ w'.cell? ⟨w.heap.size + 1, 6, none⟩ = some (.int .i64 x.f) ∧ w'.cell? ⟨w.heap.size + 1, 7, none⟩ = some (.int .i64 x.t)) w' from fun w' h => ⟨h, (X.out.ext h).c 7 _ rfl, (Z.out.ext h).c 0 _ rfl, (Z.out.ext h).c 1 _ rfl, (Z.out.ext h).c 2 _ rfl, (Z.out.ext h).c 3 _ rfl, (Z.out.ext h).c 4 _ rfl, (Z.out.ext h).c 5 _ rfl, (Z.out.ext h).c 6 _ rfl, (Z.out.ext h).c 7 _ rfl⟩)
    refine rg_begin (S := (fun w' => Below wq.heap.size wq w' ∧ w'.cell? ⟨w.heap.size, 7, none⟩ = some (.slice a.rs.A a.rs.l.length a.rs.c) ∧ w'.cell? ⟨w.heap.size + 1, 0, none⟩ = some (.int .i64 x.k) ∧ w'.cell? ⟨w.heap.size + 1, 1, none⟩ = some (.string x.sc) ∧ w'.cell? ⟨w.heap.size + 1, 2, none⟩ = some (.string x.sa) ∧ w'.cell? ⟨w.heap.size + 1, 3, none⟩ = some (.int .i64 x.cl) ∧ w'.cell? ⟨w.heap.size + 1, 4, none⟩ = some (.int .i64 x.ap) ∧ w'.cell? ⟨w.heap.size + 1, 5, none⟩ = some (.int .i64 x.n) ∧ w'.cell? ⟨w.heap.size + 1, 6, none⟩ = some (.int .i64 x.f) ∧ w'.cell? ⟨w.heap.size + 1, 7, none⟩ = some (.int .i64 x.t))) 8 (by kernel_rfl) (by intro d; cases d <;> intro _ _ _ _ h <;> exact h) ?_ (fun Q7 hQ7 hN7 hHeld => ?_)
    · exact SS.out _ (ext_drew (ext_refl _))
    refine rg_take (i := 1) (some 28) (v := ?_) rfl rfl (by kernel_rfl) (by rfl) hQ7 hHeld ?_ ?_
    rotate_left
    · intro w7 hSw; (try dsimp only at hSw); go_simp; all_goals with_reducible rfl
    try simp only [Act.put, List.setIfInBounds_toArray, List.set_cons_zero, List.set_cons_succ]
    refine rg_take (i := 2) (some 29) (v := ?_) rfl rfl (by kernel_rfl) (by rfl) hQ7 hHeld ?_ ?_
    rotate_left
    · intro w7 hSw; (try dsimp only at hSw); go_simp; all_goals with_reducible rfl
    try simp only [Act.put, List.setIfInBounds_toArray, List.set_cons_zero, List.set_cons_succ]
    refine rg_take (i := 4) (some 31) (v := ?_) rfl rfl (by kernel_rfl) (by rfl) hQ7 hHeld ?_ ?_
    rotate_left
    · intro w7 hSw; (try dsimp only at hSw); go_simp; all_goals with_reducible rfl
    try simp only [Act.put, List.setIfInBounds_toArray, List.set_cons_zero, List.set_cons_succ]
    refine rg_two (i := 0) (j := 5) (by kernel_rfl) (rg_step rfl (by rfl) (fun K hK => ?_)) (rg_step rfl (by rfl) (fun K hK => ?_))
    · go_simp
      refine hK.out _ _ ?_ (fun hHeld2 => ?_)
      · exact SS.out _ (ext_alloc hHeld.1 _)
      clear hHeld
      have hHeld := hHeld2
      clear hHeld2
      clear hK K
      try simp only [Act.put, List.setIfInBounds_toArray, List.set_cons_zero, List.set_cons_succ]
      refine rg_two (i := 3) (j := 5) (by kernel_rfl) (rg_step rfl (by rfl) (fun K hK => ?_)) (rg_step rfl (by rfl) (fun K hK => ?_))
      · refine rg_append (some 30) _ _ 29 29 rfl rfl rfl _ _ rfl rfl (Own.append_k (w0 := wq) I29 29 (Own.madeH (α := Ru) wq wq.heap.size 42 Ru.cells 8 (by simp) wq.heap.size (by simp)).drew_ hHeld.1 (ys := a.rs.l) (m := a.rs.l.length) rfl a.rs.c (HA.out.rs.ext hHeld.1) a.rs.l rfl a.rs.l.length rfl (by omega) (by unfold maxLen; omega)) ?_
        rintro _ w1 ⟨A1, q1, rfl, hO1, B1, hg1, hq1, hm1⟩
        refine hK.out _ _ ?_ (fun hHeld2 => ?_)
        · exact SS.out _ B1
        clear hHeld
        have hHeld := hHeld2
        clear hHeld2
        clear hK K
        try simp only [Act.put, List.setIfInBounds_toArray, List.set_cons_zero, List.set_cons_succ]
        refine rg_one (i := 5) (by kernel_rfl) (rg_step rfl (by rfl) (fun K hK => ?_))
        go_simp
        refine hK.out _ _ ?_ (fun hHeld2 => ?_)
        · exact SS.out _ (ext_alloc hHeld.1 _)
        clear hHeld
        have hHeld := hHeld2
        clear hHeld2
        clear hK K
        try simp only [Act.put, List.setIfInBounds_toArray, List.set_cons_zero, List.set_cons_succ]
        refine rg_one (i := 6) (by kernel_rfl) (rg_step rfl (by rfl) (fun K hK => ?_))
        refine rg_append (some 33) _ _ 29 29 rfl rfl rfl _ _ rfl rfl (Own.append_k (w0 := wq) I29 29 (hO1.alloc _) hHeld.1 (ys := [x]) (m := 1) rfl 1 (slc_litH w1 [x] #[.int .i64 x.k, .string x.sc, .string x.sa, .int .i64 x.cl, .int .i64 x.ap, .int .i64 x.n, .int .i64 x.f, .int .i64 x.t] 42 (enc := Ru.cells) (sz := 8) (fun _ => rfl) rfl w1.heap.size (by first | rfl | simp)) m HM.out m.length rfl (by rw [← HM.out]; simp; omega) (by rw [← HM.out]; unfold maxLen; simp; omega)) ?_
        rintro _ w2 ⟨A2, q2, rfl, hO2, B2, hg2, hq2, hm2⟩
        refine hK.out _ _ ?_ (fun hHeld2 => ?_)
        · exact SS.out _ B2
        clear hHeld
        have hHeld := hHeld2
        clear hHeld2
        clear hK K
        try simp only [Act.put, List.setIfInBounds_toArray, List.set_cons_zero, List.set_cons_succ]
        refine rg_take (i := 7) (some 34) (v := ?_) rfl rfl (by kernel_rfl) (by rfl) hQ7 hHeld ?_ ?_
        rotate_left
        · intro w7 hSw; (try dsimp only at hSw); go_simp; all_goals with_reducible rfl
        try simp only [Act.put, List.setIfInBounds_toArray, List.set_cons_zero, List.set_cons_succ]
        have y9 := Y.out.ext hHeld.1
        have y7 := y9.c 7 _ rfl
        have yf := y9.f
        have yl := y9.lt
        clear y9
        refine rg_one (i := 8) (by kernel_rfl) (rg_late rfl (by rfl) (by kernel_rfl) (fun K hK => ?_))
        go_simp
        refine hK.out _ _ ?_
        clear hK K
        try simp only [Act.put, List.setIfInBounds_toArray, List.set_cons_zero, List.set_cons_succ]
        refine rg_end (by kernel_rfl) (hN7 _ _ ?_) _
        clear hQ7 hN7 Q7
        have BX := hHeld.1
        clear SS
        have hob := Lib.hid (show ∀ b o s, A2 = some ⟨b, o, s⟩ → wq.heap.size ≤ b from fun b o s e => by
          obtain ⟨A9, c9, h1, -, -, h2⟩ := hO2.form
          injection h1 with h1 _ _
          exact (h2 b o s (h1 ▸ e)).1)
        have NB := Lib.hid (show Slc w2 Ru.cells 8 A2 m from hO2.slc (fun _ => rfl) (by decide))
        have hq9 := hq2
        have hm9 := hm2
        clear hO1 hO2 hg1 hg2 hq1 hm1 hq2 hm2 BX B1 y7 yf yl
        replace E := Lib.hid (ext_trans E.out B2)
        replace HA := Lib.hid (HA.out.ext B2)
        replace X := Lib.hid (X.out.ext B2)
        replace Z := Lib.hid (Z.out.ext B2)
        replace Y := Lib.hid (Y.out.ext B2)
        clear B2
        replace E := Lib.hid (ext_set E.out ⟨z1.heap.size, 7, none⟩ (.slice A2 m.length q2) (by first | exact Nat.le_refl _ | omega | (simp; done) | (simp; omega)))
        replace HA := Lib.hid (HA.out.far (p := ⟨z1.heap.size, 7, none⟩) (v := (.slice A2 m.length q2)) HRO.out)
        replace X := Lib.hid (X.out.other (p := ⟨z1.heap.size, 7, none⟩) (.slice A2 m.length q2) (by first | omega | (simp; done) | (simp; omega)))
        replace Z := Lib.hid (Z.out.other (p := ⟨z1.heap.size, 7, none⟩) (.slice A2 m.length q2) (by first | omega | (simp; done) | (simp; omega)))
        replace Y := Lib.hid (show Blk _ (z1.heap.size) [.slice a.s0.A a.s0.n a.s0.c, .slice a.s1.A a.s1.n a.s1.c, .slice a.s2.A a.s2.n a.s2.c, .slice a.s3.A a.s3.n a.s3.c, .slice a.s4.A a.s4.n a.s4.c, .slice a.aps.A a.aps.n a.aps.c, .slice a.cls.A a.cls.n a.cls.c, .slice A2 m.length q2] from Y.out.set (j := 7) (by simp) (.slice A2 m.length q2))
        replace NB := Lib.hid (NB.out.far (p := ⟨z1.heap.size, 7, none⟩) (v := (.slice A2 m.length q2)) (fun _ b o s e => by have := hob.out b o s e; show b ≠ z1.heap.size; omega))
        clear hob
        obtain ⟨x1, hNx1⟩ : ∃ W0, W0 = (w2.setCell ⟨z1.heap.size, 7, none⟩ (.slice A2 m.length q2)) := ⟨_, rfl⟩
        rw [← hNx1] at E HA X Z Y NB ⊢
        clear hNx1
        have HB := Lib.hid (show AOk x1 { a with rs := ⟨A2, q2, m⟩ } from ⟨HA.out.aps, HA.out.cls, NB.out, hq9, hm9⟩)
        go_wp2_with fail
        go_meet
        case rel => exact ⟨A2, q2, E, HA, X, Z, Y, HB⟩
      · go_simp
        refine hK.out _ _ ?_ (fun hHeld2 => ?_)
        · exact SS.out _ (ext_alloc hHeld.1 _)
        clear hHeld
        have hHeld := hHeld2
        clear hHeld2
        clear hK K
        try simp only [Act.put, List.setIfInBounds_toArray, List.set_cons_zero, List.set_cons_succ]
        refine rg_one (i := 3) (by kernel_rfl) (rg_step rfl (by rfl) (fun K hK => ?_))
        refine rg_append (some 30) _ _ 29 29 rfl rfl rfl _ _ rfl rfl (Own.append_k (w0 := wq) I29 29 ((Own.madeH (α := Ru) wq wq.heap.size 42 Ru.cells 8 (by simp) wq.heap.size (by simp)).alloc _).drew_ hHeld.1 (ys := a.rs.l) (m := a.rs.l.length) rfl a.rs.c (HA.out.rs.ext hHeld.1) a.rs.l rfl a.rs.l.length rfl (by omega) (by unfold maxLen; omega)) ?_
        rintro _ w1 ⟨A1, q1, rfl, hO1, B1, hg1, hq1, hm1⟩
        refine hK.out _ _ ?_ (fun hHeld2 => ?_)
        · exact SS.out _ B1
        clear hHeld
        have hHeld := hHeld2
        clear hHeld2
        clear hK K
        try simp only [Act.put, List.setIfInBounds_toArray, List.set_cons_zero, List.set_cons_succ]
        refine rg_one (i := 6) (by kernel_rfl) (rg_step rfl (by rfl) (fun K hK => ?_))
        refine rg_append (some 33) _ _ 29 29 rfl rfl rfl _ _ rfl rfl (Own.append_k (w0 := wq) I29 29 hO1 hHeld.1 (ys := [x]) (m := 1) rfl 1 ((slc_litH _ [x] #[.int .i64 x.k, .string x.sc, .string x.sa, .int .i64 x.cl, .int .i64 x.ap, .int .i64 x.n, .int .i64 x.f, .int .i64 x.t] 42 (enc := Ru.cells) (sz := 8) (fun _ => rfl) rfl (wq.heap.size + 1) (by first | rfl | simp)).drew_.grown hg1 (fun b o s e => by cases e; simp [Value.ownBlock])) m HM.out m.length rfl (by rw [← HM.out]; simp; omega) (by rw [← HM.out]; unfold maxLen; simp; omega)) ?_
        rintro _ w2 ⟨A2, q2, rfl, hO2, B2, hg2, hq2, hm2⟩
        refine hK.out _ _ ?_ (fun hHeld2 => ?_)
        · exact SS.out _ B2
        clear hHeld
        have hHeld := hHeld2
        clear hHeld2
        clear hK K
        try simp only [Act.put, List.setIfInBounds_toArray, List.set_cons_zero, List.set_cons_succ]
        refine rg_take (i := 7) (some 34) (v := ?_) rfl rfl (by kernel_rfl) (by rfl) hQ7 hHeld ?_ ?_
        rotate_left
        · intro w7 hSw; (try dsimp only at hSw); go_simp; all_goals with_reducible rfl
        try simp only [Act.put, List.setIfInBounds_toArray, List.set_cons_zero, List.set_cons_succ]
        have y9 := Y.out.ext hHeld.1
        have y7 := y9.c 7 _ rfl
        have yf := y9.f
        have yl := y9.lt
        clear y9
        refine rg_one (i := 8) (by kernel_rfl) (rg_late rfl (by rfl) (by kernel_rfl) (fun K hK => ?_))
        go_simp
        refine hK.out _ _ ?_
        clear hK K
        try simp only [Act.put, List.setIfInBounds_toArray, List.set_cons_zero, List.set_cons_succ]
        refine rg_end (by kernel_rfl) (hN7 _ _ ?_) _
        clear hQ7 hN7 Q7
        have BX := hHeld.1
        clear SS
        have hob := Lib.hid (show ∀ b o s, A2 = some ⟨b, o, s⟩ → wq.heap.size ≤ b from fun b o s e => by
          obtain ⟨A9, c9, h1, -, -, h2⟩ := hO2.form
          injection h1 with h1 _ _
          exact (h2 b o s (h1 ▸ e)).1)
        have NB := Lib.hid (show Slc w2 Ru.cells 8 A2 m from hO2.slc (fun _ => rfl) (by decide))
        have hq9 := hq2
        have hm9 := hm2
        clear hO1 hO2 hg1 hg2 hq1 hm1 hq2 hm2 BX B1 y7 yf yl
        replace E := Lib.hid (ext_trans E.out B2)
        replace HA := Lib.hid (HA.out.ext B2)
        replace X := Lib.hid (X.out.ext B2)
        replace Z := Lib.hid (Z.out.ext B2)
        replace Y := Lib.hid (Y.out.ext B2)
        clear B2
        replace E := Lib.hid (ext_set E.out ⟨z1.heap.size, 7, none⟩ (.slice A2 m.length q2) (by first | exact Nat.le_refl _ | omega | (simp; done) | (simp; omega)))
        replace HA := Lib.hid (HA.out.far (p := ⟨z1.heap.size, 7, none⟩) (v := (.slice A2 m.length q2)) HRO.out)
        replace X := Lib.hid (X.out.other (p := ⟨z1.heap.size, 7, none⟩) (.slice A2 m.length q2) (by first | omega | (simp; done) | (simp; omega)))
        replace Z := Lib.hid (Z.out.other (p := ⟨z1.heap.size, 7, none⟩) (.slice A2 m.length q2) (by first | omega | (simp; done) | (simp; omega)))
        replace Y := Lib.hid (show Blk _ (z1.heap.size) [.slice a.s0.A a.s0.n a.s0.c, .slice a.s1.A a.s1.n a.s1.c, .slice a.s2.A a.s2.n a.s2.c, .slice a.s3.A a.s3.n a.s3.c, .slice a.s4.A a.s4.n a.s4.c, .slice a.aps.A a.aps.n a.aps.c, .slice a.cls.A a.cls.n a.cls.c, .slice A2 m.length q2] from Y.out.set (j := 7) (by simp) (.slice A2 m.length q2))
        replace NB := Lib.hid (NB.out.far (p := ⟨z1.heap.size, 7, none⟩) (v := (.slice A2 m.length q2)) (fun _ b o s e => by have := hob.out b o s e; show b ≠ z1.heap.size; omega))
        clear hob
        obtain ⟨x1, hNx1⟩ : ∃ W0, W0 = (w2.setCell ⟨z1.heap.size, 7, none⟩ (.slice A2 m.length q2)) := ⟨_, rfl⟩
        rw [← hNx1] at E HA X Z Y NB ⊢
        clear hNx1
        have HB := Lib.hid (show AOk x1 { a with rs := ⟨A2, q2, m⟩ } from ⟨HA.out.aps, HA.out.cls, NB.out, hq9, hm9⟩)
        go_wp2_with fail
        go_meet
        case rel => exact ⟨A2, q2, E, HA, X, Z, Y, HB⟩
    · go_simp
      refine hK.out _ _ ?_ (fun hHeld2 => ?_)
      · exact SS.out _ (ext_alloc hHeld.1 _)
      clear hHeld
      have hHeld := hHeld2
      clear hHeld2
      clear hK K
      try simp only [Act.put, List.setIfInBounds_toArray, List.set_cons_zero, List.set_cons_succ]
      refine rg_one (i := 0) (by kernel_rfl) (rg_step rfl (by rfl) (fun K hK => ?_))
      go_simp
      refine hK.out _ _ ?_ (fun hHeld2 => ?_)
      · exact SS.out _ (ext_alloc hHeld.1 _)
      clear hHeld
      have hHeld := hHeld2
      clear hHeld2
      clear hK K
      try simp only [Act.put, List.setIfInBounds_toArray, List.set_cons_zero, List.set_cons_succ]
      refine rg_one (i := 3) (by kernel_rfl) (rg_step rfl (by rfl) (fun K hK => ?_))
      refine rg_append (some 30) _ _ 29 29 rfl rfl rfl _ _ rfl rfl (Own.append_k (w0 := wq) I29 29 (Own.madeH (α := Ru) _ wq.heap.size 42 Ru.cells 8 (by simp) (wq.heap.size + 1) (by simp)).drew_ hHeld.1 (ys := a.rs.l) (m := a.rs.l.length) rfl a.rs.c (HA.out.rs.ext hHeld.1) a.rs.l rfl a.rs.l.length rfl (by omega) (by unfold maxLen; omega)) ?_
      rintro _ w1 ⟨A1, q1, rfl, hO1, B1, hg1, hq1, hm1⟩
      refine hK.out _ _ ?_ (fun hHeld2 => ?_)
      · exact SS.out _ B1
      clear hHeld
      have hHeld := hHeld2
      clear hHeld2
      clear hK K
      try simp only [Act.put, List.setIfInBounds_toArray, List.set_cons_zero, List.set_cons_succ]
      refine rg_one (i := 6) (by kernel_rfl) (rg_step rfl (by rfl) (fun K hK => ?_))
      refine rg_append (some 33) _ _ 29 29 rfl rfl rfl _ _ rfl rfl (Own.append_k (w0 := wq) I29 29 hO1 hHeld.1 (ys := [x]) (m := 1) rfl 1 (((slc_litH _ [x] #[.int .i64 x.k, .string x.sc, .string x.sa, .int .i64 x.cl, .int .i64 x.ap, .int .i64 x.n, .int .i64 x.f, .int .i64 x.t] 42 (enc := Ru.cells) (sz := 8) (fun _ => rfl) rfl wq.heap.size (by first | rfl | simp)).alloc _).drew_.grown hg1 (fun b o s e => by cases e; simp [Value.ownBlock])) m HM.out m.length rfl (by rw [← HM.out]; simp; omega) (by rw [← HM.out]; unfold maxLen; simp; omega)) ?_
      rintro _ w2 ⟨A2, q2, rfl, hO2, B2, hg2, hq2, hm2⟩
      refine hK.out _ _ ?_ (fun hHeld2 => ?_)
      · exact SS.out _ B2
      clear hHeld
      have hHeld := hHeld2
      clear hHeld2
      clear hK K
      try simp only [Act.put, List.setIfInBounds_toArray, List.set_cons_zero, List.set_cons_succ]
      refine rg_take (i := 7) (some 34) (v := ?_) rfl rfl (by kernel_rfl) (by rfl) hQ7 hHeld ?_ ?_
      rotate_left
      · intro w7 hSw; (try dsimp only at hSw); go_simp; all_goals with_reducible rfl
      try simp only [Act.put, List.setIfInBounds_toArray, List.set_cons_zero, List.set_cons_succ]
      have y9 := Y.out.ext hHeld.1
      have y7 := y9.c 7 _ rfl
      have yf := y9.f
      have yl := y9.lt
      clear y9
      refine rg_one (i := 8) (by kernel_rfl) (rg_late rfl (by rfl) (by kernel_rfl) (fun K hK => ?_))
      go_simp
      refine hK.out _ _ ?_
      clear hK K
      try simp only [Act.put, List.setIfInBounds_toArray, List.set_cons_zero, List.set_cons_succ]
      refine rg_end (by kernel_rfl) (hN7 _ _ ?_) _
      clear hQ7 hN7 Q7
      have BX := hHeld.1
      clear SS
      have hob := Lib.hid (show ∀ b o s, A2 = some ⟨b, o, s⟩ → wq.heap.size ≤ b from fun b o s e => by
        obtain ⟨A9, c9, h1, -, -, h2⟩ := hO2.form
        injection h1 with h1 _ _
        exact (h2 b o s (h1 ▸ e)).1)
      have NB := Lib.hid (show Slc w2 Ru.cells 8 A2 m from hO2.slc (fun _ => rfl) (by decide))
      have hq9 := hq2
      have hm9 := hm2
      clear hO1 hO2 hg1 hg2 hq1 hm1 hq2 hm2 BX B1 y7 yf yl
      replace E := Lib.hid (ext_trans E.out B2)
      replace HA := Lib.hid (HA.out.ext B2)
      replace X := Lib.hid (X.out.ext B2)
      replace Z := Lib.hid (Z.out.ext B2)
      replace Y := Lib.hid (Y.out.ext B2)
      clear B2
      replace E := Lib.hid (ext_set E.out ⟨z1.heap.size, 7, none⟩ (.slice A2 m.length q2) (by first | exact Nat.le_refl _ | omega | (simp; done) | (simp; omega)))
      replace HA := Lib.hid (HA.out.far (p := ⟨z1.heap.size, 7, none⟩) (v := (.slice A2 m.length q2)) HRO.out)
      replace X := Lib.hid (X.out.other (p := ⟨z1.heap.size, 7, none⟩) (.slice A2 m.length q2) (by first | omega | (simp; done) | (simp; omega)))
      replace Z := Lib.hid (Z.out.other (p := ⟨z1.heap.size, 7, none⟩) (.slice A2 m.length q2) (by first | omega | (simp; done) | (simp; omega)))
      replace Y := Lib.hid (show Blk _ (z1.heap.size) [.slice a.s0.A a.s0.n a.s0.c, .slice a.s1.A a.s1.n a.s1.c, .slice a.s2.A a.s2.n a.s2.c, .slice a.s3.A a.s3.n a.s3.c, .slice a.s4.A a.s4.n a.s4.c, .slice a.aps.A a.aps.n a.aps.c, .slice a.cls.A a.cls.n a.cls.c, .slice A2 m.length q2] from Y.out.set (j := 7) (by simp) (.slice A2 m.length q2))
      replace NB := Lib.hid (NB.out.far (p := ⟨z1.heap.size, 7, none⟩) (v := (.slice A2 m.length q2)) (fun _ b o s e => by have := hob.out b o s e; show b ≠ z1.heap.size; omega))
      clear hob
      obtain ⟨x1, hNx1⟩ : ∃ W0, W0 = (w2.setCell ⟨z1.heap.size, 7, none⟩ (.slice A2 m.length q2)) := ⟨_, rfl⟩
      rw [← hNx1] at E HA X Z Y NB ⊢
      clear hNx1
      have HB := Lib.hid (show AOk x1 { a with rs := ⟨A2, q2, m⟩ } from ⟨HA.out.aps, HA.out.cls, NB.out, hq9, hm9⟩)
      go_wp2_with fail
      go_meet
      case rel => exact ⟨A2, q2, E, HA, X, Z, Y, HB⟩
  case rest =>
    clear E HA X Z Y
    obtain ⟨A2, q2, E, HA, X, Z, Y, HB⟩ := hcut
    have c0 := X.out.c 0 _ rfl
    have c1 := X.out.c 1 _ rfl
    have c2 := X.out.c 2 _ rfl
    have c3 := X.out.c 3 _ rfl
    have c4 := X.out.c 4 _ rfl
    have c5 := X.out.c 5 _ rfl
    have c6 := X.out.c 6 _ rfl
    have c7 := X.out.c 7 _ rfl
    go_wp2_with fail
    refine (reason_at (a := a) R v HR.out HV.out HA.out).mono ?_
    rintro e z2 ⟨A4, q4, rfl, h2, B⟩
    clear c0 c1 c2 c3 c4 c5 c6 c7
    replace E := Lib.hid (ext_trans E.out B)
    replace HA := Lib.hid (HA.out.ext B)
    replace X := Lib.hid (X.out.ext B)
    replace Z := Lib.hid (Z.out.ext B)
    replace Y := Lib.hid (Y.out.ext B)
    replace HB := Lib.hid (HB.out.ext B)
    clear B
    have L := Lib.hid h2
    clear h2
    have c0 := Y.out.c 0 _ rfl
    have c1 := Y.out.c 1 _ rfl
    have c2 := Y.out.c 2 _ rfl
    have c3 := Y.out.c 3 _ rfl
    have c4 := Y.out.c 4 _ rfl
    have c5 := Y.out.c 5 _ rfl
    have c6 := Y.out.c 6 _ rfl
    have c7 := Y.out.c 7 _ rfl
    go_wp2_with fail
    refine (reason_at (a := { a with rs := ⟨A2, q2, m⟩ }) M v2 HMM.out HV2.out HB.out).mono ?_
    rintro e z3 ⟨A5, q5, rfl, h2, B⟩
    clear c0 c1 c2 c3 c4 c5 c6 c7
    replace E := Lib.hid (ext_trans E.out B)
    replace HA := Lib.hid (HA.out.ext B)
    replace X := Lib.hid (X.out.ext B)
    replace Z := Lib.hid (Z.out.ext B)
    replace Y := Lib.hid (Y.out.ext B)
    replace HB := Lib.hid (HB.out.ext B)
    replace L := Lib.hid (L.out.ext B)
    clear B
    have N := Lib.hid h2
    clear h2
    by_cases h0 : v = 0
    rotate_left
    · have f2 := HVV.out h0
      obtain rfl := HRN.out h0
      obtain rfl := HMN.out f2
      have e1 : (v != 0) = true := by simp [h0]
      have e2 : (v == 0) = false := by simp [h0]
      have e3 : (v2 != 0) = true := by simp [f2]
      have e4 : (v2 == 0) = false := by simp [f2]
      clear h0 f2 HMo HW HVV HRN HMN
      go_wp2_with fail
      go_ret
      exact ⟨ret_bool (by first | rfl | simp), E.out⟩
    subst h0
    by_cases h0 : v2 = 0
    rotate_left
    · obtain rfl := HMN.out h0
      have e3 : (v2 != 0) = true := by simp [h0]
      have e4 : (v2 == 0) = false := by simp [h0]
      clear h0 HMo HW HVV HRN HMN
      go_wp2_with fail
      go_ret
      exact ⟨ret_bool (by first | rfl | simp), E.out⟩
    subst h0
    have HW2 := Lib.hid (HW.out rfl)
    have HMo2 := Lib.hid (HMo.out rfl)
    clear HMo HW HVV HRN HMN
    have hRl := HRl.out
    have hMl := HMl.out
    go_wp2_with fail
    obtain ⟨rn, hrn⟩ : ∃ n, R.length = n := ⟨_, rfl⟩
    obtain ⟨mq, hmq⟩ : ∃ n, M.length = n := ⟨_, rfl⟩
    have HRn := Lib.hid hrn
    have HMq := Lib.hid hmq
    rw [hrn] at hRl ⊢
    rw [hmq] at hMl ⊢
    clear hrn hmq
    go_cut [119] from 300 (fun s119 wc => s119 = .bool false ∧ Hid (Below w.heap.size w wc) ∧ Hid (AOk wc a) ∧ Hid (Blk wc (w.heap.size) [.slice a.s0.A a.s0.n a.s0.c, .slice a.s1.A a.s1.n a.s1.c, .slice a.s2.A a.s2.n a.s2.c, .slice a.s3.A a.s3.n a.s3.c, .slice a.s4.A a.s4.n a.s4.c, .slice a.aps.A a.aps.n a.aps.c, .slice a.cls.A a.cls.n a.cls.c, .slice a.rs.A a.rs.l.length a.rs.c]) ∧ Hid (Blk wc (w.heap.size + 1) [.int .i64 x.k, .string x.sc, .string x.sa, .int .i64 x.cl, .int .i64 x.ap, .int .i64 x.n, .int .i64 x.f, .int .i64 x.t]) ∧ Hid (Blk wc (z1.heap.size) [.slice a.s0.A a.s0.n a.s0.c, .slice a.s1.A a.s1.n a.s1.c, .slice a.s2.A a.s2.n a.s2.c, .slice a.s3.A a.s3.n a.s3.c, .slice a.s4.A a.s4.n a.s4.c, .slice a.aps.A a.aps.n a.aps.c, .slice a.cls.A a.cls.n a.cls.c, .slice A2 m.length q2]) ∧ Hid (AOk wc { a with rs := ⟨A2, q2, m⟩ }))
    case first =>
      by_cases hr0 : R = []
      · obtain rfl : rn = 0 := by rw [← HRn.out, hr0]; rfl
        clear hr0 HMo2
        have SS := Lib.hid (show ∀ w', Below z3.heap.size z3 w' → (fun w' => Below z3.heap.size z3 w' ∧ w'.cell? ⟨w.heap.size, 7, none⟩ = some (.slice a.rs.A a.rs.l.length a.rs.c)) w' from fun w' h => ⟨h, (X.out.ext h).c 7 _ rfl⟩)
        refine rg_begin (S := (fun w' => Below z3.heap.size z3 w' ∧ w'.cell? ⟨w.heap.size, 7, none⟩ = some (.slice a.rs.A a.rs.l.length a.rs.c))) 45 (by kernel_rfl) (by intro d; cases d <;> intro _ _ _ _ h <;> exact h) ?_ (fun Q7 hQ7 hN7 hHeld => ?_)
        · exact SS.out _ (ext_drew (ext_refl _))
        refine rg_take (i := 0) (some 75) (v := ?_) rfl rfl (by kernel_rfl) (by rfl) hQ7 hHeld ?_ ?_
        rotate_left
        · intro w7 hSw; (try dsimp only at hSw); go_simp; all_goals with_reducible rfl
        try simp only [Act.put, List.setIfInBounds_toArray, List.set_cons_zero, List.set_cons_succ]
        refine rg_take (i := 1) (some 76) (v := ?_) rfl rfl (by kernel_rfl) (by rfl) hQ7 hHeld ?_ ?_
        rotate_left
        · intro w7 hSw; (try dsimp only at hSw); go_simp; all_goals with_reducible rfl
        try simp only [Act.put, List.setIfInBounds_toArray, List.set_cons_zero, List.set_cons_succ]
        refine rg_take (i := 2) (some 77) (v := ?_) rfl rfl (by kernel_rfl) (by rfl) hQ7 hHeld ?_ ?_
        rotate_left
        · intro w7 hSw; (try dsimp only at hSw); go_simp; all_goals with_reducible rfl
        try simp only [Act.put, List.setIfInBounds_toArray, List.set_cons_zero, List.set_cons_succ]
        refine rg_take (i := 3) (some 78) (v := ?_) rfl rfl (by kernel_rfl) (by rfl) hQ7 hHeld ?_ ?_
        rotate_left
        · intro w7 hSw; (try dsimp only at hSw); go_simp; all_goals with_reducible rfl
        try simp only [Act.put, List.setIfInBounds_toArray, List.set_cons_zero, List.set_cons_succ]
        refine rg_skip (i := 4) (some 79) rfl rfl (by kernel_rfl) (by rfl) hQ7 hHeld ?_
        try simp only [Act.put, List.setIfInBounds_toArray, List.set_cons_zero, List.set_cons_succ]
        refine rg_skip (i := 5) (some 80) rfl rfl (by kernel_rfl) (by rfl) hQ7 hHeld ?_
        try simp only [Act.put, List.setIfInBounds_toArray, List.set_cons_zero, List.set_cons_succ]
        refine rg_skip (i := 6) (some 81) rfl rfl (by kernel_rfl) (by rfl) hQ7 hHeld ?_
        try simp only [Act.put, List.setIfInBounds_toArray, List.set_cons_zero, List.set_cons_succ]
        refine rg_skip (i := 7) (some 82) rfl rfl (by kernel_rfl) (by rfl) hQ7 hHeld ?_
        try simp only [Act.put, List.setIfInBounds_toArray, List.set_cons_zero, List.set_cons_succ]
        refine rg_skip (i := 8) (some 83) rfl rfl (by kernel_rfl) (by rfl) hQ7 hHeld ?_
        try simp only [Act.put, List.setIfInBounds_toArray, List.set_cons_zero, List.set_cons_succ]
        refine rg_skip (i := 9) (some 84) rfl rfl (by kernel_rfl) (by rfl) hQ7 hHeld ?_
        try simp only [Act.put, List.setIfInBounds_toArray, List.set_cons_zero, List.set_cons_succ]
        refine rg_skip (i := 10) (some 85) rfl rfl (by kernel_rfl) (by rfl) hQ7 hHeld ?_
        try simp only [Act.put, List.setIfInBounds_toArray, List.set_cons_zero, List.set_cons_succ]
        refine rg_skip (i := 11) (some 86) rfl rfl (by kernel_rfl) (by rfl) hQ7 hHeld ?_
        try simp only [Act.put, List.setIfInBounds_toArray, List.set_cons_zero, List.set_cons_succ]
        refine rg_skip (i := 12) (some 87) rfl rfl (by kernel_rfl) (by rfl) hQ7 hHeld ?_
        try simp only [Act.put, List.setIfInBounds_toArray, List.set_cons_zero, List.set_cons_succ]
        refine rg_skip (i := 13) (some 88) rfl rfl (by kernel_rfl) (by rfl) hQ7 hHeld ?_
        try simp only [Act.put, List.setIfInBounds_toArray, List.set_cons_zero, List.set_cons_succ]
        refine rg_take (i := 14) (some 89) (v := ?_) rfl rfl (by kernel_rfl) (by rfl) hQ7 hHeld ?_ ?_
        rotate_left
        · intro w7 hSw; (try dsimp only at hSw); go_simp; all_goals with_reducible rfl
        try simp only [Act.put, List.setIfInBounds_toArray, List.set_cons_zero, List.set_cons_succ]
        refine rg_take (i := 15) (some 90) (v := ?_) rfl rfl (by kernel_rfl) (by rfl) hQ7 hHeld ?_ ?_
        rotate_left
        · intro w7 hSw; (try dsimp only at hSw); go_simp; all_goals with_reducible rfl
        try simp only [Act.put, List.setIfInBounds_toArray, List.set_cons_zero, List.set_cons_succ]
        refine rg_take (i := 16) (some 91) (v := ?_) rfl rfl (by kernel_rfl) (by rfl) hQ7 hHeld ?_ ?_
        rotate_left
        · intro w7 hSw; (try dsimp only at hSw); go_simp; all_goals with_reducible rfl
        try simp only [Act.put, List.setIfInBounds_toArray, List.set_cons_zero, List.set_cons_succ]
        refine rg_take (i := 17) (some 92) (v := ?_) rfl rfl (by kernel_rfl) (by rfl) hQ7 hHeld ?_ ?_
        rotate_left
        · intro w7 hSw; (try dsimp only at hSw); go_simp; all_goals with_reducible rfl
        try simp only [Act.put, List.setIfInBounds_toArray, List.set_cons_zero, List.set_cons_succ]
        refine rg_take (i := 18) (some 93) (v := ?_) rfl rfl (by kernel_rfl) (by rfl) hQ7 hHeld ?_ ?_
        rotate_left
        · intro w7 hSw; (try dsimp only at hSw); go_simp; all_goals with_reducible rfl
        try simp only [Act.put, List.setIfInBounds_toArray, List.set_cons_zero, List.set_cons_succ]
        refine rg_take (i := 19) (some 94) (v := ?_) rfl rfl (by kernel_rfl) (by rfl) hQ7 hHeld ?_ ?_
        rotate_left
        · intro w7 hSw; (try dsimp only at hSw); go_simp; all_goals with_reducible rfl
        try simp only [Act.put, List.setIfInBounds_toArray, List.set_cons_zero, List.set_cons_succ]
        refine rg_skip (i := 20) (some 95) rfl rfl (by kernel_rfl) (by rfl) hQ7 hHeld ?_
        try simp only [Act.put, List.setIfInBounds_toArray, List.set_cons_zero, List.set_cons_succ]
        refine rg_skip (i := 21) (some 96) rfl rfl (by kernel_rfl) (by rfl) hQ7 hHeld ?_
        try simp only [Act.put, List.setIfInBounds_toArray, List.set_cons_zero, List.set_cons_succ]
        refine rg_skip (i := 22) (some 97) rfl rfl (by kernel_rfl) (by rfl) hQ7 hHeld ?_
        try simp only [Act.put, List.setIfInBounds_toArray, List.set_cons_zero, List.set_cons_succ]
        refine rg_skip (i := 23) (some 98) rfl rfl (by kernel_rfl) (by rfl) hQ7 hHeld ?_
        try simp only [Act.put, List.setIfInBounds_toArray, List.set_cons_zero, List.set_cons_succ]
        refine rg_skip (i := 24) (some 99) rfl rfl (by kernel_rfl) (by rfl) hQ7 hHeld ?_
        try simp only [Act.put, List.setIfInBounds_toArray, List.set_cons_zero, List.set_cons_succ]
        refine rg_take (i := 25) (some 100) (v := ?_) rfl rfl (by kernel_rfl) (by rfl) hQ7 hHeld ?_ ?_
        rotate_left
        · intro w7 hSw; (try dsimp only at hSw); go_simp; all_goals with_reducible rfl
        try simp only [Act.put, List.setIfInBounds_toArray, List.set_cons_zero, List.set_cons_succ]
        refine rg_take (i := 26) (some 101) (v := ?_) rfl rfl (by kernel_rfl) (by rfl) hQ7 hHeld ?_ ?_
        rotate_left
        · intro w7 hSw; (try dsimp only at hSw); go_simp; all_goals with_reducible rfl
        try simp only [Act.put, List.setIfInBounds_toArray, List.set_cons_zero, List.set_cons_succ]
        refine rg_skip (i := 27) (some 102) rfl rfl (by kernel_rfl) (by rfl) hQ7 hHeld ?_
        try simp only [Act.put, List.setIfInBounds_toArray, List.set_cons_zero, List.set_cons_succ]
        refine rg_skip (i := 28) (some 103) rfl rfl (by kernel_rfl) (by rfl) hQ7 hHeld ?_
        try simp only [Act.put, List.setIfInBounds_toArray, List.set_cons_zero, List.set_cons_succ]
        refine rg_skip (i := 29) (some 104) rfl rfl (by kernel_rfl) (by rfl) hQ7 hHeld ?_
        try simp only [Act.put, List.setIfInBounds_toArray, List.set_cons_zero, List.set_cons_succ]
        refine rg_skip (i := 30) (some 105) rfl rfl (by kernel_rfl) (by rfl) hQ7 hHeld ?_
        try simp only [Act.put, List.setIfInBounds_toArray, List.set_cons_zero, List.set_cons_succ]
        refine rg_take (i := 31) (some 106) (v := ?_) rfl rfl (by kernel_rfl) (by rfl) hQ7 hHeld ?_ ?_
        rotate_left
        · intro w7 hSw; (try dsimp only at hSw); go_simp; all_goals with_reducible rfl
        try simp only [Act.put, List.setIfInBounds_toArray, List.set_cons_zero, List.set_cons_succ]
        refine rg_take (i := 32) (some 107) (v := ?_) rfl rfl (by kernel_rfl) (by rfl) hQ7 hHeld ?_ ?_
        rotate_left
        · intro w7 hSw; (try dsimp only at hSw); go_simp; all_goals with_reducible rfl
        try simp only [Act.put, List.setIfInBounds_toArray, List.set_cons_zero, List.set_cons_succ]
        refine rg_skip (i := 33) (some 108) rfl rfl (by kernel_rfl) (by rfl) hQ7 hHeld ?_
        try simp only [Act.put, List.setIfInBounds_toArray, List.set_cons_zero, List.set_cons_succ]
        refine rg_skip (i := 34) (some 109) rfl rfl (by kernel_rfl) (by rfl) hQ7 hHeld ?_
        try simp only [Act.put, List.setIfInBounds_toArray, List.set_cons_zero, List.set_cons_succ]
        refine rg_skip (i := 35) (some 110) rfl rfl (by kernel_rfl) (by rfl) hQ7 hHeld ?_
        try simp only [Act.put, List.setIfInBounds_toArray, List.set_cons_zero, List.set_cons_succ]
        refine rg_skip (i := 36) (some 111) rfl rfl (by kernel_rfl) (by rfl) hQ7 hHeld ?_
        try simp only [Act.put, List.setIfInBounds_toArray, List.set_cons_zero, List.set_cons_succ]
        refine rg_skip (i := 37) (some 112) rfl rfl (by kernel_rfl) (by rfl) hQ7 hHeld ?_
        try simp only [Act.put, List.setIfInBounds_toArray, List.set_cons_zero, List.set_cons_succ]
        refine rg_skip (i := 38) (some 113) rfl rfl (by kernel_rfl) (by rfl) hQ7 hHeld ?_
        try simp only [Act.put, List.setIfInBounds_toArray, List.set_cons_zero, List.set_cons_succ]
        refine rg_skip (i := 39) (some 114) rfl rfl (by kernel_rfl) (by rfl) hQ7 hHeld ?_
        try simp only [Act.put, List.setIfInBounds_toArray, List.set_cons_zero, List.set_cons_succ]
        refine rg_skip (i := 40) (some 115) rfl rfl (by kernel_rfl) (by rfl) hQ7 hHeld ?_
        try simp only [Act.put, List.setIfInBounds_toArray, List.set_cons_zero, List.set_cons_succ]
        refine rg_skip (i := 41) (some 116) rfl rfl (by kernel_rfl) (by rfl) hQ7 hHeld ?_
        try simp only [Act.put, List.setIfInBounds_toArray, List.set_cons_zero, List.set_cons_succ]
        refine rg_skip (i := 42) (some 117) rfl rfl (by kernel_rfl) (by rfl) hQ7 hHeld ?_
        try simp only [Act.put, List.setIfInBounds_toArray, List.set_cons_zero, List.set_cons_succ]
        refine rg_take (i := 43) (some 118) (v := ?_) rfl rfl (by kernel_rfl) (by rfl) hQ7 hHeld ?_ ?_
        rotate_left
        · intro w7 hSw; (try dsimp only at hSw); go_simp; all_goals with_reducible rfl
        try simp only [Act.put, List.setIfInBounds_toArray, List.set_cons_zero, List.set_cons_succ]
        refine rg_take (i := 44) (some 119) (v := ?_) rfl rfl (by kernel_rfl) (by rfl) hQ7 hHeld ?_ ?_
        rotate_left
        · intro w7 hSw; (try dsimp only at hSw); go_simp; all_goals with_reducible rfl
        try simp only [Act.put, List.setIfInBounds_toArray, List.set_cons_zero, List.set_cons_succ]
        refine rg_end (by kernel_rfl) (hN7 _ _ ?_) _
        clear hQ7 hN7 Q7
        have BX := hHeld.1
        clear SS
        obtain ⟨x5, hx5⟩ : ∃ W0, W0 = z3.drew := ⟨_, rfl⟩
        rw [← hx5] at BX ⊢
        clear hx5
        replace E := Lib.hid (ext_trans E.out BX)
        replace HA := Lib.hid (HA.out.ext BX)
        replace X := Lib.hid (X.out.ext BX)
        replace Z := Lib.hid (Z.out.ext BX)
        replace Y := Lib.hid (Y.out.ext BX)
        replace HB := Lib.hid (HB.out.ext BX)
        replace L := Lib.hid (L.out.ext BX)
        replace N := Lib.hid (N.out.ext BX)
        clear BX
        go_wp2_with fail
        go_meet
        case rel => exact ⟨rfl, E, HA, X, Z, Y, HB⟩
      obtain ⟨hm0, hle, hlast⟩ := HMo2.out hr0
      have hR0 : 0 < R.length := List.length_pos_iff.2 hr0
      have hM0 : 0 < M.length := List.length_pos_iff.2 hm0
      have HLast := Lib.hid hlast
      clear hr0 hm0 hlast HMo2
      rw [HRn.out] at hR0 hle
      rw [HMq.out] at hM0 hle
      obtain ⟨mn, rfl⟩ : ∃ n, mq = n + 1 := ⟨mq - 1, by omega⟩
      have HMn := Lib.hid HMq.out
      clear HMq hM0
      have i1 : (0 : Int) < rn := by omega
      have i2 : (((mn : Int) + 1) == 0) = false := by simp; omega
      have i3 : ¬ ((rn : Int) < (mn : Int) + 1) := by omega
      by_cases heq : mn + 1 = rn
      rotate_left
      · have i4 : (((mn : Int) + 1) == (rn : Int)) = false := by simp; omega
        clear heq
        have SS := Lib.hid (show ∀ w', Below z3.heap.size z3 w' → (fun w' => Below z3.heap.size z3 w' ∧ w'.cell? ⟨w.heap.size, 7, none⟩ = some (.slice a.rs.A a.rs.l.length a.rs.c)) w' from fun w' h => ⟨h, (X.out.ext h).c 7 _ rfl⟩)
        refine rg_begin (S := (fun w' => Below z3.heap.size z3 w' ∧ w'.cell? ⟨w.heap.size, 7, none⟩ = some (.slice a.rs.A a.rs.l.length a.rs.c))) 45 (by kernel_rfl) (by intro d; cases d <;> intro _ _ _ _ h <;> exact h) ?_ (fun Q7 hQ7 hN7 hHeld => ?_)
        · exact SS.out _ (ext_drew (ext_refl _))
        refine rg_take (i := 0) (some 75) (v := ?_) rfl rfl (by kernel_rfl) (by rfl) hQ7 hHeld ?_ ?_
        rotate_left
        · intro w7 hSw; (try dsimp only at hSw); go_simp; all_goals with_reducible rfl
        try simp only [Act.put, List.setIfInBounds_toArray, List.set_cons_zero, List.set_cons_succ]
        refine rg_take (i := 1) (some 76) (v := ?_) rfl rfl (by kernel_rfl) (by rfl) hQ7 hHeld ?_ ?_
        rotate_left
        · intro w7 hSw; (try dsimp only at hSw); go_simp; all_goals with_reducible rfl
        try simp only [Act.put, List.setIfInBounds_toArray, List.set_cons_zero, List.set_cons_succ]
        refine rg_take (i := 2) (some 77) (v := ?_) rfl rfl (by kernel_rfl) (by rfl) hQ7 hHeld ?_ ?_
        rotate_left
        · intro w7 hSw; (try dsimp only at hSw); go_simp; all_goals with_reducible rfl
        try simp only [Act.put, List.setIfInBounds_toArray, List.set_cons_zero, List.set_cons_succ]
        refine rg_take (i := 3) (some 78) (v := ?_) rfl rfl (by kernel_rfl) (by rfl) hQ7 hHeld ?_ ?_
        rotate_left
        · intro w7 hSw; (try dsimp only at hSw); go_simp; all_goals with_reducible rfl
        try simp only [Act.put, List.setIfInBounds_toArray, List.set_cons_zero, List.set_cons_succ]
        refine rg_take (i := 4) (some 79) (v := ?_) rfl rfl (by kernel_rfl) (by rfl) hQ7 hHeld ?_ ?_
        rotate_left
        · intro w7 hSw; (try dsimp only at hSw); go_simp; all_goals with_reducible rfl
        try simp only [Act.put, List.setIfInBounds_toArray, List.set_cons_zero, List.set_cons_succ]
        refine rg_take (i := 5) (some 80) (v := ?_) rfl rfl (by kernel_rfl) (by rfl) hQ7 hHeld ?_ ?_
        rotate_left
        · intro w7 hSw; (try dsimp only at hSw); go_simp; all_goals with_reducible rfl
        try simp only [Act.put, List.setIfInBounds_toArray, List.set_cons_zero, List.set_cons_succ]
        refine rg_take (i := 6) (some 81) (v := ?_) rfl rfl (by kernel_rfl) (by rfl) hQ7 hHeld ?_ ?_
        rotate_left
        · intro w7 hSw; (try dsimp only at hSw); go_simp; all_goals with_reducible rfl
        try simp only [Act.put, List.setIfInBounds_toArray, List.set_cons_zero, List.set_cons_succ]
        refine rg_take (i := 7) (some 82) (v := ?_) rfl rfl (by kernel_rfl) (by rfl) hQ7 hHeld ?_ ?_
        rotate_left
        · intro w7 hSw; (try dsimp only at hSw); go_simp; all_goals with_reducible rfl
        try simp only [Act.put, List.setIfInBounds_toArray, List.set_cons_zero, List.set_cons_succ]
        refine rg_take (i := 8) (some 83) (v := ?_) rfl rfl (by kernel_rfl) (by rfl) hQ7 hHeld ?_ ?_
        rotate_left
        · intro w7 hSw; (try dsimp only at hSw); go_simp; all_goals with_reducible rfl
        try simp only [Act.put, List.setIfInBounds_toArray, List.set_cons_zero, List.set_cons_succ]
        refine rg_take (i := 9) (some 84) (v := ?_) rfl rfl (by kernel_rfl) (by rfl) hQ7 hHeld ?_ ?_
        rotate_left
        · intro w7 hSw; (try dsimp only at hSw); go_simp; all_goals with_reducible rfl
        try simp only [Act.put, List.setIfInBounds_toArray, List.set_cons_zero, List.set_cons_succ]
        refine rg_take (i := 10) (some 85) (v := ?_) rfl rfl (by kernel_rfl) (by rfl) hQ7 hHeld ?_ ?_
        rotate_left
        · intro w7 hSw; (try dsimp only at hSw); go_simp; all_goals with_reducible rfl
        try simp only [Act.put, List.setIfInBounds_toArray, List.set_cons_zero, List.set_cons_succ]
        refine rg_take (i := 11) (some 86) (v := ?_) rfl rfl (by kernel_rfl) (by rfl) hQ7 hHeld ?_ ?_
        rotate_left
        · intro w7 hSw; (try dsimp only at hSw); go_simp; all_goals with_reducible rfl
        try simp only [Act.put, List.setIfInBounds_toArray, List.set_cons_zero, List.set_cons_succ]
        refine rg_take (i := 12) (some 87) (v := ?_) rfl rfl (by kernel_rfl) (by rfl) hQ7 hHeld ?_ ?_
        rotate_left
        · intro w7 hSw; (try dsimp only at hSw); go_simp; all_goals with_reducible rfl
        try simp only [Act.put, List.setIfInBounds_toArray, List.set_cons_zero, List.set_cons_succ]
        refine rg_take (i := 13) (some 88) (v := ?_) rfl rfl (by kernel_rfl) (by rfl) hQ7 hHeld ?_ ?_
        rotate_left
        · intro w7 hSw; (try dsimp only at hSw); go_simp; all_goals with_reducible rfl
        try simp only [Act.put, List.setIfInBounds_toArray, List.set_cons_zero, List.set_cons_succ]
        refine rg_take (i := 14) (some 89) (v := ?_) rfl rfl (by kernel_rfl) (by rfl) hQ7 hHeld ?_ ?_
        rotate_left
        · intro w7 hSw; (try dsimp only at hSw); go_simp; all_goals with_reducible rfl
        try simp only [Act.put, List.setIfInBounds_toArray, List.set_cons_zero, List.set_cons_succ]
        refine rg_take (i := 15) (some 90) (v := ?_) rfl rfl (by kernel_rfl) (by rfl) hQ7 hHeld ?_ ?_
        rotate_left
        · intro w7 hSw; (try dsimp only at hSw); go_simp; all_goals with_reducible rfl
        try simp only [Act.put, List.setIfInBounds_toArray, List.set_cons_zero, List.set_cons_succ]
        refine rg_take (i := 16) (some 91) (v := ?_) rfl rfl (by kernel_rfl) (by rfl) hQ7 hHeld ?_ ?_
        rotate_left
        · intro w7 hSw; (try dsimp only at hSw); go_simp; all_goals with_reducible rfl
        try simp only [Act.put, List.setIfInBounds_toArray, List.set_cons_zero, List.set_cons_succ]
        refine rg_take (i := 17) (some 92) (v := ?_) rfl rfl (by kernel_rfl) (by rfl) hQ7 hHeld ?_ ?_
        rotate_left
        · intro w7 hSw; (try dsimp only at hSw); go_simp; all_goals with_reducible rfl
        try simp only [Act.put, List.setIfInBounds_toArray, List.set_cons_zero, List.set_cons_succ]
        refine rg_take (i := 18) (some 93) (v := ?_) rfl rfl (by kernel_rfl) (by rfl) hQ7 hHeld ?_ ?_
        rotate_left
        · intro w7 hSw; (try dsimp only at hSw); go_simp; all_goals with_reducible rfl
        try simp only [Act.put, List.setIfInBounds_toArray, List.set_cons_zero, List.set_cons_succ]
        refine rg_take (i := 19) (some 94) (v := ?_) rfl rfl (by kernel_rfl) (by rfl) hQ7 hHeld ?_ ?_
        rotate_left
        · intro w7 hSw; (try dsimp only at hSw); go_simp; all_goals with_reducible rfl
        try simp only [Act.put, List.setIfInBounds_toArray, List.set_cons_zero, List.set_cons_succ]
        refine rg_take (i := 20) (some 95) (v := ?_) rfl rfl (by kernel_rfl) (by rfl) hQ7 hHeld ?_ ?_
        rotate_left
        · intro w7 hSw; (try dsimp only at hSw); go_simp; all_goals with_reducible rfl
        try simp only [Act.put, List.setIfInBounds_toArray, List.set_cons_zero, List.set_cons_succ]
        refine rg_take (i := 21) (some 96) (v := ?_) rfl rfl (by kernel_rfl) (by rfl) hQ7 hHeld ?_ ?_
        rotate_left
        · intro w7 hSw; (try dsimp only at hSw); go_simp; all_goals with_reducible rfl
        try simp only [Act.put, List.setIfInBounds_toArray, List.set_cons_zero, List.set_cons_succ]
        refine rg_take (i := 22) (some 97) (v := ?_) rfl rfl (by kernel_rfl) (by rfl) hQ7 hHeld ?_ ?_
        rotate_left
        · intro w7 hSw; (try dsimp only at hSw); go_simp; all_goals with_reducible rfl
        try simp only [Act.put, List.setIfInBounds_toArray, List.set_cons_zero, List.set_cons_succ]
        refine rg_take (i := 23) (some 98) (v := ?_) rfl rfl (by kernel_rfl) (by rfl) hQ7 hHeld ?_ ?_
        rotate_left
        · intro w7 hSw; (try dsimp only at hSw); go_simp; all_goals with_reducible rfl
        try simp only [Act.put, List.setIfInBounds_toArray, List.set_cons_zero, List.set_cons_succ]
        refine rg_take (i := 24) (some 99) (v := ?_) rfl rfl (by kernel_rfl) (by rfl) hQ7 hHeld ?_ ?_
        rotate_left
        · intro w7 hSw; (try dsimp only at hSw); go_simp; all_goals with_reducible rfl
        try simp only [Act.put, List.setIfInBounds_toArray, List.set_cons_zero, List.set_cons_succ]
        refine rg_take (i := 25) (some 100) (v := ?_) rfl rfl (by kernel_rfl) (by rfl) hQ7 hHeld ?_ ?_
        rotate_left
        · intro w7 hSw; (try dsimp only at hSw); go_simp; all_goals with_reducible rfl
        try simp only [Act.put, List.setIfInBounds_toArray, List.set_cons_zero, List.set_cons_succ]
        refine rg_take (i := 26) (some 101) (v := ?_) rfl rfl (by kernel_rfl) (by rfl) hQ7 hHeld ?_ ?_
        rotate_left
        · intro w7 hSw; (try dsimp only at hSw); go_simp; all_goals with_reducible rfl
        try simp only [Act.put, List.setIfInBounds_toArray, List.set_cons_zero, List.set_cons_succ]
        refine rg_skip (i := 27) (some 102) rfl rfl (by kernel_rfl) (by rfl) hQ7 hHeld ?_
        try simp only [Act.put, List.setIfInBounds_toArray, List.set_cons_zero, List.set_cons_succ]
        refine rg_skip (i := 28) (some 103) rfl rfl (by kernel_rfl) (by rfl) hQ7 hHeld ?_
        try simp only [Act.put, List.setIfInBounds_toArray, List.set_cons_zero, List.set_cons_succ]
        refine rg_skip (i := 29) (some 104) rfl rfl (by kernel_rfl) (by rfl) hQ7 hHeld ?_
        try simp only [Act.put, List.setIfInBounds_toArray, List.set_cons_zero, List.set_cons_succ]
        refine rg_skip (i := 30) (some 105) rfl rfl (by kernel_rfl) (by rfl) hQ7 hHeld ?_
        try simp only [Act.put, List.setIfInBounds_toArray, List.set_cons_zero, List.set_cons_succ]
        refine rg_take (i := 31) (some 106) (v := ?_) rfl rfl (by kernel_rfl) (by rfl) hQ7 hHeld ?_ ?_
        rotate_left
        · intro w7 hSw; (try dsimp only at hSw); go_simp; all_goals with_reducible rfl
        try simp only [Act.put, List.setIfInBounds_toArray, List.set_cons_zero, List.set_cons_succ]
        refine rg_take (i := 32) (some 107) (v := ?_) rfl rfl (by kernel_rfl) (by rfl) hQ7 hHeld ?_ ?_
        rotate_left
        · intro w7 hSw; (try dsimp only at hSw); go_simp; all_goals with_reducible rfl
        try simp only [Act.put, List.setIfInBounds_toArray, List.set_cons_zero, List.set_cons_succ]
        refine rg_skip (i := 33) (some 108) rfl rfl (by kernel_rfl) (by rfl) hQ7 hHeld ?_
        try simp only [Act.put, List.setIfInBounds_toArray, List.set_cons_zero, List.set_cons_succ]
        refine rg_skip (i := 34) (some 109) rfl rfl (by kernel_rfl) (by rfl) hQ7 hHeld ?_
        try simp only [Act.put, List.setIfInBounds_toArray, List.set_cons_zero, List.set_cons_succ]
        refine rg_skip (i := 35) (some 110) rfl rfl (by kernel_rfl) (by rfl) hQ7 hHeld ?_
        try simp only [Act.put, List.setIfInBounds_toArray, List.set_cons_zero, List.set_cons_succ]
        refine rg_skip (i := 36) (some 111) rfl rfl (by kernel_rfl) (by rfl) hQ7 hHeld ?_
        try simp only [Act.put, List.setIfInBounds_toArray, List.set_cons_zero, List.set_cons_succ]
        refine rg_skip (i := 37) (some 112) rfl rfl (by kernel_rfl) (by rfl) hQ7 hHeld ?_
        try simp only [Act.put, List.setIfInBounds_toArray, List.set_cons_zero, List.set_cons_succ]
        refine rg_skip (i := 38) (some 113) rfl rfl (by kernel_rfl) (by rfl) hQ7 hHeld ?_
        try simp only [Act.put, List.setIfInBounds_toArray, List.set_cons_zero, List.set_cons_succ]
        refine rg_skip (i := 39) (some 114) rfl rfl (by kernel_rfl) (by rfl) hQ7 hHeld ?_
        try simp only [Act.put, List.setIfInBounds_toArray, List.set_cons_zero, List.set_cons_succ]
        refine rg_skip (i := 40) (some 115) rfl rfl (by kernel_rfl) (by rfl) hQ7 hHeld ?_
        try simp only [Act.put, List.setIfInBounds_toArray, List.set_cons_zero, List.set_cons_succ]
        refine rg_skip (i := 41) (some 116) rfl rfl (by kernel_rfl) (by rfl) hQ7 hHeld ?_
        try simp only [Act.put, List.setIfInBounds_toArray, List.set_cons_zero, List.set_cons_succ]
        refine rg_skip (i := 42) (some 117) rfl rfl (by kernel_rfl) (by rfl) hQ7 hHeld ?_
        try simp only [Act.put, List.setIfInBounds_toArray, List.set_cons_zero, List.set_cons_succ]
        refine rg_take (i := 43) (some 118) (v := ?_) rfl rfl (by kernel_rfl) (by rfl) hQ7 hHeld ?_ ?_
        rotate_left
        · intro w7 hSw; (try dsimp only at hSw); go_simp; all_goals with_reducible rfl
        try simp only [Act.put, List.setIfInBounds_toArray, List.set_cons_zero, List.set_cons_succ]
        refine rg_take (i := 44) (some 119) (v := ?_) rfl rfl (by kernel_rfl) (by rfl) hQ7 hHeld ?_ ?_
        rotate_left
        · intro w7 hSw; (try dsimp only at hSw); go_simp; all_goals with_reducible rfl
        try simp only [Act.put, List.setIfInBounds_toArray, List.set_cons_zero, List.set_cons_succ]
        refine rg_end (by kernel_rfl) (hN7 _ _ ?_) _
        clear hQ7 hN7 Q7
        have BX := hHeld.1
        clear SS
        obtain ⟨x5, hx5⟩ : ∃ W0, W0 = z3.drew := ⟨_, rfl⟩
        rw [← hx5] at BX ⊢
        clear hx5
        replace E := Lib.hid (ext_trans E.out BX)
        replace HA := Lib.hid (HA.out.ext BX)
        replace X := Lib.hid (X.out.ext BX)
        replace Z := Lib.hid (Z.out.ext BX)
        replace Y := Lib.hid (Y.out.ext BX)
        replace HB := Lib.hid (HB.out.ext BX)
        replace L := Lib.hid (L.out.ext BX)
        replace N := Lib.hid (N.out.ext BX)
        clear BX
        go_wp2_with fail
        go_meet
        case rel => exact ⟨rfl, E, HA, X, Z, Y, HB⟩
      subst heq
      clear i3 hle
      have i5 : (0 : Int) < (mn : Int) + 1 := by omega
      clear i1 hR0
      obtain ⟨q, hq⟩ : ∃ q, decide (R = M) = q := ⟨_, rfl⟩
      have HQ := Lib.hid hq
      clear hq
      cases q
      rotate_left
      · have SS := Lib.hid (show ∀ w', Below z3.heap.size z3 w' → (fun w' => Below z3.heap.size z3 w' ∧ w'.cell? ⟨w.heap.size, 7, none⟩ = some (.slice a.rs.A a.rs.l.length a.rs.c)) w' from fun w' h => ⟨h, (X.out.ext h).c 7 _ rfl⟩)
        refine rg_begin (S := (fun w' => Below z3.heap.size z3 w' ∧ w'.cell? ⟨w.heap.size, 7, none⟩ = some (.slice a.rs.A a.rs.l.length a.rs.c))) 45 (by kernel_rfl) (by intro d; cases d <;> intro _ _ _ _ h <;> exact h) ?_ (fun Q7 hQ7 hN7 hHeld => ?_)
        · exact SS.out _ (ext_drew (ext_refl _))
        refine rg_take (i := 0) (some 75) (v := ?_) rfl rfl (by kernel_rfl) (by rfl) hQ7 hHeld ?_ ?_
        rotate_left
        · intro w7 hSw; (try dsimp only at hSw); go_simp; all_goals with_reducible rfl
        try simp only [Act.put, List.setIfInBounds_toArray, List.set_cons_zero, List.set_cons_succ]
        refine rg_take (i := 1) (some 76) (v := ?_) rfl rfl (by kernel_rfl) (by rfl) hQ7 hHeld ?_ ?_
        rotate_left
        · intro w7 hSw; (try dsimp only at hSw); go_simp; all_goals with_reducible rfl
        try simp only [Act.put, List.setIfInBounds_toArray, List.set_cons_zero, List.set_cons_succ]
        refine rg_take (i := 2) (some 77) (v := ?_) rfl rfl (by kernel_rfl) (by rfl) hQ7 hHeld ?_ ?_
        rotate_left
        · intro w7 hSw; (try dsimp only at hSw); go_simp; all_goals with_reducible rfl
        try simp only [Act.put, List.setIfInBounds_toArray, List.set_cons_zero, List.set_cons_succ]
        refine rg_take (i := 3) (some 78) (v := ?_) rfl rfl (by kernel_rfl) (by rfl) hQ7 hHeld ?_ ?_
        rotate_left
        · intro w7 hSw; (try dsimp only at hSw); go_simp; all_goals with_reducible rfl
        try simp only [Act.put, List.setIfInBounds_toArray, List.set_cons_zero, List.set_cons_succ]
        refine rg_take (i := 4) (some 79) (v := ?_) rfl rfl (by kernel_rfl) (by rfl) hQ7 hHeld ?_ ?_
        rotate_left
        · intro w7 hSw; (try dsimp only at hSw); go_simp; all_goals with_reducible rfl
        try simp only [Act.put, List.setIfInBounds_toArray, List.set_cons_zero, List.set_cons_succ]
        refine rg_take (i := 5) (some 80) (v := ?_) rfl rfl (by kernel_rfl) (by rfl) hQ7 hHeld ?_ ?_
        rotate_left
        · intro w7 hSw; (try dsimp only at hSw); go_simp; all_goals with_reducible rfl
        try simp only [Act.put, List.setIfInBounds_toArray, List.set_cons_zero, List.set_cons_succ]
        refine rg_take (i := 6) (some 81) (v := ?_) rfl rfl (by kernel_rfl) (by rfl) hQ7 hHeld ?_ ?_
        rotate_left
        · intro w7 hSw; (try dsimp only at hSw); go_simp; all_goals with_reducible rfl
        try simp only [Act.put, List.setIfInBounds_toArray, List.set_cons_zero, List.set_cons_succ]
        refine rg_take (i := 7) (some 82) (v := ?_) rfl rfl (by kernel_rfl) (by rfl) hQ7 hHeld ?_ ?_
        rotate_left
        · intro w7 hSw; (try dsimp only at hSw); go_simp; all_goals with_reducible rfl
        try simp only [Act.put, List.setIfInBounds_toArray, List.set_cons_zero, List.set_cons_succ]
        refine rg_take (i := 8) (some 83) (v := ?_) rfl rfl (by kernel_rfl) (by rfl) hQ7 hHeld ?_ ?_
        rotate_left
        · intro w7 hSw; (try dsimp only at hSw); go_simp; all_goals with_reducible rfl
        try simp only [Act.put, List.setIfInBounds_toArray, List.set_cons_zero, List.set_cons_succ]
        refine rg_take (i := 9) (some 84) (v := ?_) rfl rfl (by kernel_rfl) (by rfl) hQ7 hHeld ?_ ?_
        rotate_left
        · intro w7 hSw; (try dsimp only at hSw); go_simp; all_goals with_reducible rfl
        try simp only [Act.put, List.setIfInBounds_toArray, List.set_cons_zero, List.set_cons_succ]
        refine rg_take (i := 10) (some 85) (v := ?_) rfl rfl (by kernel_rfl) (by rfl) hQ7 hHeld ?_ ?_
        rotate_left
        · intro w7 hSw; (try dsimp only at hSw); go_simp; all_goals with_reducible rfl
        try simp only [Act.put, List.setIfInBounds_toArray, List.set_cons_zero, List.set_cons_succ]
        refine rg_take (i := 11) (some 86) (v := ?_) rfl rfl (by kernel_rfl) (by rfl) hQ7 hHeld ?_ ?_
        rotate_left
        · intro w7 hSw; (try dsimp only at hSw); go_simp; all_goals with_reducible rfl
        try simp only [Act.put, List.setIfInBounds_toArray, List.set_cons_zero, List.set_cons_succ]
        refine rg_take (i := 12) (some 87) (v := ?_) rfl rfl (by kernel_rfl) (by rfl) hQ7 hHeld ?_ ?_
        rotate_left
        · intro w7 hSw; (try dsimp only at hSw); go_simp; all_goals with_reducible rfl
        try simp only [Act.put, List.setIfInBounds_toArray, List.set_cons_zero, List.set_cons_succ]
        refine rg_take (i := 13) (some 88) (v := ?_) rfl rfl (by kernel_rfl) (by rfl) hQ7 hHeld ?_ ?_
        rotate_left
        · intro w7 hSw; (try dsimp only at hSw); go_simp; all_goals with_reducible rfl
        try simp only [Act.put, List.setIfInBounds_toArray, List.set_cons_zero, List.set_cons_succ]
        refine rg_take (i := 14) (some 89) (v := ?_) rfl rfl (by kernel_rfl) (by rfl) hQ7 hHeld ?_ ?_
        rotate_left
        · intro w7 hSw; (try dsimp only at hSw); go_simp; all_goals with_reducible rfl
        try simp only [Act.put, List.setIfInBounds_toArray, List.set_cons_zero, List.set_cons_succ]
        refine rg_take (i := 15) (some 90) (v := ?_) rfl rfl (by kernel_rfl) (by rfl) hQ7 hHeld ?_ ?_
        rotate_left
        · intro w7 hSw; (try dsimp only at hSw); go_simp; all_goals with_reducible rfl
        try simp only [Act.put, List.setIfInBounds_toArray, List.set_cons_zero, List.set_cons_succ]
        refine rg_take (i := 16) (some 91) (v := ?_) rfl rfl (by kernel_rfl) (by rfl) hQ7 hHeld ?_ ?_
        rotate_left
        · intro w7 hSw; (try dsimp only at hSw); go_simp; all_goals with_reducible rfl
        try simp only [Act.put, List.setIfInBounds_toArray, List.set_cons_zero, List.set_cons_succ]
        refine rg_take (i := 17) (some 92) (v := ?_) rfl rfl (by kernel_rfl) (by rfl) hQ7 hHeld ?_ ?_
        rotate_left
        · intro w7 hSw; (try dsimp only at hSw); go_simp; all_goals with_reducible rfl
        try simp only [Act.put, List.setIfInBounds_toArray, List.set_cons_zero, List.set_cons_succ]
        refine rg_take (i := 18) (some 93) (v := ?_) rfl rfl (by kernel_rfl) (by rfl) hQ7 hHeld ?_ ?_
        rotate_left
        · intro w7 hSw; (try dsimp only at hSw); go_simp; all_goals with_reducible rfl
        try simp only [Act.put, List.setIfInBounds_toArray, List.set_cons_zero, List.set_cons_succ]
        refine rg_take (i := 19) (some 94) (v := ?_) rfl rfl (by kernel_rfl) (by rfl) hQ7 hHeld ?_ ?_
        rotate_left
        · intro w7 hSw; (try dsimp only at hSw); go_simp; all_goals with_reducible rfl
        try simp only [Act.put, List.setIfInBounds_toArray, List.set_cons_zero, List.set_cons_succ]
        refine rg_take (i := 20) (some 95) (v := ?_) rfl rfl (by kernel_rfl) (by rfl) hQ7 hHeld ?_ ?_
        rotate_left
        · intro w7 hSw; (try dsimp only at hSw); go_simp; all_goals with_reducible rfl
        try simp only [Act.put, List.setIfInBounds_toArray, List.set_cons_zero, List.set_cons_succ]
        refine rg_take (i := 21) (some 96) (v := ?_) rfl rfl (by kernel_rfl) (by rfl) hQ7 hHeld ?_ ?_
        rotate_left
        · intro w7 hSw; (try dsimp only at hSw); go_simp; all_goals with_reducible rfl
        try simp only [Act.put, List.setIfInBounds_toArray, List.set_cons_zero, List.set_cons_succ]
        refine rg_take (i := 22) (some 97) (v := ?_) rfl rfl (by kernel_rfl) (by rfl) hQ7 hHeld ?_ ?_
        rotate_left
        · intro w7 hSw; (try dsimp only at hSw); go_simp; all_goals with_reducible rfl
        try simp only [Act.put, List.setIfInBounds_toArray, List.set_cons_zero, List.set_cons_succ]
        refine rg_take (i := 23) (some 98) (v := ?_) rfl rfl (by kernel_rfl) (by rfl) hQ7 hHeld ?_ ?_
        rotate_left
        · intro w7 hSw; (try dsimp only at hSw); go_simp; all_goals with_reducible rfl
        try simp only [Act.put, List.setIfInBounds_toArray, List.set_cons_zero, List.set_cons_succ]
        refine rg_take (i := 24) (some 99) (v := ?_) rfl rfl (by kernel_rfl) (by rfl) hQ7 hHeld ?_ ?_
        rotate_left
        · intro w7 hSw; (try dsimp only at hSw); go_simp; all_goals with_reducible rfl
        try simp only [Act.put, List.setIfInBounds_toArray, List.set_cons_zero, List.set_cons_succ]
        refine rg_take (i := 25) (some 100) (v := ?_) rfl rfl (by kernel_rfl) (by rfl) hQ7 hHeld ?_ ?_
        rotate_left
        · intro w7 hSw; (try dsimp only at hSw); go_simp; all_goals with_reducible rfl
        try simp only [Act.put, List.setIfInBounds_toArray, List.set_cons_zero, List.set_cons_succ]
        refine rg_take (i := 26) (some 101) (v := ?_) rfl rfl (by kernel_rfl) (by rfl) hQ7 hHeld ?_ ?_
        rotate_left
        · intro w7 hSw; (try dsimp only at hSw); go_simp; all_goals with_reducible rfl
        try simp only [Act.put, List.setIfInBounds_toArray, List.set_cons_zero, List.set_cons_succ]
        refine rg_take (i := 27) (some 102) (v := ?_) rfl rfl (by kernel_rfl) (by rfl) hQ7 hHeld ?_ ?_
        rotate_left
        · intro w7 hSw; (try dsimp only at hSw); go_simp; all_goals with_reducible rfl
        try simp only [Act.put, List.setIfInBounds_toArray, List.set_cons_zero, List.set_cons_succ]
        refine rg_take (i := 28) (some 103) (v := ?_) rfl rfl (by kernel_rfl) (by rfl) hQ7 hHeld ?_ ?_
        rotate_left
        · intro w7 hSw; (try dsimp only at hSw); go_simp; all_goals with_reducible rfl
        try simp only [Act.put, List.setIfInBounds_toArray, List.set_cons_zero, List.set_cons_succ]
        refine rg_one (i := 29) (by kernel_rfl) (rg_step rfl (by rfl) (fun K hK => ?_))
        go_simp
        refine (sameN true HQ.out HRn.out.symm HMn.out.symm (L.out.ext hHeld.1) (N.out.ext hHeld.1) (by have := HRl.out; omega)).mono ?_
        rintro e u1 ⟨rfl, B⟩
        go_wp2_with fail
        refine hK.out _ _ ?_ (fun hHeld2 => ?_)
        · exact SS.out _ (ext_trans hHeld.1 B)
        clear hHeld
        have hHeld := hHeld2
        clear hHeld2
        clear hK K
        try simp only [Act.put, List.setIfInBounds_toArray, List.set_cons_zero, List.set_cons_succ]
        refine rg_take (i := 30) (some 105) (v := ?_) rfl rfl (by kernel_rfl) (by rfl) hQ7 hHeld ?_ ?_
        rotate_left
        · intro w7 hSw; (try dsimp only at hSw); go_simp; all_goals with_reducible rfl
        try simp only [Act.put, List.setIfInBounds_toArray, List.set_cons_zero, List.set_cons_succ]
        refine rg_take (i := 31) (some 106) (v := ?_) rfl rfl (by kernel_rfl) (by rfl) hQ7 hHeld ?_ ?_
        rotate_left
        · intro w7 hSw; (try dsimp only at hSw); go_simp; all_goals with_reducible rfl
        try simp only [Act.put, List.setIfInBounds_toArray, List.set_cons_zero, List.set_cons_succ]
        refine rg_take (i := 32) (some 107) (v := ?_) rfl rfl (by kernel_rfl) (by rfl) hQ7 hHeld ?_ ?_
        rotate_left
        · intro w7 hSw; (try dsimp only at hSw); go_simp; all_goals with_reducible rfl
        try simp only [Act.put, List.setIfInBounds_toArray, List.set_cons_zero, List.set_cons_succ]
        refine rg_skip (i := 33) (some 108) rfl rfl (by kernel_rfl) (by rfl) hQ7 hHeld ?_
        try simp only [Act.put, List.setIfInBounds_toArray, List.set_cons_zero, List.set_cons_succ]
        refine rg_skip (i := 34) (some 109) rfl rfl (by kernel_rfl) (by rfl) hQ7 hHeld ?_
        try simp only [Act.put, List.setIfInBounds_toArray, List.set_cons_zero, List.set_cons_succ]
        refine rg_skip (i := 35) (some 110) rfl rfl (by kernel_rfl) (by rfl) hQ7 hHeld ?_
        try simp only [Act.put, List.setIfInBounds_toArray, List.set_cons_zero, List.set_cons_succ]
        refine rg_skip (i := 36) (some 111) rfl rfl (by kernel_rfl) (by rfl) hQ7 hHeld ?_
        try simp only [Act.put, List.setIfInBounds_toArray, List.set_cons_zero, List.set_cons_succ]
        refine rg_skip (i := 37) (some 112) rfl rfl (by kernel_rfl) (by rfl) hQ7 hHeld ?_
        try simp only [Act.put, List.setIfInBounds_toArray, List.set_cons_zero, List.set_cons_succ]
        refine rg_skip (i := 38) (some 113) rfl rfl (by kernel_rfl) (by rfl) hQ7 hHeld ?_
        try simp only [Act.put, List.setIfInBounds_toArray, List.set_cons_zero, List.set_cons_succ]
        refine rg_skip (i := 39) (some 114) rfl rfl (by kernel_rfl) (by rfl) hQ7 hHeld ?_
        try simp only [Act.put, List.setIfInBounds_toArray, List.set_cons_zero, List.set_cons_succ]
        refine rg_skip (i := 40) (some 115) rfl rfl (by kernel_rfl) (by rfl) hQ7 hHeld ?_
        try simp only [Act.put, List.setIfInBounds_toArray, List.set_cons_zero, List.set_cons_succ]
        refine rg_skip (i := 41) (some 116) rfl rfl (by kernel_rfl) (by rfl) hQ7 hHeld ?_
        try simp only [Act.put, List.setIfInBounds_toArray, List.set_cons_zero, List.set_cons_succ]
        refine rg_skip (i := 42) (some 117) rfl rfl (by kernel_rfl) (by rfl) hQ7 hHeld ?_
        try simp only [Act.put, List.setIfInBounds_toArray, List.set_cons_zero, List.set_cons_succ]
        refine rg_take (i := 43) (some 118) (v := ?_) rfl rfl (by kernel_rfl) (by rfl) hQ7 hHeld ?_ ?_
        rotate_left
        · intro w7 hSw; (try dsimp only at hSw); go_simp; all_goals with_reducible rfl
        try simp only [Act.put, List.setIfInBounds_toArray, List.set_cons_zero, List.set_cons_succ]
        refine rg_take (i := 44) (some 119) (v := ?_) rfl rfl (by kernel_rfl) (by rfl) hQ7 hHeld ?_ ?_
        rotate_left
        · intro w7 hSw; (try dsimp only at hSw); go_simp; all_goals with_reducible rfl
        try simp only [Act.put, List.setIfInBounds_toArray, List.set_cons_zero, List.set_cons_succ]
        refine rg_end (by kernel_rfl) (hN7 _ _ ?_) _
        clear hQ7 hN7 Q7
        have BX := hHeld.1
        clear SS
        replace E := Lib.hid (ext_trans E.out BX)
        replace HA := Lib.hid (HA.out.ext BX)
        replace X := Lib.hid (X.out.ext BX)
        replace Z := Lib.hid (Z.out.ext BX)
        replace Y := Lib.hid (Y.out.ext BX)
        replace HB := Lib.hid (HB.out.ext BX)
        replace L := Lib.hid (L.out.ext BX)
        replace N := Lib.hid (N.out.ext BX)
        clear BX
        go_wp2_with fail
        go_meet
        case rel => exact ⟨rfl, E, HA, X, Z, Y, HB⟩
      have hne : R ≠ M := by have := HQ.out; simpa using this
      have hlast := HLast.out (by rw [HMn.out, HRn.out]) hne
      rw [HMn.out, Nat.add_sub_cancel] at hlast
      obtain ⟨b9, o9, hA9, hb9, hd9⟩ := N.out _ _ hlast
      have d9 : z3.cell? ⟨b9, o9 + mn, none⟩ = some (.int .i64 a.rs.l.length) := by have := hd9 0 _ rfl; simpa using this
      have D9 := Lib.hid d9
      clear hd9 hlast hne d9
      subst hA9
      have hw9 : IntKind.i64.wrap ((mn : Int) + 1 - 1) = (mn : Int) := by rw [IntWalk.i64_in _ (by omega)]; omega
      have hw7 : (mn : Int) < (mn : Int) + 1 := by omega
      have hw8 : IntKind.i64.wrap (mn : Int) = (mn : Int) := IntWalk.i64_in _ (by omega)
      have SS := Lib.hid (show ∀ w', Below z3.heap.size z3 w' → (fun w' => Below z3.heap.size z3 w' ∧ w'.cell? ⟨w.heap.size, 7, none⟩ = some (.slice a.rs.A a.rs.l.length a.rs.c) ∧ w'.cell? ⟨b9, o9 + mn, none⟩ = some (.int .i64 a.rs.l.length)) w' from fun w' h => ⟨h, (X.out.ext h).c 7 _ rfl, ((h : Below _ _ _).cell (p := ⟨b9, o9 + mn, none⟩) hb9).trans D9.out⟩)
      refine rg_begin (S := (fun w' => Below z3.heap.size z3 w' ∧ w'.cell? ⟨w.heap.size, 7, none⟩ = some (.slice a.rs.A a.rs.l.length a.rs.c) ∧ w'.cell? ⟨b9, o9 + mn, none⟩ = some (.int .i64 a.rs.l.length))) 45 (by kernel_rfl) (by intro d; cases d <;> intro _ _ _ _ h <;> exact h) ?_ (fun Q7 hQ7 hN7 hHeld => ?_)
      · exact SS.out _ (ext_drew (ext_refl _))
      refine rg_take (i := 0) (some 75) (v := ?_) rfl rfl (by kernel_rfl) (by rfl) hQ7 hHeld ?_ ?_
      rotate_left
      · intro w7 hSw; (try dsimp only at hSw); go_simp; all_goals with_reducible rfl
      try simp only [Act.put, List.setIfInBounds_toArray, List.set_cons_zero, List.set_cons_succ]
      refine rg_take (i := 1) (some 76) (v := ?_) rfl rfl (by kernel_rfl) (by rfl) hQ7 hHeld ?_ ?_
      rotate_left
      · intro w7 hSw; (try dsimp only at hSw); go_simp; all_goals with_reducible rfl
      try simp only [Act.put, List.setIfInBounds_toArray, List.set_cons_zero, List.set_cons_succ]
      refine rg_take (i := 2) (some 77) (v := ?_) rfl rfl (by kernel_rfl) (by rfl) hQ7 hHeld ?_ ?_
      rotate_left
      · intro w7 hSw; (try dsimp only at hSw); go_simp; all_goals with_reducible rfl
      try simp only [Act.put, List.setIfInBounds_toArray, List.set_cons_zero, List.set_cons_succ]
      refine rg_take (i := 3) (some 78) (v := ?_) rfl rfl (by kernel_rfl) (by rfl) hQ7 hHeld ?_ ?_
      rotate_left
      · intro w7 hSw; (try dsimp only at hSw); go_simp; all_goals with_reducible rfl
      try simp only [Act.put, List.setIfInBounds_toArray, List.set_cons_zero, List.set_cons_succ]
      refine rg_take (i := 4) (some 79) (v := ?_) rfl rfl (by kernel_rfl) (by rfl) hQ7 hHeld ?_ ?_
      rotate_left
      · intro w7 hSw; (try dsimp only at hSw); go_simp; all_goals with_reducible rfl
      try simp only [Act.put, List.setIfInBounds_toArray, List.set_cons_zero, List.set_cons_succ]
      refine rg_take (i := 5) (some 80) (v := ?_) rfl rfl (by kernel_rfl) (by rfl) hQ7 hHeld ?_ ?_
      rotate_left
      · intro w7 hSw; (try dsimp only at hSw); go_simp; all_goals with_reducible rfl
      try simp only [Act.put, List.setIfInBounds_toArray, List.set_cons_zero, List.set_cons_succ]
      refine rg_take (i := 6) (some 81) (v := ?_) rfl rfl (by kernel_rfl) (by rfl) hQ7 hHeld ?_ ?_
      rotate_left
      · intro w7 hSw; (try dsimp only at hSw); go_simp; all_goals with_reducible rfl
      try simp only [Act.put, List.setIfInBounds_toArray, List.set_cons_zero, List.set_cons_succ]
      refine rg_take (i := 7) (some 82) (v := ?_) rfl rfl (by kernel_rfl) (by rfl) hQ7 hHeld ?_ ?_
      rotate_left
      · intro w7 hSw; (try dsimp only at hSw); go_simp; all_goals with_reducible rfl
      try simp only [Act.put, List.setIfInBounds_toArray, List.set_cons_zero, List.set_cons_succ]
      refine rg_take (i := 8) (some 83) (v := ?_) rfl rfl (by kernel_rfl) (by rfl) hQ7 hHeld ?_ ?_
      rotate_left
      · intro w7 hSw; (try dsimp only at hSw); go_simp; all_goals with_reducible rfl
      try simp only [Act.put, List.setIfInBounds_toArray, List.set_cons_zero, List.set_cons_succ]
      refine rg_take (i := 9) (some 84) (v := ?_) rfl rfl (by kernel_rfl) (by rfl) hQ7 hHeld ?_ ?_
      rotate_left
      · intro w7 hSw; (try dsimp only at hSw); go_simp; all_goals with_reducible rfl
      try simp only [Act.put, List.setIfInBounds_toArray, List.set_cons_zero, List.set_cons_succ]
      refine rg_take (i := 10) (some 85) (v := ?_) rfl rfl (by kernel_rfl) (by rfl) hQ7 hHeld ?_ ?_
      rotate_left
      · intro w7 hSw; (try dsimp only at hSw); go_simp; all_goals with_reducible rfl
      try simp only [Act.put, List.setIfInBounds_toArray, List.set_cons_zero, List.set_cons_succ]
      refine rg_take (i := 11) (some 86) (v := ?_) rfl rfl (by kernel_rfl) (by rfl) hQ7 hHeld ?_ ?_
      rotate_left
      · intro w7 hSw; (try dsimp only at hSw); go_simp; all_goals with_reducible rfl
      try simp only [Act.put, List.setIfInBounds_toArray, List.set_cons_zero, List.set_cons_succ]
      refine rg_take (i := 12) (some 87) (v := ?_) rfl rfl (by kernel_rfl) (by rfl) hQ7 hHeld ?_ ?_
      rotate_left
      · intro w7 hSw; (try dsimp only at hSw); go_simp; all_goals with_reducible rfl
      try simp only [Act.put, List.setIfInBounds_toArray, List.set_cons_zero, List.set_cons_succ]
      refine rg_take (i := 13) (some 88) (v := ?_) rfl rfl (by kernel_rfl) (by rfl) hQ7 hHeld ?_ ?_
      rotate_left
      · intro w7 hSw; (try dsimp only at hSw); go_simp; all_goals with_reducible rfl
      try simp only [Act.put, List.setIfInBounds_toArray, List.set_cons_zero, List.set_cons_succ]
      refine rg_take (i := 14) (some 89) (v := ?_) rfl rfl (by kernel_rfl) (by rfl) hQ7 hHeld ?_ ?_
      rotate_left
      · intro w7 hSw; (try dsimp only at hSw); go_simp; all_goals with_reducible rfl
      try simp only [Act.put, List.setIfInBounds_toArray, List.set_cons_zero, List.set_cons_succ]
      refine rg_take (i := 15) (some 90) (v := ?_) rfl rfl (by kernel_rfl) (by rfl) hQ7 hHeld ?_ ?_
      rotate_left
      · intro w7 hSw; (try dsimp only at hSw); go_simp; all_goals with_reducible rfl
      try simp only [Act.put, List.setIfInBounds_toArray, List.set_cons_zero, List.set_cons_succ]
      refine rg_take (i := 16) (some 91) (v := ?_) rfl rfl (by kernel_rfl) (by rfl) hQ7 hHeld ?_ ?_
      rotate_left
      · intro w7 hSw; (try dsimp only at hSw); go_simp; all_goals with_reducible rfl
      try simp only [Act.put, List.setIfInBounds_toArray, List.set_cons_zero, List.set_cons_succ]
      refine rg_take (i := 17) (some 92) (v := ?_) rfl rfl (by kernel_rfl) (by rfl) hQ7 hHeld ?_ ?_
      rotate_left
      · intro w7 hSw; (try dsimp only at hSw); go_simp; all_goals with_reducible rfl
      try simp only [Act.put, List.setIfInBounds_toArray, List.set_cons_zero, List.set_cons_succ]
      refine rg_take (i := 18) (some 93) (v := ?_) rfl rfl (by kernel_rfl) (by rfl) hQ7 hHeld ?_ ?_
      rotate_left
      · intro w7 hSw; (try dsimp only at hSw); go_simp; all_goals with_reducible rfl
      try simp only [Act.put, List.setIfInBounds_toArray, List.set_cons_zero, List.set_cons_succ]
      refine rg_take (i := 19) (some 94) (v := ?_) rfl rfl (by kernel_rfl) (by rfl) hQ7 hHeld ?_ ?_
      rotate_left
      · intro w7 hSw; (try dsimp only at hSw); go_simp; all_goals with_reducible rfl
      try simp only [Act.put, List.setIfInBounds_toArray, List.set_cons_zero, List.set_cons_succ]
      refine rg_take (i := 20) (some 95) (v := ?_) rfl rfl (by kernel_rfl) (by rfl) hQ7 hHeld ?_ ?_
      rotate_left
      · intro w7 hSw; (try dsimp only at hSw); go_simp; all_goals with_reducible rfl
      try simp only [Act.put, List.setIfInBounds_toArray, List.set_cons_zero, List.set_cons_succ]
      refine rg_take (i := 21) (some 96) (v := ?_) rfl rfl (by kernel_rfl) (by rfl) hQ7 hHeld ?_ ?_
      rotate_left
      · intro w7 hSw; (try dsimp only at hSw); go_simp; all_goals with_reducible rfl
      try simp only [Act.put, List.setIfInBounds_toArray, List.set_cons_zero, List.set_cons_succ]
      refine rg_take (i := 22) (some 97) (v := ?_) rfl rfl (by kernel_rfl) (by rfl) hQ7 hHeld ?_ ?_
      rotate_left
      · intro w7 hSw; (try dsimp only at hSw); go_simp; all_goals with_reducible rfl
      try simp only [Act.put, List.setIfInBounds_toArray, List.set_cons_zero, List.set_cons_succ]
      refine rg_take (i := 23) (some 98) (v := ?_) rfl rfl (by kernel_rfl) (by rfl) hQ7 hHeld ?_ ?_
      rotate_left
      · intro w7 hSw; (try dsimp only at hSw); go_simp; all_goals with_reducible rfl
      try simp only [Act.put, List.setIfInBounds_toArray, List.set_cons_zero, List.set_cons_succ]
      refine rg_take (i := 24) (some 99) (v := ?_) rfl rfl (by kernel_rfl) (by rfl) hQ7 hHeld ?_ ?_
      rotate_left
      · intro w7 hSw; (try dsimp only at hSw); go_simp; all_goals with_reducible rfl
      try simp only [Act.put, List.setIfInBounds_toArray, List.set_cons_zero, List.set_cons_succ]
      refine rg_take (i := 25) (some 100) (v := ?_) rfl rfl (by kernel_rfl) (by rfl) hQ7 hHeld ?_ ?_
      rotate_left
      · intro w7 hSw; (try dsimp only at hSw); go_simp; all_goals with_reducible rfl
      try simp only [Act.put, List.setIfInBounds_toArray, List.set_cons_zero, List.set_cons_succ]
      refine rg_take (i := 26) (some 101) (v := ?_) rfl rfl (by kernel_rfl) (by rfl) hQ7 hHeld ?_ ?_
      rotate_left
      · intro w7 hSw; (try dsimp only at hSw); go_simp; all_goals with_reducible rfl
      try simp only [Act.put, List.setIfInBounds_toArray, List.set_cons_zero, List.set_cons_succ]
      refine rg_take (i := 27) (some 102) (v := ?_) rfl rfl (by kernel_rfl) (by rfl) hQ7 hHeld ?_ ?_
      rotate_left
      · intro w7 hSw; (try dsimp only at hSw); go_simp; all_goals with_reducible rfl
      try simp only [Act.put, List.setIfInBounds_toArray, List.set_cons_zero, List.set_cons_succ]
      refine rg_take (i := 28) (some 103) (v := ?_) rfl rfl (by kernel_rfl) (by rfl) hQ7 hHeld ?_ ?_
      rotate_left
      · intro w7 hSw; (try dsimp only at hSw); go_simp; all_goals with_reducible rfl
      try simp only [Act.put, List.setIfInBounds_toArray, List.set_cons_zero, List.set_cons_succ]
      refine rg_one (i := 29) (by kernel_rfl) (rg_step rfl (by rfl) (fun K hK => ?_))
      go_simp
      refine (sameN false HQ.out HRn.out.symm HMn.out.symm (L.out.ext hHeld.1) (N.out.ext hHeld.1) (by have := HRl.out; omega)).mono ?_
      rintro e u1 ⟨rfl, B⟩
      go_wp2_with fail
      refine hK.out _ _ ?_ (fun hHeld2 => ?_)
      · exact SS.out _ (ext_trans hHeld.1 B)
      clear hHeld
      have hHeld := hHeld2
      clear hHeld2
      clear hK K
      try simp only [Act.put, List.setIfInBounds_toArray, List.set_cons_zero, List.set_cons_succ]
      refine rg_take (i := 30) (some 105) (v := ?_) rfl rfl (by kernel_rfl) (by rfl) hQ7 hHeld ?_ ?_
      rotate_left
      · intro w7 hSw; (try dsimp only at hSw); go_simp; all_goals with_reducible rfl
      try simp only [Act.put, List.setIfInBounds_toArray, List.set_cons_zero, List.set_cons_succ]
      refine rg_take (i := 31) (some 106) (v := ?_) rfl rfl (by kernel_rfl) (by rfl) hQ7 hHeld ?_ ?_
      rotate_left
      · intro w7 hSw; (try dsimp only at hSw); go_simp; all_goals with_reducible rfl
      try simp only [Act.put, List.setIfInBounds_toArray, List.set_cons_zero, List.set_cons_succ]
      refine rg_take (i := 32) (some 107) (v := ?_) rfl rfl (by kernel_rfl) (by rfl) hQ7 hHeld ?_ ?_
      rotate_left
      · intro w7 hSw; (try dsimp only at hSw); go_simp; all_goals with_reducible rfl
      try simp only [Act.put, List.setIfInBounds_toArray, List.set_cons_zero, List.set_cons_succ]
      refine rg_take (i := 33) (some 108) (v := ?_) rfl rfl (by kernel_rfl) (by rfl) hQ7 hHeld ?_ ?_
      rotate_left
      · intro w7 hSw; (try dsimp only at hSw); go_simp; all_goals with_reducible rfl
      try simp only [Act.put, List.setIfInBounds_toArray, List.set_cons_zero, List.set_cons_succ]
      refine rg_take (i := 34) (some 109) (v := ?_) rfl rfl (by kernel_rfl) (by rfl) hQ7 hHeld ?_ ?_
      rotate_left
      · intro w7 hSw; (try dsimp only at hSw); go_simp; all_goals with_reducible rfl
      try simp only [Act.put, List.setIfInBounds_toArray, List.set_cons_zero, List.set_cons_succ]
      refine rg_take (i := 35) (some 110) (v := ?_) rfl rfl (by kernel_rfl) (by rfl) hQ7 hHeld ?_ ?_
      rotate_left
      · intro w7 hSw; (try dsimp only at hSw); go_simp; all_goals with_reducible rfl
      try simp only [Act.put, List.setIfInBounds_toArray, List.set_cons_zero, List.set_cons_succ]
      refine rg_take (i := 36) (some 111) (v := ?_) rfl rfl (by kernel_rfl) (by rfl) hQ7 hHeld ?_ ?_
      rotate_left
      · intro w7 hSw; (try dsimp only at hSw); go_simp; all_goals with_reducible rfl
      try simp only [Act.put, List.setIfInBounds_toArray, List.set_cons_zero, List.set_cons_succ]
      refine rg_take (i := 37) (some 112) (v := ?_) rfl rfl (by kernel_rfl) (by rfl) hQ7 hHeld ?_ ?_
      rotate_left
      · intro w7 hSw; (try dsimp only at hSw); go_simp; all_goals with_reducible rfl
      try simp only [Act.put, List.setIfInBounds_toArray, List.set_cons_zero, List.set_cons_succ]
      refine rg_take (i := 38) (some 113) (v := ?_) rfl rfl (by kernel_rfl) (by rfl) hQ7 hHeld ?_ ?_
      rotate_left
      · intro w7 hSw; (try dsimp only at hSw); go_simp; all_goals with_reducible rfl
      try simp only [Act.put, List.setIfInBounds_toArray, List.set_cons_zero, List.set_cons_succ]
      refine rg_take (i := 39) (some 114) (v := ?_) rfl rfl (by kernel_rfl) (by rfl) hQ7 hHeld ?_ ?_
      rotate_left
      · intro w7 hSw; (try dsimp only at hSw); go_simp; all_goals with_reducible rfl
      try simp only [Act.put, List.setIfInBounds_toArray, List.set_cons_zero, List.set_cons_succ]
      refine rg_take (i := 40) (some 115) (v := ?_) rfl rfl (by kernel_rfl) (by rfl) hQ7 hHeld ?_ ?_
      rotate_left
      · intro w7 hSw; (try dsimp only at hSw); go_simp; all_goals with_reducible rfl
      try simp only [Act.put, List.setIfInBounds_toArray, List.set_cons_zero, List.set_cons_succ]
      refine rg_take (i := 41) (some 116) (v := ?_) rfl rfl (by kernel_rfl) (by rfl) hQ7 hHeld ?_ ?_
      rotate_left
      · intro w7 hSw; (try dsimp only at hSw); go_simp; all_goals with_reducible rfl
      try simp only [Act.put, List.setIfInBounds_toArray, List.set_cons_zero, List.set_cons_succ]
      refine rg_take (i := 42) (some 117) (v := ?_) rfl rfl (by kernel_rfl) (by rfl) hQ7 hHeld ?_ ?_
      rotate_left
      · intro w7 hSw; (try dsimp only at hSw); go_simp; all_goals with_reducible rfl
      try simp only [Act.put, List.setIfInBounds_toArray, List.set_cons_zero, List.set_cons_succ]
      refine rg_take (i := 43) (some 118) (v := ?_) rfl rfl (by kernel_rfl) (by rfl) hQ7 hHeld ?_ ?_
      rotate_left
      · intro w7 hSw; (try dsimp only at hSw); go_simp; all_goals with_reducible rfl
      try simp only [Act.put, List.setIfInBounds_toArray, List.set_cons_zero, List.set_cons_succ]
      refine rg_take (i := 44) (some 119) (v := ?_) rfl rfl (by kernel_rfl) (by rfl) hQ7 hHeld ?_ ?_
      rotate_left
      · intro w7 hSw; (try dsimp only at hSw); go_simp; all_goals with_reducible rfl
      try simp only [Act.put, List.setIfInBounds_toArray, List.set_cons_zero, List.set_cons_succ]
      refine rg_end (by kernel_rfl) (hN7 _ _ ?_) _
      clear hQ7 hN7 Q7
      have BX := hHeld.1
      clear SS
      replace E := Lib.hid (ext_trans E.out BX)
      replace HA := Lib.hid (HA.out.ext BX)
      replace X := Lib.hid (X.out.ext BX)
      replace Z := Lib.hid (Z.out.ext BX)
      replace Y := Lib.hid (Y.out.ext BX)
      replace HB := Lib.hid (HB.out.ext BX)
      replace L := Lib.hid (L.out.ext BX)
      replace N := Lib.hid (N.out.ext BX)
      clear BX
      go_wp2_with fail
      go_meet
      case rel => exact ⟨rfl, E, HA, X, Z, Y, HB⟩
    case rest =>
      clear E HA X Z Y HB L N hRl hMl HMo2 HRn HMq
      obtain ⟨rfl, E, HA, X, Z, Y, HB⟩ := hcut
      skip
      by_cases hcl : x.cl = cl
      · have ec : (x.cl == cl) = true := by simp [hcl]
        clear hcl
        have c0 := Z.out.c 3 _ rfl
        go_wp2_with fail
        go_ret
        exact ⟨rfl, E.out⟩
      have ec : (x.cl == cl) = false := by simp [hcl]
      obtain ⟨g1, g2, g3⟩ := HW2.out hcl
      have G1 := Lib.hid g1
      have G2 := Lib.hid g2
      have G3 := Lib.hid g3
      clear hcl g1 g2 g3 HW2
      obtain ⟨we, hwe⟩ : ∃ v, chkC a.cls.n a.aps.n a.rs.l cl = v := ⟨_, rfl⟩
      obtain ⟨wn, hwn⟩ : ∃ v, weightN a.cls.n a.aps.n a.rs.l cl = v := ⟨_, rfl⟩
      obtain ⟨wl, hwl2⟩ : ∃ v, longN a.cls.n a.aps.n a.rs.l cl = v := ⟨_, rfl⟩
      have WE := Lib.hid hwe
      have WN := Lib.hid hwn
      have WL := Lib.hid hwl2
      clear hwe hwn hwl2
      have c0 := Z.out.c 3 _ rfl
      have c1 := X.out.c 0 _ rfl
      have c2 := X.out.c 1 _ rfl
      have c3 := X.out.c 2 _ rfl
      have c4 := X.out.c 3 _ rfl
      have c5 := X.out.c 4 _ rfl
      have c6 := X.out.c 5 _ rfl
      have c7 := X.out.c 6 _ rfl
      have c8 := X.out.c 7 _ rfl
      go_wp2_with fail
      refine (weight_at (a := a) (cl := cl) wn we WN.out WE.out HA.out).mono ?_
      rintro e z4 ⟨rfl, B⟩
      clear c0 c1 c2 c3 c4 c5 c6 c7 c8
      replace E := Lib.hid (ext_trans E.out B)
      replace HA := Lib.hid (HA.out.ext B)
      replace X := Lib.hid (X.out.ext B)
      replace Z := Lib.hid (Z.out.ext B)
      replace Y := Lib.hid (Y.out.ext B)
      replace HB := Lib.hid (HB.out.ext B)
      clear B
      have c0 := Y.out.c 0 _ rfl
      have c1 := Y.out.c 1 _ rfl
      have c2 := Y.out.c 2 _ rfl
      have c3 := Y.out.c 3 _ rfl
      have c4 := Y.out.c 4 _ rfl
      have c5 := Y.out.c 5 _ rfl
      have c6 := Y.out.c 6 _ rfl
      have c7 := Y.out.c 7 _ rfl
      go_wp2_with fail
      refine (weight_at (a := { a with rs := ⟨A2, q2, m⟩ }) (cl := cl) wn we (G2.out.trans WN.out) (G1.out.trans WE.out) HB.out).mono ?_
      rintro e z5 ⟨rfl, B⟩
      clear c0 c1 c2 c3 c4 c5 c6 c7
      replace E := Lib.hid (ext_trans E.out B)
      replace HA := Lib.hid (HA.out.ext B)
      replace X := Lib.hid (X.out.ext B)
      replace Z := Lib.hid (Z.out.ext B)
      replace Y := Lib.hid (Y.out.ext B)
      replace HB := Lib.hid (HB.out.ext B)
      clear B
      have c0 := X.out.c 0 _ rfl
      have c1 := X.out.c 1 _ rfl
      have c2 := X.out.c 2 _ rfl
      have c3 := X.out.c 3 _ rfl
      have c4 := X.out.c 4 _ rfl
      have c5 := X.out.c 5 _ rfl
      have c6 := X.out.c 6 _ rfl
      have c7 := X.out.c 7 _ rfl
      go_wp2_with fail
      refine (longest_at (a := a) (cl := cl) wl we WL.out WE.out HA.out).mono ?_
      rintro e z6 ⟨rfl, B⟩
      clear c0 c1 c2 c3 c4 c5 c6 c7
      replace E := Lib.hid (ext_trans E.out B)
      replace HA := Lib.hid (HA.out.ext B)
      replace X := Lib.hid (X.out.ext B)
      replace Z := Lib.hid (Z.out.ext B)
      replace Y := Lib.hid (Y.out.ext B)
      replace HB := Lib.hid (HB.out.ext B)
      clear B
      have c0 := Y.out.c 0 _ rfl
      have c1 := Y.out.c 1 _ rfl
      have c2 := Y.out.c 2 _ rfl
      have c3 := Y.out.c 3 _ rfl
      have c4 := Y.out.c 4 _ rfl
      have c5 := Y.out.c 5 _ rfl
      have c6 := Y.out.c 6 _ rfl
      have c7 := Y.out.c 7 _ rfl
      go_wp2_with fail
      refine (longest_at (a := { a with rs := ⟨A2, q2, m⟩ }) (cl := cl) wl we (G3.out.trans WL.out) (G1.out.trans WE.out) HB.out).mono ?_
      rintro e z7 ⟨rfl, B⟩
      clear c0 c1 c2 c3 c4 c5 c6 c7
      replace E := Lib.hid (ext_trans E.out B)
      replace HA := Lib.hid (HA.out.ext B)
      replace X := Lib.hid (X.out.ext B)
      replace Z := Lib.hid (Z.out.ext B)
      replace Y := Lib.hid (Y.out.ext B)
      replace HB := Lib.hid (HB.out.ext B)
      clear B
      go_wp2_with fail
      go_ret
      exact ⟨ret_bool (by first | rfl | simp), E.out⟩
end Go.Proofs.Ytmgpbjpohbpgpaa
