/- NetworkOnlySent, walked. -/
import Derived.Test.YthchcimialclkaaP6
set_option linter.unusedSimpArgs false
set_option linter.unusedVariables false
namespace Go.Proofs.Ythchcimialclkaa
open Go.RowKit
set_option maxHeartbeats 16000000 in
set_option maxRecDepth 100000 in
theorem law6 (A : Option Addr) (c : Nat) (l : List Mv) (w : World) (hl : Slc w Mv.cells 5 A l) (hok : ∀ x ∈ l, x.ok) (hm : l.length ≤ maxLen) :
    Calls Try.prog 6 #[.slice A l.length c] w (Tru w) := by
  unfold maxLen at hm
  have HOK := Lib.hid hok
  clear hok
  by_cases h60 : l.length ≤ 60
  rotate_left
  · have h1 : (60 : Int) < l.length := by omega
    go_enter Try.func6, Try.ntmps6
    go_wp2_with fail
    refine (sane_any _).mono ?_
    rintro e w1 ⟨rfl, B⟩
    go_wp2_with fail
    go_ret
    exact ⟨rfl, B⟩
  have h1 : ¬ (60 : Int) < l.length := by omega
  go_enter Try.func6, Try.ntmps6
  go_wp2_with fail
  refine (sane_any _).mono ?_
  rintro e w1 ⟨rfl, B1⟩
  go_wp2_with fail
  refine (new_any _).mono ?_
  rintro e w2 ⟨rfl, B2⟩
  have E := Lib.hid (ext_alloc (ext_trans B1 B2) (.cells #[.slice none 0 0, .slice none 0 0] 25))
  have RS0 : Rs (w2.alloc (.cells #[.slice none 0 0, .slice none 0 0] 25)) w2.heap.size [] zeroN (.slice none 0 0) 0 :=
    ⟨Blk.new w2 [.slice none 0 0, .slice none 0 0] 25, ⟨NOk.zero _, zeroN_off _, fun b h => (by cases h)⟩, ⟨Own.nil _ _ _ _ _, fun p hp => (by cases hp)⟩, by decide +kernel, fun p hp => (by cases hp), fun h => absurd rfl h⟩
  have RR := Lib.hid RS0
  have hw2 : w.heap.size ≤ w2.heap.size := (ext_trans B1 B2).size
  clear B1 B2 RS0
  go_wp2_with fail
  go_loopw [4, 5, 6] (fun v q i wr => ∃ (k : Nat) (m : Nt) (R : List Pk) (RA : Option Addr) (Rc cuts : Nat), k ≤ l.length ∧ R.length ≤ k ∧ cuts ≤ k ∧ v = .slice RA R.length Rc ∧ q = .int .i64 cuts ∧ i = .int .i64 k ∧ Hid (Rs wr w2.heap.size R m (.slice RA R.length Rc) cuts) ∧ Hid (Below w.heap.size w wr)) (fun _ _ i _ => l.length - (intOf i).toNat)
  case atStart => exact ⟨0, zeroN, [], none, 0, 0, Nat.zero_le _, Nat.le_refl _, Nat.le_refl _, rfl, rfl, rfl, RR, E⟩
  case round =>
    clear RR E
    obtain ⟨k, m, R, RA, Rc, cuts, hk, hRk, hck, rfl, rfl, rfl, RR, E⟩ := hrel
    by_cases hlt : k < l.length
    rotate_left
    · have hge : ¬ (k : Int) < l.length := by omega
      go_wp2_with fail
      go_ret
      exact ⟨rfl, E.out⟩
    rename_i K1 a1
    clear a1
    obtain ⟨mv, b1, o1, hx, hA, hb1, hcx⟩ := (hl.ext E.out).at_ hlt
    have hlt' : (k : Int) < l.length := by omega
    have k0 : (0 : Int) ≤ k := by omega
    have kn : (k : Int).toNat = k := by omega
    have HX := Lib.hid (HOK.out mv (List.mem_of_getElem? hx))
    have hkk := wrap_u8 HX.out.1
    have n0 := RR.out.blk.c 0 _ rfl
    have n1 := RR.out.blk.c 1 _ rfl
    have d0 := hcx 0 _ rfl
    have d1 := hcx 1 _ rfl
    have d2 := hcx 2 _ rfl
    have d3 := hcx 3 _ rfl
    have d4 := hcx 4 _ rfl
    simp only [Nat.add_zero] at d0
    subst hA
    have sB := RR.out.blk.lt
    have SS := Lib.hid (show ∀ w', Below wr.heap.size wr w' → (fun w' => Below wr.heap.size wr w' ∧ w'.cell? ⟨w2.heap.size, 0, none⟩ = some (.slice m.q.A m.q.l.length m.q.c) ∧ w'.cell? ⟨w2.heap.size, 1, none⟩ = some (.slice m.ap.A m.ap.l.length m.ap.c) ∧ w'.cell? ⟨b1, o1 + k * 5, none⟩ = some (.int .u8 mv.k) ∧ w'.cell? ⟨b1, o1 + k * 5 + 1, none⟩ = some (.int .u8 mv.at_) ∧ w'.cell? ⟨b1, o1 + k * 5 + 2, none⟩ = some (.int .u8 mv.a) ∧ w'.cell? ⟨b1, o1 + k * 5 + 3, none⟩ = some (.int .u8 mv.b) ∧ w'.cell? ⟨b1, o1 + k * 5 + 4, none⟩ = some (.int .u8 mv.d)) w' from fun w' h => ⟨h, (h.cell (p := ⟨w2.heap.size, 0, none⟩) sB).trans n0, (h.cell (p := ⟨w2.heap.size, 1, none⟩) sB).trans n1, (h.cell (p := ⟨b1, _, none⟩) hb1).trans d0, (h.cell (p := ⟨b1, _, none⟩) hb1).trans d1, (h.cell (p := ⟨b1, _, none⟩) hb1).trans d2, (h.cell (p := ⟨b1, _, none⟩) hb1).trans d3, (h.cell (p := ⟨b1, _, none⟩) hb1).trans d4⟩)
    have HB1 := Lib.hid (show b1 < wr.heap.size ∧ b1 < w.heap.size ∧ ∀ j v, mv.cells[j]? = some v → wr.cell? ⟨b1, o1 + k * 5 + j, none⟩ = some v from ⟨hb1, by obtain ⟨_, b3, o3, _, e3, h3, _⟩ := hl.at_ hlt; cases e3; exact h3, hcx⟩)
    clear hcx hx n0 n1 d0 d1 d2 d3 d4
    obtain ⟨t, ht⟩ : ∃ t, mv.k % 6 = t := ⟨_, rfl⟩
    have ht2 : mv.k.tmod 6 = t := by rw [Int.tmod_eq_emod_of_nonneg hkk.1]; exact ht
    have hcase : t = 0 ∨ t = 1 ∨ t = 4 ∨ t = 2 ∨ t = 3 ∨ t = 5 := by omega
    have HT := Lib.hid (show mv.k % 6 = t ∧ mv.k.tmod 6 = t ∧ (t = 0 ∨ t = 1 ∨ t = 4 ∨ t = 2 ∨ t = 3 ∨ t = 5) from ⟨ht, ht2, hcase⟩)
    clear ht ht2 hcase hkk
    go_wp2_with fail
    refine rg_via (S := (fun w' => Below wr.heap.size wr w' ∧ w'.cell? ⟨w2.heap.size, 0, none⟩ = some (.slice m.q.A m.q.l.length m.q.c) ∧ w'.cell? ⟨w2.heap.size, 1, none⟩ = some (.slice m.ap.A m.ap.l.length m.ap.c) ∧ w'.cell? ⟨b1, o1 + k * 5, none⟩ = some (.int .u8 mv.k) ∧ w'.cell? ⟨b1, o1 + k * 5 + 1, none⟩ = some (.int .u8 mv.at_) ∧ w'.cell? ⟨b1, o1 + k * 5 + 2, none⟩ = some (.int .u8 mv.a) ∧ w'.cell? ⟨b1, o1 + k * 5 + 3, none⟩ = some (.int .u8 mv.b) ∧ w'.cell? ⟨b1, o1 + k * 5 + 4, none⟩ = some (.int .u8 mv.d))) (fun (a a' : Act) (w' : World) => ∃ (W : World) (H7 H8 : Nat) (y : Nt) (p : Pk) (err : Int), a' = (((((((((((((a.put (some 25) (.agg #[.slice m.q.A m.q.l.length m.q.c, .slice m.ap.A m.ap.l.length m.ap.c])).put (some 26) (.slice (some ⟨b1, o1, none⟩) l.length c)).put (some 27) (.int .i64 k)).put (some 28) (.pointer (some ⟨b1, o1 + k * 5, none⟩))).put (some 29) (.agg #[.int .u8 mv.k, .int .u8 mv.at_, .int .u8 mv.a, .int .u8 mv.b, .int .u8 mv.d])).put (some 30) (.tuple #[y.v, p.v, .int .i64 err])).put (some 24) (.tuple #[y.v, p.v, .int .i64 err])).put (some 31) (y.v)).put (some 32) (p.v)).put (some 33) (.int .i64 err)).put (some 7) (.pointer (some ⟨H7, 0, none⟩))).put (some 8) (.pointer (some ⟨H8, 0, none⟩))).put (some 9) (.int .i64 err)) ∧ w' = ((((W.setCell ⟨H7, 0, none⟩ (.slice y.q.A y.q.l.length y.q.c)).setCell ⟨H7, 1, none⟩ (.slice y.ap.A y.ap.l.length y.ap.c)).setCell ⟨H8, 0, none⟩ (.int .i64 p.f)).setCell ⟨H8, 1, none⟩ (.int .i64 p.t)).setCell ⟨H8, 2, none⟩ (.slice p.d.A p.d.l.length p.d.c) ∧ Got wr W H7 H8 m y p ∧ Hap m t y p err) 12 (by kernel_rfl) (by intro d; cases d <;> intro _ _ _ _ h <;> exact h) ?_ ?_ (fun Q7 hQ7 hN7 hHeld => ?_)
    · exact SS.out _ (ext_drew (ext_refl wr))
    rotate_left
    · have HN7 := Lib.hid hN7
      clear hN7
      refine rg_take (i := 0) (some 25) (v := ?_) rfl rfl (by kernel_rfl) (by rfl) hQ7 hHeld ?_ ?_
      rotate_left
      · intro w7 hSw; (try dsimp only at hSw); go_simp; all_goals with_reducible rfl
      try simp only [Act.put, List.setIfInBounds_toArray, List.set_cons_zero, List.set_cons_succ]
      refine rg_take (i := 1) (some 26) (v := ?_) rfl rfl (by kernel_rfl) (by rfl) hQ7 hHeld ?_ ?_
      rotate_left
      · intro w7 hSw; (try dsimp only at hSw); go_simp; all_goals with_reducible rfl
      try simp only [Act.put, List.setIfInBounds_toArray, List.set_cons_zero, List.set_cons_succ]
      refine rg_take (i := 2) (some 27) (v := ?_) rfl rfl (by kernel_rfl) (by rfl) hQ7 hHeld ?_ ?_
      rotate_left
      · intro w7 hSw; (try dsimp only at hSw); go_simp; all_goals with_reducible rfl
      try simp only [Act.put, List.setIfInBounds_toArray, List.set_cons_zero, List.set_cons_succ]
      refine rg_take (i := 3) (some 28) (v := ?_) rfl rfl (by kernel_rfl) (by rfl) hQ7 hHeld ?_ ?_
      rotate_left
      · intro w7 hSw; (try dsimp only at hSw); go_simp; all_goals with_reducible rfl
      try simp only [Act.put, List.setIfInBounds_toArray, List.set_cons_zero, List.set_cons_succ]
      refine rg_take (i := 4) (some 29) (v := ?_) rfl rfl (by kernel_rfl) (by rfl) hQ7 hHeld ?_ ?_
      rotate_left
      · intro w7 hSw; (try dsimp only at hSw); go_simp; all_goals with_reducible rfl
      try simp only [Act.put, List.setIfInBounds_toArray, List.set_cons_zero, List.set_cons_succ]
      refine rg_three (i := 5) (j := 10) (m := 11) (by kernel_rfl) (rg_step rfl (by rfl) (fun K hK => ?_)) (rg_step rfl (by rfl) (fun K hK => ?_)) (rg_step rfl (by rfl) (fun K hK => ?_))
      · go_simp
        refine (hap_any m mv _ (RR.out.ys.ok.ext hHeld.1) HX.out).mono ?_
        rintro e x6 ⟨y, p, err, rfl, hap, hy, hp, B6, hoo⟩
        go_wp2_with fail
        refine hK.out _ _ ?_ (fun hHeld2 => ?_)
        · exact SS.out _ (ext_trans hHeld.1 B6)
        clear hHeld
        have hHeld := hHeld2
        clear hHeld2
        clear hK K
        try simp only [Act.put, List.setIfInBounds_toArray, List.set_cons_zero, List.set_cons_succ]
        have hx6 : wr.heap.size ≤ x6.heap.size := hHeld.1.size
        have hx8 := B6.size
        try simp at hx8
        rw [HT.out.1] at hap
        have HAP := Lib.hid hap
        have HOO := Lib.hid hoo
        clear hap hoo
        refine rg_pure (i := 6) (some 24) (v := ?_) rfl rfl (by kernel_rfl) (by rfl) hQ7 (by first | exact .inr hHeld | exact .inl (by kernel_rfl)) ?_ ?_
        rotate_left
        · intro w7; go_simp; all_goals with_reducible rfl
        try simp only [Act.put, List.setIfInBounds_toArray, List.set_cons_zero, List.set_cons_succ]
        refine rg_pure (i := 7) (some 31) (v := ?_) rfl rfl (by kernel_rfl) (by rfl) hQ7 (by first | exact .inr hHeld | exact .inl (by kernel_rfl)) ?_ ?_
        rotate_left
        · intro w7; go_simp; all_goals with_reducible rfl
        try simp only [Act.put, List.setIfInBounds_toArray, List.set_cons_zero, List.set_cons_succ]
        refine rg_pure (i := 8) (some 32) (v := ?_) rfl rfl (by kernel_rfl) (by rfl) hQ7 (by first | exact .inr hHeld | exact .inl (by kernel_rfl)) ?_ ?_
        rotate_left
        · intro w7; go_simp; all_goals with_reducible rfl
        try simp only [Act.put, List.setIfInBounds_toArray, List.set_cons_zero, List.set_cons_succ]
        refine rg_pure (i := 9) (some 33) (v := ?_) rfl rfl (by kernel_rfl) (by rfl) hQ7 (by first | exact .inr hHeld | exact .inl (by kernel_rfl)) ?_ ?_
        rotate_left
        · intro w7; go_simp; all_goals with_reducible rfl
        try simp only [Act.put, List.setIfInBounds_toArray, List.set_cons_zero, List.set_cons_succ]
        refine rg_two (i := 10) (j := 11) (by kernel_rfl) (rg_step rfl (by rfl) (fun K hK => ?_)) (rg_step rfl (by rfl) (fun K hK => ?_))
        · go_simp
          refine hK.out _ _ ?_ (fun hHeld2 => ?_)
          · exact SS.out _ (ext_alloc hHeld.1 _)
          clear hHeld
          have hHeld := hHeld2
          clear hHeld2
          clear hK K
          try simp only [Act.put, List.setIfInBounds_toArray, List.set_cons_zero, List.set_cons_succ]
          have o7 : y.off (x6.heap.size) ∧ p.off (x6.heap.size) := ⟨hy.off (by simp), hp.off (by simp)⟩
          replace hy := hy.alloc (.cells #[.slice none 0 0, .slice none 0 0] 25)
          replace hp := hp.ext (ext_alloc (ext_refl _) (.cells #[.slice none 0 0, .slice none 0 0] 25))
          have X7 := Lib.hid (Blk.newH x6 [.slice none 0 0, .slice none 0 0] 25 (x6.heap.size) (by first | rfl | simp))
          refine rg_one (i := 11) (by kernel_rfl) (rg_step rfl (by rfl) (fun K hK => ?_))
          go_simp
          refine hK.out _ _ ?_ (fun hHeld2 => ?_)
          · exact SS.out _ (ext_alloc hHeld.1 _)
          clear hHeld
          have hHeld := hHeld2
          clear hHeld2
          clear hK K
          try simp only [Act.put, List.setIfInBounds_toArray, List.set_cons_zero, List.set_cons_succ]
          have o8 : y.off (x6.heap.size + 1) ∧ p.off (x6.heap.size + 1) := ⟨hy.off (by simp), hp.off (by simp)⟩
          replace hy := hy.alloc (.cells #[.int .i64 0, .int .i64 0, .slice none 0 0] 28)
          replace hp := hp.ext (ext_alloc (ext_refl _) (.cells #[.int .i64 0, .int .i64 0, .slice none 0 0] 28))
          replace X7 := Lib.hid (X7.out.alloc (.cells #[.int .i64 0, .int .i64 0, .slice none 0 0] 28))
          have X8 := Lib.hid (Blk.newH (x6.alloc (.cells #[.slice none 0 0, .slice none 0 0] 25)) [.int .i64 0, .int .i64 0, .slice none 0 0] 28 (x6.heap.size + 1) (by first | rfl | simp))
          obtain ⟨x9, hx9⟩ : ∃ x9, ((x6.alloc (.cells #[.slice none 0 0, .slice none 0 0] 25)).alloc (.cells #[.int .i64 0, .int .i64 0, .slice none 0 0] 28)) = x9 := ⟨_, rfl⟩
          rw [hx9] at X7 X8 hy hp hHeld ⊢
          clear hx9
          have z0 := X7.out.c 0 _ rfl
          have z1 := X7.out.c 1 _ rfl
          have zf := X7.out.f
          have v0 := X8.out.c 0 _ rfl
          have v1 := X8.out.c 1 _ rfl
          have v2 := X8.out.c 2 _ rfl
          have vf := X8.out.f
          have BX := hHeld.1
          have hne : x6.heap.size ≠ x6.heap.size + 1 := by omega
          refine rg_one (i := 12) (by kernel_rfl) (rg_late rfl (by rfl) (by kernel_rfl) (fun K hK => ?_))
          go_simp
          refine hK.out _ _ ?_
          clear hK K
          try simp only [Act.put, List.setIfInBounds_toArray, List.set_cons_zero, List.set_cons_succ]
          refine rg_one (i := 13) (by kernel_rfl) (rg_late rfl (by rfl) (by kernel_rfl) (fun K hK => ?_))
          go_simp
          refine hK.out _ _ ?_
          clear hK K
          try simp only [Act.put, List.setIfInBounds_toArray, List.set_cons_zero, List.set_cons_succ]
          refine rg_pure (i := 14) (some 9) (v := ?_) rfl rfl (by kernel_rfl) (by rfl) hQ7 (by first | exact .inr hHeld | exact .inl (by kernel_rfl)) ?_ ?_
          rotate_left
          · intro w7; go_simp; all_goals with_reducible rfl
          try simp only [Act.put, List.setIfInBounds_toArray, List.set_cons_zero, List.set_cons_succ]
          refine rg_end (by kernel_rfl) (HN7.out _ _ ⟨_, x6.heap.size, x6.heap.size + 1, y, p, err, ?_, ?_, ⟨BX, by omega, by omega, hne, X7.out, X8.out, hy, hp, o7.1, o8.1, o7.2, o8.2, fun b hb hf => HOO.out b (by first | exact hb | (simp; omega)) hf⟩, HAP.out⟩) _
          · simp only [Act.put, List.setIfInBounds_toArray, List.set_cons_zero, List.set_cons_succ]
          · rfl
        · go_simp
          refine hK.out _ _ ?_ (fun hHeld2 => ?_)
          · exact SS.out _ (ext_alloc hHeld.1 _)
          clear hHeld
          have hHeld := hHeld2
          clear hHeld2
          clear hK K
          try simp only [Act.put, List.setIfInBounds_toArray, List.set_cons_zero, List.set_cons_succ]
          have o8 : y.off (x6.heap.size) ∧ p.off (x6.heap.size) := ⟨hy.off (by simp), hp.off (by simp)⟩
          replace hy := hy.alloc (.cells #[.int .i64 0, .int .i64 0, .slice none 0 0] 28)
          replace hp := hp.ext (ext_alloc (ext_refl _) (.cells #[.int .i64 0, .int .i64 0, .slice none 0 0] 28))
          have X8 := Lib.hid (Blk.newH x6 [.int .i64 0, .int .i64 0, .slice none 0 0] 28 (x6.heap.size) (by first | rfl | simp))
          refine rg_one (i := 10) (by kernel_rfl) (rg_step rfl (by rfl) (fun K hK => ?_))
          go_simp
          refine hK.out _ _ ?_ (fun hHeld2 => ?_)
          · exact SS.out _ (ext_alloc hHeld.1 _)
          clear hHeld
          have hHeld := hHeld2
          clear hHeld2
          clear hK K
          try simp only [Act.put, List.setIfInBounds_toArray, List.set_cons_zero, List.set_cons_succ]
          have o7 : y.off (x6.heap.size + 1) ∧ p.off (x6.heap.size + 1) := ⟨hy.off (by simp), hp.off (by simp)⟩
          replace hy := hy.alloc (.cells #[.slice none 0 0, .slice none 0 0] 25)
          replace hp := hp.ext (ext_alloc (ext_refl _) (.cells #[.slice none 0 0, .slice none 0 0] 25))
          replace X8 := Lib.hid (X8.out.alloc (.cells #[.slice none 0 0, .slice none 0 0] 25))
          have X7 := Lib.hid (Blk.newH (x6.alloc (.cells #[.int .i64 0, .int .i64 0, .slice none 0 0] 28)) [.slice none 0 0, .slice none 0 0] 25 (x6.heap.size + 1) (by first | rfl | simp))
          obtain ⟨x9, hx9⟩ : ∃ x9, ((x6.alloc (.cells #[.int .i64 0, .int .i64 0, .slice none 0 0] 28)).alloc (.cells #[.slice none 0 0, .slice none 0 0] 25)) = x9 := ⟨_, rfl⟩
          rw [hx9] at X7 X8 hy hp hHeld ⊢
          clear hx9
          have z0 := X7.out.c 0 _ rfl
          have z1 := X7.out.c 1 _ rfl
          have zf := X7.out.f
          have v0 := X8.out.c 0 _ rfl
          have v1 := X8.out.c 1 _ rfl
          have v2 := X8.out.c 2 _ rfl
          have vf := X8.out.f
          have BX := hHeld.1
          have hne : x6.heap.size + 1 ≠ x6.heap.size := by omega
          refine rg_one (i := 12) (by kernel_rfl) (rg_late rfl (by rfl) (by kernel_rfl) (fun K hK => ?_))
          go_simp
          refine hK.out _ _ ?_
          clear hK K
          try simp only [Act.put, List.setIfInBounds_toArray, List.set_cons_zero, List.set_cons_succ]
          refine rg_one (i := 13) (by kernel_rfl) (rg_late rfl (by rfl) (by kernel_rfl) (fun K hK => ?_))
          go_simp
          refine hK.out _ _ ?_
          clear hK K
          try simp only [Act.put, List.setIfInBounds_toArray, List.set_cons_zero, List.set_cons_succ]
          refine rg_pure (i := 14) (some 9) (v := ?_) rfl rfl (by kernel_rfl) (by rfl) hQ7 (by first | exact .inr hHeld | exact .inl (by kernel_rfl)) ?_ ?_
          rotate_left
          · intro w7; go_simp; all_goals with_reducible rfl
          try simp only [Act.put, List.setIfInBounds_toArray, List.set_cons_zero, List.set_cons_succ]
          refine rg_end (by kernel_rfl) (HN7.out _ _ ⟨_, x6.heap.size + 1, x6.heap.size, y, p, err, ?_, ?_, ⟨BX, by omega, by omega, hne, X7.out, X8.out, hy, hp, o7.1, o8.1, o7.2, o8.2, fun b hb hf => HOO.out b (by first | exact hb | (simp; omega)) hf⟩, HAP.out⟩) _
          · simp only [Act.put, List.setIfInBounds_toArray, List.set_cons_zero, List.set_cons_succ]
          · rfl
      · go_simp
        refine hK.out _ _ ?_ (fun hHeld2 => ?_)
        · exact SS.out _ (ext_alloc hHeld.1 _)
        clear hHeld
        have hHeld := hHeld2
        clear hHeld2
        clear hK K
        try simp only [Act.put, List.setIfInBounds_toArray, List.set_cons_zero, List.set_cons_succ]
        have X7 := Lib.hid (Blk.newH wr.drew [.slice none 0 0, .slice none 0 0] 25 (wr.heap.size) (by first | rfl | simp))
        refine rg_two (i := 5) (j := 11) (by kernel_rfl) (rg_step rfl (by rfl) (fun K hK => ?_)) (rg_step rfl (by rfl) (fun K hK => ?_))
        · go_simp
          refine (hap_any m mv _ (RR.out.ys.ok.ext hHeld.1) HX.out).mono ?_
          rintro e x6 ⟨y, p, err, rfl, hap, hy, hp, B6, hoo⟩
          go_wp2_with fail
          refine hK.out _ _ ?_ (fun hHeld2 => ?_)
          · exact SS.out _ (ext_trans hHeld.1 B6)
          clear hHeld
          have hHeld := hHeld2
          clear hHeld2
          clear hK K
          try simp only [Act.put, List.setIfInBounds_toArray, List.set_cons_zero, List.set_cons_succ]
          have hx6 : wr.heap.size ≤ x6.heap.size := hHeld.1.size
          have hx8 := B6.size
          try simp at hx8
          rw [HT.out.1] at hap
          have HAP := Lib.hid hap
          have HOO := Lib.hid hoo
          clear hap hoo
          have o7 := HOO.out (wr.heap.size) (by first | (simp; done) | (simp; omega)) (RR.out.ys.ok.off (by omega))
          replace X7 := Lib.hid (X7.out.ext B6)
          refine rg_pure (i := 6) (some 24) (v := ?_) rfl rfl (by kernel_rfl) (by rfl) hQ7 (by first | exact .inr hHeld | exact .inl (by kernel_rfl)) ?_ ?_
          rotate_left
          · intro w7; go_simp; all_goals with_reducible rfl
          try simp only [Act.put, List.setIfInBounds_toArray, List.set_cons_zero, List.set_cons_succ]
          refine rg_pure (i := 7) (some 31) (v := ?_) rfl rfl (by kernel_rfl) (by rfl) hQ7 (by first | exact .inr hHeld | exact .inl (by kernel_rfl)) ?_ ?_
          rotate_left
          · intro w7; go_simp; all_goals with_reducible rfl
          try simp only [Act.put, List.setIfInBounds_toArray, List.set_cons_zero, List.set_cons_succ]
          refine rg_pure (i := 8) (some 32) (v := ?_) rfl rfl (by kernel_rfl) (by rfl) hQ7 (by first | exact .inr hHeld | exact .inl (by kernel_rfl)) ?_ ?_
          rotate_left
          · intro w7; go_simp; all_goals with_reducible rfl
          try simp only [Act.put, List.setIfInBounds_toArray, List.set_cons_zero, List.set_cons_succ]
          refine rg_pure (i := 9) (some 33) (v := ?_) rfl rfl (by kernel_rfl) (by rfl) hQ7 (by first | exact .inr hHeld | exact .inl (by kernel_rfl)) ?_ ?_
          rotate_left
          · intro w7; go_simp; all_goals with_reducible rfl
          try simp only [Act.put, List.setIfInBounds_toArray, List.set_cons_zero, List.set_cons_succ]
          refine rg_one (i := 11) (by kernel_rfl) (rg_step rfl (by rfl) (fun K hK => ?_))
          go_simp
          refine hK.out _ _ ?_ (fun hHeld2 => ?_)
          · exact SS.out _ (ext_alloc hHeld.1 _)
          clear hHeld
          have hHeld := hHeld2
          clear hHeld2
          clear hK K
          try simp only [Act.put, List.setIfInBounds_toArray, List.set_cons_zero, List.set_cons_succ]
          have o8 : y.off (x6.heap.size) ∧ p.off (x6.heap.size) := ⟨hy.off (by simp), hp.off (by simp)⟩
          replace hy := hy.alloc (.cells #[.int .i64 0, .int .i64 0, .slice none 0 0] 28)
          replace hp := hp.ext (ext_alloc (ext_refl _) (.cells #[.int .i64 0, .int .i64 0, .slice none 0 0] 28))
          replace X7 := Lib.hid (X7.out.alloc (.cells #[.int .i64 0, .int .i64 0, .slice none 0 0] 28))
          have X8 := Lib.hid (Blk.newH x6 [.int .i64 0, .int .i64 0, .slice none 0 0] 28 (x6.heap.size) (by first | rfl | simp))
          obtain ⟨x9, hx9⟩ : ∃ x9, (x6.alloc (.cells #[.int .i64 0, .int .i64 0, .slice none 0 0] 28)) = x9 := ⟨_, rfl⟩
          rw [hx9] at X7 X8 hy hp hHeld ⊢
          clear hx9
          have z0 := X7.out.c 0 _ rfl
          have z1 := X7.out.c 1 _ rfl
          have zf := X7.out.f
          have v0 := X8.out.c 0 _ rfl
          have v1 := X8.out.c 1 _ rfl
          have v2 := X8.out.c 2 _ rfl
          have vf := X8.out.f
          have BX := hHeld.1
          have hne : wr.heap.size ≠ x6.heap.size := by omega
          refine rg_one (i := 12) (by kernel_rfl) (rg_late rfl (by rfl) (by kernel_rfl) (fun K hK => ?_))
          go_simp
          refine hK.out _ _ ?_
          clear hK K
          try simp only [Act.put, List.setIfInBounds_toArray, List.set_cons_zero, List.set_cons_succ]
          refine rg_one (i := 13) (by kernel_rfl) (rg_late rfl (by rfl) (by kernel_rfl) (fun K hK => ?_))
          go_simp
          refine hK.out _ _ ?_
          clear hK K
          try simp only [Act.put, List.setIfInBounds_toArray, List.set_cons_zero, List.set_cons_succ]
          refine rg_pure (i := 14) (some 9) (v := ?_) rfl rfl (by kernel_rfl) (by rfl) hQ7 (by first | exact .inr hHeld | exact .inl (by kernel_rfl)) ?_ ?_
          rotate_left
          · intro w7; go_simp; all_goals with_reducible rfl
          try simp only [Act.put, List.setIfInBounds_toArray, List.set_cons_zero, List.set_cons_succ]
          refine rg_end (by kernel_rfl) (HN7.out _ _ ⟨_, wr.heap.size, x6.heap.size, y, p, err, ?_, ?_, ⟨BX, by omega, by omega, hne, X7.out, X8.out, hy, hp, o7.1, o8.1, o7.2, o8.2, fun b hb hf => HOO.out b (by first | exact hb | (simp; omega)) hf⟩, HAP.out⟩) _
          · simp only [Act.put, List.setIfInBounds_toArray, List.set_cons_zero, List.set_cons_succ]
          · rfl
        · go_simp
          refine hK.out _ _ ?_ (fun hHeld2 => ?_)
          · exact SS.out _ (ext_alloc hHeld.1 _)
          clear hHeld
          have hHeld := hHeld2
          clear hHeld2
          clear hK K
          try simp only [Act.put, List.setIfInBounds_toArray, List.set_cons_zero, List.set_cons_succ]
          replace X7 := Lib.hid (X7.out.alloc (.cells #[.int .i64 0, .int .i64 0, .slice none 0 0] 28))
          have X8 := Lib.hid (Blk.newH (wr.drew.alloc (.cells #[.slice none 0 0, .slice none 0 0] 25)) [.int .i64 0, .int .i64 0, .slice none 0 0] 28 (wr.heap.size + 1) (by first | rfl | simp))
          refine rg_one (i := 5) (by kernel_rfl) (rg_step rfl (by rfl) (fun K hK => ?_))
          go_simp
          refine (hap_any m mv _ (RR.out.ys.ok.ext hHeld.1) HX.out).mono ?_
          rintro e x6 ⟨y, p, err, rfl, hap, hy, hp, B6, hoo⟩
          go_wp2_with fail
          refine hK.out _ _ ?_ (fun hHeld2 => ?_)
          · exact SS.out _ (ext_trans hHeld.1 B6)
          clear hHeld
          have hHeld := hHeld2
          clear hHeld2
          clear hK K
          try simp only [Act.put, List.setIfInBounds_toArray, List.set_cons_zero, List.set_cons_succ]
          have hx6 : wr.heap.size ≤ x6.heap.size := hHeld.1.size
          have hx8 := B6.size
          try simp at hx8
          rw [HT.out.1] at hap
          have HAP := Lib.hid hap
          have HOO := Lib.hid hoo
          clear hap hoo
          have o7 := HOO.out (wr.heap.size) (by first | (simp; done) | (simp; omega)) (RR.out.ys.ok.off (by omega))
          replace X7 := Lib.hid (X7.out.ext B6)
          have o8 := HOO.out (wr.heap.size + 1) (by first | (simp; done) | (simp; omega)) (RR.out.ys.ok.off (by omega))
          replace X8 := Lib.hid (X8.out.ext B6)
          refine rg_pure (i := 6) (some 24) (v := ?_) rfl rfl (by kernel_rfl) (by rfl) hQ7 (by first | exact .inr hHeld | exact .inl (by kernel_rfl)) ?_ ?_
          rotate_left
          · intro w7; go_simp; all_goals with_reducible rfl
          try simp only [Act.put, List.setIfInBounds_toArray, List.set_cons_zero, List.set_cons_succ]
          refine rg_pure (i := 7) (some 31) (v := ?_) rfl rfl (by kernel_rfl) (by rfl) hQ7 (by first | exact .inr hHeld | exact .inl (by kernel_rfl)) ?_ ?_
          rotate_left
          · intro w7; go_simp; all_goals with_reducible rfl
          try simp only [Act.put, List.setIfInBounds_toArray, List.set_cons_zero, List.set_cons_succ]
          refine rg_pure (i := 8) (some 32) (v := ?_) rfl rfl (by kernel_rfl) (by rfl) hQ7 (by first | exact .inr hHeld | exact .inl (by kernel_rfl)) ?_ ?_
          rotate_left
          · intro w7; go_simp; all_goals with_reducible rfl
          try simp only [Act.put, List.setIfInBounds_toArray, List.set_cons_zero, List.set_cons_succ]
          refine rg_pure (i := 9) (some 33) (v := ?_) rfl rfl (by kernel_rfl) (by rfl) hQ7 (by first | exact .inr hHeld | exact .inl (by kernel_rfl)) ?_ ?_
          rotate_left
          · intro w7; go_simp; all_goals with_reducible rfl
          try simp only [Act.put, List.setIfInBounds_toArray, List.set_cons_zero, List.set_cons_succ]
          obtain ⟨x9, hx9⟩ : ∃ x9, x6 = x9 := ⟨_, rfl⟩
          rw [hx9] at X7 X8 hy hp hHeld ⊢
          clear hx9
          have z0 := X7.out.c 0 _ rfl
          have z1 := X7.out.c 1 _ rfl
          have zf := X7.out.f
          have v0 := X8.out.c 0 _ rfl
          have v1 := X8.out.c 1 _ rfl
          have v2 := X8.out.c 2 _ rfl
          have vf := X8.out.f
          have BX := hHeld.1
          have hne : wr.heap.size ≠ wr.heap.size + 1 := by omega
          refine rg_one (i := 12) (by kernel_rfl) (rg_late rfl (by rfl) (by kernel_rfl) (fun K hK => ?_))
          go_simp
          refine hK.out _ _ ?_
          clear hK K
          try simp only [Act.put, List.setIfInBounds_toArray, List.set_cons_zero, List.set_cons_succ]
          refine rg_one (i := 13) (by kernel_rfl) (rg_late rfl (by rfl) (by kernel_rfl) (fun K hK => ?_))
          go_simp
          refine hK.out _ _ ?_
          clear hK K
          try simp only [Act.put, List.setIfInBounds_toArray, List.set_cons_zero, List.set_cons_succ]
          refine rg_pure (i := 14) (some 9) (v := ?_) rfl rfl (by kernel_rfl) (by rfl) hQ7 (by first | exact .inr hHeld | exact .inl (by kernel_rfl)) ?_ ?_
          rotate_left
          · intro w7; go_simp; all_goals with_reducible rfl
          try simp only [Act.put, List.setIfInBounds_toArray, List.set_cons_zero, List.set_cons_succ]
          refine rg_end (by kernel_rfl) (HN7.out _ _ ⟨_, wr.heap.size, wr.heap.size + 1, y, p, err, ?_, ?_, ⟨BX, by omega, by omega, hne, X7.out, X8.out, hy, hp, o7.1, o8.1, o7.2, o8.2, fun b hb hf => HOO.out b (by first | exact hb | (simp; omega)) hf⟩, HAP.out⟩) _
          · simp only [Act.put, List.setIfInBounds_toArray, List.set_cons_zero, List.set_cons_succ]
          · rfl
      · go_simp
        refine hK.out _ _ ?_ (fun hHeld2 => ?_)
        · exact SS.out _ (ext_alloc hHeld.1 _)
        clear hHeld
        have hHeld := hHeld2
        clear hHeld2
        clear hK K
        try simp only [Act.put, List.setIfInBounds_toArray, List.set_cons_zero, List.set_cons_succ]
        have X8 := Lib.hid (Blk.newH wr.drew [.int .i64 0, .int .i64 0, .slice none 0 0] 28 (wr.heap.size) (by first | rfl | simp))
        refine rg_two (i := 5) (j := 10) (by kernel_rfl) (rg_step rfl (by rfl) (fun K hK => ?_)) (rg_step rfl (by rfl) (fun K hK => ?_))
        · go_simp
          refine (hap_any m mv _ (RR.out.ys.ok.ext hHeld.1) HX.out).mono ?_
          rintro e x6 ⟨y, p, err, rfl, hap, hy, hp, B6, hoo⟩
          go_wp2_with fail
          refine hK.out _ _ ?_ (fun hHeld2 => ?_)
          · exact SS.out _ (ext_trans hHeld.1 B6)
          clear hHeld
          have hHeld := hHeld2
          clear hHeld2
          clear hK K
          try simp only [Act.put, List.setIfInBounds_toArray, List.set_cons_zero, List.set_cons_succ]
          have hx6 : wr.heap.size ≤ x6.heap.size := hHeld.1.size
          have hx8 := B6.size
          try simp at hx8
          rw [HT.out.1] at hap
          have HAP := Lib.hid hap
          have HOO := Lib.hid hoo
          clear hap hoo
          have o8 := HOO.out (wr.heap.size) (by first | (simp; done) | (simp; omega)) (RR.out.ys.ok.off (by omega))
          replace X8 := Lib.hid (X8.out.ext B6)
          refine rg_pure (i := 6) (some 24) (v := ?_) rfl rfl (by kernel_rfl) (by rfl) hQ7 (by first | exact .inr hHeld | exact .inl (by kernel_rfl)) ?_ ?_
          rotate_left
          · intro w7; go_simp; all_goals with_reducible rfl
          try simp only [Act.put, List.setIfInBounds_toArray, List.set_cons_zero, List.set_cons_succ]
          refine rg_pure (i := 7) (some 31) (v := ?_) rfl rfl (by kernel_rfl) (by rfl) hQ7 (by first | exact .inr hHeld | exact .inl (by kernel_rfl)) ?_ ?_
          rotate_left
          · intro w7; go_simp; all_goals with_reducible rfl
          try simp only [Act.put, List.setIfInBounds_toArray, List.set_cons_zero, List.set_cons_succ]
          refine rg_pure (i := 8) (some 32) (v := ?_) rfl rfl (by kernel_rfl) (by rfl) hQ7 (by first | exact .inr hHeld | exact .inl (by kernel_rfl)) ?_ ?_
          rotate_left
          · intro w7; go_simp; all_goals with_reducible rfl
          try simp only [Act.put, List.setIfInBounds_toArray, List.set_cons_zero, List.set_cons_succ]
          refine rg_pure (i := 9) (some 33) (v := ?_) rfl rfl (by kernel_rfl) (by rfl) hQ7 (by first | exact .inr hHeld | exact .inl (by kernel_rfl)) ?_ ?_
          rotate_left
          · intro w7; go_simp; all_goals with_reducible rfl
          try simp only [Act.put, List.setIfInBounds_toArray, List.set_cons_zero, List.set_cons_succ]
          refine rg_one (i := 10) (by kernel_rfl) (rg_step rfl (by rfl) (fun K hK => ?_))
          go_simp
          refine hK.out _ _ ?_ (fun hHeld2 => ?_)
          · exact SS.out _ (ext_alloc hHeld.1 _)
          clear hHeld
          have hHeld := hHeld2
          clear hHeld2
          clear hK K
          try simp only [Act.put, List.setIfInBounds_toArray, List.set_cons_zero, List.set_cons_succ]
          have o7 : y.off (x6.heap.size) ∧ p.off (x6.heap.size) := ⟨hy.off (by simp), hp.off (by simp)⟩
          replace hy := hy.alloc (.cells #[.slice none 0 0, .slice none 0 0] 25)
          replace hp := hp.ext (ext_alloc (ext_refl _) (.cells #[.slice none 0 0, .slice none 0 0] 25))
          replace X8 := Lib.hid (X8.out.alloc (.cells #[.slice none 0 0, .slice none 0 0] 25))
          have X7 := Lib.hid (Blk.newH x6 [.slice none 0 0, .slice none 0 0] 25 (x6.heap.size) (by first | rfl | simp))
          obtain ⟨x9, hx9⟩ : ∃ x9, (x6.alloc (.cells #[.slice none 0 0, .slice none 0 0] 25)) = x9 := ⟨_, rfl⟩
          rw [hx9] at X7 X8 hy hp hHeld ⊢
          clear hx9
          have z0 := X7.out.c 0 _ rfl
          have z1 := X7.out.c 1 _ rfl
          have zf := X7.out.f
          have v0 := X8.out.c 0 _ rfl
          have v1 := X8.out.c 1 _ rfl
          have v2 := X8.out.c 2 _ rfl
          have vf := X8.out.f
          have BX := hHeld.1
          have hne : x6.heap.size ≠ wr.heap.size := by omega
          refine rg_one (i := 12) (by kernel_rfl) (rg_late rfl (by rfl) (by kernel_rfl) (fun K hK => ?_))
          go_simp
          refine hK.out _ _ ?_
          clear hK K
          try simp only [Act.put, List.setIfInBounds_toArray, List.set_cons_zero, List.set_cons_succ]
          refine rg_one (i := 13) (by kernel_rfl) (rg_late rfl (by rfl) (by kernel_rfl) (fun K hK => ?_))
          go_simp
          refine hK.out _ _ ?_
          clear hK K
          try simp only [Act.put, List.setIfInBounds_toArray, List.set_cons_zero, List.set_cons_succ]
          refine rg_pure (i := 14) (some 9) (v := ?_) rfl rfl (by kernel_rfl) (by rfl) hQ7 (by first | exact .inr hHeld | exact .inl (by kernel_rfl)) ?_ ?_
          rotate_left
          · intro w7; go_simp; all_goals with_reducible rfl
          try simp only [Act.put, List.setIfInBounds_toArray, List.set_cons_zero, List.set_cons_succ]
          refine rg_end (by kernel_rfl) (HN7.out _ _ ⟨_, x6.heap.size, wr.heap.size, y, p, err, ?_, ?_, ⟨BX, by omega, by omega, hne, X7.out, X8.out, hy, hp, o7.1, o8.1, o7.2, o8.2, fun b hb hf => HOO.out b (by first | exact hb | (simp; omega)) hf⟩, HAP.out⟩) _
          · simp only [Act.put, List.setIfInBounds_toArray, List.set_cons_zero, List.set_cons_succ]
          · rfl
        · go_simp
          refine hK.out _ _ ?_ (fun hHeld2 => ?_)
          · exact SS.out _ (ext_alloc hHeld.1 _)
          clear hHeld
          have hHeld := hHeld2
          clear hHeld2
          clear hK K
          try simp only [Act.put, List.setIfInBounds_toArray, List.set_cons_zero, List.set_cons_succ]
          replace X8 := Lib.hid (X8.out.alloc (.cells #[.slice none 0 0, .slice none 0 0] 25))
          have X7 := Lib.hid (Blk.newH (wr.drew.alloc (.cells #[.int .i64 0, .int .i64 0, .slice none 0 0] 28)) [.slice none 0 0, .slice none 0 0] 25 (wr.heap.size + 1) (by first | rfl | simp))
          refine rg_one (i := 5) (by kernel_rfl) (rg_step rfl (by rfl) (fun K hK => ?_))
          go_simp
          refine (hap_any m mv _ (RR.out.ys.ok.ext hHeld.1) HX.out).mono ?_
          rintro e x6 ⟨y, p, err, rfl, hap, hy, hp, B6, hoo⟩
          go_wp2_with fail
          refine hK.out _ _ ?_ (fun hHeld2 => ?_)
          · exact SS.out _ (ext_trans hHeld.1 B6)
          clear hHeld
          have hHeld := hHeld2
          clear hHeld2
          clear hK K
          try simp only [Act.put, List.setIfInBounds_toArray, List.set_cons_zero, List.set_cons_succ]
          have hx6 : wr.heap.size ≤ x6.heap.size := hHeld.1.size
          have hx8 := B6.size
          try simp at hx8
          rw [HT.out.1] at hap
          have HAP := Lib.hid hap
          have HOO := Lib.hid hoo
          clear hap hoo
          have o7 := HOO.out (wr.heap.size + 1) (by first | (simp; done) | (simp; omega)) (RR.out.ys.ok.off (by omega))
          replace X7 := Lib.hid (X7.out.ext B6)
          have o8 := HOO.out (wr.heap.size) (by first | (simp; done) | (simp; omega)) (RR.out.ys.ok.off (by omega))
          replace X8 := Lib.hid (X8.out.ext B6)
          refine rg_pure (i := 6) (some 24) (v := ?_) rfl rfl (by kernel_rfl) (by rfl) hQ7 (by first | exact .inr hHeld | exact .inl (by kernel_rfl)) ?_ ?_
          rotate_left
          · intro w7; go_simp; all_goals with_reducible rfl
          try simp only [Act.put, List.setIfInBounds_toArray, List.set_cons_zero, List.set_cons_succ]
          refine rg_pure (i := 7) (some 31) (v := ?_) rfl rfl (by kernel_rfl) (by rfl) hQ7 (by first | exact .inr hHeld | exact .inl (by kernel_rfl)) ?_ ?_
          rotate_left
          · intro w7; go_simp; all_goals with_reducible rfl
          try simp only [Act.put, List.setIfInBounds_toArray, List.set_cons_zero, List.set_cons_succ]
          refine rg_pure (i := 8) (some 32) (v := ?_) rfl rfl (by kernel_rfl) (by rfl) hQ7 (by first | exact .inr hHeld | exact .inl (by kernel_rfl)) ?_ ?_
          rotate_left
          · intro w7; go_simp; all_goals with_reducible rfl
          try simp only [Act.put, List.setIfInBounds_toArray, List.set_cons_zero, List.set_cons_succ]
          refine rg_pure (i := 9) (some 33) (v := ?_) rfl rfl (by kernel_rfl) (by rfl) hQ7 (by first | exact .inr hHeld | exact .inl (by kernel_rfl)) ?_ ?_
          rotate_left
          · intro w7; go_simp; all_goals with_reducible rfl
          try simp only [Act.put, List.setIfInBounds_toArray, List.set_cons_zero, List.set_cons_succ]
          obtain ⟨x9, hx9⟩ : ∃ x9, x6 = x9 := ⟨_, rfl⟩
          rw [hx9] at X7 X8 hy hp hHeld ⊢
          clear hx9
          have z0 := X7.out.c 0 _ rfl
          have z1 := X7.out.c 1 _ rfl
          have zf := X7.out.f
          have v0 := X8.out.c 0 _ rfl
          have v1 := X8.out.c 1 _ rfl
          have v2 := X8.out.c 2 _ rfl
          have vf := X8.out.f
          have BX := hHeld.1
          have hne : wr.heap.size + 1 ≠ wr.heap.size := by omega
          refine rg_one (i := 12) (by kernel_rfl) (rg_late rfl (by rfl) (by kernel_rfl) (fun K hK => ?_))
          go_simp
          refine hK.out _ _ ?_
          clear hK K
          try simp only [Act.put, List.setIfInBounds_toArray, List.set_cons_zero, List.set_cons_succ]
          refine rg_one (i := 13) (by kernel_rfl) (rg_late rfl (by rfl) (by kernel_rfl) (fun K hK => ?_))
          go_simp
          refine hK.out _ _ ?_
          clear hK K
          try simp only [Act.put, List.setIfInBounds_toArray, List.set_cons_zero, List.set_cons_succ]
          refine rg_pure (i := 14) (some 9) (v := ?_) rfl rfl (by kernel_rfl) (by rfl) hQ7 (by first | exact .inr hHeld | exact .inl (by kernel_rfl)) ?_ ?_
          rotate_left
          · intro w7; go_simp; all_goals with_reducible rfl
          try simp only [Act.put, List.setIfInBounds_toArray, List.set_cons_zero, List.set_cons_succ]
          refine rg_end (by kernel_rfl) (HN7.out _ _ ⟨_, wr.heap.size + 1, wr.heap.size, y, p, err, ?_, ?_, ⟨BX, by omega, by omega, hne, X7.out, X8.out, hy, hp, o7.1, o8.1, o7.2, o8.2, fun b hb hf => HOO.out b (by first | exact hb | (simp; omega)) hf⟩, HAP.out⟩) _
          · simp only [Act.put, List.setIfInBounds_toArray, List.set_cons_zero, List.set_cons_succ]
          · rfl
    rintro _ w6 ⟨W, H7, H8, y, p, err, rfl, hw6, hG, hap⟩
    simp only [Act.put, List.setIfInBounds_toArray, List.set_cons_zero, List.set_cons_succ]
    have LL := Lib.hid hG.laid
    unfold set2 set3 at LL
    rw [← hw6] at LL
    clear hw6 hG SS
    have HP := Lib.hid hap
    clear hap
    have RR2 := Lib.hid (show Rs w6 w2.heap.size R m (.slice RA R.length Rc) cuts from ⟨RR.out.blk.ext LL.out.b, RR.out.ys.ext LL.out.b, RR.out.sn.ext LL.out.b, RR.out.chk, RR.out.mem, RR.out.cut⟩)
    have YS := Lib.hid (show Ys w6 w2.heap.size y (.slice RA R.length Rc) from ⟨LL.out.oy, (LL.out.off _ sB RR.out.ys.off).1, fun b e => (LL.out.off b ((RR.out.sn.own.lt b e).1) (RR.out.ys.sep b e)).1⟩)
    have E6 := Lib.hid (ext_trans E.out LL.out.b)
    have X7 := Lib.hid LL.out.x7
    have X8 := Lib.hid LL.out.x8
    have PO := Lib.hid LL.out.op
    have c0 := (LL.out.b.cell (p := ⟨b1, _, none⟩) HB1.out.1).trans (HB1.out.2.2 0 _ rfl)
    simp only [Nat.add_zero] at c0
    have HC0 := Lib.hid c0
    have H7R := Lib.hid (show ∀ r, (Value.slice RA R.length Rc).ownBlock = some r → r ≠ H7 from fun r e h => by have := (RR.out.sn.own.lt r e).1; have := LL.out.g7; omega)
    have HH := Lib.hid (show w2.heap.size ≠ H7 ∧ w2.heap.size ≠ H8 from by have := LL.out.g7; have := LL.out.g8; omega)
    clear RR E LL c0 sB W
    have n0 := RR2.out.blk.c 0 _ rfl
    have n1 := RR2.out.blk.c 1 _ rfl
    have y0 := X7.out.c 0 _ rfl
    have y1 := X7.out.c 1 _ rfl
    by_cases herr : err = 0
    rotate_left
    · have hz := HP.out.no herr
      have HZ := Lib.hid hz
      clear hz
      go_wp2_with fail
      refine (check_at (n := m) 0 RR2.out.chk RR2.out.ys.ok).mono ?_
      rintro e w7 ⟨rfl, B7⟩
      have y0' := (X7.out.ext B7).c 0 _ rfl
      have y1' := (X7.out.ext B7).c 1 _ rfl
      clear n0 n1 y0 y1
      go_wp2_with fail
      refine (same_at (a := y) (b := zeroN) true (sameN_eq HZ.out.1 HZ.out.2) (YS.out.ok.ext B7) (NOk.zero _)).mono ?_
      rintro e w8 ⟨rfl, B8⟩
      clear y0' y1'
      go_wp2_with fail
      go_roundw
      case rel =>
        have B9 := ext_trans B7 B8
        exact ⟨k + 1, m, R, RA, Rc, cuts, hlt, by omega, by omega, rfl, rfl, by go_num, Lib.hid ⟨RR2.out.blk.ext B9, RR2.out.ys.ext B9, RR2.out.sn.ext B9, RR2.out.chk, RR2.out.mem, RR2.out.cut⟩, Lib.hid (ext_trans E6.out B9)⟩
      case measure => simp [intOf]; omega
    subst herr
    have hk0 := HC0.out
    have ht2 := HT.out.2.1
    have hYC := HP.out.chk rfl
    have HYC := Lib.hid hYC
    clear hYC n0 n1
    rcases (show t = 0 ∨ t = 1 ∨ t = 4 ∨ (t ≠ 0 ∧ t ≠ 1 ∧ t ≠ 4) by have := HT.out.2.2; omega) with hA | hB | hC | hD
    · subst hA
      obtain ⟨x, hx⟩ := HP.out.send rfl rfl
      have HQ := Lib.hid hx
      have hQL : y.q.l.length = m.q.l.length + 1 := by rw [hx]; simp
      have hQM := chkE_len HYC.out
      clear hx
      obtain ⟨L, hL⟩ : ∃ L, y.q.l.length = L := ⟨_, rfl⟩
      have HL := Lib.hid hL
      obtain ⟨x', b2, o2, hx2, hA2, hb2, hc2⟩ := YS.out.ok.q.at_ (k := m.q.l.length) (by omega)
      have hxx : x = x' := by rw [HQ.out, List.getElem?_append_right (Nat.le_refl _)] at hx2; simpa using hx2
      subst hxx
      have x0 := hc2 0 _ rfl
      have x1 := hc2 1 _ rfl
      have x2 := hc2 2 _ rfl
      simp only [Nat.add_zero] at x0
      obtain ⟨QA, hQA⟩ : ∃ QA, y.q.A = QA := ⟨_, rfl⟩
      have HQA := Lib.hid hQA
      have L1 : ¬ (L : Int) = 0 := by omega
      have L2 : IntKind.i64.wrap ((L : Int) - 1) = (m.q.l.length : Int) := by rw [IntWalk.i64_in _ (by omega)]; omega
      have L3 : (m.q.l.length : Int) < L := by omega
      have L4 : (0 : Int) ≤ (m.q.l.length : Int) := by omega
      rw [hL, hQA] at y0
      rw [hQA] at hA2
      subst hA2
      have hRl : R.length ≤ 60 := by omega
      clear hc2 hx2 hQL hL hQA
      have hS := slc_litH w6 [x] #[.int .i64 x.f, .int .i64 x.t, .slice x.d.A x.d.l.length x.d.c] 28 (enc := Pk.cells) (sz := 3) (fun _ => rfl) rfl w6.heap.size rfl
      obtain ⟨v', x10, hrun, hO5, hg5, hat⟩ := (RR2.out.sn.own.alloc (.cells #[.int .i64 x.f, .int .i64 x.t, .slice x.d.A x.d.l.length x.d.c] 28)).append pkI 22 (ys := [x]) (m := 1) rfl 1 hS (by simp; omega) (by unfold maxLen; simp; omega) (by simp; have := RR2.out.blk.lt; omega)
      obtain ⟨g5, c5, cur5, hv5, _⟩ := hO5.some_ (by simp)
      subst hv5
      have Ba := ext_alloc (ext_refl w6) (.cells #[.int .i64 x.f, .int .i64 x.t, .slice x.d.A x.d.l.length x.d.c] 28)
      have hrow := fun r e => (RR2.out.sn.own.lt r e)
      obtain ⟨hsn, hys⟩ := sn_app (RR2.out.sn.ext Ba) (YS.out.ext Ba) (P := x) (by rw [HQ.out]; simp) hO5 hg5 hat
      have SN := Lib.hid hsn
      have EE := Lib.hid (ext_grown (ext_trans E6.out Ba) hg5 (fun r e => by have := (hrow r e).2; omega))
      have XB := Lib.hid ((RR2.out.blk.ext Ba).keepB (hg5.block _ (Nat.lt_of_lt_of_le RR2.out.blk.lt Ba.size) (fun e => by have := (hrow _ e.symm).2; omega)))
      have hX7 := (X7.out.ext Ba).keepB (hg5.block _ (Nat.lt_of_lt_of_le X7.out.lt Ba.size) (fun e => H7R.out _ e.symm rfl))
      have HRUN := Lib.hid hrun
      clear hrun hg5 hO5 hS hat hrow hsn Ba
      replace X7 := Lib.hid hX7
      replace YS := Lib.hid hys
      clear hX7 hys
      have e0 := XB.out.c 0 _ rfl
      have e1 := XB.out.c 1 _ rfl
      have ef := XB.out.f
      have q0 := X7.out.c 0 _ rfl
      have q1 := X7.out.c 1 _ rfl
      have XB2 := Lib.hid (XB.out.put2 (.slice y.q.A y.q.l.length y.q.c) (.slice y.ap.A y.ap.l.length y.ap.c))
      have SN2 := Lib.hid (SN.out.put (.slice y.q.A y.q.l.length y.q.c) (.slice y.ap.A y.ap.l.length y.ap.c))
      have YS2 := Lib.hid (YS.out.put (.slice y.q.A y.q.l.length y.q.c) (.slice y.ap.A y.ap.l.length y.ap.c))
      have E2 := Lib.hid (ext_set2 EE.out w2.heap.size (.slice y.q.A y.q.l.length y.q.c) (.slice y.ap.A y.ap.l.length y.ap.c) hw2)
      obtain ⟨w12, hw12⟩ : ∃ w12, set2 x10 w2.heap.size (.slice y.q.A y.q.l.length y.q.c) (.slice y.ap.A y.ap.l.length y.ap.c) = w12 := ⟨_, rfl⟩
      rw [hw12] at XB2 SN2 YS2 E2
      unfold set2 at hw12
      have g0 := XB2.out.c 0 _ rfl
      have g1 := XB2.out.c 1 _ rfl
      have HCH := Lib.hid (show ∀ X, X = w12 → Calls Try.prog 12 #[.agg #[.slice y.q.A y.q.l.length y.q.c, .slice y.ap.A y.ap.l.length y.ap.c]] X (RetE X 0) from fun X hX => check_at (n := y) 0 HYC.out (by rw [hX]; exact YS2.out.ok))
      go_wp2_with (at_builtin; refine wpList_append_run rfl (.tmp 57) (.tmp 66) 22 rfl (.slice RA R.length Rc) (.slice (some ⟨w6.heap.size, 0, none⟩) 1 1) rfl rfl HRUN.out ?_)
      refine (HCH.out _ rfl).mono ?_
      clear hw12 e0 e1 ef q0 q1 g0 g1 HCH
      rintro e w13 ⟨rfl, B13⟩
      go_wp2_with fail
      go_roundw
      case rel =>
        refine ⟨k + 1, y, R ++ [x], some ⟨g5, 0, none⟩, c5, cuts, hlt, by first | omega | (simp; omega), by omega, by first | rfl | simp, by first | rfl | go_num, by go_num, Lib.hid ⟨XB2.out.ext B13, YS2.out.ext B13, SN2.out.ext B13, HYC.out, ?_, ?_⟩, Lib.hid (ext_trans E2.out B13)⟩
        · exact fun p hp => by rw [HQ.out] at hp; exact (List.mem_append.1 hp).elim (fun h => List.mem_append_left _ (RR2.out.mem p h)) (fun h => List.mem_append_right _ h)
        · exact fun h => RR2.out.cut (HP.out.ap rfl (by decide) h)
      case measure => simp [intOf]; omega
    · subst hB
      have p0 := X8.out.c 0 _ rfl
      have p1 := X8.out.c 1 _ rfl
      have p2 := X8.out.c 2 _ rfl
      obtain ⟨wo, rfl⟩ : ∃ wo, wo = wr := ⟨_, rfl⟩
      clear HB1
      obtain ⟨s, hs⟩ : ∃ s, sameP p zeroP = s := ⟨_, rfl⟩
      have HS := Lib.hid hs
      clear hs
      cases s
      · have hme : false = true ∨ p ∈ R := by
          rcases HP.out.del rfl rfl with ⟨h1, h2⟩ | h
          · have h3 := HS.out; rw [h1, sameP_zero] at h3; cases h3
          · exact .inr (RR2.out.mem p h)
        have HME := Lib.hid hme
        clear hme y0 y1
        go_wp2_with fail
        refine (samep_at (p := p) (q := zeroP) false HS.out PO.out.1 Slc.nil).mono ?_
        rintro e w7 ⟨rfl, B7⟩
        clear p0 p1 p2 hk0
        replace X8 := Lib.hid (X8.out.ext B7)
        replace X7 := Lib.hid (X7.out.ext B7)
        replace PO := Lib.hid (PO.out.ext B7)
        have SN := Lib.hid (RR2.out.sn.ext B7)
        have XB := Lib.hid (RR2.out.blk.ext B7)
        replace YS := Lib.hid (YS.out.ext B7)
        have EE := Lib.hid (ext_trans E6.out B7)
        clear B7
        have SL := Lib.hid (SN.out.own.slc pkI.hl pkI.hz)
        go_wp2_with fail
        go_loopw [10, 11] (fun v i wr => ∃ j : Nat, j ≤ R.length ∧ v = .bool (metL false R p j) ∧ i = .int .i64 j ∧ Hid (Below w7.heap.size w7 wr)) (fun _ i _ => R.length - (intOf i).toNat)
        case atStart => exact ⟨0, Nat.zero_le _, by rw [metL_zero], rfl, Lib.hid (ext_refl w7)⟩
        case round =>
          obtain ⟨j, hj, rfl, rfl, BJ⟩ := hrel
          by_cases hjl : j < R.length
          rotate_left
          · have hge : ¬ (j : Int) < R.length := by omega
            obtain ⟨g, hg⟩ : ∃ g, metL false R p j = g := ⟨_, rfl⟩
            obtain rfl : g = true := by rw [← hg]; exact metL_end (by omega) (by first | exact HME.out | exact .inl rfl)
            rw [hg]
            replace X7 := Lib.hid (X7.out.ext BJ.out)
            replace SN := Lib.hid (SN.out.ext BJ.out)
            replace XB := Lib.hid (XB.out.ext BJ.out)
            replace YS := Lib.hid (YS.out.ext BJ.out)
            replace EE := Lib.hid (ext_trans EE.out BJ.out)
            clear SL hg X8 PO
            have e0 := XB.out.c 0 _ rfl
            have e1 := XB.out.c 1 _ rfl
            have ef := XB.out.f
            have q0 := X7.out.c 0 _ rfl
            have q1 := X7.out.c 1 _ rfl
            have XB2 := Lib.hid (XB.out.put2 (.slice y.q.A y.q.l.length y.q.c) (.slice y.ap.A y.ap.l.length y.ap.c))
            have SN2 := Lib.hid (SN.out.put (.slice y.q.A y.q.l.length y.q.c) (.slice y.ap.A y.ap.l.length y.ap.c))
            have YS2 := Lib.hid (YS.out.put (.slice y.q.A y.q.l.length y.q.c) (.slice y.ap.A y.ap.l.length y.ap.c))
            have E2 := Lib.hid (ext_set2 EE.out w2.heap.size (.slice y.q.A y.q.l.length y.q.c) (.slice y.ap.A y.ap.l.length y.ap.c) hw2)
            obtain ⟨w12, hw12⟩ : ∃ w12, set2 wr w2.heap.size (.slice y.q.A y.q.l.length y.q.c) (.slice y.ap.A y.ap.l.length y.ap.c) = w12 := ⟨_, rfl⟩
            rw [hw12] at XB2 SN2 YS2 E2
            unfold set2 at hw12
            have g0 := XB2.out.c 0 _ rfl
            have g1 := XB2.out.c 1 _ rfl
            have HCH := Lib.hid (show ∀ X, X = w12 → Calls Try.prog 12 #[.agg #[.slice y.q.A y.q.l.length y.q.c, .slice y.ap.A y.ap.l.length y.ap.c]] X (RetE X 0) from fun X hX => check_at (n := y) 0 HYC.out (by rw [hX]; exact YS2.out.ok))
            go_wp2_with fail
            refine (HCH.out _ rfl).mono ?_
            clear hw12 e0 e1 ef q0 q1 g0 g1 HCH
            rintro e w13 ⟨rfl, B13⟩
            go_wp2_with fail
            go_roundw
            case rel =>
              refine ⟨k + 1, y, R, RA, Rc, cuts, hlt, by first | omega | (simp; omega), by omega, by first | rfl | simp, by first | rfl | go_num, by go_num, Lib.hid ⟨XB2.out.ext B13, YS2.out.ext B13, SN2.out.ext B13, HYC.out, ?_, ?_⟩, Lib.hid (ext_trans E2.out B13)⟩
              · exact fun p hp => RR2.out.mem p (HP.out.mem rfl (by decide) p hp)
              · exact fun h => RR2.out.cut (HP.out.ap rfl (by decide) h)
            case measure => simp [intOf]; omega
          rename_i K2 a2
          clear a2
          obtain ⟨x, b2, o2, hx, hA2, hb2, hcx⟩ := (SL.out.ext BJ.out).at_ hjl
          have hjl' : (j : Int) < R.length := by omega
          have j0 : (0 : Int) ≤ j := by omega
          have jn : (j : Int).toNat = j := by omega
          have XD := Lib.hid ((SN.out.d x (List.mem_of_getElem? hx)).1.ext BJ.out)
          have PD := Lib.hid (PO.out.ext BJ.out)
          have HXJ := Lib.hid hx
          have d0 := hcx 0 _ rfl
          have d1 := hcx 1 _ rfl
          have d2 := hcx 2 _ rfl
          simp only [Nat.add_zero] at d0
          subst hA2
          have X8J := X8.out.ext BJ.out
          have SS2 := Lib.hid (show ∀ w', Below wr.heap.size wr w' → (fun w' => Below wr.heap.size wr w' ∧ w'.cell? ⟨H8, 0, none⟩ = some (.int .i64 p.f) ∧ w'.cell? ⟨H8, 1, none⟩ = some (.int .i64 p.t) ∧ w'.cell? ⟨H8, 2, none⟩ = some (.slice p.d.A p.d.l.length p.d.c) ∧ w'.cell? ⟨b2, o2 + j * 3, none⟩ = some (.int .i64 x.f) ∧ w'.cell? ⟨b2, o2 + j * 3 + 1, none⟩ = some (.int .i64 x.t) ∧ w'.cell? ⟨b2, o2 + j * 3 + 2, none⟩ = some (.slice x.d.A x.d.l.length x.d.c)) w' from fun w' h => ⟨h, (X8J.ext h).c 0 _ rfl, (X8J.ext h).c 1 _ rfl, (X8J.ext h).c 2 _ rfl, (h.cell (p := ⟨b2, _, none⟩) hb2).trans d0, (h.cell (p := ⟨b2, _, none⟩) hb2).trans d1, (h.cell (p := ⟨b2, _, none⟩) hb2).trans d2⟩)
          clear hcx hx d0 d1 d2 X8J
          obtain ⟨g, hg⟩ : ∃ g, metL false R p j = g := ⟨_, rfl⟩
          have HG := Lib.hid hg
          simp only [hg]
          clear hg
          cases g
          · obtain ⟨s3, hs3⟩ : ∃ s3, sameP x p = s3 := ⟨_, rfl⟩
            have HS3 := Lib.hid hs3
            clear hs3
            go_wp2_with fail
            refine rg_begin (S := (fun w' => Below wr.heap.size wr w' ∧ w'.cell? ⟨H8, 0, none⟩ = some (.int .i64 p.f) ∧ w'.cell? ⟨H8, 1, none⟩ = some (.int .i64 p.t) ∧ w'.cell? ⟨H8, 2, none⟩ = some (.slice p.d.A p.d.l.length p.d.c) ∧ w'.cell? ⟨b2, o2 + j * 3, none⟩ = some (.int .i64 x.f) ∧ w'.cell? ⟨b2, o2 + j * 3 + 1, none⟩ = some (.int .i64 x.t) ∧ w'.cell? ⟨b2, o2 + j * 3 + 2, none⟩ = some (.slice x.d.A x.d.l.length x.d.c))) 10 (by kernel_rfl) (by intro d; cases d <;> intro _ _ _ _ h <;> exact h) ?_ (fun Q7 hQ7 hN7 hHeld => ?_)
            · exact SS2.out _ (ext_drew (ext_refl wr))
            refine rg_take (i := 0) (some 83) (v := ?_) rfl rfl (by kernel_rfl) (by rfl) hQ7 hHeld ?_ ?_
            rotate_left
            · intro w7 hSw; (try dsimp only at hSw); go_simp; all_goals with_reducible rfl
            try simp only [Act.put, List.setIfInBounds_toArray, List.set_cons_zero, List.set_cons_succ]
            refine rg_take (i := 1) (some 84) (v := ?_) rfl rfl (by kernel_rfl) (by rfl) hQ7 hHeld ?_ ?_
            rotate_left
            · intro w7 hSw; (try dsimp only at hSw); go_simp; all_goals with_reducible rfl
            try simp only [Act.put, List.setIfInBounds_toArray, List.set_cons_zero, List.set_cons_succ]
            refine rg_take (i := 2) (some 85) (v := ?_) rfl rfl (by kernel_rfl) (by rfl) hQ7 hHeld ?_ ?_
            rotate_left
            · intro w7 hSw; (try dsimp only at hSw); go_simp; all_goals with_reducible rfl
            try simp only [Act.put, List.setIfInBounds_toArray, List.set_cons_zero, List.set_cons_succ]
            refine rg_take (i := 3) (some 86) (v := ?_) rfl rfl (by kernel_rfl) (by rfl) hQ7 hHeld ?_ ?_
            rotate_left
            · intro w7 hSw; (try dsimp only at hSw); go_simp; all_goals with_reducible rfl
            try simp only [Act.put, List.setIfInBounds_toArray, List.set_cons_zero, List.set_cons_succ]
            refine rg_take (i := 4) (some 87) (v := ?_) rfl rfl (by kernel_rfl) (by rfl) hQ7 hHeld ?_ ?_
            rotate_left
            · intro w7 hSw; (try dsimp only at hSw); go_simp; all_goals with_reducible rfl
            try simp only [Act.put, List.setIfInBounds_toArray, List.set_cons_zero, List.set_cons_succ]
            refine rg_take (i := 5) (some 88) (v := ?_) rfl rfl (by kernel_rfl) (by rfl) hQ7 hHeld ?_ ?_
            rotate_left
            · intro w7 hSw; (try dsimp only at hSw); go_simp; all_goals with_reducible rfl
            try simp only [Act.put, List.setIfInBounds_toArray, List.set_cons_zero, List.set_cons_succ]
            refine rg_take (i := 6) (some 89) (v := ?_) rfl rfl (by kernel_rfl) (by rfl) hQ7 hHeld ?_ ?_
            rotate_left
            · intro w7 hSw; (try dsimp only at hSw); go_simp; all_goals with_reducible rfl
            try simp only [Act.put, List.setIfInBounds_toArray, List.set_cons_zero, List.set_cons_succ]
            refine rg_one (i := 7) (by kernel_rfl) (rg_step rfl (by rfl) (fun K hK => ?_))
            go_simp
            refine (samep_at (p := x) (q := p) s3 HS3.out (XD.out.1.ext hHeld.1) (PD.out.1.ext hHeld.1)).mono ?_
            rintro e w8 ⟨rfl, B8⟩
            go_wp2_with fail
            refine hK.out _ _ ?_ (fun hHeld2 => ?_)
            · exact SS2.out _ (ext_trans hHeld.1 B8)
            clear hHeld
            have hHeld := hHeld2
            clear hHeld2
            clear hK K
            try simp only [Act.put, List.setIfInBounds_toArray, List.set_cons_zero, List.set_cons_succ]
            refine rg_take (i := 8) (some 91) (v := ?_) rfl rfl (by kernel_rfl) (by rfl) hQ7 hHeld ?_ ?_
            rotate_left
            · intro w7 hSw; (try dsimp only at hSw); go_simp; all_goals with_reducible rfl
            try simp only [Act.put, List.setIfInBounds_toArray, List.set_cons_zero, List.set_cons_succ]
            refine rg_take (i := 9) (some 10) (v := ?_) rfl rfl (by kernel_rfl) (by rfl) hQ7 hHeld ?_ ?_
            rotate_left
            · intro w7 hSw; (try dsimp only at hSw); go_simp; all_goals with_reducible rfl
            try simp only [Act.put, List.setIfInBounds_toArray, List.set_cons_zero, List.set_cons_succ]
            refine rg_end (by kernel_rfl) (hN7 _ _ ?_) _
            clear hQ7 hN7 Q7
            have BX := hHeld.1
            go_wp2_with fail
            go_roundw
            case rel => exact ⟨j + 1, hjl, by rw [metL_step HXJ.out, HG.out, HS3.out]; simp, by go_num, Lib.hid (ext_trans BJ.out BX)⟩
            case measure => simp [intOf]; omega
          · go_wp2_with fail
            refine rg_begin (S := (fun w' => Below wr.heap.size wr w' ∧ w'.cell? ⟨H8, 0, none⟩ = some (.int .i64 p.f) ∧ w'.cell? ⟨H8, 1, none⟩ = some (.int .i64 p.t) ∧ w'.cell? ⟨H8, 2, none⟩ = some (.slice p.d.A p.d.l.length p.d.c) ∧ w'.cell? ⟨b2, o2 + j * 3, none⟩ = some (.int .i64 x.f) ∧ w'.cell? ⟨b2, o2 + j * 3 + 1, none⟩ = some (.int .i64 x.t) ∧ w'.cell? ⟨b2, o2 + j * 3 + 2, none⟩ = some (.slice x.d.A x.d.l.length x.d.c))) 10 (by kernel_rfl) (by intro d; cases d <;> intro _ _ _ _ h <;> exact h) ?_ (fun Q7 hQ7 hN7 hHeld => ?_)
            · exact SS2.out _ (ext_drew (ext_refl wr))
            refine rg_take (i := 0) (some 83) (v := ?_) rfl rfl (by kernel_rfl) (by rfl) hQ7 hHeld ?_ ?_
            rotate_left
            · intro w7 hSw; (try dsimp only at hSw); go_simp; all_goals with_reducible rfl
            try simp only [Act.put, List.setIfInBounds_toArray, List.set_cons_zero, List.set_cons_succ]
            refine rg_take (i := 1) (some 84) (v := ?_) rfl rfl (by kernel_rfl) (by rfl) hQ7 hHeld ?_ ?_
            rotate_left
            · intro w7 hSw; (try dsimp only at hSw); go_simp; all_goals with_reducible rfl
            try simp only [Act.put, List.setIfInBounds_toArray, List.set_cons_zero, List.set_cons_succ]
            refine rg_skip (i := 2) (some 85) rfl rfl (by kernel_rfl) (by rfl) hQ7 hHeld ?_
            try simp only [Act.put, List.setIfInBounds_toArray, List.set_cons_zero, List.set_cons_succ]
            refine rg_skip (i := 3) (some 86) rfl rfl (by kernel_rfl) (by rfl) hQ7 hHeld ?_
            try simp only [Act.put, List.setIfInBounds_toArray, List.set_cons_zero, List.set_cons_succ]
            refine rg_skip (i := 4) (some 87) rfl rfl (by kernel_rfl) (by rfl) hQ7 hHeld ?_
            try simp only [Act.put, List.setIfInBounds_toArray, List.set_cons_zero, List.set_cons_succ]
            refine rg_skip (i := 5) (some 88) rfl rfl (by kernel_rfl) (by rfl) hQ7 hHeld ?_
            try simp only [Act.put, List.setIfInBounds_toArray, List.set_cons_zero, List.set_cons_succ]
            refine rg_skip (i := 6) (some 89) rfl rfl (by kernel_rfl) (by rfl) hQ7 hHeld ?_
            try simp only [Act.put, List.setIfInBounds_toArray, List.set_cons_zero, List.set_cons_succ]
            refine rg_skip (i := 7) (some 90) rfl rfl (by kernel_rfl) (by rfl) hQ7 hHeld ?_
            try simp only [Act.put, List.setIfInBounds_toArray, List.set_cons_zero, List.set_cons_succ]
            refine rg_take (i := 8) (some 91) (v := ?_) rfl rfl (by kernel_rfl) (by rfl) hQ7 hHeld ?_ ?_
            rotate_left
            · intro w7 hSw; (try dsimp only at hSw); go_simp; all_goals with_reducible rfl
            try simp only [Act.put, List.setIfInBounds_toArray, List.set_cons_zero, List.set_cons_succ]
            refine rg_take (i := 9) (some 10) (v := ?_) rfl rfl (by kernel_rfl) (by rfl) hQ7 hHeld ?_ ?_
            rotate_left
            · intro w7 hSw; (try dsimp only at hSw); go_simp; all_goals with_reducible rfl
            try simp only [Act.put, List.setIfInBounds_toArray, List.set_cons_zero, List.set_cons_succ]
            refine rg_end (by kernel_rfl) (hN7 _ _ ?_) _
            clear hQ7 hN7 Q7
            have BX := hHeld.1
            go_wp2_with fail
            go_roundw
            case rel => exact ⟨j + 1, hjl, by rw [metL_step HXJ.out, HG.out]; simp, by go_num, Lib.hid (ext_trans BJ.out BX)⟩
            case measure => simp [intOf]; omega
      by_cases hcut : 0 < cuts
      · have hcut2 : (0 : Int) < cuts := by omega
        have hme : true = true ∨ p ∈ R := by
          rcases HP.out.del rfl rfl with ⟨h1, h2⟩ | h
          · exact .inl rfl
          · exact .inr (RR2.out.mem p h)
        have HME := Lib.hid hme
        clear hme y0 y1
        go_wp2_with fail
        refine (samep_at (p := p) (q := zeroP) true HS.out PO.out.1 Slc.nil).mono ?_
        rintro e w7 ⟨rfl, B7⟩
        clear p0 p1 p2 hk0
        replace X8 := Lib.hid (X8.out.ext B7)
        replace X7 := Lib.hid (X7.out.ext B7)
        replace PO := Lib.hid (PO.out.ext B7)
        have SN := Lib.hid (RR2.out.sn.ext B7)
        have XB := Lib.hid (RR2.out.blk.ext B7)
        replace YS := Lib.hid (YS.out.ext B7)
        have EE := Lib.hid (ext_trans E6.out B7)
        clear B7
        have SL := Lib.hid (SN.out.own.slc pkI.hl pkI.hz)
        go_wp2_with fail
        go_loopw [10, 11] (fun v i wr => ∃ j : Nat, j ≤ R.length ∧ v = .bool (metL true R p j) ∧ i = .int .i64 j ∧ Hid (Below w7.heap.size w7 wr)) (fun _ i _ => R.length - (intOf i).toNat)
        case atStart => exact ⟨0, Nat.zero_le _, by rw [metL_zero], rfl, Lib.hid (ext_refl w7)⟩
        case round =>
          obtain ⟨j, hj, rfl, rfl, BJ⟩ := hrel
          by_cases hjl : j < R.length
          rotate_left
          · have hge : ¬ (j : Int) < R.length := by omega
            obtain ⟨g, hg⟩ : ∃ g, metL true R p j = g := ⟨_, rfl⟩
            obtain rfl : g = true := by rw [← hg]; exact metL_end (by omega) (by first | exact HME.out | exact .inl rfl)
            rw [hg]
            replace X7 := Lib.hid (X7.out.ext BJ.out)
            replace SN := Lib.hid (SN.out.ext BJ.out)
            replace XB := Lib.hid (XB.out.ext BJ.out)
            replace YS := Lib.hid (YS.out.ext BJ.out)
            replace EE := Lib.hid (ext_trans EE.out BJ.out)
            clear SL hg X8 PO
            have e0 := XB.out.c 0 _ rfl
            have e1 := XB.out.c 1 _ rfl
            have ef := XB.out.f
            have q0 := X7.out.c 0 _ rfl
            have q1 := X7.out.c 1 _ rfl
            have XB2 := Lib.hid (XB.out.put2 (.slice y.q.A y.q.l.length y.q.c) (.slice y.ap.A y.ap.l.length y.ap.c))
            have SN2 := Lib.hid (SN.out.put (.slice y.q.A y.q.l.length y.q.c) (.slice y.ap.A y.ap.l.length y.ap.c))
            have YS2 := Lib.hid (YS.out.put (.slice y.q.A y.q.l.length y.q.c) (.slice y.ap.A y.ap.l.length y.ap.c))
            have E2 := Lib.hid (ext_set2 EE.out w2.heap.size (.slice y.q.A y.q.l.length y.q.c) (.slice y.ap.A y.ap.l.length y.ap.c) hw2)
            obtain ⟨w12, hw12⟩ : ∃ w12, set2 wr w2.heap.size (.slice y.q.A y.q.l.length y.q.c) (.slice y.ap.A y.ap.l.length y.ap.c) = w12 := ⟨_, rfl⟩
            rw [hw12] at XB2 SN2 YS2 E2
            unfold set2 at hw12
            have g0 := XB2.out.c 0 _ rfl
            have g1 := XB2.out.c 1 _ rfl
            have HCH := Lib.hid (show ∀ X, X = w12 → Calls Try.prog 12 #[.agg #[.slice y.q.A y.q.l.length y.q.c, .slice y.ap.A y.ap.l.length y.ap.c]] X (RetE X 0) from fun X hX => check_at (n := y) 0 HYC.out (by rw [hX]; exact YS2.out.ok))
            go_wp2_with fail
            refine (HCH.out _ rfl).mono ?_
            clear hw12 e0 e1 ef q0 q1 g0 g1 HCH
            rintro e w13 ⟨rfl, B13⟩
            go_wp2_with fail
            go_roundw
            case rel =>
              refine ⟨k + 1, y, R, RA, Rc, cuts, hlt, by first | omega | (simp; omega), by omega, by first | rfl | simp, by first | rfl | go_num, by go_num, Lib.hid ⟨XB2.out.ext B13, YS2.out.ext B13, SN2.out.ext B13, HYC.out, ?_, ?_⟩, Lib.hid (ext_trans E2.out B13)⟩
              · exact fun p hp => RR2.out.mem p (HP.out.mem rfl (by decide) p hp)
              · exact fun h => RR2.out.cut (HP.out.ap rfl (by decide) h)
            case measure => simp [intOf]; omega
          rename_i K2 a2
          clear a2
          obtain ⟨x, b2, o2, hx, hA2, hb2, hcx⟩ := (SL.out.ext BJ.out).at_ hjl
          have hjl' : (j : Int) < R.length := by omega
          have j0 : (0 : Int) ≤ j := by omega
          have jn : (j : Int).toNat = j := by omega
          have XD := Lib.hid ((SN.out.d x (List.mem_of_getElem? hx)).1.ext BJ.out)
          have PD := Lib.hid (PO.out.ext BJ.out)
          have HXJ := Lib.hid hx
          have d0 := hcx 0 _ rfl
          have d1 := hcx 1 _ rfl
          have d2 := hcx 2 _ rfl
          simp only [Nat.add_zero] at d0
          subst hA2
          have X8J := X8.out.ext BJ.out
          have SS2 := Lib.hid (show ∀ w', Below wr.heap.size wr w' → (fun w' => Below wr.heap.size wr w' ∧ w'.cell? ⟨H8, 0, none⟩ = some (.int .i64 p.f) ∧ w'.cell? ⟨H8, 1, none⟩ = some (.int .i64 p.t) ∧ w'.cell? ⟨H8, 2, none⟩ = some (.slice p.d.A p.d.l.length p.d.c) ∧ w'.cell? ⟨b2, o2 + j * 3, none⟩ = some (.int .i64 x.f) ∧ w'.cell? ⟨b2, o2 + j * 3 + 1, none⟩ = some (.int .i64 x.t) ∧ w'.cell? ⟨b2, o2 + j * 3 + 2, none⟩ = some (.slice x.d.A x.d.l.length x.d.c)) w' from fun w' h => ⟨h, (X8J.ext h).c 0 _ rfl, (X8J.ext h).c 1 _ rfl, (X8J.ext h).c 2 _ rfl, (h.cell (p := ⟨b2, _, none⟩) hb2).trans d0, (h.cell (p := ⟨b2, _, none⟩) hb2).trans d1, (h.cell (p := ⟨b2, _, none⟩) hb2).trans d2⟩)
          clear hcx hx d0 d1 d2 X8J
          obtain ⟨g, hg⟩ : ∃ g, metL true R p j = g := ⟨_, rfl⟩
          have HG := Lib.hid hg
          simp only [hg]
          clear hg
          cases g
          · obtain ⟨s3, hs3⟩ : ∃ s3, sameP x p = s3 := ⟨_, rfl⟩
            have HS3 := Lib.hid hs3
            clear hs3
            go_wp2_with fail
            refine rg_begin (S := (fun w' => Below wr.heap.size wr w' ∧ w'.cell? ⟨H8, 0, none⟩ = some (.int .i64 p.f) ∧ w'.cell? ⟨H8, 1, none⟩ = some (.int .i64 p.t) ∧ w'.cell? ⟨H8, 2, none⟩ = some (.slice p.d.A p.d.l.length p.d.c) ∧ w'.cell? ⟨b2, o2 + j * 3, none⟩ = some (.int .i64 x.f) ∧ w'.cell? ⟨b2, o2 + j * 3 + 1, none⟩ = some (.int .i64 x.t) ∧ w'.cell? ⟨b2, o2 + j * 3 + 2, none⟩ = some (.slice x.d.A x.d.l.length x.d.c))) 10 (by kernel_rfl) (by intro d; cases d <;> intro _ _ _ _ h <;> exact h) ?_ (fun Q7 hQ7 hN7 hHeld => ?_)
            · exact SS2.out _ (ext_drew (ext_refl wr))
            refine rg_take (i := 0) (some 83) (v := ?_) rfl rfl (by kernel_rfl) (by rfl) hQ7 hHeld ?_ ?_
            rotate_left
            · intro w7 hSw; (try dsimp only at hSw); go_simp; all_goals with_reducible rfl
            try simp only [Act.put, List.setIfInBounds_toArray, List.set_cons_zero, List.set_cons_succ]
            refine rg_take (i := 1) (some 84) (v := ?_) rfl rfl (by kernel_rfl) (by rfl) hQ7 hHeld ?_ ?_
            rotate_left
            · intro w7 hSw; (try dsimp only at hSw); go_simp; all_goals with_reducible rfl
            try simp only [Act.put, List.setIfInBounds_toArray, List.set_cons_zero, List.set_cons_succ]
            refine rg_take (i := 2) (some 85) (v := ?_) rfl rfl (by kernel_rfl) (by rfl) hQ7 hHeld ?_ ?_
            rotate_left
            · intro w7 hSw; (try dsimp only at hSw); go_simp; all_goals with_reducible rfl
            try simp only [Act.put, List.setIfInBounds_toArray, List.set_cons_zero, List.set_cons_succ]
            refine rg_take (i := 3) (some 86) (v := ?_) rfl rfl (by kernel_rfl) (by rfl) hQ7 hHeld ?_ ?_
            rotate_left
            · intro w7 hSw; (try dsimp only at hSw); go_simp; all_goals with_reducible rfl
            try simp only [Act.put, List.setIfInBounds_toArray, List.set_cons_zero, List.set_cons_succ]
            refine rg_take (i := 4) (some 87) (v := ?_) rfl rfl (by kernel_rfl) (by rfl) hQ7 hHeld ?_ ?_
            rotate_left
            · intro w7 hSw; (try dsimp only at hSw); go_simp; all_goals with_reducible rfl
            try simp only [Act.put, List.setIfInBounds_toArray, List.set_cons_zero, List.set_cons_succ]
            refine rg_take (i := 5) (some 88) (v := ?_) rfl rfl (by kernel_rfl) (by rfl) hQ7 hHeld ?_ ?_
            rotate_left
            · intro w7 hSw; (try dsimp only at hSw); go_simp; all_goals with_reducible rfl
            try simp only [Act.put, List.setIfInBounds_toArray, List.set_cons_zero, List.set_cons_succ]
            refine rg_take (i := 6) (some 89) (v := ?_) rfl rfl (by kernel_rfl) (by rfl) hQ7 hHeld ?_ ?_
            rotate_left
            · intro w7 hSw; (try dsimp only at hSw); go_simp; all_goals with_reducible rfl
            try simp only [Act.put, List.setIfInBounds_toArray, List.set_cons_zero, List.set_cons_succ]
            refine rg_one (i := 7) (by kernel_rfl) (rg_step rfl (by rfl) (fun K hK => ?_))
            go_simp
            refine (samep_at (p := x) (q := p) s3 HS3.out (XD.out.1.ext hHeld.1) (PD.out.1.ext hHeld.1)).mono ?_
            rintro e w8 ⟨rfl, B8⟩
            go_wp2_with fail
            refine hK.out _ _ ?_ (fun hHeld2 => ?_)
            · exact SS2.out _ (ext_trans hHeld.1 B8)
            clear hHeld
            have hHeld := hHeld2
            clear hHeld2
            clear hK K
            try simp only [Act.put, List.setIfInBounds_toArray, List.set_cons_zero, List.set_cons_succ]
            refine rg_take (i := 8) (some 91) (v := ?_) rfl rfl (by kernel_rfl) (by rfl) hQ7 hHeld ?_ ?_
            rotate_left
            · intro w7 hSw; (try dsimp only at hSw); go_simp; all_goals with_reducible rfl
            try simp only [Act.put, List.setIfInBounds_toArray, List.set_cons_zero, List.set_cons_succ]
            refine rg_take (i := 9) (some 10) (v := ?_) rfl rfl (by kernel_rfl) (by rfl) hQ7 hHeld ?_ ?_
            rotate_left
            · intro w7 hSw; (try dsimp only at hSw); go_simp; all_goals with_reducible rfl
            try simp only [Act.put, List.setIfInBounds_toArray, List.set_cons_zero, List.set_cons_succ]
            refine rg_end (by kernel_rfl) (hN7 _ _ ?_) _
            clear hQ7 hN7 Q7
            have BX := hHeld.1
            go_wp2_with fail
            go_roundw
            case rel => exact ⟨j + 1, hjl, by rw [metL_step HXJ.out, HG.out, HS3.out]; simp, by go_num, Lib.hid (ext_trans BJ.out BX)⟩
            case measure => simp [intOf]; omega
          · go_wp2_with fail
            refine rg_begin (S := (fun w' => Below wr.heap.size wr w' ∧ w'.cell? ⟨H8, 0, none⟩ = some (.int .i64 p.f) ∧ w'.cell? ⟨H8, 1, none⟩ = some (.int .i64 p.t) ∧ w'.cell? ⟨H8, 2, none⟩ = some (.slice p.d.A p.d.l.length p.d.c) ∧ w'.cell? ⟨b2, o2 + j * 3, none⟩ = some (.int .i64 x.f) ∧ w'.cell? ⟨b2, o2 + j * 3 + 1, none⟩ = some (.int .i64 x.t) ∧ w'.cell? ⟨b2, o2 + j * 3 + 2, none⟩ = some (.slice x.d.A x.d.l.length x.d.c))) 10 (by kernel_rfl) (by intro d; cases d <;> intro _ _ _ _ h <;> exact h) ?_ (fun Q7 hQ7 hN7 hHeld => ?_)
            · exact SS2.out _ (ext_drew (ext_refl wr))
            refine rg_take (i := 0) (some 83) (v := ?_) rfl rfl (by kernel_rfl) (by rfl) hQ7 hHeld ?_ ?_
            rotate_left
            · intro w7 hSw; (try dsimp only at hSw); go_simp; all_goals with_reducible rfl
            try simp only [Act.put, List.setIfInBounds_toArray, List.set_cons_zero, List.set_cons_succ]
            refine rg_take (i := 1) (some 84) (v := ?_) rfl rfl (by kernel_rfl) (by rfl) hQ7 hHeld ?_ ?_
            rotate_left
            · intro w7 hSw; (try dsimp only at hSw); go_simp; all_goals with_reducible rfl
            try simp only [Act.put, List.setIfInBounds_toArray, List.set_cons_zero, List.set_cons_succ]
            refine rg_skip (i := 2) (some 85) rfl rfl (by kernel_rfl) (by rfl) hQ7 hHeld ?_
            try simp only [Act.put, List.setIfInBounds_toArray, List.set_cons_zero, List.set_cons_succ]
            refine rg_skip (i := 3) (some 86) rfl rfl (by kernel_rfl) (by rfl) hQ7 hHeld ?_
            try simp only [Act.put, List.setIfInBounds_toArray, List.set_cons_zero, List.set_cons_succ]
            refine rg_skip (i := 4) (some 87) rfl rfl (by kernel_rfl) (by rfl) hQ7 hHeld ?_
            try simp only [Act.put, List.setIfInBounds_toArray, List.set_cons_zero, List.set_cons_succ]
            refine rg_skip (i := 5) (some 88) rfl rfl (by kernel_rfl) (by rfl) hQ7 hHeld ?_
            try simp only [Act.put, List.setIfInBounds_toArray, List.set_cons_zero, List.set_cons_succ]
            refine rg_skip (i := 6) (some 89) rfl rfl (by kernel_rfl) (by rfl) hQ7 hHeld ?_
            try simp only [Act.put, List.setIfInBounds_toArray, List.set_cons_zero, List.set_cons_succ]
            refine rg_skip (i := 7) (some 90) rfl rfl (by kernel_rfl) (by rfl) hQ7 hHeld ?_
            try simp only [Act.put, List.setIfInBounds_toArray, List.set_cons_zero, List.set_cons_succ]
            refine rg_take (i := 8) (some 91) (v := ?_) rfl rfl (by kernel_rfl) (by rfl) hQ7 hHeld ?_ ?_
            rotate_left
            · intro w7 hSw; (try dsimp only at hSw); go_simp; all_goals with_reducible rfl
            try simp only [Act.put, List.setIfInBounds_toArray, List.set_cons_zero, List.set_cons_succ]
            refine rg_take (i := 9) (some 10) (v := ?_) rfl rfl (by kernel_rfl) (by rfl) hQ7 hHeld ?_ ?_
            rotate_left
            · intro w7 hSw; (try dsimp only at hSw); go_simp; all_goals with_reducible rfl
            try simp only [Act.put, List.setIfInBounds_toArray, List.set_cons_zero, List.set_cons_succ]
            refine rg_end (by kernel_rfl) (hN7 _ _ ?_) _
            clear hQ7 hN7 Q7
            have BX := hHeld.1
            go_wp2_with fail
            go_roundw
            case rel => exact ⟨j + 1, hjl, by rw [metL_step HXJ.out, HG.out]; simp, by go_num, Lib.hid (ext_trans BJ.out BX)⟩
            case measure => simp [intOf]; omega
      · have hcut2 : ¬ (0 : Int) < cuts := by omega
        have hme : false = true ∨ p ∈ R := by
          rcases HP.out.del rfl rfl with ⟨h1, h2⟩ | h
          · have := RR2.out.cut h2; omega
          · exact .inr (RR2.out.mem p h)
        have HME := Lib.hid hme
        clear hme y0 y1
        go_wp2_with fail
        refine (samep_at (p := p) (q := zeroP) true HS.out PO.out.1 Slc.nil).mono ?_
        rintro e w7 ⟨rfl, B7⟩
        clear p0 p1 p2 hk0
        replace X8 := Lib.hid (X8.out.ext B7)
        replace X7 := Lib.hid (X7.out.ext B7)
        replace PO := Lib.hid (PO.out.ext B7)
        have SN := Lib.hid (RR2.out.sn.ext B7)
        have XB := Lib.hid (RR2.out.blk.ext B7)
        replace YS := Lib.hid (YS.out.ext B7)
        have EE := Lib.hid (ext_trans E6.out B7)
        clear B7
        have SL := Lib.hid (SN.out.own.slc pkI.hl pkI.hz)
        go_wp2_with fail
        go_loopw [10, 11] (fun v i wr => ∃ j : Nat, j ≤ R.length ∧ v = .bool (metL false R p j) ∧ i = .int .i64 j ∧ Hid (Below w7.heap.size w7 wr)) (fun _ i _ => R.length - (intOf i).toNat)
        case atStart => exact ⟨0, Nat.zero_le _, by rw [metL_zero], rfl, Lib.hid (ext_refl w7)⟩
        case round =>
          obtain ⟨j, hj, rfl, rfl, BJ⟩ := hrel
          by_cases hjl : j < R.length
          rotate_left
          · have hge : ¬ (j : Int) < R.length := by omega
            obtain ⟨g, hg⟩ : ∃ g, metL false R p j = g := ⟨_, rfl⟩
            obtain rfl : g = true := by rw [← hg]; exact metL_end (by omega) (by first | exact HME.out | exact .inl rfl)
            rw [hg]
            replace X7 := Lib.hid (X7.out.ext BJ.out)
            replace SN := Lib.hid (SN.out.ext BJ.out)
            replace XB := Lib.hid (XB.out.ext BJ.out)
            replace YS := Lib.hid (YS.out.ext BJ.out)
            replace EE := Lib.hid (ext_trans EE.out BJ.out)
            clear SL hg X8 PO
            have e0 := XB.out.c 0 _ rfl
            have e1 := XB.out.c 1 _ rfl
            have ef := XB.out.f
            have q0 := X7.out.c 0 _ rfl
            have q1 := X7.out.c 1 _ rfl
            have XB2 := Lib.hid (XB.out.put2 (.slice y.q.A y.q.l.length y.q.c) (.slice y.ap.A y.ap.l.length y.ap.c))
            have SN2 := Lib.hid (SN.out.put (.slice y.q.A y.q.l.length y.q.c) (.slice y.ap.A y.ap.l.length y.ap.c))
            have YS2 := Lib.hid (YS.out.put (.slice y.q.A y.q.l.length y.q.c) (.slice y.ap.A y.ap.l.length y.ap.c))
            have E2 := Lib.hid (ext_set2 EE.out w2.heap.size (.slice y.q.A y.q.l.length y.q.c) (.slice y.ap.A y.ap.l.length y.ap.c) hw2)
            obtain ⟨w12, hw12⟩ : ∃ w12, set2 wr w2.heap.size (.slice y.q.A y.q.l.length y.q.c) (.slice y.ap.A y.ap.l.length y.ap.c) = w12 := ⟨_, rfl⟩
            rw [hw12] at XB2 SN2 YS2 E2
            unfold set2 at hw12
            have g0 := XB2.out.c 0 _ rfl
            have g1 := XB2.out.c 1 _ rfl
            have HCH := Lib.hid (show ∀ X, X = w12 → Calls Try.prog 12 #[.agg #[.slice y.q.A y.q.l.length y.q.c, .slice y.ap.A y.ap.l.length y.ap.c]] X (RetE X 0) from fun X hX => check_at (n := y) 0 HYC.out (by rw [hX]; exact YS2.out.ok))
            go_wp2_with fail
            refine (HCH.out _ rfl).mono ?_
            clear hw12 e0 e1 ef q0 q1 g0 g1 HCH
            rintro e w13 ⟨rfl, B13⟩
            go_wp2_with fail
            go_roundw
            case rel =>
              refine ⟨k + 1, y, R, RA, Rc, cuts, hlt, by first | omega | (simp; omega), by omega, by first | rfl | simp, by first | rfl | go_num, by go_num, Lib.hid ⟨XB2.out.ext B13, YS2.out.ext B13, SN2.out.ext B13, HYC.out, ?_, ?_⟩, Lib.hid (ext_trans E2.out B13)⟩
              · exact fun p hp => RR2.out.mem p (HP.out.mem rfl (by decide) p hp)
              · exact fun h => RR2.out.cut (HP.out.ap rfl (by decide) h)
            case measure => simp [intOf]; omega
          rename_i K2 a2
          clear a2
          obtain ⟨x, b2, o2, hx, hA2, hb2, hcx⟩ := (SL.out.ext BJ.out).at_ hjl
          have hjl' : (j : Int) < R.length := by omega
          have j0 : (0 : Int) ≤ j := by omega
          have jn : (j : Int).toNat = j := by omega
          have XD := Lib.hid ((SN.out.d x (List.mem_of_getElem? hx)).1.ext BJ.out)
          have PD := Lib.hid (PO.out.ext BJ.out)
          have HXJ := Lib.hid hx
          have d0 := hcx 0 _ rfl
          have d1 := hcx 1 _ rfl
          have d2 := hcx 2 _ rfl
          simp only [Nat.add_zero] at d0
          subst hA2
          have X8J := X8.out.ext BJ.out
          have SS2 := Lib.hid (show ∀ w', Below wr.heap.size wr w' → (fun w' => Below wr.heap.size wr w' ∧ w'.cell? ⟨H8, 0, none⟩ = some (.int .i64 p.f) ∧ w'.cell? ⟨H8, 1, none⟩ = some (.int .i64 p.t) ∧ w'.cell? ⟨H8, 2, none⟩ = some (.slice p.d.A p.d.l.length p.d.c) ∧ w'.cell? ⟨b2, o2 + j * 3, none⟩ = some (.int .i64 x.f) ∧ w'.cell? ⟨b2, o2 + j * 3 + 1, none⟩ = some (.int .i64 x.t) ∧ w'.cell? ⟨b2, o2 + j * 3 + 2, none⟩ = some (.slice x.d.A x.d.l.length x.d.c)) w' from fun w' h => ⟨h, (X8J.ext h).c 0 _ rfl, (X8J.ext h).c 1 _ rfl, (X8J.ext h).c 2 _ rfl, (h.cell (p := ⟨b2, _, none⟩) hb2).trans d0, (h.cell (p := ⟨b2, _, none⟩) hb2).trans d1, (h.cell (p := ⟨b2, _, none⟩) hb2).trans d2⟩)
          clear hcx hx d0 d1 d2 X8J
          obtain ⟨g, hg⟩ : ∃ g, metL false R p j = g := ⟨_, rfl⟩
          have HG := Lib.hid hg
          simp only [hg]
          clear hg
          cases g
          · obtain ⟨s3, hs3⟩ : ∃ s3, sameP x p = s3 := ⟨_, rfl⟩
            have HS3 := Lib.hid hs3
            clear hs3
            go_wp2_with fail
            refine rg_begin (S := (fun w' => Below wr.heap.size wr w' ∧ w'.cell? ⟨H8, 0, none⟩ = some (.int .i64 p.f) ∧ w'.cell? ⟨H8, 1, none⟩ = some (.int .i64 p.t) ∧ w'.cell? ⟨H8, 2, none⟩ = some (.slice p.d.A p.d.l.length p.d.c) ∧ w'.cell? ⟨b2, o2 + j * 3, none⟩ = some (.int .i64 x.f) ∧ w'.cell? ⟨b2, o2 + j * 3 + 1, none⟩ = some (.int .i64 x.t) ∧ w'.cell? ⟨b2, o2 + j * 3 + 2, none⟩ = some (.slice x.d.A x.d.l.length x.d.c))) 10 (by kernel_rfl) (by intro d; cases d <;> intro _ _ _ _ h <;> exact h) ?_ (fun Q7 hQ7 hN7 hHeld => ?_)
            · exact SS2.out _ (ext_drew (ext_refl wr))
            refine rg_take (i := 0) (some 83) (v := ?_) rfl rfl (by kernel_rfl) (by rfl) hQ7 hHeld ?_ ?_
            rotate_left
            · intro w7 hSw; (try dsimp only at hSw); go_simp; all_goals with_reducible rfl
            try simp only [Act.put, List.setIfInBounds_toArray, List.set_cons_zero, List.set_cons_succ]
            refine rg_take (i := 1) (some 84) (v := ?_) rfl rfl (by kernel_rfl) (by rfl) hQ7 hHeld ?_ ?_
            rotate_left
            · intro w7 hSw; (try dsimp only at hSw); go_simp; all_goals with_reducible rfl
            try simp only [Act.put, List.setIfInBounds_toArray, List.set_cons_zero, List.set_cons_succ]
            refine rg_take (i := 2) (some 85) (v := ?_) rfl rfl (by kernel_rfl) (by rfl) hQ7 hHeld ?_ ?_
            rotate_left
            · intro w7 hSw; (try dsimp only at hSw); go_simp; all_goals with_reducible rfl
            try simp only [Act.put, List.setIfInBounds_toArray, List.set_cons_zero, List.set_cons_succ]
            refine rg_take (i := 3) (some 86) (v := ?_) rfl rfl (by kernel_rfl) (by rfl) hQ7 hHeld ?_ ?_
            rotate_left
            · intro w7 hSw; (try dsimp only at hSw); go_simp; all_goals with_reducible rfl
            try simp only [Act.put, List.setIfInBounds_toArray, List.set_cons_zero, List.set_cons_succ]
            refine rg_take (i := 4) (some 87) (v := ?_) rfl rfl (by kernel_rfl) (by rfl) hQ7 hHeld ?_ ?_
            rotate_left
            · intro w7 hSw; (try dsimp only at hSw); go_simp; all_goals with_reducible rfl
            try simp only [Act.put, List.setIfInBounds_toArray, List.set_cons_zero, List.set_cons_succ]
            refine rg_take (i := 5) (some 88) (v := ?_) rfl rfl (by kernel_rfl) (by rfl) hQ7 hHeld ?_ ?_
            rotate_left
            · intro w7 hSw; (try dsimp only at hSw); go_simp; all_goals with_reducible rfl
            try simp only [Act.put, List.setIfInBounds_toArray, List.set_cons_zero, List.set_cons_succ]
            refine rg_take (i := 6) (some 89) (v := ?_) rfl rfl (by kernel_rfl) (by rfl) hQ7 hHeld ?_ ?_
            rotate_left
            · intro w7 hSw; (try dsimp only at hSw); go_simp; all_goals with_reducible rfl
            try simp only [Act.put, List.setIfInBounds_toArray, List.set_cons_zero, List.set_cons_succ]
            refine rg_one (i := 7) (by kernel_rfl) (rg_step rfl (by rfl) (fun K hK => ?_))
            go_simp
            refine (samep_at (p := x) (q := p) s3 HS3.out (XD.out.1.ext hHeld.1) (PD.out.1.ext hHeld.1)).mono ?_
            rintro e w8 ⟨rfl, B8⟩
            go_wp2_with fail
            refine hK.out _ _ ?_ (fun hHeld2 => ?_)
            · exact SS2.out _ (ext_trans hHeld.1 B8)
            clear hHeld
            have hHeld := hHeld2
            clear hHeld2
            clear hK K
            try simp only [Act.put, List.setIfInBounds_toArray, List.set_cons_zero, List.set_cons_succ]
            refine rg_take (i := 8) (some 91) (v := ?_) rfl rfl (by kernel_rfl) (by rfl) hQ7 hHeld ?_ ?_
            rotate_left
            · intro w7 hSw; (try dsimp only at hSw); go_simp; all_goals with_reducible rfl
            try simp only [Act.put, List.setIfInBounds_toArray, List.set_cons_zero, List.set_cons_succ]
            refine rg_take (i := 9) (some 10) (v := ?_) rfl rfl (by kernel_rfl) (by rfl) hQ7 hHeld ?_ ?_
            rotate_left
            · intro w7 hSw; (try dsimp only at hSw); go_simp; all_goals with_reducible rfl
            try simp only [Act.put, List.setIfInBounds_toArray, List.set_cons_zero, List.set_cons_succ]
            refine rg_end (by kernel_rfl) (hN7 _ _ ?_) _
            clear hQ7 hN7 Q7
            have BX := hHeld.1
            go_wp2_with fail
            go_roundw
            case rel => exact ⟨j + 1, hjl, by rw [metL_step HXJ.out, HG.out, HS3.out]; simp, by go_num, Lib.hid (ext_trans BJ.out BX)⟩
            case measure => simp [intOf]; omega
          · go_wp2_with fail
            refine rg_begin (S := (fun w' => Below wr.heap.size wr w' ∧ w'.cell? ⟨H8, 0, none⟩ = some (.int .i64 p.f) ∧ w'.cell? ⟨H8, 1, none⟩ = some (.int .i64 p.t) ∧ w'.cell? ⟨H8, 2, none⟩ = some (.slice p.d.A p.d.l.length p.d.c) ∧ w'.cell? ⟨b2, o2 + j * 3, none⟩ = some (.int .i64 x.f) ∧ w'.cell? ⟨b2, o2 + j * 3 + 1, none⟩ = some (.int .i64 x.t) ∧ w'.cell? ⟨b2, o2 + j * 3 + 2, none⟩ = some (.slice x.d.A x.d.l.length x.d.c))) 10 (by kernel_rfl) (by intro d; cases d <;> intro _ _ _ _ h <;> exact h) ?_ (fun Q7 hQ7 hN7 hHeld => ?_)
            · exact SS2.out _ (ext_drew (ext_refl wr))
            refine rg_take (i := 0) (some 83) (v := ?_) rfl rfl (by kernel_rfl) (by rfl) hQ7 hHeld ?_ ?_
            rotate_left
            · intro w7 hSw; (try dsimp only at hSw); go_simp; all_goals with_reducible rfl
            try simp only [Act.put, List.setIfInBounds_toArray, List.set_cons_zero, List.set_cons_succ]
            refine rg_take (i := 1) (some 84) (v := ?_) rfl rfl (by kernel_rfl) (by rfl) hQ7 hHeld ?_ ?_
            rotate_left
            · intro w7 hSw; (try dsimp only at hSw); go_simp; all_goals with_reducible rfl
            try simp only [Act.put, List.setIfInBounds_toArray, List.set_cons_zero, List.set_cons_succ]
            refine rg_skip (i := 2) (some 85) rfl rfl (by kernel_rfl) (by rfl) hQ7 hHeld ?_
            try simp only [Act.put, List.setIfInBounds_toArray, List.set_cons_zero, List.set_cons_succ]
            refine rg_skip (i := 3) (some 86) rfl rfl (by kernel_rfl) (by rfl) hQ7 hHeld ?_
            try simp only [Act.put, List.setIfInBounds_toArray, List.set_cons_zero, List.set_cons_succ]
            refine rg_skip (i := 4) (some 87) rfl rfl (by kernel_rfl) (by rfl) hQ7 hHeld ?_
            try simp only [Act.put, List.setIfInBounds_toArray, List.set_cons_zero, List.set_cons_succ]
            refine rg_skip (i := 5) (some 88) rfl rfl (by kernel_rfl) (by rfl) hQ7 hHeld ?_
            try simp only [Act.put, List.setIfInBounds_toArray, List.set_cons_zero, List.set_cons_succ]
            refine rg_skip (i := 6) (some 89) rfl rfl (by kernel_rfl) (by rfl) hQ7 hHeld ?_
            try simp only [Act.put, List.setIfInBounds_toArray, List.set_cons_zero, List.set_cons_succ]
            refine rg_skip (i := 7) (some 90) rfl rfl (by kernel_rfl) (by rfl) hQ7 hHeld ?_
            try simp only [Act.put, List.setIfInBounds_toArray, List.set_cons_zero, List.set_cons_succ]
            refine rg_take (i := 8) (some 91) (v := ?_) rfl rfl (by kernel_rfl) (by rfl) hQ7 hHeld ?_ ?_
            rotate_left
            · intro w7 hSw; (try dsimp only at hSw); go_simp; all_goals with_reducible rfl
            try simp only [Act.put, List.setIfInBounds_toArray, List.set_cons_zero, List.set_cons_succ]
            refine rg_take (i := 9) (some 10) (v := ?_) rfl rfl (by kernel_rfl) (by rfl) hQ7 hHeld ?_ ?_
            rotate_left
            · intro w7 hSw; (try dsimp only at hSw); go_simp; all_goals with_reducible rfl
            try simp only [Act.put, List.setIfInBounds_toArray, List.set_cons_zero, List.set_cons_succ]
            refine rg_end (by kernel_rfl) (hN7 _ _ ?_) _
            clear hQ7 hN7 Q7
            have BX := hHeld.1
            go_wp2_with fail
            go_roundw
            case rel => exact ⟨j + 1, hjl, by rw [metL_step HXJ.out, HG.out]; simp, by go_num, Lib.hid (ext_trans BJ.out BX)⟩
            case measure => simp [intOf]; omega
    · subst hC
      have SN := Lib.hid RR2.out.sn
      have XB := Lib.hid RR2.out.blk
      have EE := E6
      clear y0 y1
      have e0 := XB.out.c 0 _ rfl
      have e1 := XB.out.c 1 _ rfl
      have ef := XB.out.f
      have q0 := X7.out.c 0 _ rfl
      have q1 := X7.out.c 1 _ rfl
      have XB2 := Lib.hid (XB.out.put2 (.slice y.q.A y.q.l.length y.q.c) (.slice y.ap.A y.ap.l.length y.ap.c))
      have SN2 := Lib.hid (SN.out.put (.slice y.q.A y.q.l.length y.q.c) (.slice y.ap.A y.ap.l.length y.ap.c))
      have YS2 := Lib.hid (YS.out.put (.slice y.q.A y.q.l.length y.q.c) (.slice y.ap.A y.ap.l.length y.ap.c))
      have E2 := Lib.hid (ext_set2 EE.out w2.heap.size (.slice y.q.A y.q.l.length y.q.c) (.slice y.ap.A y.ap.l.length y.ap.c) hw2)
      obtain ⟨w12, hw12⟩ : ∃ w12, set2 w6 w2.heap.size (.slice y.q.A y.q.l.length y.q.c) (.slice y.ap.A y.ap.l.length y.ap.c) = w12 := ⟨_, rfl⟩
      rw [hw12] at XB2 SN2 YS2 E2
      unfold set2 at hw12
      have g0 := XB2.out.c 0 _ rfl
      have g1 := XB2.out.c 1 _ rfl
      have HCH := Lib.hid (show ∀ X, X = w12 → Calls Try.prog 12 #[.agg #[.slice y.q.A y.q.l.length y.q.c, .slice y.ap.A y.ap.l.length y.ap.c]] X (RetE X 0) from fun X hX => check_at (n := y) 0 HYC.out (by rw [hX]; exact YS2.out.ok))
      go_wp2_with fail
      refine (HCH.out _ rfl).mono ?_
      clear hw12 e0 e1 ef q0 q1 g0 g1 HCH
      rintro e w13 ⟨rfl, B13⟩
      go_wp2_with fail
      go_roundw
      case rel =>
        refine ⟨k + 1, y, R, RA, Rc, cuts + 1, hlt, by first | omega | (simp; omega), by omega, by first | rfl | simp, by first | rfl | go_num, by go_num, Lib.hid ⟨XB2.out.ext B13, YS2.out.ext B13, SN2.out.ext B13, HYC.out, ?_, ?_⟩, Lib.hid (ext_trans E2.out B13)⟩
        · exact fun p hp => RR2.out.mem p (HP.out.mem rfl (by decide) p hp)
        · exact fun _ => Nat.succ_pos _
      case measure => simp [intOf]; omega
    · obtain ⟨hD0, hD1, hD4⟩ := hD
      have SN := Lib.hid RR2.out.sn
      have XB := Lib.hid RR2.out.blk
      have EE := E6
      clear y0 y1
      have e0 := XB.out.c 0 _ rfl
      have e1 := XB.out.c 1 _ rfl
      have ef := XB.out.f
      have q0 := X7.out.c 0 _ rfl
      have q1 := X7.out.c 1 _ rfl
      have XB2 := Lib.hid (XB.out.put2 (.slice y.q.A y.q.l.length y.q.c) (.slice y.ap.A y.ap.l.length y.ap.c))
      have SN2 := Lib.hid (SN.out.put (.slice y.q.A y.q.l.length y.q.c) (.slice y.ap.A y.ap.l.length y.ap.c))
      have YS2 := Lib.hid (YS.out.put (.slice y.q.A y.q.l.length y.q.c) (.slice y.ap.A y.ap.l.length y.ap.c))
      have E2 := Lib.hid (ext_set2 EE.out w2.heap.size (.slice y.q.A y.q.l.length y.q.c) (.slice y.ap.A y.ap.l.length y.ap.c) hw2)
      obtain ⟨w12, hw12⟩ : ∃ w12, set2 w6 w2.heap.size (.slice y.q.A y.q.l.length y.q.c) (.slice y.ap.A y.ap.l.length y.ap.c) = w12 := ⟨_, rfl⟩
      rw [hw12] at XB2 SN2 YS2 E2
      unfold set2 at hw12
      have g0 := XB2.out.c 0 _ rfl
      have g1 := XB2.out.c 1 _ rfl
      have HCH := Lib.hid (show ∀ X, X = w12 → Calls Try.prog 12 #[.agg #[.slice y.q.A y.q.l.length y.q.c, .slice y.ap.A y.ap.l.length y.ap.c]] X (RetE X 0) from fun X hX => check_at (n := y) 0 HYC.out (by rw [hX]; exact YS2.out.ok))
      go_wp2_with fail
      refine (HCH.out _ rfl).mono ?_
      clear hw12 e0 e1 ef q0 q1 g0 g1 HCH
      rintro e w13 ⟨rfl, B13⟩
      go_wp2_with fail
      go_roundw
      case rel =>
        refine ⟨k + 1, y, R, RA, Rc, cuts, hlt, by first | omega | (simp; omega), by omega, by first | rfl | simp, by first | rfl | go_num, by go_num, Lib.hid ⟨XB2.out.ext B13, YS2.out.ext B13, SN2.out.ext B13, HYC.out, ?_, ?_⟩, Lib.hid (ext_trans E2.out B13)⟩
        · exact fun p hp => RR2.out.mem p (HP.out.mem rfl hD0 p hp)
        · exact fun h => RR2.out.cut (HP.out.ap rfl hD4 h)
      case measure => simp [intOf]; omega
end Go.Proofs.Ythchcimialclkaa
