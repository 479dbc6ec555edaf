/- Contracts: a credit is earned (the reference's). -/
import Derived.Test.YtafglcalimcdcaaG
import Derived.Test.YtafglcalimcdcaaD2
import Derived.Test.YtafglcalimcdcaaApp3
set_option linter.unusedSimpArgs false
set_option linter.unusedVariables false
namespace Go.Proofs.Ytafglcalimcdcaa
open Go.RowKit
set_option maxHeartbeats 3200000 in
set_option maxRecDepth 100000 in
theorem rearn_any (a : Cr) (A : Option Addr) (c : Nat) (l : List Cr) (w : World) (ha : Slc w Cr.cells 3 A l) (hn : l.length ≤ 1000) (hc : l.length ≤ c) : Calls Try.prog 9 #[.slice A l.length c, a.v] w (LeR w (earnL l a) (earnE l a)) := by
  obtain ⟨ok, hok⟩ : ∃ v, okC l = v := ⟨_, rfl⟩
  obtain ⟨ft, hft⟩ : ∃ v, fitC a = v := ⟨_, rfl⟩
  have HV := Lib.hid hok
  have HF := Lib.hid hft
  clear hok hft
  cases ok
  · have E := Lib.hid (ext_refl w)
    have SL := Lib.hid (ha)
    clear ha
    replace E := Lib.hid (ext_alloc E.out (.cells #[.int .i64 a.a, .int .i64 a.m, .int .i64 a.u] 24))
    replace SL := Lib.hid (SL.out.alloc (.cells #[.int .i64 a.a, .int .i64 a.m, .int .i64 a.u] 24))
    have X := Lib.hid (Blk.newH w [.int .i64 a.a, .int .i64 a.m, .int .i64 a.u] 24 (w.heap.size) (by first | rfl | simp))
    go_enter Try.func9, Try.ntmps9
    go_wp2_with fail
    refine (rcheck_at 390 (by unfold chkC; rw [HV.out]; rfl) rfl SL.out (by unfold maxLen; omega)).mono ?_
    rintro e v1 ⟨rfl, B⟩
    replace E := Lib.hid (ext_trans E.out B)
    replace SL := Lib.hid (SL.out.ext B)
    replace X := Lib.hid (X.out.ext B)
    clear B
    go_wp2_with fail
    refine bodyPost_ret (v := .tuple #[.slice none 0 0, .int .i64 390]) (by simp [results, Try.results9, go_sem, *]) rfl ?_
    exact LeR.bad (earn_bad (by rw [HV.out]; rfl)) rfl E.out
  cases ft
  · have E := Lib.hid (ext_refl w)
    have SL := Lib.hid (ha)
    clear ha
    replace E := Lib.hid (ext_alloc E.out (.cells #[.int .i64 a.a, .int .i64 a.m, .int .i64 a.u] 24))
    replace SL := Lib.hid (SL.out.alloc (.cells #[.int .i64 a.a, .int .i64 a.m, .int .i64 a.u] 24))
    have X := Lib.hid (Blk.newH w [.int .i64 a.a, .int .i64 a.m, .int .i64 a.u] 24 (w.heap.size) (by first | rfl | simp))
    go_enter Try.func9, Try.ntmps9
    go_wp2_with fail
    refine (rcheck_at 0 (by unfold chkC; rw [HV.out]; rfl) rfl SL.out (by unfold maxLen; omega)).mono ?_
    rintro e v1 ⟨rfl, B⟩
    replace E := Lib.hid (ext_trans E.out B)
    replace SL := Lib.hid (SL.out.ext B)
    replace X := Lib.hid (X.out.ext B)
    clear B
    have c0 := X.out.c 0 _ rfl
    have c1 := X.out.c 1 _ rfl
    have c2 := X.out.c 2 _ rfl
    go_wp2_with fail
    refine (valid_at false HF.out).mono ?_
    rintro e v2 ⟨rfl, B⟩
    clear c0 c1 c2
    replace E := Lib.hid (ext_trans E.out B)
    replace SL := Lib.hid (SL.out.ext B)
    replace X := Lib.hid (X.out.ext B)
    clear B
    go_wp2_with fail
    refine bodyPost_ret (v := .tuple #[.slice none 0 0, .int .i64 390]) (by simp [results, Try.results9, go_sem, *]) rfl ?_
    exact LeR.bad (earn_bad (by rw [HV.out, HF.out]; rfl)) rfl E.out
  · have HOF := Lib.hid (ha.rowOff (Nat.le_refl _))
    have E := Lib.hid (ext_refl w)
    have SL := Lib.hid (ha)
    clear ha
    replace E := Lib.hid (ext_alloc E.out (.cells #[.int .i64 a.a, .int .i64 a.m, .int .i64 a.u] 24))
    replace SL := Lib.hid (SL.out.alloc (.cells #[.int .i64 a.a, .int .i64 a.m, .int .i64 a.u] 24))
    have X := Lib.hid (Blk.newH w [.int .i64 a.a, .int .i64 a.m, .int .i64 a.u] 24 (w.heap.size) (by first | rfl | simp))
    go_enter Try.func9, Try.ntmps9
    go_wp2_with fail
    refine (rcheck_at 0 (by unfold chkC; rw [HV.out]; rfl) rfl SL.out (by unfold maxLen; omega)).mono ?_
    rintro e v1 ⟨rfl, B⟩
    replace E := Lib.hid (ext_trans E.out B)
    replace SL := Lib.hid (SL.out.ext B)
    replace X := Lib.hid (X.out.ext B)
    clear B
    have c0 := X.out.c 0 _ rfl
    have c1 := X.out.c 1 _ rfl
    have c2 := X.out.c 2 _ rfl
    go_wp2_with fail
    refine (valid_at true HF.out).mono ?_
    rintro e v2 ⟨rfl, B⟩
    clear c0 c1 c2
    replace E := Lib.hid (ext_trans E.out B)
    replace SL := Lib.hid (SL.out.ext B)
    replace X := Lib.hid (X.out.ext B)
    clear B
    go_wp2_with fail
    obtain ⟨sX, hsX⟩ : ∃ s, s = w.heap.size := ⟨_, rfl⟩
    have HSX := Lib.hid (show w.heap.size ≤ sX by omega)
    rw [← hsX] at X HOF ⊢
    clear hsX
    go_loopw [6] (fun i wr => ∃ k : Nat, k ≤ l.length ∧ i = .int .i64 k ∧ Hid (∀ z x, z < k → l[z]? = some x → bef x a = true) ∧ Hid (Slc wr Cr.cells 3 A l) ∧ Hid (Blk wr sX [.int .i64 a.a, .int .i64 a.m, .int .i64 a.u]) ∧ Hid (Below w.heap.size w wr)) (fun i _ => l.length - (intOf i).toNat)
    case atStart => exact ⟨0, Nat.zero_le _, rfl, (fun z x h => by omega), SL.out, X.out, E.out⟩
    clear E SL X
    case round =>
      obtain ⟨k, hk, rfl, HP, SL, X, E⟩ := hrel
      by_cases hlt : k < l.length
      · obtain ⟨x, b1, o1, hx, hA, hb1, hd⟩ := SL.out.at_ hlt
        have d0 := hd 0 _ rfl
        have d1 := hd 1 _ rfl
        have d2 := hd 2 _ rfl
        simp only [Nat.add_zero] at d0
        have HX := Lib.hid hx
        have hlt' : (k : Int) < l.length := by omega
        clear hd hx
        subst hA
        by_cases hxa : bef x a = true
        · have HXA := Lib.hid hxa
          clear hxa
          rename_i K2 a2
          clear a2
          go_wp2_with fail
          have SS := Lib.hid (show ∀ w', Below wr.heap.size wr w' → (fun w' => Below wr.heap.size wr w' ∧ w'.cell? ⟨sX, 0, none⟩ = some (.int .i64 a.a) ∧ w'.cell? ⟨sX, 1, none⟩ = some (.int .i64 a.m) ∧ w'.cell? ⟨sX, 2, none⟩ = some (.int .i64 a.u) ∧ w'.cell? ⟨b1, o1 + k * 3, none⟩ = some (.int .i64 x.a) ∧ w'.cell? ⟨b1, o1 + k * 3 + 1, none⟩ = some (.int .i64 x.m) ∧ w'.cell? ⟨b1, o1 + k * 3 + 2, none⟩ = some (.int .i64 x.u)) w' from fun w' h => ⟨h, (X.out.ext h).c 0 _ rfl, (X.out.ext h).c 1 _ rfl, (X.out.ext h).c 2 _ rfl, (h.cell (p := ⟨b1, o1 + k * 3, none⟩) hb1).trans d0, (h.cell (p := ⟨b1, o1 + k * 3 + 1, none⟩) hb1).trans d1, (h.cell (p := ⟨b1, o1 + k * 3 + 2, none⟩) hb1).trans d2⟩)
          refine rg_begin (S := (fun w' => Below wr.heap.size wr w' ∧ w'.cell? ⟨sX, 0, none⟩ = some (.int .i64 a.a) ∧ w'.cell? ⟨sX, 1, none⟩ = some (.int .i64 a.m) ∧ w'.cell? ⟨sX, 2, none⟩ = some (.int .i64 a.u) ∧ w'.cell? ⟨b1, o1 + k * 3, none⟩ = some (.int .i64 x.a) ∧ w'.cell? ⟨b1, o1 + k * 3 + 1, none⟩ = some (.int .i64 x.m) ∧ w'.cell? ⟨b1, o1 + k * 3 + 2, none⟩ = some (.int .i64 x.u))) 12 (by kernel_rfl) (by intro d; cases d <;> intro _ _ _ _ h <;> exact h) ?_ (fun Q7 hQ7 hN7 hHeld => ?_)
          · exact SS.out _ (ext_drew (ext_refl _))
          refine rg_take (i := 0) (some 17) (v := ?_) rfl rfl (by kernel_rfl) (by rfl) hQ7 hHeld ?_ ?_
          rotate_left
          · intro w7 hSw; (try dsimp only at hSw); go_simp; all_goals with_reducible rfl
          try simp only [Act.put, List.setIfInBounds_toArray, List.set_cons_zero, List.set_cons_succ]
          refine rg_take (i := 1) (some 18) (v := ?_) rfl rfl (by kernel_rfl) (by rfl) hQ7 hHeld ?_ ?_
          rotate_left
          · intro w7 hSw; (try dsimp only at hSw); go_simp; all_goals with_reducible rfl
          try simp only [Act.put, List.setIfInBounds_toArray, List.set_cons_zero, List.set_cons_succ]
          refine rg_take (i := 2) (some 19) (v := ?_) rfl rfl (by kernel_rfl) (by rfl) hQ7 hHeld ?_ ?_
          rotate_left
          · intro w7 hSw; (try dsimp only at hSw); go_simp; all_goals with_reducible rfl
          try simp only [Act.put, List.setIfInBounds_toArray, List.set_cons_zero, List.set_cons_succ]
          refine rg_take (i := 3) (some 20) (v := ?_) rfl rfl (by kernel_rfl) (by rfl) hQ7 hHeld ?_ ?_
          rotate_left
          · intro w7 hSw; (try dsimp only at hSw); go_simp; all_goals with_reducible rfl
          try simp only [Act.put, List.setIfInBounds_toArray, List.set_cons_zero, List.set_cons_succ]
          refine rg_take (i := 4) (some 21) (v := ?_) rfl rfl (by kernel_rfl) (by rfl) hQ7 hHeld ?_ ?_
          rotate_left
          · intro w7 hSw; (try dsimp only at hSw); go_simp; all_goals with_reducible rfl
          try simp only [Act.put, List.setIfInBounds_toArray, List.set_cons_zero, List.set_cons_succ]
          refine rg_take (i := 5) (some 22) (v := ?_) rfl rfl (by kernel_rfl) (by rfl) hQ7 hHeld ?_ ?_
          rotate_left
          · intro w7 hSw; (try dsimp only at hSw); go_simp; all_goals with_reducible rfl
          try simp only [Act.put, List.setIfInBounds_toArray, List.set_cons_zero, List.set_cons_succ]
          refine rg_take (i := 6) (some 23) (v := ?_) rfl rfl (by kernel_rfl) (by rfl) hQ7 hHeld ?_ ?_
          rotate_left
          · intro w7 hSw; (try dsimp only at hSw); go_simp; all_goals with_reducible rfl
          try simp only [Act.put, List.setIfInBounds_toArray, List.set_cons_zero, List.set_cons_succ]
          refine rg_take (i := 7) (some 24) (v := ?_) rfl rfl (by kernel_rfl) (by rfl) hQ7 hHeld ?_ ?_
          rotate_left
          · intro w7 hSw; (try dsimp only at hSw); go_simp; all_goals with_reducible rfl
          try simp only [Act.put, List.setIfInBounds_toArray, List.set_cons_zero, List.set_cons_succ]
          refine rg_take (i := 8) (some 25) (v := ?_) rfl rfl (by kernel_rfl) (by rfl) hQ7 hHeld ?_ ?_
          rotate_left
          · intro w7 hSw; (try dsimp only at hSw); go_simp; all_goals with_reducible rfl
          try simp only [Act.put, List.setIfInBounds_toArray, List.set_cons_zero, List.set_cons_succ]
          refine rg_take (i := 9) (some 26) (v := ?_) rfl rfl (by kernel_rfl) (by rfl) hQ7 hHeld ?_ ?_
          rotate_left
          · intro w7 hSw; (try dsimp only at hSw); go_simp; all_goals with_reducible rfl
          try simp only [Act.put, List.setIfInBounds_toArray, List.set_cons_zero, List.set_cons_succ]
          refine rg_one (i := 10) (by kernel_rfl) (rg_step rfl (by rfl) (fun K hK => ?_))
          go_simp
          refine (before_at (x := x) (y := a) true HXA.out).mono ?_
          rintro e w1 ⟨rfl, B1⟩
          go_wp2_with fail
          refine hK.out _ _ ?_ (fun hHeld2 => ?_)
          · exact SS.out _ (ext_trans hHeld.1 B1)
          clear hHeld
          have hHeld := hHeld2
          clear hHeld2
          clear hK K
          try simp only [Act.put, List.setIfInBounds_toArray, List.set_cons_zero, List.set_cons_succ]
          refine rg_take (i := 11) (some 28) (v := ?_) rfl rfl (by kernel_rfl) (by rfl) hQ7 hHeld ?_ ?_
          rotate_left
          · intro w7 hSw; (try dsimp only at hSw); go_simp; all_goals with_reducible rfl
          try simp only [Act.put, List.setIfInBounds_toArray, List.set_cons_zero, List.set_cons_succ]
          refine rg_end (by kernel_rfl) (hN7 _ _ ?_) _
          clear hQ7 hN7 Q7
          have BX := hHeld.1
          clear SS
          replace SL := Lib.hid (SL.out.ext BX)
          replace X := Lib.hid (X.out.ext BX)
          replace E := Lib.hid (ext_trans E.out BX)
          clear BX
          go_wp2_with fail
          go_roundw
          case rel => exact ⟨k + 1, hlt, by go_num, (fun z y hz hy => by
            by_cases h : z = k
            · subst h; rw [HX.out] at hy; cases hy; exact HXA.out
            · exact HP.out z y (by omega) hy), SL.out, X.out, E.out⟩
          case measure => simp [intOf]; omega
        have HXA := Lib.hid (show bef x a = false by simpa using hxa)
        clear hxa
        have HC := Lib.hid (show CutAt (fun x => bef x a) l k from ⟨hk, HP.out, fun q y hq hy => by
          by_cases h : q = k
          · subst h; rw [HX.out] at hy; cases hy; exact HXA.out
          · have h1 := mono_of (ok_iff.1 HV.out) (show k < q by omega) HX.out hy
            have h2 := HXA.out
            cases h3 : bef y a with
            | false => exact h3
            | true => rw [bef_trans h1 h3] at h2; cases h2⟩)
        obtain ⟨AF, hAF⟩ : ∃ z, fromACr (some ⟨b1, o1, none⟩) c k = z := ⟨_, rfl⟩
        have hs2 := fun w : World => slice_fromCr (some ⟨b1, o1, none⟩) l.length c k _ rfl hk hc w
        rw [hAF] at hs2
        have HAF := Lib.hid hAF
        clear hAF
        go_wp2_with fail
        have SS := Lib.hid (show ∀ w', Below wr.heap.size wr w' → (fun w' => Below wr.heap.size wr w' ∧ w'.cell? ⟨sX, 0, none⟩ = some (.int .i64 a.a) ∧ w'.cell? ⟨sX, 1, none⟩ = some (.int .i64 a.m) ∧ w'.cell? ⟨sX, 2, none⟩ = some (.int .i64 a.u) ∧ w'.cell? ⟨b1, o1 + k * 3, none⟩ = some (.int .i64 x.a) ∧ w'.cell? ⟨b1, o1 + k * 3 + 1, none⟩ = some (.int .i64 x.m) ∧ w'.cell? ⟨b1, o1 + k * 3 + 2, none⟩ = some (.int .i64 x.u)) w' from fun w' h => ⟨h, (X.out.ext h).c 0 _ rfl, (X.out.ext h).c 1 _ rfl, (X.out.ext h).c 2 _ rfl, (h.cell (p := ⟨b1, o1 + k * 3, none⟩) hb1).trans d0, (h.cell (p := ⟨b1, o1 + k * 3 + 1, none⟩) hb1).trans d1, (h.cell (p := ⟨b1, o1 + k * 3 + 2, none⟩) hb1).trans d2⟩)
        refine rg_begin (S := (fun w' => Below wr.heap.size wr w' ∧ w'.cell? ⟨sX, 0, none⟩ = some (.int .i64 a.a) ∧ w'.cell? ⟨sX, 1, none⟩ = some (.int .i64 a.m) ∧ w'.cell? ⟨sX, 2, none⟩ = some (.int .i64 a.u) ∧ w'.cell? ⟨b1, o1 + k * 3, none⟩ = some (.int .i64 x.a) ∧ w'.cell? ⟨b1, o1 + k * 3 + 1, none⟩ = some (.int .i64 x.m) ∧ w'.cell? ⟨b1, o1 + k * 3 + 2, none⟩ = some (.int .i64 x.u))) 12 (by kernel_rfl) (by intro d; cases d <;> intro _ _ _ _ h <;> exact h) ?_ (fun Q7 hQ7 hN7 hHeld => ?_)
        · exact SS.out _ (ext_drew (ext_refl _))
        refine rg_take (i := 0) (some 17) (v := ?_) rfl rfl (by kernel_rfl) (by rfl) hQ7 hHeld ?_ ?_
        rotate_left
        · intro w7 hSw; (try dsimp only at hSw); go_simp; all_goals with_reducible rfl
        try simp only [Act.put, List.setIfInBounds_toArray, List.set_cons_zero, List.set_cons_succ]
        refine rg_take (i := 1) (some 18) (v := ?_) rfl rfl (by kernel_rfl) (by rfl) hQ7 hHeld ?_ ?_
        rotate_left
        · intro w7 hSw; (try dsimp only at hSw); go_simp; all_goals with_reducible rfl
        try simp only [Act.put, List.setIfInBounds_toArray, List.set_cons_zero, List.set_cons_succ]
        refine rg_take (i := 2) (some 19) (v := ?_) rfl rfl (by kernel_rfl) (by rfl) hQ7 hHeld ?_ ?_
        rotate_left
        · intro w7 hSw; (try dsimp only at hSw); go_simp; all_goals with_reducible rfl
        try simp only [Act.put, List.setIfInBounds_toArray, List.set_cons_zero, List.set_cons_succ]
        refine rg_take (i := 3) (some 20) (v := ?_) rfl rfl (by kernel_rfl) (by rfl) hQ7 hHeld ?_ ?_
        rotate_left
        · intro w7 hSw; (try dsimp only at hSw); go_simp; all_goals with_reducible rfl
        try simp only [Act.put, List.setIfInBounds_toArray, List.set_cons_zero, List.set_cons_succ]
        refine rg_take (i := 4) (some 21) (v := ?_) rfl rfl (by kernel_rfl) (by rfl) hQ7 hHeld ?_ ?_
        rotate_left
        · intro w7 hSw; (try dsimp only at hSw); go_simp; all_goals with_reducible rfl
        try simp only [Act.put, List.setIfInBounds_toArray, List.set_cons_zero, List.set_cons_succ]
        refine rg_take (i := 5) (some 22) (v := ?_) rfl rfl (by kernel_rfl) (by rfl) hQ7 hHeld ?_ ?_
        rotate_left
        · intro w7 hSw; (try dsimp only at hSw); go_simp; all_goals with_reducible rfl
        try simp only [Act.put, List.setIfInBounds_toArray, List.set_cons_zero, List.set_cons_succ]
        refine rg_take (i := 6) (some 23) (v := ?_) rfl rfl (by kernel_rfl) (by rfl) hQ7 hHeld ?_ ?_
        rotate_left
        · intro w7 hSw; (try dsimp only at hSw); go_simp; all_goals with_reducible rfl
        try simp only [Act.put, List.setIfInBounds_toArray, List.set_cons_zero, List.set_cons_succ]
        refine rg_take (i := 7) (some 24) (v := ?_) rfl rfl (by kernel_rfl) (by rfl) hQ7 hHeld ?_ ?_
        rotate_left
        · intro w7 hSw; (try dsimp only at hSw); go_simp; all_goals with_reducible rfl
        try simp only [Act.put, List.setIfInBounds_toArray, List.set_cons_zero, List.set_cons_succ]
        refine rg_take (i := 8) (some 25) (v := ?_) rfl rfl (by kernel_rfl) (by rfl) hQ7 hHeld ?_ ?_
        rotate_left
        · intro w7 hSw; (try dsimp only at hSw); go_simp; all_goals with_reducible rfl
        try simp only [Act.put, List.setIfInBounds_toArray, List.set_cons_zero, List.set_cons_succ]
        refine rg_take (i := 9) (some 26) (v := ?_) rfl rfl (by kernel_rfl) (by rfl) hQ7 hHeld ?_ ?_
        rotate_left
        · intro w7 hSw; (try dsimp only at hSw); go_simp; all_goals with_reducible rfl
        try simp only [Act.put, List.setIfInBounds_toArray, List.set_cons_zero, List.set_cons_succ]
        refine rg_one (i := 10) (by kernel_rfl) (rg_step rfl (by rfl) (fun K hK => ?_))
        go_simp
        refine (before_at (x := x) (y := a) false HXA.out).mono ?_
        rintro e w1 ⟨rfl, B1⟩
        go_wp2_with fail
        refine hK.out _ _ ?_ (fun hHeld2 => ?_)
        · exact SS.out _ (ext_trans hHeld.1 B1)
        clear hHeld
        have hHeld := hHeld2
        clear hHeld2
        clear hK K
        try simp only [Act.put, List.setIfInBounds_toArray, List.set_cons_zero, List.set_cons_succ]
        refine rg_take (i := 11) (some 28) (v := ?_) rfl rfl (by kernel_rfl) (by rfl) hQ7 hHeld ?_ ?_
        rotate_left
        · intro w7 hSw; (try dsimp only at hSw); go_simp; all_goals with_reducible rfl
        try simp only [Act.put, List.setIfInBounds_toArray, List.set_cons_zero, List.set_cons_succ]
        refine rg_end (by kernel_rfl) (hN7 _ _ ?_) _
        clear hQ7 hN7 Q7
        have BX := hHeld.1
        clear SS
        replace SL := Lib.hid (SL.out.ext BX)
        replace X := Lib.hid (X.out.ext BX)
        replace E := Lib.hid (ext_trans E.out BX)
        clear BX
        go_wp2_with fail
        clear d0 d1 d2 hb1
        obtain ⟨b2, o2, hA2, hb1, hd⟩ := SL.out k x HX.out
        injection hA2 with hA2
        injection hA2 with e1 e2
        subst e1 e2
        have d0 := hd 0 _ rfl
        have d1 := hd 1 _ rfl
        have d2 := hd 2 _ rfl
        simp only [Nat.add_zero] at d0
        clear hd
        obtain ⟨bv, hbv⟩ : ∃ v, bef a x = v := ⟨_, rfl⟩
        have HB := Lib.hid hbv
        clear hbv
        cases bv
        · have SS := Lib.hid (show ∀ w', Below w1.heap.size w1 w' → (fun w' => Below w1.heap.size w1 w' ∧ w'.cell? ⟨sX, 0, none⟩ = some (.int .i64 a.a) ∧ w'.cell? ⟨sX, 1, none⟩ = some (.int .i64 a.m) ∧ w'.cell? ⟨sX, 2, none⟩ = some (.int .i64 a.u) ∧ w'.cell? ⟨b1, o1 + k * 3, none⟩ = some (.int .i64 x.a) ∧ w'.cell? ⟨b1, o1 + k * 3 + 1, none⟩ = some (.int .i64 x.m) ∧ w'.cell? ⟨b1, o1 + k * 3 + 2, none⟩ = some (.int .i64 x.u)) w' from fun w' h => ⟨h, (X.out.ext h).c 0 _ rfl, (X.out.ext h).c 1 _ rfl, (X.out.ext h).c 2 _ rfl, (h.cell (p := ⟨b1, o1 + k * 3, none⟩) hb1).trans d0, (h.cell (p := ⟨b1, o1 + k * 3 + 1, none⟩) hb1).trans d1, (h.cell (p := ⟨b1, o1 + k * 3 + 2, none⟩) hb1).trans d2⟩)
          refine rg_begin (S := (fun w' => Below w1.heap.size w1 w' ∧ w'.cell? ⟨sX, 0, none⟩ = some (.int .i64 a.a) ∧ w'.cell? ⟨sX, 1, none⟩ = some (.int .i64 a.m) ∧ w'.cell? ⟨sX, 2, none⟩ = some (.int .i64 a.u) ∧ w'.cell? ⟨b1, o1 + k * 3, none⟩ = some (.int .i64 x.a) ∧ w'.cell? ⟨b1, o1 + k * 3 + 1, none⟩ = some (.int .i64 x.m) ∧ w'.cell? ⟨b1, o1 + k * 3 + 2, none⟩ = some (.int .i64 x.u))) 13 (by kernel_rfl) (by intro d; cases d <;> intro _ _ _ _ h <;> exact h) ?_ (fun Q7 hQ7 hN7 hHeld => ?_)
          · exact SS.out _ (ext_drew (ext_refl _))
          refine rg_take (i := 0) (some 34) (v := ?_) rfl rfl (by kernel_rfl) (by rfl) hQ7 hHeld ?_ ?_
          rotate_left
          · intro w7 hSw; (try dsimp only at hSw); go_simp; all_goals with_reducible rfl
          try simp only [Act.put, List.setIfInBounds_toArray, List.set_cons_zero, List.set_cons_succ]
          refine rg_take (i := 1) (some 35) (v := ?_) rfl rfl (by kernel_rfl) (by rfl) hQ7 hHeld ?_ ?_
          rotate_left
          · intro w7 hSw; (try dsimp only at hSw); go_simp; all_goals with_reducible rfl
          try simp only [Act.put, List.setIfInBounds_toArray, List.set_cons_zero, List.set_cons_succ]
          refine rg_take (i := 2) (some 36) (v := ?_) rfl rfl (by kernel_rfl) (by rfl) hQ7 hHeld ?_ ?_
          rotate_left
          · intro w7 hSw; (try dsimp only at hSw); go_simp; all_goals with_reducible rfl
          try simp only [Act.put, List.setIfInBounds_toArray, List.set_cons_zero, List.set_cons_succ]
          refine rg_take (i := 3) (some 37) (v := ?_) rfl rfl (by kernel_rfl) (by rfl) hQ7 hHeld ?_ ?_
          rotate_left
          · intro w7 hSw; (try dsimp only at hSw); go_simp; all_goals with_reducible rfl
          try simp only [Act.put, List.setIfInBounds_toArray, List.set_cons_zero, List.set_cons_succ]
          refine rg_take (i := 4) (some 38) (v := ?_) rfl rfl (by kernel_rfl) (by rfl) hQ7 hHeld ?_ ?_
          rotate_left
          · intro w7 hSw; (try dsimp only at hSw); go_simp; all_goals with_reducible rfl
          try simp only [Act.put, List.setIfInBounds_toArray, List.set_cons_zero, List.set_cons_succ]
          refine rg_take (i := 5) (some 39) (v := ?_) rfl rfl (by kernel_rfl) (by rfl) hQ7 hHeld ?_ ?_
          rotate_left
          · intro w7 hSw; (try dsimp only at hSw); go_simp; all_goals with_reducible rfl
          try simp only [Act.put, List.setIfInBounds_toArray, List.set_cons_zero, List.set_cons_succ]
          refine rg_take (i := 6) (some 40) (v := ?_) rfl rfl (by kernel_rfl) (by rfl) hQ7 hHeld ?_ ?_
          rotate_left
          · intro w7 hSw; (try dsimp only at hSw); go_simp; all_goals with_reducible rfl
          try simp only [Act.put, List.setIfInBounds_toArray, List.set_cons_zero, List.set_cons_succ]
          refine rg_take (i := 7) (some 41) (v := ?_) rfl rfl (by kernel_rfl) (by rfl) hQ7 hHeld ?_ ?_
          rotate_left
          · intro w7 hSw; (try dsimp only at hSw); go_simp; all_goals with_reducible rfl
          try simp only [Act.put, List.setIfInBounds_toArray, List.set_cons_zero, List.set_cons_succ]
          refine rg_take (i := 8) (some 42) (v := ?_) rfl rfl (by kernel_rfl) (by rfl) hQ7 hHeld ?_ ?_
          rotate_left
          · intro w7 hSw; (try dsimp only at hSw); go_simp; all_goals with_reducible rfl
          try simp only [Act.put, List.setIfInBounds_toArray, List.set_cons_zero, List.set_cons_succ]
          refine rg_take (i := 9) (some 43) (v := ?_) rfl rfl (by kernel_rfl) (by rfl) hQ7 hHeld ?_ ?_
          rotate_left
          · intro w7 hSw; (try dsimp only at hSw); go_simp; all_goals with_reducible rfl
          try simp only [Act.put, List.setIfInBounds_toArray, List.set_cons_zero, List.set_cons_succ]
          refine rg_one (i := 10) (by kernel_rfl) (rg_step rfl (by rfl) (fun K hK => ?_))
          go_simp
          refine (before_at (x := a) (y := x) false HB.out).mono ?_
          rintro e w4 ⟨rfl, B1⟩
          go_wp2_with fail
          refine hK.out _ _ ?_ (fun hHeld2 => ?_)
          · exact SS.out _ (ext_trans hHeld.1 B1)
          clear hHeld
          have hHeld := hHeld2
          clear hHeld2
          clear hK K
          try simp only [Act.put, List.setIfInBounds_toArray, List.set_cons_zero, List.set_cons_succ]
          refine rg_take (i := 11) (some 45) (v := ?_) rfl rfl (by kernel_rfl) (by rfl) hQ7 hHeld ?_ ?_
          rotate_left
          · intro w7 hSw; (try dsimp only at hSw); go_simp; all_goals with_reducible rfl
          try simp only [Act.put, List.setIfInBounds_toArray, List.set_cons_zero, List.set_cons_succ]
          refine rg_take (i := 12) (some 46) (v := ?_) rfl rfl (by kernel_rfl) (by rfl) hQ7 hHeld ?_ ?_
          rotate_left
          · intro w7 hSw; (try dsimp only at hSw); go_simp; all_goals with_reducible rfl
          try simp only [Act.put, List.setIfInBounds_toArray, List.set_cons_zero, List.set_cons_succ]
          refine rg_end (by kernel_rfl) (hN7 _ _ ?_) _
          clear hQ7 hN7 Q7
          have BX := hHeld.1
          clear SS
          replace SL := Lib.hid (SL.out.ext BX)
          replace X := Lib.hid (X.out.ext BX)
          replace E := Lib.hid (ext_trans E.out BX)
          clear BX
          go_wp2_with fail
          clear d0 d1 d2 hb1
          obtain ⟨b2, o2, hA2, hb1, hd⟩ := SL.out k x HX.out
          injection hA2 with hA2
          injection hA2 with e1 e2
          subst e1 e2
          have d1 := hd 1 _ rfl
          clear hd
          have hfx := fit_iff.1 (ok_fit HV.out HX.out)
          have hfa := fit_iff.1 HF.out
          have hwr : IntKind.i64.wrap (a.m + x.m) = a.m + x.m := IntWalk.i64_in _ (by omega)
          have hwk : IntKind.i64.wrap ((k : Int) + 1) = (k : Int) + 1 := IntWalk.i64_in _ (by omega)
          have HSM := Lib.hid (show (⟨a.a, a.m + x.m, a.u⟩ : Cr) = sumC a x by unfold sumC; rw [Int.add_comm])
          clear hs2 HAF
          obtain ⟨AF, hAF⟩ : ∃ z, fromACr (some ⟨b1, o1, none⟩) c (k + 1) = z := ⟨_, rfl⟩
          have hs3 := fun w : World => slice_fromCr (some ⟨b1, o1, none⟩) l.length c (k + 1) ((k : Int) + 1) rfl hlt hc w
          rw [hAF] at hs3
          have HAF := Lib.hid hAF
          clear hAF
          clear hfx hfa
          have SS := Lib.hid (show ∀ w', Below w4.heap.size w4 w' → (fun w' => Below w4.heap.size w4 w' ∧ w'.cell? ⟨sX, 1, none⟩ = some (.int .i64 a.m) ∧ w'.cell? ⟨b1, o1 + k * 3 + 1, none⟩ = some (.int .i64 x.m)) w' from fun w' h => ⟨h, (X.out.ext h).c 1 _ rfl, (h.cell (p := ⟨b1, o1 + k * 3 + 1, none⟩) hb1).trans d1⟩)
          refine rg_begin (S := (fun w' => Below w4.heap.size w4 w' ∧ w'.cell? ⟨sX, 1, none⟩ = some (.int .i64 a.m) ∧ w'.cell? ⟨b1, o1 + k * 3 + 1, none⟩ = some (.int .i64 x.m))) 9 (by kernel_rfl) (by intro d; cases d <;> intro _ _ _ _ h <;> exact h) ?_ (fun Q7 hQ7 hN7 hHeld => ?_)
          · exact SS.out _ (ext_drew (ext_refl _))
          refine rg_take (i := 0) (some 47) (v := ?_) rfl rfl (by kernel_rfl) (by rfl) hQ7 hHeld ?_ ?_
          rotate_left
          · intro w7 hSw; (try dsimp only at hSw); go_simp; all_goals with_reducible rfl
          try simp only [Act.put, List.setIfInBounds_toArray, List.set_cons_zero, List.set_cons_succ]
          refine rg_take (i := 1) (some 48) (v := ?_) rfl rfl (by kernel_rfl) (by rfl) hQ7 hHeld ?_ ?_
          rotate_left
          · intro w7 hSw; (try dsimp only at hSw); go_simp; all_goals with_reducible rfl
          try simp only [Act.put, List.setIfInBounds_toArray, List.set_cons_zero, List.set_cons_succ]
          refine rg_take (i := 2) (some 49) (v := ?_) rfl rfl (by kernel_rfl) (by rfl) hQ7 hHeld ?_ ?_
          rotate_left
          · intro w7 hSw; (try dsimp only at hSw); go_simp; all_goals with_reducible rfl
          try simp only [Act.put, List.setIfInBounds_toArray, List.set_cons_zero, List.set_cons_succ]
          refine rg_take (i := 3) (some 50) (v := ?_) rfl rfl (by kernel_rfl) (by rfl) hQ7 hHeld ?_ ?_
          rotate_left
          · intro w7 hSw; (try dsimp only at hSw); go_simp; all_goals with_reducible rfl
          try simp only [Act.put, List.setIfInBounds_toArray, List.set_cons_zero, List.set_cons_succ]
          refine rg_take (i := 4) (some 51) (v := ?_) rfl rfl (by kernel_rfl) (by rfl) hQ7 hHeld ?_ ?_
          rotate_left
          · intro w7 hSw; (try dsimp only at hSw); go_simp; all_goals with_reducible rfl
          try simp only [Act.put, List.setIfInBounds_toArray, List.set_cons_zero, List.set_cons_succ]
          refine rg_take (i := 5) (some 52) (v := ?_) rfl rfl (by kernel_rfl) (by rfl) hQ7 hHeld ?_ ?_
          rotate_left
          · intro w7 hSw; (try dsimp only at hSw); go_simp; all_goals with_reducible rfl
          try simp only [Act.put, List.setIfInBounds_toArray, List.set_cons_zero, List.set_cons_succ]
          refine rg_take (i := 6) (some 53) (v := ?_) rfl rfl (by kernel_rfl) (by rfl) hQ7 hHeld ?_ ?_
          rotate_left
          · intro w7 hSw; (try dsimp only at hSw); go_simp; all_goals with_reducible rfl
          try simp only [Act.put, List.setIfInBounds_toArray, List.set_cons_zero, List.set_cons_succ]
          refine rg_take (i := 7) (some 54) (v := ?_) rfl rfl (by kernel_rfl) (by rfl) hQ7 hHeld ?_ ?_
          rotate_left
          · intro w7 hSw; (try dsimp only at hSw); go_simp; all_goals with_reducible rfl
          try simp only [Act.put, List.setIfInBounds_toArray, List.set_cons_zero, List.set_cons_succ]
          refine rg_take (i := 8) (some 55) (v := ?_) rfl rfl (by kernel_rfl) (by rfl) hQ7 hHeld ?_ ?_
          rotate_left
          · intro w7 hSw; (try dsimp only at hSw); go_simp; all_goals with_reducible rfl
          try simp only [Act.put, List.setIfInBounds_toArray, List.set_cons_zero, List.set_cons_succ]
          have x0 := X.out.c 0 _ rfl
          have x1 := X.out.c 1 _ rfl
          have x2 := X.out.c 2 _ rfl
          have xf := X.out.f
          have xl := X.out.lt
          refine rg_one (i := 9) (by kernel_rfl) (rg_late rfl (by rfl) (by kernel_rfl) (fun K hK => ?_))
          go_simp
          refine hK.out _ _ ?_
          clear hK K
          try simp only [Act.put, List.setIfInBounds_toArray, List.set_cons_zero, List.set_cons_succ]
          refine rg_end (by kernel_rfl) (hN7 _ _ ?_) _
          clear hQ7 hN7 Q7
          have BX := hHeld.1
          clear SS
          clear BX x0 x1 x2 xf xl d1
          replace SL := Lib.hid ((SL.out.far (p := ⟨sX, 1, none⟩) (v := .int .i64 (a.m + x.m)) HOF.out).drew_)
          replace E := Lib.hid (ext_drew (ext_set E.out ⟨sX, 1, none⟩ (.int .i64 (a.m + x.m)) HSX.out))
          replace X := Lib.hid ((show Blk _ sX [.int .i64 a.a, .int .i64 (a.m + x.m), .int .i64 a.u] from X.out.set (j := 1) (by simp) (.int .i64 (a.m + x.m))).drew)
          obtain ⟨w5, hNw5⟩ : ∃ W0, W0 = (w4.setCell ⟨sX, 1, none⟩ (.int .i64 (a.m + x.m))).drew := ⟨_, rfl⟩
          rw [← hNw5] at SL X E ⊢
          clear hNw5
          obtain ⟨fs, hfs⟩ : ∃ v, fitC (sumC a x) = v := ⟨_, rfl⟩
          have HFS := Lib.hid hfs
          clear hfs
          have c0 := X.out.c 0 _ rfl
          have c1 := X.out.c 1 _ rfl
          have c2 := X.out.c 2 _ rfl
          go_wp2_with fail
          refine (valid_at (x := ⟨a.a, a.m + x.m, a.u⟩) fs (by rw [HSM.out]; exact HFS.out)).mono ?_
          rintro e v1 ⟨rfl, B⟩
          clear c0 c1 c2
          replace SL := Lib.hid (SL.out.ext B)
          replace X := Lib.hid (X.out.ext B)
          replace E := Lib.hid (ext_trans E.out B)
          clear B
          cases fs
          · go_wp2_with fail
            refine bodyPost_ret (v := .tuple #[.slice none 0 0, .int .i64 390]) (by simp [results, Try.results9, go_sem, *]) rfl ?_
            exact LeR.bad (earn_over HV.out HF.out HC.out HX.out HB.out HFS.out) rfl E.out
          · go_wp2_with fail
            have hs1 := fun w : World => slice_headCr (some ⟨b1, o1, none⟩) l.length c k _ rfl (by omega) w
            have HKT := Lib.hid (show (l.take k).length = k by simp; omega)
            have HKD := Lib.hid (show (l.drop (k + 1)).length = l.length - (k + 1) by simp)
            obtain ⟨wq, hNwq⟩ : ∃ W0, W0 = v1 := ⟨_, rfl⟩
            rw [← hNwq] at SL X E ⊢
            clear hNwq
            have E0 := E
            have HEQ := Lib.hid E.out.size
            have SS := Lib.hid (show ∀ w', Below wq.heap.size wq w' → (fun w' => Below wq.heap.size wq w' ∧ w'.cell? ⟨sX, 0, none⟩ = some (.int .i64 a.a) ∧ w'.cell? ⟨sX, 1, none⟩ = some (.int .i64 (a.m + x.m)) ∧ w'.cell? ⟨sX, 2, none⟩ = some (.int .i64 a.u)) w' from fun w' h => ⟨h, (X.out.ext h).c 0 _ rfl, (X.out.ext h).c 1 _ rfl, (X.out.ext h).c 2 _ rfl⟩)
            refine rg_begin (S := (fun w' => Below wq.heap.size wq w' ∧ w'.cell? ⟨sX, 0, none⟩ = some (.int .i64 a.a) ∧ w'.cell? ⟨sX, 1, none⟩ = some (.int .i64 (a.m + x.m)) ∧ w'.cell? ⟨sX, 2, none⟩ = some (.int .i64 a.u))) 9 (by kernel_rfl) (by intro d; cases d <;> intro _ _ _ _ h <;> exact h) ?_ (fun Q7 hQ7 hN7 hHeld => ?_)
            · exact SS.out _ (ext_drew (ext_refl _))
            refine rg_take (i := 1) (some 64) (v := ?_) rfl rfl (by kernel_rfl) (by rfl) hQ7 hHeld ?_ ?_
            rotate_left
            · intro w7 hSw; (try dsimp only at hSw); go_simp; all_goals with_reducible rfl
            try simp only [Act.put, List.setIfInBounds_toArray, List.set_cons_zero, List.set_cons_succ]
            refine rg_take (i := 2) (some 65) (v := ?_) rfl rfl (by kernel_rfl) (by rfl) hQ7 hHeld ?_ ?_
            rotate_left
            · intro w7 hSw; (try dsimp only at hSw); go_simp; all_goals with_reducible rfl
            try simp only [Act.put, List.setIfInBounds_toArray, List.set_cons_zero, List.set_cons_succ]
            refine rg_take (i := 3) (some 66) (v := .slice (some ⟨b1, o1, none⟩) k c) rfl rfl (by kernel_rfl) (by rfl) hQ7 hHeld (fun w7 hSw => run_v (hs1 w7)) ?_
            try simp only [Act.put, List.setIfInBounds_toArray, List.set_cons_zero, List.set_cons_succ]
            refine rg_take (i := 5) (some 68) (v := ?_) rfl rfl (by kernel_rfl) (by rfl) hQ7 hHeld ?_ ?_
            rotate_left
            · intro w7 hSw; (try dsimp only at hSw); go_simp; all_goals with_reducible rfl
            try simp only [Act.put, List.setIfInBounds_toArray, List.set_cons_zero, List.set_cons_succ]
            refine rg_two (i := 0) (j := 6) (by kernel_rfl) (rg_step rfl (by rfl) (fun K hK => ?_)) (rg_step rfl (by rfl) (fun K hK => ?_))
            · go_simp
              refine hK.out _ _ ?_ (fun hHeld2 => ?_)
              · exact SS.out _ (ext_alloc hHeld.1 _)
              clear hHeld
              have hHeld := hHeld2
              clear hHeld2
              clear hK K
              try simp only [Act.put, List.setIfInBounds_toArray, List.set_cons_zero, List.set_cons_succ]
              refine rg_two (i := 4) (j := 6) (by kernel_rfl) (rg_step rfl (by rfl) (fun K hK => ?_)) (rg_step rfl (by rfl) (fun K hK => ?_))
              · refine rg_append (some 67) _ _ 22 22 rfl rfl rfl _ _ rfl rfl (Own.append_k (w0 := wq) crI 22 (Own.madeH wq wq.heap.size 24 Cr.cells 3 (by simp) wq.heap.size (by simp)).drew_ hHeld.1 (ys := l.take k) (m := k) HKT.out.symm c ((SL.out.ext hHeld.1).take k) (l.take k) rfl k HKT.out (by omega) (by unfold maxLen; omega)) ?_
                rintro _ w1 ⟨A1, c1, rfl, hO1, B1, hg1, hc1, hm1⟩
                refine hK.out _ _ ?_ (fun hHeld2 => ?_)
                · exact SS.out _ B1
                clear hHeld
                have hHeld := hHeld2
                clear hHeld2
                clear hK K
                try simp only [Act.put, List.setIfInBounds_toArray, List.set_cons_zero, List.set_cons_succ]
                refine rg_one (i := 6) (by kernel_rfl) (rg_step rfl (by rfl) (fun K hK => ?_))
                go_simp
                refine hK.out _ _ ?_ (fun hHeld2 => ?_)
                · exact SS.out _ (ext_alloc hHeld.1 _)
                clear hHeld
                have hHeld := hHeld2
                clear hHeld2
                clear hK K
                try simp only [Act.put, List.setIfInBounds_toArray, List.set_cons_zero, List.set_cons_succ]
                refine rg_one (i := 7) (by kernel_rfl) (rg_step rfl (by rfl) (fun K hK => ?_))
                refine rg_append (some 70) _ _ 22 22 rfl rfl rfl _ _ rfl rfl (Own.append_k (w0 := wq) crI 22 (hO1.alloc _) hHeld.1 (ys := [(⟨a.a, a.m + x.m, a.u⟩ : Cr)]) (m := 1) rfl 1 (slc_litH w1 [(⟨a.a, a.m + x.m, a.u⟩ : Cr)] _ 24 (enc := Cr.cells) (sz := 3) (fun _ => rfl) rfl w1.heap.size (by first | rfl | simp)) (l.take k ++ [(⟨a.a, a.m + x.m, a.u⟩ : Cr)]) rfl (k + 1) (by simp [HKT.out]) (by omega) (by unfold maxLen; omega)) ?_
                rintro _ w2 ⟨A2, c2, rfl, hO2, B2, hg2, hc2, hm2⟩
                refine hK.out _ _ ?_ (fun hHeld2 => ?_)
                · exact SS.out _ B2
                clear hHeld
                have hHeld := hHeld2
                clear hHeld2
                clear hK K
                try simp only [Act.put, List.setIfInBounds_toArray, List.set_cons_zero, List.set_cons_succ]
                refine rg_take (i := 8) (some 8) (v := ?_) rfl rfl (by kernel_rfl) (by rfl) hQ7 hHeld ?_ ?_
                rotate_left
                · intro w7 hSw; (try dsimp only at hSw); go_simp; all_goals with_reducible rfl
                try simp only [Act.put, List.setIfInBounds_toArray, List.set_cons_zero, List.set_cons_succ]
                refine rg_end (by kernel_rfl) (hN7 _ _ ?_) _
                clear hQ7 hN7 Q7
                have BX := hHeld.1
                clear SS
                replace SL := Lib.hid (SL.out.ext B2)
                replace E := Lib.hid (ext_trans E.out B2)
                obtain ⟨_, w3, hrun, A3, c3, rfl, hO3, B3, hg3, hc3, hm3⟩ := Own.append_k (w0 := wq) crI 22 hO2 B2 (ys := l.drop (k + 1)) (m := l.length - (k + 1)) HKD.out.symm (c - (k + 1)) (show Slc _ Cr.cells 3 AF (l.drop (k + 1)) by rw [← HAF.out]; exact SL.out.from_ (k + 1) c hc) (l.take k ++ (⟨a.a, a.m + x.m, a.u⟩ : Cr) :: l.drop (k + 1)) (by simp) (k + 1 + (l.length - (k + 1))) (by simp; omega) (by omega) (by unfold maxLen; omega)
                have HRUN := Lib.hid hrun
                have HO3 := Lib.hid hO3
                clear hrun hO3 hO2 BX
                go_wp2_with (first | (at_builtin; refine wpList_append_run rfl (.tmp 71) (.tmp 72) 22 rfl (.slice A2 (k + 1) c2) (.slice AF (l.length - (k + 1)) (c - (k + 1))) rfl rfl HRUN.out ?_) | fail)
                refine bodyPost_ret (v := .tuple #[.slice A3 (k + 1 + (l.length - (k + 1))) c3, .int .i64 0]) (by simp [results, Try.results9, go_sem, *]) rfl ?_
                exact LeR.good (by rw [HSM.out]; exact earn_sum HV.out HF.out HC.out HX.out HB.out HFS.out) rfl (HO3.out.low HEQ.out) (by simp; omega) (ext_trans E0.out B3)
              · go_simp
                refine hK.out _ _ ?_ (fun hHeld2 => ?_)
                · exact SS.out _ (ext_alloc hHeld.1 _)
                clear hHeld
                have hHeld := hHeld2
                clear hHeld2
                clear hK K
                try simp only [Act.put, List.setIfInBounds_toArray, List.set_cons_zero, List.set_cons_succ]
                refine rg_one (i := 4) (by kernel_rfl) (rg_step rfl (by rfl) (fun K hK => ?_))
                refine rg_append (some 67) _ _ 22 22 rfl rfl rfl _ _ rfl rfl (Own.append_k (w0 := wq) crI 22 ((Own.madeH wq wq.heap.size 24 Cr.cells 3 (by simp) wq.heap.size (by simp)).alloc _).drew_ hHeld.1 (ys := l.take k) (m := k) HKT.out.symm c ((SL.out.ext hHeld.1).take k) (l.take k) rfl k HKT.out (by omega) (by unfold maxLen; omega)) ?_
                rintro _ w1 ⟨A1, c1, rfl, hO1, B1, hg1, hc1, hm1⟩
                refine hK.out _ _ ?_ (fun hHeld2 => ?_)
                · exact SS.out _ B1
                clear hHeld
                have hHeld := hHeld2
                clear hHeld2
                clear hK K
                try simp only [Act.put, List.setIfInBounds_toArray, List.set_cons_zero, List.set_cons_succ]
                refine rg_one (i := 7) (by kernel_rfl) (rg_step rfl (by rfl) (fun K hK => ?_))
                refine rg_append (some 70) _ _ 22 22 rfl rfl rfl _ _ rfl rfl (Own.append_k (w0 := wq) crI 22 hO1 hHeld.1 (ys := [(⟨a.a, a.m + x.m, a.u⟩ : Cr)]) (m := 1) rfl 1 ((slc_litH _ [(⟨a.a, a.m + x.m, a.u⟩ : Cr)] _ 24 (enc := Cr.cells) (sz := 3) (fun _ => rfl) rfl (wq.heap.size + 1) (by first | rfl | simp)).drew_.grown hg1 (fun b o s e => by cases e; simp [Value.ownBlock])) (l.take k ++ [(⟨a.a, a.m + x.m, a.u⟩ : Cr)]) rfl (k + 1) (by simp [HKT.out]) (by omega) (by unfold maxLen; omega)) ?_
                rintro _ w2 ⟨A2, c2, rfl, hO2, B2, hg2, hc2, hm2⟩
                refine hK.out _ _ ?_ (fun hHeld2 => ?_)
                · exact SS.out _ B2
                clear hHeld
                have hHeld := hHeld2
                clear hHeld2
                clear hK K
                try simp only [Act.put, List.setIfInBounds_toArray, List.set_cons_zero, List.set_cons_succ]
                refine rg_take (i := 8) (some 8) (v := ?_) rfl rfl (by kernel_rfl) (by rfl) hQ7 hHeld ?_ ?_
                rotate_left
                · intro w7 hSw; (try dsimp only at hSw); go_simp; all_goals with_reducible rfl
                try simp only [Act.put, List.setIfInBounds_toArray, List.set_cons_zero, List.set_cons_succ]
                refine rg_end (by kernel_rfl) (hN7 _ _ ?_) _
                clear hQ7 hN7 Q7
                have BX := hHeld.1
                clear SS
                replace SL := Lib.hid (SL.out.ext B2)
                replace E := Lib.hid (ext_trans E.out B2)
                obtain ⟨_, w3, hrun, A3, c3, rfl, hO3, B3, hg3, hc3, hm3⟩ := Own.append_k (w0 := wq) crI 22 hO2 B2 (ys := l.drop (k + 1)) (m := l.length - (k + 1)) HKD.out.symm (c - (k + 1)) (show Slc _ Cr.cells 3 AF (l.drop (k + 1)) by rw [← HAF.out]; exact SL.out.from_ (k + 1) c hc) (l.take k ++ (⟨a.a, a.m + x.m, a.u⟩ : Cr) :: l.drop (k + 1)) (by simp) (k + 1 + (l.length - (k + 1))) (by simp; omega) (by omega) (by unfold maxLen; omega)
                have HRUN := Lib.hid hrun
                have HO3 := Lib.hid hO3
                clear hrun hO3 hO2 BX
                go_wp2_with (first | (at_builtin; refine wpList_append_run rfl (.tmp 71) (.tmp 72) 22 rfl (.slice A2 (k + 1) c2) (.slice AF (l.length - (k + 1)) (c - (k + 1))) rfl rfl HRUN.out ?_) | fail)
                refine bodyPost_ret (v := .tuple #[.slice A3 (k + 1 + (l.length - (k + 1))) c3, .int .i64 0]) (by simp [results, Try.results9, go_sem, *]) rfl ?_
                exact LeR.good (by rw [HSM.out]; exact earn_sum HV.out HF.out HC.out HX.out HB.out HFS.out) rfl (HO3.out.low HEQ.out) (by simp; omega) (ext_trans E0.out B3)
            · go_simp
              refine hK.out _ _ ?_ (fun hHeld2 => ?_)
              · exact SS.out _ (ext_alloc hHeld.1 _)
              clear hHeld
              have hHeld := hHeld2
              clear hHeld2
              clear hK K
              try simp only [Act.put, List.setIfInBounds_toArray, List.set_cons_zero, List.set_cons_succ]
              refine rg_one (i := 0) (by kernel_rfl) (rg_step rfl (by rfl) (fun K hK => ?_))
              go_simp
              refine hK.out _ _ ?_ (fun hHeld2 => ?_)
              · exact SS.out _ (ext_alloc hHeld.1 _)
              clear hHeld
              have hHeld := hHeld2
              clear hHeld2
              clear hK K
              try simp only [Act.put, List.setIfInBounds_toArray, List.set_cons_zero, List.set_cons_succ]
              refine rg_one (i := 4) (by kernel_rfl) (rg_step rfl (by rfl) (fun K hK => ?_))
              refine rg_append (some 67) _ _ 22 22 rfl rfl rfl _ _ rfl rfl (Own.append_k (w0 := wq) crI 22 (Own.madeH _ wq.heap.size 24 Cr.cells 3 (by simp) (wq.heap.size + 1) (by simp)).drew_ hHeld.1 (ys := l.take k) (m := k) HKT.out.symm c ((SL.out.ext hHeld.1).take k) (l.take k) rfl k HKT.out (by omega) (by unfold maxLen; omega)) ?_
              rintro _ w1 ⟨A1, c1, rfl, hO1, B1, hg1, hc1, hm1⟩
              refine hK.out _ _ ?_ (fun hHeld2 => ?_)
              · exact SS.out _ B1
              clear hHeld
              have hHeld := hHeld2
              clear hHeld2
              clear hK K
              try simp only [Act.put, List.setIfInBounds_toArray, List.set_cons_zero, List.set_cons_succ]
              refine rg_one (i := 7) (by kernel_rfl) (rg_step rfl (by rfl) (fun K hK => ?_))
              refine rg_append (some 70) _ _ 22 22 rfl rfl rfl _ _ rfl rfl (Own.append_k (w0 := wq) crI 22 hO1 hHeld.1 (ys := [(⟨a.a, a.m + x.m, a.u⟩ : Cr)]) (m := 1) rfl 1 (((slc_litH _ [(⟨a.a, a.m + x.m, a.u⟩ : Cr)] _ 24 (enc := Cr.cells) (sz := 3) (fun _ => rfl) rfl wq.heap.size (by first | rfl | simp)).alloc _).drew_.grown hg1 (fun b o s e => by cases e; simp [Value.ownBlock])) (l.take k ++ [(⟨a.a, a.m + x.m, a.u⟩ : Cr)]) rfl (k + 1) (by simp [HKT.out]) (by omega) (by unfold maxLen; omega)) ?_
              rintro _ w2 ⟨A2, c2, rfl, hO2, B2, hg2, hc2, hm2⟩
              refine hK.out _ _ ?_ (fun hHeld2 => ?_)
              · exact SS.out _ B2
              clear hHeld
              have hHeld := hHeld2
              clear hHeld2
              clear hK K
              try simp only [Act.put, List.setIfInBounds_toArray, List.set_cons_zero, List.set_cons_succ]
              refine rg_take (i := 8) (some 8) (v := ?_) rfl rfl (by kernel_rfl) (by rfl) hQ7 hHeld ?_ ?_
              rotate_left
              · intro w7 hSw; (try dsimp only at hSw); go_simp; all_goals with_reducible rfl
              try simp only [Act.put, List.setIfInBounds_toArray, List.set_cons_zero, List.set_cons_succ]
              refine rg_end (by kernel_rfl) (hN7 _ _ ?_) _
              clear hQ7 hN7 Q7
              have BX := hHeld.1
              clear SS
              replace SL := Lib.hid (SL.out.ext B2)
              replace E := Lib.hid (ext_trans E.out B2)
              obtain ⟨_, w3, hrun, A3, c3, rfl, hO3, B3, hg3, hc3, hm3⟩ := Own.append_k (w0 := wq) crI 22 hO2 B2 (ys := l.drop (k + 1)) (m := l.length - (k + 1)) HKD.out.symm (c - (k + 1)) (show Slc _ Cr.cells 3 AF (l.drop (k + 1)) by rw [← HAF.out]; exact SL.out.from_ (k + 1) c hc) (l.take k ++ (⟨a.a, a.m + x.m, a.u⟩ : Cr) :: l.drop (k + 1)) (by simp) (k + 1 + (l.length - (k + 1))) (by simp; omega) (by omega) (by unfold maxLen; omega)
              have HRUN := Lib.hid hrun
              have HO3 := Lib.hid hO3
              clear hrun hO3 hO2 BX
              go_wp2_with (first | (at_builtin; refine wpList_append_run rfl (.tmp 71) (.tmp 72) 22 rfl (.slice A2 (k + 1) c2) (.slice AF (l.length - (k + 1)) (c - (k + 1))) rfl rfl HRUN.out ?_) | fail)
              refine bodyPost_ret (v := .tuple #[.slice A3 (k + 1 + (l.length - (k + 1))) c3, .int .i64 0]) (by simp [results, Try.results9, go_sem, *]) rfl ?_
              exact LeR.good (by rw [HSM.out]; exact earn_sum HV.out HF.out HC.out HX.out HB.out HFS.out) rfl (HO3.out.low HEQ.out) (by simp; omega) (ext_trans E0.out B3)
        · have SS := Lib.hid (show ∀ w', Below w1.heap.size w1 w' → (fun w' => Below w1.heap.size w1 w' ∧ w'.cell? ⟨sX, 0, none⟩ = some (.int .i64 a.a) ∧ w'.cell? ⟨sX, 1, none⟩ = some (.int .i64 a.m) ∧ w'.cell? ⟨sX, 2, none⟩ = some (.int .i64 a.u) ∧ w'.cell? ⟨b1, o1 + k * 3, none⟩ = some (.int .i64 x.a) ∧ w'.cell? ⟨b1, o1 + k * 3 + 1, none⟩ = some (.int .i64 x.m) ∧ w'.cell? ⟨b1, o1 + k * 3 + 2, none⟩ = some (.int .i64 x.u)) w' from fun w' h => ⟨h, (X.out.ext h).c 0 _ rfl, (X.out.ext h).c 1 _ rfl, (X.out.ext h).c 2 _ rfl, (h.cell (p := ⟨b1, o1 + k * 3, none⟩) hb1).trans d0, (h.cell (p := ⟨b1, o1 + k * 3 + 1, none⟩) hb1).trans d1, (h.cell (p := ⟨b1, o1 + k * 3 + 2, none⟩) hb1).trans d2⟩)
          refine rg_begin (S := (fun w' => Below w1.heap.size w1 w' ∧ w'.cell? ⟨sX, 0, none⟩ = some (.int .i64 a.a) ∧ w'.cell? ⟨sX, 1, none⟩ = some (.int .i64 a.m) ∧ w'.cell? ⟨sX, 2, none⟩ = some (.int .i64 a.u) ∧ w'.cell? ⟨b1, o1 + k * 3, none⟩ = some (.int .i64 x.a) ∧ w'.cell? ⟨b1, o1 + k * 3 + 1, none⟩ = some (.int .i64 x.m) ∧ w'.cell? ⟨b1, o1 + k * 3 + 2, none⟩ = some (.int .i64 x.u))) 13 (by kernel_rfl) (by intro d; cases d <;> intro _ _ _ _ h <;> exact h) ?_ (fun Q7 hQ7 hN7 hHeld => ?_)
          · exact SS.out _ (ext_drew (ext_refl _))
          refine rg_take (i := 0) (some 34) (v := ?_) rfl rfl (by kernel_rfl) (by rfl) hQ7 hHeld ?_ ?_
          rotate_left
          · intro w7 hSw; (try dsimp only at hSw); go_simp; all_goals with_reducible rfl
          try simp only [Act.put, List.setIfInBounds_toArray, List.set_cons_zero, List.set_cons_succ]
          refine rg_take (i := 1) (some 35) (v := ?_) rfl rfl (by kernel_rfl) (by rfl) hQ7 hHeld ?_ ?_
          rotate_left
          · intro w7 hSw; (try dsimp only at hSw); go_simp; all_goals with_reducible rfl
          try simp only [Act.put, List.setIfInBounds_toArray, List.set_cons_zero, List.set_cons_succ]
          refine rg_take (i := 2) (some 36) (v := ?_) rfl rfl (by kernel_rfl) (by rfl) hQ7 hHeld ?_ ?_
          rotate_left
          · intro w7 hSw; (try dsimp only at hSw); go_simp; all_goals with_reducible rfl
          try simp only [Act.put, List.setIfInBounds_toArray, List.set_cons_zero, List.set_cons_succ]
          refine rg_take (i := 3) (some 37) (v := ?_) rfl rfl (by kernel_rfl) (by rfl) hQ7 hHeld ?_ ?_
          rotate_left
          · intro w7 hSw; (try dsimp only at hSw); go_simp; all_goals with_reducible rfl
          try simp only [Act.put, List.setIfInBounds_toArray, List.set_cons_zero, List.set_cons_succ]
          refine rg_take (i := 4) (some 38) (v := ?_) rfl rfl (by kernel_rfl) (by rfl) hQ7 hHeld ?_ ?_
          rotate_left
          · intro w7 hSw; (try dsimp only at hSw); go_simp; all_goals with_reducible rfl
          try simp only [Act.put, List.setIfInBounds_toArray, List.set_cons_zero, List.set_cons_succ]
          refine rg_take (i := 5) (some 39) (v := ?_) rfl rfl (by kernel_rfl) (by rfl) hQ7 hHeld ?_ ?_
          rotate_left
          · intro w7 hSw; (try dsimp only at hSw); go_simp; all_goals with_reducible rfl
          try simp only [Act.put, List.setIfInBounds_toArray, List.set_cons_zero, List.set_cons_succ]
          refine rg_take (i := 6) (some 40) (v := ?_) rfl rfl (by kernel_rfl) (by rfl) hQ7 hHeld ?_ ?_
          rotate_left
          · intro w7 hSw; (try dsimp only at hSw); go_simp; all_goals with_reducible rfl
          try simp only [Act.put, List.setIfInBounds_toArray, List.set_cons_zero, List.set_cons_succ]
          refine rg_take (i := 7) (some 41) (v := ?_) rfl rfl (by kernel_rfl) (by rfl) hQ7 hHeld ?_ ?_
          rotate_left
          · intro w7 hSw; (try dsimp only at hSw); go_simp; all_goals with_reducible rfl
          try simp only [Act.put, List.setIfInBounds_toArray, List.set_cons_zero, List.set_cons_succ]
          refine rg_take (i := 8) (some 42) (v := ?_) rfl rfl (by kernel_rfl) (by rfl) hQ7 hHeld ?_ ?_
          rotate_left
          · intro w7 hSw; (try dsimp only at hSw); go_simp; all_goals with_reducible rfl
          try simp only [Act.put, List.setIfInBounds_toArray, List.set_cons_zero, List.set_cons_succ]
          refine rg_take (i := 9) (some 43) (v := ?_) rfl rfl (by kernel_rfl) (by rfl) hQ7 hHeld ?_ ?_
          rotate_left
          · intro w7 hSw; (try dsimp only at hSw); go_simp; all_goals with_reducible rfl
          try simp only [Act.put, List.setIfInBounds_toArray, List.set_cons_zero, List.set_cons_succ]
          refine rg_one (i := 10) (by kernel_rfl) (rg_step rfl (by rfl) (fun K hK => ?_))
          go_simp
          refine (before_at (x := a) (y := x) true HB.out).mono ?_
          rintro e w4 ⟨rfl, B1⟩
          go_wp2_with fail
          refine hK.out _ _ ?_ (fun hHeld2 => ?_)
          · exact SS.out _ (ext_trans hHeld.1 B1)
          clear hHeld
          have hHeld := hHeld2
          clear hHeld2
          clear hK K
          try simp only [Act.put, List.setIfInBounds_toArray, List.set_cons_zero, List.set_cons_succ]
          refine rg_take (i := 11) (some 45) (v := ?_) rfl rfl (by kernel_rfl) (by rfl) hQ7 hHeld ?_ ?_
          rotate_left
          · intro w7 hSw; (try dsimp only at hSw); go_simp; all_goals with_reducible rfl
          try simp only [Act.put, List.setIfInBounds_toArray, List.set_cons_zero, List.set_cons_succ]
          refine rg_take (i := 12) (some 46) (v := ?_) rfl rfl (by kernel_rfl) (by rfl) hQ7 hHeld ?_ ?_
          rotate_left
          · intro w7 hSw; (try dsimp only at hSw); go_simp; all_goals with_reducible rfl
          try simp only [Act.put, List.setIfInBounds_toArray, List.set_cons_zero, List.set_cons_succ]
          refine rg_end (by kernel_rfl) (hN7 _ _ ?_) _
          clear hQ7 hN7 Q7
          have BX := hHeld.1
          clear SS
          replace SL := Lib.hid (SL.out.ext BX)
          replace X := Lib.hid (X.out.ext BX)
          replace E := Lib.hid (ext_trans E.out BX)
          clear BX
          go_wp2_with fail
          clear d0 d1 d2 hb1
          have hs1 := fun w : World => slice_headCr (some ⟨b1, o1, none⟩) l.length c k _ rfl (by omega) w
          have HKT := Lib.hid (show (l.take k).length = k by simp; omega)
          have HKD := Lib.hid (show (l.drop (k)).length = l.length - (k) by simp)
          obtain ⟨wq, hNwq⟩ : ∃ W0, W0 = w4 := ⟨_, rfl⟩
          rw [← hNwq] at SL X E ⊢
          clear hNwq
          have E0 := E
          have HEQ := Lib.hid E.out.size
          have SS := Lib.hid (show ∀ w', Below wq.heap.size wq w' → (fun w' => Below wq.heap.size wq w' ∧ w'.cell? ⟨sX, 0, none⟩ = some (.int .i64 a.a) ∧ w'.cell? ⟨sX, 1, none⟩ = some (.int .i64 a.m) ∧ w'.cell? ⟨sX, 2, none⟩ = some (.int .i64 a.u)) w' from fun w' h => ⟨h, (X.out.ext h).c 0 _ rfl, (X.out.ext h).c 1 _ rfl, (X.out.ext h).c 2 _ rfl⟩)
          refine rg_begin (S := (fun w' => Below wq.heap.size wq w' ∧ w'.cell? ⟨sX, 0, none⟩ = some (.int .i64 a.a) ∧ w'.cell? ⟨sX, 1, none⟩ = some (.int .i64 a.m) ∧ w'.cell? ⟨sX, 2, none⟩ = some (.int .i64 a.u))) 9 (by kernel_rfl) (by intro d; cases d <;> intro _ _ _ _ h <;> exact h) ?_ (fun Q7 hQ7 hN7 hHeld => ?_)
          · exact SS.out _ (ext_drew (ext_refl _))
          refine rg_take (i := 1) (some 64) (v := ?_) rfl rfl (by kernel_rfl) (by rfl) hQ7 hHeld ?_ ?_
          rotate_left
          · intro w7 hSw; (try dsimp only at hSw); go_simp; all_goals with_reducible rfl
          try simp only [Act.put, List.setIfInBounds_toArray, List.set_cons_zero, List.set_cons_succ]
          refine rg_take (i := 2) (some 65) (v := ?_) rfl rfl (by kernel_rfl) (by rfl) hQ7 hHeld ?_ ?_
          rotate_left
          · intro w7 hSw; (try dsimp only at hSw); go_simp; all_goals with_reducible rfl
          try simp only [Act.put, List.setIfInBounds_toArray, List.set_cons_zero, List.set_cons_succ]
          refine rg_take (i := 3) (some 66) (v := .slice (some ⟨b1, o1, none⟩) k c) rfl rfl (by kernel_rfl) (by rfl) hQ7 hHeld (fun w7 hSw => run_v (hs1 w7)) ?_
          try simp only [Act.put, List.setIfInBounds_toArray, List.set_cons_zero, List.set_cons_succ]
          refine rg_take (i := 5) (some 68) (v := ?_) rfl rfl (by kernel_rfl) (by rfl) hQ7 hHeld ?_ ?_
          rotate_left
          · intro w7 hSw; (try dsimp only at hSw); go_simp; all_goals with_reducible rfl
          try simp only [Act.put, List.setIfInBounds_toArray, List.set_cons_zero, List.set_cons_succ]
          refine rg_two (i := 0) (j := 6) (by kernel_rfl) (rg_step rfl (by rfl) (fun K hK => ?_)) (rg_step rfl (by rfl) (fun K hK => ?_))
          · go_simp
            refine hK.out _ _ ?_ (fun hHeld2 => ?_)
            · exact SS.out _ (ext_alloc hHeld.1 _)
            clear hHeld
            have hHeld := hHeld2
            clear hHeld2
            clear hK K
            try simp only [Act.put, List.setIfInBounds_toArray, List.set_cons_zero, List.set_cons_succ]
            refine rg_two (i := 4) (j := 6) (by kernel_rfl) (rg_step rfl (by rfl) (fun K hK => ?_)) (rg_step rfl (by rfl) (fun K hK => ?_))
            · refine rg_append (some 67) _ _ 22 22 rfl rfl rfl _ _ rfl rfl (Own.append_k (w0 := wq) crI 22 (Own.madeH wq wq.heap.size 24 Cr.cells 3 (by simp) wq.heap.size (by simp)).drew_ hHeld.1 (ys := l.take k) (m := k) HKT.out.symm c ((SL.out.ext hHeld.1).take k) (l.take k) rfl k HKT.out (by omega) (by unfold maxLen; omega)) ?_
              rintro _ w1 ⟨A1, c1, rfl, hO1, B1, hg1, hc1, hm1⟩
              refine hK.out _ _ ?_ (fun hHeld2 => ?_)
              · exact SS.out _ B1
              clear hHeld
              have hHeld := hHeld2
              clear hHeld2
              clear hK K
              try simp only [Act.put, List.setIfInBounds_toArray, List.set_cons_zero, List.set_cons_succ]
              refine rg_one (i := 6) (by kernel_rfl) (rg_step rfl (by rfl) (fun K hK => ?_))
              go_simp
              refine hK.out _ _ ?_ (fun hHeld2 => ?_)
              · exact SS.out _ (ext_alloc hHeld.1 _)
              clear hHeld
              have hHeld := hHeld2
              clear hHeld2
              clear hK K
              try simp only [Act.put, List.setIfInBounds_toArray, List.set_cons_zero, List.set_cons_succ]
              refine rg_one (i := 7) (by kernel_rfl) (rg_step rfl (by rfl) (fun K hK => ?_))
              refine rg_append (some 70) _ _ 22 22 rfl rfl rfl _ _ rfl rfl (Own.append_k (w0 := wq) crI 22 (hO1.alloc _) hHeld.1 (ys := [a]) (m := 1) rfl 1 (slc_litH w1 [a] _ 24 (enc := Cr.cells) (sz := 3) (fun _ => rfl) rfl w1.heap.size (by first | rfl | simp)) (l.take k ++ [a]) rfl (k + 1) (by simp [HKT.out]) (by omega) (by unfold maxLen; omega)) ?_
              rintro _ w2 ⟨A2, c2, rfl, hO2, B2, hg2, hc2, hm2⟩
              refine hK.out _ _ ?_ (fun hHeld2 => ?_)
              · exact SS.out _ B2
              clear hHeld
              have hHeld := hHeld2
              clear hHeld2
              clear hK K
              try simp only [Act.put, List.setIfInBounds_toArray, List.set_cons_zero, List.set_cons_succ]
              refine rg_take (i := 8) (some 8) (v := ?_) rfl rfl (by kernel_rfl) (by rfl) hQ7 hHeld ?_ ?_
              rotate_left
              · intro w7 hSw; (try dsimp only at hSw); go_simp; all_goals with_reducible rfl
              try simp only [Act.put, List.setIfInBounds_toArray, List.set_cons_zero, List.set_cons_succ]
              refine rg_end (by kernel_rfl) (hN7 _ _ ?_) _
              clear hQ7 hN7 Q7
              have BX := hHeld.1
              clear SS
              replace SL := Lib.hid (SL.out.ext B2)
              replace E := Lib.hid (ext_trans E.out B2)
              obtain ⟨_, w3, hrun, A3, c3, rfl, hO3, B3, hg3, hc3, hm3⟩ := Own.append_k (w0 := wq) crI 22 hO2 B2 (ys := l.drop (k)) (m := l.length - (k)) HKD.out.symm (c - (k)) (show Slc _ Cr.cells 3 AF (l.drop (k)) by rw [← HAF.out]; exact SL.out.from_ (k) c hc) (l.take k ++ a :: l.drop (k)) (by simp) (k + 1 + (l.length - (k))) (by simp; omega) (by omega) (by unfold maxLen; omega)
              have HRUN := Lib.hid hrun
              have HO3 := Lib.hid hO3
              clear hrun hO3 hO2 BX
              go_wp2_with (first | (at_builtin; refine wpList_append_run rfl (.tmp 71) (.tmp 72) 22 rfl (.slice A2 (k + 1) c2) (.slice AF (l.length - (k)) (c - (k))) rfl rfl HRUN.out ?_) | fail)
              refine bodyPost_ret (v := .tuple #[.slice A3 (k + 1 + (l.length - (k))) c3, .int .i64 0]) (by simp [results, Try.results9, go_sem, *]) rfl ?_
              exact LeR.good (earn_new HV.out HF.out HC.out (fun ⟨y, hy, hb⟩ => by rw [HX.out] at hy; obtain rfl := Option.some.inj hy; rw [HB.out] at hb; cases hb)) rfl (HO3.out.low HEQ.out) (by simp; omega) (ext_trans E0.out B3)
            · go_simp
              refine hK.out _ _ ?_ (fun hHeld2 => ?_)
              · exact SS.out _ (ext_alloc hHeld.1 _)
              clear hHeld
              have hHeld := hHeld2
              clear hHeld2
              clear hK K
              try simp only [Act.put, List.setIfInBounds_toArray, List.set_cons_zero, List.set_cons_succ]
              refine rg_one (i := 4) (by kernel_rfl) (rg_step rfl (by rfl) (fun K hK => ?_))
              refine rg_append (some 67) _ _ 22 22 rfl rfl rfl _ _ rfl rfl (Own.append_k (w0 := wq) crI 22 ((Own.madeH wq wq.heap.size 24 Cr.cells 3 (by simp) wq.heap.size (by simp)).alloc _).drew_ hHeld.1 (ys := l.take k) (m := k) HKT.out.symm c ((SL.out.ext hHeld.1).take k) (l.take k) rfl k HKT.out (by omega) (by unfold maxLen; omega)) ?_
              rintro _ w1 ⟨A1, c1, rfl, hO1, B1, hg1, hc1, hm1⟩
              refine hK.out _ _ ?_ (fun hHeld2 => ?_)
              · exact SS.out _ B1
              clear hHeld
              have hHeld := hHeld2
              clear hHeld2
              clear hK K
              try simp only [Act.put, List.setIfInBounds_toArray, List.set_cons_zero, List.set_cons_succ]
              refine rg_one (i := 7) (by kernel_rfl) (rg_step rfl (by rfl) (fun K hK => ?_))
              refine rg_append (some 70) _ _ 22 22 rfl rfl rfl _ _ rfl rfl (Own.append_k (w0 := wq) crI 22 hO1 hHeld.1 (ys := [a]) (m := 1) rfl 1 ((slc_litH _ [a] _ 24 (enc := Cr.cells) (sz := 3) (fun _ => rfl) rfl (wq.heap.size + 1) (by first | rfl | simp)).drew_.grown hg1 (fun b o s e => by cases e; simp [Value.ownBlock])) (l.take k ++ [a]) rfl (k + 1) (by simp [HKT.out]) (by omega) (by unfold maxLen; omega)) ?_
              rintro _ w2 ⟨A2, c2, rfl, hO2, B2, hg2, hc2, hm2⟩
              refine hK.out _ _ ?_ (fun hHeld2 => ?_)
              · exact SS.out _ B2
              clear hHeld
              have hHeld := hHeld2
              clear hHeld2
              clear hK K
              try simp only [Act.put, List.setIfInBounds_toArray, List.set_cons_zero, List.set_cons_succ]
              refine rg_take (i := 8) (some 8) (v := ?_) rfl rfl (by kernel_rfl) (by rfl) hQ7 hHeld ?_ ?_
              rotate_left
              · intro w7 hSw; (try dsimp only at hSw); go_simp; all_goals with_reducible rfl
              try simp only [Act.put, List.setIfInBounds_toArray, List.set_cons_zero, List.set_cons_succ]
              refine rg_end (by kernel_rfl) (hN7 _ _ ?_) _
              clear hQ7 hN7 Q7
              have BX := hHeld.1
              clear SS
              replace SL := Lib.hid (SL.out.ext B2)
              replace E := Lib.hid (ext_trans E.out B2)
              obtain ⟨_, w3, hrun, A3, c3, rfl, hO3, B3, hg3, hc3, hm3⟩ := Own.append_k (w0 := wq) crI 22 hO2 B2 (ys := l.drop (k)) (m := l.length - (k)) HKD.out.symm (c - (k)) (show Slc _ Cr.cells 3 AF (l.drop (k)) by rw [← HAF.out]; exact SL.out.from_ (k) c hc) (l.take k ++ a :: l.drop (k)) (by simp) (k + 1 + (l.length - (k))) (by simp; omega) (by omega) (by unfold maxLen; omega)
              have HRUN := Lib.hid hrun
              have HO3 := Lib.hid hO3
              clear hrun hO3 hO2 BX
              go_wp2_with (first | (at_builtin; refine wpList_append_run rfl (.tmp 71) (.tmp 72) 22 rfl (.slice A2 (k + 1) c2) (.slice AF (l.length - (k)) (c - (k))) rfl rfl HRUN.out ?_) | fail)
              refine bodyPost_ret (v := .tuple #[.slice A3 (k + 1 + (l.length - (k))) c3, .int .i64 0]) (by simp [results, Try.results9, go_sem, *]) rfl ?_
              exact LeR.good (earn_new HV.out HF.out HC.out (fun ⟨y, hy, hb⟩ => by rw [HX.out] at hy; obtain rfl := Option.some.inj hy; rw [HB.out] at hb; cases hb)) rfl (HO3.out.low HEQ.out) (by simp; omega) (ext_trans E0.out B3)
          · go_simp
            refine hK.out _ _ ?_ (fun hHeld2 => ?_)
            · exact SS.out _ (ext_alloc hHeld.1 _)
            clear hHeld
            have hHeld := hHeld2
            clear hHeld2
            clear hK K
            try simp only [Act.put, List.setIfInBounds_toArray, List.set_cons_zero, List.set_cons_succ]
            refine rg_one (i := 0) (by kernel_rfl) (rg_step rfl (by rfl) (fun K hK => ?_))
            go_simp
            refine hK.out _ _ ?_ (fun hHeld2 => ?_)
            · exact SS.out _ (ext_alloc hHeld.1 _)
            clear hHeld
            have hHeld := hHeld2
            clear hHeld2
            clear hK K
            try simp only [Act.put, List.setIfInBounds_toArray, List.set_cons_zero, List.set_cons_succ]
            refine rg_one (i := 4) (by kernel_rfl) (rg_step rfl (by rfl) (fun K hK => ?_))
            refine rg_append (some 67) _ _ 22 22 rfl rfl rfl _ _ rfl rfl (Own.append_k (w0 := wq) crI 22 (Own.madeH _ wq.heap.size 24 Cr.cells 3 (by simp) (wq.heap.size + 1) (by simp)).drew_ hHeld.1 (ys := l.take k) (m := k) HKT.out.symm c ((SL.out.ext hHeld.1).take k) (l.take k) rfl k HKT.out (by omega) (by unfold maxLen; omega)) ?_
            rintro _ w1 ⟨A1, c1, rfl, hO1, B1, hg1, hc1, hm1⟩
            refine hK.out _ _ ?_ (fun hHeld2 => ?_)
            · exact SS.out _ B1
            clear hHeld
            have hHeld := hHeld2
            clear hHeld2
            clear hK K
            try simp only [Act.put, List.setIfInBounds_toArray, List.set_cons_zero, List.set_cons_succ]
            refine rg_one (i := 7) (by kernel_rfl) (rg_step rfl (by rfl) (fun K hK => ?_))
            refine rg_append (some 70) _ _ 22 22 rfl rfl rfl _ _ rfl rfl (Own.append_k (w0 := wq) crI 22 hO1 hHeld.1 (ys := [a]) (m := 1) rfl 1 (((slc_litH _ [a] _ 24 (enc := Cr.cells) (sz := 3) (fun _ => rfl) rfl wq.heap.size (by first | rfl | simp)).alloc _).drew_.grown hg1 (fun b o s e => by cases e; simp [Value.ownBlock])) (l.take k ++ [a]) rfl (k + 1) (by simp [HKT.out]) (by omega) (by unfold maxLen; omega)) ?_
            rintro _ w2 ⟨A2, c2, rfl, hO2, B2, hg2, hc2, hm2⟩
            refine hK.out _ _ ?_ (fun hHeld2 => ?_)
            · exact SS.out _ B2
            clear hHeld
            have hHeld := hHeld2
            clear hHeld2
            clear hK K
            try simp only [Act.put, List.setIfInBounds_toArray, List.set_cons_zero, List.set_cons_succ]
            refine rg_take (i := 8) (some 8) (v := ?_) rfl rfl (by kernel_rfl) (by rfl) hQ7 hHeld ?_ ?_
            rotate_left
            · intro w7 hSw; (try dsimp only at hSw); go_simp; all_goals with_reducible rfl
            try simp only [Act.put, List.setIfInBounds_toArray, List.set_cons_zero, List.set_cons_succ]
            refine rg_end (by kernel_rfl) (hN7 _ _ ?_) _
            clear hQ7 hN7 Q7
            have BX := hHeld.1
            clear SS
            replace SL := Lib.hid (SL.out.ext B2)
            replace E := Lib.hid (ext_trans E.out B2)
            obtain ⟨_, w3, hrun, A3, c3, rfl, hO3, B3, hg3, hc3, hm3⟩ := Own.append_k (w0 := wq) crI 22 hO2 B2 (ys := l.drop (k)) (m := l.length - (k)) HKD.out.symm (c - (k)) (show Slc _ Cr.cells 3 AF (l.drop (k)) by rw [← HAF.out]; exact SL.out.from_ (k) c hc) (l.take k ++ a :: l.drop (k)) (by simp) (k + 1 + (l.length - (k))) (by simp; omega) (by omega) (by unfold maxLen; omega)
            have HRUN := Lib.hid hrun
            have HO3 := Lib.hid hO3
            clear hrun hO3 hO2 BX
            go_wp2_with (first | (at_builtin; refine wpList_append_run rfl (.tmp 71) (.tmp 72) 22 rfl (.slice A2 (k + 1) c2) (.slice AF (l.length - (k)) (c - (k))) rfl rfl HRUN.out ?_) | fail)
            refine bodyPost_ret (v := .tuple #[.slice A3 (k + 1 + (l.length - (k))) c3, .int .i64 0]) (by simp [results, Try.results9, go_sem, *]) rfl ?_
            exact LeR.good (earn_new HV.out HF.out HC.out (fun ⟨y, hy, hb⟩ => by rw [HX.out] at hy; obtain rfl := Option.some.inj hy; rw [HB.out] at hb; cases hb)) rfl (HO3.out.low HEQ.out) (by simp; omega) (ext_trans E0.out B3)
      · have hge : ¬ (k : Int) < l.length := by omega
        have HC := Lib.hid (show CutAt (fun x => bef x a) l k from ⟨hk, HP.out, fun q y hq hy => by have := (List.getElem?_eq_some_iff.1 hy).1; omega⟩)
        obtain ⟨AF, hAF⟩ : ∃ z, fromACr A c k = z := ⟨_, rfl⟩
        have hs2 := fun w : World => slice_fromCr A l.length c k _ rfl hk hc w
        rw [hAF] at hs2
        have HAF := Lib.hid hAF
        clear hAF
        go_wp2_with fail
        have SS := Lib.hid (show ∀ w', Below wr.heap.size wr w' → (fun w' => Below wr.heap.size wr w') w' from fun w' h => h)
        refine rg_begin (S := (fun w' => Below wr.heap.size wr w')) 12 (by kernel_rfl) (by intro d; cases d <;> intro _ _ _ _ h <;> exact h) ?_ (fun Q7 hQ7 hN7 hHeld => ?_)
        · exact SS.out _ (ext_drew (ext_refl _))
        refine rg_take (i := 0) (some 17) (v := ?_) rfl rfl (by kernel_rfl) (by rfl) hQ7 hHeld ?_ ?_
        rotate_left
        · intro w7 hSw; (try dsimp only at hSw); go_simp; all_goals with_reducible rfl
        try simp only [Act.put, List.setIfInBounds_toArray, List.set_cons_zero, List.set_cons_succ]
        refine rg_take (i := 1) (some 18) (v := ?_) rfl rfl (by kernel_rfl) (by rfl) hQ7 hHeld ?_ ?_
        rotate_left
        · intro w7 hSw; (try dsimp only at hSw); go_simp; all_goals with_reducible rfl
        try simp only [Act.put, List.setIfInBounds_toArray, List.set_cons_zero, List.set_cons_succ]
        refine rg_take (i := 2) (some 19) (v := ?_) rfl rfl (by kernel_rfl) (by rfl) hQ7 hHeld ?_ ?_
        rotate_left
        · intro w7 hSw; (try dsimp only at hSw); go_simp; all_goals with_reducible rfl
        try simp only [Act.put, List.setIfInBounds_toArray, List.set_cons_zero, List.set_cons_succ]
        refine rg_take (i := 3) (some 20) (v := ?_) rfl rfl (by kernel_rfl) (by rfl) hQ7 hHeld ?_ ?_
        rotate_left
        · intro w7 hSw; (try dsimp only at hSw); go_simp; all_goals with_reducible rfl
        try simp only [Act.put, List.setIfInBounds_toArray, List.set_cons_zero, List.set_cons_succ]
        refine rg_take (i := 4) (some 21) (v := ?_) rfl rfl (by kernel_rfl) (by rfl) hQ7 hHeld ?_ ?_
        rotate_left
        · intro w7 hSw; (try dsimp only at hSw); go_simp; all_goals with_reducible rfl
        try simp only [Act.put, List.setIfInBounds_toArray, List.set_cons_zero, List.set_cons_succ]
        refine rg_skip (i := 5) (some 22) rfl rfl (by kernel_rfl) (by rfl) hQ7 hHeld ?_
        try simp only [Act.put, List.setIfInBounds_toArray, List.set_cons_zero, List.set_cons_succ]
        refine rg_skip (i := 6) (some 23) rfl rfl (by kernel_rfl) (by rfl) hQ7 hHeld ?_
        try simp only [Act.put, List.setIfInBounds_toArray, List.set_cons_zero, List.set_cons_succ]
        refine rg_skip (i := 7) (some 24) rfl rfl (by kernel_rfl) (by rfl) hQ7 hHeld ?_
        try simp only [Act.put, List.setIfInBounds_toArray, List.set_cons_zero, List.set_cons_succ]
        refine rg_skip (i := 8) (some 25) rfl rfl (by kernel_rfl) (by rfl) hQ7 hHeld ?_
        try simp only [Act.put, List.setIfInBounds_toArray, List.set_cons_zero, List.set_cons_succ]
        refine rg_skip (i := 9) (some 26) rfl rfl (by kernel_rfl) (by rfl) hQ7 hHeld ?_
        try simp only [Act.put, List.setIfInBounds_toArray, List.set_cons_zero, List.set_cons_succ]
        refine rg_skip (i := 10) (some 27) rfl rfl (by kernel_rfl) (by rfl) hQ7 hHeld ?_
        try simp only [Act.put, List.setIfInBounds_toArray, List.set_cons_zero, List.set_cons_succ]
        refine rg_take (i := 11) (some 28) (v := ?_) rfl rfl (by kernel_rfl) (by rfl) hQ7 hHeld ?_ ?_
        rotate_left
        · intro w7 hSw; (try dsimp only at hSw); go_simp; all_goals with_reducible rfl
        try simp only [Act.put, List.setIfInBounds_toArray, List.set_cons_zero, List.set_cons_succ]
        refine rg_end (by kernel_rfl) (hN7 _ _ ?_) _
        clear hQ7 hN7 Q7
        have BX := hHeld
        clear SS
        replace SL := Lib.hid (SL.out.ext BX)
        replace X := Lib.hid (X.out.ext BX)
        replace E := Lib.hid (ext_trans E.out BX)
        clear BX
        obtain ⟨w1, hNw1⟩ : ∃ W0, W0 = wr.drew := ⟨_, rfl⟩
        rw [← hNw1] at SL X E ⊢
        clear hNw1
        go_wp2_with fail
        have SS := Lib.hid (show ∀ w', Below w1.heap.size w1 w' → (fun w' => Below w1.heap.size w1 w') w' from fun w' h => h)
        refine rg_begin (S := (fun w' => Below w1.heap.size w1 w')) 13 (by kernel_rfl) (by intro d; cases d <;> intro _ _ _ _ h <;> exact h) ?_ (fun Q7 hQ7 hN7 hHeld => ?_)
        · exact SS.out _ (ext_drew (ext_refl _))
        refine rg_take (i := 0) (some 34) (v := ?_) rfl rfl (by kernel_rfl) (by rfl) hQ7 hHeld ?_ ?_
        rotate_left
        · intro w7 hSw; (try dsimp only at hSw); go_simp; all_goals with_reducible rfl
        try simp only [Act.put, List.setIfInBounds_toArray, List.set_cons_zero, List.set_cons_succ]
        refine rg_take (i := 1) (some 35) (v := ?_) rfl rfl (by kernel_rfl) (by rfl) hQ7 hHeld ?_ ?_
        rotate_left
        · intro w7 hSw; (try dsimp only at hSw); go_simp; all_goals with_reducible rfl
        try simp only [Act.put, List.setIfInBounds_toArray, List.set_cons_zero, List.set_cons_succ]
        refine rg_take (i := 2) (some 36) (v := ?_) rfl rfl (by kernel_rfl) (by rfl) hQ7 hHeld ?_ ?_
        rotate_left
        · intro w7 hSw; (try dsimp only at hSw); go_simp; all_goals with_reducible rfl
        try simp only [Act.put, List.setIfInBounds_toArray, List.set_cons_zero, List.set_cons_succ]
        refine rg_take (i := 3) (some 37) (v := ?_) rfl rfl (by kernel_rfl) (by rfl) hQ7 hHeld ?_ ?_
        rotate_left
        · intro w7 hSw; (try dsimp only at hSw); go_simp; all_goals with_reducible rfl
        try simp only [Act.put, List.setIfInBounds_toArray, List.set_cons_zero, List.set_cons_succ]
        refine rg_take (i := 4) (some 38) (v := ?_) rfl rfl (by kernel_rfl) (by rfl) hQ7 hHeld ?_ ?_
        rotate_left
        · intro w7 hSw; (try dsimp only at hSw); go_simp; all_goals with_reducible rfl
        try simp only [Act.put, List.setIfInBounds_toArray, List.set_cons_zero, List.set_cons_succ]
        refine rg_skip (i := 5) (some 39) rfl rfl (by kernel_rfl) (by rfl) hQ7 hHeld ?_
        try simp only [Act.put, List.setIfInBounds_toArray, List.set_cons_zero, List.set_cons_succ]
        refine rg_skip (i := 6) (some 40) rfl rfl (by kernel_rfl) (by rfl) hQ7 hHeld ?_
        try simp only [Act.put, List.setIfInBounds_toArray, List.set_cons_zero, List.set_cons_succ]
        refine rg_skip (i := 7) (some 41) rfl rfl (by kernel_rfl) (by rfl) hQ7 hHeld ?_
        try simp only [Act.put, List.setIfInBounds_toArray, List.set_cons_zero, List.set_cons_succ]
        refine rg_skip (i := 8) (some 42) rfl rfl (by kernel_rfl) (by rfl) hQ7 hHeld ?_
        try simp only [Act.put, List.setIfInBounds_toArray, List.set_cons_zero, List.set_cons_succ]
        refine rg_skip (i := 9) (some 43) rfl rfl (by kernel_rfl) (by rfl) hQ7 hHeld ?_
        try simp only [Act.put, List.setIfInBounds_toArray, List.set_cons_zero, List.set_cons_succ]
        refine rg_skip (i := 10) (some 44) rfl rfl (by kernel_rfl) (by rfl) hQ7 hHeld ?_
        try simp only [Act.put, List.setIfInBounds_toArray, List.set_cons_zero, List.set_cons_succ]
        refine rg_skip (i := 11) (some 45) rfl rfl (by kernel_rfl) (by rfl) hQ7 hHeld ?_
        try simp only [Act.put, List.setIfInBounds_toArray, List.set_cons_zero, List.set_cons_succ]
        refine rg_take (i := 12) (some 46) (v := ?_) rfl rfl (by kernel_rfl) (by rfl) hQ7 hHeld ?_ ?_
        rotate_left
        · intro w7 hSw; (try dsimp only at hSw); go_simp; all_goals with_reducible rfl
        try simp only [Act.put, List.setIfInBounds_toArray, List.set_cons_zero, List.set_cons_succ]
        refine rg_end (by kernel_rfl) (hN7 _ _ ?_) _
        clear hQ7 hN7 Q7
        have BX := hHeld
        clear SS
        replace SL := Lib.hid (SL.out.ext BX)
        replace X := Lib.hid (X.out.ext BX)
        replace E := Lib.hid (ext_trans E.out BX)
        clear BX
        obtain ⟨w4, hNw4⟩ : ∃ W0, W0 = w1.drew := ⟨_, rfl⟩
        rw [← hNw4] at SL X E ⊢
        clear hNw4
        go_wp2_with fail
        have hs1 := fun w : World => slice_headCr A l.length c k _ rfl (by omega) w
        have HKT := Lib.hid (show (l.take k).length = k by simp; omega)
        have HKD := Lib.hid (show (l.drop (k)).length = l.length - (k) by simp)
        obtain ⟨wq, hNwq⟩ : ∃ W0, W0 = w4 := ⟨_, rfl⟩
        rw [← hNwq] at SL X E ⊢
        clear hNwq
        have E0 := E
        have HEQ := Lib.hid E.out.size
        have SS := Lib.hid (show ∀ w', Below wq.heap.size wq w' → (fun w' => Below wq.heap.size wq w' ∧ w'.cell? ⟨sX, 0, none⟩ = some (.int .i64 a.a) ∧ w'.cell? ⟨sX, 1, none⟩ = some (.int .i64 a.m) ∧ w'.cell? ⟨sX, 2, none⟩ = some (.int .i64 a.u)) w' from fun w' h => ⟨h, (X.out.ext h).c 0 _ rfl, (X.out.ext h).c 1 _ rfl, (X.out.ext h).c 2 _ rfl⟩)
        refine rg_begin (S := (fun w' => Below wq.heap.size wq w' ∧ w'.cell? ⟨sX, 0, none⟩ = some (.int .i64 a.a) ∧ w'.cell? ⟨sX, 1, none⟩ = some (.int .i64 a.m) ∧ w'.cell? ⟨sX, 2, none⟩ = some (.int .i64 a.u))) 9 (by kernel_rfl) (by intro d; cases d <;> intro _ _ _ _ h <;> exact h) ?_ (fun Q7 hQ7 hN7 hHeld => ?_)
        · exact SS.out _ (ext_drew (ext_refl _))
        refine rg_take (i := 1) (some 64) (v := ?_) rfl rfl (by kernel_rfl) (by rfl) hQ7 hHeld ?_ ?_
        rotate_left
        · intro w7 hSw; (try dsimp only at hSw); go_simp; all_goals with_reducible rfl
        try simp only [Act.put, List.setIfInBounds_toArray, List.set_cons_zero, List.set_cons_succ]
        refine rg_take (i := 2) (some 65) (v := ?_) rfl rfl (by kernel_rfl) (by rfl) hQ7 hHeld ?_ ?_
        rotate_left
        · intro w7 hSw; (try dsimp only at hSw); go_simp; all_goals with_reducible rfl
        try simp only [Act.put, List.setIfInBounds_toArray, List.set_cons_zero, List.set_cons_succ]
        refine rg_take (i := 3) (some 66) (v := .slice A k c) rfl rfl (by kernel_rfl) (by rfl) hQ7 hHeld (fun w7 hSw => run_v (hs1 w7)) ?_
        try simp only [Act.put, List.setIfInBounds_toArray, List.set_cons_zero, List.set_cons_succ]
        refine rg_take (i := 5) (some 68) (v := ?_) rfl rfl (by kernel_rfl) (by rfl) hQ7 hHeld ?_ ?_
        rotate_left
        · intro w7 hSw; (try dsimp only at hSw); go_simp; all_goals with_reducible rfl
        try simp only [Act.put, List.setIfInBounds_toArray, List.set_cons_zero, List.set_cons_succ]
        refine rg_two (i := 0) (j := 6) (by kernel_rfl) (rg_step rfl (by rfl) (fun K hK => ?_)) (rg_step rfl (by rfl) (fun K hK => ?_))
        · go_simp
          refine hK.out _ _ ?_ (fun hHeld2 => ?_)
          · exact SS.out _ (ext_alloc hHeld.1 _)
          clear hHeld
          have hHeld := hHeld2
          clear hHeld2
          clear hK K
          try simp only [Act.put, List.setIfInBounds_toArray, List.set_cons_zero, List.set_cons_succ]
          refine rg_two (i := 4) (j := 6) (by kernel_rfl) (rg_step rfl (by rfl) (fun K hK => ?_)) (rg_step rfl (by rfl) (fun K hK => ?_))
          · refine rg_append (some 67) _ _ 22 22 rfl rfl rfl _ _ rfl rfl (Own.append_k (w0 := wq) crI 22 (Own.madeH wq wq.heap.size 24 Cr.cells 3 (by simp) wq.heap.size (by simp)).drew_ hHeld.1 (ys := l.take k) (m := k) HKT.out.symm c ((SL.out.ext hHeld.1).take k) (l.take k) rfl k HKT.out (by omega) (by unfold maxLen; omega)) ?_
            rintro _ w1 ⟨A1, c1, rfl, hO1, B1, hg1, hc1, hm1⟩
            refine hK.out _ _ ?_ (fun hHeld2 => ?_)
            · exact SS.out _ B1
            clear hHeld
            have hHeld := hHeld2
            clear hHeld2
            clear hK K
            try simp only [Act.put, List.setIfInBounds_toArray, List.set_cons_zero, List.set_cons_succ]
            refine rg_one (i := 6) (by kernel_rfl) (rg_step rfl (by rfl) (fun K hK => ?_))
            go_simp
            refine hK.out _ _ ?_ (fun hHeld2 => ?_)
            · exact SS.out _ (ext_alloc hHeld.1 _)
            clear hHeld
            have hHeld := hHeld2
            clear hHeld2
            clear hK K
            try simp only [Act.put, List.setIfInBounds_toArray, List.set_cons_zero, List.set_cons_succ]
            refine rg_one (i := 7) (by kernel_rfl) (rg_step rfl (by rfl) (fun K hK => ?_))
            refine rg_append (some 70) _ _ 22 22 rfl rfl rfl _ _ rfl rfl (Own.append_k (w0 := wq) crI 22 (hO1.alloc _) hHeld.1 (ys := [a]) (m := 1) rfl 1 (slc_litH w1 [a] _ 24 (enc := Cr.cells) (sz := 3) (fun _ => rfl) rfl w1.heap.size (by first | rfl | simp)) (l.take k ++ [a]) rfl (k + 1) (by simp [HKT.out]) (by omega) (by unfold maxLen; omega)) ?_
            rintro _ w2 ⟨A2, c2, rfl, hO2, B2, hg2, hc2, hm2⟩
            refine hK.out _ _ ?_ (fun hHeld2 => ?_)
            · exact SS.out _ B2
            clear hHeld
            have hHeld := hHeld2
            clear hHeld2
            clear hK K
            try simp only [Act.put, List.setIfInBounds_toArray, List.set_cons_zero, List.set_cons_succ]
            refine rg_take (i := 8) (some 8) (v := ?_) rfl rfl (by kernel_rfl) (by rfl) hQ7 hHeld ?_ ?_
            rotate_left
            · intro w7 hSw; (try dsimp only at hSw); go_simp; all_goals with_reducible rfl
            try simp only [Act.put, List.setIfInBounds_toArray, List.set_cons_zero, List.set_cons_succ]
            refine rg_end (by kernel_rfl) (hN7 _ _ ?_) _
            clear hQ7 hN7 Q7
            have BX := hHeld.1
            clear SS
            replace SL := Lib.hid (SL.out.ext B2)
            replace E := Lib.hid (ext_trans E.out B2)
            obtain ⟨_, w3, hrun, A3, c3, rfl, hO3, B3, hg3, hc3, hm3⟩ := Own.append_k (w0 := wq) crI 22 hO2 B2 (ys := l.drop (k)) (m := l.length - (k)) HKD.out.symm (c - (k)) (show Slc _ Cr.cells 3 AF (l.drop (k)) by rw [← HAF.out]; exact SL.out.from_ (k) c hc) (l.take k ++ a :: l.drop (k)) (by simp) (k + 1 + (l.length - (k))) (by simp; omega) (by omega) (by unfold maxLen; omega)
            have HRUN := Lib.hid hrun
            have HO3 := Lib.hid hO3
            clear hrun hO3 hO2 BX
            go_wp2_with (first | (at_builtin; refine wpList_append_run rfl (.tmp 71) (.tmp 72) 22 rfl (.slice A2 (k + 1) c2) (.slice AF (l.length - (k)) (c - (k))) rfl rfl HRUN.out ?_) | fail)
            refine bodyPost_ret (v := .tuple #[.slice A3 (k + 1 + (l.length - (k))) c3, .int .i64 0]) (by simp [results, Try.results9, go_sem, *]) rfl ?_
            exact LeR.good (earn_new HV.out HF.out HC.out (fun ⟨y, hy, hb⟩ => absurd (List.getElem?_eq_some_iff.1 hy).1 hlt)) rfl (HO3.out.low HEQ.out) (by simp; omega) (ext_trans E0.out B3)
          · go_simp
            refine hK.out _ _ ?_ (fun hHeld2 => ?_)
            · exact SS.out _ (ext_alloc hHeld.1 _)
            clear hHeld
            have hHeld := hHeld2
            clear hHeld2
            clear hK K
            try simp only [Act.put, List.setIfInBounds_toArray, List.set_cons_zero, List.set_cons_succ]
            refine rg_one (i := 4) (by kernel_rfl) (rg_step rfl (by rfl) (fun K hK => ?_))
            refine rg_append (some 67) _ _ 22 22 rfl rfl rfl _ _ rfl rfl (Own.append_k (w0 := wq) crI 22 ((Own.madeH wq wq.heap.size 24 Cr.cells 3 (by simp) wq.heap.size (by simp)).alloc _).drew_ hHeld.1 (ys := l.take k) (m := k) HKT.out.symm c ((SL.out.ext hHeld.1).take k) (l.take k) rfl k HKT.out (by omega) (by unfold maxLen; omega)) ?_
            rintro _ w1 ⟨A1, c1, rfl, hO1, B1, hg1, hc1, hm1⟩
            refine hK.out _ _ ?_ (fun hHeld2 => ?_)
            · exact SS.out _ B1
            clear hHeld
            have hHeld := hHeld2
            clear hHeld2
            clear hK K
            try simp only [Act.put, List.setIfInBounds_toArray, List.set_cons_zero, List.set_cons_succ]
            refine rg_one (i := 7) (by kernel_rfl) (rg_step rfl (by rfl) (fun K hK => ?_))
            refine rg_append (some 70) _ _ 22 22 rfl rfl rfl _ _ rfl rfl (Own.append_k (w0 := wq) crI 22 hO1 hHeld.1 (ys := [a]) (m := 1) rfl 1 ((slc_litH _ [a] _ 24 (enc := Cr.cells) (sz := 3) (fun _ => rfl) rfl (wq.heap.size + 1) (by first | rfl | simp)).drew_.grown hg1 (fun b o s e => by cases e; simp [Value.ownBlock])) (l.take k ++ [a]) rfl (k + 1) (by simp [HKT.out]) (by omega) (by unfold maxLen; omega)) ?_
            rintro _ w2 ⟨A2, c2, rfl, hO2, B2, hg2, hc2, hm2⟩
            refine hK.out _ _ ?_ (fun hHeld2 => ?_)
            · exact SS.out _ B2
            clear hHeld
            have hHeld := hHeld2
            clear hHeld2
            clear hK K
            try simp only [Act.put, List.setIfInBounds_toArray, List.set_cons_zero, List.set_cons_succ]
            refine rg_take (i := 8) (some 8) (v := ?_) rfl rfl (by kernel_rfl) (by rfl) hQ7 hHeld ?_ ?_
            rotate_left
            · intro w7 hSw; (try dsimp only at hSw); go_simp; all_goals with_reducible rfl
            try simp only [Act.put, List.setIfInBounds_toArray, List.set_cons_zero, List.set_cons_succ]
            refine rg_end (by kernel_rfl) (hN7 _ _ ?_) _
            clear hQ7 hN7 Q7
            have BX := hHeld.1
            clear SS
            replace SL := Lib.hid (SL.out.ext B2)
            replace E := Lib.hid (ext_trans E.out B2)
            obtain ⟨_, w3, hrun, A3, c3, rfl, hO3, B3, hg3, hc3, hm3⟩ := Own.append_k (w0 := wq) crI 22 hO2 B2 (ys := l.drop (k)) (m := l.length - (k)) HKD.out.symm (c - (k)) (show Slc _ Cr.cells 3 AF (l.drop (k)) by rw [← HAF.out]; exact SL.out.from_ (k) c hc) (l.take k ++ a :: l.drop (k)) (by simp) (k + 1 + (l.length - (k))) (by simp; omega) (by omega) (by unfold maxLen; omega)
            have HRUN := Lib.hid hrun
            have HO3 := Lib.hid hO3
            clear hrun hO3 hO2 BX
            go_wp2_with (first | (at_builtin; refine wpList_append_run rfl (.tmp 71) (.tmp 72) 22 rfl (.slice A2 (k + 1) c2) (.slice AF (l.length - (k)) (c - (k))) rfl rfl HRUN.out ?_) | fail)
            refine bodyPost_ret (v := .tuple #[.slice A3 (k + 1 + (l.length - (k))) c3, .int .i64 0]) (by simp [results, Try.results9, go_sem, *]) rfl ?_
            exact LeR.good (earn_new HV.out HF.out HC.out (fun ⟨y, hy, hb⟩ => absurd (List.getElem?_eq_some_iff.1 hy).1 hlt)) rfl (HO3.out.low HEQ.out) (by simp; omega) (ext_trans E0.out B3)
        · go_simp
          refine hK.out _ _ ?_ (fun hHeld2 => ?_)
          · exact SS.out _ (ext_alloc hHeld.1 _)
          clear hHeld
          have hHeld := hHeld2
          clear hHeld2
          clear hK K
          try simp only [Act.put, List.setIfInBounds_toArray, List.set_cons_zero, List.set_cons_succ]
          refine rg_one (i := 0) (by kernel_rfl) (rg_step rfl (by rfl) (fun K hK => ?_))
          go_simp
          refine hK.out _ _ ?_ (fun hHeld2 => ?_)
          · exact SS.out _ (ext_alloc hHeld.1 _)
          clear hHeld
          have hHeld := hHeld2
          clear hHeld2
          clear hK K
          try simp only [Act.put, List.setIfInBounds_toArray, List.set_cons_zero, List.set_cons_succ]
          refine rg_one (i := 4) (by kernel_rfl) (rg_step rfl (by rfl) (fun K hK => ?_))
          refine rg_append (some 67) _ _ 22 22 rfl rfl rfl _ _ rfl rfl (Own.append_k (w0 := wq) crI 22 (Own.madeH _ wq.heap.size 24 Cr.cells 3 (by simp) (wq.heap.size + 1) (by simp)).drew_ hHeld.1 (ys := l.take k) (m := k) HKT.out.symm c ((SL.out.ext hHeld.1).take k) (l.take k) rfl k HKT.out (by omega) (by unfold maxLen; omega)) ?_
          rintro _ w1 ⟨A1, c1, rfl, hO1, B1, hg1, hc1, hm1⟩
          refine hK.out _ _ ?_ (fun hHeld2 => ?_)
          · exact SS.out _ B1
          clear hHeld
          have hHeld := hHeld2
          clear hHeld2
          clear hK K
          try simp only [Act.put, List.setIfInBounds_toArray, List.set_cons_zero, List.set_cons_succ]
          refine rg_one (i := 7) (by kernel_rfl) (rg_step rfl (by rfl) (fun K hK => ?_))
          refine rg_append (some 70) _ _ 22 22 rfl rfl rfl _ _ rfl rfl (Own.append_k (w0 := wq) crI 22 hO1 hHeld.1 (ys := [a]) (m := 1) rfl 1 (((slc_litH _ [a] _ 24 (enc := Cr.cells) (sz := 3) (fun _ => rfl) rfl wq.heap.size (by first | rfl | simp)).alloc _).drew_.grown hg1 (fun b o s e => by cases e; simp [Value.ownBlock])) (l.take k ++ [a]) rfl (k + 1) (by simp [HKT.out]) (by omega) (by unfold maxLen; omega)) ?_
          rintro _ w2 ⟨A2, c2, rfl, hO2, B2, hg2, hc2, hm2⟩
          refine hK.out _ _ ?_ (fun hHeld2 => ?_)
          · exact SS.out _ B2
          clear hHeld
          have hHeld := hHeld2
          clear hHeld2
          clear hK K
          try simp only [Act.put, List.setIfInBounds_toArray, List.set_cons_zero, List.set_cons_succ]
          refine rg_take (i := 8) (some 8) (v := ?_) rfl rfl (by kernel_rfl) (by rfl) hQ7 hHeld ?_ ?_
          rotate_left
          · intro w7 hSw; (try dsimp only at hSw); go_simp; all_goals with_reducible rfl
          try simp only [Act.put, List.setIfInBounds_toArray, List.set_cons_zero, List.set_cons_succ]
          refine rg_end (by kernel_rfl) (hN7 _ _ ?_) _
          clear hQ7 hN7 Q7
          have BX := hHeld.1
          clear SS
          replace SL := Lib.hid (SL.out.ext B2)
          replace E := Lib.hid (ext_trans E.out B2)
          obtain ⟨_, w3, hrun, A3, c3, rfl, hO3, B3, hg3, hc3, hm3⟩ := Own.append_k (w0 := wq) crI 22 hO2 B2 (ys := l.drop (k)) (m := l.length - (k)) HKD.out.symm (c - (k)) (show Slc _ Cr.cells 3 AF (l.drop (k)) by rw [← HAF.out]; exact SL.out.from_ (k) c hc) (l.take k ++ a :: l.drop (k)) (by simp) (k + 1 + (l.length - (k))) (by simp; omega) (by omega) (by unfold maxLen; omega)
          have HRUN := Lib.hid hrun
          have HO3 := Lib.hid hO3
          clear hrun hO3 hO2 BX
          go_wp2_with (first | (at_builtin; refine wpList_append_run rfl (.tmp 71) (.tmp 72) 22 rfl (.slice A2 (k + 1) c2) (.slice AF (l.length - (k)) (c - (k))) rfl rfl HRUN.out ?_) | fail)
          refine bodyPost_ret (v := .tuple #[.slice A3 (k + 1 + (l.length - (k))) c3, .int .i64 0]) (by simp [results, Try.results9, go_sem, *]) rfl ?_
          exact LeR.good (earn_new HV.out HF.out HC.out (fun ⟨y, hy, hb⟩ => absurd (List.getElem?_eq_some_iff.1 hy).1 hlt)) rfl (HO3.out.low HEQ.out) (by simp; omega) (ext_trans E0.out B3)
theorem rearn_at {a : Cr} {A : Option Addr} {c n : Nat} {l : List Cr} {w : World} (L : List Cr) (err : Int) (hL : earnL l a = L) (hE : earnE l a = err) (hl : n = l.length) (ha : Slc w Cr.cells 3 A l) (hn : l.length ≤ 1000) (hc : l.length ≤ c) : Calls Try.prog 9 #[.slice A n c, .agg #[.int .i64 a.a, .int .i64 a.m, .int .i64 a.u]] w (LeR w L err) := by
  subst hL hE hl; exact rearn_any a A c l w ha hn hc
end Go.Proofs.Ytafglcalimcdcaa
