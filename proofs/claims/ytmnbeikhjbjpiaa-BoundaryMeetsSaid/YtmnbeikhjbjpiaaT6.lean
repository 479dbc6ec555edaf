/- Contracts: two neighbours are as they should be. -/
import Derived.Test.YtmnbeikhjbjpiaaT3
set_option linter.unusedSimpArgs false
set_option linter.unusedVariables false
namespace Go.Proofs.Ytmnbeikhjbjpiaa
open Go.RowKit
theorem has_mem6 {l : List Ag} {x : Ag} (h : x ∈ l) : l.any (fun y => decide (y = x)) = true := by
  rw [List.any_eq_true]; exact ⟨x, h, by simp⟩
set_option maxHeartbeats 6400000 in
set_option maxRecDepth 100000 in
theorem agree_two (x y : Bd) (A : Option Addr) (n c P : Nat) (l : List Lt) (w : World) (hP : Blk w P (Pc x y A n c)) (hp : PR w P x y A n c l) (h2 : Two ⟨x.bl, y.bl, l⟩) :
    Calls Try.prog 28 #[.pointer (some ⟨P, 0, none⟩)] w (fun e w' => e = .returned (.bool true) ∧ Below w.heap.size w w') := by
  have H2 := Lib.hid h2
  clear h2
  have hl1 := maxLen_of hp.hx.agl hp.hx.agc
  have hl2 := maxLen_of hp.hx.opl hp.hx.opc
  have hl3 := maxLen_of hp.hy.agl hp.hy.agc
  have hl4 := maxLen_of hp.hy.opl hp.hy.opc
  unfold maxLen at hl1 hl2 hl3 hl4
  have E := Lib.hid (ext_refl w)
  have PB := Lib.hid (hP)
  have PP := Lib.hid (hp)
  have HPL := Lib.hid hp.lt
  have HLN := Lib.hid hp.hn
  clear hP hp
  go_enter Try.func28, Try.ntmps28
  go_wp2_with fail
  go_loopw [12] (fun i wr => ∃ ki : Int, (ki = 0 ∨ ki = 1 ∨ ki = 2) ∧ i = .int .i64 ki ∧ Hid (Below w.heap.size w wr) ∧ Hid (Blk wr P (Pc x y A n c)) ∧ Hid (PR wr P x y A n c l)) (fun i _ => 2 - (intOf i).toNat)
  case atStart => exact ⟨0, .inl rfl, rfl, E.out, PB.out, PP.out⟩
  clear E PB PP
  case round =>
    obtain ⟨ki, hki, rfl, E, PB, PP⟩ := hrel
    rcases hki with rfl | rfl | rfl
    · have kw1 : IntKind.i64.wrap 1 = 1 := by decide
      have kw0 : IntKind.i64.wrap 0 = 0 := by decide
      go_wp2_with fail
      have SS := Lib.hid (show ∀ w', Below wr.heap.size wr w' → (fun w' => Below wr.heap.size wr w' ∧ w'.cell? ⟨P, 0, none⟩ = some (.int .i64 x.own) ∧ w'.cell? ⟨P, 1, none⟩ = some (.int .i64 x.ot) ∧ w'.cell? ⟨P, 2, none⟩ = some (.slice x.ag.A x.ag.l.length x.ag.c) ∧ w'.cell? ⟨P, 3, none⟩ = some (.slice x.op.A x.op.l.length x.op.c) ∧ w'.cell? ⟨P, 4, none⟩ = some (.int .i64 y.own) ∧ w'.cell? ⟨P, 5, none⟩ = some (.int .i64 y.ot) ∧ w'.cell? ⟨P, 6, none⟩ = some (.slice y.ag.A y.ag.l.length y.ag.c) ∧ w'.cell? ⟨P, 7, none⟩ = some (.slice y.op.A y.op.l.length y.op.c)) w' from fun w' h => ⟨h, (PB.out.ext h).c 0 _ rfl, (PB.out.ext h).c 1 _ rfl, (PB.out.ext h).c 2 _ rfl, (PB.out.ext h).c 3 _ rfl, (PB.out.ext h).c 4 _ rfl, (PB.out.ext h).c 5 _ rfl, (PB.out.ext h).c 6 _ rfl, (PB.out.ext h).c 7 _ rfl⟩)
      refine rg_begin (S := (fun w' => Below wr.heap.size wr w' ∧ w'.cell? ⟨P, 0, none⟩ = some (.int .i64 x.own) ∧ w'.cell? ⟨P, 1, none⟩ = some (.int .i64 x.ot) ∧ w'.cell? ⟨P, 2, none⟩ = some (.slice x.ag.A x.ag.l.length x.ag.c) ∧ w'.cell? ⟨P, 3, none⟩ = some (.slice x.op.A x.op.l.length x.op.c) ∧ w'.cell? ⟨P, 4, none⟩ = some (.int .i64 y.own) ∧ w'.cell? ⟨P, 5, none⟩ = some (.int .i64 y.ot) ∧ w'.cell? ⟨P, 6, none⟩ = some (.slice y.ag.A y.ag.l.length y.ag.c) ∧ w'.cell? ⟨P, 7, none⟩ = some (.slice y.op.A y.op.l.length y.op.c))) 16 (by kernel_rfl) (by intro d; cases d <;> intro _ _ _ _ h <;> exact h) ?_ (fun Q7 hQ7 hN7 hHeld => ?_)
      · exact SS.out _ (ext_drew (ext_refl _))
      refine rg_take (i := 0) (some 15) (v := ?_) rfl rfl (by kernel_rfl) (by rfl) hQ7 hHeld ?_ ?_
      rotate_left
      · intro w7 hSw; (try dsimp only at hSw); go_simp; all_goals with_reducible rfl
      try simp only [Act.put, List.setIfInBounds_toArray, List.set_cons_zero, List.set_cons_succ]
      refine rg_take (i := 1) (some 16) (v := ?_) rfl rfl (by kernel_rfl) (by rfl) hQ7 hHeld ?_ ?_
      rotate_left
      · intro w7 hSw; (try dsimp only at hSw); go_simp; all_goals with_reducible rfl
      try simp only [Act.put, List.setIfInBounds_toArray, List.set_cons_zero, List.set_cons_succ]
      refine rg_take (i := 2) (some 17) (v := ?_) rfl rfl (by kernel_rfl) (by rfl) hQ7 hHeld ?_ ?_
      rotate_left
      · intro w7 hSw; (try dsimp only at hSw); go_simp; all_goals with_reducible rfl
      try simp only [Act.put, List.setIfInBounds_toArray, List.set_cons_zero, List.set_cons_succ]
      refine rg_take (i := 3) (some 18) (v := ?_) rfl rfl (by kernel_rfl) (by rfl) hQ7 hHeld ?_ ?_
      rotate_left
      · intro w7 hSw; (try dsimp only at hSw); go_simp; all_goals with_reducible rfl
      try simp only [Act.put, List.setIfInBounds_toArray, List.set_cons_zero, List.set_cons_succ]
      refine rg_take (i := 4) (some 19) (v := ?_) rfl rfl (by kernel_rfl) (by rfl) hQ7 hHeld ?_ ?_
      rotate_left
      · intro w7 hSw; (try dsimp only at hSw); go_simp; all_goals with_reducible rfl
      try simp only [Act.put, List.setIfInBounds_toArray, List.set_cons_zero, List.set_cons_succ]
      refine rg_take (i := 5) (some 20) (v := ?_) rfl rfl (by kernel_rfl) (by rfl) hQ7 hHeld ?_ ?_
      rotate_left
      · intro w7 hSw; (try dsimp only at hSw); go_simp; all_goals with_reducible rfl
      try simp only [Act.put, List.setIfInBounds_toArray, List.set_cons_zero, List.set_cons_succ]
      refine rg_take (i := 6) (some 21) (v := ?_) rfl rfl (by kernel_rfl) (by rfl) hQ7 hHeld ?_ ?_
      rotate_left
      · intro w7 hSw; (try dsimp only at hSw); go_simp; all_goals with_reducible rfl
      try simp only [Act.put, List.setIfInBounds_toArray, List.set_cons_zero, List.set_cons_succ]
      refine rg_take (i := 7) (some 22) (v := ?_) rfl rfl (by kernel_rfl) (by rfl) hQ7 hHeld ?_ ?_
      rotate_left
      · intro w7 hSw; (try dsimp only at hSw); go_simp; all_goals with_reducible rfl
      try simp only [Act.put, List.setIfInBounds_toArray, List.set_cons_zero, List.set_cons_succ]
      refine rg_take (i := 8) (some 23) (v := ?_) rfl rfl (by kernel_rfl) (by rfl) hQ7 hHeld ?_ ?_
      rotate_left
      · intro w7 hSw; (try dsimp only at hSw); go_simp; all_goals with_reducible rfl
      try simp only [Act.put, List.setIfInBounds_toArray, List.set_cons_zero, List.set_cons_succ]
      refine rg_take (i := 9) (some 24) (v := ?_) rfl rfl (by kernel_rfl) (by rfl) hQ7 hHeld ?_ ?_
      rotate_left
      · intro w7 hSw; (try dsimp only at hSw); go_simp; all_goals with_reducible rfl
      try simp only [Act.put, List.setIfInBounds_toArray, List.set_cons_zero, List.set_cons_succ]
      refine rg_take (i := 10) (some 25) (v := ?_) rfl rfl (by kernel_rfl) (by rfl) hQ7 hHeld ?_ ?_
      rotate_left
      · intro w7 hSw; (try dsimp only at hSw); go_simp; all_goals with_reducible rfl
      try simp only [Act.put, List.setIfInBounds_toArray, List.set_cons_zero, List.set_cons_succ]
      refine rg_take (i := 11) (some 26) (v := ?_) rfl rfl (by kernel_rfl) (by rfl) hQ7 hHeld ?_ ?_
      rotate_left
      · intro w7 hSw; (try dsimp only at hSw); go_simp; all_goals with_reducible rfl
      try simp only [Act.put, List.setIfInBounds_toArray, List.set_cons_zero, List.set_cons_succ]
      refine rg_take (i := 12) (some 27) (v := ?_) rfl rfl (by kernel_rfl) (by rfl) hQ7 hHeld ?_ ?_
      rotate_left
      · intro w7 hSw; (try dsimp only at hSw); go_simp; all_goals with_reducible rfl
      try simp only [Act.put, List.setIfInBounds_toArray, List.set_cons_zero, List.set_cons_succ]
      refine rg_two (i := 13) (j := 14) (by kernel_rfl) (rg_step rfl (by rfl) (fun K hK => ?_)) (rg_step rfl (by rfl) (fun K hK => ?_))
      · go_simp
        refine hK.out _ _ ?_ (fun hHeld2 => ?_)
        · exact SS.out _ (ext_alloc hHeld.1 _)
        clear hHeld
        have hHeld := hHeld2
        clear hHeld2
        clear hK K
        try simp only [Act.put, List.setIfInBounds_toArray, List.set_cons_zero, List.set_cons_succ]
        refine rg_one (i := 14) (by kernel_rfl) (rg_step rfl (by rfl) (fun K hK => ?_))
        go_simp
        refine hK.out _ _ ?_ (fun hHeld2 => ?_)
        · exact SS.out _ (ext_alloc hHeld.1 _)
        clear hHeld
        have hHeld := hHeld2
        clear hHeld2
        clear hK K
        try simp only [Act.put, List.setIfInBounds_toArray, List.set_cons_zero, List.set_cons_succ]
        refine rg_one (i := 15) (by kernel_rfl) (rg_step rfl (by rfl) (fun K hK => ?_))
        go_simp
        refine hK.out _ _ ?_ (fun hHeld2 => ?_)
        · exact SS.out _ (ext_drew (ext_alloc (ext_alloc (ext_refl _) _) _))
        clear hHeld
        have hHeld := hHeld2
        clear hHeld2
        clear hK K
        try simp only [Act.put, List.setIfInBounds_toArray, List.set_cons_zero, List.set_cons_succ]
        refine rg_one (i := 16) (by kernel_rfl) (rg_late rfl (by rfl) (by kernel_rfl) (fun K hK => ?_))
        go_simp
        refine hK.out _ _ ?_
        clear hK K
        try simp only [Act.put, List.setIfInBounds_toArray, List.set_cons_zero, List.set_cons_succ]
        refine rg_end (by kernel_rfl) (hN7 _ _ ?_) _
        clear hQ7 hN7 Q7
        have BX := hHeld.1
        clear SS
        clear BX kw0 kw1
        replace E := Lib.hid (ext_alloc E.out (.cells #[.int .i64 x.own, .int .i64 x.ot, .slice x.ag.A x.ag.l.length x.ag.c, .slice x.op.A x.op.l.length x.op.c] 24))
        replace PB := Lib.hid (PB.out.alloc (.cells #[.int .i64 x.own, .int .i64 x.ot, .slice x.ag.A x.ag.l.length x.ag.c, .slice x.op.A x.op.l.length x.op.c] 24))
        replace PP := Lib.hid (PP.out.alloc (.cells #[.int .i64 x.own, .int .i64 x.ot, .slice x.ag.A x.ag.l.length x.ag.c, .slice x.op.A x.op.l.length x.op.c] 24))
        have BB := Lib.hid (Blk.newH wr [.int .i64 x.own, .int .i64 x.ot, .slice x.ag.A x.ag.l.length x.ag.c, .slice x.op.A x.op.l.length x.op.c] 24 (wr.heap.size) (by first | rfl | simp))
        replace E := Lib.hid (ext_alloc E.out (.cells #[.int .i64 y.own, .int .i64 y.ot, .slice y.ag.A y.ag.l.length y.ag.c, .slice y.op.A y.op.l.length y.op.c] 24))
        replace PB := Lib.hid (PB.out.alloc (.cells #[.int .i64 y.own, .int .i64 y.ot, .slice y.ag.A y.ag.l.length y.ag.c, .slice y.op.A y.op.l.length y.op.c] 24))
        replace PP := Lib.hid (PP.out.alloc (.cells #[.int .i64 y.own, .int .i64 y.ot, .slice y.ag.A y.ag.l.length y.ag.c, .slice y.op.A y.op.l.length y.op.c] 24))
        replace BB := Lib.hid (BB.out.alloc (.cells #[.int .i64 y.own, .int .i64 y.ot, .slice y.ag.A y.ag.l.length y.ag.c, .slice y.op.A y.op.l.length y.op.c] 24))
        have CB := Lib.hid (Blk.newH (wr.alloc (.cells #[.int .i64 x.own, .int .i64 x.ot, .slice x.ag.A x.ag.l.length x.ag.c, .slice x.op.A x.op.l.length x.op.c] 24)) [.int .i64 y.own, .int .i64 y.ot, .slice y.ag.A y.ag.l.length y.ag.c, .slice y.op.A y.op.l.length y.op.c] 24 (wr.heap.size + 1) (by first | rfl | simp))
        have DD := ext_drew (ext_refl ((wr.alloc (.cells #[.int .i64 x.own, .int .i64 x.ot, .slice x.ag.A x.ag.l.length x.ag.c, .slice x.op.A x.op.l.length x.op.c] 24)).alloc (.cells #[.int .i64 y.own, .int .i64 y.ot, .slice y.ag.A y.ag.l.length y.ag.c, .slice y.op.A y.op.l.length y.op.c] 24)))
        replace E := Lib.hid (ext_trans E.out DD)
        replace PB := Lib.hid (PB.out.ext DD)
        replace PP := Lib.hid (PP.out.ext DD)
        replace BB := Lib.hid (BB.out.ext DD)
        replace CB := Lib.hid (CB.out.ext DD)
        clear DD
        obtain ⟨sCB, hsCB⟩ : ∃ s, s = wr.heap.size + 1 := ⟨_, rfl⟩
        rw [← hsCB] at CB ⊢
        clear hsCB
        obtain ⟨sBB, hsBB⟩ : ∃ s, s = wr.heap.size := ⟨_, rfl⟩
        rw [← hsBB] at BB ⊢
        clear hsBB
        obtain ⟨z0, hNz0⟩ : ∃ W0, W0 = ((wr.alloc (.cells #[.int .i64 x.own, .int .i64 x.ot, .slice x.ag.A x.ag.l.length x.ag.c, .slice x.op.A x.op.l.length x.op.c] 24)).alloc (.cells #[.int .i64 y.own, .int .i64 y.ot, .slice y.ag.A y.ag.l.length y.ag.c, .slice y.op.A y.op.l.length y.op.c] 24)).drew := ⟨_, rfl⟩
        rw [← hNz0] at E PB PP BB CB ⊢
        clear hNz0
        have c0 := BB.out.c 0 _ rfl
        have c1 := BB.out.c 1 _ rfl
        have c2 := BB.out.c 2 _ rfl
        have c3 := BB.out.c 3 _ rfl
        go_wp2_with fail
        refine (check_at 0 (by unfold Bl.chk; rw [show x.bl.ok = true from H2.out.ok false]; rfl) PP.out.hx).mono ?_
        rintro e v1 ⟨rfl, B⟩
        clear c0 c1 c2 c3
        replace E := Lib.hid (ext_trans E.out B)
        replace PB := Lib.hid (PB.out.ext B)
        replace PP := Lib.hid (PP.out.ext B)
        replace BB := Lib.hid (BB.out.ext B)
        replace CB := Lib.hid (CB.out.ext B)
        clear B
        have c0 := BB.out.c 2 _ rfl
        go_wp2_with fail
        clear c0
        go_loopw [34] (fun i wr => ∃ ja : Nat, ja ≤ x.ag.l.length ∧ i = .int .i64 ja ∧ Hid (Below w.heap.size w wr) ∧ Hid (Blk wr P (Pc x y A n c)) ∧ Hid (PR wr P x y A n c l) ∧ Hid (Blk wr sBB [.int .i64 x.own, .int .i64 x.ot, .slice x.ag.A x.ag.l.length x.ag.c, .slice x.op.A x.op.l.length x.op.c]) ∧ Hid (Blk wr sCB [.int .i64 y.own, .int .i64 y.ot, .slice y.ag.A y.ag.l.length y.ag.c, .slice y.op.A y.op.l.length y.op.c])) (fun i _ => x.ag.l.length - (intOf i).toNat)
        case atStart => exact ⟨0, Nat.zero_le _, rfl, E.out, PB.out, PP.out, BB.out, CB.out⟩
        clear E PB PP BB CB
        case round =>
          obtain ⟨ja, hja, rfl, E, PB, PP, BB, CB⟩ := hrel
          by_cases hlja : ja < x.ag.l.length
          rotate_left
          · have hge : ¬ (ja : Int) < x.ag.l.length := by omega
            go_wp2_with fail
            go_roundw
            case rel => exact ⟨1, by decide, rfl, E.out, PB.out, PP.out⟩
            case measure => simp [intOf]
          obtain ⟨a, aB, aO, aX, aA, aL, aD⟩ := (PP.out.hx.ag).at_ hlja
          have aM := Lib.hid (List.mem_of_getElem? aX)
          have ad0 := aD 0 _ rfl
          have ad1 := aD 1 _ rfl
          have ad2 := aD 2 _ rfl
          have ad3 := aD 3 _ rfl
          have ad4 := aD 4 _ rfl
          simp only [Nat.add_zero] at ad0
          have hija : (ja : Int) < x.ag.l.length := by omega
          clear aD aX
          replace E := Lib.hid (ext_alloc E.out (.cells #[.int .i64 a.no, .int .i64 a.f, .int .i64 a.t, .int .i64 a.m, .int .i64 a.r] 26))
          replace PB := Lib.hid (PB.out.alloc (.cells #[.int .i64 a.no, .int .i64 a.f, .int .i64 a.t, .int .i64 a.m, .int .i64 a.r] 26))
          replace PP := Lib.hid (PP.out.alloc (.cells #[.int .i64 a.no, .int .i64 a.f, .int .i64 a.t, .int .i64 a.m, .int .i64 a.r] 26))
          replace BB := Lib.hid (BB.out.alloc (.cells #[.int .i64 a.no, .int .i64 a.f, .int .i64 a.t, .int .i64 a.m, .int .i64 a.r] 26))
          replace CB := Lib.hid (CB.out.alloc (.cells #[.int .i64 a.no, .int .i64 a.f, .int .i64 a.t, .int .i64 a.m, .int .i64 a.r] 26))
          have AX := Lib.hid (Blk.newH wr [.int .i64 a.no, .int .i64 a.f, .int .i64 a.t, .int .i64 a.m, .int .i64 a.r] 26 (wr.heap.size) (by first | rfl | simp))
          have c0 := CB.out.c 2 _ rfl
          go_wp2_with fail
          clear c0
          clear ad0 ad1 ad2 ad3 ad4 aL
          obtain ⟨sA0, hsA0⟩ : ∃ s, s = wr.heap.size := ⟨_, rfl⟩
          rw [← hsA0] at AX ⊢
          clear hsA0
          obtain ⟨zA, hNzA⟩ : ∃ W0, W0 = (wr.alloc (.cells #[.int .i64 a.no, .int .i64 a.f, .int .i64 a.t, .int .i64 a.m, .int .i64 a.r] 26)) := ⟨_, rfl⟩
          rw [← hNzA] at E PB PP BB CB AX ⊢
          clear hNzA
          go_loopw [41] (fun i wr => ∃ ju : Nat, ju ≤ y.ag.l.length ∧ i = .int .i64 ju ∧ Hid (Below w.heap.size w wr) ∧ Hid (Blk wr P (Pc x y A n c)) ∧ Hid (PR wr P x y A n c l) ∧ Hid (Blk wr sBB [.int .i64 x.own, .int .i64 x.ot, .slice x.ag.A x.ag.l.length x.ag.c, .slice x.op.A x.op.l.length x.op.c]) ∧ Hid (Blk wr sCB [.int .i64 y.own, .int .i64 y.ot, .slice y.ag.A y.ag.l.length y.ag.c, .slice y.op.A y.op.l.length y.op.c]) ∧ Hid (Blk wr sA0 [.int .i64 a.no, .int .i64 a.f, .int .i64 a.t, .int .i64 a.m, .int .i64 a.r])) (fun i _ => y.ag.l.length - (intOf i).toNat)
          case atStart => exact ⟨0, Nat.zero_le _, rfl, E.out, PB.out, PP.out, BB.out, CB.out, AX.out⟩
          clear E PB PP BB CB AX
          case round =>
            obtain ⟨ju, hju, rfl, E, PB, PP, BB, CB, AX⟩ := hrel
            by_cases hlju : ju < y.ag.l.length
            rotate_left
            rotate_left
            · obtain ⟨u, uB, uO, uX, uA, uL, uD⟩ := (PP.out.hy.ag).at_ hlju
              have uM := Lib.hid (List.mem_of_getElem? uX)
              have ud0 := uD 0 _ rfl
              have ud1 := uD 1 _ rfl
              have ud2 := uD 2 _ rfl
              have ud3 := uD 3 _ rfl
              have ud4 := uD 4 _ rfl
              simp only [Nat.add_zero] at ud0
              have hiju : (ju : Int) < y.ag.l.length := by omega
              clear uD uX
              have hsame := H2.out.same (i := false) (x := a) (y := u) (.inl aM.out) (.inl uM.out)
              by_cases hua : a = u
              · subst hua
                clear hsame
                have hneq := fun w => neq26_self a w
                replace E := Lib.hid (ext_alloc E.out (.cells #[.int .i64 a.no, .int .i64 a.f, .int .i64 a.t, .int .i64 a.m, .int .i64 a.r] 26))
                replace PB := Lib.hid (PB.out.alloc (.cells #[.int .i64 a.no, .int .i64 a.f, .int .i64 a.t, .int .i64 a.m, .int .i64 a.r] 26))
                replace PP := Lib.hid (PP.out.alloc (.cells #[.int .i64 a.no, .int .i64 a.f, .int .i64 a.t, .int .i64 a.m, .int .i64 a.r] 26))
                replace BB := Lib.hid (BB.out.alloc (.cells #[.int .i64 a.no, .int .i64 a.f, .int .i64 a.t, .int .i64 a.m, .int .i64 a.r] 26))
                replace CB := Lib.hid (CB.out.alloc (.cells #[.int .i64 a.no, .int .i64 a.f, .int .i64 a.t, .int .i64 a.m, .int .i64 a.r] 26))
                replace AX := Lib.hid (AX.out.alloc (.cells #[.int .i64 a.no, .int .i64 a.f, .int .i64 a.t, .int .i64 a.m, .int .i64 a.r] 26))
                have UX := Lib.hid (Blk.newH wr [.int .i64 a.no, .int .i64 a.f, .int .i64 a.t, .int .i64 a.m, .int .i64 a.r] 26 (wr.heap.size) (by first | rfl | simp))
                have c0 := AX.out.c 0 _ rfl
                have c1 := AX.out.c 1 _ rfl
                have c2 := AX.out.c 2 _ rfl
                have c3 := AX.out.c 3 _ rfl
                have c4 := AX.out.c 4 _ rfl
                go_wp2_with fail
                try rw [← uA]
                go_roundw
                case rel => exact ⟨ju + 1, by omega, by go_num, E.out, PB.out, PP.out, BB.out, CB.out, AX.out⟩
                case measure => simp [intOf]; omega
              · have f0 : (u.no == a.no) = false := by simp only [beq_eq_false_iff_ne, ne_eq]; exact fun e => hua (hsame e).symm
                clear hsame hua
                replace E := Lib.hid (ext_alloc E.out (.cells #[.int .i64 u.no, .int .i64 u.f, .int .i64 u.t, .int .i64 u.m, .int .i64 u.r] 26))
                replace PB := Lib.hid (PB.out.alloc (.cells #[.int .i64 u.no, .int .i64 u.f, .int .i64 u.t, .int .i64 u.m, .int .i64 u.r] 26))
                replace PP := Lib.hid (PP.out.alloc (.cells #[.int .i64 u.no, .int .i64 u.f, .int .i64 u.t, .int .i64 u.m, .int .i64 u.r] 26))
                replace BB := Lib.hid (BB.out.alloc (.cells #[.int .i64 u.no, .int .i64 u.f, .int .i64 u.t, .int .i64 u.m, .int .i64 u.r] 26))
                replace CB := Lib.hid (CB.out.alloc (.cells #[.int .i64 u.no, .int .i64 u.f, .int .i64 u.t, .int .i64 u.m, .int .i64 u.r] 26))
                replace AX := Lib.hid (AX.out.alloc (.cells #[.int .i64 u.no, .int .i64 u.f, .int .i64 u.t, .int .i64 u.m, .int .i64 u.r] 26))
                have UX := Lib.hid (Blk.newH wr [.int .i64 u.no, .int .i64 u.f, .int .i64 u.t, .int .i64 u.m, .int .i64 u.r] 26 (wr.heap.size) (by first | rfl | simp))
                have c0 := AX.out.c 0 _ rfl
                go_wp2_with fail
                try rw [← uA]
                go_roundw
                case rel => exact ⟨ju + 1, by omega, by go_num, E.out, PB.out, PP.out, BB.out, CB.out, AX.out⟩
                case measure => simp [intOf]; omega
            have hgeju : ¬ (ju : Int) < y.ag.l.length := by omega
            have c0 := CB.out.c 3 _ rfl
            go_wp2_with fail
            clear c0 hgeju
            go_loopw [59] (fun i wr => ∃ jv : Nat, jv ≤ y.op.l.length ∧ i = .int .i64 jv ∧ Hid (Below w.heap.size w wr) ∧ Hid (Blk wr P (Pc x y A n c)) ∧ Hid (PR wr P x y A n c l) ∧ Hid (Blk wr sBB [.int .i64 x.own, .int .i64 x.ot, .slice x.ag.A x.ag.l.length x.ag.c, .slice x.op.A x.op.l.length x.op.c]) ∧ Hid (Blk wr sCB [.int .i64 y.own, .int .i64 y.ot, .slice y.ag.A y.ag.l.length y.ag.c, .slice y.op.A y.op.l.length y.op.c]) ∧ Hid (Blk wr sA0 [.int .i64 a.no, .int .i64 a.f, .int .i64 a.t, .int .i64 a.m, .int .i64 a.r])) (fun i _ => y.op.l.length - (intOf i).toNat)
            case atStart => exact ⟨0, Nat.zero_le _, rfl, E.out, PB.out, PP.out, BB.out, CB.out, AX.out⟩
            clear E PB PP BB CB AX
            case round =>
              obtain ⟨jv, hjv, rfl, E, PB, PP, BB, CB, AX⟩ := hrel
              by_cases hljv : jv < y.op.l.length
              rotate_left
              rotate_left
              · obtain ⟨v, vB, vO, vX, vA, vL, vD⟩ := (PP.out.hy.op).at_ hljv
                have vM := Lib.hid (List.mem_of_getElem? vX)
                have vd0 := vD 0 _ rfl
                have vd1 := vD 1 _ rfl
                have vd2 := vD 2 _ rfl
                have vd3 := vD 3 _ rfl
                have vd4 := vD 4 _ rfl
                simp only [Nat.add_zero] at vd0
                have hijv : (jv : Int) < y.op.l.length := by omega
                clear vD vX
                have hsame := H2.out.same (i := false) (x := a) (y := v) (.inl aM.out) (.inr vM.out)
                by_cases hua : a = v
                · subst hua
                  clear hsame
                  have hneq := fun w => neq26_self a w
                  replace E := Lib.hid (ext_alloc E.out (.cells #[.int .i64 a.no, .int .i64 a.f, .int .i64 a.t, .int .i64 a.m, .int .i64 a.r] 26))
                  replace PB := Lib.hid (PB.out.alloc (.cells #[.int .i64 a.no, .int .i64 a.f, .int .i64 a.t, .int .i64 a.m, .int .i64 a.r] 26))
                  replace PP := Lib.hid (PP.out.alloc (.cells #[.int .i64 a.no, .int .i64 a.f, .int .i64 a.t, .int .i64 a.m, .int .i64 a.r] 26))
                  replace BB := Lib.hid (BB.out.alloc (.cells #[.int .i64 a.no, .int .i64 a.f, .int .i64 a.t, .int .i64 a.m, .int .i64 a.r] 26))
                  replace CB := Lib.hid (CB.out.alloc (.cells #[.int .i64 a.no, .int .i64 a.f, .int .i64 a.t, .int .i64 a.m, .int .i64 a.r] 26))
                  replace AX := Lib.hid (AX.out.alloc (.cells #[.int .i64 a.no, .int .i64 a.f, .int .i64 a.t, .int .i64 a.m, .int .i64 a.r] 26))
                  have UX := Lib.hid (Blk.newH wr [.int .i64 a.no, .int .i64 a.f, .int .i64 a.t, .int .i64 a.m, .int .i64 a.r] 26 (wr.heap.size) (by first | rfl | simp))
                  have c0 := AX.out.c 0 _ rfl
                  have c1 := AX.out.c 1 _ rfl
                  have c2 := AX.out.c 2 _ rfl
                  have c3 := AX.out.c 3 _ rfl
                  have c4 := AX.out.c 4 _ rfl
                  go_wp2_with fail
                  try rw [← vA]
                  go_roundw
                  case rel => exact ⟨jv + 1, by omega, by go_num, E.out, PB.out, PP.out, BB.out, CB.out, AX.out⟩
                  case measure => simp [intOf]; omega
                · have f0 : (v.no == a.no) = false := by simp only [beq_eq_false_iff_ne, ne_eq]; exact fun e => hua (hsame e).symm
                  clear hsame hua
                  replace E := Lib.hid (ext_alloc E.out (.cells #[.int .i64 v.no, .int .i64 v.f, .int .i64 v.t, .int .i64 v.m, .int .i64 v.r] 26))
                  replace PB := Lib.hid (PB.out.alloc (.cells #[.int .i64 v.no, .int .i64 v.f, .int .i64 v.t, .int .i64 v.m, .int .i64 v.r] 26))
                  replace PP := Lib.hid (PP.out.alloc (.cells #[.int .i64 v.no, .int .i64 v.f, .int .i64 v.t, .int .i64 v.m, .int .i64 v.r] 26))
                  replace BB := Lib.hid (BB.out.alloc (.cells #[.int .i64 v.no, .int .i64 v.f, .int .i64 v.t, .int .i64 v.m, .int .i64 v.r] 26))
                  replace CB := Lib.hid (CB.out.alloc (.cells #[.int .i64 v.no, .int .i64 v.f, .int .i64 v.t, .int .i64 v.m, .int .i64 v.r] 26))
                  replace AX := Lib.hid (AX.out.alloc (.cells #[.int .i64 v.no, .int .i64 v.f, .int .i64 v.t, .int .i64 v.m, .int .i64 v.r] 26))
                  have UX := Lib.hid (Blk.newH wr [.int .i64 v.no, .int .i64 v.f, .int .i64 v.t, .int .i64 v.m, .int .i64 v.r] 26 (wr.heap.size) (by first | rfl | simp))
                  have c0 := AX.out.c 0 _ rfl
                  go_wp2_with fail
                  try rw [← vA]
                  go_roundw
                  case rel => exact ⟨jv + 1, by omega, by go_num, E.out, PB.out, PP.out, BB.out, CB.out, AX.out⟩
                  case measure => simp [intOf]; omega
              have hgejv : ¬ (jv : Int) < y.op.l.length := by omega
              obtain ⟨ob, hob⟩ : ∃ v, offd a.no x.own x.ot = v := ⟨_, rfl⟩
              have HOB := Lib.hid hob
              clear hob
              have c0 := AX.out.c 0 _ rfl
              have c1 := BB.out.c 0 _ rfl
              have c2 := BB.out.c 1 _ rfl
              go_wp2_with fail
              refine (offd_at ob HOB.out).mono ?_
              rintro e _ ⟨rfl, rfl⟩
              clear c0 c1 c2
              cases ob
              · go_wp2_with fail
                try rw [← aA]
                go_roundw
                case rel => exact ⟨ja + 1, by omega, by go_num, E.out, PB.out, PP.out, BB.out, CB.out⟩
                case measure => simp [intOf]; omega
              have HH := Lib.hid (has_mem6 (H2.out.agr false a aM.out HOB.out))
              have c0 := CB.out.c 2 _ rfl
              have c1 := AX.out.c 0 _ rfl
              have c2 := AX.out.c 1 _ rfl
              have c3 := AX.out.c 2 _ rfl
              have c4 := AX.out.c 3 _ rfl
              have c5 := AX.out.c 4 _ rfl
              go_wp2_with fail
              refine (has_at (x := a) true HH.out rfl PP.out.hy.ag (maxLen_of PP.out.hy.agl PP.out.hy.agc)).mono ?_
              rintro e q1 ⟨rfl, B⟩
              clear c0 c1 c2 c3 c4 c5
              replace E := Lib.hid (ext_trans E.out B)
              replace PB := Lib.hid (PB.out.ext B)
              replace PP := Lib.hid (PP.out.ext B)
              replace BB := Lib.hid (BB.out.ext B)
              replace CB := Lib.hid (CB.out.ext B)
              replace AX := Lib.hid (AX.out.ext B)
              clear B
              go_wp2_with fail
              try rw [← aA]
              go_roundw
              case rel => exact ⟨ja + 1, by omega, by go_num, E.out, PB.out, PP.out, BB.out, CB.out⟩
              case measure => simp [intOf]; omega
      · go_simp
        refine hK.out _ _ ?_ (fun hHeld2 => ?_)
        · exact SS.out _ (ext_alloc hHeld.1 _)
        clear hHeld
        have hHeld := hHeld2
        clear hHeld2
        clear hK K
        try simp only [Act.put, List.setIfInBounds_toArray, List.set_cons_zero, List.set_cons_succ]
        refine rg_one (i := 13) (by kernel_rfl) (rg_step rfl (by rfl) (fun K hK => ?_))
        go_simp
        refine hK.out _ _ ?_ (fun hHeld2 => ?_)
        · exact SS.out _ (ext_alloc hHeld.1 _)
        clear hHeld
        have hHeld := hHeld2
        clear hHeld2
        clear hK K
        try simp only [Act.put, List.setIfInBounds_toArray, List.set_cons_zero, List.set_cons_succ]
        refine rg_one (i := 15) (by kernel_rfl) (rg_step rfl (by rfl) (fun K hK => ?_))
        go_simp
        refine hK.out _ _ ?_ (fun hHeld2 => ?_)
        · exact SS.out _ (ext_drew (ext_alloc (ext_alloc (ext_refl _) _) _))
        clear hHeld
        have hHeld := hHeld2
        clear hHeld2
        clear hK K
        try simp only [Act.put, List.setIfInBounds_toArray, List.set_cons_zero, List.set_cons_succ]
        refine rg_one (i := 16) (by kernel_rfl) (rg_late rfl (by rfl) (by kernel_rfl) (fun K hK => ?_))
        go_simp
        refine hK.out _ _ ?_
        clear hK K
        try simp only [Act.put, List.setIfInBounds_toArray, List.set_cons_zero, List.set_cons_succ]
        refine rg_end (by kernel_rfl) (hN7 _ _ ?_) _
        clear hQ7 hN7 Q7
        have BX := hHeld.1
        clear SS
        clear BX kw0 kw1
        replace E := Lib.hid (ext_alloc E.out (.cells #[.int .i64 y.own, .int .i64 y.ot, .slice y.ag.A y.ag.l.length y.ag.c, .slice y.op.A y.op.l.length y.op.c] 24))
        replace PB := Lib.hid (PB.out.alloc (.cells #[.int .i64 y.own, .int .i64 y.ot, .slice y.ag.A y.ag.l.length y.ag.c, .slice y.op.A y.op.l.length y.op.c] 24))
        replace PP := Lib.hid (PP.out.alloc (.cells #[.int .i64 y.own, .int .i64 y.ot, .slice y.ag.A y.ag.l.length y.ag.c, .slice y.op.A y.op.l.length y.op.c] 24))
        have CB := Lib.hid (Blk.newH wr [.int .i64 y.own, .int .i64 y.ot, .slice y.ag.A y.ag.l.length y.ag.c, .slice y.op.A y.op.l.length y.op.c] 24 (wr.heap.size) (by first | rfl | simp))
        replace E := Lib.hid (ext_alloc E.out (.cells #[.int .i64 x.own, .int .i64 x.ot, .slice x.ag.A x.ag.l.length x.ag.c, .slice x.op.A x.op.l.length x.op.c] 24))
        replace PB := Lib.hid (PB.out.alloc (.cells #[.int .i64 x.own, .int .i64 x.ot, .slice x.ag.A x.ag.l.length x.ag.c, .slice x.op.A x.op.l.length x.op.c] 24))
        replace PP := Lib.hid (PP.out.alloc (.cells #[.int .i64 x.own, .int .i64 x.ot, .slice x.ag.A x.ag.l.length x.ag.c, .slice x.op.A x.op.l.length x.op.c] 24))
        replace CB := Lib.hid (CB.out.alloc (.cells #[.int .i64 x.own, .int .i64 x.ot, .slice x.ag.A x.ag.l.length x.ag.c, .slice x.op.A x.op.l.length x.op.c] 24))
        have BB := Lib.hid (Blk.newH (wr.alloc (.cells #[.int .i64 y.own, .int .i64 y.ot, .slice y.ag.A y.ag.l.length y.ag.c, .slice y.op.A y.op.l.length y.op.c] 24)) [.int .i64 x.own, .int .i64 x.ot, .slice x.ag.A x.ag.l.length x.ag.c, .slice x.op.A x.op.l.length x.op.c] 24 (wr.heap.size + 1) (by first | rfl | simp))
        have DD := ext_drew (ext_refl ((wr.alloc (.cells #[.int .i64 y.own, .int .i64 y.ot, .slice y.ag.A y.ag.l.length y.ag.c, .slice y.op.A y.op.l.length y.op.c] 24)).alloc (.cells #[.int .i64 x.own, .int .i64 x.ot, .slice x.ag.A x.ag.l.length x.ag.c, .slice x.op.A x.op.l.length x.op.c] 24)))
        replace E := Lib.hid (ext_trans E.out DD)
        replace PB := Lib.hid (PB.out.ext DD)
        replace PP := Lib.hid (PP.out.ext DD)
        replace CB := Lib.hid (CB.out.ext DD)
        replace BB := Lib.hid (BB.out.ext DD)
        clear DD
        obtain ⟨sBB, hsBB⟩ : ∃ s, s = wr.heap.size + 1 := ⟨_, rfl⟩
        rw [← hsBB] at BB ⊢
        clear hsBB
        obtain ⟨sCB, hsCB⟩ : ∃ s, s = wr.heap.size := ⟨_, rfl⟩
        rw [← hsCB] at CB ⊢
        clear hsCB
        obtain ⟨z0, hNz0⟩ : ∃ W0, W0 = ((wr.alloc (.cells #[.int .i64 y.own, .int .i64 y.ot, .slice y.ag.A y.ag.l.length y.ag.c, .slice y.op.A y.op.l.length y.op.c] 24)).alloc (.cells #[.int .i64 x.own, .int .i64 x.ot, .slice x.ag.A x.ag.l.length x.ag.c, .slice x.op.A x.op.l.length x.op.c] 24)).drew := ⟨_, rfl⟩
        rw [← hNz0] at E PB PP CB BB ⊢
        clear hNz0
        have c0 := BB.out.c 0 _ rfl
        have c1 := BB.out.c 1 _ rfl
        have c2 := BB.out.c 2 _ rfl
        have c3 := BB.out.c 3 _ rfl
        go_wp2_with fail
        refine (check_at 0 (by unfold Bl.chk; rw [show x.bl.ok = true from H2.out.ok false]; rfl) PP.out.hx).mono ?_
        rintro e v1 ⟨rfl, B⟩
        clear c0 c1 c2 c3
        replace E := Lib.hid (ext_trans E.out B)
        replace PB := Lib.hid (PB.out.ext B)
        replace PP := Lib.hid (PP.out.ext B)
        replace CB := Lib.hid (CB.out.ext B)
        replace BB := Lib.hid (BB.out.ext B)
        clear B
        have c0 := BB.out.c 2 _ rfl
        go_wp2_with fail
        clear c0
        go_loopw [34] (fun i wr => ∃ ja : Nat, ja ≤ x.ag.l.length ∧ i = .int .i64 ja ∧ Hid (Below w.heap.size w wr) ∧ Hid (Blk wr P (Pc x y A n c)) ∧ Hid (PR wr P x y A n c l) ∧ Hid (Blk wr sCB [.int .i64 y.own, .int .i64 y.ot, .slice y.ag.A y.ag.l.length y.ag.c, .slice y.op.A y.op.l.length y.op.c]) ∧ Hid (Blk wr sBB [.int .i64 x.own, .int .i64 x.ot, .slice x.ag.A x.ag.l.length x.ag.c, .slice x.op.A x.op.l.length x.op.c])) (fun i _ => x.ag.l.length - (intOf i).toNat)
        case atStart => exact ⟨0, Nat.zero_le _, rfl, E.out, PB.out, PP.out, CB.out, BB.out⟩
        clear E PB PP CB BB
        case round =>
          obtain ⟨ja, hja, rfl, E, PB, PP, CB, BB⟩ := hrel
          by_cases hlja : ja < x.ag.l.length
          rotate_left
          · have hge : ¬ (ja : Int) < x.ag.l.length := by omega
            go_wp2_with fail
            go_roundw
            case rel => exact ⟨1, by decide, rfl, E.out, PB.out, PP.out⟩
            case measure => simp [intOf]
          obtain ⟨a, aB, aO, aX, aA, aL, aD⟩ := (PP.out.hx.ag).at_ hlja
          have aM := Lib.hid (List.mem_of_getElem? aX)
          have ad0 := aD 0 _ rfl
          have ad1 := aD 1 _ rfl
          have ad2 := aD 2 _ rfl
          have ad3 := aD 3 _ rfl
          have ad4 := aD 4 _ rfl
          simp only [Nat.add_zero] at ad0
          have hija : (ja : Int) < x.ag.l.length := by omega
          clear aD aX
          replace E := Lib.hid (ext_alloc E.out (.cells #[.int .i64 a.no, .int .i64 a.f, .int .i64 a.t, .int .i64 a.m, .int .i64 a.r] 26))
          replace PB := Lib.hid (PB.out.alloc (.cells #[.int .i64 a.no, .int .i64 a.f, .int .i64 a.t, .int .i64 a.m, .int .i64 a.r] 26))
          replace PP := Lib.hid (PP.out.alloc (.cells #[.int .i64 a.no, .int .i64 a.f, .int .i64 a.t, .int .i64 a.m, .int .i64 a.r] 26))
          replace CB := Lib.hid (CB.out.alloc (.cells #[.int .i64 a.no, .int .i64 a.f, .int .i64 a.t, .int .i64 a.m, .int .i64 a.r] 26))
          replace BB := Lib.hid (BB.out.alloc (.cells #[.int .i64 a.no, .int .i64 a.f, .int .i64 a.t, .int .i64 a.m, .int .i64 a.r] 26))
          have AX := Lib.hid (Blk.newH wr [.int .i64 a.no, .int .i64 a.f, .int .i64 a.t, .int .i64 a.m, .int .i64 a.r] 26 (wr.heap.size) (by first | rfl | simp))
          have c0 := CB.out.c 2 _ rfl
          go_wp2_with fail
          clear c0
          clear ad0 ad1 ad2 ad3 ad4 aL
          obtain ⟨sA0, hsA0⟩ : ∃ s, s = wr.heap.size := ⟨_, rfl⟩
          rw [← hsA0] at AX ⊢
          clear hsA0
          obtain ⟨zA, hNzA⟩ : ∃ W0, W0 = (wr.alloc (.cells #[.int .i64 a.no, .int .i64 a.f, .int .i64 a.t, .int .i64 a.m, .int .i64 a.r] 26)) := ⟨_, rfl⟩
          rw [← hNzA] at E PB PP CB BB AX ⊢
          clear hNzA
          go_loopw [41] (fun i wr => ∃ ju : Nat, ju ≤ y.ag.l.length ∧ i = .int .i64 ju ∧ Hid (Below w.heap.size w wr) ∧ Hid (Blk wr P (Pc x y A n c)) ∧ Hid (PR wr P x y A n c l) ∧ Hid (Blk wr sCB [.int .i64 y.own, .int .i64 y.ot, .slice y.ag.A y.ag.l.length y.ag.c, .slice y.op.A y.op.l.length y.op.c]) ∧ Hid (Blk wr sBB [.int .i64 x.own, .int .i64 x.ot, .slice x.ag.A x.ag.l.length x.ag.c, .slice x.op.A x.op.l.length x.op.c]) ∧ Hid (Blk wr sA0 [.int .i64 a.no, .int .i64 a.f, .int .i64 a.t, .int .i64 a.m, .int .i64 a.r])) (fun i _ => y.ag.l.length - (intOf i).toNat)
          case atStart => exact ⟨0, Nat.zero_le _, rfl, E.out, PB.out, PP.out, CB.out, BB.out, AX.out⟩
          clear E PB PP CB BB AX
          case round =>
            obtain ⟨ju, hju, rfl, E, PB, PP, CB, BB, AX⟩ := hrel
            by_cases hlju : ju < y.ag.l.length
            rotate_left
            rotate_left
            · obtain ⟨u, uB, uO, uX, uA, uL, uD⟩ := (PP.out.hy.ag).at_ hlju
              have uM := Lib.hid (List.mem_of_getElem? uX)
              have ud0 := uD 0 _ rfl
              have ud1 := uD 1 _ rfl
              have ud2 := uD 2 _ rfl
              have ud3 := uD 3 _ rfl
              have ud4 := uD 4 _ rfl
              simp only [Nat.add_zero] at ud0
              have hiju : (ju : Int) < y.ag.l.length := by omega
              clear uD uX
              have hsame := H2.out.same (i := false) (x := a) (y := u) (.inl aM.out) (.inl uM.out)
              by_cases hua : a = u
              · subst hua
                clear hsame
                have hneq := fun w => neq26_self a w
                replace E := Lib.hid (ext_alloc E.out (.cells #[.int .i64 a.no, .int .i64 a.f, .int .i64 a.t, .int .i64 a.m, .int .i64 a.r] 26))
                replace PB := Lib.hid (PB.out.alloc (.cells #[.int .i64 a.no, .int .i64 a.f, .int .i64 a.t, .int .i64 a.m, .int .i64 a.r] 26))
                replace PP := Lib.hid (PP.out.alloc (.cells #[.int .i64 a.no, .int .i64 a.f, .int .i64 a.t, .int .i64 a.m, .int .i64 a.r] 26))
                replace CB := Lib.hid (CB.out.alloc (.cells #[.int .i64 a.no, .int .i64 a.f, .int .i64 a.t, .int .i64 a.m, .int .i64 a.r] 26))
                replace BB := Lib.hid (BB.out.alloc (.cells #[.int .i64 a.no, .int .i64 a.f, .int .i64 a.t, .int .i64 a.m, .int .i64 a.r] 26))
                replace AX := Lib.hid (AX.out.alloc (.cells #[.int .i64 a.no, .int .i64 a.f, .int .i64 a.t, .int .i64 a.m, .int .i64 a.r] 26))
                have UX := Lib.hid (Blk.newH wr [.int .i64 a.no, .int .i64 a.f, .int .i64 a.t, .int .i64 a.m, .int .i64 a.r] 26 (wr.heap.size) (by first | rfl | simp))
                have c0 := AX.out.c 0 _ rfl
                have c1 := AX.out.c 1 _ rfl
                have c2 := AX.out.c 2 _ rfl
                have c3 := AX.out.c 3 _ rfl
                have c4 := AX.out.c 4 _ rfl
                go_wp2_with fail
                try rw [← uA]
                go_roundw
                case rel => exact ⟨ju + 1, by omega, by go_num, E.out, PB.out, PP.out, CB.out, BB.out, AX.out⟩
                case measure => simp [intOf]; omega
              · have f0 : (u.no == a.no) = false := by simp only [beq_eq_false_iff_ne, ne_eq]; exact fun e => hua (hsame e).symm
                clear hsame hua
                replace E := Lib.hid (ext_alloc E.out (.cells #[.int .i64 u.no, .int .i64 u.f, .int .i64 u.t, .int .i64 u.m, .int .i64 u.r] 26))
                replace PB := Lib.hid (PB.out.alloc (.cells #[.int .i64 u.no, .int .i64 u.f, .int .i64 u.t, .int .i64 u.m, .int .i64 u.r] 26))
                replace PP := Lib.hid (PP.out.alloc (.cells #[.int .i64 u.no, .int .i64 u.f, .int .i64 u.t, .int .i64 u.m, .int .i64 u.r] 26))
                replace CB := Lib.hid (CB.out.alloc (.cells #[.int .i64 u.no, .int .i64 u.f, .int .i64 u.t, .int .i64 u.m, .int .i64 u.r] 26))
                replace BB := Lib.hid (BB.out.alloc (.cells #[.int .i64 u.no, .int .i64 u.f, .int .i64 u.t, .int .i64 u.m, .int .i64 u.r] 26))
                replace AX := Lib.hid (AX.out.alloc (.cells #[.int .i64 u.no, .int .i64 u.f, .int .i64 u.t, .int .i64 u.m, .int .i64 u.r] 26))
                have UX := Lib.hid (Blk.newH wr [.int .i64 u.no, .int .i64 u.f, .int .i64 u.t, .int .i64 u.m, .int .i64 u.r] 26 (wr.heap.size) (by first | rfl | simp))
                have c0 := AX.out.c 0 _ rfl
                go_wp2_with fail
                try rw [← uA]
                go_roundw
                case rel => exact ⟨ju + 1, by omega, by go_num, E.out, PB.out, PP.out, CB.out, BB.out, AX.out⟩
                case measure => simp [intOf]; omega
            have hgeju : ¬ (ju : Int) < y.ag.l.length := by omega
            have c0 := CB.out.c 3 _ rfl
            go_wp2_with fail
            clear c0 hgeju
            go_loopw [59] (fun i wr => ∃ jv : Nat, jv ≤ y.op.l.length ∧ i = .int .i64 jv ∧ Hid (Below w.heap.size w wr) ∧ Hid (Blk wr P (Pc x y A n c)) ∧ Hid (PR wr P x y A n c l) ∧ Hid (Blk wr sCB [.int .i64 y.own, .int .i64 y.ot, .slice y.ag.A y.ag.l.length y.ag.c, .slice y.op.A y.op.l.length y.op.c]) ∧ Hid (Blk wr sBB [.int .i64 x.own, .int .i64 x.ot, .slice x.ag.A x.ag.l.length x.ag.c, .slice x.op.A x.op.l.length x.op.c]) ∧ Hid (Blk wr sA0 [.int .i64 a.no, .int .i64 a.f, .int .i64 a.t, .int .i64 a.m, .int .i64 a.r])) (fun i _ => y.op.l.length - (intOf i).toNat)
            case atStart => exact ⟨0, Nat.zero_le _, rfl, E.out, PB.out, PP.out, CB.out, BB.out, AX.out⟩
            clear E PB PP CB BB AX
            case round =>
              obtain ⟨jv, hjv, rfl, E, PB, PP, CB, BB, AX⟩ := hrel
              by_cases hljv : jv < y.op.l.length
              rotate_left
              rotate_left
              · obtain ⟨v, vB, vO, vX, vA, vL, vD⟩ := (PP.out.hy.op).at_ hljv
                have vM := Lib.hid (List.mem_of_getElem? vX)
                have vd0 := vD 0 _ rfl
                have vd1 := vD 1 _ rfl
                have vd2 := vD 2 _ rfl
                have vd3 := vD 3 _ rfl
                have vd4 := vD 4 _ rfl
                simp only [Nat.add_zero] at vd0
                have hijv : (jv : Int) < y.op.l.length := by omega
                clear vD vX
                have hsame := H2.out.same (i := false) (x := a) (y := v) (.inl aM.out) (.inr vM.out)
                by_cases hua : a = v
                · subst hua
                  clear hsame
                  have hneq := fun w => neq26_self a w
                  replace E := Lib.hid (ext_alloc E.out (.cells #[.int .i64 a.no, .int .i64 a.f, .int .i64 a.t, .int .i64 a.m, .int .i64 a.r] 26))
                  replace PB := Lib.hid (PB.out.alloc (.cells #[.int .i64 a.no, .int .i64 a.f, .int .i64 a.t, .int .i64 a.m, .int .i64 a.r] 26))
                  replace PP := Lib.hid (PP.out.alloc (.cells #[.int .i64 a.no, .int .i64 a.f, .int .i64 a.t, .int .i64 a.m, .int .i64 a.r] 26))
                  replace CB := Lib.hid (CB.out.alloc (.cells #[.int .i64 a.no, .int .i64 a.f, .int .i64 a.t, .int .i64 a.m, .int .i64 a.r] 26))
                  replace BB := Lib.hid (BB.out.alloc (.cells #[.int .i64 a.no, .int .i64 a.f, .int .i64 a.t, .int .i64 a.m, .int .i64 a.r] 26))
                  replace AX := Lib.hid (AX.out.alloc (.cells #[.int .i64 a.no, .int .i64 a.f, .int .i64 a.t, .int .i64 a.m, .int .i64 a.r] 26))
                  have UX := Lib.hid (Blk.newH wr [.int .i64 a.no, .int .i64 a.f, .int .i64 a.t, .int .i64 a.m, .int .i64 a.r] 26 (wr.heap.size) (by first | rfl | simp))
                  have c0 := AX.out.c 0 _ rfl
                  have c1 := AX.out.c 1 _ rfl
                  have c2 := AX.out.c 2 _ rfl
                  have c3 := AX.out.c 3 _ rfl
                  have c4 := AX.out.c 4 _ rfl
                  go_wp2_with fail
                  try rw [← vA]
                  go_roundw
                  case rel => exact ⟨jv + 1, by omega, by go_num, E.out, PB.out, PP.out, CB.out, BB.out, AX.out⟩
                  case measure => simp [intOf]; omega
                · have f0 : (v.no == a.no) = false := by simp only [beq_eq_false_iff_ne, ne_eq]; exact fun e => hua (hsame e).symm
                  clear hsame hua
                  replace E := Lib.hid (ext_alloc E.out (.cells #[.int .i64 v.no, .int .i64 v.f, .int .i64 v.t, .int .i64 v.m, .int .i64 v.r] 26))
                  replace PB := Lib.hid (PB.out.alloc (.cells #[.int .i64 v.no, .int .i64 v.f, .int .i64 v.t, .int .i64 v.m, .int .i64 v.r] 26))
                  replace PP := Lib.hid (PP.out.alloc (.cells #[.int .i64 v.no, .int .i64 v.f, .int .i64 v.t, .int .i64 v.m, .int .i64 v.r] 26))
                  replace CB := Lib.hid (CB.out.alloc (.cells #[.int .i64 v.no, .int .i64 v.f, .int .i64 v.t, .int .i64 v.m, .int .i64 v.r] 26))
                  replace BB := Lib.hid (BB.out.alloc (.cells #[.int .i64 v.no, .int .i64 v.f, .int .i64 v.t, .int .i64 v.m, .int .i64 v.r] 26))
                  replace AX := Lib.hid (AX.out.alloc (.cells #[.int .i64 v.no, .int .i64 v.f, .int .i64 v.t, .int .i64 v.m, .int .i64 v.r] 26))
                  have UX := Lib.hid (Blk.newH wr [.int .i64 v.no, .int .i64 v.f, .int .i64 v.t, .int .i64 v.m, .int .i64 v.r] 26 (wr.heap.size) (by first | rfl | simp))
                  have c0 := AX.out.c 0 _ rfl
                  go_wp2_with fail
                  try rw [← vA]
                  go_roundw
                  case rel => exact ⟨jv + 1, by omega, by go_num, E.out, PB.out, PP.out, CB.out, BB.out, AX.out⟩
                  case measure => simp [intOf]; omega
              have hgejv : ¬ (jv : Int) < y.op.l.length := by omega
              obtain ⟨ob, hob⟩ : ∃ v, offd a.no x.own x.ot = v := ⟨_, rfl⟩
              have HOB := Lib.hid hob
              clear hob
              have c0 := AX.out.c 0 _ rfl
              have c1 := BB.out.c 0 _ rfl
              have c2 := BB.out.c 1 _ rfl
              go_wp2_with fail
              refine (offd_at ob HOB.out).mono ?_
              rintro e _ ⟨rfl, rfl⟩
              clear c0 c1 c2
              cases ob
              · go_wp2_with fail
                try rw [← aA]
                go_roundw
                case rel => exact ⟨ja + 1, by omega, by go_num, E.out, PB.out, PP.out, CB.out, BB.out⟩
                case measure => simp [intOf]; omega
              have HH := Lib.hid (has_mem6 (H2.out.agr false a aM.out HOB.out))
              have c0 := CB.out.c 2 _ rfl
              have c1 := AX.out.c 0 _ rfl
              have c2 := AX.out.c 1 _ rfl
              have c3 := AX.out.c 2 _ rfl
              have c4 := AX.out.c 3 _ rfl
              have c5 := AX.out.c 4 _ rfl
              go_wp2_with fail
              refine (has_at (x := a) true HH.out rfl PP.out.hy.ag (maxLen_of PP.out.hy.agl PP.out.hy.agc)).mono ?_
              rintro e q1 ⟨rfl, B⟩
              clear c0 c1 c2 c3 c4 c5
              replace E := Lib.hid (ext_trans E.out B)
              replace PB := Lib.hid (PB.out.ext B)
              replace PP := Lib.hid (PP.out.ext B)
              replace CB := Lib.hid (CB.out.ext B)
              replace BB := Lib.hid (BB.out.ext B)
              replace AX := Lib.hid (AX.out.ext B)
              clear B
              go_wp2_with fail
              try rw [← aA]
              go_roundw
              case rel => exact ⟨ja + 1, by omega, by go_num, E.out, PB.out, PP.out, CB.out, BB.out⟩
              case measure => simp [intOf]; omega
    · have kw1 : IntKind.i64.wrap 1 = 1 := by decide
      have kw0 : IntKind.i64.wrap 0 = 0 := by decide
      go_wp2_with fail
      have SS := Lib.hid (show ∀ w', Below wr.heap.size wr w' → (fun w' => Below wr.heap.size wr w' ∧ w'.cell? ⟨P, 0, none⟩ = some (.int .i64 x.own) ∧ w'.cell? ⟨P, 1, none⟩ = some (.int .i64 x.ot) ∧ w'.cell? ⟨P, 2, none⟩ = some (.slice x.ag.A x.ag.l.length x.ag.c) ∧ w'.cell? ⟨P, 3, none⟩ = some (.slice x.op.A x.op.l.length x.op.c) ∧ w'.cell? ⟨P, 4, none⟩ = some (.int .i64 y.own) ∧ w'.cell? ⟨P, 5, none⟩ = some (.int .i64 y.ot) ∧ w'.cell? ⟨P, 6, none⟩ = some (.slice y.ag.A y.ag.l.length y.ag.c) ∧ w'.cell? ⟨P, 7, none⟩ = some (.slice y.op.A y.op.l.length y.op.c)) w' from fun w' h => ⟨h, (PB.out.ext h).c 0 _ rfl, (PB.out.ext h).c 1 _ rfl, (PB.out.ext h).c 2 _ rfl, (PB.out.ext h).c 3 _ rfl, (PB.out.ext h).c 4 _ rfl, (PB.out.ext h).c 5 _ rfl, (PB.out.ext h).c 6 _ rfl, (PB.out.ext h).c 7 _ rfl⟩)
      refine rg_begin (S := (fun w' => Below wr.heap.size wr w' ∧ w'.cell? ⟨P, 0, none⟩ = some (.int .i64 x.own) ∧ w'.cell? ⟨P, 1, none⟩ = some (.int .i64 x.ot) ∧ w'.cell? ⟨P, 2, none⟩ = some (.slice x.ag.A x.ag.l.length x.ag.c) ∧ w'.cell? ⟨P, 3, none⟩ = some (.slice x.op.A x.op.l.length x.op.c) ∧ w'.cell? ⟨P, 4, none⟩ = some (.int .i64 y.own) ∧ w'.cell? ⟨P, 5, none⟩ = some (.int .i64 y.ot) ∧ w'.cell? ⟨P, 6, none⟩ = some (.slice y.ag.A y.ag.l.length y.ag.c) ∧ w'.cell? ⟨P, 7, none⟩ = some (.slice y.op.A y.op.l.length y.op.c))) 16 (by kernel_rfl) (by intro d; cases d <;> intro _ _ _ _ h <;> exact h) ?_ (fun Q7 hQ7 hN7 hHeld => ?_)
      · exact SS.out _ (ext_drew (ext_refl _))
      refine rg_take (i := 0) (some 15) (v := ?_) rfl rfl (by kernel_rfl) (by rfl) hQ7 hHeld ?_ ?_
      rotate_left
      · intro w7 hSw; (try dsimp only at hSw); go_simp; all_goals with_reducible rfl
      try simp only [Act.put, List.setIfInBounds_toArray, List.set_cons_zero, List.set_cons_succ]
      refine rg_take (i := 1) (some 16) (v := ?_) rfl rfl (by kernel_rfl) (by rfl) hQ7 hHeld ?_ ?_
      rotate_left
      · intro w7 hSw; (try dsimp only at hSw); go_simp; all_goals with_reducible rfl
      try simp only [Act.put, List.setIfInBounds_toArray, List.set_cons_zero, List.set_cons_succ]
      refine rg_take (i := 2) (some 17) (v := ?_) rfl rfl (by kernel_rfl) (by rfl) hQ7 hHeld ?_ ?_
      rotate_left
      · intro w7 hSw; (try dsimp only at hSw); go_simp; all_goals with_reducible rfl
      try simp only [Act.put, List.setIfInBounds_toArray, List.set_cons_zero, List.set_cons_succ]
      refine rg_take (i := 3) (some 18) (v := ?_) rfl rfl (by kernel_rfl) (by rfl) hQ7 hHeld ?_ ?_
      rotate_left
      · intro w7 hSw; (try dsimp only at hSw); go_simp; all_goals with_reducible rfl
      try simp only [Act.put, List.setIfInBounds_toArray, List.set_cons_zero, List.set_cons_succ]
      refine rg_take (i := 4) (some 19) (v := ?_) rfl rfl (by kernel_rfl) (by rfl) hQ7 hHeld ?_ ?_
      rotate_left
      · intro w7 hSw; (try dsimp only at hSw); go_simp; all_goals with_reducible rfl
      try simp only [Act.put, List.setIfInBounds_toArray, List.set_cons_zero, List.set_cons_succ]
      refine rg_take (i := 5) (some 20) (v := ?_) rfl rfl (by kernel_rfl) (by rfl) hQ7 hHeld ?_ ?_
      rotate_left
      · intro w7 hSw; (try dsimp only at hSw); go_simp; all_goals with_reducible rfl
      try simp only [Act.put, List.setIfInBounds_toArray, List.set_cons_zero, List.set_cons_succ]
      refine rg_take (i := 6) (some 21) (v := ?_) rfl rfl (by kernel_rfl) (by rfl) hQ7 hHeld ?_ ?_
      rotate_left
      · intro w7 hSw; (try dsimp only at hSw); go_simp; all_goals with_reducible rfl
      try simp only [Act.put, List.setIfInBounds_toArray, List.set_cons_zero, List.set_cons_succ]
      refine rg_take (i := 7) (some 22) (v := ?_) rfl rfl (by kernel_rfl) (by rfl) hQ7 hHeld ?_ ?_
      rotate_left
      · intro w7 hSw; (try dsimp only at hSw); go_simp; all_goals with_reducible rfl
      try simp only [Act.put, List.setIfInBounds_toArray, List.set_cons_zero, List.set_cons_succ]
      refine rg_take (i := 8) (some 23) (v := ?_) rfl rfl (by kernel_rfl) (by rfl) hQ7 hHeld ?_ ?_
      rotate_left
      · intro w7 hSw; (try dsimp only at hSw); go_simp; all_goals with_reducible rfl
      try simp only [Act.put, List.setIfInBounds_toArray, List.set_cons_zero, List.set_cons_succ]
      refine rg_take (i := 9) (some 24) (v := ?_) rfl rfl (by kernel_rfl) (by rfl) hQ7 hHeld ?_ ?_
      rotate_left
      · intro w7 hSw; (try dsimp only at hSw); go_simp; all_goals with_reducible rfl
      try simp only [Act.put, List.setIfInBounds_toArray, List.set_cons_zero, List.set_cons_succ]
      refine rg_take (i := 10) (some 25) (v := ?_) rfl rfl (by kernel_rfl) (by rfl) hQ7 hHeld ?_ ?_
      rotate_left
      · intro w7 hSw; (try dsimp only at hSw); go_simp; all_goals with_reducible rfl
      try simp only [Act.put, List.setIfInBounds_toArray, List.set_cons_zero, List.set_cons_succ]
      refine rg_take (i := 11) (some 26) (v := ?_) rfl rfl (by kernel_rfl) (by rfl) hQ7 hHeld ?_ ?_
      rotate_left
      · intro w7 hSw; (try dsimp only at hSw); go_simp; all_goals with_reducible rfl
      try simp only [Act.put, List.setIfInBounds_toArray, List.set_cons_zero, List.set_cons_succ]
      refine rg_take (i := 12) (some 27) (v := ?_) rfl rfl (by kernel_rfl) (by rfl) hQ7 hHeld ?_ ?_
      rotate_left
      · intro w7 hSw; (try dsimp only at hSw); go_simp; all_goals with_reducible rfl
      try simp only [Act.put, List.setIfInBounds_toArray, List.set_cons_zero, List.set_cons_succ]
      refine rg_two (i := 13) (j := 14) (by kernel_rfl) (rg_step rfl (by rfl) (fun K hK => ?_)) (rg_step rfl (by rfl) (fun K hK => ?_))
      · go_simp
        refine hK.out _ _ ?_ (fun hHeld2 => ?_)
        · exact SS.out _ (ext_alloc hHeld.1 _)
        clear hHeld
        have hHeld := hHeld2
        clear hHeld2
        clear hK K
        try simp only [Act.put, List.setIfInBounds_toArray, List.set_cons_zero, List.set_cons_succ]
        refine rg_one (i := 14) (by kernel_rfl) (rg_step rfl (by rfl) (fun K hK => ?_))
        go_simp
        refine hK.out _ _ ?_ (fun hHeld2 => ?_)
        · exact SS.out _ (ext_alloc hHeld.1 _)
        clear hHeld
        have hHeld := hHeld2
        clear hHeld2
        clear hK K
        try simp only [Act.put, List.setIfInBounds_toArray, List.set_cons_zero, List.set_cons_succ]
        refine rg_one (i := 15) (by kernel_rfl) (rg_step rfl (by rfl) (fun K hK => ?_))
        go_simp
        refine hK.out _ _ ?_ (fun hHeld2 => ?_)
        · exact SS.out _ (ext_drew (ext_alloc (ext_alloc (ext_refl _) _) _))
        clear hHeld
        have hHeld := hHeld2
        clear hHeld2
        clear hK K
        try simp only [Act.put, List.setIfInBounds_toArray, List.set_cons_zero, List.set_cons_succ]
        refine rg_one (i := 16) (by kernel_rfl) (rg_late rfl (by rfl) (by kernel_rfl) (fun K hK => ?_))
        go_simp
        refine hK.out _ _ ?_
        clear hK K
        try simp only [Act.put, List.setIfInBounds_toArray, List.set_cons_zero, List.set_cons_succ]
        refine rg_end (by kernel_rfl) (hN7 _ _ ?_) _
        clear hQ7 hN7 Q7
        have BX := hHeld.1
        clear SS
        clear BX kw0 kw1
        replace E := Lib.hid (ext_alloc E.out (.cells #[.int .i64 y.own, .int .i64 y.ot, .slice y.ag.A y.ag.l.length y.ag.c, .slice y.op.A y.op.l.length y.op.c] 24))
        replace PB := Lib.hid (PB.out.alloc (.cells #[.int .i64 y.own, .int .i64 y.ot, .slice y.ag.A y.ag.l.length y.ag.c, .slice y.op.A y.op.l.length y.op.c] 24))
        replace PP := Lib.hid (PP.out.alloc (.cells #[.int .i64 y.own, .int .i64 y.ot, .slice y.ag.A y.ag.l.length y.ag.c, .slice y.op.A y.op.l.length y.op.c] 24))
        have BB := Lib.hid (Blk.newH wr [.int .i64 y.own, .int .i64 y.ot, .slice y.ag.A y.ag.l.length y.ag.c, .slice y.op.A y.op.l.length y.op.c] 24 (wr.heap.size) (by first | rfl | simp))
        replace E := Lib.hid (ext_alloc E.out (.cells #[.int .i64 x.own, .int .i64 x.ot, .slice x.ag.A x.ag.l.length x.ag.c, .slice x.op.A x.op.l.length x.op.c] 24))
        replace PB := Lib.hid (PB.out.alloc (.cells #[.int .i64 x.own, .int .i64 x.ot, .slice x.ag.A x.ag.l.length x.ag.c, .slice x.op.A x.op.l.length x.op.c] 24))
        replace PP := Lib.hid (PP.out.alloc (.cells #[.int .i64 x.own, .int .i64 x.ot, .slice x.ag.A x.ag.l.length x.ag.c, .slice x.op.A x.op.l.length x.op.c] 24))
        replace BB := Lib.hid (BB.out.alloc (.cells #[.int .i64 x.own, .int .i64 x.ot, .slice x.ag.A x.ag.l.length x.ag.c, .slice x.op.A x.op.l.length x.op.c] 24))
        have CB := Lib.hid (Blk.newH (wr.alloc (.cells #[.int .i64 y.own, .int .i64 y.ot, .slice y.ag.A y.ag.l.length y.ag.c, .slice y.op.A y.op.l.length y.op.c] 24)) [.int .i64 x.own, .int .i64 x.ot, .slice x.ag.A x.ag.l.length x.ag.c, .slice x.op.A x.op.l.length x.op.c] 24 (wr.heap.size + 1) (by first | rfl | simp))
        have DD := ext_drew (ext_refl ((wr.alloc (.cells #[.int .i64 y.own, .int .i64 y.ot, .slice y.ag.A y.ag.l.length y.ag.c, .slice y.op.A y.op.l.length y.op.c] 24)).alloc (.cells #[.int .i64 x.own, .int .i64 x.ot, .slice x.ag.A x.ag.l.length x.ag.c, .slice x.op.A x.op.l.length x.op.c] 24)))
        replace E := Lib.hid (ext_trans E.out DD)
        replace PB := Lib.hid (PB.out.ext DD)
        replace PP := Lib.hid (PP.out.ext DD)
        replace BB := Lib.hid (BB.out.ext DD)
        replace CB := Lib.hid (CB.out.ext DD)
        clear DD
        obtain ⟨sCB, hsCB⟩ : ∃ s, s = wr.heap.size + 1 := ⟨_, rfl⟩
        rw [← hsCB] at CB ⊢
        clear hsCB
        obtain ⟨sBB, hsBB⟩ : ∃ s, s = wr.heap.size := ⟨_, rfl⟩
        rw [← hsBB] at BB ⊢
        clear hsBB
        obtain ⟨z0, hNz0⟩ : ∃ W0, W0 = ((wr.alloc (.cells #[.int .i64 y.own, .int .i64 y.ot, .slice y.ag.A y.ag.l.length y.ag.c, .slice y.op.A y.op.l.length y.op.c] 24)).alloc (.cells #[.int .i64 x.own, .int .i64 x.ot, .slice x.ag.A x.ag.l.length x.ag.c, .slice x.op.A x.op.l.length x.op.c] 24)).drew := ⟨_, rfl⟩
        rw [← hNz0] at E PB PP BB CB ⊢
        clear hNz0
        have c0 := BB.out.c 0 _ rfl
        have c1 := BB.out.c 1 _ rfl
        have c2 := BB.out.c 2 _ rfl
        have c3 := BB.out.c 3 _ rfl
        go_wp2_with fail
        refine (check_at 0 (by unfold Bl.chk; rw [show y.bl.ok = true from H2.out.ok true]; rfl) PP.out.hy).mono ?_
        rintro e v1 ⟨rfl, B⟩
        clear c0 c1 c2 c3
        replace E := Lib.hid (ext_trans E.out B)
        replace PB := Lib.hid (PB.out.ext B)
        replace PP := Lib.hid (PP.out.ext B)
        replace BB := Lib.hid (BB.out.ext B)
        replace CB := Lib.hid (CB.out.ext B)
        clear B
        have c0 := BB.out.c 2 _ rfl
        go_wp2_with fail
        clear c0
        go_loopw [34] (fun i wr => ∃ ja : Nat, ja ≤ y.ag.l.length ∧ i = .int .i64 ja ∧ Hid (Below w.heap.size w wr) ∧ Hid (Blk wr P (Pc x y A n c)) ∧ Hid (PR wr P x y A n c l) ∧ Hid (Blk wr sBB [.int .i64 y.own, .int .i64 y.ot, .slice y.ag.A y.ag.l.length y.ag.c, .slice y.op.A y.op.l.length y.op.c]) ∧ Hid (Blk wr sCB [.int .i64 x.own, .int .i64 x.ot, .slice x.ag.A x.ag.l.length x.ag.c, .slice x.op.A x.op.l.length x.op.c])) (fun i _ => y.ag.l.length - (intOf i).toNat)
        case atStart => exact ⟨0, Nat.zero_le _, rfl, E.out, PB.out, PP.out, BB.out, CB.out⟩
        clear E PB PP BB CB
        case round =>
          obtain ⟨ja, hja, rfl, E, PB, PP, BB, CB⟩ := hrel
          by_cases hlja : ja < y.ag.l.length
          rotate_left
          · have hge : ¬ (ja : Int) < y.ag.l.length := by omega
            go_wp2_with fail
            go_roundw
            case rel => exact ⟨2, by decide, rfl, E.out, PB.out, PP.out⟩
            case measure => simp [intOf]
          obtain ⟨a, aB, aO, aX, aA, aL, aD⟩ := (PP.out.hy.ag).at_ hlja
          have aM := Lib.hid (List.mem_of_getElem? aX)
          have ad0 := aD 0 _ rfl
          have ad1 := aD 1 _ rfl
          have ad2 := aD 2 _ rfl
          have ad3 := aD 3 _ rfl
          have ad4 := aD 4 _ rfl
          simp only [Nat.add_zero] at ad0
          have hija : (ja : Int) < y.ag.l.length := by omega
          clear aD aX
          replace E := Lib.hid (ext_alloc E.out (.cells #[.int .i64 a.no, .int .i64 a.f, .int .i64 a.t, .int .i64 a.m, .int .i64 a.r] 26))
          replace PB := Lib.hid (PB.out.alloc (.cells #[.int .i64 a.no, .int .i64 a.f, .int .i64 a.t, .int .i64 a.m, .int .i64 a.r] 26))
          replace PP := Lib.hid (PP.out.alloc (.cells #[.int .i64 a.no, .int .i64 a.f, .int .i64 a.t, .int .i64 a.m, .int .i64 a.r] 26))
          replace BB := Lib.hid (BB.out.alloc (.cells #[.int .i64 a.no, .int .i64 a.f, .int .i64 a.t, .int .i64 a.m, .int .i64 a.r] 26))
          replace CB := Lib.hid (CB.out.alloc (.cells #[.int .i64 a.no, .int .i64 a.f, .int .i64 a.t, .int .i64 a.m, .int .i64 a.r] 26))
          have AX := Lib.hid (Blk.newH wr [.int .i64 a.no, .int .i64 a.f, .int .i64 a.t, .int .i64 a.m, .int .i64 a.r] 26 (wr.heap.size) (by first | rfl | simp))
          have c0 := CB.out.c 2 _ rfl
          go_wp2_with fail
          clear c0
          clear ad0 ad1 ad2 ad3 ad4 aL
          obtain ⟨sA1, hsA1⟩ : ∃ s, s = wr.heap.size := ⟨_, rfl⟩
          rw [← hsA1] at AX ⊢
          clear hsA1
          obtain ⟨zA, hNzA⟩ : ∃ W0, W0 = (wr.alloc (.cells #[.int .i64 a.no, .int .i64 a.f, .int .i64 a.t, .int .i64 a.m, .int .i64 a.r] 26)) := ⟨_, rfl⟩
          rw [← hNzA] at E PB PP BB CB AX ⊢
          clear hNzA
          go_loopw [41] (fun i wr => ∃ ju : Nat, ju ≤ x.ag.l.length ∧ i = .int .i64 ju ∧ Hid (Below w.heap.size w wr) ∧ Hid (Blk wr P (Pc x y A n c)) ∧ Hid (PR wr P x y A n c l) ∧ Hid (Blk wr sBB [.int .i64 y.own, .int .i64 y.ot, .slice y.ag.A y.ag.l.length y.ag.c, .slice y.op.A y.op.l.length y.op.c]) ∧ Hid (Blk wr sCB [.int .i64 x.own, .int .i64 x.ot, .slice x.ag.A x.ag.l.length x.ag.c, .slice x.op.A x.op.l.length x.op.c]) ∧ Hid (Blk wr sA1 [.int .i64 a.no, .int .i64 a.f, .int .i64 a.t, .int .i64 a.m, .int .i64 a.r])) (fun i _ => x.ag.l.length - (intOf i).toNat)
          case atStart => exact ⟨0, Nat.zero_le _, rfl, E.out, PB.out, PP.out, BB.out, CB.out, AX.out⟩
          clear E PB PP BB CB AX
          case round =>
            obtain ⟨ju, hju, rfl, E, PB, PP, BB, CB, AX⟩ := hrel
            by_cases hlju : ju < x.ag.l.length
            rotate_left
            rotate_left
            · obtain ⟨u, uB, uO, uX, uA, uL, uD⟩ := (PP.out.hx.ag).at_ hlju
              have uM := Lib.hid (List.mem_of_getElem? uX)
              have ud0 := uD 0 _ rfl
              have ud1 := uD 1 _ rfl
              have ud2 := uD 2 _ rfl
              have ud3 := uD 3 _ rfl
              have ud4 := uD 4 _ rfl
              simp only [Nat.add_zero] at ud0
              have hiju : (ju : Int) < x.ag.l.length := by omega
              clear uD uX
              have hsame := H2.out.same (i := true) (x := a) (y := u) (.inl aM.out) (.inl uM.out)
              by_cases hua : a = u
              · subst hua
                clear hsame
                have hneq := fun w => neq26_self a w
                replace E := Lib.hid (ext_alloc E.out (.cells #[.int .i64 a.no, .int .i64 a.f, .int .i64 a.t, .int .i64 a.m, .int .i64 a.r] 26))
                replace PB := Lib.hid (PB.out.alloc (.cells #[.int .i64 a.no, .int .i64 a.f, .int .i64 a.t, .int .i64 a.m, .int .i64 a.r] 26))
                replace PP := Lib.hid (PP.out.alloc (.cells #[.int .i64 a.no, .int .i64 a.f, .int .i64 a.t, .int .i64 a.m, .int .i64 a.r] 26))
                replace BB := Lib.hid (BB.out.alloc (.cells #[.int .i64 a.no, .int .i64 a.f, .int .i64 a.t, .int .i64 a.m, .int .i64 a.r] 26))
                replace CB := Lib.hid (CB.out.alloc (.cells #[.int .i64 a.no, .int .i64 a.f, .int .i64 a.t, .int .i64 a.m, .int .i64 a.r] 26))
                replace AX := Lib.hid (AX.out.alloc (.cells #[.int .i64 a.no, .int .i64 a.f, .int .i64 a.t, .int .i64 a.m, .int .i64 a.r] 26))
                have UX := Lib.hid (Blk.newH wr [.int .i64 a.no, .int .i64 a.f, .int .i64 a.t, .int .i64 a.m, .int .i64 a.r] 26 (wr.heap.size) (by first | rfl | simp))
                have c0 := AX.out.c 0 _ rfl
                have c1 := AX.out.c 1 _ rfl
                have c2 := AX.out.c 2 _ rfl
                have c3 := AX.out.c 3 _ rfl
                have c4 := AX.out.c 4 _ rfl
                go_wp2_with fail
                try rw [← uA]
                go_roundw
                case rel => exact ⟨ju + 1, by omega, by go_num, E.out, PB.out, PP.out, BB.out, CB.out, AX.out⟩
                case measure => simp [intOf]; omega
              · have f0 : (u.no == a.no) = false := by simp only [beq_eq_false_iff_ne, ne_eq]; exact fun e => hua (hsame e).symm
                clear hsame hua
                replace E := Lib.hid (ext_alloc E.out (.cells #[.int .i64 u.no, .int .i64 u.f, .int .i64 u.t, .int .i64 u.m, .int .i64 u.r] 26))
                replace PB := Lib.hid (PB.out.alloc (.cells #[.int .i64 u.no, .int .i64 u.f, .int .i64 u.t, .int .i64 u.m, .int .i64 u.r] 26))
                replace PP := Lib.hid (PP.out.alloc (.cells #[.int .i64 u.no, .int .i64 u.f, .int .i64 u.t, .int .i64 u.m, .int .i64 u.r] 26))
                replace BB := Lib.hid (BB.out.alloc (.cells #[.int .i64 u.no, .int .i64 u.f, .int .i64 u.t, .int .i64 u.m, .int .i64 u.r] 26))
                replace CB := Lib.hid (CB.out.alloc (.cells #[.int .i64 u.no, .int .i64 u.f, .int .i64 u.t, .int .i64 u.m, .int .i64 u.r] 26))
                replace AX := Lib.hid (AX.out.alloc (.cells #[.int .i64 u.no, .int .i64 u.f, .int .i64 u.t, .int .i64 u.m, .int .i64 u.r] 26))
                have UX := Lib.hid (Blk.newH wr [.int .i64 u.no, .int .i64 u.f, .int .i64 u.t, .int .i64 u.m, .int .i64 u.r] 26 (wr.heap.size) (by first | rfl | simp))
                have c0 := AX.out.c 0 _ rfl
                go_wp2_with fail
                try rw [← uA]
                go_roundw
                case rel => exact ⟨ju + 1, by omega, by go_num, E.out, PB.out, PP.out, BB.out, CB.out, AX.out⟩
                case measure => simp [intOf]; omega
            have hgeju : ¬ (ju : Int) < x.ag.l.length := by omega
            have c0 := CB.out.c 3 _ rfl
            go_wp2_with fail
            clear c0 hgeju
            go_loopw [59] (fun i wr => ∃ jv : Nat, jv ≤ x.op.l.length ∧ i = .int .i64 jv ∧ Hid (Below w.heap.size w wr) ∧ Hid (Blk wr P (Pc x y A n c)) ∧ Hid (PR wr P x y A n c l) ∧ Hid (Blk wr sBB [.int .i64 y.own, .int .i64 y.ot, .slice y.ag.A y.ag.l.length y.ag.c, .slice y.op.A y.op.l.length y.op.c]) ∧ Hid (Blk wr sCB [.int .i64 x.own, .int .i64 x.ot, .slice x.ag.A x.ag.l.length x.ag.c, .slice x.op.A x.op.l.length x.op.c]) ∧ Hid (Blk wr sA1 [.int .i64 a.no, .int .i64 a.f, .int .i64 a.t, .int .i64 a.m, .int .i64 a.r])) (fun i _ => x.op.l.length - (intOf i).toNat)
            case atStart => exact ⟨0, Nat.zero_le _, rfl, E.out, PB.out, PP.out, BB.out, CB.out, AX.out⟩
            clear E PB PP BB CB AX
            case round =>
              obtain ⟨jv, hjv, rfl, E, PB, PP, BB, CB, AX⟩ := hrel
              by_cases hljv : jv < x.op.l.length
              rotate_left
              rotate_left
              · obtain ⟨v, vB, vO, vX, vA, vL, vD⟩ := (PP.out.hx.op).at_ hljv
                have vM := Lib.hid (List.mem_of_getElem? vX)
                have vd0 := vD 0 _ rfl
                have vd1 := vD 1 _ rfl
                have vd2 := vD 2 _ rfl
                have vd3 := vD 3 _ rfl
                have vd4 := vD 4 _ rfl
                simp only [Nat.add_zero] at vd0
                have hijv : (jv : Int) < x.op.l.length := by omega
                clear vD vX
                have hsame := H2.out.same (i := true) (x := a) (y := v) (.inl aM.out) (.inr vM.out)
                by_cases hua : a = v
                · subst hua
                  clear hsame
                  have hneq := fun w => neq26_self a w
                  replace E := Lib.hid (ext_alloc E.out (.cells #[.int .i64 a.no, .int .i64 a.f, .int .i64 a.t, .int .i64 a.m, .int .i64 a.r] 26))
                  replace PB := Lib.hid (PB.out.alloc (.cells #[.int .i64 a.no, .int .i64 a.f, .int .i64 a.t, .int .i64 a.m, .int .i64 a.r] 26))
                  replace PP := Lib.hid (PP.out.alloc (.cells #[.int .i64 a.no, .int .i64 a.f, .int .i64 a.t, .int .i64 a.m, .int .i64 a.r] 26))
                  replace BB := Lib.hid (BB.out.alloc (.cells #[.int .i64 a.no, .int .i64 a.f, .int .i64 a.t, .int .i64 a.m, .int .i64 a.r] 26))
                  replace CB := Lib.hid (CB.out.alloc (.cells #[.int .i64 a.no, .int .i64 a.f, .int .i64 a.t, .int .i64 a.m, .int .i64 a.r] 26))
                  replace AX := Lib.hid (AX.out.alloc (.cells #[.int .i64 a.no, .int .i64 a.f, .int .i64 a.t, .int .i64 a.m, .int .i64 a.r] 26))
                  have UX := Lib.hid (Blk.newH wr [.int .i64 a.no, .int .i64 a.f, .int .i64 a.t, .int .i64 a.m, .int .i64 a.r] 26 (wr.heap.size) (by first | rfl | simp))
                  have c0 := AX.out.c 0 _ rfl
                  have c1 := AX.out.c 1 _ rfl
                  have c2 := AX.out.c 2 _ rfl
                  have c3 := AX.out.c 3 _ rfl
                  have c4 := AX.out.c 4 _ rfl
                  go_wp2_with fail
                  try rw [← vA]
                  go_roundw
                  case rel => exact ⟨jv + 1, by omega, by go_num, E.out, PB.out, PP.out, BB.out, CB.out, AX.out⟩
                  case measure => simp [intOf]; omega
                · have f0 : (v.no == a.no) = false := by simp only [beq_eq_false_iff_ne, ne_eq]; exact fun e => hua (hsame e).symm
                  clear hsame hua
                  replace E := Lib.hid (ext_alloc E.out (.cells #[.int .i64 v.no, .int .i64 v.f, .int .i64 v.t, .int .i64 v.m, .int .i64 v.r] 26))
                  replace PB := Lib.hid (PB.out.alloc (.cells #[.int .i64 v.no, .int .i64 v.f, .int .i64 v.t, .int .i64 v.m, .int .i64 v.r] 26))
                  replace PP := Lib.hid (PP.out.alloc (.cells #[.int .i64 v.no, .int .i64 v.f, .int .i64 v.t, .int .i64 v.m, .int .i64 v.r] 26))
                  replace BB := Lib.hid (BB.out.alloc (.cells #[.int .i64 v.no, .int .i64 v.f, .int .i64 v.t, .int .i64 v.m, .int .i64 v.r] 26))
                  replace CB := Lib.hid (CB.out.alloc (.cells #[.int .i64 v.no, .int .i64 v.f, .int .i64 v.t, .int .i64 v.m, .int .i64 v.r] 26))
                  replace AX := Lib.hid (AX.out.alloc (.cells #[.int .i64 v.no, .int .i64 v.f, .int .i64 v.t, .int .i64 v.m, .int .i64 v.r] 26))
                  have UX := Lib.hid (Blk.newH wr [.int .i64 v.no, .int .i64 v.f, .int .i64 v.t, .int .i64 v.m, .int .i64 v.r] 26 (wr.heap.size) (by first | rfl | simp))
                  have c0 := AX.out.c 0 _ rfl
                  go_wp2_with fail
                  try rw [← vA]
                  go_roundw
                  case rel => exact ⟨jv + 1, by omega, by go_num, E.out, PB.out, PP.out, BB.out, CB.out, AX.out⟩
                  case measure => simp [intOf]; omega
              have hgejv : ¬ (jv : Int) < x.op.l.length := by omega
              obtain ⟨ob, hob⟩ : ∃ v, offd a.no y.own y.ot = v := ⟨_, rfl⟩
              have HOB := Lib.hid hob
              clear hob
              have c0 := AX.out.c 0 _ rfl
              have c1 := BB.out.c 0 _ rfl
              have c2 := BB.out.c 1 _ rfl
              go_wp2_with fail
              refine (offd_at ob HOB.out).mono ?_
              rintro e _ ⟨rfl, rfl⟩
              clear c0 c1 c2
              cases ob
              · go_wp2_with fail
                try rw [← aA]
                go_roundw
                case rel => exact ⟨ja + 1, by omega, by go_num, E.out, PB.out, PP.out, BB.out, CB.out⟩
                case measure => simp [intOf]; omega
              have HH := Lib.hid (has_mem6 (H2.out.agr true a aM.out HOB.out))
              have c0 := CB.out.c 2 _ rfl
              have c1 := AX.out.c 0 _ rfl
              have c2 := AX.out.c 1 _ rfl
              have c3 := AX.out.c 2 _ rfl
              have c4 := AX.out.c 3 _ rfl
              have c5 := AX.out.c 4 _ rfl
              go_wp2_with fail
              refine (has_at (x := a) true HH.out rfl PP.out.hx.ag (maxLen_of PP.out.hx.agl PP.out.hx.agc)).mono ?_
              rintro e q1 ⟨rfl, B⟩
              clear c0 c1 c2 c3 c4 c5
              replace E := Lib.hid (ext_trans E.out B)
              replace PB := Lib.hid (PB.out.ext B)
              replace PP := Lib.hid (PP.out.ext B)
              replace BB := Lib.hid (BB.out.ext B)
              replace CB := Lib.hid (CB.out.ext B)
              replace AX := Lib.hid (AX.out.ext B)
              clear B
              go_wp2_with fail
              try rw [← aA]
              go_roundw
              case rel => exact ⟨ja + 1, by omega, by go_num, E.out, PB.out, PP.out, BB.out, CB.out⟩
              case measure => simp [intOf]; omega
      · go_simp
        refine hK.out _ _ ?_ (fun hHeld2 => ?_)
        · exact SS.out _ (ext_alloc hHeld.1 _)
        clear hHeld
        have hHeld := hHeld2
        clear hHeld2
        clear hK K
        try simp only [Act.put, List.setIfInBounds_toArray, List.set_cons_zero, List.set_cons_succ]
        refine rg_one (i := 13) (by kernel_rfl) (rg_step rfl (by rfl) (fun K hK => ?_))
        go_simp
        refine hK.out _ _ ?_ (fun hHeld2 => ?_)
        · exact SS.out _ (ext_alloc hHeld.1 _)
        clear hHeld
        have hHeld := hHeld2
        clear hHeld2
        clear hK K
        try simp only [Act.put, List.setIfInBounds_toArray, List.set_cons_zero, List.set_cons_succ]
        refine rg_one (i := 15) (by kernel_rfl) (rg_step rfl (by rfl) (fun K hK => ?_))
        go_simp
        refine hK.out _ _ ?_ (fun hHeld2 => ?_)
        · exact SS.out _ (ext_drew (ext_alloc (ext_alloc (ext_refl _) _) _))
        clear hHeld
        have hHeld := hHeld2
        clear hHeld2
        clear hK K
        try simp only [Act.put, List.setIfInBounds_toArray, List.set_cons_zero, List.set_cons_succ]
        refine rg_one (i := 16) (by kernel_rfl) (rg_late rfl (by rfl) (by kernel_rfl) (fun K hK => ?_))
        go_simp
        refine hK.out _ _ ?_
        clear hK K
        try simp only [Act.put, List.setIfInBounds_toArray, List.set_cons_zero, List.set_cons_succ]
        refine rg_end (by kernel_rfl) (hN7 _ _ ?_) _
        clear hQ7 hN7 Q7
        have BX := hHeld.1
        clear SS
        clear BX kw0 kw1
        replace E := Lib.hid (ext_alloc E.out (.cells #[.int .i64 x.own, .int .i64 x.ot, .slice x.ag.A x.ag.l.length x.ag.c, .slice x.op.A x.op.l.length x.op.c] 24))
        replace PB := Lib.hid (PB.out.alloc (.cells #[.int .i64 x.own, .int .i64 x.ot, .slice x.ag.A x.ag.l.length x.ag.c, .slice x.op.A x.op.l.length x.op.c] 24))
        replace PP := Lib.hid (PP.out.alloc (.cells #[.int .i64 x.own, .int .i64 x.ot, .slice x.ag.A x.ag.l.length x.ag.c, .slice x.op.A x.op.l.length x.op.c] 24))
        have CB := Lib.hid (Blk.newH wr [.int .i64 x.own, .int .i64 x.ot, .slice x.ag.A x.ag.l.length x.ag.c, .slice x.op.A x.op.l.length x.op.c] 24 (wr.heap.size) (by first | rfl | simp))
        replace E := Lib.hid (ext_alloc E.out (.cells #[.int .i64 y.own, .int .i64 y.ot, .slice y.ag.A y.ag.l.length y.ag.c, .slice y.op.A y.op.l.length y.op.c] 24))
        replace PB := Lib.hid (PB.out.alloc (.cells #[.int .i64 y.own, .int .i64 y.ot, .slice y.ag.A y.ag.l.length y.ag.c, .slice y.op.A y.op.l.length y.op.c] 24))
        replace PP := Lib.hid (PP.out.alloc (.cells #[.int .i64 y.own, .int .i64 y.ot, .slice y.ag.A y.ag.l.length y.ag.c, .slice y.op.A y.op.l.length y.op.c] 24))
        replace CB := Lib.hid (CB.out.alloc (.cells #[.int .i64 y.own, .int .i64 y.ot, .slice y.ag.A y.ag.l.length y.ag.c, .slice y.op.A y.op.l.length y.op.c] 24))
        have BB := Lib.hid (Blk.newH (wr.alloc (.cells #[.int .i64 x.own, .int .i64 x.ot, .slice x.ag.A x.ag.l.length x.ag.c, .slice x.op.A x.op.l.length x.op.c] 24)) [.int .i64 y.own, .int .i64 y.ot, .slice y.ag.A y.ag.l.length y.ag.c, .slice y.op.A y.op.l.length y.op.c] 24 (wr.heap.size + 1) (by first | rfl | simp))
        have DD := ext_drew (ext_refl ((wr.alloc (.cells #[.int .i64 x.own, .int .i64 x.ot, .slice x.ag.A x.ag.l.length x.ag.c, .slice x.op.A x.op.l.length x.op.c] 24)).alloc (.cells #[.int .i64 y.own, .int .i64 y.ot, .slice y.ag.A y.ag.l.length y.ag.c, .slice y.op.A y.op.l.length y.op.c] 24)))
        replace E := Lib.hid (ext_trans E.out DD)
        replace PB := Lib.hid (PB.out.ext DD)
        replace PP := Lib.hid (PP.out.ext DD)
        replace CB := Lib.hid (CB.out.ext DD)
        replace BB := Lib.hid (BB.out.ext DD)
        clear DD
        obtain ⟨sBB, hsBB⟩ : ∃ s, s = wr.heap.size + 1 := ⟨_, rfl⟩
        rw [← hsBB] at BB ⊢
        clear hsBB
        obtain ⟨sCB, hsCB⟩ : ∃ s, s = wr.heap.size := ⟨_, rfl⟩
        rw [← hsCB] at CB ⊢
        clear hsCB
        obtain ⟨z0, hNz0⟩ : ∃ W0, W0 = ((wr.alloc (.cells #[.int .i64 x.own, .int .i64 x.ot, .slice x.ag.A x.ag.l.length x.ag.c, .slice x.op.A x.op.l.length x.op.c] 24)).alloc (.cells #[.int .i64 y.own, .int .i64 y.ot, .slice y.ag.A y.ag.l.length y.ag.c, .slice y.op.A y.op.l.length y.op.c] 24)).drew := ⟨_, rfl⟩
        rw [← hNz0] at E PB PP CB BB ⊢
        clear hNz0
        have c0 := BB.out.c 0 _ rfl
        have c1 := BB.out.c 1 _ rfl
        have c2 := BB.out.c 2 _ rfl
        have c3 := BB.out.c 3 _ rfl
        go_wp2_with fail
        refine (check_at 0 (by unfold Bl.chk; rw [show y.bl.ok = true from H2.out.ok true]; rfl) PP.out.hy).mono ?_
        rintro e v1 ⟨rfl, B⟩
        clear c0 c1 c2 c3
        replace E := Lib.hid (ext_trans E.out B)
        replace PB := Lib.hid (PB.out.ext B)
        replace PP := Lib.hid (PP.out.ext B)
        replace CB := Lib.hid (CB.out.ext B)
        replace BB := Lib.hid (BB.out.ext B)
        clear B
        have c0 := BB.out.c 2 _ rfl
        go_wp2_with fail
        clear c0
        go_loopw [34] (fun i wr => ∃ ja : Nat, ja ≤ y.ag.l.length ∧ i = .int .i64 ja ∧ Hid (Below w.heap.size w wr) ∧ Hid (Blk wr P (Pc x y A n c)) ∧ Hid (PR wr P x y A n c l) ∧ Hid (Blk wr sCB [.int .i64 x.own, .int .i64 x.ot, .slice x.ag.A x.ag.l.length x.ag.c, .slice x.op.A x.op.l.length x.op.c]) ∧ Hid (Blk wr sBB [.int .i64 y.own, .int .i64 y.ot, .slice y.ag.A y.ag.l.length y.ag.c, .slice y.op.A y.op.l.length y.op.c])) (fun i _ => y.ag.l.length - (intOf i).toNat)
        case atStart => exact ⟨0, Nat.zero_le _, rfl, E.out, PB.out, PP.out, CB.out, BB.out⟩
        clear E PB PP CB BB
        case round =>
          obtain ⟨ja, hja, rfl, E, PB, PP, CB, BB⟩ := hrel
          by_cases hlja : ja < y.ag.l.length
          rotate_left
          · have hge : ¬ (ja : Int) < y.ag.l.length := by omega
            go_wp2_with fail
            go_roundw
            case rel => exact ⟨2, by decide, rfl, E.out, PB.out, PP.out⟩
            case measure => simp [intOf]
          obtain ⟨a, aB, aO, aX, aA, aL, aD⟩ := (PP.out.hy.ag).at_ hlja
          have aM := Lib.hid (List.mem_of_getElem? aX)
          have ad0 := aD 0 _ rfl
          have ad1 := aD 1 _ rfl
          have ad2 := aD 2 _ rfl
          have ad3 := aD 3 _ rfl
          have ad4 := aD 4 _ rfl
          simp only [Nat.add_zero] at ad0
          have hija : (ja : Int) < y.ag.l.length := by omega
          clear aD aX
          replace E := Lib.hid (ext_alloc E.out (.cells #[.int .i64 a.no, .int .i64 a.f, .int .i64 a.t, .int .i64 a.m, .int .i64 a.r] 26))
          replace PB := Lib.hid (PB.out.alloc (.cells #[.int .i64 a.no, .int .i64 a.f, .int .i64 a.t, .int .i64 a.m, .int .i64 a.r] 26))
          replace PP := Lib.hid (PP.out.alloc (.cells #[.int .i64 a.no, .int .i64 a.f, .int .i64 a.t, .int .i64 a.m, .int .i64 a.r] 26))
          replace CB := Lib.hid (CB.out.alloc (.cells #[.int .i64 a.no, .int .i64 a.f, .int .i64 a.t, .int .i64 a.m, .int .i64 a.r] 26))
          replace BB := Lib.hid (BB.out.alloc (.cells #[.int .i64 a.no, .int .i64 a.f, .int .i64 a.t, .int .i64 a.m, .int .i64 a.r] 26))
          have AX := Lib.hid (Blk.newH wr [.int .i64 a.no, .int .i64 a.f, .int .i64 a.t, .int .i64 a.m, .int .i64 a.r] 26 (wr.heap.size) (by first | rfl | simp))
          have c0 := CB.out.c 2 _ rfl
          go_wp2_with fail
          clear c0
          clear ad0 ad1 ad2 ad3 ad4 aL
          obtain ⟨sA1, hsA1⟩ : ∃ s, s = wr.heap.size := ⟨_, rfl⟩
          rw [← hsA1] at AX ⊢
          clear hsA1
          obtain ⟨zA, hNzA⟩ : ∃ W0, W0 = (wr.alloc (.cells #[.int .i64 a.no, .int .i64 a.f, .int .i64 a.t, .int .i64 a.m, .int .i64 a.r] 26)) := ⟨_, rfl⟩
          rw [← hNzA] at E PB PP CB BB AX ⊢
          clear hNzA
          go_loopw [41] (fun i wr => ∃ ju : Nat, ju ≤ x.ag.l.length ∧ i = .int .i64 ju ∧ Hid (Below w.heap.size w wr) ∧ Hid (Blk wr P (Pc x y A n c)) ∧ Hid (PR wr P x y A n c l) ∧ Hid (Blk wr sCB [.int .i64 x.own, .int .i64 x.ot, .slice x.ag.A x.ag.l.length x.ag.c, .slice x.op.A x.op.l.length x.op.c]) ∧ Hid (Blk wr sBB [.int .i64 y.own, .int .i64 y.ot, .slice y.ag.A y.ag.l.length y.ag.c, .slice y.op.A y.op.l.length y.op.c]) ∧ Hid (Blk wr sA1 [.int .i64 a.no, .int .i64 a.f, .int .i64 a.t, .int .i64 a.m, .int .i64 a.r])) (fun i _ => x.ag.l.length - (intOf i).toNat)
          case atStart => exact ⟨0, Nat.zero_le _, rfl, E.out, PB.out, PP.out, CB.out, BB.out, AX.out⟩
          clear E PB PP CB BB AX
          case round =>
            obtain ⟨ju, hju, rfl, E, PB, PP, CB, BB, AX⟩ := hrel
            by_cases hlju : ju < x.ag.l.length
            rotate_left
            rotate_left
            · obtain ⟨u, uB, uO, uX, uA, uL, uD⟩ := (PP.out.hx.ag).at_ hlju
              have uM := Lib.hid (List.mem_of_getElem? uX)
              have ud0 := uD 0 _ rfl
              have ud1 := uD 1 _ rfl
              have ud2 := uD 2 _ rfl
              have ud3 := uD 3 _ rfl
              have ud4 := uD 4 _ rfl
              simp only [Nat.add_zero] at ud0
              have hiju : (ju : Int) < x.ag.l.length := by omega
              clear uD uX
              have hsame := H2.out.same (i := true) (x := a) (y := u) (.inl aM.out) (.inl uM.out)
              by_cases hua : a = u
              · subst hua
                clear hsame
                have hneq := fun w => neq26_self a w
                replace E := Lib.hid (ext_alloc E.out (.cells #[.int .i64 a.no, .int .i64 a.f, .int .i64 a.t, .int .i64 a.m, .int .i64 a.r] 26))
                replace PB := Lib.hid (PB.out.alloc (.cells #[.int .i64 a.no, .int .i64 a.f, .int .i64 a.t, .int .i64 a.m, .int .i64 a.r] 26))
                replace PP := Lib.hid (PP.out.alloc (.cells #[.int .i64 a.no, .int .i64 a.f, .int .i64 a.t, .int .i64 a.m, .int .i64 a.r] 26))
                replace CB := Lib.hid (CB.out.alloc (.cells #[.int .i64 a.no, .int .i64 a.f, .int .i64 a.t, .int .i64 a.m, .int .i64 a.r] 26))
                replace BB := Lib.hid (BB.out.alloc (.cells #[.int .i64 a.no, .int .i64 a.f, .int .i64 a.t, .int .i64 a.m, .int .i64 a.r] 26))
                replace AX := Lib.hid (AX.out.alloc (.cells #[.int .i64 a.no, .int .i64 a.f, .int .i64 a.t, .int .i64 a.m, .int .i64 a.r] 26))
                have UX := Lib.hid (Blk.newH wr [.int .i64 a.no, .int .i64 a.f, .int .i64 a.t, .int .i64 a.m, .int .i64 a.r] 26 (wr.heap.size) (by first | rfl | simp))
                have c0 := AX.out.c 0 _ rfl
                have c1 := AX.out.c 1 _ rfl
                have c2 := AX.out.c 2 _ rfl
                have c3 := AX.out.c 3 _ rfl
                have c4 := AX.out.c 4 _ rfl
                go_wp2_with fail
                try rw [← uA]
                go_roundw
                case rel => exact ⟨ju + 1, by omega, by go_num, E.out, PB.out, PP.out, CB.out, BB.out, AX.out⟩
                case measure => simp [intOf]; omega
              · have f0 : (u.no == a.no) = false := by simp only [beq_eq_false_iff_ne, ne_eq]; exact fun e => hua (hsame e).symm
                clear hsame hua
                replace E := Lib.hid (ext_alloc E.out (.cells #[.int .i64 u.no, .int .i64 u.f, .int .i64 u.t, .int .i64 u.m, .int .i64 u.r] 26))
                replace PB := Lib.hid (PB.out.alloc (.cells #[.int .i64 u.no, .int .i64 u.f, .int .i64 u.t, .int .i64 u.m, .int .i64 u.r] 26))
                replace PP := Lib.hid (PP.out.alloc (.cells #[.int .i64 u.no, .int .i64 u.f, .int .i64 u.t, .int .i64 u.m, .int .i64 u.r] 26))
                replace CB := Lib.hid (CB.out.alloc (.cells #[.int .i64 u.no, .int .i64 u.f, .int .i64 u.t, .int .i64 u.m, .int .i64 u.r] 26))
                replace BB := Lib.hid (BB.out.alloc (.cells #[.int .i64 u.no, .int .i64 u.f, .int .i64 u.t, .int .i64 u.m, .int .i64 u.r] 26))
                replace AX := Lib.hid (AX.out.alloc (.cells #[.int .i64 u.no, .int .i64 u.f, .int .i64 u.t, .int .i64 u.m, .int .i64 u.r] 26))
                have UX := Lib.hid (Blk.newH wr [.int .i64 u.no, .int .i64 u.f, .int .i64 u.t, .int .i64 u.m, .int .i64 u.r] 26 (wr.heap.size) (by first | rfl | simp))
                have c0 := AX.out.c 0 _ rfl
                go_wp2_with fail
                try rw [← uA]
                go_roundw
                case rel => exact ⟨ju + 1, by omega, by go_num, E.out, PB.out, PP.out, CB.out, BB.out, AX.out⟩
                case measure => simp [intOf]; omega
            have hgeju : ¬ (ju : Int) < x.ag.l.length := by omega
            have c0 := CB.out.c 3 _ rfl
            go_wp2_with fail
            clear c0 hgeju
            go_loopw [59] (fun i wr => ∃ jv : Nat, jv ≤ x.op.l.length ∧ i = .int .i64 jv ∧ Hid (Below w.heap.size w wr) ∧ Hid (Blk wr P (Pc x y A n c)) ∧ Hid (PR wr P x y A n c l) ∧ Hid (Blk wr sCB [.int .i64 x.own, .int .i64 x.ot, .slice x.ag.A x.ag.l.length x.ag.c, .slice x.op.A x.op.l.length x.op.c]) ∧ Hid (Blk wr sBB [.int .i64 y.own, .int .i64 y.ot, .slice y.ag.A y.ag.l.length y.ag.c, .slice y.op.A y.op.l.length y.op.c]) ∧ Hid (Blk wr sA1 [.int .i64 a.no, .int .i64 a.f, .int .i64 a.t, .int .i64 a.m, .int .i64 a.r])) (fun i _ => x.op.l.length - (intOf i).toNat)
            case atStart => exact ⟨0, Nat.zero_le _, rfl, E.out, PB.out, PP.out, CB.out, BB.out, AX.out⟩
            clear E PB PP CB BB AX
            case round =>
              obtain ⟨jv, hjv, rfl, E, PB, PP, CB, BB, AX⟩ := hrel
              by_cases hljv : jv < x.op.l.length
              rotate_left
              rotate_left
              · obtain ⟨v, vB, vO, vX, vA, vL, vD⟩ := (PP.out.hx.op).at_ hljv
                have vM := Lib.hid (List.mem_of_getElem? vX)
                have vd0 := vD 0 _ rfl
                have vd1 := vD 1 _ rfl
                have vd2 := vD 2 _ rfl
                have vd3 := vD 3 _ rfl
                have vd4 := vD 4 _ rfl
                simp only [Nat.add_zero] at vd0
                have hijv : (jv : Int) < x.op.l.length := by omega
                clear vD vX
                have hsame := H2.out.same (i := true) (x := a) (y := v) (.inl aM.out) (.inr vM.out)
                by_cases hua : a = v
                · subst hua
                  clear hsame
                  have hneq := fun w => neq26_self a w
                  replace E := Lib.hid (ext_alloc E.out (.cells #[.int .i64 a.no, .int .i64 a.f, .int .i64 a.t, .int .i64 a.m, .int .i64 a.r] 26))
                  replace PB := Lib.hid (PB.out.alloc (.cells #[.int .i64 a.no, .int .i64 a.f, .int .i64 a.t, .int .i64 a.m, .int .i64 a.r] 26))
                  replace PP := Lib.hid (PP.out.alloc (.cells #[.int .i64 a.no, .int .i64 a.f, .int .i64 a.t, .int .i64 a.m, .int .i64 a.r] 26))
                  replace CB := Lib.hid (CB.out.alloc (.cells #[.int .i64 a.no, .int .i64 a.f, .int .i64 a.t, .int .i64 a.m, .int .i64 a.r] 26))
                  replace BB := Lib.hid (BB.out.alloc (.cells #[.int .i64 a.no, .int .i64 a.f, .int .i64 a.t, .int .i64 a.m, .int .i64 a.r] 26))
                  replace AX := Lib.hid (AX.out.alloc (.cells #[.int .i64 a.no, .int .i64 a.f, .int .i64 a.t, .int .i64 a.m, .int .i64 a.r] 26))
                  have UX := Lib.hid (Blk.newH wr [.int .i64 a.no, .int .i64 a.f, .int .i64 a.t, .int .i64 a.m, .int .i64 a.r] 26 (wr.heap.size) (by first | rfl | simp))
                  have c0 := AX.out.c 0 _ rfl
                  have c1 := AX.out.c 1 _ rfl
                  have c2 := AX.out.c 2 _ rfl
                  have c3 := AX.out.c 3 _ rfl
                  have c4 := AX.out.c 4 _ rfl
                  go_wp2_with fail
                  try rw [← vA]
                  go_roundw
                  case rel => exact ⟨jv + 1, by omega, by go_num, E.out, PB.out, PP.out, CB.out, BB.out, AX.out⟩
                  case measure => simp [intOf]; omega
                · have f0 : (v.no == a.no) = false := by simp only [beq_eq_false_iff_ne, ne_eq]; exact fun e => hua (hsame e).symm
                  clear hsame hua
                  replace E := Lib.hid (ext_alloc E.out (.cells #[.int .i64 v.no, .int .i64 v.f, .int .i64 v.t, .int .i64 v.m, .int .i64 v.r] 26))
                  replace PB := Lib.hid (PB.out.alloc (.cells #[.int .i64 v.no, .int .i64 v.f, .int .i64 v.t, .int .i64 v.m, .int .i64 v.r] 26))
                  replace PP := Lib.hid (PP.out.alloc (.cells #[.int .i64 v.no, .int .i64 v.f, .int .i64 v.t, .int .i64 v.m, .int .i64 v.r] 26))
                  replace CB := Lib.hid (CB.out.alloc (.cells #[.int .i64 v.no, .int .i64 v.f, .int .i64 v.t, .int .i64 v.m, .int .i64 v.r] 26))
                  replace BB := Lib.hid (BB.out.alloc (.cells #[.int .i64 v.no, .int .i64 v.f, .int .i64 v.t, .int .i64 v.m, .int .i64 v.r] 26))
                  replace AX := Lib.hid (AX.out.alloc (.cells #[.int .i64 v.no, .int .i64 v.f, .int .i64 v.t, .int .i64 v.m, .int .i64 v.r] 26))
                  have UX := Lib.hid (Blk.newH wr [.int .i64 v.no, .int .i64 v.f, .int .i64 v.t, .int .i64 v.m, .int .i64 v.r] 26 (wr.heap.size) (by first | rfl | simp))
                  have c0 := AX.out.c 0 _ rfl
                  go_wp2_with fail
                  try rw [← vA]
                  go_roundw
                  case rel => exact ⟨jv + 1, by omega, by go_num, E.out, PB.out, PP.out, CB.out, BB.out, AX.out⟩
                  case measure => simp [intOf]; omega
              have hgejv : ¬ (jv : Int) < x.op.l.length := by omega
              obtain ⟨ob, hob⟩ : ∃ v, offd a.no y.own y.ot = v := ⟨_, rfl⟩
              have HOB := Lib.hid hob
              clear hob
              have c0 := AX.out.c 0 _ rfl
              have c1 := BB.out.c 0 _ rfl
              have c2 := BB.out.c 1 _ rfl
              go_wp2_with fail
              refine (offd_at ob HOB.out).mono ?_
              rintro e _ ⟨rfl, rfl⟩
              clear c0 c1 c2
              cases ob
              · go_wp2_with fail
                try rw [← aA]
                go_roundw
                case rel => exact ⟨ja + 1, by omega, by go_num, E.out, PB.out, PP.out, CB.out, BB.out⟩
                case measure => simp [intOf]; omega
              have HH := Lib.hid (has_mem6 (H2.out.agr true a aM.out HOB.out))
              have c0 := CB.out.c 2 _ rfl
              have c1 := AX.out.c 0 _ rfl
              have c2 := AX.out.c 1 _ rfl
              have c3 := AX.out.c 2 _ rfl
              have c4 := AX.out.c 3 _ rfl
              have c5 := AX.out.c 4 _ rfl
              go_wp2_with fail
              refine (has_at (x := a) true HH.out rfl PP.out.hx.ag (maxLen_of PP.out.hx.agl PP.out.hx.agc)).mono ?_
              rintro e q1 ⟨rfl, B⟩
              clear c0 c1 c2 c3 c4 c5
              replace E := Lib.hid (ext_trans E.out B)
              replace PB := Lib.hid (PB.out.ext B)
              replace PP := Lib.hid (PP.out.ext B)
              replace CB := Lib.hid (CB.out.ext B)
              replace BB := Lib.hid (BB.out.ext B)
              replace AX := Lib.hid (AX.out.ext B)
              clear B
              go_wp2_with fail
              try rw [← aA]
              go_roundw
              case rel => exact ⟨ja + 1, by omega, by go_num, E.out, PB.out, PP.out, CB.out, BB.out⟩
              case measure => simp [intOf]; omega
    · go_wp2_with fail
      go_ret
      exact ⟨rfl, E.out⟩
end Go.Proofs.Ytmnbeikhjbjpiaa
