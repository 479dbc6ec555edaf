/- Contracts: lists of agreements. -/
import Derived.Test.YtmnbeikhjbjpiaaD1
set_option linter.unusedSimpArgs false
set_option linter.unusedVariables false
namespace Go.Proofs.Ytmnbeikhjbjpiaa
open Go.RowKit
set_option maxHeartbeats 600000 in
theorem listed_any (b : Bd) (A : Option Addr) (c : Nat) (l : List Ag) (w : World) (ha : Slc w Ag.cells 5 A l) (hn : l.length ≤ maxLen) : Calls Try.prog 50 #[b.v, .slice A l.length c] w (RetB w (okL b.own b.ot l)) := by
  unfold maxLen at hn
  obtain ⟨r, hr⟩ : ∃ r, okL b.own b.ot l = r := ⟨_, rfl⟩
  have HR := Lib.hid hr
  rw [hr]
  clear hr
  have E := Lib.hid (ext_refl w)
  replace E := Lib.hid (ext_alloc E.out (.cells #[.int .i64 b.own, .int .i64 b.ot, .slice b.ag.A b.ag.l.length b.ag.c, .slice b.op.A b.op.l.length b.op.c] 64))
  have BB := Lib.hid (Blk.newH w [.int .i64 b.own, .int .i64 b.ot, .slice b.ag.A b.ag.l.length b.ag.c, .slice b.op.A b.op.l.length b.op.c] 64 (w.heap.size) (by first | rfl | simp))
  go_enter Try.func50, Try.ntmps50
  go_wp2_with fail
  go_loopw [9] (fun i wr => ∃ k : Nat, k ≤ l.length ∧ i = .int .i64 k ∧ Hid (okL b.own b.ot (l.take k) = true) ∧ Hid (Blk wr w.heap.size [.int .i64 b.own, .int .i64 b.ot, .slice b.ag.A b.ag.l.length b.ag.c, .slice b.op.A b.op.l.length b.op.c]) ∧ Hid (Below w.heap.size w wr)) (fun i _ => l.length - (intOf i).toNat)
  case atStart => exact ⟨0, Nat.zero_le _, rfl, rfl, BB.out, E.out⟩
  clear E BB
  case round =>
    obtain ⟨k, hk, rfl, HT, BB, E⟩ := hrel
    by_cases hlt : k < l.length
    rotate_left
    · have hge : ¬ (k : Int) < l.length := by omega
      have HZ := Lib.hid (show r = true by have h := HT.out; rw [List.take_of_length_le (by omega), HR.out] at h; exact h)
      go_wp2_with fail
      go_ret
      exact ⟨ret_bool HZ.out.symm, E.out⟩
    obtain ⟨x, b1, o1, hx, rfl, hb1, hc⟩ := (ha.ext E.out).at_ hlt
    have c0 := hc 0 _ rfl
    have c1 := hc 1 _ rfl
    have c2 := hc 2 _ rfl
    have c3 := hc 3 _ rfl
    have c4 := hc 4 _ rfl
    simp only [Nat.add_zero] at c0
    clear hc
    have hlt' : (k : Int) < l.length := by omega
    obtain ⟨f, hf⟩ : ∃ f, fits b.own b.ot x = f := ⟨_, rfl⟩
    have HX := Lib.hid hx
    have HF := Lib.hid hf
    clear hx hf
    replace E := Lib.hid (ext_alloc E.out (.cells #[.int .i64 x.no, .int .i64 x.f, .int .i64 x.t, .int .i64 x.m, .int .i64 x.r] 26))
    replace BB := Lib.hid (BB.out.alloc (.cells #[.int .i64 x.no, .int .i64 x.f, .int .i64 x.t, .int .i64 x.m, .int .i64 x.r] 26))
    have X := Lib.hid (Blk.newH wr [.int .i64 x.no, .int .i64 x.f, .int .i64 x.t, .int .i64 x.m, .int .i64 x.r] 26 (wr.heap.size) (by first | rfl | simp))
    cases f
    · have HZ := Lib.hid (show r = false by rw [← HR.out]; exact okGo_no HX.out (by unfold step; split <;> simp [HF.out]))
      go_wp2_with fail
      have SS := Lib.hid (show ∀ w', Below (wr.alloc (.cells #[.int .i64 x.no, .int .i64 x.f, .int .i64 x.t, .int .i64 x.m, .int .i64 x.r] 26)).heap.size (wr.alloc (.cells #[.int .i64 x.no, .int .i64 x.f, .int .i64 x.t, .int .i64 x.m, .int .i64 x.r] 26)) w' → (fun w' => Below (wr.alloc (.cells #[.int .i64 x.no, .int .i64 x.f, .int .i64 x.t, .int .i64 x.m, .int .i64 x.r] 26)).heap.size (wr.alloc (.cells #[.int .i64 x.no, .int .i64 x.f, .int .i64 x.t, .int .i64 x.m, .int .i64 x.r] 26)) w' ∧ w'.cell? ⟨wr.heap.size, 0, none⟩ = some (.int .i64 x.no) ∧ w'.cell? ⟨wr.heap.size, 1, none⟩ = some (.int .i64 x.f) ∧ w'.cell? ⟨wr.heap.size, 2, none⟩ = some (.int .i64 x.t) ∧ w'.cell? ⟨wr.heap.size, 3, none⟩ = some (.int .i64 x.m) ∧ w'.cell? ⟨wr.heap.size, 4, none⟩ = some (.int .i64 x.r) ∧ w'.cell? ⟨w.heap.size, 0, none⟩ = some (.int .i64 b.own) ∧ w'.cell? ⟨w.heap.size, 1, none⟩ = some (.int .i64 b.ot) ∧ w'.cell? ⟨w.heap.size, 2, none⟩ = some (.slice b.ag.A b.ag.l.length b.ag.c) ∧ w'.cell? ⟨w.heap.size, 3, none⟩ = some (.slice b.op.A b.op.l.length b.op.c)) w' from fun w' h => ⟨h, (X.out.ext h).c 0 _ rfl, (X.out.ext h).c 1 _ rfl, (X.out.ext h).c 2 _ rfl, (X.out.ext h).c 3 _ rfl, (X.out.ext h).c 4 _ rfl, (BB.out.ext h).c 0 _ rfl, (BB.out.ext h).c 1 _ rfl, (BB.out.ext h).c 2 _ rfl, (BB.out.ext h).c 3 _ rfl⟩)
      refine rg_begin (S := (fun w' => Below (wr.alloc (.cells #[.int .i64 x.no, .int .i64 x.f, .int .i64 x.t, .int .i64 x.m, .int .i64 x.r] 26)).heap.size (wr.alloc (.cells #[.int .i64 x.no, .int .i64 x.f, .int .i64 x.t, .int .i64 x.m, .int .i64 x.r] 26)) w' ∧ w'.cell? ⟨wr.heap.size, 0, none⟩ = some (.int .i64 x.no) ∧ w'.cell? ⟨wr.heap.size, 1, none⟩ = some (.int .i64 x.f) ∧ w'.cell? ⟨wr.heap.size, 2, none⟩ = some (.int .i64 x.t) ∧ w'.cell? ⟨wr.heap.size, 3, none⟩ = some (.int .i64 x.m) ∧ w'.cell? ⟨wr.heap.size, 4, none⟩ = some (.int .i64 x.r) ∧ w'.cell? ⟨w.heap.size, 0, none⟩ = some (.int .i64 b.own) ∧ w'.cell? ⟨w.heap.size, 1, none⟩ = some (.int .i64 b.ot) ∧ w'.cell? ⟨w.heap.size, 2, none⟩ = some (.slice b.ag.A b.ag.l.length b.ag.c) ∧ w'.cell? ⟨w.heap.size, 3, none⟩ = some (.slice b.op.A b.op.l.length b.op.c))) 18 (by kernel_rfl) (by intro d; cases d <;> intro _ _ _ _ h <;> exact h) ?_ (fun Q7 hQ7 hN7 hHeld => ?_)
      · exact SS.out _ (ext_drew (ext_refl _))
      refine rg_take (i := 0) (some 14) (v := ?_) rfl rfl (by kernel_rfl) (by rfl) hQ7 hHeld ?_ ?_
      rotate_left
      · intro w7 hSw; (try dsimp only at hSw); go_simp; all_goals with_reducible rfl
      try simp only [Act.put, List.setIfInBounds_toArray, List.set_cons_zero, List.set_cons_succ]
      refine rg_take (i := 1) (some 15) (v := ?_) rfl rfl (by kernel_rfl) (by rfl) hQ7 hHeld ?_ ?_
      rotate_left
      · intro w7 hSw; (try dsimp only at hSw); go_simp; all_goals with_reducible rfl
      try simp only [Act.put, List.setIfInBounds_toArray, List.set_cons_zero, List.set_cons_succ]
      refine rg_one (i := 2) (by kernel_rfl) (rg_step rfl (by rfl) (fun K hK => ?_))
      go_simp
      refine (fits_at (b := b) (x := x) false HF.out).mono ?_
      rintro e w1 ⟨rfl, B1⟩
      go_wp2_with fail
      refine hK.out _ _ ?_ (fun hHeld2 => ?_)
      · exact SS.out _ (ext_trans hHeld.1 B1)
      clear hHeld
      have hHeld := hHeld2
      clear hHeld2
      clear hK K
      try simp only [Act.put, List.setIfInBounds_toArray, List.set_cons_zero, List.set_cons_succ]
      refine rg_take (i := 3) (some 17) (v := ?_) rfl rfl (by kernel_rfl) (by rfl) hQ7 hHeld ?_ ?_
      rotate_left
      · intro w7 hSw; (try dsimp only at hSw); go_simp; all_goals with_reducible rfl
      try simp only [Act.put, List.setIfInBounds_toArray, List.set_cons_zero, List.set_cons_succ]
      refine rg_take (i := 4) (some 18) (v := ?_) rfl rfl (by kernel_rfl) (by rfl) hQ7 hHeld ?_ ?_
      rotate_left
      · intro w7 hSw; (try dsimp only at hSw); go_simp; all_goals with_reducible rfl
      try simp only [Act.put, List.setIfInBounds_toArray, List.set_cons_zero, List.set_cons_succ]
      refine rg_skip (i := 5) (some 19) rfl rfl (by kernel_rfl) (by rfl) hQ7 hHeld ?_
      try simp only [Act.put, List.setIfInBounds_toArray, List.set_cons_zero, List.set_cons_succ]
      refine rg_skip (i := 6) (some 20) rfl rfl (by kernel_rfl) (by rfl) hQ7 hHeld ?_
      try simp only [Act.put, List.setIfInBounds_toArray, List.set_cons_zero, List.set_cons_succ]
      refine rg_skip (i := 7) (some 21) rfl rfl (by kernel_rfl) (by rfl) hQ7 hHeld ?_
      try simp only [Act.put, List.setIfInBounds_toArray, List.set_cons_zero, List.set_cons_succ]
      refine rg_skip (i := 8) (some 22) rfl rfl (by kernel_rfl) (by rfl) hQ7 hHeld ?_
      try simp only [Act.put, List.setIfInBounds_toArray, List.set_cons_zero, List.set_cons_succ]
      refine rg_skip (i := 9) (some 23) rfl rfl (by kernel_rfl) (by rfl) hQ7 hHeld ?_
      try simp only [Act.put, List.setIfInBounds_toArray, List.set_cons_zero, List.set_cons_succ]
      refine rg_skip (i := 10) (some 24) rfl rfl (by kernel_rfl) (by rfl) hQ7 hHeld ?_
      try simp only [Act.put, List.setIfInBounds_toArray, List.set_cons_zero, List.set_cons_succ]
      refine rg_skip (i := 11) (some 25) rfl rfl (by kernel_rfl) (by rfl) hQ7 hHeld ?_
      try simp only [Act.put, List.setIfInBounds_toArray, List.set_cons_zero, List.set_cons_succ]
      refine rg_skip (i := 12) (some 26) rfl rfl (by kernel_rfl) (by rfl) hQ7 hHeld ?_
      try simp only [Act.put, List.setIfInBounds_toArray, List.set_cons_zero, List.set_cons_succ]
      refine rg_skip (i := 13) (some 27) rfl rfl (by kernel_rfl) (by rfl) hQ7 hHeld ?_
      try simp only [Act.put, List.setIfInBounds_toArray, List.set_cons_zero, List.set_cons_succ]
      refine rg_skip (i := 14) (some 28) rfl rfl (by kernel_rfl) (by rfl) hQ7 hHeld ?_
      try simp only [Act.put, List.setIfInBounds_toArray, List.set_cons_zero, List.set_cons_succ]
      refine rg_skip (i := 15) (some 29) rfl rfl (by kernel_rfl) (by rfl) hQ7 hHeld ?_
      try simp only [Act.put, List.setIfInBounds_toArray, List.set_cons_zero, List.set_cons_succ]
      refine rg_skip (i := 16) (some 30) rfl rfl (by kernel_rfl) (by rfl) hQ7 hHeld ?_
      try simp only [Act.put, List.setIfInBounds_toArray, List.set_cons_zero, List.set_cons_succ]
      refine rg_take (i := 17) (some 31) (v := ?_) rfl rfl (by kernel_rfl) (by rfl) hQ7 hHeld ?_ ?_
      rotate_left
      · intro w7 hSw; (try dsimp only at hSw); go_simp; all_goals with_reducible rfl
      try simp only [Act.put, List.setIfInBounds_toArray, List.set_cons_zero, List.set_cons_succ]
      refine rg_end (by kernel_rfl) (hN7 _ _ ?_) _
      clear hQ7 hN7 Q7
      have BX := hHeld.1
      clear SS
      replace E := Lib.hid (ext_trans E.out BX)
      replace BB := Lib.hid (BB.out.ext BX)
      replace X := Lib.hid (X.out.ext BX)
      clear BX
      go_wp2_with fail
      go_ret
      exact ⟨ret_bool HZ.out.symm, E.out⟩
    by_cases h0 : k = 0
    · subst h0
      have HZ := Lib.hid (show okL b.own b.ot (l.take (0 + 1)) = true by rw [okGo_take HX.out, HT.out]; exact HF.out)
      have h00 : decide ((0 : Int) < ((0 : Nat) : Int)) = false := by decide
      try simp only [Int.ofNat_zero, Int.natCast_zero, Nat.zero_mul, Nat.add_zero, Nat.zero_add] at *
      go_wp2_with fail
      have SS := Lib.hid (show ∀ w', Below (wr.alloc (.cells #[.int .i64 x.no, .int .i64 x.f, .int .i64 x.t, .int .i64 x.m, .int .i64 x.r] 26)).heap.size (wr.alloc (.cells #[.int .i64 x.no, .int .i64 x.f, .int .i64 x.t, .int .i64 x.m, .int .i64 x.r] 26)) w' → (fun w' => Below (wr.alloc (.cells #[.int .i64 x.no, .int .i64 x.f, .int .i64 x.t, .int .i64 x.m, .int .i64 x.r] 26)).heap.size (wr.alloc (.cells #[.int .i64 x.no, .int .i64 x.f, .int .i64 x.t, .int .i64 x.m, .int .i64 x.r] 26)) w' ∧ w'.cell? ⟨wr.heap.size, 0, none⟩ = some (.int .i64 x.no) ∧ w'.cell? ⟨wr.heap.size, 1, none⟩ = some (.int .i64 x.f) ∧ w'.cell? ⟨wr.heap.size, 2, none⟩ = some (.int .i64 x.t) ∧ w'.cell? ⟨wr.heap.size, 3, none⟩ = some (.int .i64 x.m) ∧ w'.cell? ⟨wr.heap.size, 4, none⟩ = some (.int .i64 x.r) ∧ w'.cell? ⟨w.heap.size, 0, none⟩ = some (.int .i64 b.own) ∧ w'.cell? ⟨w.heap.size, 1, none⟩ = some (.int .i64 b.ot) ∧ w'.cell? ⟨w.heap.size, 2, none⟩ = some (.slice b.ag.A b.ag.l.length b.ag.c) ∧ w'.cell? ⟨w.heap.size, 3, none⟩ = some (.slice b.op.A b.op.l.length b.op.c)) w' from fun w' h => ⟨h, (X.out.ext h).c 0 _ rfl, (X.out.ext h).c 1 _ rfl, (X.out.ext h).c 2 _ rfl, (X.out.ext h).c 3 _ rfl, (X.out.ext h).c 4 _ rfl, (BB.out.ext h).c 0 _ rfl, (BB.out.ext h).c 1 _ rfl, (BB.out.ext h).c 2 _ rfl, (BB.out.ext h).c 3 _ rfl⟩)
      refine rg_begin (S := (fun w' => Below (wr.alloc (.cells #[.int .i64 x.no, .int .i64 x.f, .int .i64 x.t, .int .i64 x.m, .int .i64 x.r] 26)).heap.size (wr.alloc (.cells #[.int .i64 x.no, .int .i64 x.f, .int .i64 x.t, .int .i64 x.m, .int .i64 x.r] 26)) w' ∧ w'.cell? ⟨wr.heap.size, 0, none⟩ = some (.int .i64 x.no) ∧ w'.cell? ⟨wr.heap.size, 1, none⟩ = some (.int .i64 x.f) ∧ w'.cell? ⟨wr.heap.size, 2, none⟩ = some (.int .i64 x.t) ∧ w'.cell? ⟨wr.heap.size, 3, none⟩ = some (.int .i64 x.m) ∧ w'.cell? ⟨wr.heap.size, 4, none⟩ = some (.int .i64 x.r) ∧ w'.cell? ⟨w.heap.size, 0, none⟩ = some (.int .i64 b.own) ∧ w'.cell? ⟨w.heap.size, 1, none⟩ = some (.int .i64 b.ot) ∧ w'.cell? ⟨w.heap.size, 2, none⟩ = some (.slice b.ag.A b.ag.l.length b.ag.c) ∧ w'.cell? ⟨w.heap.size, 3, none⟩ = some (.slice b.op.A b.op.l.length b.op.c))) 18 (by kernel_rfl) (by intro d; cases d <;> intro _ _ _ _ h <;> exact h) ?_ (fun Q7 hQ7 hN7 hHeld => ?_)
      · exact SS.out _ (ext_drew (ext_refl _))
      refine rg_take (i := 0) (some 14) (v := ?_) rfl rfl (by kernel_rfl) (by rfl) hQ7 hHeld ?_ ?_
      rotate_left
      · intro w7 hSw; (try dsimp only at hSw); go_simp; all_goals with_reducible rfl
      try simp only [Act.put, List.setIfInBounds_toArray, List.set_cons_zero, List.set_cons_succ]
      refine rg_take (i := 1) (some 15) (v := ?_) rfl rfl (by kernel_rfl) (by rfl) hQ7 hHeld ?_ ?_
      rotate_left
      · intro w7 hSw; (try dsimp only at hSw); go_simp; all_goals with_reducible rfl
      try simp only [Act.put, List.setIfInBounds_toArray, List.set_cons_zero, List.set_cons_succ]
      refine rg_one (i := 2) (by kernel_rfl) (rg_step rfl (by rfl) (fun K hK => ?_))
      go_simp
      refine (fits_at (b := b) (x := x) true HF.out).mono ?_
      rintro e w1 ⟨rfl, B1⟩
      go_wp2_with fail
      refine hK.out _ _ ?_ (fun hHeld2 => ?_)
      · exact SS.out _ (ext_trans hHeld.1 B1)
      clear hHeld
      have hHeld := hHeld2
      clear hHeld2
      clear hK K
      try simp only [Act.put, List.setIfInBounds_toArray, List.set_cons_zero, List.set_cons_succ]
      refine rg_take (i := 3) (some 17) (v := ?_) rfl rfl (by kernel_rfl) (by rfl) hQ7 hHeld ?_ ?_
      rotate_left
      · intro w7 hSw; (try dsimp only at hSw); go_simp; all_goals with_reducible rfl
      try simp only [Act.put, List.setIfInBounds_toArray, List.set_cons_zero, List.set_cons_succ]
      refine rg_take (i := 4) (some 18) (v := ?_) rfl rfl (by kernel_rfl) (by rfl) hQ7 hHeld ?_ ?_
      rotate_left
      · intro w7 hSw; (try dsimp only at hSw); go_simp; all_goals with_reducible rfl
      try simp only [Act.put, List.setIfInBounds_toArray, List.set_cons_zero, List.set_cons_succ]
      refine rg_take (i := 5) (some 19) (v := ?_) rfl rfl (by kernel_rfl) (by rfl) hQ7 hHeld ?_ ?_
      rotate_left
      · intro w7 hSw; (try dsimp only at hSw); go_simp; all_goals with_reducible rfl
      try simp only [Act.put, List.setIfInBounds_toArray, List.set_cons_zero, List.set_cons_succ]
      refine rg_take (i := 6) (some 20) (v := ?_) rfl rfl (by kernel_rfl) (by rfl) hQ7 hHeld ?_ ?_
      rotate_left
      · intro w7 hSw; (try dsimp only at hSw); go_simp; all_goals with_reducible rfl
      try simp only [Act.put, List.setIfInBounds_toArray, List.set_cons_zero, List.set_cons_succ]
      refine rg_take (i := 7) (some 21) (v := ?_) rfl rfl (by kernel_rfl) (by rfl) hQ7 hHeld ?_ ?_
      rotate_left
      · intro w7 hSw; (try dsimp only at hSw); go_simp; all_goals with_reducible rfl
      try simp only [Act.put, List.setIfInBounds_toArray, List.set_cons_zero, List.set_cons_succ]
      refine rg_skip (i := 8) (some 22) rfl rfl (by kernel_rfl) (by rfl) hQ7 hHeld ?_
      try simp only [Act.put, List.setIfInBounds_toArray, List.set_cons_zero, List.set_cons_succ]
      refine rg_skip (i := 9) (some 23) rfl rfl (by kernel_rfl) (by rfl) hQ7 hHeld ?_
      try simp only [Act.put, List.setIfInBounds_toArray, List.set_cons_zero, List.set_cons_succ]
      refine rg_skip (i := 10) (some 24) rfl rfl (by kernel_rfl) (by rfl) hQ7 hHeld ?_
      try simp only [Act.put, List.setIfInBounds_toArray, List.set_cons_zero, List.set_cons_succ]
      refine rg_skip (i := 11) (some 25) rfl rfl (by kernel_rfl) (by rfl) hQ7 hHeld ?_
      try simp only [Act.put, List.setIfInBounds_toArray, List.set_cons_zero, List.set_cons_succ]
      refine rg_skip (i := 12) (some 26) rfl rfl (by kernel_rfl) (by rfl) hQ7 hHeld ?_
      try simp only [Act.put, List.setIfInBounds_toArray, List.set_cons_zero, List.set_cons_succ]
      refine rg_skip (i := 13) (some 27) rfl rfl (by kernel_rfl) (by rfl) hQ7 hHeld ?_
      try simp only [Act.put, List.setIfInBounds_toArray, List.set_cons_zero, List.set_cons_succ]
      refine rg_skip (i := 14) (some 28) rfl rfl (by kernel_rfl) (by rfl) hQ7 hHeld ?_
      try simp only [Act.put, List.setIfInBounds_toArray, List.set_cons_zero, List.set_cons_succ]
      refine rg_skip (i := 15) (some 29) rfl rfl (by kernel_rfl) (by rfl) hQ7 hHeld ?_
      try simp only [Act.put, List.setIfInBounds_toArray, List.set_cons_zero, List.set_cons_succ]
      refine rg_take (i := 16) (some 30) (v := ?_) rfl rfl (by kernel_rfl) (by rfl) hQ7 hHeld ?_ ?_
      rotate_left
      · intro w7 hSw; (try dsimp only at hSw); go_simp; all_goals with_reducible rfl
      try simp only [Act.put, List.setIfInBounds_toArray, List.set_cons_zero, List.set_cons_succ]
      refine rg_take (i := 17) (some 31) (v := ?_) rfl rfl (by kernel_rfl) (by rfl) hQ7 hHeld ?_ ?_
      rotate_left
      · intro w7 hSw; (try dsimp only at hSw); go_simp; all_goals with_reducible rfl
      try simp only [Act.put, List.setIfInBounds_toArray, List.set_cons_zero, List.set_cons_succ]
      refine rg_end (by kernel_rfl) (hN7 _ _ ?_) _
      clear hQ7 hN7 Q7
      have BX := hHeld.1
      clear SS
      replace E := Lib.hid (ext_trans E.out BX)
      replace BB := Lib.hid (BB.out.ext BX)
      replace X := Lib.hid (X.out.ext BX)
      clear BX
      go_wp2_with fail
      go_roundw
      case rel => exact ⟨0 + 1, by omega, by go_num, HZ.out, BB.out, E.out⟩
      case measure => simp [intOf]; omega
    obtain ⟨j, rfl⟩ : ∃ j, k = j + 1 := ⟨k - 1, by omega⟩
    obtain ⟨y, b2, o2, hy, e2, -, hd⟩ := (ha.ext E.out).at_ (k := j) (by omega)
    cases e2
    have d0 := hd 0 _ rfl
    have d1 := hd 1 _ rfl
    have d2 := hd 2 _ rfl
    have d3 := hd 3 _ rfl
    have d4 := hd 4 _ rfl
    simp only [Nat.add_zero] at d0
    clear hd
    have hjl : (j : Int) < l.length := by omega
    have hpr : prevL l (j + 1) = some y := by unfold prevL; rw [if_neg (by omega)]; exact hy
    have HST := Lib.hid (show okL b.own b.ot (l.take (j + 1 + 1)) = decide (y.no < x.no) by rw [okGo_take HX.out, HT.out, hpr]; simp only [step, HF.out, Bool.true_and])
    have HNO := Lib.hid (show decide (y.no < x.no) = false → r = false from fun h => by rw [← HR.out]; exact okGo_no HX.out (by rw [hpr]; simp only [step, h, Bool.and_false]))
    have HYN := Lib.hid (fits_no (fits_take HT.out hy (by omega)))
    have HXN := Lib.hid (fits_no HF.out)
    clear hpr hy h0
    have hw1 : IntKind.i64.wrap ((j : Int) + 1 - 1) = j := by rw [show (j : Int) + 1 - 1 = j by omega]; exact IntWalk.i64_in _ (by omega)
    have hw2 : IntKind.i64.wrap (j : Int) = j := IntWalk.i64_in _ (by omega)
    have hj1 : (0 : Int) < (j : Int) + 1 := by omega
    have hj2 : (0 : Int) ≤ (j : Int) + 1 := by omega
    by_cases hyx : y.no < x.no
    · have HZ := Lib.hid (show okL b.own b.ot (l.take (j + 1 + 1)) = true by rw [HST.out]; exact decide_eq_true hyx)
      have hz : decide (x.no ≤ y.no) = false := by simp; omega
      have HB1 : b1 < (wr.alloc (.cells #[.int .i64 x.no, .int .i64 x.f, .int .i64 x.t, .int .i64 x.m, .int .i64 x.r] 26)).heap.size := by simp; omega
      clear hyx
      go_wp2_with fail
      have SS := Lib.hid (show ∀ w', Below (wr.alloc (.cells #[.int .i64 x.no, .int .i64 x.f, .int .i64 x.t, .int .i64 x.m, .int .i64 x.r] 26)).heap.size (wr.alloc (.cells #[.int .i64 x.no, .int .i64 x.f, .int .i64 x.t, .int .i64 x.m, .int .i64 x.r] 26)) w' → (fun w' => Below (wr.alloc (.cells #[.int .i64 x.no, .int .i64 x.f, .int .i64 x.t, .int .i64 x.m, .int .i64 x.r] 26)).heap.size (wr.alloc (.cells #[.int .i64 x.no, .int .i64 x.f, .int .i64 x.t, .int .i64 x.m, .int .i64 x.r] 26)) w' ∧ w'.cell? ⟨wr.heap.size, 0, none⟩ = some (.int .i64 x.no) ∧ w'.cell? ⟨wr.heap.size, 1, none⟩ = some (.int .i64 x.f) ∧ w'.cell? ⟨wr.heap.size, 2, none⟩ = some (.int .i64 x.t) ∧ w'.cell? ⟨wr.heap.size, 3, none⟩ = some (.int .i64 x.m) ∧ w'.cell? ⟨wr.heap.size, 4, none⟩ = some (.int .i64 x.r) ∧ w'.cell? ⟨w.heap.size, 0, none⟩ = some (.int .i64 b.own) ∧ w'.cell? ⟨w.heap.size, 1, none⟩ = some (.int .i64 b.ot) ∧ w'.cell? ⟨w.heap.size, 2, none⟩ = some (.slice b.ag.A b.ag.l.length b.ag.c) ∧ w'.cell? ⟨w.heap.size, 3, none⟩ = some (.slice b.op.A b.op.l.length b.op.c) ∧ w'.cell? ⟨b1, o1 + j * 5, none⟩ = some (.int .i64 y.no) ∧ w'.cell? ⟨b1, o1 + j * 5 + 1, none⟩ = some (.int .i64 y.f) ∧ w'.cell? ⟨b1, o1 + j * 5 + 2, none⟩ = some (.int .i64 y.t) ∧ w'.cell? ⟨b1, o1 + j * 5 + 3, none⟩ = some (.int .i64 y.m) ∧ w'.cell? ⟨b1, o1 + j * 5 + 4, none⟩ = some (.int .i64 y.r)) w' from fun w' h => ⟨h, (X.out.ext h).c 0 _ rfl, (X.out.ext h).c 1 _ rfl, (X.out.ext h).c 2 _ rfl, (X.out.ext h).c 3 _ rfl, (X.out.ext h).c 4 _ rfl, (BB.out.ext h).c 0 _ rfl, (BB.out.ext h).c 1 _ rfl, (BB.out.ext h).c 2 _ rfl, (BB.out.ext h).c 3 _ rfl, (h.cell (p := ⟨b1, _, none⟩) HB1).trans d0, (h.cell (p := ⟨b1, _, none⟩) HB1).trans d1, (h.cell (p := ⟨b1, _, none⟩) HB1).trans d2, (h.cell (p := ⟨b1, _, none⟩) HB1).trans d3, (h.cell (p := ⟨b1, _, none⟩) HB1).trans d4⟩)
      refine rg_begin (S := (fun w' => Below (wr.alloc (.cells #[.int .i64 x.no, .int .i64 x.f, .int .i64 x.t, .int .i64 x.m, .int .i64 x.r] 26)).heap.size (wr.alloc (.cells #[.int .i64 x.no, .int .i64 x.f, .int .i64 x.t, .int .i64 x.m, .int .i64 x.r] 26)) w' ∧ w'.cell? ⟨wr.heap.size, 0, none⟩ = some (.int .i64 x.no) ∧ w'.cell? ⟨wr.heap.size, 1, none⟩ = some (.int .i64 x.f) ∧ w'.cell? ⟨wr.heap.size, 2, none⟩ = some (.int .i64 x.t) ∧ w'.cell? ⟨wr.heap.size, 3, none⟩ = some (.int .i64 x.m) ∧ w'.cell? ⟨wr.heap.size, 4, none⟩ = some (.int .i64 x.r) ∧ w'.cell? ⟨w.heap.size, 0, none⟩ = some (.int .i64 b.own) ∧ w'.cell? ⟨w.heap.size, 1, none⟩ = some (.int .i64 b.ot) ∧ w'.cell? ⟨w.heap.size, 2, none⟩ = some (.slice b.ag.A b.ag.l.length b.ag.c) ∧ w'.cell? ⟨w.heap.size, 3, none⟩ = some (.slice b.op.A b.op.l.length b.op.c) ∧ w'.cell? ⟨b1, o1 + j * 5, none⟩ = some (.int .i64 y.no) ∧ w'.cell? ⟨b1, o1 + j * 5 + 1, none⟩ = some (.int .i64 y.f) ∧ w'.cell? ⟨b1, o1 + j * 5 + 2, none⟩ = some (.int .i64 y.t) ∧ w'.cell? ⟨b1, o1 + j * 5 + 3, none⟩ = some (.int .i64 y.m) ∧ w'.cell? ⟨b1, o1 + j * 5 + 4, none⟩ = some (.int .i64 y.r))) 18 (by kernel_rfl) (by intro d; cases d <;> intro _ _ _ _ h <;> exact h) ?_ (fun Q7 hQ7 hN7 hHeld => ?_)
      · exact SS.out _ (ext_drew (ext_refl _))
      refine rg_take (i := 0) (some 14) (v := ?_) rfl rfl (by kernel_rfl) (by rfl) hQ7 hHeld ?_ ?_
      rotate_left
      · intro w7 hSw; (try dsimp only at hSw); go_simp; all_goals with_reducible rfl
      try simp only [Act.put, List.setIfInBounds_toArray, List.set_cons_zero, List.set_cons_succ]
      refine rg_take (i := 1) (some 15) (v := ?_) rfl rfl (by kernel_rfl) (by rfl) hQ7 hHeld ?_ ?_
      rotate_left
      · intro w7 hSw; (try dsimp only at hSw); go_simp; all_goals with_reducible rfl
      try simp only [Act.put, List.setIfInBounds_toArray, List.set_cons_zero, List.set_cons_succ]
      refine rg_one (i := 2) (by kernel_rfl) (rg_step rfl (by rfl) (fun K hK => ?_))
      go_simp
      refine (fits_at (b := b) (x := x) true HF.out).mono ?_
      rintro e w1 ⟨rfl, B1⟩
      go_wp2_with fail
      refine hK.out _ _ ?_ (fun hHeld2 => ?_)
      · exact SS.out _ (ext_trans hHeld.1 B1)
      clear hHeld
      have hHeld := hHeld2
      clear hHeld2
      clear hK K
      try simp only [Act.put, List.setIfInBounds_toArray, List.set_cons_zero, List.set_cons_succ]
      refine rg_take (i := 3) (some 17) (v := ?_) rfl rfl (by kernel_rfl) (by rfl) hQ7 hHeld ?_ ?_
      rotate_left
      · intro w7 hSw; (try dsimp only at hSw); go_simp; all_goals with_reducible rfl
      try simp only [Act.put, List.setIfInBounds_toArray, List.set_cons_zero, List.set_cons_succ]
      refine rg_take (i := 4) (some 18) (v := ?_) rfl rfl (by kernel_rfl) (by rfl) hQ7 hHeld ?_ ?_
      rotate_left
      · intro w7 hSw; (try dsimp only at hSw); go_simp; all_goals with_reducible rfl
      try simp only [Act.put, List.setIfInBounds_toArray, List.set_cons_zero, List.set_cons_succ]
      refine rg_take (i := 5) (some 19) (v := ?_) rfl rfl (by kernel_rfl) (by rfl) hQ7 hHeld ?_ ?_
      rotate_left
      · intro w7 hSw; (try dsimp only at hSw); go_simp; all_goals with_reducible rfl
      try simp only [Act.put, List.setIfInBounds_toArray, List.set_cons_zero, List.set_cons_succ]
      refine rg_take (i := 6) (some 20) (v := ?_) rfl rfl (by kernel_rfl) (by rfl) hQ7 hHeld ?_ ?_
      rotate_left
      · intro w7 hSw; (try dsimp only at hSw); go_simp; all_goals with_reducible rfl
      try simp only [Act.put, List.setIfInBounds_toArray, List.set_cons_zero, List.set_cons_succ]
      refine rg_take (i := 7) (some 21) (v := ?_) rfl rfl (by kernel_rfl) (by rfl) hQ7 hHeld ?_ ?_
      rotate_left
      · intro w7 hSw; (try dsimp only at hSw); go_simp; all_goals with_reducible rfl
      try simp only [Act.put, List.setIfInBounds_toArray, List.set_cons_zero, List.set_cons_succ]
      refine rg_take (i := 8) (some 22) (v := ?_) rfl rfl (by kernel_rfl) (by rfl) hQ7 hHeld ?_ ?_
      rotate_left
      · intro w7 hSw; (try dsimp only at hSw); go_simp; all_goals with_reducible rfl
      try simp only [Act.put, List.setIfInBounds_toArray, List.set_cons_zero, List.set_cons_succ]
      refine rg_take (i := 9) (some 23) (v := ?_) rfl rfl (by kernel_rfl) (by rfl) hQ7 hHeld ?_ ?_
      rotate_left
      · intro w7 hSw; (try dsimp only at hSw); go_simp; all_goals with_reducible rfl
      try simp only [Act.put, List.setIfInBounds_toArray, List.set_cons_zero, List.set_cons_succ]
      refine rg_take (i := 10) (some 24) (v := ?_) rfl rfl (by kernel_rfl) (by rfl) hQ7 hHeld ?_ ?_
      rotate_left
      · intro w7 hSw; (try dsimp only at hSw); go_simp; all_goals with_reducible rfl
      try simp only [Act.put, List.setIfInBounds_toArray, List.set_cons_zero, List.set_cons_succ]
      refine rg_take (i := 11) (some 25) (v := ?_) rfl rfl (by kernel_rfl) (by rfl) hQ7 hHeld ?_ ?_
      rotate_left
      · intro w7 hSw; (try dsimp only at hSw); go_simp; all_goals with_reducible rfl
      try simp only [Act.put, List.setIfInBounds_toArray, List.set_cons_zero, List.set_cons_succ]
      refine rg_take (i := 12) (some 26) (v := ?_) rfl rfl (by kernel_rfl) (by rfl) hQ7 hHeld ?_ ?_
      rotate_left
      · intro w7 hSw; (try dsimp only at hSw); go_simp; all_goals with_reducible rfl
      try simp only [Act.put, List.setIfInBounds_toArray, List.set_cons_zero, List.set_cons_succ]
      refine rg_take (i := 13) (some 27) (v := ?_) rfl rfl (by kernel_rfl) (by rfl) hQ7 hHeld ?_ ?_
      rotate_left
      · intro w7 hSw; (try dsimp only at hSw); go_simp; all_goals with_reducible rfl
      try simp only [Act.put, List.setIfInBounds_toArray, List.set_cons_zero, List.set_cons_succ]
      refine rg_one (i := 14) (by kernel_rfl) (rg_step rfl (by rfl) (fun K hK => ?_))
      go_simp
      refine (order_at (x := y) (y := x) HYN.out HXN.out).mono ?_
      rintro e w2 ⟨rfl, B2⟩
      go_wp2_with fail
      refine hK.out _ _ ?_ (fun hHeld2 => ?_)
      · exact SS.out _ (ext_trans hHeld.1 B2)
      clear hHeld
      have hHeld := hHeld2
      clear hHeld2
      clear hK K
      try simp only [Act.put, List.setIfInBounds_toArray, List.set_cons_zero, List.set_cons_succ]
      refine rg_take (i := 15) (some 29) (v := ?_) rfl rfl (by kernel_rfl) (by rfl) hQ7 hHeld ?_ ?_
      rotate_left
      · intro w7 hSw; (try dsimp only at hSw); go_simp; all_goals with_reducible rfl
      try simp only [Act.put, List.setIfInBounds_toArray, List.set_cons_zero, List.set_cons_succ]
      refine rg_take (i := 16) (some 30) (v := ?_) rfl rfl (by kernel_rfl) (by rfl) hQ7 hHeld ?_ ?_
      rotate_left
      · intro w7 hSw; (try dsimp only at hSw); go_simp; all_goals with_reducible rfl
      try simp only [Act.put, List.setIfInBounds_toArray, List.set_cons_zero, List.set_cons_succ]
      refine rg_take (i := 17) (some 31) (v := ?_) rfl rfl (by kernel_rfl) (by rfl) hQ7 hHeld ?_ ?_
      rotate_left
      · intro w7 hSw; (try dsimp only at hSw); go_simp; all_goals with_reducible rfl
      try simp only [Act.put, List.setIfInBounds_toArray, List.set_cons_zero, List.set_cons_succ]
      refine rg_end (by kernel_rfl) (hN7 _ _ ?_) _
      clear hQ7 hN7 Q7
      have BX := hHeld.1
      clear SS
      replace E := Lib.hid (ext_trans E.out BX)
      replace BB := Lib.hid (BB.out.ext BX)
      replace X := Lib.hid (X.out.ext BX)
      clear BX
      clear hw1 hw2
      go_wp2_with fail
      go_roundw
      case rel => exact ⟨j + 1 + 1, by omega, by go_num, HZ.out, BB.out, E.out⟩
      case measure => simp [intOf]; omega
    · have HZ := Lib.hid (HNO.out (decide_eq_false hyx))
      have hz : decide (x.no ≤ y.no) = true := by simp; omega
      have HB1 : b1 < (wr.alloc (.cells #[.int .i64 x.no, .int .i64 x.f, .int .i64 x.t, .int .i64 x.m, .int .i64 x.r] 26)).heap.size := by simp; omega
      clear hyx
      go_wp2_with fail
      have SS := Lib.hid (show ∀ w', Below (wr.alloc (.cells #[.int .i64 x.no, .int .i64 x.f, .int .i64 x.t, .int .i64 x.m, .int .i64 x.r] 26)).heap.size (wr.alloc (.cells #[.int .i64 x.no, .int .i64 x.f, .int .i64 x.t, .int .i64 x.m, .int .i64 x.r] 26)) w' → (fun w' => Below (wr.alloc (.cells #[.int .i64 x.no, .int .i64 x.f, .int .i64 x.t, .int .i64 x.m, .int .i64 x.r] 26)).heap.size (wr.alloc (.cells #[.int .i64 x.no, .int .i64 x.f, .int .i64 x.t, .int .i64 x.m, .int .i64 x.r] 26)) w' ∧ w'.cell? ⟨wr.heap.size, 0, none⟩ = some (.int .i64 x.no) ∧ w'.cell? ⟨wr.heap.size, 1, none⟩ = some (.int .i64 x.f) ∧ w'.cell? ⟨wr.heap.size, 2, none⟩ = some (.int .i64 x.t) ∧ w'.cell? ⟨wr.heap.size, 3, none⟩ = some (.int .i64 x.m) ∧ w'.cell? ⟨wr.heap.size, 4, none⟩ = some (.int .i64 x.r) ∧ w'.cell? ⟨w.heap.size, 0, none⟩ = some (.int .i64 b.own) ∧ w'.cell? ⟨w.heap.size, 1, none⟩ = some (.int .i64 b.ot) ∧ w'.cell? ⟨w.heap.size, 2, none⟩ = some (.slice b.ag.A b.ag.l.length b.ag.c) ∧ w'.cell? ⟨w.heap.size, 3, none⟩ = some (.slice b.op.A b.op.l.length b.op.c) ∧ w'.cell? ⟨b1, o1 + j * 5, none⟩ = some (.int .i64 y.no) ∧ w'.cell? ⟨b1, o1 + j * 5 + 1, none⟩ = some (.int .i64 y.f) ∧ w'.cell? ⟨b1, o1 + j * 5 + 2, none⟩ = some (.int .i64 y.t) ∧ w'.cell? ⟨b1, o1 + j * 5 + 3, none⟩ = some (.int .i64 y.m) ∧ w'.cell? ⟨b1, o1 + j * 5 + 4, none⟩ = some (.int .i64 y.r)) w' from fun w' h => ⟨h, (X.out.ext h).c 0 _ rfl, (X.out.ext h).c 1 _ rfl, (X.out.ext h).c 2 _ rfl, (X.out.ext h).c 3 _ rfl, (X.out.ext h).c 4 _ rfl, (BB.out.ext h).c 0 _ rfl, (BB.out.ext h).c 1 _ rfl, (BB.out.ext h).c 2 _ rfl, (BB.out.ext h).c 3 _ rfl, (h.cell (p := ⟨b1, _, none⟩) HB1).trans d0, (h.cell (p := ⟨b1, _, none⟩) HB1).trans d1, (h.cell (p := ⟨b1, _, none⟩) HB1).trans d2, (h.cell (p := ⟨b1, _, none⟩) HB1).trans d3, (h.cell (p := ⟨b1, _, none⟩) HB1).trans d4⟩)
      refine rg_begin (S := (fun w' => Below (wr.alloc (.cells #[.int .i64 x.no, .int .i64 x.f, .int .i64 x.t, .int .i64 x.m, .int .i64 x.r] 26)).heap.size (wr.alloc (.cells #[.int .i64 x.no, .int .i64 x.f, .int .i64 x.t, .int .i64 x.m, .int .i64 x.r] 26)) w' ∧ w'.cell? ⟨wr.heap.size, 0, none⟩ = some (.int .i64 x.no) ∧ w'.cell? ⟨wr.heap.size, 1, none⟩ = some (.int .i64 x.f) ∧ w'.cell? ⟨wr.heap.size, 2, none⟩ = some (.int .i64 x.t) ∧ w'.cell? ⟨wr.heap.size, 3, none⟩ = some (.int .i64 x.m) ∧ w'.cell? ⟨wr.heap.size, 4, none⟩ = some (.int .i64 x.r) ∧ w'.cell? ⟨w.heap.size, 0, none⟩ = some (.int .i64 b.own) ∧ w'.cell? ⟨w.heap.size, 1, none⟩ = some (.int .i64 b.ot) ∧ w'.cell? ⟨w.heap.size, 2, none⟩ = some (.slice b.ag.A b.ag.l.length b.ag.c) ∧ w'.cell? ⟨w.heap.size, 3, none⟩ = some (.slice b.op.A b.op.l.length b.op.c) ∧ w'.cell? ⟨b1, o1 + j * 5, none⟩ = some (.int .i64 y.no) ∧ w'.cell? ⟨b1, o1 + j * 5 + 1, none⟩ = some (.int .i64 y.f) ∧ w'.cell? ⟨b1, o1 + j * 5 + 2, none⟩ = some (.int .i64 y.t) ∧ w'.cell? ⟨b1, o1 + j * 5 + 3, none⟩ = some (.int .i64 y.m) ∧ w'.cell? ⟨b1, o1 + j * 5 + 4, none⟩ = some (.int .i64 y.r))) 18 (by kernel_rfl) (by intro d; cases d <;> intro _ _ _ _ h <;> exact h) ?_ (fun Q7 hQ7 hN7 hHeld => ?_)
      · exact SS.out _ (ext_drew (ext_refl _))
      refine rg_take (i := 0) (some 14) (v := ?_) rfl rfl (by kernel_rfl) (by rfl) hQ7 hHeld ?_ ?_
      rotate_left
      · intro w7 hSw; (try dsimp only at hSw); go_simp; all_goals with_reducible rfl
      try simp only [Act.put, List.setIfInBounds_toArray, List.set_cons_zero, List.set_cons_succ]
      refine rg_take (i := 1) (some 15) (v := ?_) rfl rfl (by kernel_rfl) (by rfl) hQ7 hHeld ?_ ?_
      rotate_left
      · intro w7 hSw; (try dsimp only at hSw); go_simp; all_goals with_reducible rfl
      try simp only [Act.put, List.setIfInBounds_toArray, List.set_cons_zero, List.set_cons_succ]
      refine rg_one (i := 2) (by kernel_rfl) (rg_step rfl (by rfl) (fun K hK => ?_))
      go_simp
      refine (fits_at (b := b) (x := x) true HF.out).mono ?_
      rintro e w1 ⟨rfl, B1⟩
      go_wp2_with fail
      refine hK.out _ _ ?_ (fun hHeld2 => ?_)
      · exact SS.out _ (ext_trans hHeld.1 B1)
      clear hHeld
      have hHeld := hHeld2
      clear hHeld2
      clear hK K
      try simp only [Act.put, List.setIfInBounds_toArray, List.set_cons_zero, List.set_cons_succ]
      refine rg_take (i := 3) (some 17) (v := ?_) rfl rfl (by kernel_rfl) (by rfl) hQ7 hHeld ?_ ?_
      rotate_left
      · intro w7 hSw; (try dsimp only at hSw); go_simp; all_goals with_reducible rfl
      try simp only [Act.put, List.setIfInBounds_toArray, List.set_cons_zero, List.set_cons_succ]
      refine rg_take (i := 4) (some 18) (v := ?_) rfl rfl (by kernel_rfl) (by rfl) hQ7 hHeld ?_ ?_
      rotate_left
      · intro w7 hSw; (try dsimp only at hSw); go_simp; all_goals with_reducible rfl
      try simp only [Act.put, List.setIfInBounds_toArray, List.set_cons_zero, List.set_cons_succ]
      refine rg_take (i := 5) (some 19) (v := ?_) rfl rfl (by kernel_rfl) (by rfl) hQ7 hHeld ?_ ?_
      rotate_left
      · intro w7 hSw; (try dsimp only at hSw); go_simp; all_goals with_reducible rfl
      try simp only [Act.put, List.setIfInBounds_toArray, List.set_cons_zero, List.set_cons_succ]
      refine rg_take (i := 6) (some 20) (v := ?_) rfl rfl (by kernel_rfl) (by rfl) hQ7 hHeld ?_ ?_
      rotate_left
      · intro w7 hSw; (try dsimp only at hSw); go_simp; all_goals with_reducible rfl
      try simp only [Act.put, List.setIfInBounds_toArray, List.set_cons_zero, List.set_cons_succ]
      refine rg_take (i := 7) (some 21) (v := ?_) rfl rfl (by kernel_rfl) (by rfl) hQ7 hHeld ?_ ?_
      rotate_left
      · intro w7 hSw; (try dsimp only at hSw); go_simp; all_goals with_reducible rfl
      try simp only [Act.put, List.setIfInBounds_toArray, List.set_cons_zero, List.set_cons_succ]
      refine rg_take (i := 8) (some 22) (v := ?_) rfl rfl (by kernel_rfl) (by rfl) hQ7 hHeld ?_ ?_
      rotate_left
      · intro w7 hSw; (try dsimp only at hSw); go_simp; all_goals with_reducible rfl
      try simp only [Act.put, List.setIfInBounds_toArray, List.set_cons_zero, List.set_cons_succ]
      refine rg_take (i := 9) (some 23) (v := ?_) rfl rfl (by kernel_rfl) (by rfl) hQ7 hHeld ?_ ?_
      rotate_left
      · intro w7 hSw; (try dsimp only at hSw); go_simp; all_goals with_reducible rfl
      try simp only [Act.put, List.setIfInBounds_toArray, List.set_cons_zero, List.set_cons_succ]
      refine rg_take (i := 10) (some 24) (v := ?_) rfl rfl (by kernel_rfl) (by rfl) hQ7 hHeld ?_ ?_
      rotate_left
      · intro w7 hSw; (try dsimp only at hSw); go_simp; all_goals with_reducible rfl
      try simp only [Act.put, List.setIfInBounds_toArray, List.set_cons_zero, List.set_cons_succ]
      refine rg_take (i := 11) (some 25) (v := ?_) rfl rfl (by kernel_rfl) (by rfl) hQ7 hHeld ?_ ?_
      rotate_left
      · intro w7 hSw; (try dsimp only at hSw); go_simp; all_goals with_reducible rfl
      try simp only [Act.put, List.setIfInBounds_toArray, List.set_cons_zero, List.set_cons_succ]
      refine rg_take (i := 12) (some 26) (v := ?_) rfl rfl (by kernel_rfl) (by rfl) hQ7 hHeld ?_ ?_
      rotate_left
      · intro w7 hSw; (try dsimp only at hSw); go_simp; all_goals with_reducible rfl
      try simp only [Act.put, List.setIfInBounds_toArray, List.set_cons_zero, List.set_cons_succ]
      refine rg_take (i := 13) (some 27) (v := ?_) rfl rfl (by kernel_rfl) (by rfl) hQ7 hHeld ?_ ?_
      rotate_left
      · intro w7 hSw; (try dsimp only at hSw); go_simp; all_goals with_reducible rfl
      try simp only [Act.put, List.setIfInBounds_toArray, List.set_cons_zero, List.set_cons_succ]
      refine rg_one (i := 14) (by kernel_rfl) (rg_step rfl (by rfl) (fun K hK => ?_))
      go_simp
      refine (order_at (x := y) (y := x) HYN.out HXN.out).mono ?_
      rintro e w2 ⟨rfl, B2⟩
      go_wp2_with fail
      refine hK.out _ _ ?_ (fun hHeld2 => ?_)
      · exact SS.out _ (ext_trans hHeld.1 B2)
      clear hHeld
      have hHeld := hHeld2
      clear hHeld2
      clear hK K
      try simp only [Act.put, List.setIfInBounds_toArray, List.set_cons_zero, List.set_cons_succ]
      refine rg_take (i := 15) (some 29) (v := ?_) rfl rfl (by kernel_rfl) (by rfl) hQ7 hHeld ?_ ?_
      rotate_left
      · intro w7 hSw; (try dsimp only at hSw); go_simp; all_goals with_reducible rfl
      try simp only [Act.put, List.setIfInBounds_toArray, List.set_cons_zero, List.set_cons_succ]
      refine rg_take (i := 16) (some 30) (v := ?_) rfl rfl (by kernel_rfl) (by rfl) hQ7 hHeld ?_ ?_
      rotate_left
      · intro w7 hSw; (try dsimp only at hSw); go_simp; all_goals with_reducible rfl
      try simp only [Act.put, List.setIfInBounds_toArray, List.set_cons_zero, List.set_cons_succ]
      refine rg_take (i := 17) (some 31) (v := ?_) rfl rfl (by kernel_rfl) (by rfl) hQ7 hHeld ?_ ?_
      rotate_left
      · intro w7 hSw; (try dsimp only at hSw); go_simp; all_goals with_reducible rfl
      try simp only [Act.put, List.setIfInBounds_toArray, List.set_cons_zero, List.set_cons_succ]
      refine rg_end (by kernel_rfl) (hN7 _ _ ?_) _
      clear hQ7 hN7 Q7
      have BX := hHeld.1
      clear SS
      replace E := Lib.hid (ext_trans E.out BX)
      replace BB := Lib.hid (BB.out.ext BX)
      replace X := Lib.hid (X.out.ext BX)
      clear BX
      clear hw1 hw2
      go_wp2_with fail
      go_ret
      exact ⟨ret_bool HZ.out.symm, E.out⟩
end Go.Proofs.Ytmnbeikhjbjpiaa
