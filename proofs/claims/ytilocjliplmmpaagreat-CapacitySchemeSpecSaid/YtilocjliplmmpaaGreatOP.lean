/- capacity.Sector; the reference's. -/
import Derived.Test.YtilocjliplmmpaaGreatN
set_option linter.unusedSimpArgs false
set_option linter.unusedVariables false
namespace Go.Proofs.YtilocjliplmmpaaGreat
open Go.RowKit
theorem cin_at {A : Option Addr} {n c : Nat} {l : List Chg} {m : Int} {w : World} (r : Option Chg) (hr : inS l m = r) (hn : n = l.length) (ha : Slc w Chg.cells 3 A l) (hl : l.length ≤ maxLen) : Calls Tryz.prog 17 #[.agg #[.slice A n c], .int .i64 m] w (InR w r) := by
  subst hr hn; exact in_c A c l m w ha hl
set_option maxHeartbeats 2000000 in
theorem sector_any (t : Tab) (A : Option Addr) (c : Nat) (l : List Chg) (v m : Int) (w : World) (ht : Tab.ok w t) (ha : Slc w Chg.cells 3 A l) (hl : l.length ≤ maxLen) :
    Calls Tryz.prog 18 #[t.v, .agg #[.slice A l.length c], .int .i64 v, .int .i64 m] w (SecR w (secR t l v m)) := by
  obtain ⟨W, hW⟩ : ∃ W, (w.alloc (.cells #[.int .i64 t.n, .slice t.ss.A t.ss.l.length t.ss.c, .slice t.cs.A t.cs.l.length t.cs.c, .slice t.ws.A t.ws.l.length t.ws.c, .slice t.ms.A t.ms.l.length t.ms.c, .slice t.ks.A t.ks.l.length t.ks.c] 28)).alloc (.cells #[.slice A l.length c] 31) = W := ⟨_, rfl⟩
  have HB : Hid (Blk W w.heap.size t.cells) := by rw [← hW]; exact (Blk.newH w t.cells 28 w.heap.size rfl).alloc _
  have HB2 : Hid (Blk W (w.heap.size + 1) [.slice A l.length c]) := by rw [← hW]; exact Blk.newH (w.alloc _) [.slice A l.length c] 31 (w.heap.size + 1) (by simp)
  have HE : Hid (Below w.heap.size w W) := by rw [← hW]; exact ext_alloc (ext_alloc (ext_refl w) _) _
  have HA := Lib.hid (ha.ext HE.out)
  have HT := Lib.hid (ht.ext HE.out)
  have b0 := HB2.out.c 0 _ rfl
  have bl := HB2.out.lt
  clear ha ht
  go_enter Tryz.func18, Tryz.ntmps18
  go_wp2_with fail
  cases hr : inS l m with
  | none =>
    have HR : Hid (secR t l v m = none) := by simp [Hid, secR, hr]
    refine (cin_at none hr rfl HA.out hl).mono ?_
    rintro e w1 ⟨rfl, B⟩
    clear hr
    simp only [Option.isSome_none]
    go_wp2_with fail
    go_ret2
    rw [HR.out]
    exact ⟨rfl, ext_alloc (ext_trans HE.out B) _⟩
  | some x =>
    have HR : Hid (secR t l v m = secIn t x.cfg v) := by simp [Hid, secR, hr]
    refine (cin_at (some x) hr rfl HA.out hl).mono ?_
    rintro e w1 ⟨rfl, B⟩
    clear hr hW b0 bl
    simp only [Option.isSome_some, Option.getD_some]
    have b0 := (HB.out.ext B).c 0 _ rfl
    have b1 := (HB.out.ext B).c 1 _ rfl
    have b2 := (HB.out.ext B).c 2 _ rfl
    have b3 := (HB.out.ext B).c 3 _ rfl
    have b4 := (HB.out.ext B).c 4 _ rfl
    have b5 := (HB.out.ext B).c 5 _ rfl
    have bl := (HB.out.ext B).lt
    have HT1 := Lib.hid ((HT.out.ext B).ext (ext_alloc (ext_refl w1) (.cells #[.int .i64 x.f, .int .i64 x.cfg, .slice x.ms.A x.ms.l.length x.ms.c] 34)))
    have HE1 := Lib.hid (ext_alloc (ext_trans HE.out B) (.cells #[.int .i64 x.f, .int .i64 x.cfg, .slice x.ms.A x.ms.l.length x.ms.c] 34))
    go_wp2_with fail
    refine (asec_any t x.cfg v _ HT1.out).mono ?_
    rintro e w2 ⟨rfl, B2⟩
    clear b0 b1 b2 b3 b4 b5
    go_wp2_with fail
    go_ret2
    rw [HR.out]
    exact ⟨rfl, ext_trans HE1.out B2⟩
end Go.Proofs.YtilocjliplmmpaaGreat
/- The reference's In and Sector. -/
set_option linter.unusedSimpArgs false
set_option linter.unusedVariables false
namespace Go.Proofs.YtilocjliplmmpaaGreat
open Go.RowKit
/-- The best number so far. -/
def Best (l : List Chg) (o : Option Chg) (b : Int) : Prop := match o with | none => b = -1 | some x => ∃ k : Nat, b = k ∧ l[k]? = some x
set_option maxRecDepth 100000 in
set_option maxHeartbeats 16000000 in
theorem rin_any (A : Option Addr) (c : Nat) (l : List Chg) (m : Int) (w : World) (ha : Slc w Chg.cells 3 A l) (hl : l.length ≤ maxLen) : Calls Tryz.prog 38 #[.agg #[.slice A l.length c], .int .i64 m] w (InR w (inS l m)) := by
  obtain ⟨W, hW⟩ : ∃ W, (w.alloc (.cells #[.slice A l.length c] 31)).alloc (.cells #[.int .i64 0, .int .i64 0, .slice none 0 0] 34) = W := ⟨_, rfl⟩
  have hz : W.heap.size = w.heap.size + 2 := by rw [← hW]; simp
  have HB0 : Hid (Blk W w.heap.size [.slice A l.length c]) := by
    rw [← hW]; exact (Blk.newH w [.slice A l.length c] 31 w.heap.size rfl).alloc _
  have HB1 : Hid (Blk W (w.heap.size + 1) noChg.cells) := by
    rw [← hW]; exact Blk.newH (w.alloc (.cells #[.slice A l.length c] 31)) noChg.cells 34 (w.heap.size + 1) (by simp)
  have HE : Hid (Below w.heap.size w W) := by
    rw [← hW]; exact ext_alloc (ext_alloc (ext_refl w) _) _
  have HA := Lib.hid (ha.ext HE.out)
  clear ha
  have b0 := HB0.out.c 0 _ rfl
  have bl := HB0.out.lt
  unfold maxLen at hl
  go_enter Tryz.func38, Tryz.ntmps38
  go_wp2_with fail
  clear hW
  go_loopw [6, 7] (fun z i wr => ∃ (k : Nat) (o : Option Chg) (b : Int), k ≤ l.length ∧ i = .int .i64 k ∧ z = .int .i64 b ∧ Hid (Best l o b) ∧ Hid (inS l m = inGo m o (l.drop k)) ∧ Hid (Below W.heap.size W wr)) (fun _ i _ => l.length - (intOf i).toNat)
  case atStart => exact ⟨0, none, -1, Nat.zero_le _, rfl, rfl, rfl, rfl, ext_refl _⟩
  clear b0 bl
  case round =>
    obtain ⟨k, o, b, hk, rfl, rfl, HO, HQ, HR⟩ := hrel
    have b0 := (HB0.out.ext HR.out).c 0 _ rfl
    have bl := (HB0.out.ext HR.out).lt
    by_cases hlt : k < l.length
    · have hlt' : (k : Int) < l.length := by omega
      obtain ⟨x, q1, o1, hx, rfl, hb1, hc⟩ := (HA.out.ext HR.out).at_ hlt
      have HX := Lib.hid hx
      have c0 := hc 0 _ rfl
      simp only [Nat.add_zero] at c0
      clear hc hx
      by_cases h1 : x.f ≤ m
      rotate_left
      · have e1 : decide (x.f ≤ m) = false := decide_eq_false h1
        have HN : Hid (inGo m o (l.drop k) = inGo m o (l.drop (k + 1))) := by
          cases o with
          | none => exact (inGo_none (m := m) HX.out).trans (if_neg h1)
          | some y => exact (inGo_some (m := m) (c := y) HX.out).trans (if_neg (fun q => h1 q.1))
        go_wp2_with fail
        have SS := Lib.hid (show ∀ w', Below wr.heap.size wr w' → (fun w' => Below wr.heap.size wr w' ∧ w'.cell? ⟨w.heap.size, 0, none⟩ = some (.slice (some ⟨q1, o1, none⟩) l.length c) ∧ w'.cell? ⟨q1, o1 + k * 3, none⟩ = some (.int .i64 x.f)) w' from fun w' h => ⟨h, ((HB0.out.ext HR.out).ext h).c 0 _ rfl, (h.cell (p := ⟨q1, o1 + k * 3, none⟩) hb1).trans c0⟩)
        refine rg_begin (S := (fun w' => Below wr.heap.size wr w' ∧ w'.cell? ⟨w.heap.size, 0, none⟩ = some (.slice (some ⟨q1, o1, none⟩) l.length c) ∧ w'.cell? ⟨q1, o1 + k * 3, none⟩ = some (.int .i64 x.f))) 27 (by kernel_rfl) (by intro d; cases d <;> intro _ _ _ _ h <;> exact h) ?_ (fun Q7 hQ7 hN7 hHeld => ?_)
        · exact SS.out _ (ext_drew (ext_refl _))
        refine rg_take (i := 0) (some 15) (v := ?_) rfl rfl (by kernel_rfl) (by rfl) hQ7 hHeld ?_ ?_
        rotate_left
        · intro w7 hSw; (try dsimp only at hSw); go_simp; all_goals with_reducible rfl
        try simp only [Act.put, List.setIfInBounds_toArray, List.set_cons_zero, List.set_cons_succ]
        refine rg_take (i := 1) (some 16) (v := ?_) rfl rfl (by kernel_rfl) (by rfl) hQ7 hHeld ?_ ?_
        rotate_left
        · intro w7 hSw; (try dsimp only at hSw); go_simp; all_goals with_reducible rfl
        try simp only [Act.put, List.setIfInBounds_toArray, List.set_cons_zero, List.set_cons_succ]
        refine rg_take (i := 2) (some 17) (v := ?_) rfl rfl (by kernel_rfl) (by rfl) hQ7 hHeld ?_ ?_
        rotate_left
        · intro w7 hSw; (try dsimp only at hSw); go_simp; all_goals with_reducible rfl
        try simp only [Act.put, List.setIfInBounds_toArray, List.set_cons_zero, List.set_cons_succ]
        refine rg_take (i := 3) (some 18) (v := ?_) rfl rfl (by kernel_rfl) (by rfl) hQ7 hHeld ?_ ?_
        rotate_left
        · intro w7 hSw; (try dsimp only at hSw); go_simp; all_goals with_reducible rfl
        try simp only [Act.put, List.setIfInBounds_toArray, List.set_cons_zero, List.set_cons_succ]
        refine rg_take (i := 4) (some 19) (v := ?_) rfl rfl (by kernel_rfl) (by rfl) hQ7 hHeld ?_ ?_
        rotate_left
        · intro w7 hSw; (try dsimp only at hSw); go_simp; all_goals with_reducible rfl
        try simp only [Act.put, List.setIfInBounds_toArray, List.set_cons_zero, List.set_cons_succ]
        refine rg_take (i := 5) (some 20) (v := ?_) rfl rfl (by kernel_rfl) (by rfl) hQ7 hHeld ?_ ?_
        rotate_left
        · intro w7 hSw; (try dsimp only at hSw); go_simp; all_goals with_reducible rfl
        try simp only [Act.put, List.setIfInBounds_toArray, List.set_cons_zero, List.set_cons_succ]
        refine rg_take (i := 6) (some 21) (v := ?_) rfl rfl (by kernel_rfl) (by rfl) hQ7 hHeld ?_ ?_
        rotate_left
        · intro w7 hSw; (try dsimp only at hSw); go_simp; all_goals with_reducible rfl
        try simp only [Act.put, List.setIfInBounds_toArray, List.set_cons_zero, List.set_cons_succ]
        refine rg_take (i := 7) (some 22) (v := ?_) rfl rfl (by kernel_rfl) (by rfl) hQ7 hHeld ?_ ?_
        rotate_left
        · intro w7 hSw; (try dsimp only at hSw); go_simp; all_goals with_reducible rfl
        try simp only [Act.put, List.setIfInBounds_toArray, List.set_cons_zero, List.set_cons_succ]
        refine rg_take (i := 8) (some 23) (v := ?_) rfl rfl (by kernel_rfl) (by rfl) hQ7 hHeld ?_ ?_
        rotate_left
        · intro w7 hSw; (try dsimp only at hSw); go_simp; all_goals with_reducible rfl
        try simp only [Act.put, List.setIfInBounds_toArray, List.set_cons_zero, List.set_cons_succ]
        refine rg_skip (i := 9) (some 24) rfl rfl (by kernel_rfl) (by rfl) hQ7 hHeld ?_
        try simp only [Act.put, List.setIfInBounds_toArray, List.set_cons_zero, List.set_cons_succ]
        refine rg_skip (i := 10) (some 25) rfl rfl (by kernel_rfl) (by rfl) hQ7 hHeld ?_
        try simp only [Act.put, List.setIfInBounds_toArray, List.set_cons_zero, List.set_cons_succ]
        refine rg_skip (i := 11) (some 26) rfl rfl (by kernel_rfl) (by rfl) hQ7 hHeld ?_
        try simp only [Act.put, List.setIfInBounds_toArray, List.set_cons_zero, List.set_cons_succ]
        refine rg_skip (i := 12) (some 27) rfl rfl (by kernel_rfl) (by rfl) hQ7 hHeld ?_
        try simp only [Act.put, List.setIfInBounds_toArray, List.set_cons_zero, List.set_cons_succ]
        refine rg_skip (i := 13) (some 28) rfl rfl (by kernel_rfl) (by rfl) hQ7 hHeld ?_
        try simp only [Act.put, List.setIfInBounds_toArray, List.set_cons_zero, List.set_cons_succ]
        refine rg_skip (i := 14) (some 29) rfl rfl (by kernel_rfl) (by rfl) hQ7 hHeld ?_
        try simp only [Act.put, List.setIfInBounds_toArray, List.set_cons_zero, List.set_cons_succ]
        refine rg_skip (i := 15) (some 30) rfl rfl (by kernel_rfl) (by rfl) hQ7 hHeld ?_
        try simp only [Act.put, List.setIfInBounds_toArray, List.set_cons_zero, List.set_cons_succ]
        refine rg_skip (i := 16) (some 31) rfl rfl (by kernel_rfl) (by rfl) hQ7 hHeld ?_
        try simp only [Act.put, List.setIfInBounds_toArray, List.set_cons_zero, List.set_cons_succ]
        refine rg_skip (i := 17) (some 32) rfl rfl (by kernel_rfl) (by rfl) hQ7 hHeld ?_
        try simp only [Act.put, List.setIfInBounds_toArray, List.set_cons_zero, List.set_cons_succ]
        refine rg_skip (i := 18) (some 33) rfl rfl (by kernel_rfl) (by rfl) hQ7 hHeld ?_
        try simp only [Act.put, List.setIfInBounds_toArray, List.set_cons_zero, List.set_cons_succ]
        refine rg_skip (i := 19) (some 34) rfl rfl (by kernel_rfl) (by rfl) hQ7 hHeld ?_
        try simp only [Act.put, List.setIfInBounds_toArray, List.set_cons_zero, List.set_cons_succ]
        refine rg_skip (i := 20) (some 35) rfl rfl (by kernel_rfl) (by rfl) hQ7 hHeld ?_
        try simp only [Act.put, List.setIfInBounds_toArray, List.set_cons_zero, List.set_cons_succ]
        refine rg_skip (i := 21) (some 36) rfl rfl (by kernel_rfl) (by rfl) hQ7 hHeld ?_
        try simp only [Act.put, List.setIfInBounds_toArray, List.set_cons_zero, List.set_cons_succ]
        refine rg_skip (i := 22) (some 37) rfl rfl (by kernel_rfl) (by rfl) hQ7 hHeld ?_
        try simp only [Act.put, List.setIfInBounds_toArray, List.set_cons_zero, List.set_cons_succ]
        refine rg_skip (i := 23) (some 38) rfl rfl (by kernel_rfl) (by rfl) hQ7 hHeld ?_
        try simp only [Act.put, List.setIfInBounds_toArray, List.set_cons_zero, List.set_cons_succ]
        refine rg_skip (i := 24) (some 39) rfl rfl (by kernel_rfl) (by rfl) hQ7 hHeld ?_
        try simp only [Act.put, List.setIfInBounds_toArray, List.set_cons_zero, List.set_cons_succ]
        refine rg_skip (i := 25) (some 40) rfl rfl (by kernel_rfl) (by rfl) hQ7 hHeld ?_
        try simp only [Act.put, List.setIfInBounds_toArray, List.set_cons_zero, List.set_cons_succ]
        refine rg_take (i := 26) (some 41) (v := ?_) rfl rfl (by kernel_rfl) (by rfl) hQ7 hHeld ?_ ?_
        rotate_left
        · intro w7 hSw; (try dsimp only at hSw); go_simp; all_goals with_reducible rfl
        try simp only [Act.put, List.setIfInBounds_toArray, List.set_cons_zero, List.set_cons_succ]
        refine rg_end (by kernel_rfl) (hN7 _ _ ?_) _
        clear hQ7 hN7 Q7
        have BX := hHeld.1
        clear SS
        have HR1 := Lib.hid (ext_trans HR.out BX)
        clear b0 bl c0 BX
        go_wp2_with fail
        first | exact ⟨⟨k + 1, o, b, by omega, by go_num, by first | rfl | trivial | go_num, HO.out, HQ.out.trans HN.out, HR1.out⟩, by simp [intOf] <;> omega⟩ | (go_roundw; all_goals first | exact ⟨k + 1, o, b, by omega, by go_num, by first | rfl | trivial | go_num, HO.out, HQ.out.trans HN.out, HR1.out⟩ | (simp [intOf] <;> omega))
      have e1 : decide (x.f ≤ m) = true := decide_eq_true h1
      cases o with
      | none =>
        have hb : b = -1 := HO.out
        subst hb
        have HN := Lib.hid ((inGo_none (m := m) HX.out).trans (if_pos h1))
        go_wp2_with fail
        have SS := Lib.hid (show ∀ w', Below wr.heap.size wr w' → (fun w' => Below wr.heap.size wr w' ∧ w'.cell? ⟨w.heap.size, 0, none⟩ = some (.slice (some ⟨q1, o1, none⟩) l.length c) ∧ w'.cell? ⟨q1, o1 + k * 3, none⟩ = some (.int .i64 x.f)) w' from fun w' h => ⟨h, ((HB0.out.ext HR.out).ext h).c 0 _ rfl, (h.cell (p := ⟨q1, o1 + k * 3, none⟩) hb1).trans c0⟩)
        refine rg_begin (S := (fun w' => Below wr.heap.size wr w' ∧ w'.cell? ⟨w.heap.size, 0, none⟩ = some (.slice (some ⟨q1, o1, none⟩) l.length c) ∧ w'.cell? ⟨q1, o1 + k * 3, none⟩ = some (.int .i64 x.f))) 27 (by kernel_rfl) (by intro d; cases d <;> intro _ _ _ _ h <;> exact h) ?_ (fun Q7 hQ7 hN7 hHeld => ?_)
        · exact SS.out _ (ext_drew (ext_refl _))
        refine rg_take (i := 0) (some 15) (v := ?_) rfl rfl (by kernel_rfl) (by rfl) hQ7 hHeld ?_ ?_
        rotate_left
        · intro w7 hSw; (try dsimp only at hSw); go_simp; all_goals with_reducible rfl
        try simp only [Act.put, List.setIfInBounds_toArray, List.set_cons_zero, List.set_cons_succ]
        refine rg_take (i := 1) (some 16) (v := ?_) rfl rfl (by kernel_rfl) (by rfl) hQ7 hHeld ?_ ?_
        rotate_left
        · intro w7 hSw; (try dsimp only at hSw); go_simp; all_goals with_reducible rfl
        try simp only [Act.put, List.setIfInBounds_toArray, List.set_cons_zero, List.set_cons_succ]
        refine rg_take (i := 2) (some 17) (v := ?_) rfl rfl (by kernel_rfl) (by rfl) hQ7 hHeld ?_ ?_
        rotate_left
        · intro w7 hSw; (try dsimp only at hSw); go_simp; all_goals with_reducible rfl
        try simp only [Act.put, List.setIfInBounds_toArray, List.set_cons_zero, List.set_cons_succ]
        refine rg_take (i := 3) (some 18) (v := ?_) rfl rfl (by kernel_rfl) (by rfl) hQ7 hHeld ?_ ?_
        rotate_left
        · intro w7 hSw; (try dsimp only at hSw); go_simp; all_goals with_reducible rfl
        try simp only [Act.put, List.setIfInBounds_toArray, List.set_cons_zero, List.set_cons_succ]
        refine rg_take (i := 4) (some 19) (v := ?_) rfl rfl (by kernel_rfl) (by rfl) hQ7 hHeld ?_ ?_
        rotate_left
        · intro w7 hSw; (try dsimp only at hSw); go_simp; all_goals with_reducible rfl
        try simp only [Act.put, List.setIfInBounds_toArray, List.set_cons_zero, List.set_cons_succ]
        refine rg_take (i := 5) (some 20) (v := ?_) rfl rfl (by kernel_rfl) (by rfl) hQ7 hHeld ?_ ?_
        rotate_left
        · intro w7 hSw; (try dsimp only at hSw); go_simp; all_goals with_reducible rfl
        try simp only [Act.put, List.setIfInBounds_toArray, List.set_cons_zero, List.set_cons_succ]
        refine rg_take (i := 6) (some 21) (v := ?_) rfl rfl (by kernel_rfl) (by rfl) hQ7 hHeld ?_ ?_
        rotate_left
        · intro w7 hSw; (try dsimp only at hSw); go_simp; all_goals with_reducible rfl
        try simp only [Act.put, List.setIfInBounds_toArray, List.set_cons_zero, List.set_cons_succ]
        refine rg_take (i := 7) (some 22) (v := ?_) rfl rfl (by kernel_rfl) (by rfl) hQ7 hHeld ?_ ?_
        rotate_left
        · intro w7 hSw; (try dsimp only at hSw); go_simp; all_goals with_reducible rfl
        try simp only [Act.put, List.setIfInBounds_toArray, List.set_cons_zero, List.set_cons_succ]
        refine rg_take (i := 8) (some 23) (v := ?_) rfl rfl (by kernel_rfl) (by rfl) hQ7 hHeld ?_ ?_
        rotate_left
        · intro w7 hSw; (try dsimp only at hSw); go_simp; all_goals with_reducible rfl
        try simp only [Act.put, List.setIfInBounds_toArray, List.set_cons_zero, List.set_cons_succ]
        refine rg_take (i := 9) (some 24) (v := ?_) rfl rfl (by kernel_rfl) (by rfl) hQ7 hHeld ?_ ?_
        rotate_left
        · intro w7 hSw; (try dsimp only at hSw); go_simp; all_goals with_reducible rfl
        try simp only [Act.put, List.setIfInBounds_toArray, List.set_cons_zero, List.set_cons_succ]
        refine rg_take (i := 10) (some 25) (v := ?_) rfl rfl (by kernel_rfl) (by rfl) hQ7 hHeld ?_ ?_
        rotate_left
        · intro w7 hSw; (try dsimp only at hSw); go_simp; all_goals with_reducible rfl
        try simp only [Act.put, List.setIfInBounds_toArray, List.set_cons_zero, List.set_cons_succ]
        refine rg_take (i := 11) (some 26) (v := ?_) rfl rfl (by kernel_rfl) (by rfl) hQ7 hHeld ?_ ?_
        rotate_left
        · intro w7 hSw; (try dsimp only at hSw); go_simp; all_goals with_reducible rfl
        try simp only [Act.put, List.setIfInBounds_toArray, List.set_cons_zero, List.set_cons_succ]
        refine rg_skip (i := 12) (some 27) rfl rfl (by kernel_rfl) (by rfl) hQ7 hHeld ?_
        try simp only [Act.put, List.setIfInBounds_toArray, List.set_cons_zero, List.set_cons_succ]
        refine rg_skip (i := 13) (some 28) rfl rfl (by kernel_rfl) (by rfl) hQ7 hHeld ?_
        try simp only [Act.put, List.setIfInBounds_toArray, List.set_cons_zero, List.set_cons_succ]
        refine rg_skip (i := 14) (some 29) rfl rfl (by kernel_rfl) (by rfl) hQ7 hHeld ?_
        try simp only [Act.put, List.setIfInBounds_toArray, List.set_cons_zero, List.set_cons_succ]
        refine rg_skip (i := 15) (some 30) rfl rfl (by kernel_rfl) (by rfl) hQ7 hHeld ?_
        try simp only [Act.put, List.setIfInBounds_toArray, List.set_cons_zero, List.set_cons_succ]
        refine rg_skip (i := 16) (some 31) rfl rfl (by kernel_rfl) (by rfl) hQ7 hHeld ?_
        try simp only [Act.put, List.setIfInBounds_toArray, List.set_cons_zero, List.set_cons_succ]
        refine rg_skip (i := 17) (some 32) rfl rfl (by kernel_rfl) (by rfl) hQ7 hHeld ?_
        try simp only [Act.put, List.setIfInBounds_toArray, List.set_cons_zero, List.set_cons_succ]
        refine rg_skip (i := 18) (some 33) rfl rfl (by kernel_rfl) (by rfl) hQ7 hHeld ?_
        try simp only [Act.put, List.setIfInBounds_toArray, List.set_cons_zero, List.set_cons_succ]
        refine rg_skip (i := 19) (some 34) rfl rfl (by kernel_rfl) (by rfl) hQ7 hHeld ?_
        try simp only [Act.put, List.setIfInBounds_toArray, List.set_cons_zero, List.set_cons_succ]
        refine rg_skip (i := 20) (some 35) rfl rfl (by kernel_rfl) (by rfl) hQ7 hHeld ?_
        try simp only [Act.put, List.setIfInBounds_toArray, List.set_cons_zero, List.set_cons_succ]
        refine rg_skip (i := 21) (some 36) rfl rfl (by kernel_rfl) (by rfl) hQ7 hHeld ?_
        try simp only [Act.put, List.setIfInBounds_toArray, List.set_cons_zero, List.set_cons_succ]
        refine rg_skip (i := 22) (some 37) rfl rfl (by kernel_rfl) (by rfl) hQ7 hHeld ?_
        try simp only [Act.put, List.setIfInBounds_toArray, List.set_cons_zero, List.set_cons_succ]
        refine rg_skip (i := 23) (some 38) rfl rfl (by kernel_rfl) (by rfl) hQ7 hHeld ?_
        try simp only [Act.put, List.setIfInBounds_toArray, List.set_cons_zero, List.set_cons_succ]
        refine rg_skip (i := 24) (some 39) rfl rfl (by kernel_rfl) (by rfl) hQ7 hHeld ?_
        try simp only [Act.put, List.setIfInBounds_toArray, List.set_cons_zero, List.set_cons_succ]
        refine rg_take (i := 25) (some 40) (v := ?_) rfl rfl (by kernel_rfl) (by rfl) hQ7 hHeld ?_ ?_
        rotate_left
        · intro w7 hSw; (try dsimp only at hSw); go_simp; all_goals with_reducible rfl
        try simp only [Act.put, List.setIfInBounds_toArray, List.set_cons_zero, List.set_cons_succ]
        refine rg_take (i := 26) (some 41) (v := ?_) rfl rfl (by kernel_rfl) (by rfl) hQ7 hHeld ?_ ?_
        rotate_left
        · intro w7 hSw; (try dsimp only at hSw); go_simp; all_goals with_reducible rfl
        try simp only [Act.put, List.setIfInBounds_toArray, List.set_cons_zero, List.set_cons_succ]
        refine rg_end (by kernel_rfl) (hN7 _ _ ?_) _
        clear hQ7 hN7 Q7
        have BX := hHeld.1
        clear SS
        have HR1 := Lib.hid (ext_trans HR.out BX)
        clear b0 bl c0 BX
        go_wp2_with fail
        first | exact ⟨⟨k + 1, some x, k, by omega, by go_num, by first | rfl | trivial | go_num, ⟨k, rfl, HX.out⟩, HQ.out.trans HN.out, HR1.out⟩, by simp [intOf] <;> omega⟩ | (go_roundw; all_goals first | exact ⟨k + 1, some x, k, by omega, by go_num, by first | rfl | trivial | go_num, ⟨k, rfl, HX.out⟩, HQ.out.trans HN.out, HR1.out⟩ | (simp [intOf] <;> omega))
      | some y =>
        obtain ⟨kb, rfl, hy⟩ := HO.out
        have hkb := (List.getElem?_eq_some_iff.1 hy).1
        have hkb' : (kb : Int) < l.length := by omega
        have hkb2 : decide ((kb : Int) < 0) = false := decide_eq_false (by omega)
        obtain ⟨y2, q2, o2, hy2, e2, hb2, hc2⟩ := (HA.out.ext HR.out).at_ hkb
        cases e2
        cases hy.symm.trans hy2
        have d0 := hc2 0 _ rfl
        simp only [Nat.add_zero] at d0
        clear hc2 hy hy2
        obtain ⟨r, hr⟩ : ∃ r, decide (x.f ≥ y.f) = r := ⟨_, rfl⟩
        have HC := Lib.hid hr
        go_wp2_with fail
        have SS := Lib.hid (show ∀ w', Below wr.heap.size wr w' → (fun w' => Below wr.heap.size wr w' ∧ w'.cell? ⟨w.heap.size, 0, none⟩ = some (.slice (some ⟨q1, o1, none⟩) l.length c) ∧ w'.cell? ⟨q1, o1 + k * 3, none⟩ = some (.int .i64 x.f) ∧ w'.cell? ⟨q1, o1 + kb * 3, none⟩ = some (.int .i64 y.f)) w' from fun w' h => ⟨h, ((HB0.out.ext HR.out).ext h).c 0 _ rfl, (h.cell (p := ⟨q1, o1 + k * 3, none⟩) hb1).trans c0, (h.cell (p := ⟨q1, o1 + kb * 3, none⟩) hb1).trans d0⟩)
        refine rg_begin (S := (fun w' => Below wr.heap.size wr w' ∧ w'.cell? ⟨w.heap.size, 0, none⟩ = some (.slice (some ⟨q1, o1, none⟩) l.length c) ∧ w'.cell? ⟨q1, o1 + k * 3, none⟩ = some (.int .i64 x.f) ∧ w'.cell? ⟨q1, o1 + kb * 3, none⟩ = some (.int .i64 y.f))) 27 (by kernel_rfl) (by intro d; cases d <;> intro _ _ _ _ h <;> exact h) ?_ (fun Q7 hQ7 hN7 hHeld => ?_)
        · exact SS.out _ (ext_drew (ext_refl _))
        refine rg_take (i := 0) (some 15) (v := ?_) rfl rfl (by kernel_rfl) (by rfl) hQ7 hHeld ?_ ?_
        rotate_left
        · intro w7 hSw; (try dsimp only at hSw); go_simp; all_goals with_reducible rfl
        try simp only [Act.put, List.setIfInBounds_toArray, List.set_cons_zero, List.set_cons_succ]
        refine rg_take (i := 1) (some 16) (v := ?_) rfl rfl (by kernel_rfl) (by rfl) hQ7 hHeld ?_ ?_
        rotate_left
        · intro w7 hSw; (try dsimp only at hSw); go_simp; all_goals with_reducible rfl
        try simp only [Act.put, List.setIfInBounds_toArray, List.set_cons_zero, List.set_cons_succ]
        refine rg_take (i := 2) (some 17) (v := ?_) rfl rfl (by kernel_rfl) (by rfl) hQ7 hHeld ?_ ?_
        rotate_left
        · intro w7 hSw; (try dsimp only at hSw); go_simp; all_goals with_reducible rfl
        try simp only [Act.put, List.setIfInBounds_toArray, List.set_cons_zero, List.set_cons_succ]
        refine rg_take (i := 3) (some 18) (v := ?_) rfl rfl (by kernel_rfl) (by rfl) hQ7 hHeld ?_ ?_
        rotate_left
        · intro w7 hSw; (try dsimp only at hSw); go_simp; all_goals with_reducible rfl
        try simp only [Act.put, List.setIfInBounds_toArray, List.set_cons_zero, List.set_cons_succ]
        refine rg_take (i := 4) (some 19) (v := ?_) rfl rfl (by kernel_rfl) (by rfl) hQ7 hHeld ?_ ?_
        rotate_left
        · intro w7 hSw; (try dsimp only at hSw); go_simp; all_goals with_reducible rfl
        try simp only [Act.put, List.setIfInBounds_toArray, List.set_cons_zero, List.set_cons_succ]
        refine rg_take (i := 5) (some 20) (v := ?_) rfl rfl (by kernel_rfl) (by rfl) hQ7 hHeld ?_ ?_
        rotate_left
        · intro w7 hSw; (try dsimp only at hSw); go_simp; all_goals with_reducible rfl
        try simp only [Act.put, List.setIfInBounds_toArray, List.set_cons_zero, List.set_cons_succ]
        refine rg_take (i := 6) (some 21) (v := ?_) rfl rfl (by kernel_rfl) (by rfl) hQ7 hHeld ?_ ?_
        rotate_left
        · intro w7 hSw; (try dsimp only at hSw); go_simp; all_goals with_reducible rfl
        try simp only [Act.put, List.setIfInBounds_toArray, List.set_cons_zero, List.set_cons_succ]
        refine rg_take (i := 7) (some 22) (v := ?_) rfl rfl (by kernel_rfl) (by rfl) hQ7 hHeld ?_ ?_
        rotate_left
        · intro w7 hSw; (try dsimp only at hSw); go_simp; all_goals with_reducible rfl
        try simp only [Act.put, List.setIfInBounds_toArray, List.set_cons_zero, List.set_cons_succ]
        refine rg_take (i := 8) (some 23) (v := ?_) rfl rfl (by kernel_rfl) (by rfl) hQ7 hHeld ?_ ?_
        rotate_left
        · intro w7 hSw; (try dsimp only at hSw); go_simp; all_goals with_reducible rfl
        try simp only [Act.put, List.setIfInBounds_toArray, List.set_cons_zero, List.set_cons_succ]
        refine rg_take (i := 9) (some 24) (v := ?_) rfl rfl (by kernel_rfl) (by rfl) hQ7 hHeld ?_ ?_
        rotate_left
        · intro w7 hSw; (try dsimp only at hSw); go_simp; all_goals with_reducible rfl
        try simp only [Act.put, List.setIfInBounds_toArray, List.set_cons_zero, List.set_cons_succ]
        refine rg_take (i := 10) (some 25) (v := ?_) rfl rfl (by kernel_rfl) (by rfl) hQ7 hHeld ?_ ?_
        rotate_left
        · intro w7 hSw; (try dsimp only at hSw); go_simp; all_goals with_reducible rfl
        try simp only [Act.put, List.setIfInBounds_toArray, List.set_cons_zero, List.set_cons_succ]
        refine rg_take (i := 11) (some 26) (v := ?_) rfl rfl (by kernel_rfl) (by rfl) hQ7 hHeld ?_ ?_
        rotate_left
        · intro w7 hSw; (try dsimp only at hSw); go_simp; all_goals with_reducible rfl
        try simp only [Act.put, List.setIfInBounds_toArray, List.set_cons_zero, List.set_cons_succ]
        refine rg_take (i := 12) (some 27) (v := ?_) rfl rfl (by kernel_rfl) (by rfl) hQ7 hHeld ?_ ?_
        rotate_left
        · intro w7 hSw; (try dsimp only at hSw); go_simp; all_goals with_reducible rfl
        try simp only [Act.put, List.setIfInBounds_toArray, List.set_cons_zero, List.set_cons_succ]
        refine rg_take (i := 13) (some 28) (v := ?_) rfl rfl (by kernel_rfl) (by rfl) hQ7 hHeld ?_ ?_
        rotate_left
        · intro w7 hSw; (try dsimp only at hSw); go_simp; all_goals with_reducible rfl
        try simp only [Act.put, List.setIfInBounds_toArray, List.set_cons_zero, List.set_cons_succ]
        refine rg_take (i := 14) (some 29) (v := ?_) rfl rfl (by kernel_rfl) (by rfl) hQ7 hHeld ?_ ?_
        rotate_left
        · intro w7 hSw; (try dsimp only at hSw); go_simp; all_goals with_reducible rfl
        try simp only [Act.put, List.setIfInBounds_toArray, List.set_cons_zero, List.set_cons_succ]
        refine rg_take (i := 15) (some 30) (v := ?_) rfl rfl (by kernel_rfl) (by rfl) hQ7 hHeld ?_ ?_
        rotate_left
        · intro w7 hSw; (try dsimp only at hSw); go_simp; all_goals with_reducible rfl
        try simp only [Act.put, List.setIfInBounds_toArray, List.set_cons_zero, List.set_cons_succ]
        refine rg_take (i := 16) (some 31) (v := ?_) rfl rfl (by kernel_rfl) (by rfl) hQ7 hHeld ?_ ?_
        rotate_left
        · intro w7 hSw; (try dsimp only at hSw); go_simp; all_goals with_reducible rfl
        try simp only [Act.put, List.setIfInBounds_toArray, List.set_cons_zero, List.set_cons_succ]
        refine rg_take (i := 17) (some 32) (v := ?_) rfl rfl (by kernel_rfl) (by rfl) hQ7 hHeld ?_ ?_
        rotate_left
        · intro w7 hSw; (try dsimp only at hSw); go_simp; all_goals with_reducible rfl
        try simp only [Act.put, List.setIfInBounds_toArray, List.set_cons_zero, List.set_cons_succ]
        refine rg_take (i := 18) (some 33) (v := ?_) rfl rfl (by kernel_rfl) (by rfl) hQ7 hHeld ?_ ?_
        rotate_left
        · intro w7 hSw; (try dsimp only at hSw); go_simp; all_goals with_reducible rfl
        try simp only [Act.put, List.setIfInBounds_toArray, List.set_cons_zero, List.set_cons_succ]
        refine rg_take (i := 19) (some 34) (v := ?_) rfl rfl (by kernel_rfl) (by rfl) hQ7 hHeld ?_ ?_
        rotate_left
        · intro w7 hSw; (try dsimp only at hSw); go_simp; all_goals with_reducible rfl
        try simp only [Act.put, List.setIfInBounds_toArray, List.set_cons_zero, List.set_cons_succ]
        refine rg_take (i := 20) (some 35) (v := ?_) rfl rfl (by kernel_rfl) (by rfl) hQ7 hHeld ?_ ?_
        rotate_left
        · intro w7 hSw; (try dsimp only at hSw); go_simp; all_goals with_reducible rfl
        try simp only [Act.put, List.setIfInBounds_toArray, List.set_cons_zero, List.set_cons_succ]
        refine rg_take (i := 21) (some 36) (v := ?_) rfl rfl (by kernel_rfl) (by rfl) hQ7 hHeld ?_ ?_
        rotate_left
        · intro w7 hSw; (try dsimp only at hSw); go_simp; all_goals with_reducible rfl
        try simp only [Act.put, List.setIfInBounds_toArray, List.set_cons_zero, List.set_cons_succ]
        refine rg_take (i := 22) (some 37) (v := ?_) rfl rfl (by kernel_rfl) (by rfl) hQ7 hHeld ?_ ?_
        rotate_left
        · intro w7 hSw; (try dsimp only at hSw); go_simp; all_goals with_reducible rfl
        try simp only [Act.put, List.setIfInBounds_toArray, List.set_cons_zero, List.set_cons_succ]
        refine rg_take (i := 23) (some 38) (v := ?_) rfl rfl (by kernel_rfl) (by rfl) hQ7 hHeld ?_ ?_
        rotate_left
        · intro w7 hSw; (try dsimp only at hSw); go_simp; all_goals with_reducible rfl
        try simp only [Act.put, List.setIfInBounds_toArray, List.set_cons_zero, List.set_cons_succ]
        refine rg_take (i := 24) (some 39) (v := ?_) rfl rfl (by kernel_rfl) (by rfl) hQ7 hHeld ?_ ?_
        rotate_left
        · intro w7 hSw; (try dsimp only at hSw); go_simp; all_goals with_reducible rfl
        try simp only [Act.put, List.setIfInBounds_toArray, List.set_cons_zero, List.set_cons_succ]
        refine rg_take (i := 25) (some 40) (v := ?_) rfl rfl (by kernel_rfl) (by rfl) hQ7 hHeld ?_ ?_
        rotate_left
        · intro w7 hSw; (try dsimp only at hSw); go_simp; all_goals with_reducible rfl
        try simp only [Act.put, List.setIfInBounds_toArray, List.set_cons_zero, List.set_cons_succ]
        refine rg_take (i := 26) (some 41) (v := ?_) rfl rfl (by kernel_rfl) (by rfl) hQ7 hHeld ?_ ?_
        rotate_left
        · intro w7 hSw; (try dsimp only at hSw); go_simp; all_goals with_reducible rfl
        try simp only [Act.put, List.setIfInBounds_toArray, List.set_cons_zero, List.set_cons_succ]
        refine rg_end (by kernel_rfl) (hN7 _ _ ?_) _
        clear hQ7 hN7 Q7
        have BX := hHeld.1
        clear SS
        have HR1 := Lib.hid (ext_trans HR.out BX)
        clear b0 bl c0 d0 BX
        cases r
        · have HN := Lib.hid ((inGo_some (m := m) (c := y) HX.out).trans (if_neg (fun q => (of_decide_eq_false HC.out) q.2)))
          go_wp2_with fail
          first | exact ⟨⟨k + 1, some y, kb, by omega, by go_num, by first | rfl | trivial | go_num, HO.out, HQ.out.trans HN.out, HR1.out⟩, by simp [intOf] <;> omega⟩ | (go_roundw; all_goals first | exact ⟨k + 1, some y, kb, by omega, by go_num, by first | rfl | trivial | go_num, HO.out, HQ.out.trans HN.out, HR1.out⟩ | (simp [intOf] <;> omega))
        · have HN := Lib.hid ((inGo_some (m := m) (c := y) HX.out).trans (if_pos ⟨h1, of_decide_eq_true HC.out⟩))
          go_wp2_with fail
          first | exact ⟨⟨k + 1, some x, k, by omega, by go_num, by first | rfl | trivial | go_num, ⟨k, rfl, HX.out⟩, HQ.out.trans HN.out, HR1.out⟩, by simp [intOf] <;> omega⟩ | (go_roundw; all_goals first | exact ⟨k + 1, some x, k, by omega, by go_num, by first | rfl | trivial | go_num, ⟨k, rfl, HX.out⟩, HQ.out.trans HN.out, HR1.out⟩ | (simp [intOf] <;> omega))
    · have hlt' : decide ((k : Int) < l.length) = false := decide_eq_false (by omega)
      have HN := Lib.hid (HQ.out.trans (inGo_end m o (by omega)))
      have HBr := Lib.hid (HB1.out.ext HR.out)
      have y0 := HBr.out.c 0 _ rfl
      have y1 := HBr.out.c 1 _ rfl
      have y2 := HBr.out.c 2 _ rfl
      have yf := HBr.out.f
      have yl := HBr.out.lt
      have HER := Lib.hid (ext_trans HE.out HR.out)
      cases o with
      | none =>
        have hb : b = -1 := HO.out
        subst hb
        have HP := HBr.out.put3 (.int .i64 0) (.int .i64 0) (.slice none 0 0)
        have HPE := Lib.hid (ext_set3 HER.out (w.heap.size + 1) (.int .i64 0) (.int .i64 0) (.slice none 0 0) (by omega))
        unfold set3 at HP HPE
        have p0 := HP.c 0 _ rfl
        have p1 := HP.c 1 _ rfl
        have p2 := HP.c 2 _ rfl
        clear HP
        go_wp2_with fail
        refine bodyPost_ret (v := .tuple #[noChg.v, .bool false]) (by simp [results, Tryz.results38, go_sem, p0, p1, p2, noChg]) rfl ?_
        rw [HN.out]
        exact ⟨rfl, HPE.out⟩
      | some y =>
        obtain ⟨kb, rfl, hy⟩ := HO.out
        have hkb := (List.getElem?_eq_some_iff.1 hy).1
        have hkb' : (kb : Int) < l.length := by omega
        have hkb2 : decide ((kb : Int) < 0) = false := decide_eq_false (by omega)
        obtain ⟨y9, q2, o2, hy2, rfl, hb2, hc2⟩ := (HA.out.ext HR.out).at_ hkb
        cases hy.symm.trans hy2
        have d0 := hc2 0 _ rfl
        have d1 := hc2 1 _ rfl
        have d2 := hc2 2 _ rfl
        simp only [Nat.add_zero] at d0
        clear hc2 hy hy2
        have HP := HBr.out.put3 (.int .i64 y.f) (.int .i64 y.cfg) (.slice y.ms.A y.ms.l.length y.ms.c)
        have HPE := Lib.hid (ext_set3 HER.out (w.heap.size + 1) (.int .i64 y.f) (.int .i64 y.cfg) (.slice y.ms.A y.ms.l.length y.ms.c) (by omega))
        unfold set3 at HP HPE
        have p0 := HP.c 0 _ rfl
        have p1 := HP.c 1 _ rfl
        have p2 := HP.c 2 _ rfl
        clear HP
        go_wp2_with fail
        refine bodyPost_ret (v := .tuple #[y.v, .bool true]) (by simp [results, Tryz.results38, go_sem, p0, p1, p2]) rfl ?_
        rw [HN.out]
        exact ⟨rfl, HPE.out⟩
theorem rin_at {A : Option Addr} {n c : Nat} {l : List Chg} {m : Int} {w : World} (r : Option Chg) (hr : inS l m = r) (hn : n = l.length) (ha : Slc w Chg.cells 3 A l) (hl : l.length ≤ maxLen) : Calls Tryz.prog 38 #[.agg #[.slice A n c], .int .i64 m] w (InR w r) := by
  subst hr hn; exact rin_any A c l m w ha hl
end Go.Proofs.YtilocjliplmmpaaGreat
