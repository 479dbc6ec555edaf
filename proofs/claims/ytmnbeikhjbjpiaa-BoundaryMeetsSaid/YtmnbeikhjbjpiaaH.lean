/- Contracts: an agreement put at its place (the reference's). -/
import Derived.Test.YtmnbeikhjbjpiaaG
import Derived.Test.YtmnbeikhjbjpiaaApp3
set_option linter.unusedSimpArgs false
set_option linter.unusedVariables false
namespace Go.Proofs.Ytmnbeikhjbjpiaa
open Go.RowKit
theorem slc_from {w w' : World} {A : Option Addr} {l : List Ag} (h : Slc w Ag.cells 5 A l) (hb : Below w.heap.size w w') (k c : Nat) (hc : l.length ≤ c) : Slc w' Ag.cells 5 (fromAAg A c k) (l.drop k) := (h.ext hb).from_ k c hc
set_option maxHeartbeats 1600000 in
theorem rput_any (a : Ag) (A : Option Addr) (c n : Nat) (l : List Ag) (w : World) (hn : n = l.length) (ha : Slc w Ag.cells 5 A l) (hlm : l.length ≤ 1000) (hc : l.length ≤ c) (hl : l.Pairwise (fun x y => x.no < y.no)) :
    Calls Try.prog 40 #[.slice A n c, a.v] w (PutR w (putL l a)) := by
  subst hn
  have HL := Lib.hid hl
  clear hl
  have E := Lib.hid (ext_refl w)
  have SL := Lib.hid (ha)
  clear ha
  replace E := Lib.hid (ext_alloc E.out (.cells #[.int .i64 a.no, .int .i64 a.f, .int .i64 a.t, .int .i64 a.m, .int .i64 a.r] 26))
  replace SL := Lib.hid (SL.out.alloc (.cells #[.int .i64 a.no, .int .i64 a.f, .int .i64 a.t, .int .i64 a.m, .int .i64 a.r] 26))
  have X := Lib.hid (Blk.newH w [.int .i64 a.no, .int .i64 a.f, .int .i64 a.t, .int .i64 a.m, .int .i64 a.r] 26 (w.heap.size) (by first | rfl | simp))
  go_enter Try.func40, Try.ntmps40
  go_wp2_with fail
  go_loopw [5] (fun i wr => ∃ k : Nat, k ≤ l.length ∧ i = .int .i64 k ∧ Hid (∀ z x, z < k → l[z]? = some x → decide (x.no < a.no) = true) ∧ Hid (Slc wr Ag.cells 5 A l) ∧ Hid (Blk wr w.heap.size [.int .i64 a.no, .int .i64 a.f, .int .i64 a.t, .int .i64 a.m, .int .i64 a.r]) ∧ Hid (Below w.heap.size w wr)) (fun i _ => l.length - (intOf i).toNat)
  case atStart => exact ⟨0, Nat.zero_le _, rfl, (fun z x h => by omega), SL.out, X.out, E.out⟩
  clear E SL X
  case round =>
    obtain ⟨k, hk, rfl, HP, SL, X, E⟩ := hrel
    have x0 := X.out.c 0 _ rfl
    have hbx := X.out.lt
    by_cases hlt : k < l.length
    · obtain ⟨x, b1, o1, hx, rfl, hb1, hd⟩ := SL.out.at_ hlt
      have c0 := hd 0 _ rfl
      simp only [Nat.add_zero] at c0
      have HX := Lib.hid hx
      have hlt' : (k : Int) < l.length := by omega
      clear hd hx
      by_cases hxa : x.no < a.no
      · have hz : decide (x.no < a.no) = true := by simpa using hxa
        have HXA := Lib.hid hxa
        rename_i K2 a2
        clear a2 hxa
        go_wp2_with fail
        go_quiet (fail)
        go_wp2_with fail
        go_roundw
        case rel => exact ⟨k + 1, hlt, by go_num, (fun z y hz hy => by
          by_cases h : z = k
          · subst h; rw [HX.out] at hy; cases hy; simpa using HXA.out
          · exact HP.out z y (by omega) hy), SL.out.ext (ext_drewN (ext_refl _) _), X.out.ext (ext_drewN (ext_refl _) _), ext_drewN E.out _⟩
        case measure => simp [intOf]; omega
      have HQ := Lib.hid (show ∀ q y, k ≤ q → l[q]? = some y → decide (y.no < a.no) = false from fun q y hq hy => by
        by_cases h : q = k
        · subst h; rw [HX.out] at hy; cases hy; simpa using hxa
        · have := mono_of HL.out (show k < q by omega) HX.out hy; simp; omega)
      have HC := Lib.hid (cut_of hk HP.out HQ.out)
      have hz : decide (x.no < a.no) = false := by simpa using hxa
      clear hxa
      rename_i K2 a2
      have HA2 := Lib.hid a2
      clear a2
      go_wp2_with fail
      go_quiet (fail)
      go_wp2_with fail
      refine HA2.out _ _ ?_
      go_wp2_with fail
      obtain ⟨wq, hwq⟩ : ∃ wq, wq = wr.drewN nq := ⟨_, rfl⟩
      have D := ext_drewN (ext_refl wr) nq
      replace SL := Lib.hid (SL.out.ext D)
      replace X := Lib.hid (X.out.ext D)
      replace E := Lib.hid (ext_trans E.out D)
      rw [← hwq] at SL X E ⊢
      clear D hwq x0 hbx
      have hs1 := fun w : World => slice_headAg (some ⟨b1, o1, none⟩) l.length c k _ rfl (by omega) w
      have hs2 := fun w : World => slice_fromAg (some ⟨b1, o1, none⟩) l.length c k _ rfl hk hc w
      have HKT := Lib.hid (show (l.take k).length = k by simp; omega)
      have HPC := Lib.hid (show l.take k ++ [a] ++ l.drop k = putL l a by rw [List.append_assoc]; exact ins_cut HC.out a)
      have HKD := Lib.hid (show (l.drop k).length = l.length - k by simp)
      have SS := Lib.hid (show ∀ w', Below wq.heap.size wq w' → (fun w' => Below wq.heap.size wq w' ∧ w'.cell? ⟨w.heap.size, 0, none⟩ = some (.int .i64 a.no) ∧ w'.cell? ⟨w.heap.size, 1, none⟩ = some (.int .i64 a.f) ∧ w'.cell? ⟨w.heap.size, 2, none⟩ = some (.int .i64 a.t) ∧ w'.cell? ⟨w.heap.size, 3, none⟩ = some (.int .i64 a.m) ∧ w'.cell? ⟨w.heap.size, 4, none⟩ = some (.int .i64 a.r)) w' from fun w' h => ⟨h, (X.out.ext h).c 0 _ rfl, (X.out.ext h).c 1 _ rfl, (X.out.ext h).c 2 _ rfl, (X.out.ext h).c 3 _ rfl, (X.out.ext h).c 4 _ rfl⟩)
      refine rg_begin (S := (fun w' => Below wq.heap.size wq w' ∧ w'.cell? ⟨w.heap.size, 0, none⟩ = some (.int .i64 a.no) ∧ w'.cell? ⟨w.heap.size, 1, none⟩ = some (.int .i64 a.f) ∧ w'.cell? ⟨w.heap.size, 2, none⟩ = some (.int .i64 a.t) ∧ w'.cell? ⟨w.heap.size, 3, none⟩ = some (.int .i64 a.m) ∧ w'.cell? ⟨w.heap.size, 4, none⟩ = some (.int .i64 a.r))) 13 (by kernel_rfl) (by intro d; cases d <;> intro _ _ _ _ h <;> exact h) ?_ (fun Q7 hQ7 hN7 hHeld => ?_)
      · exact SS.out _ (ext_drew (ext_refl _))
      refine rg_take (i := 1) (some 23) (v := ?_) rfl rfl (by kernel_rfl) (by rfl) hQ7 hHeld ?_ ?_
      rotate_left
      · intro w7 hSw; (try dsimp only at hSw); go_simp; all_goals with_reducible rfl
      try simp only [Act.put, List.setIfInBounds_toArray, List.set_cons_zero, List.set_cons_succ]
      refine rg_take (i := 2) (some 24) (v := ?_) rfl rfl (by kernel_rfl) (by rfl) hQ7 hHeld ?_ ?_
      rotate_left
      · intro w7 hSw; (try dsimp only at hSw); go_simp; all_goals with_reducible rfl
      try simp only [Act.put, List.setIfInBounds_toArray, List.set_cons_zero, List.set_cons_succ]
      refine rg_take (i := 3) (some 25) (v := .slice (some ⟨b1, o1, none⟩) k c) rfl rfl (by kernel_rfl) (by rfl) hQ7 hHeld (fun w7 hSw => run_v (hs1 w7)) ?_
      try simp only [Act.put, List.setIfInBounds_toArray, List.set_cons_zero, List.set_cons_succ]
      refine rg_take (i := 5) (some 27) (v := ?_) rfl rfl (by kernel_rfl) (by rfl) hQ7 hHeld ?_ ?_
      rotate_left
      · intro w7 hSw; (try dsimp only at hSw); go_simp; all_goals with_reducible rfl
      try simp only [Act.put, List.setIfInBounds_toArray, List.set_cons_zero, List.set_cons_succ]
      refine rg_take (i := 8) (some 30) (v := ?_) rfl rfl (by kernel_rfl) (by rfl) hQ7 hHeld ?_ ?_
      rotate_left
      · intro w7 hSw; (try dsimp only at hSw); go_simp; all_goals with_reducible rfl
      try simp only [Act.put, List.setIfInBounds_toArray, List.set_cons_zero, List.set_cons_succ]
      refine rg_take (i := 9) (some 31) (v := ?_) rfl rfl (by kernel_rfl) (by rfl) hQ7 hHeld ?_ ?_
      rotate_left
      · intro w7 hSw; (try dsimp only at hSw); go_simp; all_goals with_reducible rfl
      try simp only [Act.put, List.setIfInBounds_toArray, List.set_cons_zero, List.set_cons_succ]
      refine rg_take (i := 10) (some 32) (v := .slice (fromAAg (some ⟨b1, o1, none⟩) c k) (l.length - k) (c - k)) rfl rfl (by kernel_rfl) (by rfl) hQ7 hHeld (fun w7 hSw => run_v (hs2 w7)) ?_
      try simp only [Act.put, List.setIfInBounds_toArray, List.set_cons_zero, List.set_cons_succ]
      refine rg_two (i := 0) (j := 6) (by kernel_rfl) (rg_step rfl (by rfl) (fun K hK => ?_)) (rg_step rfl (by rfl) (fun K hK => ?_))
      · go_simp
        refine hK.out _ _ ?_ (fun hHeld2 => ?_)
        · exact SS.out _ (ext_alloc hHeld.1 _)
        clear hHeld
        have hHeld := hHeld2
        clear hHeld2
        clear hK K
        try simp only [Act.put, List.setIfInBounds_toArray, List.set_cons_zero, List.set_cons_succ]
        refine rg_two (i := 4) (j := 6) (by kernel_rfl) (rg_step rfl (by rfl) (fun K hK => ?_)) (rg_step rfl (by rfl) (fun K hK => ?_))
        · refine rg_append (some 26) _ _ 22 22 rfl rfl rfl _ _ rfl rfl (Own.append_k (w0 := wq) agI 22 (Own.madeH wq wq.heap.size 26 Ag.cells 5 (by simp) wq.heap.size (by simp)).drew_ hHeld.1 (ys := l.take k) (m := k) HKT.out.symm c ((SL.out.ext hHeld.1).take k) (l.take k) rfl k HKT.out (by omega) (by unfold maxLen; omega)) ?_
          rintro _ w1 ⟨A1, c1, rfl, hO1, B1, hg1, hc1, hm1⟩
          refine hK.out _ _ ?_ (fun hHeld2 => ?_)
          · exact SS.out _ B1
          clear hHeld
          have hHeld := hHeld2
          clear hHeld2
          clear hK K
          try simp only [Act.put, List.setIfInBounds_toArray, List.set_cons_zero, List.set_cons_succ]
          refine rg_one (i := 6) (by kernel_rfl) (rg_step rfl (by rfl) (fun K hK => ?_))
          go_simp
          refine hK.out _ _ ?_ (fun hHeld2 => ?_)
          · exact SS.out _ (ext_alloc hHeld.1 _)
          clear hHeld
          have hHeld := hHeld2
          clear hHeld2
          clear hK K
          try simp only [Act.put, List.setIfInBounds_toArray, List.set_cons_zero, List.set_cons_succ]
          refine rg_one (i := 7) (by kernel_rfl) (rg_step rfl (by rfl) (fun K hK => ?_))
          refine rg_append (some 29) _ _ 22 22 rfl rfl rfl _ _ rfl rfl (Own.append_k (w0 := wq) agI 22 (hO1.alloc _) hHeld.1 (ys := [a]) (m := 1) rfl 1 (slc_litH w1 [a] _ 26 (enc := Ag.cells) (sz := 5) (fun _ => rfl) rfl w1.heap.size (by first | rfl | simp)) (l.take k ++ [a]) rfl (k + 1) (by simp [HKT.out]) (by omega) (by unfold maxLen; omega)) ?_
          rintro _ w2 ⟨A2, c2, rfl, hO2, B2, hg2, hc2, hm2⟩
          refine hK.out _ _ ?_ (fun hHeld2 => ?_)
          · exact SS.out _ B2
          clear hHeld
          have hHeld := hHeld2
          clear hHeld2
          clear hK K
          try simp only [Act.put, List.setIfInBounds_toArray, List.set_cons_zero, List.set_cons_succ]
          refine rg_one (i := 11) (by kernel_rfl) (rg_step rfl (by rfl) (fun K hK => ?_))
          refine rg_append (some 33) _ _ 22 22 rfl rfl rfl _ _ rfl rfl (Own.append_k (w0 := wq) agI 22 hO2 hHeld.1 (ys := l.drop k) (m := l.length - k) HKD.out.symm (c - k) (slc_from SL.out hHeld.1 k c hc) (putL l a) HPC.out (l.length + 1) ins_len (by omega) (by unfold maxLen; omega)) ?_
          rintro _ w3 ⟨A3, c3, rfl, hO3, B3, hg3, hc3, hm3⟩
          refine hK.out _ _ ?_ (fun hHeld2 => ?_)
          · exact SS.out _ B3
          clear hHeld
          have hHeld := hHeld2
          clear hHeld2
          clear hK K
          try simp only [Act.put, List.setIfInBounds_toArray, List.set_cons_zero, List.set_cons_succ]
          refine rg_take (i := 12) (some 4) (v := ?_) rfl rfl (by kernel_rfl) (by rfl) hQ7 hHeld ?_ ?_
          rotate_left
          · intro w7 hSw; (try dsimp only at hSw); go_simp; all_goals with_reducible rfl
          try simp only [Act.put, List.setIfInBounds_toArray, List.set_cons_zero, List.set_cons_succ]
          refine rg_end (by kernel_rfl) (hN7 _ _ ?_) _
          clear hQ7 hN7 Q7
          have BX := hHeld.1
          clear SS
          go_wp2_with fail
          go_ret
          have hlen := ins_len (p := fun x : Ag => decide (x.no < a.no)) (l := l) (a := a)
          have hO4 := hO3.low E.out.size
          unfold PutR
          rw [show (putL l a).length = l.length + 1 from hlen]
          exact ⟨A3, c3, rfl, hO4, ext_trans E.out BX⟩
        · go_simp
          refine hK.out _ _ ?_ (fun hHeld2 => ?_)
          · exact SS.out _ (ext_alloc hHeld.1 _)
          clear hHeld
          have hHeld := hHeld2
          clear hHeld2
          clear hK K
          try simp only [Act.put, List.setIfInBounds_toArray, List.set_cons_zero, List.set_cons_succ]
          refine rg_one (i := 4) (by kernel_rfl) (rg_step rfl (by rfl) (fun K hK => ?_))
          refine rg_append (some 26) _ _ 22 22 rfl rfl rfl _ _ rfl rfl (Own.append_k (w0 := wq) agI 22 ((Own.madeH wq wq.heap.size 26 Ag.cells 5 (by simp) wq.heap.size (by simp)).alloc _).drew_ hHeld.1 (ys := l.take k) (m := k) HKT.out.symm c ((SL.out.ext hHeld.1).take k) (l.take k) rfl k HKT.out (by omega) (by unfold maxLen; omega)) ?_
          rintro _ w1 ⟨A1, c1, rfl, hO1, B1, hg1, hc1, hm1⟩
          refine hK.out _ _ ?_ (fun hHeld2 => ?_)
          · exact SS.out _ B1
          clear hHeld
          have hHeld := hHeld2
          clear hHeld2
          clear hK K
          try simp only [Act.put, List.setIfInBounds_toArray, List.set_cons_zero, List.set_cons_succ]
          refine rg_one (i := 7) (by kernel_rfl) (rg_step rfl (by rfl) (fun K hK => ?_))
          refine rg_append (some 29) _ _ 22 22 rfl rfl rfl _ _ rfl rfl (Own.append_k (w0 := wq) agI 22 hO1 hHeld.1 (ys := [a]) (m := 1) rfl 1 ((slc_litH _ [a] _ 26 (enc := Ag.cells) (sz := 5) (fun _ => rfl) rfl (wq.heap.size + 1) (by first | rfl | simp)).drew_.grown hg1 (fun b o s e => by cases e; simp [Value.ownBlock])) (l.take k ++ [a]) rfl (k + 1) (by simp [HKT.out]) (by omega) (by unfold maxLen; omega)) ?_
          rintro _ w2 ⟨A2, c2, rfl, hO2, B2, hg2, hc2, hm2⟩
          refine hK.out _ _ ?_ (fun hHeld2 => ?_)
          · exact SS.out _ B2
          clear hHeld
          have hHeld := hHeld2
          clear hHeld2
          clear hK K
          try simp only [Act.put, List.setIfInBounds_toArray, List.set_cons_zero, List.set_cons_succ]
          refine rg_one (i := 11) (by kernel_rfl) (rg_step rfl (by rfl) (fun K hK => ?_))
          refine rg_append (some 33) _ _ 22 22 rfl rfl rfl _ _ rfl rfl (Own.append_k (w0 := wq) agI 22 hO2 hHeld.1 (ys := l.drop k) (m := l.length - k) HKD.out.symm (c - k) (slc_from SL.out hHeld.1 k c hc) (putL l a) HPC.out (l.length + 1) ins_len (by omega) (by unfold maxLen; omega)) ?_
          rintro _ w3 ⟨A3, c3, rfl, hO3, B3, hg3, hc3, hm3⟩
          refine hK.out _ _ ?_ (fun hHeld2 => ?_)
          · exact SS.out _ B3
          clear hHeld
          have hHeld := hHeld2
          clear hHeld2
          clear hK K
          try simp only [Act.put, List.setIfInBounds_toArray, List.set_cons_zero, List.set_cons_succ]
          refine rg_take (i := 12) (some 4) (v := ?_) rfl rfl (by kernel_rfl) (by rfl) hQ7 hHeld ?_ ?_
          rotate_left
          · intro w7 hSw; (try dsimp only at hSw); go_simp; all_goals with_reducible rfl
          try simp only [Act.put, List.setIfInBounds_toArray, List.set_cons_zero, List.set_cons_succ]
          refine rg_end (by kernel_rfl) (hN7 _ _ ?_) _
          clear hQ7 hN7 Q7
          have BX := hHeld.1
          clear SS
          go_wp2_with fail
          go_ret
          have hlen := ins_len (p := fun x : Ag => decide (x.no < a.no)) (l := l) (a := a)
          have hO4 := hO3.low E.out.size
          unfold PutR
          rw [show (putL l a).length = l.length + 1 from hlen]
          exact ⟨A3, c3, rfl, hO4, ext_trans E.out BX⟩
      · go_simp
        refine hK.out _ _ ?_ (fun hHeld2 => ?_)
        · exact SS.out _ (ext_alloc hHeld.1 _)
        clear hHeld
        have hHeld := hHeld2
        clear hHeld2
        clear hK K
        try simp only [Act.put, List.setIfInBounds_toArray, List.set_cons_zero, List.set_cons_succ]
        refine rg_one (i := 0) (by kernel_rfl) (rg_step rfl (by rfl) (fun K hK => ?_))
        go_simp
        refine hK.out _ _ ?_ (fun hHeld2 => ?_)
        · exact SS.out _ (ext_alloc hHeld.1 _)
        clear hHeld
        have hHeld := hHeld2
        clear hHeld2
        clear hK K
        try simp only [Act.put, List.setIfInBounds_toArray, List.set_cons_zero, List.set_cons_succ]
        refine rg_one (i := 4) (by kernel_rfl) (rg_step rfl (by rfl) (fun K hK => ?_))
        refine rg_append (some 26) _ _ 22 22 rfl rfl rfl _ _ rfl rfl (Own.append_k (w0 := wq) agI 22 (Own.madeH _ wq.heap.size 26 Ag.cells 5 (by simp) (wq.heap.size + 1) (by simp)).drew_ hHeld.1 (ys := l.take k) (m := k) HKT.out.symm c ((SL.out.ext hHeld.1).take k) (l.take k) rfl k HKT.out (by omega) (by unfold maxLen; omega)) ?_
        rintro _ w1 ⟨A1, c1, rfl, hO1, B1, hg1, hc1, hm1⟩
        refine hK.out _ _ ?_ (fun hHeld2 => ?_)
        · exact SS.out _ B1
        clear hHeld
        have hHeld := hHeld2
        clear hHeld2
        clear hK K
        try simp only [Act.put, List.setIfInBounds_toArray, List.set_cons_zero, List.set_cons_succ]
        refine rg_one (i := 7) (by kernel_rfl) (rg_step rfl (by rfl) (fun K hK => ?_))
        refine rg_append (some 29) _ _ 22 22 rfl rfl rfl _ _ rfl rfl (Own.append_k (w0 := wq) agI 22 hO1 hHeld.1 (ys := [a]) (m := 1) rfl 1 (((slc_litH _ [a] _ 26 (enc := Ag.cells) (sz := 5) (fun _ => rfl) rfl wq.heap.size (by first | rfl | simp)).alloc _).drew_.grown hg1 (fun b o s e => by cases e; simp [Value.ownBlock])) (l.take k ++ [a]) rfl (k + 1) (by simp [HKT.out]) (by omega) (by unfold maxLen; omega)) ?_
        rintro _ w2 ⟨A2, c2, rfl, hO2, B2, hg2, hc2, hm2⟩
        refine hK.out _ _ ?_ (fun hHeld2 => ?_)
        · exact SS.out _ B2
        clear hHeld
        have hHeld := hHeld2
        clear hHeld2
        clear hK K
        try simp only [Act.put, List.setIfInBounds_toArray, List.set_cons_zero, List.set_cons_succ]
        refine rg_one (i := 11) (by kernel_rfl) (rg_step rfl (by rfl) (fun K hK => ?_))
        refine rg_append (some 33) _ _ 22 22 rfl rfl rfl _ _ rfl rfl (Own.append_k (w0 := wq) agI 22 hO2 hHeld.1 (ys := l.drop k) (m := l.length - k) HKD.out.symm (c - k) (slc_from SL.out hHeld.1 k c hc) (putL l a) HPC.out (l.length + 1) ins_len (by omega) (by unfold maxLen; omega)) ?_
        rintro _ w3 ⟨A3, c3, rfl, hO3, B3, hg3, hc3, hm3⟩
        refine hK.out _ _ ?_ (fun hHeld2 => ?_)
        · exact SS.out _ B3
        clear hHeld
        have hHeld := hHeld2
        clear hHeld2
        clear hK K
        try simp only [Act.put, List.setIfInBounds_toArray, List.set_cons_zero, List.set_cons_succ]
        refine rg_take (i := 12) (some 4) (v := ?_) rfl rfl (by kernel_rfl) (by rfl) hQ7 hHeld ?_ ?_
        rotate_left
        · intro w7 hSw; (try dsimp only at hSw); go_simp; all_goals with_reducible rfl
        try simp only [Act.put, List.setIfInBounds_toArray, List.set_cons_zero, List.set_cons_succ]
        refine rg_end (by kernel_rfl) (hN7 _ _ ?_) _
        clear hQ7 hN7 Q7
        have BX := hHeld.1
        clear SS
        go_wp2_with fail
        go_ret
        have hlen := ins_len (p := fun x : Ag => decide (x.no < a.no)) (l := l) (a := a)
        have hO4 := hO3.low E.out.size
        unfold PutR
        rw [show (putL l a).length = l.length + 1 from hlen]
        exact ⟨A3, c3, rfl, hO4, ext_trans E.out BX⟩
    · have hge : ¬ (k : Int) < l.length := by omega
      have hz : decide ((k : Int) < l.length) = false := by simp; omega
      have HQ := Lib.hid (show ∀ q y, k ≤ q → l[q]? = some y → decide (y.no < a.no) = false from fun q y hq hy => by have := (List.getElem?_eq_some_iff.1 hy).1; omega)
      have HC := Lib.hid (cut_of hk HP.out HQ.out)
      rename_i K2 a2
      have HA2 := Lib.hid a2
      clear a2
      go_wp2_with fail
      go_quiet (fail)
      go_wp2_with fail
      refine HA2.out _ _ ?_
      go_wp2_with fail
      obtain ⟨wq, hwq⟩ : ∃ wq, wq = wr.drewN nq := ⟨_, rfl⟩
      have D := ext_drewN (ext_refl wr) nq
      replace SL := Lib.hid (SL.out.ext D)
      replace X := Lib.hid (X.out.ext D)
      replace E := Lib.hid (ext_trans E.out D)
      rw [← hwq] at SL X E ⊢
      clear D hwq x0 hbx
      have hs1 := fun w : World => slice_headAg A l.length c k _ rfl (by omega) w
      have hs2 := fun w : World => slice_fromAg A l.length c k _ rfl hk hc w
      have HKT := Lib.hid (show (l.take k).length = k by simp; omega)
      have HPC := Lib.hid (show l.take k ++ [a] ++ l.drop k = putL l a by rw [List.append_assoc]; exact ins_cut HC.out a)
      have HKD := Lib.hid (show (l.drop k).length = l.length - k by simp)
      have SS := Lib.hid (show ∀ w', Below wq.heap.size wq w' → (fun w' => Below wq.heap.size wq w' ∧ w'.cell? ⟨w.heap.size, 0, none⟩ = some (.int .i64 a.no) ∧ w'.cell? ⟨w.heap.size, 1, none⟩ = some (.int .i64 a.f) ∧ w'.cell? ⟨w.heap.size, 2, none⟩ = some (.int .i64 a.t) ∧ w'.cell? ⟨w.heap.size, 3, none⟩ = some (.int .i64 a.m) ∧ w'.cell? ⟨w.heap.size, 4, none⟩ = some (.int .i64 a.r)) w' from fun w' h => ⟨h, (X.out.ext h).c 0 _ rfl, (X.out.ext h).c 1 _ rfl, (X.out.ext h).c 2 _ rfl, (X.out.ext h).c 3 _ rfl, (X.out.ext h).c 4 _ rfl⟩)
      refine rg_begin (S := (fun w' => Below wq.heap.size wq w' ∧ w'.cell? ⟨w.heap.size, 0, none⟩ = some (.int .i64 a.no) ∧ w'.cell? ⟨w.heap.size, 1, none⟩ = some (.int .i64 a.f) ∧ w'.cell? ⟨w.heap.size, 2, none⟩ = some (.int .i64 a.t) ∧ w'.cell? ⟨w.heap.size, 3, none⟩ = some (.int .i64 a.m) ∧ w'.cell? ⟨w.heap.size, 4, none⟩ = some (.int .i64 a.r))) 13 (by kernel_rfl) (by intro d; cases d <;> intro _ _ _ _ h <;> exact h) ?_ (fun Q7 hQ7 hN7 hHeld => ?_)
      · exact SS.out _ (ext_drew (ext_refl _))
      refine rg_take (i := 1) (some 23) (v := ?_) rfl rfl (by kernel_rfl) (by rfl) hQ7 hHeld ?_ ?_
      rotate_left
      · intro w7 hSw; (try dsimp only at hSw); go_simp; all_goals with_reducible rfl
      try simp only [Act.put, List.setIfInBounds_toArray, List.set_cons_zero, List.set_cons_succ]
      refine rg_take (i := 2) (some 24) (v := ?_) rfl rfl (by kernel_rfl) (by rfl) hQ7 hHeld ?_ ?_
      rotate_left
      · intro w7 hSw; (try dsimp only at hSw); go_simp; all_goals with_reducible rfl
      try simp only [Act.put, List.setIfInBounds_toArray, List.set_cons_zero, List.set_cons_succ]
      refine rg_take (i := 3) (some 25) (v := .slice A k c) rfl rfl (by kernel_rfl) (by rfl) hQ7 hHeld (fun w7 hSw => run_v (hs1 w7)) ?_
      try simp only [Act.put, List.setIfInBounds_toArray, List.set_cons_zero, List.set_cons_succ]
      refine rg_take (i := 5) (some 27) (v := ?_) rfl rfl (by kernel_rfl) (by rfl) hQ7 hHeld ?_ ?_
      rotate_left
      · intro w7 hSw; (try dsimp only at hSw); go_simp; all_goals with_reducible rfl
      try simp only [Act.put, List.setIfInBounds_toArray, List.set_cons_zero, List.set_cons_succ]
      refine rg_take (i := 8) (some 30) (v := ?_) rfl rfl (by kernel_rfl) (by rfl) hQ7 hHeld ?_ ?_
      rotate_left
      · intro w7 hSw; (try dsimp only at hSw); go_simp; all_goals with_reducible rfl
      try simp only [Act.put, List.setIfInBounds_toArray, List.set_cons_zero, List.set_cons_succ]
      refine rg_take (i := 9) (some 31) (v := ?_) rfl rfl (by kernel_rfl) (by rfl) hQ7 hHeld ?_ ?_
      rotate_left
      · intro w7 hSw; (try dsimp only at hSw); go_simp; all_goals with_reducible rfl
      try simp only [Act.put, List.setIfInBounds_toArray, List.set_cons_zero, List.set_cons_succ]
      refine rg_take (i := 10) (some 32) (v := .slice (fromAAg A c k) (l.length - k) (c - k)) rfl rfl (by kernel_rfl) (by rfl) hQ7 hHeld (fun w7 hSw => run_v (hs2 w7)) ?_
      try simp only [Act.put, List.setIfInBounds_toArray, List.set_cons_zero, List.set_cons_succ]
      refine rg_two (i := 0) (j := 6) (by kernel_rfl) (rg_step rfl (by rfl) (fun K hK => ?_)) (rg_step rfl (by rfl) (fun K hK => ?_))
      · go_simp
        refine hK.out _ _ ?_ (fun hHeld2 => ?_)
        · exact SS.out _ (ext_alloc hHeld.1 _)
        clear hHeld
        have hHeld := hHeld2
        clear hHeld2
        clear hK K
        try simp only [Act.put, List.setIfInBounds_toArray, List.set_cons_zero, List.set_cons_succ]
        refine rg_two (i := 4) (j := 6) (by kernel_rfl) (rg_step rfl (by rfl) (fun K hK => ?_)) (rg_step rfl (by rfl) (fun K hK => ?_))
        · refine rg_append (some 26) _ _ 22 22 rfl rfl rfl _ _ rfl rfl (Own.append_k (w0 := wq) agI 22 (Own.madeH wq wq.heap.size 26 Ag.cells 5 (by simp) wq.heap.size (by simp)).drew_ hHeld.1 (ys := l.take k) (m := k) HKT.out.symm c ((SL.out.ext hHeld.1).take k) (l.take k) rfl k HKT.out (by omega) (by unfold maxLen; omega)) ?_
          rintro _ w1 ⟨A1, c1, rfl, hO1, B1, hg1, hc1, hm1⟩
          refine hK.out _ _ ?_ (fun hHeld2 => ?_)
          · exact SS.out _ B1
          clear hHeld
          have hHeld := hHeld2
          clear hHeld2
          clear hK K
          try simp only [Act.put, List.setIfInBounds_toArray, List.set_cons_zero, List.set_cons_succ]
          refine rg_one (i := 6) (by kernel_rfl) (rg_step rfl (by rfl) (fun K hK => ?_))
          go_simp
          refine hK.out _ _ ?_ (fun hHeld2 => ?_)
          · exact SS.out _ (ext_alloc hHeld.1 _)
          clear hHeld
          have hHeld := hHeld2
          clear hHeld2
          clear hK K
          try simp only [Act.put, List.setIfInBounds_toArray, List.set_cons_zero, List.set_cons_succ]
          refine rg_one (i := 7) (by kernel_rfl) (rg_step rfl (by rfl) (fun K hK => ?_))
          refine rg_append (some 29) _ _ 22 22 rfl rfl rfl _ _ rfl rfl (Own.append_k (w0 := wq) agI 22 (hO1.alloc _) hHeld.1 (ys := [a]) (m := 1) rfl 1 (slc_litH w1 [a] _ 26 (enc := Ag.cells) (sz := 5) (fun _ => rfl) rfl w1.heap.size (by first | rfl | simp)) (l.take k ++ [a]) rfl (k + 1) (by simp [HKT.out]) (by omega) (by unfold maxLen; omega)) ?_
          rintro _ w2 ⟨A2, c2, rfl, hO2, B2, hg2, hc2, hm2⟩
          refine hK.out _ _ ?_ (fun hHeld2 => ?_)
          · exact SS.out _ B2
          clear hHeld
          have hHeld := hHeld2
          clear hHeld2
          clear hK K
          try simp only [Act.put, List.setIfInBounds_toArray, List.set_cons_zero, List.set_cons_succ]
          refine rg_one (i := 11) (by kernel_rfl) (rg_step rfl (by rfl) (fun K hK => ?_))
          refine rg_append (some 33) _ _ 22 22 rfl rfl rfl _ _ rfl rfl (Own.append_k (w0 := wq) agI 22 hO2 hHeld.1 (ys := l.drop k) (m := l.length - k) HKD.out.symm (c - k) (slc_from SL.out hHeld.1 k c hc) (putL l a) HPC.out (l.length + 1) ins_len (by omega) (by unfold maxLen; omega)) ?_
          rintro _ w3 ⟨A3, c3, rfl, hO3, B3, hg3, hc3, hm3⟩
          refine hK.out _ _ ?_ (fun hHeld2 => ?_)
          · exact SS.out _ B3
          clear hHeld
          have hHeld := hHeld2
          clear hHeld2
          clear hK K
          try simp only [Act.put, List.setIfInBounds_toArray, List.set_cons_zero, List.set_cons_succ]
          refine rg_take (i := 12) (some 4) (v := ?_) rfl rfl (by kernel_rfl) (by rfl) hQ7 hHeld ?_ ?_
          rotate_left
          · intro w7 hSw; (try dsimp only at hSw); go_simp; all_goals with_reducible rfl
          try simp only [Act.put, List.setIfInBounds_toArray, List.set_cons_zero, List.set_cons_succ]
          refine rg_end (by kernel_rfl) (hN7 _ _ ?_) _
          clear hQ7 hN7 Q7
          have BX := hHeld.1
          clear SS
          go_wp2_with fail
          go_ret
          have hlen := ins_len (p := fun x : Ag => decide (x.no < a.no)) (l := l) (a := a)
          have hO4 := hO3.low E.out.size
          unfold PutR
          rw [show (putL l a).length = l.length + 1 from hlen]
          exact ⟨A3, c3, rfl, hO4, ext_trans E.out BX⟩
        · go_simp
          refine hK.out _ _ ?_ (fun hHeld2 => ?_)
          · exact SS.out _ (ext_alloc hHeld.1 _)
          clear hHeld
          have hHeld := hHeld2
          clear hHeld2
          clear hK K
          try simp only [Act.put, List.setIfInBounds_toArray, List.set_cons_zero, List.set_cons_succ]
          refine rg_one (i := 4) (by kernel_rfl) (rg_step rfl (by rfl) (fun K hK => ?_))
          refine rg_append (some 26) _ _ 22 22 rfl rfl rfl _ _ rfl rfl (Own.append_k (w0 := wq) agI 22 ((Own.madeH wq wq.heap.size 26 Ag.cells 5 (by simp) wq.heap.size (by simp)).alloc _).drew_ hHeld.1 (ys := l.take k) (m := k) HKT.out.symm c ((SL.out.ext hHeld.1).take k) (l.take k) rfl k HKT.out (by omega) (by unfold maxLen; omega)) ?_
          rintro _ w1 ⟨A1, c1, rfl, hO1, B1, hg1, hc1, hm1⟩
          refine hK.out _ _ ?_ (fun hHeld2 => ?_)
          · exact SS.out _ B1
          clear hHeld
          have hHeld := hHeld2
          clear hHeld2
          clear hK K
          try simp only [Act.put, List.setIfInBounds_toArray, List.set_cons_zero, List.set_cons_succ]
          refine rg_one (i := 7) (by kernel_rfl) (rg_step rfl (by rfl) (fun K hK => ?_))
          refine rg_append (some 29) _ _ 22 22 rfl rfl rfl _ _ rfl rfl (Own.append_k (w0 := wq) agI 22 hO1 hHeld.1 (ys := [a]) (m := 1) rfl 1 ((slc_litH _ [a] _ 26 (enc := Ag.cells) (sz := 5) (fun _ => rfl) rfl (wq.heap.size + 1) (by first | rfl | simp)).drew_.grown hg1 (fun b o s e => by cases e; simp [Value.ownBlock])) (l.take k ++ [a]) rfl (k + 1) (by simp [HKT.out]) (by omega) (by unfold maxLen; omega)) ?_
          rintro _ w2 ⟨A2, c2, rfl, hO2, B2, hg2, hc2, hm2⟩
          refine hK.out _ _ ?_ (fun hHeld2 => ?_)
          · exact SS.out _ B2
          clear hHeld
          have hHeld := hHeld2
          clear hHeld2
          clear hK K
          try simp only [Act.put, List.setIfInBounds_toArray, List.set_cons_zero, List.set_cons_succ]
          refine rg_one (i := 11) (by kernel_rfl) (rg_step rfl (by rfl) (fun K hK => ?_))
          refine rg_append (some 33) _ _ 22 22 rfl rfl rfl _ _ rfl rfl (Own.append_k (w0 := wq) agI 22 hO2 hHeld.1 (ys := l.drop k) (m := l.length - k) HKD.out.symm (c - k) (slc_from SL.out hHeld.1 k c hc) (putL l a) HPC.out (l.length + 1) ins_len (by omega) (by unfold maxLen; omega)) ?_
          rintro _ w3 ⟨A3, c3, rfl, hO3, B3, hg3, hc3, hm3⟩
          refine hK.out _ _ ?_ (fun hHeld2 => ?_)
          · exact SS.out _ B3
          clear hHeld
          have hHeld := hHeld2
          clear hHeld2
          clear hK K
          try simp only [Act.put, List.setIfInBounds_toArray, List.set_cons_zero, List.set_cons_succ]
          refine rg_take (i := 12) (some 4) (v := ?_) rfl rfl (by kernel_rfl) (by rfl) hQ7 hHeld ?_ ?_
          rotate_left
          · intro w7 hSw; (try dsimp only at hSw); go_simp; all_goals with_reducible rfl
          try simp only [Act.put, List.setIfInBounds_toArray, List.set_cons_zero, List.set_cons_succ]
          refine rg_end (by kernel_rfl) (hN7 _ _ ?_) _
          clear hQ7 hN7 Q7
          have BX := hHeld.1
          clear SS
          go_wp2_with fail
          go_ret
          have hlen := ins_len (p := fun x : Ag => decide (x.no < a.no)) (l := l) (a := a)
          have hO4 := hO3.low E.out.size
          unfold PutR
          rw [show (putL l a).length = l.length + 1 from hlen]
          exact ⟨A3, c3, rfl, hO4, ext_trans E.out BX⟩
      · go_simp
        refine hK.out _ _ ?_ (fun hHeld2 => ?_)
        · exact SS.out _ (ext_alloc hHeld.1 _)
        clear hHeld
        have hHeld := hHeld2
        clear hHeld2
        clear hK K
        try simp only [Act.put, List.setIfInBounds_toArray, List.set_cons_zero, List.set_cons_succ]
        refine rg_one (i := 0) (by kernel_rfl) (rg_step rfl (by rfl) (fun K hK => ?_))
        go_simp
        refine hK.out _ _ ?_ (fun hHeld2 => ?_)
        · exact SS.out _ (ext_alloc hHeld.1 _)
        clear hHeld
        have hHeld := hHeld2
        clear hHeld2
        clear hK K
        try simp only [Act.put, List.setIfInBounds_toArray, List.set_cons_zero, List.set_cons_succ]
        refine rg_one (i := 4) (by kernel_rfl) (rg_step rfl (by rfl) (fun K hK => ?_))
        refine rg_append (some 26) _ _ 22 22 rfl rfl rfl _ _ rfl rfl (Own.append_k (w0 := wq) agI 22 (Own.madeH _ wq.heap.size 26 Ag.cells 5 (by simp) (wq.heap.size + 1) (by simp)).drew_ hHeld.1 (ys := l.take k) (m := k) HKT.out.symm c ((SL.out.ext hHeld.1).take k) (l.take k) rfl k HKT.out (by omega) (by unfold maxLen; omega)) ?_
        rintro _ w1 ⟨A1, c1, rfl, hO1, B1, hg1, hc1, hm1⟩
        refine hK.out _ _ ?_ (fun hHeld2 => ?_)
        · exact SS.out _ B1
        clear hHeld
        have hHeld := hHeld2
        clear hHeld2
        clear hK K
        try simp only [Act.put, List.setIfInBounds_toArray, List.set_cons_zero, List.set_cons_succ]
        refine rg_one (i := 7) (by kernel_rfl) (rg_step rfl (by rfl) (fun K hK => ?_))
        refine rg_append (some 29) _ _ 22 22 rfl rfl rfl _ _ rfl rfl (Own.append_k (w0 := wq) agI 22 hO1 hHeld.1 (ys := [a]) (m := 1) rfl 1 (((slc_litH _ [a] _ 26 (enc := Ag.cells) (sz := 5) (fun _ => rfl) rfl wq.heap.size (by first | rfl | simp)).alloc _).drew_.grown hg1 (fun b o s e => by cases e; simp [Value.ownBlock])) (l.take k ++ [a]) rfl (k + 1) (by simp [HKT.out]) (by omega) (by unfold maxLen; omega)) ?_
        rintro _ w2 ⟨A2, c2, rfl, hO2, B2, hg2, hc2, hm2⟩
        refine hK.out _ _ ?_ (fun hHeld2 => ?_)
        · exact SS.out _ B2
        clear hHeld
        have hHeld := hHeld2
        clear hHeld2
        clear hK K
        try simp only [Act.put, List.setIfInBounds_toArray, List.set_cons_zero, List.set_cons_succ]
        refine rg_one (i := 11) (by kernel_rfl) (rg_step rfl (by rfl) (fun K hK => ?_))
        refine rg_append (some 33) _ _ 22 22 rfl rfl rfl _ _ rfl rfl (Own.append_k (w0 := wq) agI 22 hO2 hHeld.1 (ys := l.drop k) (m := l.length - k) HKD.out.symm (c - k) (slc_from SL.out hHeld.1 k c hc) (putL l a) HPC.out (l.length + 1) ins_len (by omega) (by unfold maxLen; omega)) ?_
        rintro _ w3 ⟨A3, c3, rfl, hO3, B3, hg3, hc3, hm3⟩
        refine hK.out _ _ ?_ (fun hHeld2 => ?_)
        · exact SS.out _ B3
        clear hHeld
        have hHeld := hHeld2
        clear hHeld2
        clear hK K
        try simp only [Act.put, List.setIfInBounds_toArray, List.set_cons_zero, List.set_cons_succ]
        refine rg_take (i := 12) (some 4) (v := ?_) rfl rfl (by kernel_rfl) (by rfl) hQ7 hHeld ?_ ?_
        rotate_left
        · intro w7 hSw; (try dsimp only at hSw); go_simp; all_goals with_reducible rfl
        try simp only [Act.put, List.setIfInBounds_toArray, List.set_cons_zero, List.set_cons_succ]
        refine rg_end (by kernel_rfl) (hN7 _ _ ?_) _
        clear hQ7 hN7 Q7
        have BX := hHeld.1
        clear SS
        go_wp2_with fail
        go_ret
        have hlen := ins_len (p := fun x : Ag => decide (x.no < a.no)) (l := l) (a := a)
        have hO4 := hO3.low E.out.size
        unfold PutR
        rw [show (putL l a).length = l.length + 1 from hlen]
        exact ⟨A3, c3, rfl, hO4, ext_trans E.out BX⟩
end Go.Proofs.Ytmnbeikhjbjpiaa
