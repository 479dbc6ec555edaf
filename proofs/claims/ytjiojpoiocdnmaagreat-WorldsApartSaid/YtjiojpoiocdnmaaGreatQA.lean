/- Lists of rows of Booleans compared: Same, within. -/
import Derived.Test.YtjiojpoiocdnmaaGreatPB
set_option linter.unusedSimpArgs false
set_option linter.unusedVariables false
namespace Go.Proofs.YtjiojpoiocdnmaaGreat
open Go.RowKit Go.Shelf
theorem take_snoc_eq {α : Type} {a b : List α} {k : Nat} {x y : α} (ha : a[k]? = some x) (hb : b[k]? = some y) (h : a.take k = b.take k) (e : x = y) : a.take (k + 1) = b.take (k + 1) := by
  rw [take_snoc2 ha, take_snoc2 hb, h, e]
theorem map_at {rows : List BR} {k : Nat} {x : BR} (h : rows[k]? = some x) : (rows.map (·.l))[k]? = some x.l := by simp [h]
set_option maxRecDepth 100000 in
set_option maxHeartbeats 8000000 in
theorem same_at {A A2 : Option Addr} {n n2 c c2 : Nat} {r1 r2 : List BR} {w : World} (B : Bool) (hB : decide (r1.map (·.l) = r2.map (·.l)) = B) (hn : n = r1.length) (hn2 : n2 = r2.length) (hl : r1.length ≤ 100000) (h1 : Slc w BR.enc 1 A r1) (h2 : Slc w BR.enc 1 A2 r2) (k1 : ∀ x ∈ r1, x.ok w) (k2 : ∀ x ∈ r2, x.ok w) (hm : ∀ x ∈ r1, x.l.length ≤ 100000) :
    Calls Tryz.prog 13 #[.slice A n c, .slice A2 n2 c2] w (RetB w B) := by
  have HB := Lib.hid hB
  have HN1 := Lib.hid hn
  have HN2 := Lib.hid hn2
  have HL := Lib.hid hl
  have H1 := Lib.hid h1
  have H2 := Lib.hid h2
  have K1 := Lib.hid k1
  have K2 := Lib.hid k2
  have HM := Lib.hid hm
  clear hB hn hn2 hl h1 h2 k1 k2 hm
  have hnl : n ≤ 100000 := by rw [HN1.out]; exact HL.out
  by_cases hlen : n = n2
  rotate_left
  · obtain rfl : B = false := by
      rw [← HB.out]
      refine decide_eq_false (fun e => hlen ?_)
      have := congrArg List.length e
      rw [List.length_map, List.length_map] at this
      rw [HN1.out, HN2.out, this]
    have hbf : ((n : Int) == (n2 : Int)) = false := by rw [beq_eq_false_iff_ne]; omega
    clear hlen
    go_enter Tryz.func13, Tryz.ntmps13
    go_wp2_with fail
    go_ret
    exact ⟨rfl, ext_refl _⟩
  · subst hlen
    go_enter Tryz.func13, Tryz.ntmps13
    go_wp2_with fail
    go_loopw [5] (fun i wr => ∃ k : Nat, k ≤ n ∧ i = .int .i64 k ∧ Hid ((r1.map (·.l)).take k = (r2.map (·.l)).take k) ∧ Hid (Below w.heap.size w wr)) (fun i _ => n - (intOf i).toNat)
    case atStart => exact ⟨0, by omega, rfl, by simp [Hid], ext_refl _⟩
    case round =>
      obtain ⟨k, hk, rfl, HR, HE⟩ := hrel
      obtain ⟨wo, rfl⟩ : ∃ wo, wo = wr := ⟨_, rfl⟩
      by_cases hlt : k < n
      rotate_left
      · obtain rfl : k = n := by omega
        have hkn : ¬ (k : Int) < (k : Int) := by omega
        obtain rfl : B = true := by
          rw [← HB.out]
          have hn1 := HN1.out
          have hn2 := HN2.out
          have := HR.out
          rw [List.take_of_length_le (by simp; omega), List.take_of_length_le (by simp; omega)] at this
          exact decide_eq_true this
        go_wp2_with fail
        go_ret
        exact ⟨rfl, HE.out⟩
      · have hki : (k : Int) < (n : Int) := by omega
        obtain ⟨x1, b1, o1, hx1, hA1, hb1, hc1⟩ := (H1.out.below (Nat.le_refl _) HE.out).at_ (k := k) (by rw [← HN1.out]; exact hlt)
        obtain ⟨x2, b2, o2, hx2, hA2, hb2, hc2⟩ := (H2.out.below (Nat.le_refl _) HE.out).at_ (k := k) (by rw [← HN2.out]; exact hlt)
        have X1 : Hid (x1.ok wo) := Below.cellsB HE.out (K1.out x1 (List.mem_of_getElem? hx1))
        have X2 : Hid (x2.ok wo) := Below.cellsB HE.out (K2.out x2 (List.mem_of_getElem? hx2))
        have HM1 : Hid (x1.l.length ≤ 100000) := HM.out x1 (List.mem_of_getElem? hx1)
        have d1 : wo.cell? ⟨b1, o1 + k, none⟩ = some (.slice (some ⟨x1.b, 0, none⟩) x1.l.length x1.l.length) := by have := hc1 0 _ rfl; simpa using this
        have d2 : wo.cell? ⟨b2, o2 + k, none⟩ = some (.slice (some ⟨x2.b, 0, none⟩) x2.l.length x2.l.length) := by have := hc2 0 _ rfl; simpa using this
        have HX1 := Lib.hid hx1
        have HX2 := Lib.hid hx2
        obtain ⟨m1, hm1⟩ : ∃ m1, x1.l.length = m1 := ⟨_, rfl⟩
        obtain ⟨m2, hm2⟩ : ∃ m2, x2.l.length = m2 := ⟨_, rfl⟩
        obtain ⟨p1, hp1⟩ : ∃ p1, x1.b = p1 := ⟨_, rfl⟩
        obtain ⟨p2, hp2⟩ : ∃ p2, x2.b = p2 := ⟨_, rfl⟩
        rw [hm1, hp1] at d1
        rw [hm2, hp2] at d2
        rw [hm1] at HM1
        have HM1' := Lib.hid hm1
        have HM2' := Lib.hid hm2
        have HP1 := Lib.hid hp1
        have HP2 := Lib.hid hp2
        have hmb : m1 ≤ 100000 := HM1.out
        subst hA1
        subst hA2
        clear hx1 hx2 hc1 hc2 hm1 hm2 hp1 hp2
        by_cases hmm : m1 = m2
        rotate_left
        · have hmf : ((m1 : Int) == (m2 : Int)) = false := by rw [beq_eq_false_iff_ne]; omega
          obtain rfl : B = false := by
            rw [← HB.out]
            refine decide_eq_false (fun e => hmm ?_)
            have h1 := map_at HX1.out
            rw [e, map_at HX2.out] at h1
            injection h1 with h1
            rw [← HM1'.out, ← HM2'.out, h1]
          clear hmm
          go_wp2_with fail
          have SS := Lib.hid (show ∀ w', Below wo.heap.size wo w' → (fun w' => Below wo.heap.size wo w' ∧ w'.cell? ⟨b1, o1 + k, none⟩ = some (.slice (some ⟨p1, 0, none⟩) m1 m1) ∧ w'.cell? ⟨b2, o2 + k, none⟩ = some (.slice (some ⟨p2, 0, none⟩) m2 m2)) w' from fun w' h => ⟨h, (h.cell (p := ⟨b1, o1 + k, none⟩) hb1).trans d1, (h.cell (p := ⟨b2, o2 + k, none⟩) hb2).trans d2⟩)
          refine rg_begin (S := (fun w' => Below wo.heap.size wo w' ∧ w'.cell? ⟨b1, o1 + k, none⟩ = some (.slice (some ⟨p1, 0, none⟩) m1 m1) ∧ w'.cell? ⟨b2, o2 + k, none⟩ = some (.slice (some ⟨p2, 0, none⟩) m2 m2))) 11 (by kernel_rfl) (by intro d; cases d <;> intro _ _ _ _ h <;> exact h) ?_ (fun Q7 hQ7 hN7 hHeld => ?_)
          · exact SS.out _ (ext_drew (ext_refl _))
          refine rg_take (i := 0) (some 18) (v := ?_) rfl rfl (by kernel_rfl) (by rfl) hQ7 hHeld ?_ ?_
          rotate_left
          · intro w7 hSw; (try dsimp only at hSw); go_simp; all_goals with_reducible rfl
          try simp only [Act.put, List.setIfInBounds_toArray, List.set_cons_zero, List.set_cons_succ]
          refine rg_take (i := 1) (some 19) (v := ?_) rfl rfl (by kernel_rfl) (by rfl) hQ7 hHeld ?_ ?_
          rotate_left
          · intro w7 hSw; (try dsimp only at hSw); go_simp; all_goals with_reducible rfl
          try simp only [Act.put, List.setIfInBounds_toArray, List.set_cons_zero, List.set_cons_succ]
          refine rg_take (i := 2) (some 20) (v := ?_) rfl rfl (by kernel_rfl) (by rfl) hQ7 hHeld ?_ ?_
          rotate_left
          · intro w7 hSw; (try dsimp only at hSw); go_simp; all_goals with_reducible rfl
          try simp only [Act.put, List.setIfInBounds_toArray, List.set_cons_zero, List.set_cons_succ]
          refine rg_take (i := 3) (some 21) (v := ?_) rfl rfl (by kernel_rfl) (by rfl) hQ7 hHeld ?_ ?_
          rotate_left
          · intro w7 hSw; (try dsimp only at hSw); go_simp; all_goals with_reducible rfl
          try simp only [Act.put, List.setIfInBounds_toArray, List.set_cons_zero, List.set_cons_succ]
          refine rg_take (i := 4) (some 22) (v := ?_) rfl rfl (by kernel_rfl) (by rfl) hQ7 hHeld ?_ ?_
          rotate_left
          · intro w7 hSw; (try dsimp only at hSw); go_simp; all_goals with_reducible rfl
          try simp only [Act.put, List.setIfInBounds_toArray, List.set_cons_zero, List.set_cons_succ]
          refine rg_take (i := 5) (some 23) (v := ?_) rfl rfl (by kernel_rfl) (by rfl) hQ7 hHeld ?_ ?_
          rotate_left
          · intro w7 hSw; (try dsimp only at hSw); go_simp; all_goals with_reducible rfl
          try simp only [Act.put, List.setIfInBounds_toArray, List.set_cons_zero, List.set_cons_succ]
          refine rg_take (i := 6) (some 24) (v := ?_) rfl rfl (by kernel_rfl) (by rfl) hQ7 hHeld ?_ ?_
          rotate_left
          · intro w7 hSw; (try dsimp only at hSw); go_simp; all_goals with_reducible rfl
          try simp only [Act.put, List.setIfInBounds_toArray, List.set_cons_zero, List.set_cons_succ]
          refine rg_take (i := 7) (some 25) (v := ?_) rfl rfl (by kernel_rfl) (by rfl) hQ7 hHeld ?_ ?_
          rotate_left
          · intro w7 hSw; (try dsimp only at hSw); go_simp; all_goals with_reducible rfl
          try simp only [Act.put, List.setIfInBounds_toArray, List.set_cons_zero, List.set_cons_succ]
          refine rg_take (i := 8) (some 26) (v := ?_) rfl rfl (by kernel_rfl) (by rfl) hQ7 hHeld ?_ ?_
          rotate_left
          · intro w7 hSw; (try dsimp only at hSw); go_simp; all_goals with_reducible rfl
          try simp only [Act.put, List.setIfInBounds_toArray, List.set_cons_zero, List.set_cons_succ]
          refine rg_take (i := 9) (some 27) (v := ?_) rfl rfl (by kernel_rfl) (by rfl) hQ7 hHeld ?_ ?_
          rotate_left
          · intro w7 hSw; (try dsimp only at hSw); go_simp; all_goals with_reducible rfl
          try simp only [Act.put, List.setIfInBounds_toArray, List.set_cons_zero, List.set_cons_succ]
          refine rg_take (i := 10) (some 28) (v := ?_) rfl rfl (by kernel_rfl) (by rfl) hQ7 hHeld ?_ ?_
          rotate_left
          · intro w7 hSw; (try dsimp only at hSw); go_simp; all_goals with_reducible rfl
          try simp only [Act.put, List.setIfInBounds_toArray, List.set_cons_zero, List.set_cons_succ]
          refine rg_end (by kernel_rfl) (hN7 _ _ ?_) _
          clear hQ7 hN7 Q7
          have BX := hHeld.1
          clear SS
          have E9 := Lib.hid (HE.out.trans (BX.mono HE.out.size))
          go_wp2_with fail
          go_ret
          exact ⟨rfl, E9.out⟩
        · subst hmm
          go_wp2_with fail
          have SS := Lib.hid (show ∀ w', Below wo.heap.size wo w' → (fun w' => Below wo.heap.size wo w' ∧ w'.cell? ⟨b1, o1 + k, none⟩ = some (.slice (some ⟨p1, 0, none⟩) m1 m1) ∧ w'.cell? ⟨b2, o2 + k, none⟩ = some (.slice (some ⟨p2, 0, none⟩) m1 m1)) w' from fun w' h => ⟨h, (h.cell (p := ⟨b1, o1 + k, none⟩) hb1).trans d1, (h.cell (p := ⟨b2, o2 + k, none⟩) hb2).trans d2⟩)
          refine rg_begin (S := (fun w' => Below wo.heap.size wo w' ∧ w'.cell? ⟨b1, o1 + k, none⟩ = some (.slice (some ⟨p1, 0, none⟩) m1 m1) ∧ w'.cell? ⟨b2, o2 + k, none⟩ = some (.slice (some ⟨p2, 0, none⟩) m1 m1))) 11 (by kernel_rfl) (by intro d; cases d <;> intro _ _ _ _ h <;> exact h) ?_ (fun Q7 hQ7 hN7 hHeld => ?_)
          · exact SS.out _ (ext_drew (ext_refl _))
          refine rg_take (i := 0) (some 18) (v := ?_) rfl rfl (by kernel_rfl) (by rfl) hQ7 hHeld ?_ ?_
          rotate_left
          · intro w7 hSw; (try dsimp only at hSw); go_simp; all_goals with_reducible rfl
          try simp only [Act.put, List.setIfInBounds_toArray, List.set_cons_zero, List.set_cons_succ]
          refine rg_take (i := 1) (some 19) (v := ?_) rfl rfl (by kernel_rfl) (by rfl) hQ7 hHeld ?_ ?_
          rotate_left
          · intro w7 hSw; (try dsimp only at hSw); go_simp; all_goals with_reducible rfl
          try simp only [Act.put, List.setIfInBounds_toArray, List.set_cons_zero, List.set_cons_succ]
          refine rg_take (i := 2) (some 20) (v := ?_) rfl rfl (by kernel_rfl) (by rfl) hQ7 hHeld ?_ ?_
          rotate_left
          · intro w7 hSw; (try dsimp only at hSw); go_simp; all_goals with_reducible rfl
          try simp only [Act.put, List.setIfInBounds_toArray, List.set_cons_zero, List.set_cons_succ]
          refine rg_take (i := 3) (some 21) (v := ?_) rfl rfl (by kernel_rfl) (by rfl) hQ7 hHeld ?_ ?_
          rotate_left
          · intro w7 hSw; (try dsimp only at hSw); go_simp; all_goals with_reducible rfl
          try simp only [Act.put, List.setIfInBounds_toArray, List.set_cons_zero, List.set_cons_succ]
          refine rg_take (i := 4) (some 22) (v := ?_) rfl rfl (by kernel_rfl) (by rfl) hQ7 hHeld ?_ ?_
          rotate_left
          · intro w7 hSw; (try dsimp only at hSw); go_simp; all_goals with_reducible rfl
          try simp only [Act.put, List.setIfInBounds_toArray, List.set_cons_zero, List.set_cons_succ]
          refine rg_take (i := 5) (some 23) (v := ?_) rfl rfl (by kernel_rfl) (by rfl) hQ7 hHeld ?_ ?_
          rotate_left
          · intro w7 hSw; (try dsimp only at hSw); go_simp; all_goals with_reducible rfl
          try simp only [Act.put, List.setIfInBounds_toArray, List.set_cons_zero, List.set_cons_succ]
          refine rg_take (i := 6) (some 24) (v := ?_) rfl rfl (by kernel_rfl) (by rfl) hQ7 hHeld ?_ ?_
          rotate_left
          · intro w7 hSw; (try dsimp only at hSw); go_simp; all_goals with_reducible rfl
          try simp only [Act.put, List.setIfInBounds_toArray, List.set_cons_zero, List.set_cons_succ]
          refine rg_take (i := 7) (some 25) (v := ?_) rfl rfl (by kernel_rfl) (by rfl) hQ7 hHeld ?_ ?_
          rotate_left
          · intro w7 hSw; (try dsimp only at hSw); go_simp; all_goals with_reducible rfl
          try simp only [Act.put, List.setIfInBounds_toArray, List.set_cons_zero, List.set_cons_succ]
          refine rg_take (i := 8) (some 26) (v := ?_) rfl rfl (by kernel_rfl) (by rfl) hQ7 hHeld ?_ ?_
          rotate_left
          · intro w7 hSw; (try dsimp only at hSw); go_simp; all_goals with_reducible rfl
          try simp only [Act.put, List.setIfInBounds_toArray, List.set_cons_zero, List.set_cons_succ]
          refine rg_take (i := 9) (some 27) (v := ?_) rfl rfl (by kernel_rfl) (by rfl) hQ7 hHeld ?_ ?_
          rotate_left
          · intro w7 hSw; (try dsimp only at hSw); go_simp; all_goals with_reducible rfl
          try simp only [Act.put, List.setIfInBounds_toArray, List.set_cons_zero, List.set_cons_succ]
          refine rg_take (i := 10) (some 28) (v := ?_) rfl rfl (by kernel_rfl) (by rfl) hQ7 hHeld ?_ ?_
          rotate_left
          · intro w7 hSw; (try dsimp only at hSw); go_simp; all_goals with_reducible rfl
          try simp only [Act.put, List.setIfInBounds_toArray, List.set_cons_zero, List.set_cons_succ]
          refine rg_end (by kernel_rfl) (hN7 _ _ ?_) _
          clear hQ7 hN7 Q7
          have BX := hHeld.1
          clear SS
          have E9 := Lib.hid (HE.out.trans (BX.mono HE.out.size))
          obtain ⟨w5, hw5⟩ : ∃ w5, wo.drew = w5 := ⟨_, rfl⟩
          rw [hw5] at E9 BX ⊢
          have hb1 : b1 < w5.heap.size := Nat.lt_of_lt_of_le hb1 BX.size
          have hb2 : b2 < w5.heap.size := Nat.lt_of_lt_of_le hb2 BX.size
          have d1 : w5.cell? ⟨b1, o1 + k, none⟩ = some (.slice (some ⟨p1, 0, none⟩) m1 m1) := (BX.cell (p := ⟨b1, o1 + k, none⟩) (by assumption)).trans d1
          have d2 : w5.cell? ⟨b2, o2 + k, none⟩ = some (.slice (some ⟨p2, 0, none⟩) m1 m1) := (BX.cell (p := ⟨b2, o2 + k, none⟩) (by assumption)).trans d2
          have Y1 : Hid (x1.ok w5) := Below.cellsB BX X1.out
          have Y2 : Hid (x2.ok w5) := Below.cellsB BX X2.out
          have D1 := Lib.hid d1
          have D2 := Lib.hid d2
          have HB1 := Lib.hid hb1
          have HB2 := Lib.hid hb2
          clear hw5 X1 X2 HE d1 d2 hb1 hb2 BX
          go_wp2_with fail
          go_loopw [6] (fun i wr => ∃ j : Nat, j ≤ m1 ∧ i = .int .i64 j ∧ Hid (x1.l.take j = x2.l.take j) ∧ Hid (Below w5.heap.size w5 wr)) (fun i _ => m1 - (intOf i).toNat)
          case atStart => exact ⟨0, by omega, rfl, by simp [Hid], ext_refl _⟩
          case round =>
            obtain ⟨j, hj, rfl, HJ, HF⟩ := hrel
            obtain ⟨wi, rfl⟩ : ∃ wi, wi = wr := ⟨_, rfl⟩
            have d1 : wi.cell? ⟨b1, o1 + k, none⟩ = some (.slice (some ⟨p1, 0, none⟩) m1 m1) := (HF.out.cell (p := ⟨b1, o1 + k, none⟩) HB1.out).trans D1.out
            have d2 : wi.cell? ⟨b2, o2 + k, none⟩ = some (.slice (some ⟨p2, 0, none⟩) m1 m1) := (HF.out.cell (p := ⟨b2, o2 + k, none⟩) HB2.out).trans D2.out
            have hb1 : b1 < wi.heap.size := Nat.lt_of_lt_of_le HB1.out HF.out.size
            have hb2 : b2 < wi.heap.size := Nat.lt_of_lt_of_le HB2.out HF.out.size
            by_cases hjl : j < m1
            rotate_left
            · obtain rfl : j = m1 := by omega
              have hjn : ¬ (j : Int) < (j : Int) := by omega
              have HR9 : Hid ((r1.map (·.l)).take (k + 1) = (r2.map (·.l)).take (k + 1)) := by
                have hl1 := HM1'.out
                have hl2 := HM2'.out
                have := HJ.out
                rw [List.take_of_length_le (by omega), List.take_of_length_le (by omega)] at this
                exact take_snoc_eq (map_at HX1.out) (map_at HX2.out) HR.out this
              have E10 := Lib.hid (E9.out.trans (HF.out.mono E9.out.size))
              clear d2 hb2
              go_wp2_with fail
              go_roundw
              case rel => exact ⟨k + 1, by omega, by go_num, HR9, E10⟩
              case measure => simp [intOf]; (try omega)
            · have hji : (j : Int) < (m1 : Int) := by omega
              obtain ⟨e1, he1⟩ : ∃ e1, x1.l[j]? = some e1 := ⟨_, List.getElem?_eq_getElem (by rw [HM1'.out]; exact hjl)⟩
              obtain ⟨e2, he2⟩ : ∃ e2, x2.l[j]? = some e2 := ⟨_, List.getElem?_eq_getElem (by rw [HM2'.out]; exact hjl)⟩
              have q1 : wi.cell? ⟨p1, j, none⟩ = some (.bool e1) := by rw [← HP1.out]; exact BR.cell (Below.cellsB HF.out Y1.out) he1
              have q2 : wi.cell? ⟨p2, j, none⟩ = some (.bool e2) := by rw [← HP2.out]; exact BR.cell (Below.cellsB HF.out Y2.out) he2
              have hp1 : p1 < wi.heap.size := by rw [← HP1.out]; exact BR.lt (Below.cellsB HF.out Y1.out)
              have hp2 : p2 < wi.heap.size := by rw [← HP2.out]; exact BR.lt (Below.cellsB HF.out Y2.out)
              have HE1 := Lib.hid he1
              have HE2 := Lib.hid he2
              clear he1 he2
              by_cases hee : e1 = e2
              rotate_left
              · obtain rfl : B = false := by
                  rw [← HB.out]
                  refine decide_eq_false (fun e => hee ?_)
                  have h1 := map_at HX1.out
                  rw [e, map_at HX2.out] at h1
                  injection h1 with h1
                  have h2 := HE2.out
                  rw [h1, HE1.out] at h2
                  injection h2
                have E10 := Lib.hid (E9.out.trans (HF.out.mono E9.out.size))
                cases e1 <;> cases e2
                · exact absurd rfl hee
                · clear hee
                  go_wp2_with fail
                  have SS := Lib.hid (show ∀ w', Below wi.heap.size wi w' → (fun w' => Below wi.heap.size wi w' ∧ w'.cell? ⟨b1, o1 + k, none⟩ = some (.slice (some ⟨p1, 0, none⟩) m1 m1) ∧ w'.cell? ⟨b2, o2 + k, none⟩ = some (.slice (some ⟨p2, 0, none⟩) m1 m1) ∧ w'.cell? ⟨p1, j, none⟩ = some (.bool false) ∧ w'.cell? ⟨p2, j, none⟩ = some (.bool true)) w' from fun w' h => ⟨h, (h.cell (p := ⟨b1, o1 + k, none⟩) hb1).trans d1, (h.cell (p := ⟨b2, o2 + k, none⟩) hb2).trans d2, (h.cell (p := ⟨p1, j, none⟩) hp1).trans q1, (h.cell (p := ⟨p2, j, none⟩) hp2).trans q2⟩)
                  refine rg_begin (S := (fun w' => Below wi.heap.size wi w' ∧ w'.cell? ⟨b1, o1 + k, none⟩ = some (.slice (some ⟨p1, 0, none⟩) m1 m1) ∧ w'.cell? ⟨b2, o2 + k, none⟩ = some (.slice (some ⟨p2, 0, none⟩) m1 m1) ∧ w'.cell? ⟨p1, j, none⟩ = some (.bool false) ∧ w'.cell? ⟨p2, j, none⟩ = some (.bool true))) 15 (by kernel_rfl) (by intro d; cases d <;> intro _ _ _ _ h <;> exact h) ?_ (fun Q7 hQ7 hN7 hHeld => ?_)
                  · exact SS.out _ (ext_drew (ext_refl _))
                  refine rg_take (i := 0) (some 38) (v := ?_) rfl rfl (by kernel_rfl) (by rfl) hQ7 hHeld ?_ ?_
                  rotate_left
                  · intro w7 hSw; (try dsimp only at hSw); go_simp; all_goals with_reducible rfl
                  try simp only [Act.put, List.setIfInBounds_toArray, List.set_cons_zero, List.set_cons_succ]
                  refine rg_take (i := 1) (some 39) (v := ?_) rfl rfl (by kernel_rfl) (by rfl) hQ7 hHeld ?_ ?_
                  rotate_left
                  · intro w7 hSw; (try dsimp only at hSw); go_simp; all_goals with_reducible rfl
                  try simp only [Act.put, List.setIfInBounds_toArray, List.set_cons_zero, List.set_cons_succ]
                  refine rg_take (i := 2) (some 40) (v := ?_) rfl rfl (by kernel_rfl) (by rfl) hQ7 hHeld ?_ ?_
                  rotate_left
                  · intro w7 hSw; (try dsimp only at hSw); go_simp; all_goals with_reducible rfl
                  try simp only [Act.put, List.setIfInBounds_toArray, List.set_cons_zero, List.set_cons_succ]
                  refine rg_take (i := 3) (some 41) (v := ?_) rfl rfl (by kernel_rfl) (by rfl) hQ7 hHeld ?_ ?_
                  rotate_left
                  · intro w7 hSw; (try dsimp only at hSw); go_simp; all_goals with_reducible rfl
                  try simp only [Act.put, List.setIfInBounds_toArray, List.set_cons_zero, List.set_cons_succ]
                  refine rg_take (i := 4) (some 42) (v := ?_) rfl rfl (by kernel_rfl) (by rfl) hQ7 hHeld ?_ ?_
                  rotate_left
                  · intro w7 hSw; (try dsimp only at hSw); go_simp; all_goals with_reducible rfl
                  try simp only [Act.put, List.setIfInBounds_toArray, List.set_cons_zero, List.set_cons_succ]
                  refine rg_take (i := 5) (some 43) (v := ?_) rfl rfl (by kernel_rfl) (by rfl) hQ7 hHeld ?_ ?_
                  rotate_left
                  · intro w7 hSw; (try dsimp only at hSw); go_simp; all_goals with_reducible rfl
                  try simp only [Act.put, List.setIfInBounds_toArray, List.set_cons_zero, List.set_cons_succ]
                  refine rg_take (i := 6) (some 44) (v := ?_) rfl rfl (by kernel_rfl) (by rfl) hQ7 hHeld ?_ ?_
                  rotate_left
                  · intro w7 hSw; (try dsimp only at hSw); go_simp; all_goals with_reducible rfl
                  try simp only [Act.put, List.setIfInBounds_toArray, List.set_cons_zero, List.set_cons_succ]
                  refine rg_take (i := 7) (some 45) (v := ?_) rfl rfl (by kernel_rfl) (by rfl) hQ7 hHeld ?_ ?_
                  rotate_left
                  · intro w7 hSw; (try dsimp only at hSw); go_simp; all_goals with_reducible rfl
                  try simp only [Act.put, List.setIfInBounds_toArray, List.set_cons_zero, List.set_cons_succ]
                  refine rg_take (i := 8) (some 46) (v := ?_) rfl rfl (by kernel_rfl) (by rfl) hQ7 hHeld ?_ ?_
                  rotate_left
                  · intro w7 hSw; (try dsimp only at hSw); go_simp; all_goals with_reducible rfl
                  try simp only [Act.put, List.setIfInBounds_toArray, List.set_cons_zero, List.set_cons_succ]
                  refine rg_take (i := 9) (some 47) (v := ?_) rfl rfl (by kernel_rfl) (by rfl) hQ7 hHeld ?_ ?_
                  rotate_left
                  · intro w7 hSw; (try dsimp only at hSw); go_simp; all_goals with_reducible rfl
                  try simp only [Act.put, List.setIfInBounds_toArray, List.set_cons_zero, List.set_cons_succ]
                  refine rg_take (i := 10) (some 48) (v := ?_) rfl rfl (by kernel_rfl) (by rfl) hQ7 hHeld ?_ ?_
                  rotate_left
                  · intro w7 hSw; (try dsimp only at hSw); go_simp; all_goals with_reducible rfl
                  try simp only [Act.put, List.setIfInBounds_toArray, List.set_cons_zero, List.set_cons_succ]
                  refine rg_take (i := 11) (some 49) (v := ?_) rfl rfl (by kernel_rfl) (by rfl) hQ7 hHeld ?_ ?_
                  rotate_left
                  · intro w7 hSw; (try dsimp only at hSw); go_simp; all_goals with_reducible rfl
                  try simp only [Act.put, List.setIfInBounds_toArray, List.set_cons_zero, List.set_cons_succ]
                  refine rg_take (i := 12) (some 50) (v := ?_) rfl rfl (by kernel_rfl) (by rfl) hQ7 hHeld ?_ ?_
                  rotate_left
                  · intro w7 hSw; (try dsimp only at hSw); go_simp; all_goals with_reducible rfl
                  try simp only [Act.put, List.setIfInBounds_toArray, List.set_cons_zero, List.set_cons_succ]
                  refine rg_take (i := 13) (some 51) (v := ?_) rfl rfl (by kernel_rfl) (by rfl) hQ7 hHeld ?_ ?_
                  rotate_left
                  · intro w7 hSw; (try dsimp only at hSw); go_simp; all_goals with_reducible rfl
                  try simp only [Act.put, List.setIfInBounds_toArray, List.set_cons_zero, List.set_cons_succ]
                  refine rg_take (i := 14) (some 52) (v := ?_) rfl rfl (by kernel_rfl) (by rfl) hQ7 hHeld ?_ ?_
                  rotate_left
                  · intro w7 hSw; (try dsimp only at hSw); go_simp; all_goals with_reducible rfl
                  try simp only [Act.put, List.setIfInBounds_toArray, List.set_cons_zero, List.set_cons_succ]
                  refine rg_end (by kernel_rfl) (hN7 _ _ ?_) _
                  clear hQ7 hN7 Q7
                  have BX := hHeld.1
                  clear SS
                  have E11 := Lib.hid (E10.out.trans (BX.mono E10.out.size))
                  go_wp2_with fail
                  go_ret
                  exact ⟨rfl, E11.out⟩
                · clear hee
                  go_wp2_with fail
                  have SS := Lib.hid (show ∀ w', Below wi.heap.size wi w' → (fun w' => Below wi.heap.size wi w' ∧ w'.cell? ⟨b1, o1 + k, none⟩ = some (.slice (some ⟨p1, 0, none⟩) m1 m1) ∧ w'.cell? ⟨b2, o2 + k, none⟩ = some (.slice (some ⟨p2, 0, none⟩) m1 m1) ∧ w'.cell? ⟨p1, j, none⟩ = some (.bool true) ∧ w'.cell? ⟨p2, j, none⟩ = some (.bool false)) w' from fun w' h => ⟨h, (h.cell (p := ⟨b1, o1 + k, none⟩) hb1).trans d1, (h.cell (p := ⟨b2, o2 + k, none⟩) hb2).trans d2, (h.cell (p := ⟨p1, j, none⟩) hp1).trans q1, (h.cell (p := ⟨p2, j, none⟩) hp2).trans q2⟩)
                  refine rg_begin (S := (fun w' => Below wi.heap.size wi w' ∧ w'.cell? ⟨b1, o1 + k, none⟩ = some (.slice (some ⟨p1, 0, none⟩) m1 m1) ∧ w'.cell? ⟨b2, o2 + k, none⟩ = some (.slice (some ⟨p2, 0, none⟩) m1 m1) ∧ w'.cell? ⟨p1, j, none⟩ = some (.bool true) ∧ w'.cell? ⟨p2, j, none⟩ = some (.bool false))) 15 (by kernel_rfl) (by intro d; cases d <;> intro _ _ _ _ h <;> exact h) ?_ (fun Q7 hQ7 hN7 hHeld => ?_)
                  · exact SS.out _ (ext_drew (ext_refl _))
                  refine rg_take (i := 0) (some 38) (v := ?_) rfl rfl (by kernel_rfl) (by rfl) hQ7 hHeld ?_ ?_
                  rotate_left
                  · intro w7 hSw; (try dsimp only at hSw); go_simp; all_goals with_reducible rfl
                  try simp only [Act.put, List.setIfInBounds_toArray, List.set_cons_zero, List.set_cons_succ]
                  refine rg_take (i := 1) (some 39) (v := ?_) rfl rfl (by kernel_rfl) (by rfl) hQ7 hHeld ?_ ?_
                  rotate_left
                  · intro w7 hSw; (try dsimp only at hSw); go_simp; all_goals with_reducible rfl
                  try simp only [Act.put, List.setIfInBounds_toArray, List.set_cons_zero, List.set_cons_succ]
                  refine rg_take (i := 2) (some 40) (v := ?_) rfl rfl (by kernel_rfl) (by rfl) hQ7 hHeld ?_ ?_
                  rotate_left
                  · intro w7 hSw; (try dsimp only at hSw); go_simp; all_goals with_reducible rfl
                  try simp only [Act.put, List.setIfInBounds_toArray, List.set_cons_zero, List.set_cons_succ]
                  refine rg_take (i := 3) (some 41) (v := ?_) rfl rfl (by kernel_rfl) (by rfl) hQ7 hHeld ?_ ?_
                  rotate_left
                  · intro w7 hSw; (try dsimp only at hSw); go_simp; all_goals with_reducible rfl
                  try simp only [Act.put, List.setIfInBounds_toArray, List.set_cons_zero, List.set_cons_succ]
                  refine rg_take (i := 4) (some 42) (v := ?_) rfl rfl (by kernel_rfl) (by rfl) hQ7 hHeld ?_ ?_
                  rotate_left
                  · intro w7 hSw; (try dsimp only at hSw); go_simp; all_goals with_reducible rfl
                  try simp only [Act.put, List.setIfInBounds_toArray, List.set_cons_zero, List.set_cons_succ]
                  refine rg_take (i := 5) (some 43) (v := ?_) rfl rfl (by kernel_rfl) (by rfl) hQ7 hHeld ?_ ?_
                  rotate_left
                  · intro w7 hSw; (try dsimp only at hSw); go_simp; all_goals with_reducible rfl
                  try simp only [Act.put, List.setIfInBounds_toArray, List.set_cons_zero, List.set_cons_succ]
                  refine rg_take (i := 6) (some 44) (v := ?_) rfl rfl (by kernel_rfl) (by rfl) hQ7 hHeld ?_ ?_
                  rotate_left
                  · intro w7 hSw; (try dsimp only at hSw); go_simp; all_goals with_reducible rfl
                  try simp only [Act.put, List.setIfInBounds_toArray, List.set_cons_zero, List.set_cons_succ]
                  refine rg_take (i := 7) (some 45) (v := ?_) rfl rfl (by kernel_rfl) (by rfl) hQ7 hHeld ?_ ?_
                  rotate_left
                  · intro w7 hSw; (try dsimp only at hSw); go_simp; all_goals with_reducible rfl
                  try simp only [Act.put, List.setIfInBounds_toArray, List.set_cons_zero, List.set_cons_succ]
                  refine rg_take (i := 8) (some 46) (v := ?_) rfl rfl (by kernel_rfl) (by rfl) hQ7 hHeld ?_ ?_
                  rotate_left
                  · intro w7 hSw; (try dsimp only at hSw); go_simp; all_goals with_reducible rfl
                  try simp only [Act.put, List.setIfInBounds_toArray, List.set_cons_zero, List.set_cons_succ]
                  refine rg_take (i := 9) (some 47) (v := ?_) rfl rfl (by kernel_rfl) (by rfl) hQ7 hHeld ?_ ?_
                  rotate_left
                  · intro w7 hSw; (try dsimp only at hSw); go_simp; all_goals with_reducible rfl
                  try simp only [Act.put, List.setIfInBounds_toArray, List.set_cons_zero, List.set_cons_succ]
                  refine rg_take (i := 10) (some 48) (v := ?_) rfl rfl (by kernel_rfl) (by rfl) hQ7 hHeld ?_ ?_
                  rotate_left
                  · intro w7 hSw; (try dsimp only at hSw); go_simp; all_goals with_reducible rfl
                  try simp only [Act.put, List.setIfInBounds_toArray, List.set_cons_zero, List.set_cons_succ]
                  refine rg_take (i := 11) (some 49) (v := ?_) rfl rfl (by kernel_rfl) (by rfl) hQ7 hHeld ?_ ?_
                  rotate_left
                  · intro w7 hSw; (try dsimp only at hSw); go_simp; all_goals with_reducible rfl
                  try simp only [Act.put, List.setIfInBounds_toArray, List.set_cons_zero, List.set_cons_succ]
                  refine rg_take (i := 12) (some 50) (v := ?_) rfl rfl (by kernel_rfl) (by rfl) hQ7 hHeld ?_ ?_
                  rotate_left
                  · intro w7 hSw; (try dsimp only at hSw); go_simp; all_goals with_reducible rfl
                  try simp only [Act.put, List.setIfInBounds_toArray, List.set_cons_zero, List.set_cons_succ]
                  refine rg_take (i := 13) (some 51) (v := ?_) rfl rfl (by kernel_rfl) (by rfl) hQ7 hHeld ?_ ?_
                  rotate_left
                  · intro w7 hSw; (try dsimp only at hSw); go_simp; all_goals with_reducible rfl
                  try simp only [Act.put, List.setIfInBounds_toArray, List.set_cons_zero, List.set_cons_succ]
                  refine rg_take (i := 14) (some 52) (v := ?_) rfl rfl (by kernel_rfl) (by rfl) hQ7 hHeld ?_ ?_
                  rotate_left
                  · intro w7 hSw; (try dsimp only at hSw); go_simp; all_goals with_reducible rfl
                  try simp only [Act.put, List.setIfInBounds_toArray, List.set_cons_zero, List.set_cons_succ]
                  refine rg_end (by kernel_rfl) (hN7 _ _ ?_) _
                  clear hQ7 hN7 Q7
                  have BX := hHeld.1
                  clear SS
                  have E11 := Lib.hid (E10.out.trans (BX.mono E10.out.size))
                  go_wp2_with fail
                  go_ret
                  exact ⟨rfl, E11.out⟩
                · exact absurd rfl hee
              · subst hee
                have HJ9 : Hid (x1.l.take (j + 1) = x2.l.take (j + 1)) := take_snoc_eq HE1.out HE2.out HJ.out rfl
                cases e1
                · go_wp2_with fail
                  have SS := Lib.hid (show ∀ w', Below wi.heap.size wi w' → (fun w' => Below wi.heap.size wi w' ∧ w'.cell? ⟨b1, o1 + k, none⟩ = some (.slice (some ⟨p1, 0, none⟩) m1 m1) ∧ w'.cell? ⟨b2, o2 + k, none⟩ = some (.slice (some ⟨p2, 0, none⟩) m1 m1) ∧ w'.cell? ⟨p1, j, none⟩ = some (.bool false) ∧ w'.cell? ⟨p2, j, none⟩ = some (.bool false)) w' from fun w' h => ⟨h, (h.cell (p := ⟨b1, o1 + k, none⟩) hb1).trans d1, (h.cell (p := ⟨b2, o2 + k, none⟩) hb2).trans d2, (h.cell (p := ⟨p1, j, none⟩) hp1).trans q1, (h.cell (p := ⟨p2, j, none⟩) hp2).trans q2⟩)
                  refine rg_begin (S := (fun w' => Below wi.heap.size wi w' ∧ w'.cell? ⟨b1, o1 + k, none⟩ = some (.slice (some ⟨p1, 0, none⟩) m1 m1) ∧ w'.cell? ⟨b2, o2 + k, none⟩ = some (.slice (some ⟨p2, 0, none⟩) m1 m1) ∧ w'.cell? ⟨p1, j, none⟩ = some (.bool false) ∧ w'.cell? ⟨p2, j, none⟩ = some (.bool false))) 15 (by kernel_rfl) (by intro d; cases d <;> intro _ _ _ _ h <;> exact h) ?_ (fun Q7 hQ7 hN7 hHeld => ?_)
                  · exact SS.out _ (ext_drew (ext_refl _))
                  refine rg_take (i := 0) (some 38) (v := ?_) rfl rfl (by kernel_rfl) (by rfl) hQ7 hHeld ?_ ?_
                  rotate_left
                  · intro w7 hSw; (try dsimp only at hSw); go_simp; all_goals with_reducible rfl
                  try simp only [Act.put, List.setIfInBounds_toArray, List.set_cons_zero, List.set_cons_succ]
                  refine rg_take (i := 1) (some 39) (v := ?_) rfl rfl (by kernel_rfl) (by rfl) hQ7 hHeld ?_ ?_
                  rotate_left
                  · intro w7 hSw; (try dsimp only at hSw); go_simp; all_goals with_reducible rfl
                  try simp only [Act.put, List.setIfInBounds_toArray, List.set_cons_zero, List.set_cons_succ]
                  refine rg_take (i := 2) (some 40) (v := ?_) rfl rfl (by kernel_rfl) (by rfl) hQ7 hHeld ?_ ?_
                  rotate_left
                  · intro w7 hSw; (try dsimp only at hSw); go_simp; all_goals with_reducible rfl
                  try simp only [Act.put, List.setIfInBounds_toArray, List.set_cons_zero, List.set_cons_succ]
                  refine rg_take (i := 3) (some 41) (v := ?_) rfl rfl (by kernel_rfl) (by rfl) hQ7 hHeld ?_ ?_
                  rotate_left
                  · intro w7 hSw; (try dsimp only at hSw); go_simp; all_goals with_reducible rfl
                  try simp only [Act.put, List.setIfInBounds_toArray, List.set_cons_zero, List.set_cons_succ]
                  refine rg_take (i := 4) (some 42) (v := ?_) rfl rfl (by kernel_rfl) (by rfl) hQ7 hHeld ?_ ?_
                  rotate_left
                  · intro w7 hSw; (try dsimp only at hSw); go_simp; all_goals with_reducible rfl
                  try simp only [Act.put, List.setIfInBounds_toArray, List.set_cons_zero, List.set_cons_succ]
                  refine rg_take (i := 5) (some 43) (v := ?_) rfl rfl (by kernel_rfl) (by rfl) hQ7 hHeld ?_ ?_
                  rotate_left
                  · intro w7 hSw; (try dsimp only at hSw); go_simp; all_goals with_reducible rfl
                  try simp only [Act.put, List.setIfInBounds_toArray, List.set_cons_zero, List.set_cons_succ]
                  refine rg_take (i := 6) (some 44) (v := ?_) rfl rfl (by kernel_rfl) (by rfl) hQ7 hHeld ?_ ?_
                  rotate_left
                  · intro w7 hSw; (try dsimp only at hSw); go_simp; all_goals with_reducible rfl
                  try simp only [Act.put, List.setIfInBounds_toArray, List.set_cons_zero, List.set_cons_succ]
                  refine rg_take (i := 7) (some 45) (v := ?_) rfl rfl (by kernel_rfl) (by rfl) hQ7 hHeld ?_ ?_
                  rotate_left
                  · intro w7 hSw; (try dsimp only at hSw); go_simp; all_goals with_reducible rfl
                  try simp only [Act.put, List.setIfInBounds_toArray, List.set_cons_zero, List.set_cons_succ]
                  refine rg_take (i := 8) (some 46) (v := ?_) rfl rfl (by kernel_rfl) (by rfl) hQ7 hHeld ?_ ?_
                  rotate_left
                  · intro w7 hSw; (try dsimp only at hSw); go_simp; all_goals with_reducible rfl
                  try simp only [Act.put, List.setIfInBounds_toArray, List.set_cons_zero, List.set_cons_succ]
                  refine rg_take (i := 9) (some 47) (v := ?_) rfl rfl (by kernel_rfl) (by rfl) hQ7 hHeld ?_ ?_
                  rotate_left
                  · intro w7 hSw; (try dsimp only at hSw); go_simp; all_goals with_reducible rfl
                  try simp only [Act.put, List.setIfInBounds_toArray, List.set_cons_zero, List.set_cons_succ]
                  refine rg_take (i := 10) (some 48) (v := ?_) rfl rfl (by kernel_rfl) (by rfl) hQ7 hHeld ?_ ?_
                  rotate_left
                  · intro w7 hSw; (try dsimp only at hSw); go_simp; all_goals with_reducible rfl
                  try simp only [Act.put, List.setIfInBounds_toArray, List.set_cons_zero, List.set_cons_succ]
                  refine rg_take (i := 11) (some 49) (v := ?_) rfl rfl (by kernel_rfl) (by rfl) hQ7 hHeld ?_ ?_
                  rotate_left
                  · intro w7 hSw; (try dsimp only at hSw); go_simp; all_goals with_reducible rfl
                  try simp only [Act.put, List.setIfInBounds_toArray, List.set_cons_zero, List.set_cons_succ]
                  refine rg_take (i := 12) (some 50) (v := ?_) rfl rfl (by kernel_rfl) (by rfl) hQ7 hHeld ?_ ?_
                  rotate_left
                  · intro w7 hSw; (try dsimp only at hSw); go_simp; all_goals with_reducible rfl
                  try simp only [Act.put, List.setIfInBounds_toArray, List.set_cons_zero, List.set_cons_succ]
                  refine rg_take (i := 13) (some 51) (v := ?_) rfl rfl (by kernel_rfl) (by rfl) hQ7 hHeld ?_ ?_
                  rotate_left
                  · intro w7 hSw; (try dsimp only at hSw); go_simp; all_goals with_reducible rfl
                  try simp only [Act.put, List.setIfInBounds_toArray, List.set_cons_zero, List.set_cons_succ]
                  refine rg_take (i := 14) (some 52) (v := ?_) rfl rfl (by kernel_rfl) (by rfl) hQ7 hHeld ?_ ?_
                  rotate_left
                  · intro w7 hSw; (try dsimp only at hSw); go_simp; all_goals with_reducible rfl
                  try simp only [Act.put, List.setIfInBounds_toArray, List.set_cons_zero, List.set_cons_succ]
                  refine rg_end (by kernel_rfl) (hN7 _ _ ?_) _
                  clear hQ7 hN7 Q7
                  have BX := hHeld.1
                  clear SS
                  have F11 := Lib.hid (HF.out.trans (BX.mono HF.out.size))
                  clear BX
                  go_wp2_with fail
                  go_roundw
                  case rel => exact ⟨j + 1, hjl, by go_num, HJ9, F11⟩
                  case measure => simp [intOf]; (try omega)
                · go_wp2_with fail
                  have SS := Lib.hid (show ∀ w', Below wi.heap.size wi w' → (fun w' => Below wi.heap.size wi w' ∧ w'.cell? ⟨b1, o1 + k, none⟩ = some (.slice (some ⟨p1, 0, none⟩) m1 m1) ∧ w'.cell? ⟨b2, o2 + k, none⟩ = some (.slice (some ⟨p2, 0, none⟩) m1 m1) ∧ w'.cell? ⟨p1, j, none⟩ = some (.bool true) ∧ w'.cell? ⟨p2, j, none⟩ = some (.bool true)) w' from fun w' h => ⟨h, (h.cell (p := ⟨b1, o1 + k, none⟩) hb1).trans d1, (h.cell (p := ⟨b2, o2 + k, none⟩) hb2).trans d2, (h.cell (p := ⟨p1, j, none⟩) hp1).trans q1, (h.cell (p := ⟨p2, j, none⟩) hp2).trans q2⟩)
                  refine rg_begin (S := (fun w' => Below wi.heap.size wi w' ∧ w'.cell? ⟨b1, o1 + k, none⟩ = some (.slice (some ⟨p1, 0, none⟩) m1 m1) ∧ w'.cell? ⟨b2, o2 + k, none⟩ = some (.slice (some ⟨p2, 0, none⟩) m1 m1) ∧ w'.cell? ⟨p1, j, none⟩ = some (.bool true) ∧ w'.cell? ⟨p2, j, none⟩ = some (.bool true))) 15 (by kernel_rfl) (by intro d; cases d <;> intro _ _ _ _ h <;> exact h) ?_ (fun Q7 hQ7 hN7 hHeld => ?_)
                  · exact SS.out _ (ext_drew (ext_refl _))
                  refine rg_take (i := 0) (some 38) (v := ?_) rfl rfl (by kernel_rfl) (by rfl) hQ7 hHeld ?_ ?_
                  rotate_left
                  · intro w7 hSw; (try dsimp only at hSw); go_simp; all_goals with_reducible rfl
                  try simp only [Act.put, List.setIfInBounds_toArray, List.set_cons_zero, List.set_cons_succ]
                  refine rg_take (i := 1) (some 39) (v := ?_) rfl rfl (by kernel_rfl) (by rfl) hQ7 hHeld ?_ ?_
                  rotate_left
                  · intro w7 hSw; (try dsimp only at hSw); go_simp; all_goals with_reducible rfl
                  try simp only [Act.put, List.setIfInBounds_toArray, List.set_cons_zero, List.set_cons_succ]
                  refine rg_take (i := 2) (some 40) (v := ?_) rfl rfl (by kernel_rfl) (by rfl) hQ7 hHeld ?_ ?_
                  rotate_left
                  · intro w7 hSw; (try dsimp only at hSw); go_simp; all_goals with_reducible rfl
                  try simp only [Act.put, List.setIfInBounds_toArray, List.set_cons_zero, List.set_cons_succ]
                  refine rg_take (i := 3) (some 41) (v := ?_) rfl rfl (by kernel_rfl) (by rfl) hQ7 hHeld ?_ ?_
                  rotate_left
                  · intro w7 hSw; (try dsimp only at hSw); go_simp; all_goals with_reducible rfl
                  try simp only [Act.put, List.setIfInBounds_toArray, List.set_cons_zero, List.set_cons_succ]
                  refine rg_take (i := 4) (some 42) (v := ?_) rfl rfl (by kernel_rfl) (by rfl) hQ7 hHeld ?_ ?_
                  rotate_left
                  · intro w7 hSw; (try dsimp only at hSw); go_simp; all_goals with_reducible rfl
                  try simp only [Act.put, List.setIfInBounds_toArray, List.set_cons_zero, List.set_cons_succ]
                  refine rg_take (i := 5) (some 43) (v := ?_) rfl rfl (by kernel_rfl) (by rfl) hQ7 hHeld ?_ ?_
                  rotate_left
                  · intro w7 hSw; (try dsimp only at hSw); go_simp; all_goals with_reducible rfl
                  try simp only [Act.put, List.setIfInBounds_toArray, List.set_cons_zero, List.set_cons_succ]
                  refine rg_take (i := 6) (some 44) (v := ?_) rfl rfl (by kernel_rfl) (by rfl) hQ7 hHeld ?_ ?_
                  rotate_left
                  · intro w7 hSw; (try dsimp only at hSw); go_simp; all_goals with_reducible rfl
                  try simp only [Act.put, List.setIfInBounds_toArray, List.set_cons_zero, List.set_cons_succ]
                  refine rg_take (i := 7) (some 45) (v := ?_) rfl rfl (by kernel_rfl) (by rfl) hQ7 hHeld ?_ ?_
                  rotate_left
                  · intro w7 hSw; (try dsimp only at hSw); go_simp; all_goals with_reducible rfl
                  try simp only [Act.put, List.setIfInBounds_toArray, List.set_cons_zero, List.set_cons_succ]
                  refine rg_take (i := 8) (some 46) (v := ?_) rfl rfl (by kernel_rfl) (by rfl) hQ7 hHeld ?_ ?_
                  rotate_left
                  · intro w7 hSw; (try dsimp only at hSw); go_simp; all_goals with_reducible rfl
                  try simp only [Act.put, List.setIfInBounds_toArray, List.set_cons_zero, List.set_cons_succ]
                  refine rg_take (i := 9) (some 47) (v := ?_) rfl rfl (by kernel_rfl) (by rfl) hQ7 hHeld ?_ ?_
                  rotate_left
                  · intro w7 hSw; (try dsimp only at hSw); go_simp; all_goals with_reducible rfl
                  try simp only [Act.put, List.setIfInBounds_toArray, List.set_cons_zero, List.set_cons_succ]
                  refine rg_take (i := 10) (some 48) (v := ?_) rfl rfl (by kernel_rfl) (by rfl) hQ7 hHeld ?_ ?_
                  rotate_left
                  · intro w7 hSw; (try dsimp only at hSw); go_simp; all_goals with_reducible rfl
                  try simp only [Act.put, List.setIfInBounds_toArray, List.set_cons_zero, List.set_cons_succ]
                  refine rg_take (i := 11) (some 49) (v := ?_) rfl rfl (by kernel_rfl) (by rfl) hQ7 hHeld ?_ ?_
                  rotate_left
                  · intro w7 hSw; (try dsimp only at hSw); go_simp; all_goals with_reducible rfl
                  try simp only [Act.put, List.setIfInBounds_toArray, List.set_cons_zero, List.set_cons_succ]
                  refine rg_take (i := 12) (some 50) (v := ?_) rfl rfl (by kernel_rfl) (by rfl) hQ7 hHeld ?_ ?_
                  rotate_left
                  · intro w7 hSw; (try dsimp only at hSw); go_simp; all_goals with_reducible rfl
                  try simp only [Act.put, List.setIfInBounds_toArray, List.set_cons_zero, List.set_cons_succ]
                  refine rg_take (i := 13) (some 51) (v := ?_) rfl rfl (by kernel_rfl) (by rfl) hQ7 hHeld ?_ ?_
                  rotate_left
                  · intro w7 hSw; (try dsimp only at hSw); go_simp; all_goals with_reducible rfl
                  try simp only [Act.put, List.setIfInBounds_toArray, List.set_cons_zero, List.set_cons_succ]
                  refine rg_take (i := 14) (some 52) (v := ?_) rfl rfl (by kernel_rfl) (by rfl) hQ7 hHeld ?_ ?_
                  rotate_left
                  · intro w7 hSw; (try dsimp only at hSw); go_simp; all_goals with_reducible rfl
                  try simp only [Act.put, List.setIfInBounds_toArray, List.set_cons_zero, List.set_cons_succ]
                  refine rg_end (by kernel_rfl) (hN7 _ _ ?_) _
                  clear hQ7 hN7 Q7
                  have BX := hHeld.1
                  clear SS
                  have F11 := Lib.hid (HF.out.trans (BX.mono HF.out.size))
                  clear BX
                  go_wp2_with fail
                  go_roundw
                  case rel => exact ⟨j + 1, hjl, by go_num, HJ9, F11⟩
                  case measure => simp [intOf]; (try omega)
end Go.Proofs.YtjiojpoiocdnmaaGreat
