/- Contracts of the reference: what a contradiction is. -/
import Derived.Test.YtmgpbjpohbpgpaaU
import Derived.Test.YtmgpbjpohbpgpaaQ
set_option linter.unusedSimpArgs false
set_option linter.unusedVariables false
namespace Go.Proofs.Ytmgpbjpohbpgpaa
open Go.RowKit
def NoP (l : List Ru) (i : Nat) : Prop := ∀ (a b : Nat) (x y : Ru), a < b → b < i → l[a]? = some x → l[b]? = some y → agR x y = false
def NoQ (l : List Ru) (i : Nat) (x : Ru) (m : Nat) : Prop := ∀ (a : Nat) (y : Ru), a < m → a < i → l[a]? = some y → agR y x = false
theorem noP_end {l : List Ru} (h : NoP l l.length) (g : ∀ x ∈ l, cov (dayOf l x) ⟨0, 1440⟩ = false) : conB l = false := by
  rw [conB_no]
  rintro (⟨x, hx, y, hy, e⟩ | ⟨x, hx, e⟩)
  · obtain ⟨a, ha, rfl⟩ := List.mem_iff_getElem.1 hx
    obtain ⟨b, hb, rfl⟩ := List.mem_iff_getElem.1 hy
    rcases Nat.lt_trichotomy a b with q | q | q
    · rw [h a b _ _ q hb (List.getElem?_eq_getElem ha) (List.getElem?_eq_getElem hb)] at e; cases e
    · subst q; exact agR_ne (l := l) e rfl
    · have e2 := h b a _ _ q ha (List.getElem?_eq_getElem hb) (List.getElem?_eq_getElem ha)
      rw [agR_symm e] at e2; cases e2
  · have := g x hx
    rw [show dayOf l x = (l.filter (sameG x)).map Ru.h from rfl, Bool.eq_false_iff, ne_eq, cov_full] at this
    exact this e
theorem noP_step {l : List Ru} {i : Nat} {x : Ru} (h : NoP l i) (hx : l[i]? = some x) (g : NoQ l i x l.length) : NoP l (i + 1) := fun a b p q h1 h2 h3 h4 => by
  rcases Nat.lt_or_ge b i with hb | hb
  · exact h a b p q h1 hb h3 h4
  · obtain rfl : b = i := by omega
    rw [hx] at h4
    obtain rfl := Option.some.inj h4
    exact g a p (List.getElem?_eq_some_iff.1 h3).1 h1 h3
theorem noQ_step {l : List Ru} {i m : Nat} {x y : Ru} (h : NoQ l i x m) (hy : l[m]? = some y) (g : m < i → agR y x = false) : NoQ l i x (m + 1) := fun a p h1 h2 h3 => by
  rcases Nat.lt_or_ge a m with hb | hb
  · exact h a p hb h2 h3
  · obtain rfl : a = m := by omega
    rw [hy] at h3
    obtain rfl := Option.some.inj h3
    exact g h2
theorem con_pair {l : List Ru} {x y : Ru} (hx : x ∈ l) (hy : y ∈ l) (h : agR y x = true) : conB l = true := conB_iff.2 (.inl ⟨y, hy, x, hx, h⟩)
theorem con_day {l : List Ru} {x : Ru} (hx : x ∈ l) (h : cov (dayOf l x) ⟨0, 1440⟩ = true) : conB l = true := conB_iff.2 (.inr ⟨x, hx, cov_full.1 h⟩)
set_option maxRecDepth 100000 in
set_option maxHeartbeats 51200000 in
theorem contr_any (A : Option Addr) (c : Nat) (l : List Ru) (w : World) (ha : Slc w Ru.cells 8 A l) (hn : l.length < 1000) : Calls Try.prog 46 #[.slice A l.length c] w (RetB w (conB l)) := by
  obtain ⟨r, hr⟩ : ∃ r, conB l = r := ⟨_, rfl⟩
  have HR := Lib.hid hr
  rw [hr]
  clear hr
  have HA := Lib.hid ha
  clear ha
  go_enter Try.func46, Try.ntmps46
  go_wp2_with fail
  go_loopw [3] (fun i W => ∃ k : Nat, k ≤ l.length ∧ i = .int .i64 k ∧ Hid (NoP l k ∧ ∀ x ∈ l.take k, cov (dayOf l x) ⟨0, 1440⟩ = false) ∧ Below w.heap.size w W) (fun i _ => l.length - (intOf i).toNat)
  case atStart => exact ⟨0, Nat.zero_le _, rfl, ⟨fun a b _ _ _ h => by omega, fun x hx => by simp at hx⟩, ext_refl _⟩
  case round =>
    obtain ⟨wo, rfl⟩ : ∃ wo, wo = wr := ⟨_, rfl⟩
    obtain ⟨k, hk, rfl, HP, hB⟩ := hrel
    have E := Lib.hid hB
    clear hB
    by_cases hlt : k < l.length
    rotate_left
    · obtain rfl : k = l.length := by omega
      have hret := Lib.hid (show false = r by rw [← HR.out]; have h0 := HP.out; rw [List.take_length] at h0; exact (noP_end h0.1 h0.2).symm)
      go_wp2_with fail
      go_ret
      exact ⟨ret_bool hret.out, E.out⟩
    · obtain ⟨x, b1, o1, hx, rfl, hb1, hd⟩ := (HA.out.ext E.out).at_ hlt
      have HX := Lib.hid hx
      have HD := Lib.hid hd
      clear hx hd
      have hlt' : (k : Int) < l.length := by omega
      go_wp2_with fail
      have E1 := Lib.hid (ext_alloc E.out (.cells #[] 40))
      have HO1 := Lib.hid (Own.madeH (α := Sp) wo wo.heap.size 40 Sp.cells 2 (Nat.le_refl _) wo.heap.size rfl)
      obtain ⟨w1, hw1⟩ : ∃ W, W = wo.alloc (.cells #[] 40) := ⟨_, rfl⟩
      have hwl := Lib.hid (show wo.heap.size ≤ w1.heap.size by rw [hw1]; simp)
      have hE0 := Lib.hid (show Below wo.heap.size wo w1 by rw [hw1]; exact ext_alloc (ext_refl _) _)
      rw [← hw1] at HO1 E1 ⊢
      clear hw1
      go_loopw [4, 5] (fun v j W => ∃ m : Nat, m ≤ l.length ∧ j = .int .i64 m ∧ Hid (NoQ l k x m) ∧ Own W wo.heap.size 40 Sp.cells 2 v (dayOf (l.take m) x) ∧ Below wo.heap.size wo W) (fun _ j _ => l.length - (intOf j).toNat)
      case atStart => exact ⟨0, Nat.zero_le _, rfl, fun a y h => by omega, HO1.out, hE0.out⟩
      case round =>
        obtain ⟨m, hm, rfl, HQ, hO, hB⟩ := hrel
        have F := Lib.hid hB
        have HO := Lib.hid hO
        clear hB hO hE0 HO1 hwl E1
        by_cases hmt : m < l.length
        rotate_left
        · obtain rfl : m = l.length := by omega
          have hO2 := HO.out
          rw [List.take_length] at hO2
          have hlen := dayOf_len l x
          obtain ⟨A6, c6, rfl, hc, -, -⟩ := hO2.form
          obtain ⟨q, hq⟩ : ∃ q, cov (dayOf l x) ⟨0, 1440⟩ = q := ⟨_, rfl⟩
          have hcx := Lib.hid hq
          have HC := Lib.hid (all63_any A6 c6 (dayOf l x) wr (hO2.slc (fun _ => rfl) (by decide)) (by omega))
          rw [hq] at HC
          clear hq hO2 HO hlen hc
          go_wp2_with fail
          refine HC.out.mono ?_
          rintro e w5 ⟨rfl, hB⟩
          have E5 := Lib.hid (ext_trans (ext_trans E.out F.out) hB)
          clear HC hB
          cases q
          · have HN := Lib.hid (show NoP l (k + 1) ∧ ∀ x ∈ l.take (k + 1), cov (dayOf l x) ⟨0, 1440⟩ = false from ⟨noP_step HP.out.1 HX.out HQ.out, all_stepR (p := fun x => cov (dayOf l x) ⟨0, 1440⟩) HP.out.2 HX.out hcx.out⟩)
            go_wp2_with fail
            exact ⟨⟨k + 1, hlt, by go_num, HN.out, E5.out⟩, by simp [intOf]; omega⟩
          · have hret := Lib.hid (show true = r by rw [← HR.out]; exact (con_day (List.mem_of_getElem? HX.out) hcx.out).symm)
            go_wp2_with fail
            go_ret
            exact ⟨ret_bool hret.out, E5.out⟩
        · obtain ⟨y, b2, o2, hy, hA2, hb2, hd2⟩ := (HA.out.ext (ext_trans E.out F.out)).at_ hmt
          obtain ⟨rfl, rfl⟩ : b1 = b2 ∧ o1 = o2 := by simpa using hA2
          clear hA2
          have HY := Lib.hid hy
          have HD2 := Lib.hid hd2
          clear hy hd2
          have hmt' : (m : Int) < l.length := by omega
          obtain ⟨A6, c6, rfl, hc6, -, -⟩ := HO.out.form
          have HSt := Lib.hid (dayOf_step (x := x) HY.out)
          have DX := Lib.hid (fun j v (h : x.cells[j]? = some v) => (F.out.cell (p := ⟨b1, o1 + k * 8 + j, none⟩) hb1).trans (HD.out j v h))
          go_wp2_with fail
          by_cases hmk : m < k
          · have hmk' : decide ((m : Int) < (k : Int)) = true := by simp; omega
            obtain ⟨q, hq⟩ : ∃ q, agR y x = q := ⟨_, rfl⟩
            have HP2 := Lib.hid hq
            clear hq
            have hxwr := hb2
            have DXwr := DX
            have DYwr := HD2
            have SS := Lib.hid (show ∀ w', Below wr.heap.size wr w' → (fun w' => Below wr.heap.size wr w' ∧ w'.cell? ⟨b1, o1 + k * 8, none⟩ = some (.int .i64 x.k) ∧ w'.cell? ⟨b1, o1 + k * 8 + 1, none⟩ = some (.string x.sc) ∧ w'.cell? ⟨b1, o1 + k * 8 + 2, none⟩ = some (.string x.sa) ∧ w'.cell? ⟨b1, o1 + k * 8 + 3, none⟩ = some (.int .i64 x.cl) ∧ w'.cell? ⟨b1, o1 + k * 8 + 4, none⟩ = some (.int .i64 x.ap) ∧ w'.cell? ⟨b1, o1 + k * 8 + 5, none⟩ = some (.int .i64 x.n) ∧ w'.cell? ⟨b1, o1 + k * 8 + 6, none⟩ = some (.int .i64 x.f) ∧ w'.cell? ⟨b1, o1 + k * 8 + 7, none⟩ = some (.int .i64 x.t) ∧ w'.cell? ⟨b1, o1 + m * 8, none⟩ = some (.int .i64 y.k) ∧ w'.cell? ⟨b1, o1 + m * 8 + 1, none⟩ = some (.string y.sc) ∧ w'.cell? ⟨b1, o1 + m * 8 + 2, none⟩ = some (.string y.sa) ∧ w'.cell? ⟨b1, o1 + m * 8 + 3, none⟩ = some (.int .i64 y.cl) ∧ w'.cell? ⟨b1, o1 + m * 8 + 4, none⟩ = some (.int .i64 y.ap) ∧ w'.cell? ⟨b1, o1 + m * 8 + 5, none⟩ = some (.int .i64 y.n) ∧ w'.cell? ⟨b1, o1 + m * 8 + 6, none⟩ = some (.int .i64 y.f) ∧ w'.cell? ⟨b1, o1 + m * 8 + 7, none⟩ = some (.int .i64 y.t)) w' from fun w' h => ⟨h, ((h : Below _ _ _).cell (p := ⟨b1, o1 + k * 8, none⟩) hxwr).trans (DXwr.out 0 _ rfl), ((h : Below _ _ _).cell (p := ⟨b1, o1 + k * 8 + 1, none⟩) hxwr).trans (DXwr.out 1 _ rfl), ((h : Below _ _ _).cell (p := ⟨b1, o1 + k * 8 + 2, none⟩) hxwr).trans (DXwr.out 2 _ rfl), ((h : Below _ _ _).cell (p := ⟨b1, o1 + k * 8 + 3, none⟩) hxwr).trans (DXwr.out 3 _ rfl), ((h : Below _ _ _).cell (p := ⟨b1, o1 + k * 8 + 4, none⟩) hxwr).trans (DXwr.out 4 _ rfl), ((h : Below _ _ _).cell (p := ⟨b1, o1 + k * 8 + 5, none⟩) hxwr).trans (DXwr.out 5 _ rfl), ((h : Below _ _ _).cell (p := ⟨b1, o1 + k * 8 + 6, none⟩) hxwr).trans (DXwr.out 6 _ rfl), ((h : Below _ _ _).cell (p := ⟨b1, o1 + k * 8 + 7, none⟩) hxwr).trans (DXwr.out 7 _ rfl), ((h : Below _ _ _).cell (p := ⟨b1, o1 + m * 8, none⟩) hxwr).trans (DYwr.out 0 _ rfl), ((h : Below _ _ _).cell (p := ⟨b1, o1 + m * 8 + 1, none⟩) hxwr).trans (DYwr.out 1 _ rfl), ((h : Below _ _ _).cell (p := ⟨b1, o1 + m * 8 + 2, none⟩) hxwr).trans (DYwr.out 2 _ rfl), ((h : Below _ _ _).cell (p := ⟨b1, o1 + m * 8 + 3, none⟩) hxwr).trans (DYwr.out 3 _ rfl), ((h : Below _ _ _).cell (p := ⟨b1, o1 + m * 8 + 4, none⟩) hxwr).trans (DYwr.out 4 _ rfl), ((h : Below _ _ _).cell (p := ⟨b1, o1 + m * 8 + 5, none⟩) hxwr).trans (DYwr.out 5 _ rfl), ((h : Below _ _ _).cell (p := ⟨b1, o1 + m * 8 + 6, none⟩) hxwr).trans (DYwr.out 6 _ rfl), ((h : Below _ _ _).cell (p := ⟨b1, o1 + m * 8 + 7, none⟩) hxwr).trans (DYwr.out 7 _ rfl)⟩)
            refine rg_begin (S := (fun w' => Below wr.heap.size wr w' ∧ w'.cell? ⟨b1, o1 + k * 8, none⟩ = some (.int .i64 x.k) ∧ w'.cell? ⟨b1, o1 + k * 8 + 1, none⟩ = some (.string x.sc) ∧ w'.cell? ⟨b1, o1 + k * 8 + 2, none⟩ = some (.string x.sa) ∧ w'.cell? ⟨b1, o1 + k * 8 + 3, none⟩ = some (.int .i64 x.cl) ∧ w'.cell? ⟨b1, o1 + k * 8 + 4, none⟩ = some (.int .i64 x.ap) ∧ w'.cell? ⟨b1, o1 + k * 8 + 5, none⟩ = some (.int .i64 x.n) ∧ w'.cell? ⟨b1, o1 + k * 8 + 6, none⟩ = some (.int .i64 x.f) ∧ w'.cell? ⟨b1, o1 + k * 8 + 7, none⟩ = some (.int .i64 x.t) ∧ w'.cell? ⟨b1, o1 + m * 8, none⟩ = some (.int .i64 y.k) ∧ w'.cell? ⟨b1, o1 + m * 8 + 1, none⟩ = some (.string y.sc) ∧ w'.cell? ⟨b1, o1 + m * 8 + 2, none⟩ = some (.string y.sa) ∧ w'.cell? ⟨b1, o1 + m * 8 + 3, none⟩ = some (.int .i64 y.cl) ∧ w'.cell? ⟨b1, o1 + m * 8 + 4, none⟩ = some (.int .i64 y.ap) ∧ w'.cell? ⟨b1, o1 + m * 8 + 5, none⟩ = some (.int .i64 y.n) ∧ w'.cell? ⟨b1, o1 + m * 8 + 6, none⟩ = some (.int .i64 y.f) ∧ w'.cell? ⟨b1, o1 + m * 8 + 7, none⟩ = some (.int .i64 y.t))) 14 (by kernel_rfl) (by intro d; cases d <;> intro _ _ _ _ h <;> exact h) ?_ (fun Q7 hQ7 hN7 hHeld => ?_)
            · exact SS.out _ (ext_drew (ext_refl _))
            refine rg_take (i := 0) (some 19) (v := ?_) rfl rfl (by kernel_rfl) (by rfl) hQ7 hHeld ?_ ?_
            rotate_left
            · intro w7 hSw; (try dsimp only at hSw); go_simp; all_goals with_reducible rfl
            try simp only [Act.put, List.setIfInBounds_toArray, List.set_cons_zero, List.set_cons_succ]
            refine rg_take (i := 1) (some 20) (v := ?_) rfl rfl (by kernel_rfl) (by rfl) hQ7 hHeld ?_ ?_
            rotate_left
            · intro w7 hSw; (try dsimp only at hSw); go_simp; all_goals with_reducible rfl
            try simp only [Act.put, List.setIfInBounds_toArray, List.set_cons_zero, List.set_cons_succ]
            refine rg_take (i := 2) (some 21) (v := ?_) rfl rfl (by kernel_rfl) (by rfl) hQ7 hHeld ?_ ?_
            rotate_left
            · intro w7 hSw; (try dsimp only at hSw); go_simp; all_goals with_reducible rfl
            try simp only [Act.put, List.setIfInBounds_toArray, List.set_cons_zero, List.set_cons_succ]
            refine rg_take (i := 3) (some 22) (v := ?_) rfl rfl (by kernel_rfl) (by rfl) hQ7 hHeld ?_ ?_
            rotate_left
            · intro w7 hSw; (try dsimp only at hSw); go_simp; all_goals with_reducible rfl
            try simp only [Act.put, List.setIfInBounds_toArray, List.set_cons_zero, List.set_cons_succ]
            refine rg_take (i := 4) (some 23) (v := ?_) rfl rfl (by kernel_rfl) (by rfl) hQ7 hHeld ?_ ?_
            rotate_left
            · intro w7 hSw; (try dsimp only at hSw); go_simp; all_goals with_reducible rfl
            try simp only [Act.put, List.setIfInBounds_toArray, List.set_cons_zero, List.set_cons_succ]
            refine rg_take (i := 5) (some 24) (v := ?_) rfl rfl (by kernel_rfl) (by rfl) hQ7 hHeld ?_ ?_
            rotate_left
            · intro w7 hSw; (try dsimp only at hSw); go_simp; all_goals with_reducible rfl
            try simp only [Act.put, List.setIfInBounds_toArray, List.set_cons_zero, List.set_cons_succ]
            refine rg_take (i := 6) (some 25) (v := ?_) rfl rfl (by kernel_rfl) (by rfl) hQ7 hHeld ?_ ?_
            rotate_left
            · intro w7 hSw; (try dsimp only at hSw); go_simp; all_goals with_reducible rfl
            try simp only [Act.put, List.setIfInBounds_toArray, List.set_cons_zero, List.set_cons_succ]
            refine rg_take (i := 7) (some 26) (v := ?_) rfl rfl (by kernel_rfl) (by rfl) hQ7 hHeld ?_ ?_
            rotate_left
            · intro w7 hSw; (try dsimp only at hSw); go_simp; all_goals with_reducible rfl
            try simp only [Act.put, List.setIfInBounds_toArray, List.set_cons_zero, List.set_cons_succ]
            refine rg_take (i := 8) (some 27) (v := ?_) rfl rfl (by kernel_rfl) (by rfl) hQ7 hHeld ?_ ?_
            rotate_left
            · intro w7 hSw; (try dsimp only at hSw); go_simp; all_goals with_reducible rfl
            try simp only [Act.put, List.setIfInBounds_toArray, List.set_cons_zero, List.set_cons_succ]
            refine rg_take (i := 9) (some 28) (v := ?_) rfl rfl (by kernel_rfl) (by rfl) hQ7 hHeld ?_ ?_
            rotate_left
            · intro w7 hSw; (try dsimp only at hSw); go_simp; all_goals with_reducible rfl
            try simp only [Act.put, List.setIfInBounds_toArray, List.set_cons_zero, List.set_cons_succ]
            refine rg_take (i := 10) (some 29) (v := ?_) rfl rfl (by kernel_rfl) (by rfl) hQ7 hHeld ?_ ?_
            rotate_left
            · intro w7 hSw; (try dsimp only at hSw); go_simp; all_goals with_reducible rfl
            try simp only [Act.put, List.setIfInBounds_toArray, List.set_cons_zero, List.set_cons_succ]
            refine rg_take (i := 11) (some 30) (v := ?_) rfl rfl (by kernel_rfl) (by rfl) hQ7 hHeld ?_ ?_
            rotate_left
            · intro w7 hSw; (try dsimp only at hSw); go_simp; all_goals with_reducible rfl
            try simp only [Act.put, List.setIfInBounds_toArray, List.set_cons_zero, List.set_cons_succ]
            refine rg_one (i := 12) (by kernel_rfl) (rg_step rfl (by rfl) (fun K hK => ?_))
            go_simp
            refine (pair_at q HP2.out).mono ?_
            rintro e u1 ⟨rfl, B⟩
            go_wp2_with fail
            refine hK.out _ _ ?_ (fun hHeld2 => ?_)
            · exact SS.out _ (ext_trans hHeld.1 B)
            clear hHeld
            have hHeld := hHeld2
            clear hHeld2
            clear hK K
            try simp only [Act.put, List.setIfInBounds_toArray, List.set_cons_zero, List.set_cons_succ]
            refine rg_take (i := 13) (some 32) (v := ?_) rfl rfl (by kernel_rfl) (by rfl) hQ7 hHeld ?_ ?_
            rotate_left
            · intro w7 hSw; (try dsimp only at hSw); go_simp; all_goals with_reducible rfl
            try simp only [Act.put, List.setIfInBounds_toArray, List.set_cons_zero, List.set_cons_succ]
            refine rg_end (by kernel_rfl) (hN7 _ _ ?_) _
            clear hQ7 hN7 Q7
            have BX := hHeld.1
            clear SS
            clear hxwr DXwr DYwr
            have hxu1 : b1 < u1.heap.size := Nat.lt_of_lt_of_le hb2 BX.size
            have DXu1 := Lib.hid (fun j v (h : x.cells[j]? = some v) => (BX.cell (p := ⟨b1, o1 + k * 8 + j, none⟩) hb2).trans (DX.out j v h))
            have DYu1 := Lib.hid (fun j v (h : y.cells[j]? = some v) => (BX.cell (p := ⟨b1, o1 + m * 8 + j, none⟩) hb2).trans (HD2.out j v h))
            have Fu1 := Lib.hid (ext_trans F.out BX)
            have HOu1 := Lib.hid (HO.out.ext BX)
            clear BX
            cases q
            rotate_left
            · have hret := Lib.hid (show true = r by rw [← HR.out]; exact (con_pair (List.mem_of_getElem? HX.out) (List.mem_of_getElem? HY.out) HP2.out).symm)
              go_wp2_with fail
              go_ret
              exact ⟨ret_bool hret.out, ext_trans E.out Fu1.out⟩
            have HNQ := Lib.hid (noQ_step HQ.out HY.out (fun _ => HP2.out))
            clear HP2
            go_wp2_with fail
            by_cases g0 : x.k = 1
            rotate_left
            · have e0 : (x.k == 1) = false := by simp [g0]
              have hsg : sameG x y = false := by
                rw [Bool.eq_false_iff]
                intro h
                simp only [sameG, Bool.and_eq_true, decide_eq_true_eq] at h
                exact g0 (by omega)
              have HSt2 := Lib.hid HSt.out
              rw [hsg] at HSt2
              clear HSt hsg g0
              have SS := Lib.hid (show ∀ w', Below u1.heap.size u1 w' → (fun w' => Below u1.heap.size u1 w' ∧ w'.cell? ⟨b1, o1 + k * 8, none⟩ = some (.int .i64 x.k) ∧ w'.cell? ⟨b1, o1 + k * 8 + 1, none⟩ = some (.string x.sc) ∧ w'.cell? ⟨b1, o1 + k * 8 + 2, none⟩ = some (.string x.sa) ∧ w'.cell? ⟨b1, o1 + k * 8 + 3, none⟩ = some (.int .i64 x.cl) ∧ w'.cell? ⟨b1, o1 + k * 8 + 4, none⟩ = some (.int .i64 x.ap) ∧ w'.cell? ⟨b1, o1 + k * 8 + 5, none⟩ = some (.int .i64 x.n) ∧ w'.cell? ⟨b1, o1 + k * 8 + 6, none⟩ = some (.int .i64 x.f) ∧ w'.cell? ⟨b1, o1 + k * 8 + 7, none⟩ = some (.int .i64 x.t) ∧ w'.cell? ⟨b1, o1 + m * 8, none⟩ = some (.int .i64 y.k) ∧ w'.cell? ⟨b1, o1 + m * 8 + 1, none⟩ = some (.string y.sc) ∧ w'.cell? ⟨b1, o1 + m * 8 + 2, none⟩ = some (.string y.sa) ∧ w'.cell? ⟨b1, o1 + m * 8 + 3, none⟩ = some (.int .i64 y.cl) ∧ w'.cell? ⟨b1, o1 + m * 8 + 4, none⟩ = some (.int .i64 y.ap) ∧ w'.cell? ⟨b1, o1 + m * 8 + 5, none⟩ = some (.int .i64 y.n) ∧ w'.cell? ⟨b1, o1 + m * 8 + 6, none⟩ = some (.int .i64 y.f) ∧ w'.cell? ⟨b1, o1 + m * 8 + 7, none⟩ = some (.int .i64 y.t)) w' from fun w' h => ⟨h, ((h : Below _ _ _).cell (p := ⟨b1, o1 + k * 8, none⟩) hxu1).trans (DXu1.out 0 _ rfl), ((h : Below _ _ _).cell (p := ⟨b1, o1 + k * 8 + 1, none⟩) hxu1).trans (DXu1.out 1 _ rfl), ((h : Below _ _ _).cell (p := ⟨b1, o1 + k * 8 + 2, none⟩) hxu1).trans (DXu1.out 2 _ rfl), ((h : Below _ _ _).cell (p := ⟨b1, o1 + k * 8 + 3, none⟩) hxu1).trans (DXu1.out 3 _ rfl), ((h : Below _ _ _).cell (p := ⟨b1, o1 + k * 8 + 4, none⟩) hxu1).trans (DXu1.out 4 _ rfl), ((h : Below _ _ _).cell (p := ⟨b1, o1 + k * 8 + 5, none⟩) hxu1).trans (DXu1.out 5 _ rfl), ((h : Below _ _ _).cell (p := ⟨b1, o1 + k * 8 + 6, none⟩) hxu1).trans (DXu1.out 6 _ rfl), ((h : Below _ _ _).cell (p := ⟨b1, o1 + k * 8 + 7, none⟩) hxu1).trans (DXu1.out 7 _ rfl), ((h : Below _ _ _).cell (p := ⟨b1, o1 + m * 8, none⟩) hxu1).trans (DYu1.out 0 _ rfl), ((h : Below _ _ _).cell (p := ⟨b1, o1 + m * 8 + 1, none⟩) hxu1).trans (DYu1.out 1 _ rfl), ((h : Below _ _ _).cell (p := ⟨b1, o1 + m * 8 + 2, none⟩) hxu1).trans (DYu1.out 2 _ rfl), ((h : Below _ _ _).cell (p := ⟨b1, o1 + m * 8 + 3, none⟩) hxu1).trans (DYu1.out 3 _ rfl), ((h : Below _ _ _).cell (p := ⟨b1, o1 + m * 8 + 4, none⟩) hxu1).trans (DYu1.out 4 _ rfl), ((h : Below _ _ _).cell (p := ⟨b1, o1 + m * 8 + 5, none⟩) hxu1).trans (DYu1.out 5 _ rfl), ((h : Below _ _ _).cell (p := ⟨b1, o1 + m * 8 + 6, none⟩) hxu1).trans (DYu1.out 6 _ rfl), ((h : Below _ _ _).cell (p := ⟨b1, o1 + m * 8 + 7, none⟩) hxu1).trans (DYu1.out 7 _ rfl)⟩)
              refine rg_begin (S := (fun w' => Below u1.heap.size u1 w' ∧ w'.cell? ⟨b1, o1 + k * 8, none⟩ = some (.int .i64 x.k) ∧ w'.cell? ⟨b1, o1 + k * 8 + 1, none⟩ = some (.string x.sc) ∧ w'.cell? ⟨b1, o1 + k * 8 + 2, none⟩ = some (.string x.sa) ∧ w'.cell? ⟨b1, o1 + k * 8 + 3, none⟩ = some (.int .i64 x.cl) ∧ w'.cell? ⟨b1, o1 + k * 8 + 4, none⟩ = some (.int .i64 x.ap) ∧ w'.cell? ⟨b1, o1 + k * 8 + 5, none⟩ = some (.int .i64 x.n) ∧ w'.cell? ⟨b1, o1 + k * 8 + 6, none⟩ = some (.int .i64 x.f) ∧ w'.cell? ⟨b1, o1 + k * 8 + 7, none⟩ = some (.int .i64 x.t) ∧ w'.cell? ⟨b1, o1 + m * 8, none⟩ = some (.int .i64 y.k) ∧ w'.cell? ⟨b1, o1 + m * 8 + 1, none⟩ = some (.string y.sc) ∧ w'.cell? ⟨b1, o1 + m * 8 + 2, none⟩ = some (.string y.sa) ∧ w'.cell? ⟨b1, o1 + m * 8 + 3, none⟩ = some (.int .i64 y.cl) ∧ w'.cell? ⟨b1, o1 + m * 8 + 4, none⟩ = some (.int .i64 y.ap) ∧ w'.cell? ⟨b1, o1 + m * 8 + 5, none⟩ = some (.int .i64 y.n) ∧ w'.cell? ⟨b1, o1 + m * 8 + 6, none⟩ = some (.int .i64 y.f) ∧ w'.cell? ⟨b1, o1 + m * 8 + 7, none⟩ = some (.int .i64 y.t))) 40 (by kernel_rfl) (by intro d; cases d <;> intro _ _ _ _ h <;> exact h) ?_ (fun Q7 hQ7 hN7 hHeld => ?_)
              · exact SS.out _ (ext_drew (ext_refl _))
              refine rg_take (i := 0) (some 33) (v := ?_) rfl rfl (by kernel_rfl) (by rfl) hQ7 hHeld ?_ ?_
              rotate_left
              · intro w7 hSw; (try dsimp only at hSw); go_simp; all_goals with_reducible rfl
              try simp only [Act.put, List.setIfInBounds_toArray, List.set_cons_zero, List.set_cons_succ]
              refine rg_take (i := 1) (some 34) (v := ?_) rfl rfl (by kernel_rfl) (by rfl) hQ7 hHeld ?_ ?_
              rotate_left
              · intro w7 hSw; (try dsimp only at hSw); go_simp; all_goals with_reducible rfl
              try simp only [Act.put, List.setIfInBounds_toArray, List.set_cons_zero, List.set_cons_succ]
              refine rg_take (i := 2) (some 35) (v := ?_) rfl rfl (by kernel_rfl) (by rfl) hQ7 hHeld ?_ ?_
              rotate_left
              · intro w7 hSw; (try dsimp only at hSw); go_simp; all_goals with_reducible rfl
              try simp only [Act.put, List.setIfInBounds_toArray, List.set_cons_zero, List.set_cons_succ]
              refine rg_take (i := 3) (some 36) (v := ?_) rfl rfl (by kernel_rfl) (by rfl) hQ7 hHeld ?_ ?_
              rotate_left
              · intro w7 hSw; (try dsimp only at hSw); go_simp; all_goals with_reducible rfl
              try simp only [Act.put, List.setIfInBounds_toArray, List.set_cons_zero, List.set_cons_succ]
              refine rg_take (i := 4) (some 37) (v := ?_) rfl rfl (by kernel_rfl) (by rfl) hQ7 hHeld ?_ ?_
              rotate_left
              · intro w7 hSw; (try dsimp only at hSw); go_simp; all_goals with_reducible rfl
              try simp only [Act.put, List.setIfInBounds_toArray, List.set_cons_zero, List.set_cons_succ]
              refine rg_take (i := 5) (some 38) (v := ?_) rfl rfl (by kernel_rfl) (by rfl) hQ7 hHeld ?_ ?_
              rotate_left
              · intro w7 hSw; (try dsimp only at hSw); go_simp; all_goals with_reducible rfl
              try simp only [Act.put, List.setIfInBounds_toArray, List.set_cons_zero, List.set_cons_succ]
              refine rg_take (i := 6) (some 39) (v := ?_) rfl rfl (by kernel_rfl) (by rfl) hQ7 hHeld ?_ ?_
              rotate_left
              · intro w7 hSw; (try dsimp only at hSw); go_simp; all_goals with_reducible rfl
              try simp only [Act.put, List.setIfInBounds_toArray, List.set_cons_zero, List.set_cons_succ]
              refine rg_skip (i := 7) (some 40) rfl rfl (by kernel_rfl) (by rfl) hQ7 hHeld ?_
              try simp only [Act.put, List.setIfInBounds_toArray, List.set_cons_zero, List.set_cons_succ]
              refine rg_skip (i := 8) (some 41) rfl rfl (by kernel_rfl) (by rfl) hQ7 hHeld ?_
              try simp only [Act.put, List.setIfInBounds_toArray, List.set_cons_zero, List.set_cons_succ]
              refine rg_skip (i := 9) (some 42) rfl rfl (by kernel_rfl) (by rfl) hQ7 hHeld ?_
              try simp only [Act.put, List.setIfInBounds_toArray, List.set_cons_zero, List.set_cons_succ]
              refine rg_skip (i := 10) (some 43) rfl rfl (by kernel_rfl) (by rfl) hQ7 hHeld ?_
              try simp only [Act.put, List.setIfInBounds_toArray, List.set_cons_zero, List.set_cons_succ]
              refine rg_skip (i := 11) (some 44) rfl rfl (by kernel_rfl) (by rfl) hQ7 hHeld ?_
              try simp only [Act.put, List.setIfInBounds_toArray, List.set_cons_zero, List.set_cons_succ]
              refine rg_skip (i := 12) (some 45) rfl rfl (by kernel_rfl) (by rfl) hQ7 hHeld ?_
              try simp only [Act.put, List.setIfInBounds_toArray, List.set_cons_zero, List.set_cons_succ]
              refine rg_take (i := 13) (some 46) (v := ?_) rfl rfl (by kernel_rfl) (by rfl) hQ7 hHeld ?_ ?_
              rotate_left
              · intro w7 hSw; (try dsimp only at hSw); go_simp; all_goals with_reducible rfl
              try simp only [Act.put, List.setIfInBounds_toArray, List.set_cons_zero, List.set_cons_succ]
              refine rg_take (i := 14) (some 47) (v := ?_) rfl rfl (by kernel_rfl) (by rfl) hQ7 hHeld ?_ ?_
              rotate_left
              · intro w7 hSw; (try dsimp only at hSw); go_simp; all_goals with_reducible rfl
              try simp only [Act.put, List.setIfInBounds_toArray, List.set_cons_zero, List.set_cons_succ]
              refine rg_skip (i := 15) (some 48) rfl rfl (by kernel_rfl) (by rfl) hQ7 hHeld ?_
              try simp only [Act.put, List.setIfInBounds_toArray, List.set_cons_zero, List.set_cons_succ]
              refine rg_skip (i := 16) (some 49) rfl rfl (by kernel_rfl) (by rfl) hQ7 hHeld ?_
              try simp only [Act.put, List.setIfInBounds_toArray, List.set_cons_zero, List.set_cons_succ]
              refine rg_skip (i := 17) (some 50) rfl rfl (by kernel_rfl) (by rfl) hQ7 hHeld ?_
              try simp only [Act.put, List.setIfInBounds_toArray, List.set_cons_zero, List.set_cons_succ]
              refine rg_skip (i := 18) (some 51) rfl rfl (by kernel_rfl) (by rfl) hQ7 hHeld ?_
              try simp only [Act.put, List.setIfInBounds_toArray, List.set_cons_zero, List.set_cons_succ]
              refine rg_skip (i := 19) (some 52) rfl rfl (by kernel_rfl) (by rfl) hQ7 hHeld ?_
              try simp only [Act.put, List.setIfInBounds_toArray, List.set_cons_zero, List.set_cons_succ]
              refine rg_skip (i := 20) (some 53) rfl rfl (by kernel_rfl) (by rfl) hQ7 hHeld ?_
              try simp only [Act.put, List.setIfInBounds_toArray, List.set_cons_zero, List.set_cons_succ]
              refine rg_skip (i := 21) (some 54) rfl rfl (by kernel_rfl) (by rfl) hQ7 hHeld ?_
              try simp only [Act.put, List.setIfInBounds_toArray, List.set_cons_zero, List.set_cons_succ]
              refine rg_skip (i := 22) (some 55) rfl rfl (by kernel_rfl) (by rfl) hQ7 hHeld ?_
              try simp only [Act.put, List.setIfInBounds_toArray, List.set_cons_zero, List.set_cons_succ]
              refine rg_skip (i := 23) (some 56) rfl rfl (by kernel_rfl) (by rfl) hQ7 hHeld ?_
              try simp only [Act.put, List.setIfInBounds_toArray, List.set_cons_zero, List.set_cons_succ]
              refine rg_skip (i := 24) (some 57) rfl rfl (by kernel_rfl) (by rfl) hQ7 hHeld ?_
              try simp only [Act.put, List.setIfInBounds_toArray, List.set_cons_zero, List.set_cons_succ]
              refine rg_skip (i := 25) (some 58) rfl rfl (by kernel_rfl) (by rfl) hQ7 hHeld ?_
              try simp only [Act.put, List.setIfInBounds_toArray, List.set_cons_zero, List.set_cons_succ]
              refine rg_take (i := 26) (some 59) (v := ?_) rfl rfl (by kernel_rfl) (by rfl) hQ7 hHeld ?_ ?_
              rotate_left
              · intro w7 hSw; (try dsimp only at hSw); go_simp; all_goals with_reducible rfl
              try simp only [Act.put, List.setIfInBounds_toArray, List.set_cons_zero, List.set_cons_succ]
              refine rg_take (i := 27) (some 60) (v := ?_) rfl rfl (by kernel_rfl) (by rfl) hQ7 hHeld ?_ ?_
              rotate_left
              · intro w7 hSw; (try dsimp only at hSw); go_simp; all_goals with_reducible rfl
              try simp only [Act.put, List.setIfInBounds_toArray, List.set_cons_zero, List.set_cons_succ]
              refine rg_skip (i := 28) (some 61) rfl rfl (by kernel_rfl) (by rfl) hQ7 hHeld ?_
              try simp only [Act.put, List.setIfInBounds_toArray, List.set_cons_zero, List.set_cons_succ]
              refine rg_skip (i := 29) (some 62) rfl rfl (by kernel_rfl) (by rfl) hQ7 hHeld ?_
              try simp only [Act.put, List.setIfInBounds_toArray, List.set_cons_zero, List.set_cons_succ]
              refine rg_skip (i := 30) (some 63) rfl rfl (by kernel_rfl) (by rfl) hQ7 hHeld ?_
              try simp only [Act.put, List.setIfInBounds_toArray, List.set_cons_zero, List.set_cons_succ]
              refine rg_skip (i := 31) (some 64) rfl rfl (by kernel_rfl) (by rfl) hQ7 hHeld ?_
              try simp only [Act.put, List.setIfInBounds_toArray, List.set_cons_zero, List.set_cons_succ]
              refine rg_skip (i := 32) (some 65) rfl rfl (by kernel_rfl) (by rfl) hQ7 hHeld ?_
              try simp only [Act.put, List.setIfInBounds_toArray, List.set_cons_zero, List.set_cons_succ]
              refine rg_skip (i := 33) (some 66) rfl rfl (by kernel_rfl) (by rfl) hQ7 hHeld ?_
              try simp only [Act.put, List.setIfInBounds_toArray, List.set_cons_zero, List.set_cons_succ]
              refine rg_skip (i := 34) (some 67) rfl rfl (by kernel_rfl) (by rfl) hQ7 hHeld ?_
              try simp only [Act.put, List.setIfInBounds_toArray, List.set_cons_zero, List.set_cons_succ]
              refine rg_skip (i := 35) (some 68) rfl rfl (by kernel_rfl) (by rfl) hQ7 hHeld ?_
              try simp only [Act.put, List.setIfInBounds_toArray, List.set_cons_zero, List.set_cons_succ]
              refine rg_skip (i := 36) (some 69) rfl rfl (by kernel_rfl) (by rfl) hQ7 hHeld ?_
              try simp only [Act.put, List.setIfInBounds_toArray, List.set_cons_zero, List.set_cons_succ]
              refine rg_skip (i := 37) (some 70) rfl rfl (by kernel_rfl) (by rfl) hQ7 hHeld ?_
              try simp only [Act.put, List.setIfInBounds_toArray, List.set_cons_zero, List.set_cons_succ]
              refine rg_skip (i := 38) (some 71) rfl rfl (by kernel_rfl) (by rfl) hQ7 hHeld ?_
              try simp only [Act.put, List.setIfInBounds_toArray, List.set_cons_zero, List.set_cons_succ]
              refine rg_take (i := 39) (some 72) (v := ?_) rfl rfl (by kernel_rfl) (by rfl) hQ7 hHeld ?_ ?_
              rotate_left
              · intro w7 hSw; (try dsimp only at hSw); go_simp; all_goals with_reducible rfl
              try simp only [Act.put, List.setIfInBounds_toArray, List.set_cons_zero, List.set_cons_succ]
              refine rg_end (by kernel_rfl) (hN7 _ _ ?_) _
              clear hQ7 hN7 Q7
              have BX := hHeld.1
              clear SS
              have HON := Lib.hid (show Own _ wo.heap.size 40 Sp.cells 2 (.slice A6 (dayOf (l.take m) x).length c6) (dayOf (l.take (m + 1)) x) from by rw [HSt2.out]; simpa using HOu1.out.ext BX)
              have FN := Lib.hid (ext_trans Fu1.out BX)
              clear BX
              go_wp2_with fail
              first
                | exact ⟨⟨m + 1, hmt, by go_num, HNQ.out, HON.out, FN.out⟩, by simp [intOf]; omega⟩
                | (go_roundw
                   case rel => exact ⟨m + 1, hmt, by go_num, HNQ.out, HON.out, FN.out⟩
                   case measure => simp [intOf]; omega)
            by_cases g1 : y.k = 1
            rotate_left
            · have e0 : (x.k == 1) = true := by simp [g0]
              have e1 : (y.k == 1) = false := by simp [g1]
              have hsg : sameG x y = false := by
                rw [Bool.eq_false_iff]
                intro h
                simp only [sameG, Bool.and_eq_true, decide_eq_true_eq] at h
                exact g1 (by omega)
              have HSt2 := Lib.hid HSt.out
              rw [hsg] at HSt2
              clear HSt hsg g0 g1
              have SS := Lib.hid (show ∀ w', Below u1.heap.size u1 w' → (fun w' => Below u1.heap.size u1 w' ∧ w'.cell? ⟨b1, o1 + k * 8, none⟩ = some (.int .i64 x.k) ∧ w'.cell? ⟨b1, o1 + k * 8 + 1, none⟩ = some (.string x.sc) ∧ w'.cell? ⟨b1, o1 + k * 8 + 2, none⟩ = some (.string x.sa) ∧ w'.cell? ⟨b1, o1 + k * 8 + 3, none⟩ = some (.int .i64 x.cl) ∧ w'.cell? ⟨b1, o1 + k * 8 + 4, none⟩ = some (.int .i64 x.ap) ∧ w'.cell? ⟨b1, o1 + k * 8 + 5, none⟩ = some (.int .i64 x.n) ∧ w'.cell? ⟨b1, o1 + k * 8 + 6, none⟩ = some (.int .i64 x.f) ∧ w'.cell? ⟨b1, o1 + k * 8 + 7, none⟩ = some (.int .i64 x.t) ∧ w'.cell? ⟨b1, o1 + m * 8, none⟩ = some (.int .i64 y.k) ∧ w'.cell? ⟨b1, o1 + m * 8 + 1, none⟩ = some (.string y.sc) ∧ w'.cell? ⟨b1, o1 + m * 8 + 2, none⟩ = some (.string y.sa) ∧ w'.cell? ⟨b1, o1 + m * 8 + 3, none⟩ = some (.int .i64 y.cl) ∧ w'.cell? ⟨b1, o1 + m * 8 + 4, none⟩ = some (.int .i64 y.ap) ∧ w'.cell? ⟨b1, o1 + m * 8 + 5, none⟩ = some (.int .i64 y.n) ∧ w'.cell? ⟨b1, o1 + m * 8 + 6, none⟩ = some (.int .i64 y.f) ∧ w'.cell? ⟨b1, o1 + m * 8 + 7, none⟩ = some (.int .i64 y.t)) w' from fun w' h => ⟨h, ((h : Below _ _ _).cell (p := ⟨b1, o1 + k * 8, none⟩) hxu1).trans (DXu1.out 0 _ rfl), ((h : Below _ _ _).cell (p := ⟨b1, o1 + k * 8 + 1, none⟩) hxu1).trans (DXu1.out 1 _ rfl), ((h : Below _ _ _).cell (p := ⟨b1, o1 + k * 8 + 2, none⟩) hxu1).trans (DXu1.out 2 _ rfl), ((h : Below _ _ _).cell (p := ⟨b1, o1 + k * 8 + 3, none⟩) hxu1).trans (DXu1.out 3 _ rfl), ((h : Below _ _ _).cell (p := ⟨b1, o1 + k * 8 + 4, none⟩) hxu1).trans (DXu1.out 4 _ rfl), ((h : Below _ _ _).cell (p := ⟨b1, o1 + k * 8 + 5, none⟩) hxu1).trans (DXu1.out 5 _ rfl), ((h : Below _ _ _).cell (p := ⟨b1, o1 + k * 8 + 6, none⟩) hxu1).trans (DXu1.out 6 _ rfl), ((h : Below _ _ _).cell (p := ⟨b1, o1 + k * 8 + 7, none⟩) hxu1).trans (DXu1.out 7 _ rfl), ((h : Below _ _ _).cell (p := ⟨b1, o1 + m * 8, none⟩) hxu1).trans (DYu1.out 0 _ rfl), ((h : Below _ _ _).cell (p := ⟨b1, o1 + m * 8 + 1, none⟩) hxu1).trans (DYu1.out 1 _ rfl), ((h : Below _ _ _).cell (p := ⟨b1, o1 + m * 8 + 2, none⟩) hxu1).trans (DYu1.out 2 _ rfl), ((h : Below _ _ _).cell (p := ⟨b1, o1 + m * 8 + 3, none⟩) hxu1).trans (DYu1.out 3 _ rfl), ((h : Below _ _ _).cell (p := ⟨b1, o1 + m * 8 + 4, none⟩) hxu1).trans (DYu1.out 4 _ rfl), ((h : Below _ _ _).cell (p := ⟨b1, o1 + m * 8 + 5, none⟩) hxu1).trans (DYu1.out 5 _ rfl), ((h : Below _ _ _).cell (p := ⟨b1, o1 + m * 8 + 6, none⟩) hxu1).trans (DYu1.out 6 _ rfl), ((h : Below _ _ _).cell (p := ⟨b1, o1 + m * 8 + 7, none⟩) hxu1).trans (DYu1.out 7 _ rfl)⟩)
              refine rg_begin (S := (fun w' => Below u1.heap.size u1 w' ∧ w'.cell? ⟨b1, o1 + k * 8, none⟩ = some (.int .i64 x.k) ∧ w'.cell? ⟨b1, o1 + k * 8 + 1, none⟩ = some (.string x.sc) ∧ w'.cell? ⟨b1, o1 + k * 8 + 2, none⟩ = some (.string x.sa) ∧ w'.cell? ⟨b1, o1 + k * 8 + 3, none⟩ = some (.int .i64 x.cl) ∧ w'.cell? ⟨b1, o1 + k * 8 + 4, none⟩ = some (.int .i64 x.ap) ∧ w'.cell? ⟨b1, o1 + k * 8 + 5, none⟩ = some (.int .i64 x.n) ∧ w'.cell? ⟨b1, o1 + k * 8 + 6, none⟩ = some (.int .i64 x.f) ∧ w'.cell? ⟨b1, o1 + k * 8 + 7, none⟩ = some (.int .i64 x.t) ∧ w'.cell? ⟨b1, o1 + m * 8, none⟩ = some (.int .i64 y.k) ∧ w'.cell? ⟨b1, o1 + m * 8 + 1, none⟩ = some (.string y.sc) ∧ w'.cell? ⟨b1, o1 + m * 8 + 2, none⟩ = some (.string y.sa) ∧ w'.cell? ⟨b1, o1 + m * 8 + 3, none⟩ = some (.int .i64 y.cl) ∧ w'.cell? ⟨b1, o1 + m * 8 + 4, none⟩ = some (.int .i64 y.ap) ∧ w'.cell? ⟨b1, o1 + m * 8 + 5, none⟩ = some (.int .i64 y.n) ∧ w'.cell? ⟨b1, o1 + m * 8 + 6, none⟩ = some (.int .i64 y.f) ∧ w'.cell? ⟨b1, o1 + m * 8 + 7, none⟩ = some (.int .i64 y.t))) 40 (by kernel_rfl) (by intro d; cases d <;> intro _ _ _ _ h <;> exact h) ?_ (fun Q7 hQ7 hN7 hHeld => ?_)
              · exact SS.out _ (ext_drew (ext_refl _))
              refine rg_take (i := 0) (some 33) (v := ?_) rfl rfl (by kernel_rfl) (by rfl) hQ7 hHeld ?_ ?_
              rotate_left
              · intro w7 hSw; (try dsimp only at hSw); go_simp; all_goals with_reducible rfl
              try simp only [Act.put, List.setIfInBounds_toArray, List.set_cons_zero, List.set_cons_succ]
              refine rg_take (i := 1) (some 34) (v := ?_) rfl rfl (by kernel_rfl) (by rfl) hQ7 hHeld ?_ ?_
              rotate_left
              · intro w7 hSw; (try dsimp only at hSw); go_simp; all_goals with_reducible rfl
              try simp only [Act.put, List.setIfInBounds_toArray, List.set_cons_zero, List.set_cons_succ]
              refine rg_take (i := 2) (some 35) (v := ?_) rfl rfl (by kernel_rfl) (by rfl) hQ7 hHeld ?_ ?_
              rotate_left
              · intro w7 hSw; (try dsimp only at hSw); go_simp; all_goals with_reducible rfl
              try simp only [Act.put, List.setIfInBounds_toArray, List.set_cons_zero, List.set_cons_succ]
              refine rg_take (i := 3) (some 36) (v := ?_) rfl rfl (by kernel_rfl) (by rfl) hQ7 hHeld ?_ ?_
              rotate_left
              · intro w7 hSw; (try dsimp only at hSw); go_simp; all_goals with_reducible rfl
              try simp only [Act.put, List.setIfInBounds_toArray, List.set_cons_zero, List.set_cons_succ]
              refine rg_take (i := 4) (some 37) (v := ?_) rfl rfl (by kernel_rfl) (by rfl) hQ7 hHeld ?_ ?_
              rotate_left
              · intro w7 hSw; (try dsimp only at hSw); go_simp; all_goals with_reducible rfl
              try simp only [Act.put, List.setIfInBounds_toArray, List.set_cons_zero, List.set_cons_succ]
              refine rg_take (i := 5) (some 38) (v := ?_) rfl rfl (by kernel_rfl) (by rfl) hQ7 hHeld ?_ ?_
              rotate_left
              · intro w7 hSw; (try dsimp only at hSw); go_simp; all_goals with_reducible rfl
              try simp only [Act.put, List.setIfInBounds_toArray, List.set_cons_zero, List.set_cons_succ]
              refine rg_take (i := 6) (some 39) (v := ?_) rfl rfl (by kernel_rfl) (by rfl) hQ7 hHeld ?_ ?_
              rotate_left
              · intro w7 hSw; (try dsimp only at hSw); go_simp; all_goals with_reducible rfl
              try simp only [Act.put, List.setIfInBounds_toArray, List.set_cons_zero, List.set_cons_succ]
              refine rg_take (i := 7) (some 40) (v := ?_) rfl rfl (by kernel_rfl) (by rfl) hQ7 hHeld ?_ ?_
              rotate_left
              · intro w7 hSw; (try dsimp only at hSw); go_simp; all_goals with_reducible rfl
              try simp only [Act.put, List.setIfInBounds_toArray, List.set_cons_zero, List.set_cons_succ]
              refine rg_take (i := 8) (some 41) (v := ?_) rfl rfl (by kernel_rfl) (by rfl) hQ7 hHeld ?_ ?_
              rotate_left
              · intro w7 hSw; (try dsimp only at hSw); go_simp; all_goals with_reducible rfl
              try simp only [Act.put, List.setIfInBounds_toArray, List.set_cons_zero, List.set_cons_succ]
              refine rg_take (i := 9) (some 42) (v := ?_) rfl rfl (by kernel_rfl) (by rfl) hQ7 hHeld ?_ ?_
              rotate_left
              · intro w7 hSw; (try dsimp only at hSw); go_simp; all_goals with_reducible rfl
              try simp only [Act.put, List.setIfInBounds_toArray, List.set_cons_zero, List.set_cons_succ]
              refine rg_take (i := 10) (some 43) (v := ?_) rfl rfl (by kernel_rfl) (by rfl) hQ7 hHeld ?_ ?_
              rotate_left
              · intro w7 hSw; (try dsimp only at hSw); go_simp; all_goals with_reducible rfl
              try simp only [Act.put, List.setIfInBounds_toArray, List.set_cons_zero, List.set_cons_succ]
              refine rg_take (i := 11) (some 44) (v := ?_) rfl rfl (by kernel_rfl) (by rfl) hQ7 hHeld ?_ ?_
              rotate_left
              · intro w7 hSw; (try dsimp only at hSw); go_simp; all_goals with_reducible rfl
              try simp only [Act.put, List.setIfInBounds_toArray, List.set_cons_zero, List.set_cons_succ]
              refine rg_take (i := 12) (some 45) (v := ?_) rfl rfl (by kernel_rfl) (by rfl) hQ7 hHeld ?_ ?_
              rotate_left
              · intro w7 hSw; (try dsimp only at hSw); go_simp; all_goals with_reducible rfl
              try simp only [Act.put, List.setIfInBounds_toArray, List.set_cons_zero, List.set_cons_succ]
              refine rg_take (i := 13) (some 46) (v := ?_) rfl rfl (by kernel_rfl) (by rfl) hQ7 hHeld ?_ ?_
              rotate_left
              · intro w7 hSw; (try dsimp only at hSw); go_simp; all_goals with_reducible rfl
              try simp only [Act.put, List.setIfInBounds_toArray, List.set_cons_zero, List.set_cons_succ]
              refine rg_take (i := 14) (some 47) (v := ?_) rfl rfl (by kernel_rfl) (by rfl) hQ7 hHeld ?_ ?_
              rotate_left
              · intro w7 hSw; (try dsimp only at hSw); go_simp; all_goals with_reducible rfl
              try simp only [Act.put, List.setIfInBounds_toArray, List.set_cons_zero, List.set_cons_succ]
              refine rg_skip (i := 15) (some 48) rfl rfl (by kernel_rfl) (by rfl) hQ7 hHeld ?_
              try simp only [Act.put, List.setIfInBounds_toArray, List.set_cons_zero, List.set_cons_succ]
              refine rg_skip (i := 16) (some 49) rfl rfl (by kernel_rfl) (by rfl) hQ7 hHeld ?_
              try simp only [Act.put, List.setIfInBounds_toArray, List.set_cons_zero, List.set_cons_succ]
              refine rg_skip (i := 17) (some 50) rfl rfl (by kernel_rfl) (by rfl) hQ7 hHeld ?_
              try simp only [Act.put, List.setIfInBounds_toArray, List.set_cons_zero, List.set_cons_succ]
              refine rg_skip (i := 18) (some 51) rfl rfl (by kernel_rfl) (by rfl) hQ7 hHeld ?_
              try simp only [Act.put, List.setIfInBounds_toArray, List.set_cons_zero, List.set_cons_succ]
              refine rg_skip (i := 19) (some 52) rfl rfl (by kernel_rfl) (by rfl) hQ7 hHeld ?_
              try simp only [Act.put, List.setIfInBounds_toArray, List.set_cons_zero, List.set_cons_succ]
              refine rg_skip (i := 20) (some 53) rfl rfl (by kernel_rfl) (by rfl) hQ7 hHeld ?_
              try simp only [Act.put, List.setIfInBounds_toArray, List.set_cons_zero, List.set_cons_succ]
              refine rg_skip (i := 21) (some 54) rfl rfl (by kernel_rfl) (by rfl) hQ7 hHeld ?_
              try simp only [Act.put, List.setIfInBounds_toArray, List.set_cons_zero, List.set_cons_succ]
              refine rg_skip (i := 22) (some 55) rfl rfl (by kernel_rfl) (by rfl) hQ7 hHeld ?_
              try simp only [Act.put, List.setIfInBounds_toArray, List.set_cons_zero, List.set_cons_succ]
              refine rg_skip (i := 23) (some 56) rfl rfl (by kernel_rfl) (by rfl) hQ7 hHeld ?_
              try simp only [Act.put, List.setIfInBounds_toArray, List.set_cons_zero, List.set_cons_succ]
              refine rg_skip (i := 24) (some 57) rfl rfl (by kernel_rfl) (by rfl) hQ7 hHeld ?_
              try simp only [Act.put, List.setIfInBounds_toArray, List.set_cons_zero, List.set_cons_succ]
              refine rg_skip (i := 25) (some 58) rfl rfl (by kernel_rfl) (by rfl) hQ7 hHeld ?_
              try simp only [Act.put, List.setIfInBounds_toArray, List.set_cons_zero, List.set_cons_succ]
              refine rg_take (i := 26) (some 59) (v := ?_) rfl rfl (by kernel_rfl) (by rfl) hQ7 hHeld ?_ ?_
              rotate_left
              · intro w7 hSw; (try dsimp only at hSw); go_simp; all_goals with_reducible rfl
              try simp only [Act.put, List.setIfInBounds_toArray, List.set_cons_zero, List.set_cons_succ]
              refine rg_take (i := 27) (some 60) (v := ?_) rfl rfl (by kernel_rfl) (by rfl) hQ7 hHeld ?_ ?_
              rotate_left
              · intro w7 hSw; (try dsimp only at hSw); go_simp; all_goals with_reducible rfl
              try simp only [Act.put, List.setIfInBounds_toArray, List.set_cons_zero, List.set_cons_succ]
              refine rg_skip (i := 28) (some 61) rfl rfl (by kernel_rfl) (by rfl) hQ7 hHeld ?_
              try simp only [Act.put, List.setIfInBounds_toArray, List.set_cons_zero, List.set_cons_succ]
              refine rg_skip (i := 29) (some 62) rfl rfl (by kernel_rfl) (by rfl) hQ7 hHeld ?_
              try simp only [Act.put, List.setIfInBounds_toArray, List.set_cons_zero, List.set_cons_succ]
              refine rg_skip (i := 30) (some 63) rfl rfl (by kernel_rfl) (by rfl) hQ7 hHeld ?_
              try simp only [Act.put, List.setIfInBounds_toArray, List.set_cons_zero, List.set_cons_succ]
              refine rg_skip (i := 31) (some 64) rfl rfl (by kernel_rfl) (by rfl) hQ7 hHeld ?_
              try simp only [Act.put, List.setIfInBounds_toArray, List.set_cons_zero, List.set_cons_succ]
              refine rg_skip (i := 32) (some 65) rfl rfl (by kernel_rfl) (by rfl) hQ7 hHeld ?_
              try simp only [Act.put, List.setIfInBounds_toArray, List.set_cons_zero, List.set_cons_succ]
              refine rg_skip (i := 33) (some 66) rfl rfl (by kernel_rfl) (by rfl) hQ7 hHeld ?_
              try simp only [Act.put, List.setIfInBounds_toArray, List.set_cons_zero, List.set_cons_succ]
              refine rg_skip (i := 34) (some 67) rfl rfl (by kernel_rfl) (by rfl) hQ7 hHeld ?_
              try simp only [Act.put, List.setIfInBounds_toArray, List.set_cons_zero, List.set_cons_succ]
              refine rg_skip (i := 35) (some 68) rfl rfl (by kernel_rfl) (by rfl) hQ7 hHeld ?_
              try simp only [Act.put, List.setIfInBounds_toArray, List.set_cons_zero, List.set_cons_succ]
              refine rg_skip (i := 36) (some 69) rfl rfl (by kernel_rfl) (by rfl) hQ7 hHeld ?_
              try simp only [Act.put, List.setIfInBounds_toArray, List.set_cons_zero, List.set_cons_succ]
              refine rg_skip (i := 37) (some 70) rfl rfl (by kernel_rfl) (by rfl) hQ7 hHeld ?_
              try simp only [Act.put, List.setIfInBounds_toArray, List.set_cons_zero, List.set_cons_succ]
              refine rg_skip (i := 38) (some 71) rfl rfl (by kernel_rfl) (by rfl) hQ7 hHeld ?_
              try simp only [Act.put, List.setIfInBounds_toArray, List.set_cons_zero, List.set_cons_succ]
              refine rg_take (i := 39) (some 72) (v := ?_) rfl rfl (by kernel_rfl) (by rfl) hQ7 hHeld ?_ ?_
              rotate_left
              · intro w7 hSw; (try dsimp only at hSw); go_simp; all_goals with_reducible rfl
              try simp only [Act.put, List.setIfInBounds_toArray, List.set_cons_zero, List.set_cons_succ]
              refine rg_end (by kernel_rfl) (hN7 _ _ ?_) _
              clear hQ7 hN7 Q7
              have BX := hHeld.1
              clear SS
              have HON := Lib.hid (show Own _ wo.heap.size 40 Sp.cells 2 (.slice A6 (dayOf (l.take m) x).length c6) (dayOf (l.take (m + 1)) x) from by rw [HSt2.out]; simpa using HOu1.out.ext BX)
              have FN := Lib.hid (ext_trans Fu1.out BX)
              clear BX
              go_wp2_with fail
              first
                | exact ⟨⟨m + 1, hmt, by go_num, HNQ.out, HON.out, FN.out⟩, by simp [intOf]; omega⟩
                | (go_roundw
                   case rel => exact ⟨m + 1, hmt, by go_num, HNQ.out, HON.out, FN.out⟩
                   case measure => simp [intOf]; omega)
            by_cases g2 : y.cl = x.cl
            rotate_left
            · have e0 : (x.k == 1) = true := by simp [g0]
              have e1 : (y.k == 1) = true := by simp [g1]
              have e2 : (y.cl == x.cl) = false := by simp [g2]
              have hsg : sameG x y = false := by
                rw [Bool.eq_false_iff]
                intro h
                simp only [sameG, Bool.and_eq_true, decide_eq_true_eq] at h
                exact g2 (by omega)
              have HSt2 := Lib.hid HSt.out
              rw [hsg] at HSt2
              clear HSt hsg g0 g1 g2
              have SS := Lib.hid (show ∀ w', Below u1.heap.size u1 w' → (fun w' => Below u1.heap.size u1 w' ∧ w'.cell? ⟨b1, o1 + k * 8, none⟩ = some (.int .i64 x.k) ∧ w'.cell? ⟨b1, o1 + k * 8 + 1, none⟩ = some (.string x.sc) ∧ w'.cell? ⟨b1, o1 + k * 8 + 2, none⟩ = some (.string x.sa) ∧ w'.cell? ⟨b1, o1 + k * 8 + 3, none⟩ = some (.int .i64 x.cl) ∧ w'.cell? ⟨b1, o1 + k * 8 + 4, none⟩ = some (.int .i64 x.ap) ∧ w'.cell? ⟨b1, o1 + k * 8 + 5, none⟩ = some (.int .i64 x.n) ∧ w'.cell? ⟨b1, o1 + k * 8 + 6, none⟩ = some (.int .i64 x.f) ∧ w'.cell? ⟨b1, o1 + k * 8 + 7, none⟩ = some (.int .i64 x.t) ∧ w'.cell? ⟨b1, o1 + m * 8, none⟩ = some (.int .i64 y.k) ∧ w'.cell? ⟨b1, o1 + m * 8 + 1, none⟩ = some (.string y.sc) ∧ w'.cell? ⟨b1, o1 + m * 8 + 2, none⟩ = some (.string y.sa) ∧ w'.cell? ⟨b1, o1 + m * 8 + 3, none⟩ = some (.int .i64 y.cl) ∧ w'.cell? ⟨b1, o1 + m * 8 + 4, none⟩ = some (.int .i64 y.ap) ∧ w'.cell? ⟨b1, o1 + m * 8 + 5, none⟩ = some (.int .i64 y.n) ∧ w'.cell? ⟨b1, o1 + m * 8 + 6, none⟩ = some (.int .i64 y.f) ∧ w'.cell? ⟨b1, o1 + m * 8 + 7, none⟩ = some (.int .i64 y.t)) w' from fun w' h => ⟨h, ((h : Below _ _ _).cell (p := ⟨b1, o1 + k * 8, none⟩) hxu1).trans (DXu1.out 0 _ rfl), ((h : Below _ _ _).cell (p := ⟨b1, o1 + k * 8 + 1, none⟩) hxu1).trans (DXu1.out 1 _ rfl), ((h : Below _ _ _).cell (p := ⟨b1, o1 + k * 8 + 2, none⟩) hxu1).trans (DXu1.out 2 _ rfl), ((h : Below _ _ _).cell (p := ⟨b1, o1 + k * 8 + 3, none⟩) hxu1).trans (DXu1.out 3 _ rfl), ((h : Below _ _ _).cell (p := ⟨b1, o1 + k * 8 + 4, none⟩) hxu1).trans (DXu1.out 4 _ rfl), ((h : Below _ _ _).cell (p := ⟨b1, o1 + k * 8 + 5, none⟩) hxu1).trans (DXu1.out 5 _ rfl), ((h : Below _ _ _).cell (p := ⟨b1, o1 + k * 8 + 6, none⟩) hxu1).trans (DXu1.out 6 _ rfl), ((h : Below _ _ _).cell (p := ⟨b1, o1 + k * 8 + 7, none⟩) hxu1).trans (DXu1.out 7 _ rfl), ((h : Below _ _ _).cell (p := ⟨b1, o1 + m * 8, none⟩) hxu1).trans (DYu1.out 0 _ rfl), ((h : Below _ _ _).cell (p := ⟨b1, o1 + m * 8 + 1, none⟩) hxu1).trans (DYu1.out 1 _ rfl), ((h : Below _ _ _).cell (p := ⟨b1, o1 + m * 8 + 2, none⟩) hxu1).trans (DYu1.out 2 _ rfl), ((h : Below _ _ _).cell (p := ⟨b1, o1 + m * 8 + 3, none⟩) hxu1).trans (DYu1.out 3 _ rfl), ((h : Below _ _ _).cell (p := ⟨b1, o1 + m * 8 + 4, none⟩) hxu1).trans (DYu1.out 4 _ rfl), ((h : Below _ _ _).cell (p := ⟨b1, o1 + m * 8 + 5, none⟩) hxu1).trans (DYu1.out 5 _ rfl), ((h : Below _ _ _).cell (p := ⟨b1, o1 + m * 8 + 6, none⟩) hxu1).trans (DYu1.out 6 _ rfl), ((h : Below _ _ _).cell (p := ⟨b1, o1 + m * 8 + 7, none⟩) hxu1).trans (DYu1.out 7 _ rfl)⟩)
              refine rg_begin (S := (fun w' => Below u1.heap.size u1 w' ∧ w'.cell? ⟨b1, o1 + k * 8, none⟩ = some (.int .i64 x.k) ∧ w'.cell? ⟨b1, o1 + k * 8 + 1, none⟩ = some (.string x.sc) ∧ w'.cell? ⟨b1, o1 + k * 8 + 2, none⟩ = some (.string x.sa) ∧ w'.cell? ⟨b1, o1 + k * 8 + 3, none⟩ = some (.int .i64 x.cl) ∧ w'.cell? ⟨b1, o1 + k * 8 + 4, none⟩ = some (.int .i64 x.ap) ∧ w'.cell? ⟨b1, o1 + k * 8 + 5, none⟩ = some (.int .i64 x.n) ∧ w'.cell? ⟨b1, o1 + k * 8 + 6, none⟩ = some (.int .i64 x.f) ∧ w'.cell? ⟨b1, o1 + k * 8 + 7, none⟩ = some (.int .i64 x.t) ∧ w'.cell? ⟨b1, o1 + m * 8, none⟩ = some (.int .i64 y.k) ∧ w'.cell? ⟨b1, o1 + m * 8 + 1, none⟩ = some (.string y.sc) ∧ w'.cell? ⟨b1, o1 + m * 8 + 2, none⟩ = some (.string y.sa) ∧ w'.cell? ⟨b1, o1 + m * 8 + 3, none⟩ = some (.int .i64 y.cl) ∧ w'.cell? ⟨b1, o1 + m * 8 + 4, none⟩ = some (.int .i64 y.ap) ∧ w'.cell? ⟨b1, o1 + m * 8 + 5, none⟩ = some (.int .i64 y.n) ∧ w'.cell? ⟨b1, o1 + m * 8 + 6, none⟩ = some (.int .i64 y.f) ∧ w'.cell? ⟨b1, o1 + m * 8 + 7, none⟩ = some (.int .i64 y.t))) 40 (by kernel_rfl) (by intro d; cases d <;> intro _ _ _ _ h <;> exact h) ?_ (fun Q7 hQ7 hN7 hHeld => ?_)
              · exact SS.out _ (ext_drew (ext_refl _))
              refine rg_take (i := 0) (some 33) (v := ?_) rfl rfl (by kernel_rfl) (by rfl) hQ7 hHeld ?_ ?_
              rotate_left
              · intro w7 hSw; (try dsimp only at hSw); go_simp; all_goals with_reducible rfl
              try simp only [Act.put, List.setIfInBounds_toArray, List.set_cons_zero, List.set_cons_succ]
              refine rg_take (i := 1) (some 34) (v := ?_) rfl rfl (by kernel_rfl) (by rfl) hQ7 hHeld ?_ ?_
              rotate_left
              · intro w7 hSw; (try dsimp only at hSw); go_simp; all_goals with_reducible rfl
              try simp only [Act.put, List.setIfInBounds_toArray, List.set_cons_zero, List.set_cons_succ]
              refine rg_take (i := 2) (some 35) (v := ?_) rfl rfl (by kernel_rfl) (by rfl) hQ7 hHeld ?_ ?_
              rotate_left
              · intro w7 hSw; (try dsimp only at hSw); go_simp; all_goals with_reducible rfl
              try simp only [Act.put, List.setIfInBounds_toArray, List.set_cons_zero, List.set_cons_succ]
              refine rg_take (i := 3) (some 36) (v := ?_) rfl rfl (by kernel_rfl) (by rfl) hQ7 hHeld ?_ ?_
              rotate_left
              · intro w7 hSw; (try dsimp only at hSw); go_simp; all_goals with_reducible rfl
              try simp only [Act.put, List.setIfInBounds_toArray, List.set_cons_zero, List.set_cons_succ]
              refine rg_take (i := 4) (some 37) (v := ?_) rfl rfl (by kernel_rfl) (by rfl) hQ7 hHeld ?_ ?_
              rotate_left
              · intro w7 hSw; (try dsimp only at hSw); go_simp; all_goals with_reducible rfl
              try simp only [Act.put, List.setIfInBounds_toArray, List.set_cons_zero, List.set_cons_succ]
              refine rg_take (i := 5) (some 38) (v := ?_) rfl rfl (by kernel_rfl) (by rfl) hQ7 hHeld ?_ ?_
              rotate_left
              · intro w7 hSw; (try dsimp only at hSw); go_simp; all_goals with_reducible rfl
              try simp only [Act.put, List.setIfInBounds_toArray, List.set_cons_zero, List.set_cons_succ]
              refine rg_take (i := 6) (some 39) (v := ?_) rfl rfl (by kernel_rfl) (by rfl) hQ7 hHeld ?_ ?_
              rotate_left
              · intro w7 hSw; (try dsimp only at hSw); go_simp; all_goals with_reducible rfl
              try simp only [Act.put, List.setIfInBounds_toArray, List.set_cons_zero, List.set_cons_succ]
              refine rg_take (i := 7) (some 40) (v := ?_) rfl rfl (by kernel_rfl) (by rfl) hQ7 hHeld ?_ ?_
              rotate_left
              · intro w7 hSw; (try dsimp only at hSw); go_simp; all_goals with_reducible rfl
              try simp only [Act.put, List.setIfInBounds_toArray, List.set_cons_zero, List.set_cons_succ]
              refine rg_take (i := 8) (some 41) (v := ?_) rfl rfl (by kernel_rfl) (by rfl) hQ7 hHeld ?_ ?_
              rotate_left
              · intro w7 hSw; (try dsimp only at hSw); go_simp; all_goals with_reducible rfl
              try simp only [Act.put, List.setIfInBounds_toArray, List.set_cons_zero, List.set_cons_succ]
              refine rg_take (i := 9) (some 42) (v := ?_) rfl rfl (by kernel_rfl) (by rfl) hQ7 hHeld ?_ ?_
              rotate_left
              · intro w7 hSw; (try dsimp only at hSw); go_simp; all_goals with_reducible rfl
              try simp only [Act.put, List.setIfInBounds_toArray, List.set_cons_zero, List.set_cons_succ]
              refine rg_take (i := 10) (some 43) (v := ?_) rfl rfl (by kernel_rfl) (by rfl) hQ7 hHeld ?_ ?_
              rotate_left
              · intro w7 hSw; (try dsimp only at hSw); go_simp; all_goals with_reducible rfl
              try simp only [Act.put, List.setIfInBounds_toArray, List.set_cons_zero, List.set_cons_succ]
              refine rg_take (i := 11) (some 44) (v := ?_) rfl rfl (by kernel_rfl) (by rfl) hQ7 hHeld ?_ ?_
              rotate_left
              · intro w7 hSw; (try dsimp only at hSw); go_simp; all_goals with_reducible rfl
              try simp only [Act.put, List.setIfInBounds_toArray, List.set_cons_zero, List.set_cons_succ]
              refine rg_take (i := 12) (some 45) (v := ?_) rfl rfl (by kernel_rfl) (by rfl) hQ7 hHeld ?_ ?_
              rotate_left
              · intro w7 hSw; (try dsimp only at hSw); go_simp; all_goals with_reducible rfl
              try simp only [Act.put, List.setIfInBounds_toArray, List.set_cons_zero, List.set_cons_succ]
              refine rg_take (i := 13) (some 46) (v := ?_) rfl rfl (by kernel_rfl) (by rfl) hQ7 hHeld ?_ ?_
              rotate_left
              · intro w7 hSw; (try dsimp only at hSw); go_simp; all_goals with_reducible rfl
              try simp only [Act.put, List.setIfInBounds_toArray, List.set_cons_zero, List.set_cons_succ]
              refine rg_take (i := 14) (some 47) (v := ?_) rfl rfl (by kernel_rfl) (by rfl) hQ7 hHeld ?_ ?_
              rotate_left
              · intro w7 hSw; (try dsimp only at hSw); go_simp; all_goals with_reducible rfl
              try simp only [Act.put, List.setIfInBounds_toArray, List.set_cons_zero, List.set_cons_succ]
              refine rg_take (i := 15) (some 48) (v := ?_) rfl rfl (by kernel_rfl) (by rfl) hQ7 hHeld ?_ ?_
              rotate_left
              · intro w7 hSw; (try dsimp only at hSw); go_simp; all_goals with_reducible rfl
              try simp only [Act.put, List.setIfInBounds_toArray, List.set_cons_zero, List.set_cons_succ]
              refine rg_take (i := 16) (some 49) (v := ?_) rfl rfl (by kernel_rfl) (by rfl) hQ7 hHeld ?_ ?_
              rotate_left
              · intro w7 hSw; (try dsimp only at hSw); go_simp; all_goals with_reducible rfl
              try simp only [Act.put, List.setIfInBounds_toArray, List.set_cons_zero, List.set_cons_succ]
              refine rg_take (i := 17) (some 50) (v := ?_) rfl rfl (by kernel_rfl) (by rfl) hQ7 hHeld ?_ ?_
              rotate_left
              · intro w7 hSw; (try dsimp only at hSw); go_simp; all_goals with_reducible rfl
              try simp only [Act.put, List.setIfInBounds_toArray, List.set_cons_zero, List.set_cons_succ]
              refine rg_take (i := 18) (some 51) (v := ?_) rfl rfl (by kernel_rfl) (by rfl) hQ7 hHeld ?_ ?_
              rotate_left
              · intro w7 hSw; (try dsimp only at hSw); go_simp; all_goals with_reducible rfl
              try simp only [Act.put, List.setIfInBounds_toArray, List.set_cons_zero, List.set_cons_succ]
              refine rg_take (i := 19) (some 52) (v := ?_) rfl rfl (by kernel_rfl) (by rfl) hQ7 hHeld ?_ ?_
              rotate_left
              · intro w7 hSw; (try dsimp only at hSw); go_simp; all_goals with_reducible rfl
              try simp only [Act.put, List.setIfInBounds_toArray, List.set_cons_zero, List.set_cons_succ]
              refine rg_take (i := 20) (some 53) (v := ?_) rfl rfl (by kernel_rfl) (by rfl) hQ7 hHeld ?_ ?_
              rotate_left
              · intro w7 hSw; (try dsimp only at hSw); go_simp; all_goals with_reducible rfl
              try simp only [Act.put, List.setIfInBounds_toArray, List.set_cons_zero, List.set_cons_succ]
              refine rg_take (i := 21) (some 54) (v := ?_) rfl rfl (by kernel_rfl) (by rfl) hQ7 hHeld ?_ ?_
              rotate_left
              · intro w7 hSw; (try dsimp only at hSw); go_simp; all_goals with_reducible rfl
              try simp only [Act.put, List.setIfInBounds_toArray, List.set_cons_zero, List.set_cons_succ]
              refine rg_take (i := 22) (some 55) (v := ?_) rfl rfl (by kernel_rfl) (by rfl) hQ7 hHeld ?_ ?_
              rotate_left
              · intro w7 hSw; (try dsimp only at hSw); go_simp; all_goals with_reducible rfl
              try simp only [Act.put, List.setIfInBounds_toArray, List.set_cons_zero, List.set_cons_succ]
              refine rg_take (i := 23) (some 56) (v := ?_) rfl rfl (by kernel_rfl) (by rfl) hQ7 hHeld ?_ ?_
              rotate_left
              · intro w7 hSw; (try dsimp only at hSw); go_simp; all_goals with_reducible rfl
              try simp only [Act.put, List.setIfInBounds_toArray, List.set_cons_zero, List.set_cons_succ]
              refine rg_take (i := 24) (some 57) (v := ?_) rfl rfl (by kernel_rfl) (by rfl) hQ7 hHeld ?_ ?_
              rotate_left
              · intro w7 hSw; (try dsimp only at hSw); go_simp; all_goals with_reducible rfl
              try simp only [Act.put, List.setIfInBounds_toArray, List.set_cons_zero, List.set_cons_succ]
              refine rg_take (i := 25) (some 58) (v := ?_) rfl rfl (by kernel_rfl) (by rfl) hQ7 hHeld ?_ ?_
              rotate_left
              · intro w7 hSw; (try dsimp only at hSw); go_simp; all_goals with_reducible rfl
              try simp only [Act.put, List.setIfInBounds_toArray, List.set_cons_zero, List.set_cons_succ]
              refine rg_take (i := 26) (some 59) (v := ?_) rfl rfl (by kernel_rfl) (by rfl) hQ7 hHeld ?_ ?_
              rotate_left
              · intro w7 hSw; (try dsimp only at hSw); go_simp; all_goals with_reducible rfl
              try simp only [Act.put, List.setIfInBounds_toArray, List.set_cons_zero, List.set_cons_succ]
              refine rg_take (i := 27) (some 60) (v := ?_) rfl rfl (by kernel_rfl) (by rfl) hQ7 hHeld ?_ ?_
              rotate_left
              · intro w7 hSw; (try dsimp only at hSw); go_simp; all_goals with_reducible rfl
              try simp only [Act.put, List.setIfInBounds_toArray, List.set_cons_zero, List.set_cons_succ]
              refine rg_skip (i := 28) (some 61) rfl rfl (by kernel_rfl) (by rfl) hQ7 hHeld ?_
              try simp only [Act.put, List.setIfInBounds_toArray, List.set_cons_zero, List.set_cons_succ]
              refine rg_skip (i := 29) (some 62) rfl rfl (by kernel_rfl) (by rfl) hQ7 hHeld ?_
              try simp only [Act.put, List.setIfInBounds_toArray, List.set_cons_zero, List.set_cons_succ]
              refine rg_skip (i := 30) (some 63) rfl rfl (by kernel_rfl) (by rfl) hQ7 hHeld ?_
              try simp only [Act.put, List.setIfInBounds_toArray, List.set_cons_zero, List.set_cons_succ]
              refine rg_skip (i := 31) (some 64) rfl rfl (by kernel_rfl) (by rfl) hQ7 hHeld ?_
              try simp only [Act.put, List.setIfInBounds_toArray, List.set_cons_zero, List.set_cons_succ]
              refine rg_skip (i := 32) (some 65) rfl rfl (by kernel_rfl) (by rfl) hQ7 hHeld ?_
              try simp only [Act.put, List.setIfInBounds_toArray, List.set_cons_zero, List.set_cons_succ]
              refine rg_skip (i := 33) (some 66) rfl rfl (by kernel_rfl) (by rfl) hQ7 hHeld ?_
              try simp only [Act.put, List.setIfInBounds_toArray, List.set_cons_zero, List.set_cons_succ]
              refine rg_skip (i := 34) (some 67) rfl rfl (by kernel_rfl) (by rfl) hQ7 hHeld ?_
              try simp only [Act.put, List.setIfInBounds_toArray, List.set_cons_zero, List.set_cons_succ]
              refine rg_skip (i := 35) (some 68) rfl rfl (by kernel_rfl) (by rfl) hQ7 hHeld ?_
              try simp only [Act.put, List.setIfInBounds_toArray, List.set_cons_zero, List.set_cons_succ]
              refine rg_skip (i := 36) (some 69) rfl rfl (by kernel_rfl) (by rfl) hQ7 hHeld ?_
              try simp only [Act.put, List.setIfInBounds_toArray, List.set_cons_zero, List.set_cons_succ]
              refine rg_skip (i := 37) (some 70) rfl rfl (by kernel_rfl) (by rfl) hQ7 hHeld ?_
              try simp only [Act.put, List.setIfInBounds_toArray, List.set_cons_zero, List.set_cons_succ]
              refine rg_skip (i := 38) (some 71) rfl rfl (by kernel_rfl) (by rfl) hQ7 hHeld ?_
              try simp only [Act.put, List.setIfInBounds_toArray, List.set_cons_zero, List.set_cons_succ]
              refine rg_take (i := 39) (some 72) (v := ?_) rfl rfl (by kernel_rfl) (by rfl) hQ7 hHeld ?_ ?_
              rotate_left
              · intro w7 hSw; (try dsimp only at hSw); go_simp; all_goals with_reducible rfl
              try simp only [Act.put, List.setIfInBounds_toArray, List.set_cons_zero, List.set_cons_succ]
              refine rg_end (by kernel_rfl) (hN7 _ _ ?_) _
              clear hQ7 hN7 Q7
              have BX := hHeld.1
              clear SS
              have HON := Lib.hid (show Own _ wo.heap.size 40 Sp.cells 2 (.slice A6 (dayOf (l.take m) x).length c6) (dayOf (l.take (m + 1)) x) from by rw [HSt2.out]; simpa using HOu1.out.ext BX)
              have FN := Lib.hid (ext_trans Fu1.out BX)
              clear BX
              go_wp2_with fail
              first
                | exact ⟨⟨m + 1, hmt, by go_num, HNQ.out, HON.out, FN.out⟩, by simp [intOf]; omega⟩
                | (go_roundw
                   case rel => exact ⟨m + 1, hmt, by go_num, HNQ.out, HON.out, FN.out⟩
                   case measure => simp [intOf]; omega)
            by_cases g3 : y.ap = x.ap
            rotate_left
            · have e0 : (x.k == 1) = true := by simp [g0]
              have e1 : (y.k == 1) = true := by simp [g1]
              have e2 : (y.cl == x.cl) = true := by simp [g2]
              have e3 : (y.ap == x.ap) = false := by simp [g3]
              have hsg : sameG x y = false := by
                rw [Bool.eq_false_iff]
                intro h
                simp only [sameG, Bool.and_eq_true, decide_eq_true_eq] at h
                exact g3 (by omega)
              have HSt2 := Lib.hid HSt.out
              rw [hsg] at HSt2
              clear HSt hsg g0 g1 g2 g3
              have SS := Lib.hid (show ∀ w', Below u1.heap.size u1 w' → (fun w' => Below u1.heap.size u1 w' ∧ w'.cell? ⟨b1, o1 + k * 8, none⟩ = some (.int .i64 x.k) ∧ w'.cell? ⟨b1, o1 + k * 8 + 1, none⟩ = some (.string x.sc) ∧ w'.cell? ⟨b1, o1 + k * 8 + 2, none⟩ = some (.string x.sa) ∧ w'.cell? ⟨b1, o1 + k * 8 + 3, none⟩ = some (.int .i64 x.cl) ∧ w'.cell? ⟨b1, o1 + k * 8 + 4, none⟩ = some (.int .i64 x.ap) ∧ w'.cell? ⟨b1, o1 + k * 8 + 5, none⟩ = some (.int .i64 x.n) ∧ w'.cell? ⟨b1, o1 + k * 8 + 6, none⟩ = some (.int .i64 x.f) ∧ w'.cell? ⟨b1, o1 + k * 8 + 7, none⟩ = some (.int .i64 x.t) ∧ w'.cell? ⟨b1, o1 + m * 8, none⟩ = some (.int .i64 y.k) ∧ w'.cell? ⟨b1, o1 + m * 8 + 1, none⟩ = some (.string y.sc) ∧ w'.cell? ⟨b1, o1 + m * 8 + 2, none⟩ = some (.string y.sa) ∧ w'.cell? ⟨b1, o1 + m * 8 + 3, none⟩ = some (.int .i64 y.cl) ∧ w'.cell? ⟨b1, o1 + m * 8 + 4, none⟩ = some (.int .i64 y.ap) ∧ w'.cell? ⟨b1, o1 + m * 8 + 5, none⟩ = some (.int .i64 y.n) ∧ w'.cell? ⟨b1, o1 + m * 8 + 6, none⟩ = some (.int .i64 y.f) ∧ w'.cell? ⟨b1, o1 + m * 8 + 7, none⟩ = some (.int .i64 y.t)) w' from fun w' h => ⟨h, ((h : Below _ _ _).cell (p := ⟨b1, o1 + k * 8, none⟩) hxu1).trans (DXu1.out 0 _ rfl), ((h : Below _ _ _).cell (p := ⟨b1, o1 + k * 8 + 1, none⟩) hxu1).trans (DXu1.out 1 _ rfl), ((h : Below _ _ _).cell (p := ⟨b1, o1 + k * 8 + 2, none⟩) hxu1).trans (DXu1.out 2 _ rfl), ((h : Below _ _ _).cell (p := ⟨b1, o1 + k * 8 + 3, none⟩) hxu1).trans (DXu1.out 3 _ rfl), ((h : Below _ _ _).cell (p := ⟨b1, o1 + k * 8 + 4, none⟩) hxu1).trans (DXu1.out 4 _ rfl), ((h : Below _ _ _).cell (p := ⟨b1, o1 + k * 8 + 5, none⟩) hxu1).trans (DXu1.out 5 _ rfl), ((h : Below _ _ _).cell (p := ⟨b1, o1 + k * 8 + 6, none⟩) hxu1).trans (DXu1.out 6 _ rfl), ((h : Below _ _ _).cell (p := ⟨b1, o1 + k * 8 + 7, none⟩) hxu1).trans (DXu1.out 7 _ rfl), ((h : Below _ _ _).cell (p := ⟨b1, o1 + m * 8, none⟩) hxu1).trans (DYu1.out 0 _ rfl), ((h : Below _ _ _).cell (p := ⟨b1, o1 + m * 8 + 1, none⟩) hxu1).trans (DYu1.out 1 _ rfl), ((h : Below _ _ _).cell (p := ⟨b1, o1 + m * 8 + 2, none⟩) hxu1).trans (DYu1.out 2 _ rfl), ((h : Below _ _ _).cell (p := ⟨b1, o1 + m * 8 + 3, none⟩) hxu1).trans (DYu1.out 3 _ rfl), ((h : Below _ _ _).cell (p := ⟨b1, o1 + m * 8 + 4, none⟩) hxu1).trans (DYu1.out 4 _ rfl), ((h : Below _ _ _).cell (p := ⟨b1, o1 + m * 8 + 5, none⟩) hxu1).trans (DYu1.out 5 _ rfl), ((h : Below _ _ _).cell (p := ⟨b1, o1 + m * 8 + 6, none⟩) hxu1).trans (DYu1.out 6 _ rfl), ((h : Below _ _ _).cell (p := ⟨b1, o1 + m * 8 + 7, none⟩) hxu1).trans (DYu1.out 7 _ rfl)⟩)
              refine rg_begin (S := (fun w' => Below u1.heap.size u1 w' ∧ w'.cell? ⟨b1, o1 + k * 8, none⟩ = some (.int .i64 x.k) ∧ w'.cell? ⟨b1, o1 + k * 8 + 1, none⟩ = some (.string x.sc) ∧ w'.cell? ⟨b1, o1 + k * 8 + 2, none⟩ = some (.string x.sa) ∧ w'.cell? ⟨b1, o1 + k * 8 + 3, none⟩ = some (.int .i64 x.cl) ∧ w'.cell? ⟨b1, o1 + k * 8 + 4, none⟩ = some (.int .i64 x.ap) ∧ w'.cell? ⟨b1, o1 + k * 8 + 5, none⟩ = some (.int .i64 x.n) ∧ w'.cell? ⟨b1, o1 + k * 8 + 6, none⟩ = some (.int .i64 x.f) ∧ w'.cell? ⟨b1, o1 + k * 8 + 7, none⟩ = some (.int .i64 x.t) ∧ w'.cell? ⟨b1, o1 + m * 8, none⟩ = some (.int .i64 y.k) ∧ w'.cell? ⟨b1, o1 + m * 8 + 1, none⟩ = some (.string y.sc) ∧ w'.cell? ⟨b1, o1 + m * 8 + 2, none⟩ = some (.string y.sa) ∧ w'.cell? ⟨b1, o1 + m * 8 + 3, none⟩ = some (.int .i64 y.cl) ∧ w'.cell? ⟨b1, o1 + m * 8 + 4, none⟩ = some (.int .i64 y.ap) ∧ w'.cell? ⟨b1, o1 + m * 8 + 5, none⟩ = some (.int .i64 y.n) ∧ w'.cell? ⟨b1, o1 + m * 8 + 6, none⟩ = some (.int .i64 y.f) ∧ w'.cell? ⟨b1, o1 + m * 8 + 7, none⟩ = some (.int .i64 y.t))) 40 (by kernel_rfl) (by intro d; cases d <;> intro _ _ _ _ h <;> exact h) ?_ (fun Q7 hQ7 hN7 hHeld => ?_)
              · exact SS.out _ (ext_drew (ext_refl _))
              refine rg_take (i := 0) (some 33) (v := ?_) rfl rfl (by kernel_rfl) (by rfl) hQ7 hHeld ?_ ?_
              rotate_left
              · intro w7 hSw; (try dsimp only at hSw); go_simp; all_goals with_reducible rfl
              try simp only [Act.put, List.setIfInBounds_toArray, List.set_cons_zero, List.set_cons_succ]
              refine rg_take (i := 1) (some 34) (v := ?_) rfl rfl (by kernel_rfl) (by rfl) hQ7 hHeld ?_ ?_
              rotate_left
              · intro w7 hSw; (try dsimp only at hSw); go_simp; all_goals with_reducible rfl
              try simp only [Act.put, List.setIfInBounds_toArray, List.set_cons_zero, List.set_cons_succ]
              refine rg_take (i := 2) (some 35) (v := ?_) rfl rfl (by kernel_rfl) (by rfl) hQ7 hHeld ?_ ?_
              rotate_left
              · intro w7 hSw; (try dsimp only at hSw); go_simp; all_goals with_reducible rfl
              try simp only [Act.put, List.setIfInBounds_toArray, List.set_cons_zero, List.set_cons_succ]
              refine rg_take (i := 3) (some 36) (v := ?_) rfl rfl (by kernel_rfl) (by rfl) hQ7 hHeld ?_ ?_
              rotate_left
              · intro w7 hSw; (try dsimp only at hSw); go_simp; all_goals with_reducible rfl
              try simp only [Act.put, List.setIfInBounds_toArray, List.set_cons_zero, List.set_cons_succ]
              refine rg_take (i := 4) (some 37) (v := ?_) rfl rfl (by kernel_rfl) (by rfl) hQ7 hHeld ?_ ?_
              rotate_left
              · intro w7 hSw; (try dsimp only at hSw); go_simp; all_goals with_reducible rfl
              try simp only [Act.put, List.setIfInBounds_toArray, List.set_cons_zero, List.set_cons_succ]
              refine rg_take (i := 5) (some 38) (v := ?_) rfl rfl (by kernel_rfl) (by rfl) hQ7 hHeld ?_ ?_
              rotate_left
              · intro w7 hSw; (try dsimp only at hSw); go_simp; all_goals with_reducible rfl
              try simp only [Act.put, List.setIfInBounds_toArray, List.set_cons_zero, List.set_cons_succ]
              refine rg_take (i := 6) (some 39) (v := ?_) rfl rfl (by kernel_rfl) (by rfl) hQ7 hHeld ?_ ?_
              rotate_left
              · intro w7 hSw; (try dsimp only at hSw); go_simp; all_goals with_reducible rfl
              try simp only [Act.put, List.setIfInBounds_toArray, List.set_cons_zero, List.set_cons_succ]
              refine rg_take (i := 7) (some 40) (v := ?_) rfl rfl (by kernel_rfl) (by rfl) hQ7 hHeld ?_ ?_
              rotate_left
              · intro w7 hSw; (try dsimp only at hSw); go_simp; all_goals with_reducible rfl
              try simp only [Act.put, List.setIfInBounds_toArray, List.set_cons_zero, List.set_cons_succ]
              refine rg_take (i := 8) (some 41) (v := ?_) rfl rfl (by kernel_rfl) (by rfl) hQ7 hHeld ?_ ?_
              rotate_left
              · intro w7 hSw; (try dsimp only at hSw); go_simp; all_goals with_reducible rfl
              try simp only [Act.put, List.setIfInBounds_toArray, List.set_cons_zero, List.set_cons_succ]
              refine rg_take (i := 9) (some 42) (v := ?_) rfl rfl (by kernel_rfl) (by rfl) hQ7 hHeld ?_ ?_
              rotate_left
              · intro w7 hSw; (try dsimp only at hSw); go_simp; all_goals with_reducible rfl
              try simp only [Act.put, List.setIfInBounds_toArray, List.set_cons_zero, List.set_cons_succ]
              refine rg_take (i := 10) (some 43) (v := ?_) rfl rfl (by kernel_rfl) (by rfl) hQ7 hHeld ?_ ?_
              rotate_left
              · intro w7 hSw; (try dsimp only at hSw); go_simp; all_goals with_reducible rfl
              try simp only [Act.put, List.setIfInBounds_toArray, List.set_cons_zero, List.set_cons_succ]
              refine rg_take (i := 11) (some 44) (v := ?_) rfl rfl (by kernel_rfl) (by rfl) hQ7 hHeld ?_ ?_
              rotate_left
              · intro w7 hSw; (try dsimp only at hSw); go_simp; all_goals with_reducible rfl
              try simp only [Act.put, List.setIfInBounds_toArray, List.set_cons_zero, List.set_cons_succ]
              refine rg_take (i := 12) (some 45) (v := ?_) rfl rfl (by kernel_rfl) (by rfl) hQ7 hHeld ?_ ?_
              rotate_left
              · intro w7 hSw; (try dsimp only at hSw); go_simp; all_goals with_reducible rfl
              try simp only [Act.put, List.setIfInBounds_toArray, List.set_cons_zero, List.set_cons_succ]
              refine rg_take (i := 13) (some 46) (v := ?_) rfl rfl (by kernel_rfl) (by rfl) hQ7 hHeld ?_ ?_
              rotate_left
              · intro w7 hSw; (try dsimp only at hSw); go_simp; all_goals with_reducible rfl
              try simp only [Act.put, List.setIfInBounds_toArray, List.set_cons_zero, List.set_cons_succ]
              refine rg_take (i := 14) (some 47) (v := ?_) rfl rfl (by kernel_rfl) (by rfl) hQ7 hHeld ?_ ?_
              rotate_left
              · intro w7 hSw; (try dsimp only at hSw); go_simp; all_goals with_reducible rfl
              try simp only [Act.put, List.setIfInBounds_toArray, List.set_cons_zero, List.set_cons_succ]
              refine rg_take (i := 15) (some 48) (v := ?_) rfl rfl (by kernel_rfl) (by rfl) hQ7 hHeld ?_ ?_
              rotate_left
              · intro w7 hSw; (try dsimp only at hSw); go_simp; all_goals with_reducible rfl
              try simp only [Act.put, List.setIfInBounds_toArray, List.set_cons_zero, List.set_cons_succ]
              refine rg_take (i := 16) (some 49) (v := ?_) rfl rfl (by kernel_rfl) (by rfl) hQ7 hHeld ?_ ?_
              rotate_left
              · intro w7 hSw; (try dsimp only at hSw); go_simp; all_goals with_reducible rfl
              try simp only [Act.put, List.setIfInBounds_toArray, List.set_cons_zero, List.set_cons_succ]
              refine rg_take (i := 17) (some 50) (v := ?_) rfl rfl (by kernel_rfl) (by rfl) hQ7 hHeld ?_ ?_
              rotate_left
              · intro w7 hSw; (try dsimp only at hSw); go_simp; all_goals with_reducible rfl
              try simp only [Act.put, List.setIfInBounds_toArray, List.set_cons_zero, List.set_cons_succ]
              refine rg_take (i := 18) (some 51) (v := ?_) rfl rfl (by kernel_rfl) (by rfl) hQ7 hHeld ?_ ?_
              rotate_left
              · intro w7 hSw; (try dsimp only at hSw); go_simp; all_goals with_reducible rfl
              try simp only [Act.put, List.setIfInBounds_toArray, List.set_cons_zero, List.set_cons_succ]
              refine rg_take (i := 19) (some 52) (v := ?_) rfl rfl (by kernel_rfl) (by rfl) hQ7 hHeld ?_ ?_
              rotate_left
              · intro w7 hSw; (try dsimp only at hSw); go_simp; all_goals with_reducible rfl
              try simp only [Act.put, List.setIfInBounds_toArray, List.set_cons_zero, List.set_cons_succ]
              refine rg_take (i := 20) (some 53) (v := ?_) rfl rfl (by kernel_rfl) (by rfl) hQ7 hHeld ?_ ?_
              rotate_left
              · intro w7 hSw; (try dsimp only at hSw); go_simp; all_goals with_reducible rfl
              try simp only [Act.put, List.setIfInBounds_toArray, List.set_cons_zero, List.set_cons_succ]
              refine rg_take (i := 21) (some 54) (v := ?_) rfl rfl (by kernel_rfl) (by rfl) hQ7 hHeld ?_ ?_
              rotate_left
              · intro w7 hSw; (try dsimp only at hSw); go_simp; all_goals with_reducible rfl
              try simp only [Act.put, List.setIfInBounds_toArray, List.set_cons_zero, List.set_cons_succ]
              refine rg_take (i := 22) (some 55) (v := ?_) rfl rfl (by kernel_rfl) (by rfl) hQ7 hHeld ?_ ?_
              rotate_left
              · intro w7 hSw; (try dsimp only at hSw); go_simp; all_goals with_reducible rfl
              try simp only [Act.put, List.setIfInBounds_toArray, List.set_cons_zero, List.set_cons_succ]
              refine rg_take (i := 23) (some 56) (v := ?_) rfl rfl (by kernel_rfl) (by rfl) hQ7 hHeld ?_ ?_
              rotate_left
              · intro w7 hSw; (try dsimp only at hSw); go_simp; all_goals with_reducible rfl
              try simp only [Act.put, List.setIfInBounds_toArray, List.set_cons_zero, List.set_cons_succ]
              refine rg_take (i := 24) (some 57) (v := ?_) rfl rfl (by kernel_rfl) (by rfl) hQ7 hHeld ?_ ?_
              rotate_left
              · intro w7 hSw; (try dsimp only at hSw); go_simp; all_goals with_reducible rfl
              try simp only [Act.put, List.setIfInBounds_toArray, List.set_cons_zero, List.set_cons_succ]
              refine rg_take (i := 25) (some 58) (v := ?_) rfl rfl (by kernel_rfl) (by rfl) hQ7 hHeld ?_ ?_
              rotate_left
              · intro w7 hSw; (try dsimp only at hSw); go_simp; all_goals with_reducible rfl
              try simp only [Act.put, List.setIfInBounds_toArray, List.set_cons_zero, List.set_cons_succ]
              refine rg_take (i := 26) (some 59) (v := ?_) rfl rfl (by kernel_rfl) (by rfl) hQ7 hHeld ?_ ?_
              rotate_left
              · intro w7 hSw; (try dsimp only at hSw); go_simp; all_goals with_reducible rfl
              try simp only [Act.put, List.setIfInBounds_toArray, List.set_cons_zero, List.set_cons_succ]
              refine rg_take (i := 27) (some 60) (v := ?_) rfl rfl (by kernel_rfl) (by rfl) hQ7 hHeld ?_ ?_
              rotate_left
              · intro w7 hSw; (try dsimp only at hSw); go_simp; all_goals with_reducible rfl
              try simp only [Act.put, List.setIfInBounds_toArray, List.set_cons_zero, List.set_cons_succ]
              refine rg_take (i := 28) (some 61) (v := ?_) rfl rfl (by kernel_rfl) (by rfl) hQ7 hHeld ?_ ?_
              rotate_left
              · intro w7 hSw; (try dsimp only at hSw); go_simp; all_goals with_reducible rfl
              try simp only [Act.put, List.setIfInBounds_toArray, List.set_cons_zero, List.set_cons_succ]
              refine rg_take (i := 29) (some 62) (v := ?_) rfl rfl (by kernel_rfl) (by rfl) hQ7 hHeld ?_ ?_
              rotate_left
              · intro w7 hSw; (try dsimp only at hSw); go_simp; all_goals with_reducible rfl
              try simp only [Act.put, List.setIfInBounds_toArray, List.set_cons_zero, List.set_cons_succ]
              refine rg_take (i := 30) (some 63) (v := ?_) rfl rfl (by kernel_rfl) (by rfl) hQ7 hHeld ?_ ?_
              rotate_left
              · intro w7 hSw; (try dsimp only at hSw); go_simp; all_goals with_reducible rfl
              try simp only [Act.put, List.setIfInBounds_toArray, List.set_cons_zero, List.set_cons_succ]
              refine rg_take (i := 31) (some 64) (v := ?_) rfl rfl (by kernel_rfl) (by rfl) hQ7 hHeld ?_ ?_
              rotate_left
              · intro w7 hSw; (try dsimp only at hSw); go_simp; all_goals with_reducible rfl
              try simp only [Act.put, List.setIfInBounds_toArray, List.set_cons_zero, List.set_cons_succ]
              refine rg_take (i := 32) (some 65) (v := ?_) rfl rfl (by kernel_rfl) (by rfl) hQ7 hHeld ?_ ?_
              rotate_left
              · intro w7 hSw; (try dsimp only at hSw); go_simp; all_goals with_reducible rfl
              try simp only [Act.put, List.setIfInBounds_toArray, List.set_cons_zero, List.set_cons_succ]
              refine rg_take (i := 33) (some 66) (v := ?_) rfl rfl (by kernel_rfl) (by rfl) hQ7 hHeld ?_ ?_
              rotate_left
              · intro w7 hSw; (try dsimp only at hSw); go_simp; all_goals with_reducible rfl
              try simp only [Act.put, List.setIfInBounds_toArray, List.set_cons_zero, List.set_cons_succ]
              refine rg_take (i := 34) (some 67) (v := ?_) rfl rfl (by kernel_rfl) (by rfl) hQ7 hHeld ?_ ?_
              rotate_left
              · intro w7 hSw; (try dsimp only at hSw); go_simp; all_goals with_reducible rfl
              try simp only [Act.put, List.setIfInBounds_toArray, List.set_cons_zero, List.set_cons_succ]
              refine rg_take (i := 35) (some 68) (v := ?_) rfl rfl (by kernel_rfl) (by rfl) hQ7 hHeld ?_ ?_
              rotate_left
              · intro w7 hSw; (try dsimp only at hSw); go_simp; all_goals with_reducible rfl
              try simp only [Act.put, List.setIfInBounds_toArray, List.set_cons_zero, List.set_cons_succ]
              refine rg_take (i := 36) (some 69) (v := ?_) rfl rfl (by kernel_rfl) (by rfl) hQ7 hHeld ?_ ?_
              rotate_left
              · intro w7 hSw; (try dsimp only at hSw); go_simp; all_goals with_reducible rfl
              try simp only [Act.put, List.setIfInBounds_toArray, List.set_cons_zero, List.set_cons_succ]
              refine rg_take (i := 37) (some 70) (v := ?_) rfl rfl (by kernel_rfl) (by rfl) hQ7 hHeld ?_ ?_
              rotate_left
              · intro w7 hSw; (try dsimp only at hSw); go_simp; all_goals with_reducible rfl
              try simp only [Act.put, List.setIfInBounds_toArray, List.set_cons_zero, List.set_cons_succ]
              refine rg_take (i := 38) (some 71) (v := ?_) rfl rfl (by kernel_rfl) (by rfl) hQ7 hHeld ?_ ?_
              rotate_left
              · intro w7 hSw; (try dsimp only at hSw); go_simp; all_goals with_reducible rfl
              try simp only [Act.put, List.setIfInBounds_toArray, List.set_cons_zero, List.set_cons_succ]
              refine rg_take (i := 39) (some 72) (v := ?_) rfl rfl (by kernel_rfl) (by rfl) hQ7 hHeld ?_ ?_
              rotate_left
              · intro w7 hSw; (try dsimp only at hSw); go_simp; all_goals with_reducible rfl
              try simp only [Act.put, List.setIfInBounds_toArray, List.set_cons_zero, List.set_cons_succ]
              refine rg_end (by kernel_rfl) (hN7 _ _ ?_) _
              clear hQ7 hN7 Q7
              have BX := hHeld.1
              clear SS
              have HON := Lib.hid (show Own _ wo.heap.size 40 Sp.cells 2 (.slice A6 (dayOf (l.take m) x).length c6) (dayOf (l.take (m + 1)) x) from by rw [HSt2.out]; simpa using HOu1.out.ext BX)
              have FN := Lib.hid (ext_trans Fu1.out BX)
              clear BX
              go_wp2_with fail
              first
                | exact ⟨⟨m + 1, hmt, by go_num, HNQ.out, HON.out, FN.out⟩, by simp [intOf]; omega⟩
                | (go_roundw
                   case rel => exact ⟨m + 1, hmt, by go_num, HNQ.out, HON.out, FN.out⟩
                   case measure => simp [intOf]; omega)
            have e0 : (x.k == 1) = true := by simp [g0]
            have e1 : (y.k == 1) = true := by simp [g1]
            have e2 : (y.cl == x.cl) = true := by simp [g2]
            have e3 : (y.ap == x.ap) = true := by simp [g3]
            have hsg : sameG x y = true := by
              simp only [sameG, Bool.and_eq_true, decide_eq_true_eq]
              omega
            have HSt2 := Lib.hid HSt.out
            rw [hsg] at HSt2
            clear HSt hsg g0 g1 g2 g3
            have SS := Lib.hid (show ∀ w', Below u1.heap.size u1 w' → (fun w' => Below u1.heap.size u1 w' ∧ w'.cell? ⟨b1, o1 + k * 8, none⟩ = some (.int .i64 x.k) ∧ w'.cell? ⟨b1, o1 + k * 8 + 1, none⟩ = some (.string x.sc) ∧ w'.cell? ⟨b1, o1 + k * 8 + 2, none⟩ = some (.string x.sa) ∧ w'.cell? ⟨b1, o1 + k * 8 + 3, none⟩ = some (.int .i64 x.cl) ∧ w'.cell? ⟨b1, o1 + k * 8 + 4, none⟩ = some (.int .i64 x.ap) ∧ w'.cell? ⟨b1, o1 + k * 8 + 5, none⟩ = some (.int .i64 x.n) ∧ w'.cell? ⟨b1, o1 + k * 8 + 6, none⟩ = some (.int .i64 x.f) ∧ w'.cell? ⟨b1, o1 + k * 8 + 7, none⟩ = some (.int .i64 x.t) ∧ w'.cell? ⟨b1, o1 + m * 8, none⟩ = some (.int .i64 y.k) ∧ w'.cell? ⟨b1, o1 + m * 8 + 1, none⟩ = some (.string y.sc) ∧ w'.cell? ⟨b1, o1 + m * 8 + 2, none⟩ = some (.string y.sa) ∧ w'.cell? ⟨b1, o1 + m * 8 + 3, none⟩ = some (.int .i64 y.cl) ∧ w'.cell? ⟨b1, o1 + m * 8 + 4, none⟩ = some (.int .i64 y.ap) ∧ w'.cell? ⟨b1, o1 + m * 8 + 5, none⟩ = some (.int .i64 y.n) ∧ w'.cell? ⟨b1, o1 + m * 8 + 6, none⟩ = some (.int .i64 y.f) ∧ w'.cell? ⟨b1, o1 + m * 8 + 7, none⟩ = some (.int .i64 y.t)) w' from fun w' h => ⟨h, ((h : Below _ _ _).cell (p := ⟨b1, o1 + k * 8, none⟩) hxu1).trans (DXu1.out 0 _ rfl), ((h : Below _ _ _).cell (p := ⟨b1, o1 + k * 8 + 1, none⟩) hxu1).trans (DXu1.out 1 _ rfl), ((h : Below _ _ _).cell (p := ⟨b1, o1 + k * 8 + 2, none⟩) hxu1).trans (DXu1.out 2 _ rfl), ((h : Below _ _ _).cell (p := ⟨b1, o1 + k * 8 + 3, none⟩) hxu1).trans (DXu1.out 3 _ rfl), ((h : Below _ _ _).cell (p := ⟨b1, o1 + k * 8 + 4, none⟩) hxu1).trans (DXu1.out 4 _ rfl), ((h : Below _ _ _).cell (p := ⟨b1, o1 + k * 8 + 5, none⟩) hxu1).trans (DXu1.out 5 _ rfl), ((h : Below _ _ _).cell (p := ⟨b1, o1 + k * 8 + 6, none⟩) hxu1).trans (DXu1.out 6 _ rfl), ((h : Below _ _ _).cell (p := ⟨b1, o1 + k * 8 + 7, none⟩) hxu1).trans (DXu1.out 7 _ rfl), ((h : Below _ _ _).cell (p := ⟨b1, o1 + m * 8, none⟩) hxu1).trans (DYu1.out 0 _ rfl), ((h : Below _ _ _).cell (p := ⟨b1, o1 + m * 8 + 1, none⟩) hxu1).trans (DYu1.out 1 _ rfl), ((h : Below _ _ _).cell (p := ⟨b1, o1 + m * 8 + 2, none⟩) hxu1).trans (DYu1.out 2 _ rfl), ((h : Below _ _ _).cell (p := ⟨b1, o1 + m * 8 + 3, none⟩) hxu1).trans (DYu1.out 3 _ rfl), ((h : Below _ _ _).cell (p := ⟨b1, o1 + m * 8 + 4, none⟩) hxu1).trans (DYu1.out 4 _ rfl), ((h : Below _ _ _).cell (p := ⟨b1, o1 + m * 8 + 5, none⟩) hxu1).trans (DYu1.out 5 _ rfl), ((h : Below _ _ _).cell (p := ⟨b1, o1 + m * 8 + 6, none⟩) hxu1).trans (DYu1.out 6 _ rfl), ((h : Below _ _ _).cell (p := ⟨b1, o1 + m * 8 + 7, none⟩) hxu1).trans (DYu1.out 7 _ rfl)⟩)
            refine rg_begin (S := (fun w' => Below u1.heap.size u1 w' ∧ w'.cell? ⟨b1, o1 + k * 8, none⟩ = some (.int .i64 x.k) ∧ w'.cell? ⟨b1, o1 + k * 8 + 1, none⟩ = some (.string x.sc) ∧ w'.cell? ⟨b1, o1 + k * 8 + 2, none⟩ = some (.string x.sa) ∧ w'.cell? ⟨b1, o1 + k * 8 + 3, none⟩ = some (.int .i64 x.cl) ∧ w'.cell? ⟨b1, o1 + k * 8 + 4, none⟩ = some (.int .i64 x.ap) ∧ w'.cell? ⟨b1, o1 + k * 8 + 5, none⟩ = some (.int .i64 x.n) ∧ w'.cell? ⟨b1, o1 + k * 8 + 6, none⟩ = some (.int .i64 x.f) ∧ w'.cell? ⟨b1, o1 + k * 8 + 7, none⟩ = some (.int .i64 x.t) ∧ w'.cell? ⟨b1, o1 + m * 8, none⟩ = some (.int .i64 y.k) ∧ w'.cell? ⟨b1, o1 + m * 8 + 1, none⟩ = some (.string y.sc) ∧ w'.cell? ⟨b1, o1 + m * 8 + 2, none⟩ = some (.string y.sa) ∧ w'.cell? ⟨b1, o1 + m * 8 + 3, none⟩ = some (.int .i64 y.cl) ∧ w'.cell? ⟨b1, o1 + m * 8 + 4, none⟩ = some (.int .i64 y.ap) ∧ w'.cell? ⟨b1, o1 + m * 8 + 5, none⟩ = some (.int .i64 y.n) ∧ w'.cell? ⟨b1, o1 + m * 8 + 6, none⟩ = some (.int .i64 y.f) ∧ w'.cell? ⟨b1, o1 + m * 8 + 7, none⟩ = some (.int .i64 y.t))) 40 (by kernel_rfl) (by intro d; cases d <;> intro _ _ _ _ h <;> exact h) ?_ (fun Q7 hQ7 hN7 hHeld => ?_)
            · exact SS.out _ (ext_drew (ext_refl _))
            refine rg_take (i := 0) (some 33) (v := ?_) rfl rfl (by kernel_rfl) (by rfl) hQ7 hHeld ?_ ?_
            rotate_left
            · intro w7 hSw; (try dsimp only at hSw); go_simp; all_goals with_reducible rfl
            try simp only [Act.put, List.setIfInBounds_toArray, List.set_cons_zero, List.set_cons_succ]
            refine rg_take (i := 1) (some 34) (v := ?_) rfl rfl (by kernel_rfl) (by rfl) hQ7 hHeld ?_ ?_
            rotate_left
            · intro w7 hSw; (try dsimp only at hSw); go_simp; all_goals with_reducible rfl
            try simp only [Act.put, List.setIfInBounds_toArray, List.set_cons_zero, List.set_cons_succ]
            refine rg_take (i := 2) (some 35) (v := ?_) rfl rfl (by kernel_rfl) (by rfl) hQ7 hHeld ?_ ?_
            rotate_left
            · intro w7 hSw; (try dsimp only at hSw); go_simp; all_goals with_reducible rfl
            try simp only [Act.put, List.setIfInBounds_toArray, List.set_cons_zero, List.set_cons_succ]
            refine rg_take (i := 3) (some 36) (v := ?_) rfl rfl (by kernel_rfl) (by rfl) hQ7 hHeld ?_ ?_
            rotate_left
            · intro w7 hSw; (try dsimp only at hSw); go_simp; all_goals with_reducible rfl
            try simp only [Act.put, List.setIfInBounds_toArray, List.set_cons_zero, List.set_cons_succ]
            refine rg_take (i := 4) (some 37) (v := ?_) rfl rfl (by kernel_rfl) (by rfl) hQ7 hHeld ?_ ?_
            rotate_left
            · intro w7 hSw; (try dsimp only at hSw); go_simp; all_goals with_reducible rfl
            try simp only [Act.put, List.setIfInBounds_toArray, List.set_cons_zero, List.set_cons_succ]
            refine rg_take (i := 5) (some 38) (v := ?_) rfl rfl (by kernel_rfl) (by rfl) hQ7 hHeld ?_ ?_
            rotate_left
            · intro w7 hSw; (try dsimp only at hSw); go_simp; all_goals with_reducible rfl
            try simp only [Act.put, List.setIfInBounds_toArray, List.set_cons_zero, List.set_cons_succ]
            refine rg_take (i := 6) (some 39) (v := ?_) rfl rfl (by kernel_rfl) (by rfl) hQ7 hHeld ?_ ?_
            rotate_left
            · intro w7 hSw; (try dsimp only at hSw); go_simp; all_goals with_reducible rfl
            try simp only [Act.put, List.setIfInBounds_toArray, List.set_cons_zero, List.set_cons_succ]
            refine rg_take (i := 7) (some 40) (v := ?_) rfl rfl (by kernel_rfl) (by rfl) hQ7 hHeld ?_ ?_
            rotate_left
            · intro w7 hSw; (try dsimp only at hSw); go_simp; all_goals with_reducible rfl
            try simp only [Act.put, List.setIfInBounds_toArray, List.set_cons_zero, List.set_cons_succ]
            refine rg_take (i := 8) (some 41) (v := ?_) rfl rfl (by kernel_rfl) (by rfl) hQ7 hHeld ?_ ?_
            rotate_left
            · intro w7 hSw; (try dsimp only at hSw); go_simp; all_goals with_reducible rfl
            try simp only [Act.put, List.setIfInBounds_toArray, List.set_cons_zero, List.set_cons_succ]
            refine rg_take (i := 9) (some 42) (v := ?_) rfl rfl (by kernel_rfl) (by rfl) hQ7 hHeld ?_ ?_
            rotate_left
            · intro w7 hSw; (try dsimp only at hSw); go_simp; all_goals with_reducible rfl
            try simp only [Act.put, List.setIfInBounds_toArray, List.set_cons_zero, List.set_cons_succ]
            refine rg_take (i := 10) (some 43) (v := ?_) rfl rfl (by kernel_rfl) (by rfl) hQ7 hHeld ?_ ?_
            rotate_left
            · intro w7 hSw; (try dsimp only at hSw); go_simp; all_goals with_reducible rfl
            try simp only [Act.put, List.setIfInBounds_toArray, List.set_cons_zero, List.set_cons_succ]
            refine rg_take (i := 11) (some 44) (v := ?_) rfl rfl (by kernel_rfl) (by rfl) hQ7 hHeld ?_ ?_
            rotate_left
            · intro w7 hSw; (try dsimp only at hSw); go_simp; all_goals with_reducible rfl
            try simp only [Act.put, List.setIfInBounds_toArray, List.set_cons_zero, List.set_cons_succ]
            refine rg_take (i := 12) (some 45) (v := ?_) rfl rfl (by kernel_rfl) (by rfl) hQ7 hHeld ?_ ?_
            rotate_left
            · intro w7 hSw; (try dsimp only at hSw); go_simp; all_goals with_reducible rfl
            try simp only [Act.put, List.setIfInBounds_toArray, List.set_cons_zero, List.set_cons_succ]
            refine rg_take (i := 13) (some 46) (v := ?_) rfl rfl (by kernel_rfl) (by rfl) hQ7 hHeld ?_ ?_
            rotate_left
            · intro w7 hSw; (try dsimp only at hSw); go_simp; all_goals with_reducible rfl
            try simp only [Act.put, List.setIfInBounds_toArray, List.set_cons_zero, List.set_cons_succ]
            refine rg_take (i := 14) (some 47) (v := ?_) rfl rfl (by kernel_rfl) (by rfl) hQ7 hHeld ?_ ?_
            rotate_left
            · intro w7 hSw; (try dsimp only at hSw); go_simp; all_goals with_reducible rfl
            try simp only [Act.put, List.setIfInBounds_toArray, List.set_cons_zero, List.set_cons_succ]
            refine rg_take (i := 15) (some 48) (v := ?_) rfl rfl (by kernel_rfl) (by rfl) hQ7 hHeld ?_ ?_
            rotate_left
            · intro w7 hSw; (try dsimp only at hSw); go_simp; all_goals with_reducible rfl
            try simp only [Act.put, List.setIfInBounds_toArray, List.set_cons_zero, List.set_cons_succ]
            refine rg_take (i := 16) (some 49) (v := ?_) rfl rfl (by kernel_rfl) (by rfl) hQ7 hHeld ?_ ?_
            rotate_left
            · intro w7 hSw; (try dsimp only at hSw); go_simp; all_goals with_reducible rfl
            try simp only [Act.put, List.setIfInBounds_toArray, List.set_cons_zero, List.set_cons_succ]
            refine rg_take (i := 17) (some 50) (v := ?_) rfl rfl (by kernel_rfl) (by rfl) hQ7 hHeld ?_ ?_
            rotate_left
            · intro w7 hSw; (try dsimp only at hSw); go_simp; all_goals with_reducible rfl
            try simp only [Act.put, List.setIfInBounds_toArray, List.set_cons_zero, List.set_cons_succ]
            refine rg_take (i := 18) (some 51) (v := ?_) rfl rfl (by kernel_rfl) (by rfl) hQ7 hHeld ?_ ?_
            rotate_left
            · intro w7 hSw; (try dsimp only at hSw); go_simp; all_goals with_reducible rfl
            try simp only [Act.put, List.setIfInBounds_toArray, List.set_cons_zero, List.set_cons_succ]
            refine rg_take (i := 19) (some 52) (v := ?_) rfl rfl (by kernel_rfl) (by rfl) hQ7 hHeld ?_ ?_
            rotate_left
            · intro w7 hSw; (try dsimp only at hSw); go_simp; all_goals with_reducible rfl
            try simp only [Act.put, List.setIfInBounds_toArray, List.set_cons_zero, List.set_cons_succ]
            refine rg_take (i := 20) (some 53) (v := ?_) rfl rfl (by kernel_rfl) (by rfl) hQ7 hHeld ?_ ?_
            rotate_left
            · intro w7 hSw; (try dsimp only at hSw); go_simp; all_goals with_reducible rfl
            try simp only [Act.put, List.setIfInBounds_toArray, List.set_cons_zero, List.set_cons_succ]
            refine rg_take (i := 21) (some 54) (v := ?_) rfl rfl (by kernel_rfl) (by rfl) hQ7 hHeld ?_ ?_
            rotate_left
            · intro w7 hSw; (try dsimp only at hSw); go_simp; all_goals with_reducible rfl
            try simp only [Act.put, List.setIfInBounds_toArray, List.set_cons_zero, List.set_cons_succ]
            refine rg_take (i := 22) (some 55) (v := ?_) rfl rfl (by kernel_rfl) (by rfl) hQ7 hHeld ?_ ?_
            rotate_left
            · intro w7 hSw; (try dsimp only at hSw); go_simp; all_goals with_reducible rfl
            try simp only [Act.put, List.setIfInBounds_toArray, List.set_cons_zero, List.set_cons_succ]
            refine rg_take (i := 23) (some 56) (v := ?_) rfl rfl (by kernel_rfl) (by rfl) hQ7 hHeld ?_ ?_
            rotate_left
            · intro w7 hSw; (try dsimp only at hSw); go_simp; all_goals with_reducible rfl
            try simp only [Act.put, List.setIfInBounds_toArray, List.set_cons_zero, List.set_cons_succ]
            refine rg_take (i := 24) (some 57) (v := ?_) rfl rfl (by kernel_rfl) (by rfl) hQ7 hHeld ?_ ?_
            rotate_left
            · intro w7 hSw; (try dsimp only at hSw); go_simp; all_goals with_reducible rfl
            try simp only [Act.put, List.setIfInBounds_toArray, List.set_cons_zero, List.set_cons_succ]
            refine rg_take (i := 25) (some 58) (v := ?_) rfl rfl (by kernel_rfl) (by rfl) hQ7 hHeld ?_ ?_
            rotate_left
            · intro w7 hSw; (try dsimp only at hSw); go_simp; all_goals with_reducible rfl
            try simp only [Act.put, List.setIfInBounds_toArray, List.set_cons_zero, List.set_cons_succ]
            refine rg_take (i := 26) (some 59) (v := ?_) rfl rfl (by kernel_rfl) (by rfl) hQ7 hHeld ?_ ?_
            rotate_left
            · intro w7 hSw; (try dsimp only at hSw); go_simp; all_goals with_reducible rfl
            try simp only [Act.put, List.setIfInBounds_toArray, List.set_cons_zero, List.set_cons_succ]
            refine rg_take (i := 27) (some 60) (v := ?_) rfl rfl (by kernel_rfl) (by rfl) hQ7 hHeld ?_ ?_
            rotate_left
            · intro w7 hSw; (try dsimp only at hSw); go_simp; all_goals with_reducible rfl
            try simp only [Act.put, List.setIfInBounds_toArray, List.set_cons_zero, List.set_cons_succ]
            refine rg_take (i := 28) (some 61) (v := ?_) rfl rfl (by kernel_rfl) (by rfl) hQ7 hHeld ?_ ?_
            rotate_left
            · intro w7 hSw; (try dsimp only at hSw); go_simp; all_goals with_reducible rfl
            try simp only [Act.put, List.setIfInBounds_toArray, List.set_cons_zero, List.set_cons_succ]
            refine rg_take (i := 29) (some 62) (v := ?_) rfl rfl (by kernel_rfl) (by rfl) hQ7 hHeld ?_ ?_
            rotate_left
            · intro w7 hSw; (try dsimp only at hSw); go_simp; all_goals with_reducible rfl
            try simp only [Act.put, List.setIfInBounds_toArray, List.set_cons_zero, List.set_cons_succ]
            refine rg_take (i := 30) (some 63) (v := ?_) rfl rfl (by kernel_rfl) (by rfl) hQ7 hHeld ?_ ?_
            rotate_left
            · intro w7 hSw; (try dsimp only at hSw); go_simp; all_goals with_reducible rfl
            try simp only [Act.put, List.setIfInBounds_toArray, List.set_cons_zero, List.set_cons_succ]
            refine rg_take (i := 31) (some 64) (v := ?_) rfl rfl (by kernel_rfl) (by rfl) hQ7 hHeld ?_ ?_
            rotate_left
            · intro w7 hSw; (try dsimp only at hSw); go_simp; all_goals with_reducible rfl
            try simp only [Act.put, List.setIfInBounds_toArray, List.set_cons_zero, List.set_cons_succ]
            refine rg_take (i := 32) (some 65) (v := ?_) rfl rfl (by kernel_rfl) (by rfl) hQ7 hHeld ?_ ?_
            rotate_left
            · intro w7 hSw; (try dsimp only at hSw); go_simp; all_goals with_reducible rfl
            try simp only [Act.put, List.setIfInBounds_toArray, List.set_cons_zero, List.set_cons_succ]
            refine rg_take (i := 33) (some 66) (v := ?_) rfl rfl (by kernel_rfl) (by rfl) hQ7 hHeld ?_ ?_
            rotate_left
            · intro w7 hSw; (try dsimp only at hSw); go_simp; all_goals with_reducible rfl
            try simp only [Act.put, List.setIfInBounds_toArray, List.set_cons_zero, List.set_cons_succ]
            refine rg_take (i := 34) (some 67) (v := ?_) rfl rfl (by kernel_rfl) (by rfl) hQ7 hHeld ?_ ?_
            rotate_left
            · intro w7 hSw; (try dsimp only at hSw); go_simp; all_goals with_reducible rfl
            try simp only [Act.put, List.setIfInBounds_toArray, List.set_cons_zero, List.set_cons_succ]
            refine rg_take (i := 35) (some 68) (v := ?_) rfl rfl (by kernel_rfl) (by rfl) hQ7 hHeld ?_ ?_
            rotate_left
            · intro w7 hSw; (try dsimp only at hSw); go_simp; all_goals with_reducible rfl
            try simp only [Act.put, List.setIfInBounds_toArray, List.set_cons_zero, List.set_cons_succ]
            refine rg_take (i := 36) (some 69) (v := ?_) rfl rfl (by kernel_rfl) (by rfl) hQ7 hHeld ?_ ?_
            rotate_left
            · intro w7 hSw; (try dsimp only at hSw); go_simp; all_goals with_reducible rfl
            try simp only [Act.put, List.setIfInBounds_toArray, List.set_cons_zero, List.set_cons_succ]
            refine rg_take (i := 37) (some 70) (v := ?_) rfl rfl (by kernel_rfl) (by rfl) hQ7 hHeld ?_ ?_
            rotate_left
            · intro w7 hSw; (try dsimp only at hSw); go_simp; all_goals with_reducible rfl
            try simp only [Act.put, List.setIfInBounds_toArray, List.set_cons_zero, List.set_cons_succ]
            refine rg_take (i := 38) (some 71) (v := ?_) rfl rfl (by kernel_rfl) (by rfl) hQ7 hHeld ?_ ?_
            rotate_left
            · intro w7 hSw; (try dsimp only at hSw); go_simp; all_goals with_reducible rfl
            try simp only [Act.put, List.setIfInBounds_toArray, List.set_cons_zero, List.set_cons_succ]
            refine rg_take (i := 39) (some 72) (v := ?_) rfl rfl (by kernel_rfl) (by rfl) hQ7 hHeld ?_ ?_
            rotate_left
            · intro w7 hSw; (try dsimp only at hSw); go_simp; all_goals with_reducible rfl
            try simp only [Act.put, List.setIfInBounds_toArray, List.set_cons_zero, List.set_cons_succ]
            refine rg_end (by kernel_rfl) (hN7 _ _ ?_) _
            clear hQ7 hN7 Q7
            have BX := hHeld.1
            clear SS
            obtain ⟨wz, hwz⟩ : ∃ W0, W0 = u1.drew := ⟨_, rfl⟩
            rw [← hwz] at BX ⊢
            have hxz : b1 < wz.heap.size := Nat.lt_of_lt_of_le hxu1 BX.size
            have dy6 := (BX.cell (p := ⟨b1, o1 + m * 8 + 6, none⟩) hxu1).trans (DYu1.out 6 _ rfl)
            have dy7 := (BX.cell (p := ⟨b1, o1 + m * 8 + 7, none⟩) hxu1).trans (DYu1.out 7 _ rfl)
            have HOz := Lib.hid (HOu1.out.ext BX)
            have Fz := Lib.hid (ext_trans Fu1.out BX)
            clear BX hwz
            have hS := slc_litH wz [y.h] #[.int .i64 y.f, .int .i64 y.t] 40 (enc := Sp.cells) (sz := 2) (fun _ => rfl) rfl wz.heap.size rfl
            have hl2 : (dayOf (l.take (m + 1)) x).length ≤ 1000 := by have := dayOf_len (l.take (m + 1)) x; simp only [List.length_take] at this; omega
            obtain ⟨v', w5, hrun, A7, c7, hv7, hO7, hB7, -, -, -⟩ := Own.append_k (w0 := wo) I22 46 (HOz.out.alloc (.cells #[.int .i64 y.f, .int .i64 y.t] 40)) (ext_alloc Fz.out _) (ys := [y.h]) (m := 1) rfl 1 hS (dayOf (l.take (m + 1)) x) (by rw [HSt2.out]; rfl) _ rfl (by omega) (by unfold maxLen; omega)
            rw [← hv7] at hO7
            have HRUN := Lib.hid hrun
            have HO7 := Lib.hid hO7
            have HB7 := Lib.hid hB7
            clear hrun hO7 hB7 hS hv7 hl2
            go_wp2_with (at_builtin; refine wpList_append_run rfl (.tmp 73) (.tmp 79) 46 rfl (.slice A6 (dayOf (l.take m) x).length c6) (.slice (some ⟨wz.heap.size, 0, none⟩) 1 1) rfl rfl HRUN.out ?_)
            all_goals
              first
                | exact ⟨⟨m + 1, hmt, by go_num, HNQ.out, HO7.out, HB7.out⟩, by simp [intOf]; omega⟩
                | (go_roundw
                   case rel => exact ⟨m + 1, hmt, by go_num, HNQ.out, HO7.out, HB7.out⟩
                   case measure => simp [intOf]; omega)
          · have hmk' : decide ((m : Int) < (k : Int)) = false := by simp; omega
            have HNQ := Lib.hid (noQ_step HQ.out HY.out (fun h => absurd h hmk))
            have hxwr := hb2
            have DXwr := DX
            have DYwr := HD2
            have SS := Lib.hid (show ∀ w', Below wr.heap.size wr w' → (fun w' => Below wr.heap.size wr w' ∧ w'.cell? ⟨b1, o1 + k * 8, none⟩ = some (.int .i64 x.k) ∧ w'.cell? ⟨b1, o1 + k * 8 + 1, none⟩ = some (.string x.sc) ∧ w'.cell? ⟨b1, o1 + k * 8 + 2, none⟩ = some (.string x.sa) ∧ w'.cell? ⟨b1, o1 + k * 8 + 3, none⟩ = some (.int .i64 x.cl) ∧ w'.cell? ⟨b1, o1 + k * 8 + 4, none⟩ = some (.int .i64 x.ap) ∧ w'.cell? ⟨b1, o1 + k * 8 + 5, none⟩ = some (.int .i64 x.n) ∧ w'.cell? ⟨b1, o1 + k * 8 + 6, none⟩ = some (.int .i64 x.f) ∧ w'.cell? ⟨b1, o1 + k * 8 + 7, none⟩ = some (.int .i64 x.t) ∧ w'.cell? ⟨b1, o1 + m * 8, none⟩ = some (.int .i64 y.k) ∧ w'.cell? ⟨b1, o1 + m * 8 + 1, none⟩ = some (.string y.sc) ∧ w'.cell? ⟨b1, o1 + m * 8 + 2, none⟩ = some (.string y.sa) ∧ w'.cell? ⟨b1, o1 + m * 8 + 3, none⟩ = some (.int .i64 y.cl) ∧ w'.cell? ⟨b1, o1 + m * 8 + 4, none⟩ = some (.int .i64 y.ap) ∧ w'.cell? ⟨b1, o1 + m * 8 + 5, none⟩ = some (.int .i64 y.n) ∧ w'.cell? ⟨b1, o1 + m * 8 + 6, none⟩ = some (.int .i64 y.f) ∧ w'.cell? ⟨b1, o1 + m * 8 + 7, none⟩ = some (.int .i64 y.t)) w' from fun w' h => ⟨h, ((h : Below _ _ _).cell (p := ⟨b1, o1 + k * 8, none⟩) hxwr).trans (DXwr.out 0 _ rfl), ((h : Below _ _ _).cell (p := ⟨b1, o1 + k * 8 + 1, none⟩) hxwr).trans (DXwr.out 1 _ rfl), ((h : Below _ _ _).cell (p := ⟨b1, o1 + k * 8 + 2, none⟩) hxwr).trans (DXwr.out 2 _ rfl), ((h : Below _ _ _).cell (p := ⟨b1, o1 + k * 8 + 3, none⟩) hxwr).trans (DXwr.out 3 _ rfl), ((h : Below _ _ _).cell (p := ⟨b1, o1 + k * 8 + 4, none⟩) hxwr).trans (DXwr.out 4 _ rfl), ((h : Below _ _ _).cell (p := ⟨b1, o1 + k * 8 + 5, none⟩) hxwr).trans (DXwr.out 5 _ rfl), ((h : Below _ _ _).cell (p := ⟨b1, o1 + k * 8 + 6, none⟩) hxwr).trans (DXwr.out 6 _ rfl), ((h : Below _ _ _).cell (p := ⟨b1, o1 + k * 8 + 7, none⟩) hxwr).trans (DXwr.out 7 _ rfl), ((h : Below _ _ _).cell (p := ⟨b1, o1 + m * 8, none⟩) hxwr).trans (DYwr.out 0 _ rfl), ((h : Below _ _ _).cell (p := ⟨b1, o1 + m * 8 + 1, none⟩) hxwr).trans (DYwr.out 1 _ rfl), ((h : Below _ _ _).cell (p := ⟨b1, o1 + m * 8 + 2, none⟩) hxwr).trans (DYwr.out 2 _ rfl), ((h : Below _ _ _).cell (p := ⟨b1, o1 + m * 8 + 3, none⟩) hxwr).trans (DYwr.out 3 _ rfl), ((h : Below _ _ _).cell (p := ⟨b1, o1 + m * 8 + 4, none⟩) hxwr).trans (DYwr.out 4 _ rfl), ((h : Below _ _ _).cell (p := ⟨b1, o1 + m * 8 + 5, none⟩) hxwr).trans (DYwr.out 5 _ rfl), ((h : Below _ _ _).cell (p := ⟨b1, o1 + m * 8 + 6, none⟩) hxwr).trans (DYwr.out 6 _ rfl), ((h : Below _ _ _).cell (p := ⟨b1, o1 + m * 8 + 7, none⟩) hxwr).trans (DYwr.out 7 _ rfl)⟩)
            refine rg_begin (S := (fun w' => Below wr.heap.size wr w' ∧ w'.cell? ⟨b1, o1 + k * 8, none⟩ = some (.int .i64 x.k) ∧ w'.cell? ⟨b1, o1 + k * 8 + 1, none⟩ = some (.string x.sc) ∧ w'.cell? ⟨b1, o1 + k * 8 + 2, none⟩ = some (.string x.sa) ∧ w'.cell? ⟨b1, o1 + k * 8 + 3, none⟩ = some (.int .i64 x.cl) ∧ w'.cell? ⟨b1, o1 + k * 8 + 4, none⟩ = some (.int .i64 x.ap) ∧ w'.cell? ⟨b1, o1 + k * 8 + 5, none⟩ = some (.int .i64 x.n) ∧ w'.cell? ⟨b1, o1 + k * 8 + 6, none⟩ = some (.int .i64 x.f) ∧ w'.cell? ⟨b1, o1 + k * 8 + 7, none⟩ = some (.int .i64 x.t) ∧ w'.cell? ⟨b1, o1 + m * 8, none⟩ = some (.int .i64 y.k) ∧ w'.cell? ⟨b1, o1 + m * 8 + 1, none⟩ = some (.string y.sc) ∧ w'.cell? ⟨b1, o1 + m * 8 + 2, none⟩ = some (.string y.sa) ∧ w'.cell? ⟨b1, o1 + m * 8 + 3, none⟩ = some (.int .i64 y.cl) ∧ w'.cell? ⟨b1, o1 + m * 8 + 4, none⟩ = some (.int .i64 y.ap) ∧ w'.cell? ⟨b1, o1 + m * 8 + 5, none⟩ = some (.int .i64 y.n) ∧ w'.cell? ⟨b1, o1 + m * 8 + 6, none⟩ = some (.int .i64 y.f) ∧ w'.cell? ⟨b1, o1 + m * 8 + 7, none⟩ = some (.int .i64 y.t))) 14 (by kernel_rfl) (by intro d; cases d <;> intro _ _ _ _ h <;> exact h) ?_ (fun Q7 hQ7 hN7 hHeld => ?_)
            · exact SS.out _ (ext_drew (ext_refl _))
            refine rg_take (i := 0) (some 19) (v := ?_) rfl rfl (by kernel_rfl) (by rfl) hQ7 hHeld ?_ ?_
            rotate_left
            · intro w7 hSw; (try dsimp only at hSw); go_simp; all_goals with_reducible rfl
            try simp only [Act.put, List.setIfInBounds_toArray, List.set_cons_zero, List.set_cons_succ]
            refine rg_take (i := 1) (some 20) (v := ?_) rfl rfl (by kernel_rfl) (by rfl) hQ7 hHeld ?_ ?_
            rotate_left
            · intro w7 hSw; (try dsimp only at hSw); go_simp; all_goals with_reducible rfl
            try simp only [Act.put, List.setIfInBounds_toArray, List.set_cons_zero, List.set_cons_succ]
            refine rg_take (i := 2) (some 21) (v := ?_) rfl rfl (by kernel_rfl) (by rfl) hQ7 hHeld ?_ ?_
            rotate_left
            · intro w7 hSw; (try dsimp only at hSw); go_simp; all_goals with_reducible rfl
            try simp only [Act.put, List.setIfInBounds_toArray, List.set_cons_zero, List.set_cons_succ]
            refine rg_take (i := 3) (some 22) (v := ?_) rfl rfl (by kernel_rfl) (by rfl) hQ7 hHeld ?_ ?_
            rotate_left
            · intro w7 hSw; (try dsimp only at hSw); go_simp; all_goals with_reducible rfl
            try simp only [Act.put, List.setIfInBounds_toArray, List.set_cons_zero, List.set_cons_succ]
            refine rg_skip (i := 4) (some 23) rfl rfl (by kernel_rfl) (by rfl) hQ7 hHeld ?_
            try simp only [Act.put, List.setIfInBounds_toArray, List.set_cons_zero, List.set_cons_succ]
            refine rg_skip (i := 5) (some 24) rfl rfl (by kernel_rfl) (by rfl) hQ7 hHeld ?_
            try simp only [Act.put, List.setIfInBounds_toArray, List.set_cons_zero, List.set_cons_succ]
            refine rg_skip (i := 6) (some 25) rfl rfl (by kernel_rfl) (by rfl) hQ7 hHeld ?_
            try simp only [Act.put, List.setIfInBounds_toArray, List.set_cons_zero, List.set_cons_succ]
            refine rg_skip (i := 7) (some 26) rfl rfl (by kernel_rfl) (by rfl) hQ7 hHeld ?_
            try simp only [Act.put, List.setIfInBounds_toArray, List.set_cons_zero, List.set_cons_succ]
            refine rg_skip (i := 8) (some 27) rfl rfl (by kernel_rfl) (by rfl) hQ7 hHeld ?_
            try simp only [Act.put, List.setIfInBounds_toArray, List.set_cons_zero, List.set_cons_succ]
            refine rg_skip (i := 9) (some 28) rfl rfl (by kernel_rfl) (by rfl) hQ7 hHeld ?_
            try simp only [Act.put, List.setIfInBounds_toArray, List.set_cons_zero, List.set_cons_succ]
            refine rg_skip (i := 10) (some 29) rfl rfl (by kernel_rfl) (by rfl) hQ7 hHeld ?_
            try simp only [Act.put, List.setIfInBounds_toArray, List.set_cons_zero, List.set_cons_succ]
            refine rg_skip (i := 11) (some 30) rfl rfl (by kernel_rfl) (by rfl) hQ7 hHeld ?_
            try simp only [Act.put, List.setIfInBounds_toArray, List.set_cons_zero, List.set_cons_succ]
            refine rg_skip (i := 12) (some 31) rfl rfl (by kernel_rfl) (by rfl) hQ7 hHeld ?_
            try simp only [Act.put, List.setIfInBounds_toArray, List.set_cons_zero, List.set_cons_succ]
            refine rg_take (i := 13) (some 32) (v := ?_) rfl rfl (by kernel_rfl) (by rfl) hQ7 hHeld ?_ ?_
            rotate_left
            · intro w7 hSw; (try dsimp only at hSw); go_simp; all_goals with_reducible rfl
            try simp only [Act.put, List.setIfInBounds_toArray, List.set_cons_zero, List.set_cons_succ]
            refine rg_end (by kernel_rfl) (hN7 _ _ ?_) _
            clear hQ7 hN7 Q7
            have BX := hHeld.1
            clear SS
            clear hxwr DXwr DYwr
            obtain ⟨u1, hu1⟩ : ∃ W0, W0 = wr.drew := ⟨_, rfl⟩
            rw [← hu1] at BX ⊢
            clear hu1
            have hxu1 : b1 < u1.heap.size := Nat.lt_of_lt_of_le hb2 BX.size
            have DXu1 := Lib.hid (fun j v (h : x.cells[j]? = some v) => (BX.cell (p := ⟨b1, o1 + k * 8 + j, none⟩) hb2).trans (DX.out j v h))
            have DYu1 := Lib.hid (fun j v (h : y.cells[j]? = some v) => (BX.cell (p := ⟨b1, o1 + m * 8 + j, none⟩) hb2).trans (HD2.out j v h))
            have Fu1 := Lib.hid (ext_trans F.out BX)
            have HOu1 := Lib.hid (HO.out.ext BX)
            clear BX
            go_wp2_with fail
            by_cases g0 : x.k = 1
            rotate_left
            · have e0 : (x.k == 1) = false := by simp [g0]
              have hsg : sameG x y = false := by
                rw [Bool.eq_false_iff]
                intro h
                simp only [sameG, Bool.and_eq_true, decide_eq_true_eq] at h
                exact g0 (by omega)
              have HSt2 := Lib.hid HSt.out
              rw [hsg] at HSt2
              clear HSt hsg g0
              have SS := Lib.hid (show ∀ w', Below u1.heap.size u1 w' → (fun w' => Below u1.heap.size u1 w' ∧ w'.cell? ⟨b1, o1 + k * 8, none⟩ = some (.int .i64 x.k) ∧ w'.cell? ⟨b1, o1 + k * 8 + 1, none⟩ = some (.string x.sc) ∧ w'.cell? ⟨b1, o1 + k * 8 + 2, none⟩ = some (.string x.sa) ∧ w'.cell? ⟨b1, o1 + k * 8 + 3, none⟩ = some (.int .i64 x.cl) ∧ w'.cell? ⟨b1, o1 + k * 8 + 4, none⟩ = some (.int .i64 x.ap) ∧ w'.cell? ⟨b1, o1 + k * 8 + 5, none⟩ = some (.int .i64 x.n) ∧ w'.cell? ⟨b1, o1 + k * 8 + 6, none⟩ = some (.int .i64 x.f) ∧ w'.cell? ⟨b1, o1 + k * 8 + 7, none⟩ = some (.int .i64 x.t) ∧ w'.cell? ⟨b1, o1 + m * 8, none⟩ = some (.int .i64 y.k) ∧ w'.cell? ⟨b1, o1 + m * 8 + 1, none⟩ = some (.string y.sc) ∧ w'.cell? ⟨b1, o1 + m * 8 + 2, none⟩ = some (.string y.sa) ∧ w'.cell? ⟨b1, o1 + m * 8 + 3, none⟩ = some (.int .i64 y.cl) ∧ w'.cell? ⟨b1, o1 + m * 8 + 4, none⟩ = some (.int .i64 y.ap) ∧ w'.cell? ⟨b1, o1 + m * 8 + 5, none⟩ = some (.int .i64 y.n) ∧ w'.cell? ⟨b1, o1 + m * 8 + 6, none⟩ = some (.int .i64 y.f) ∧ w'.cell? ⟨b1, o1 + m * 8 + 7, none⟩ = some (.int .i64 y.t)) w' from fun w' h => ⟨h, ((h : Below _ _ _).cell (p := ⟨b1, o1 + k * 8, none⟩) hxu1).trans (DXu1.out 0 _ rfl), ((h : Below _ _ _).cell (p := ⟨b1, o1 + k * 8 + 1, none⟩) hxu1).trans (DXu1.out 1 _ rfl), ((h : Below _ _ _).cell (p := ⟨b1, o1 + k * 8 + 2, none⟩) hxu1).trans (DXu1.out 2 _ rfl), ((h : Below _ _ _).cell (p := ⟨b1, o1 + k * 8 + 3, none⟩) hxu1).trans (DXu1.out 3 _ rfl), ((h : Below _ _ _).cell (p := ⟨b1, o1 + k * 8 + 4, none⟩) hxu1).trans (DXu1.out 4 _ rfl), ((h : Below _ _ _).cell (p := ⟨b1, o1 + k * 8 + 5, none⟩) hxu1).trans (DXu1.out 5 _ rfl), ((h : Below _ _ _).cell (p := ⟨b1, o1 + k * 8 + 6, none⟩) hxu1).trans (DXu1.out 6 _ rfl), ((h : Below _ _ _).cell (p := ⟨b1, o1 + k * 8 + 7, none⟩) hxu1).trans (DXu1.out 7 _ rfl), ((h : Below _ _ _).cell (p := ⟨b1, o1 + m * 8, none⟩) hxu1).trans (DYu1.out 0 _ rfl), ((h : Below _ _ _).cell (p := ⟨b1, o1 + m * 8 + 1, none⟩) hxu1).trans (DYu1.out 1 _ rfl), ((h : Below _ _ _).cell (p := ⟨b1, o1 + m * 8 + 2, none⟩) hxu1).trans (DYu1.out 2 _ rfl), ((h : Below _ _ _).cell (p := ⟨b1, o1 + m * 8 + 3, none⟩) hxu1).trans (DYu1.out 3 _ rfl), ((h : Below _ _ _).cell (p := ⟨b1, o1 + m * 8 + 4, none⟩) hxu1).trans (DYu1.out 4 _ rfl), ((h : Below _ _ _).cell (p := ⟨b1, o1 + m * 8 + 5, none⟩) hxu1).trans (DYu1.out 5 _ rfl), ((h : Below _ _ _).cell (p := ⟨b1, o1 + m * 8 + 6, none⟩) hxu1).trans (DYu1.out 6 _ rfl), ((h : Below _ _ _).cell (p := ⟨b1, o1 + m * 8 + 7, none⟩) hxu1).trans (DYu1.out 7 _ rfl)⟩)
              refine rg_begin (S := (fun w' => Below u1.heap.size u1 w' ∧ w'.cell? ⟨b1, o1 + k * 8, none⟩ = some (.int .i64 x.k) ∧ w'.cell? ⟨b1, o1 + k * 8 + 1, none⟩ = some (.string x.sc) ∧ w'.cell? ⟨b1, o1 + k * 8 + 2, none⟩ = some (.string x.sa) ∧ w'.cell? ⟨b1, o1 + k * 8 + 3, none⟩ = some (.int .i64 x.cl) ∧ w'.cell? ⟨b1, o1 + k * 8 + 4, none⟩ = some (.int .i64 x.ap) ∧ w'.cell? ⟨b1, o1 + k * 8 + 5, none⟩ = some (.int .i64 x.n) ∧ w'.cell? ⟨b1, o1 + k * 8 + 6, none⟩ = some (.int .i64 x.f) ∧ w'.cell? ⟨b1, o1 + k * 8 + 7, none⟩ = some (.int .i64 x.t) ∧ w'.cell? ⟨b1, o1 + m * 8, none⟩ = some (.int .i64 y.k) ∧ w'.cell? ⟨b1, o1 + m * 8 + 1, none⟩ = some (.string y.sc) ∧ w'.cell? ⟨b1, o1 + m * 8 + 2, none⟩ = some (.string y.sa) ∧ w'.cell? ⟨b1, o1 + m * 8 + 3, none⟩ = some (.int .i64 y.cl) ∧ w'.cell? ⟨b1, o1 + m * 8 + 4, none⟩ = some (.int .i64 y.ap) ∧ w'.cell? ⟨b1, o1 + m * 8 + 5, none⟩ = some (.int .i64 y.n) ∧ w'.cell? ⟨b1, o1 + m * 8 + 6, none⟩ = some (.int .i64 y.f) ∧ w'.cell? ⟨b1, o1 + m * 8 + 7, none⟩ = some (.int .i64 y.t))) 40 (by kernel_rfl) (by intro d; cases d <;> intro _ _ _ _ h <;> exact h) ?_ (fun Q7 hQ7 hN7 hHeld => ?_)
              · exact SS.out _ (ext_drew (ext_refl _))
              refine rg_take (i := 0) (some 33) (v := ?_) rfl rfl (by kernel_rfl) (by rfl) hQ7 hHeld ?_ ?_
              rotate_left
              · intro w7 hSw; (try dsimp only at hSw); go_simp; all_goals with_reducible rfl
              try simp only [Act.put, List.setIfInBounds_toArray, List.set_cons_zero, List.set_cons_succ]
              refine rg_take (i := 1) (some 34) (v := ?_) rfl rfl (by kernel_rfl) (by rfl) hQ7 hHeld ?_ ?_
              rotate_left
              · intro w7 hSw; (try dsimp only at hSw); go_simp; all_goals with_reducible rfl
              try simp only [Act.put, List.setIfInBounds_toArray, List.set_cons_zero, List.set_cons_succ]
              refine rg_take (i := 2) (some 35) (v := ?_) rfl rfl (by kernel_rfl) (by rfl) hQ7 hHeld ?_ ?_
              rotate_left
              · intro w7 hSw; (try dsimp only at hSw); go_simp; all_goals with_reducible rfl
              try simp only [Act.put, List.setIfInBounds_toArray, List.set_cons_zero, List.set_cons_succ]
              refine rg_take (i := 3) (some 36) (v := ?_) rfl rfl (by kernel_rfl) (by rfl) hQ7 hHeld ?_ ?_
              rotate_left
              · intro w7 hSw; (try dsimp only at hSw); go_simp; all_goals with_reducible rfl
              try simp only [Act.put, List.setIfInBounds_toArray, List.set_cons_zero, List.set_cons_succ]
              refine rg_take (i := 4) (some 37) (v := ?_) rfl rfl (by kernel_rfl) (by rfl) hQ7 hHeld ?_ ?_
              rotate_left
              · intro w7 hSw; (try dsimp only at hSw); go_simp; all_goals with_reducible rfl
              try simp only [Act.put, List.setIfInBounds_toArray, List.set_cons_zero, List.set_cons_succ]
              refine rg_take (i := 5) (some 38) (v := ?_) rfl rfl (by kernel_rfl) (by rfl) hQ7 hHeld ?_ ?_
              rotate_left
              · intro w7 hSw; (try dsimp only at hSw); go_simp; all_goals with_reducible rfl
              try simp only [Act.put, List.setIfInBounds_toArray, List.set_cons_zero, List.set_cons_succ]
              refine rg_take (i := 6) (some 39) (v := ?_) rfl rfl (by kernel_rfl) (by rfl) hQ7 hHeld ?_ ?_
              rotate_left
              · intro w7 hSw; (try dsimp only at hSw); go_simp; all_goals with_reducible rfl
              try simp only [Act.put, List.setIfInBounds_toArray, List.set_cons_zero, List.set_cons_succ]
              refine rg_skip (i := 7) (some 40) rfl rfl (by kernel_rfl) (by rfl) hQ7 hHeld ?_
              try simp only [Act.put, List.setIfInBounds_toArray, List.set_cons_zero, List.set_cons_succ]
              refine rg_skip (i := 8) (some 41) rfl rfl (by kernel_rfl) (by rfl) hQ7 hHeld ?_
              try simp only [Act.put, List.setIfInBounds_toArray, List.set_cons_zero, List.set_cons_succ]
              refine rg_skip (i := 9) (some 42) rfl rfl (by kernel_rfl) (by rfl) hQ7 hHeld ?_
              try simp only [Act.put, List.setIfInBounds_toArray, List.set_cons_zero, List.set_cons_succ]
              refine rg_skip (i := 10) (some 43) rfl rfl (by kernel_rfl) (by rfl) hQ7 hHeld ?_
              try simp only [Act.put, List.setIfInBounds_toArray, List.set_cons_zero, List.set_cons_succ]
              refine rg_skip (i := 11) (some 44) rfl rfl (by kernel_rfl) (by rfl) hQ7 hHeld ?_
              try simp only [Act.put, List.setIfInBounds_toArray, List.set_cons_zero, List.set_cons_succ]
              refine rg_skip (i := 12) (some 45) rfl rfl (by kernel_rfl) (by rfl) hQ7 hHeld ?_
              try simp only [Act.put, List.setIfInBounds_toArray, List.set_cons_zero, List.set_cons_succ]
              refine rg_take (i := 13) (some 46) (v := ?_) rfl rfl (by kernel_rfl) (by rfl) hQ7 hHeld ?_ ?_
              rotate_left
              · intro w7 hSw; (try dsimp only at hSw); go_simp; all_goals with_reducible rfl
              try simp only [Act.put, List.setIfInBounds_toArray, List.set_cons_zero, List.set_cons_succ]
              refine rg_take (i := 14) (some 47) (v := ?_) rfl rfl (by kernel_rfl) (by rfl) hQ7 hHeld ?_ ?_
              rotate_left
              · intro w7 hSw; (try dsimp only at hSw); go_simp; all_goals with_reducible rfl
              try simp only [Act.put, List.setIfInBounds_toArray, List.set_cons_zero, List.set_cons_succ]
              refine rg_skip (i := 15) (some 48) rfl rfl (by kernel_rfl) (by rfl) hQ7 hHeld ?_
              try simp only [Act.put, List.setIfInBounds_toArray, List.set_cons_zero, List.set_cons_succ]
              refine rg_skip (i := 16) (some 49) rfl rfl (by kernel_rfl) (by rfl) hQ7 hHeld ?_
              try simp only [Act.put, List.setIfInBounds_toArray, List.set_cons_zero, List.set_cons_succ]
              refine rg_skip (i := 17) (some 50) rfl rfl (by kernel_rfl) (by rfl) hQ7 hHeld ?_
              try simp only [Act.put, List.setIfInBounds_toArray, List.set_cons_zero, List.set_cons_succ]
              refine rg_skip (i := 18) (some 51) rfl rfl (by kernel_rfl) (by rfl) hQ7 hHeld ?_
              try simp only [Act.put, List.setIfInBounds_toArray, List.set_cons_zero, List.set_cons_succ]
              refine rg_skip (i := 19) (some 52) rfl rfl (by kernel_rfl) (by rfl) hQ7 hHeld ?_
              try simp only [Act.put, List.setIfInBounds_toArray, List.set_cons_zero, List.set_cons_succ]
              refine rg_skip (i := 20) (some 53) rfl rfl (by kernel_rfl) (by rfl) hQ7 hHeld ?_
              try simp only [Act.put, List.setIfInBounds_toArray, List.set_cons_zero, List.set_cons_succ]
              refine rg_skip (i := 21) (some 54) rfl rfl (by kernel_rfl) (by rfl) hQ7 hHeld ?_
              try simp only [Act.put, List.setIfInBounds_toArray, List.set_cons_zero, List.set_cons_succ]
              refine rg_skip (i := 22) (some 55) rfl rfl (by kernel_rfl) (by rfl) hQ7 hHeld ?_
              try simp only [Act.put, List.setIfInBounds_toArray, List.set_cons_zero, List.set_cons_succ]
              refine rg_skip (i := 23) (some 56) rfl rfl (by kernel_rfl) (by rfl) hQ7 hHeld ?_
              try simp only [Act.put, List.setIfInBounds_toArray, List.set_cons_zero, List.set_cons_succ]
              refine rg_skip (i := 24) (some 57) rfl rfl (by kernel_rfl) (by rfl) hQ7 hHeld ?_
              try simp only [Act.put, List.setIfInBounds_toArray, List.set_cons_zero, List.set_cons_succ]
              refine rg_skip (i := 25) (some 58) rfl rfl (by kernel_rfl) (by rfl) hQ7 hHeld ?_
              try simp only [Act.put, List.setIfInBounds_toArray, List.set_cons_zero, List.set_cons_succ]
              refine rg_take (i := 26) (some 59) (v := ?_) rfl rfl (by kernel_rfl) (by rfl) hQ7 hHeld ?_ ?_
              rotate_left
              · intro w7 hSw; (try dsimp only at hSw); go_simp; all_goals with_reducible rfl
              try simp only [Act.put, List.setIfInBounds_toArray, List.set_cons_zero, List.set_cons_succ]
              refine rg_take (i := 27) (some 60) (v := ?_) rfl rfl (by kernel_rfl) (by rfl) hQ7 hHeld ?_ ?_
              rotate_left
              · intro w7 hSw; (try dsimp only at hSw); go_simp; all_goals with_reducible rfl
              try simp only [Act.put, List.setIfInBounds_toArray, List.set_cons_zero, List.set_cons_succ]
              refine rg_skip (i := 28) (some 61) rfl rfl (by kernel_rfl) (by rfl) hQ7 hHeld ?_
              try simp only [Act.put, List.setIfInBounds_toArray, List.set_cons_zero, List.set_cons_succ]
              refine rg_skip (i := 29) (some 62) rfl rfl (by kernel_rfl) (by rfl) hQ7 hHeld ?_
              try simp only [Act.put, List.setIfInBounds_toArray, List.set_cons_zero, List.set_cons_succ]
              refine rg_skip (i := 30) (some 63) rfl rfl (by kernel_rfl) (by rfl) hQ7 hHeld ?_
              try simp only [Act.put, List.setIfInBounds_toArray, List.set_cons_zero, List.set_cons_succ]
              refine rg_skip (i := 31) (some 64) rfl rfl (by kernel_rfl) (by rfl) hQ7 hHeld ?_
              try simp only [Act.put, List.setIfInBounds_toArray, List.set_cons_zero, List.set_cons_succ]
              refine rg_skip (i := 32) (some 65) rfl rfl (by kernel_rfl) (by rfl) hQ7 hHeld ?_
              try simp only [Act.put, List.setIfInBounds_toArray, List.set_cons_zero, List.set_cons_succ]
              refine rg_skip (i := 33) (some 66) rfl rfl (by kernel_rfl) (by rfl) hQ7 hHeld ?_
              try simp only [Act.put, List.setIfInBounds_toArray, List.set_cons_zero, List.set_cons_succ]
              refine rg_skip (i := 34) (some 67) rfl rfl (by kernel_rfl) (by rfl) hQ7 hHeld ?_
              try simp only [Act.put, List.setIfInBounds_toArray, List.set_cons_zero, List.set_cons_succ]
              refine rg_skip (i := 35) (some 68) rfl rfl (by kernel_rfl) (by rfl) hQ7 hHeld ?_
              try simp only [Act.put, List.setIfInBounds_toArray, List.set_cons_zero, List.set_cons_succ]
              refine rg_skip (i := 36) (some 69) rfl rfl (by kernel_rfl) (by rfl) hQ7 hHeld ?_
              try simp only [Act.put, List.setIfInBounds_toArray, List.set_cons_zero, List.set_cons_succ]
              refine rg_skip (i := 37) (some 70) rfl rfl (by kernel_rfl) (by rfl) hQ7 hHeld ?_
              try simp only [Act.put, List.setIfInBounds_toArray, List.set_cons_zero, List.set_cons_succ]
              refine rg_skip (i := 38) (some 71) rfl rfl (by kernel_rfl) (by rfl) hQ7 hHeld ?_
              try simp only [Act.put, List.setIfInBounds_toArray, List.set_cons_zero, List.set_cons_succ]
              refine rg_take (i := 39) (some 72) (v := ?_) rfl rfl (by kernel_rfl) (by rfl) hQ7 hHeld ?_ ?_
              rotate_left
              · intro w7 hSw; (try dsimp only at hSw); go_simp; all_goals with_reducible rfl
              try simp only [Act.put, List.setIfInBounds_toArray, List.set_cons_zero, List.set_cons_succ]
              refine rg_end (by kernel_rfl) (hN7 _ _ ?_) _
              clear hQ7 hN7 Q7
              have BX := hHeld.1
              clear SS
              have HON := Lib.hid (show Own _ wo.heap.size 40 Sp.cells 2 (.slice A6 (dayOf (l.take m) x).length c6) (dayOf (l.take (m + 1)) x) from by rw [HSt2.out]; simpa using HOu1.out.ext BX)
              have FN := Lib.hid (ext_trans Fu1.out BX)
              clear BX
              go_wp2_with fail
              first
                | exact ⟨⟨m + 1, hmt, by go_num, HNQ.out, HON.out, FN.out⟩, by simp [intOf]; omega⟩
                | (go_roundw
                   case rel => exact ⟨m + 1, hmt, by go_num, HNQ.out, HON.out, FN.out⟩
                   case measure => simp [intOf]; omega)
            by_cases g1 : y.k = 1
            rotate_left
            · have e0 : (x.k == 1) = true := by simp [g0]
              have e1 : (y.k == 1) = false := by simp [g1]
              have hsg : sameG x y = false := by
                rw [Bool.eq_false_iff]
                intro h
                simp only [sameG, Bool.and_eq_true, decide_eq_true_eq] at h
                exact g1 (by omega)
              have HSt2 := Lib.hid HSt.out
              rw [hsg] at HSt2
              clear HSt hsg g0 g1
              have SS := Lib.hid (show ∀ w', Below u1.heap.size u1 w' → (fun w' => Below u1.heap.size u1 w' ∧ w'.cell? ⟨b1, o1 + k * 8, none⟩ = some (.int .i64 x.k) ∧ w'.cell? ⟨b1, o1 + k * 8 + 1, none⟩ = some (.string x.sc) ∧ w'.cell? ⟨b1, o1 + k * 8 + 2, none⟩ = some (.string x.sa) ∧ w'.cell? ⟨b1, o1 + k * 8 + 3, none⟩ = some (.int .i64 x.cl) ∧ w'.cell? ⟨b1, o1 + k * 8 + 4, none⟩ = some (.int .i64 x.ap) ∧ w'.cell? ⟨b1, o1 + k * 8 + 5, none⟩ = some (.int .i64 x.n) ∧ w'.cell? ⟨b1, o1 + k * 8 + 6, none⟩ = some (.int .i64 x.f) ∧ w'.cell? ⟨b1, o1 + k * 8 + 7, none⟩ = some (.int .i64 x.t) ∧ w'.cell? ⟨b1, o1 + m * 8, none⟩ = some (.int .i64 y.k) ∧ w'.cell? ⟨b1, o1 + m * 8 + 1, none⟩ = some (.string y.sc) ∧ w'.cell? ⟨b1, o1 + m * 8 + 2, none⟩ = some (.string y.sa) ∧ w'.cell? ⟨b1, o1 + m * 8 + 3, none⟩ = some (.int .i64 y.cl) ∧ w'.cell? ⟨b1, o1 + m * 8 + 4, none⟩ = some (.int .i64 y.ap) ∧ w'.cell? ⟨b1, o1 + m * 8 + 5, none⟩ = some (.int .i64 y.n) ∧ w'.cell? ⟨b1, o1 + m * 8 + 6, none⟩ = some (.int .i64 y.f) ∧ w'.cell? ⟨b1, o1 + m * 8 + 7, none⟩ = some (.int .i64 y.t)) w' from fun w' h => ⟨h, ((h : Below _ _ _).cell (p := ⟨b1, o1 + k * 8, none⟩) hxu1).trans (DXu1.out 0 _ rfl), ((h : Below _ _ _).cell (p := ⟨b1, o1 + k * 8 + 1, none⟩) hxu1).trans (DXu1.out 1 _ rfl), ((h : Below _ _ _).cell (p := ⟨b1, o1 + k * 8 + 2, none⟩) hxu1).trans (DXu1.out 2 _ rfl), ((h : Below _ _ _).cell (p := ⟨b1, o1 + k * 8 + 3, none⟩) hxu1).trans (DXu1.out 3 _ rfl), ((h : Below _ _ _).cell (p := ⟨b1, o1 + k * 8 + 4, none⟩) hxu1).trans (DXu1.out 4 _ rfl), ((h : Below _ _ _).cell (p := ⟨b1, o1 + k * 8 + 5, none⟩) hxu1).trans (DXu1.out 5 _ rfl), ((h : Below _ _ _).cell (p := ⟨b1, o1 + k * 8 + 6, none⟩) hxu1).trans (DXu1.out 6 _ rfl), ((h : Below _ _ _).cell (p := ⟨b1, o1 + k * 8 + 7, none⟩) hxu1).trans (DXu1.out 7 _ rfl), ((h : Below _ _ _).cell (p := ⟨b1, o1 + m * 8, none⟩) hxu1).trans (DYu1.out 0 _ rfl), ((h : Below _ _ _).cell (p := ⟨b1, o1 + m * 8 + 1, none⟩) hxu1).trans (DYu1.out 1 _ rfl), ((h : Below _ _ _).cell (p := ⟨b1, o1 + m * 8 + 2, none⟩) hxu1).trans (DYu1.out 2 _ rfl), ((h : Below _ _ _).cell (p := ⟨b1, o1 + m * 8 + 3, none⟩) hxu1).trans (DYu1.out 3 _ rfl), ((h : Below _ _ _).cell (p := ⟨b1, o1 + m * 8 + 4, none⟩) hxu1).trans (DYu1.out 4 _ rfl), ((h : Below _ _ _).cell (p := ⟨b1, o1 + m * 8 + 5, none⟩) hxu1).trans (DYu1.out 5 _ rfl), ((h : Below _ _ _).cell (p := ⟨b1, o1 + m * 8 + 6, none⟩) hxu1).trans (DYu1.out 6 _ rfl), ((h : Below _ _ _).cell (p := ⟨b1, o1 + m * 8 + 7, none⟩) hxu1).trans (DYu1.out 7 _ rfl)⟩)
              refine rg_begin (S := (fun w' => Below u1.heap.size u1 w' ∧ w'.cell? ⟨b1, o1 + k * 8, none⟩ = some (.int .i64 x.k) ∧ w'.cell? ⟨b1, o1 + k * 8 + 1, none⟩ = some (.string x.sc) ∧ w'.cell? ⟨b1, o1 + k * 8 + 2, none⟩ = some (.string x.sa) ∧ w'.cell? ⟨b1, o1 + k * 8 + 3, none⟩ = some (.int .i64 x.cl) ∧ w'.cell? ⟨b1, o1 + k * 8 + 4, none⟩ = some (.int .i64 x.ap) ∧ w'.cell? ⟨b1, o1 + k * 8 + 5, none⟩ = some (.int .i64 x.n) ∧ w'.cell? ⟨b1, o1 + k * 8 + 6, none⟩ = some (.int .i64 x.f) ∧ w'.cell? ⟨b1, o1 + k * 8 + 7, none⟩ = some (.int .i64 x.t) ∧ w'.cell? ⟨b1, o1 + m * 8, none⟩ = some (.int .i64 y.k) ∧ w'.cell? ⟨b1, o1 + m * 8 + 1, none⟩ = some (.string y.sc) ∧ w'.cell? ⟨b1, o1 + m * 8 + 2, none⟩ = some (.string y.sa) ∧ w'.cell? ⟨b1, o1 + m * 8 + 3, none⟩ = some (.int .i64 y.cl) ∧ w'.cell? ⟨b1, o1 + m * 8 + 4, none⟩ = some (.int .i64 y.ap) ∧ w'.cell? ⟨b1, o1 + m * 8 + 5, none⟩ = some (.int .i64 y.n) ∧ w'.cell? ⟨b1, o1 + m * 8 + 6, none⟩ = some (.int .i64 y.f) ∧ w'.cell? ⟨b1, o1 + m * 8 + 7, none⟩ = some (.int .i64 y.t))) 40 (by kernel_rfl) (by intro d; cases d <;> intro _ _ _ _ h <;> exact h) ?_ (fun Q7 hQ7 hN7 hHeld => ?_)
              · exact SS.out _ (ext_drew (ext_refl _))
              refine rg_take (i := 0) (some 33) (v := ?_) rfl rfl (by kernel_rfl) (by rfl) hQ7 hHeld ?_ ?_
              rotate_left
              · intro w7 hSw; (try dsimp only at hSw); go_simp; all_goals with_reducible rfl
              try simp only [Act.put, List.setIfInBounds_toArray, List.set_cons_zero, List.set_cons_succ]
              refine rg_take (i := 1) (some 34) (v := ?_) rfl rfl (by kernel_rfl) (by rfl) hQ7 hHeld ?_ ?_
              rotate_left
              · intro w7 hSw; (try dsimp only at hSw); go_simp; all_goals with_reducible rfl
              try simp only [Act.put, List.setIfInBounds_toArray, List.set_cons_zero, List.set_cons_succ]
              refine rg_take (i := 2) (some 35) (v := ?_) rfl rfl (by kernel_rfl) (by rfl) hQ7 hHeld ?_ ?_
              rotate_left
              · intro w7 hSw; (try dsimp only at hSw); go_simp; all_goals with_reducible rfl
              try simp only [Act.put, List.setIfInBounds_toArray, List.set_cons_zero, List.set_cons_succ]
              refine rg_take (i := 3) (some 36) (v := ?_) rfl rfl (by kernel_rfl) (by rfl) hQ7 hHeld ?_ ?_
              rotate_left
              · intro w7 hSw; (try dsimp only at hSw); go_simp; all_goals with_reducible rfl
              try simp only [Act.put, List.setIfInBounds_toArray, List.set_cons_zero, List.set_cons_succ]
              refine rg_take (i := 4) (some 37) (v := ?_) rfl rfl (by kernel_rfl) (by rfl) hQ7 hHeld ?_ ?_
              rotate_left
              · intro w7 hSw; (try dsimp only at hSw); go_simp; all_goals with_reducible rfl
              try simp only [Act.put, List.setIfInBounds_toArray, List.set_cons_zero, List.set_cons_succ]
              refine rg_take (i := 5) (some 38) (v := ?_) rfl rfl (by kernel_rfl) (by rfl) hQ7 hHeld ?_ ?_
              rotate_left
              · intro w7 hSw; (try dsimp only at hSw); go_simp; all_goals with_reducible rfl
              try simp only [Act.put, List.setIfInBounds_toArray, List.set_cons_zero, List.set_cons_succ]
              refine rg_take (i := 6) (some 39) (v := ?_) rfl rfl (by kernel_rfl) (by rfl) hQ7 hHeld ?_ ?_
              rotate_left
              · intro w7 hSw; (try dsimp only at hSw); go_simp; all_goals with_reducible rfl
              try simp only [Act.put, List.setIfInBounds_toArray, List.set_cons_zero, List.set_cons_succ]
              refine rg_take (i := 7) (some 40) (v := ?_) rfl rfl (by kernel_rfl) (by rfl) hQ7 hHeld ?_ ?_
              rotate_left
              · intro w7 hSw; (try dsimp only at hSw); go_simp; all_goals with_reducible rfl
              try simp only [Act.put, List.setIfInBounds_toArray, List.set_cons_zero, List.set_cons_succ]
              refine rg_take (i := 8) (some 41) (v := ?_) rfl rfl (by kernel_rfl) (by rfl) hQ7 hHeld ?_ ?_
              rotate_left
              · intro w7 hSw; (try dsimp only at hSw); go_simp; all_goals with_reducible rfl
              try simp only [Act.put, List.setIfInBounds_toArray, List.set_cons_zero, List.set_cons_succ]
              refine rg_take (i := 9) (some 42) (v := ?_) rfl rfl (by kernel_rfl) (by rfl) hQ7 hHeld ?_ ?_
              rotate_left
              · intro w7 hSw; (try dsimp only at hSw); go_simp; all_goals with_reducible rfl
              try simp only [Act.put, List.setIfInBounds_toArray, List.set_cons_zero, List.set_cons_succ]
              refine rg_take (i := 10) (some 43) (v := ?_) rfl rfl (by kernel_rfl) (by rfl) hQ7 hHeld ?_ ?_
              rotate_left
              · intro w7 hSw; (try dsimp only at hSw); go_simp; all_goals with_reducible rfl
              try simp only [Act.put, List.setIfInBounds_toArray, List.set_cons_zero, List.set_cons_succ]
              refine rg_take (i := 11) (some 44) (v := ?_) rfl rfl (by kernel_rfl) (by rfl) hQ7 hHeld ?_ ?_
              rotate_left
              · intro w7 hSw; (try dsimp only at hSw); go_simp; all_goals with_reducible rfl
              try simp only [Act.put, List.setIfInBounds_toArray, List.set_cons_zero, List.set_cons_succ]
              refine rg_take (i := 12) (some 45) (v := ?_) rfl rfl (by kernel_rfl) (by rfl) hQ7 hHeld ?_ ?_
              rotate_left
              · intro w7 hSw; (try dsimp only at hSw); go_simp; all_goals with_reducible rfl
              try simp only [Act.put, List.setIfInBounds_toArray, List.set_cons_zero, List.set_cons_succ]
              refine rg_take (i := 13) (some 46) (v := ?_) rfl rfl (by kernel_rfl) (by rfl) hQ7 hHeld ?_ ?_
              rotate_left
              · intro w7 hSw; (try dsimp only at hSw); go_simp; all_goals with_reducible rfl
              try simp only [Act.put, List.setIfInBounds_toArray, List.set_cons_zero, List.set_cons_succ]
              refine rg_take (i := 14) (some 47) (v := ?_) rfl rfl (by kernel_rfl) (by rfl) hQ7 hHeld ?_ ?_
              rotate_left
              · intro w7 hSw; (try dsimp only at hSw); go_simp; all_goals with_reducible rfl
              try simp only [Act.put, List.setIfInBounds_toArray, List.set_cons_zero, List.set_cons_succ]
              refine rg_skip (i := 15) (some 48) rfl rfl (by kernel_rfl) (by rfl) hQ7 hHeld ?_
              try simp only [Act.put, List.setIfInBounds_toArray, List.set_cons_zero, List.set_cons_succ]
              refine rg_skip (i := 16) (some 49) rfl rfl (by kernel_rfl) (by rfl) hQ7 hHeld ?_
              try simp only [Act.put, List.setIfInBounds_toArray, List.set_cons_zero, List.set_cons_succ]
              refine rg_skip (i := 17) (some 50) rfl rfl (by kernel_rfl) (by rfl) hQ7 hHeld ?_
              try simp only [Act.put, List.setIfInBounds_toArray, List.set_cons_zero, List.set_cons_succ]
              refine rg_skip (i := 18) (some 51) rfl rfl (by kernel_rfl) (by rfl) hQ7 hHeld ?_
              try simp only [Act.put, List.setIfInBounds_toArray, List.set_cons_zero, List.set_cons_succ]
              refine rg_skip (i := 19) (some 52) rfl rfl (by kernel_rfl) (by rfl) hQ7 hHeld ?_
              try simp only [Act.put, List.setIfInBounds_toArray, List.set_cons_zero, List.set_cons_succ]
              refine rg_skip (i := 20) (some 53) rfl rfl (by kernel_rfl) (by rfl) hQ7 hHeld ?_
              try simp only [Act.put, List.setIfInBounds_toArray, List.set_cons_zero, List.set_cons_succ]
              refine rg_skip (i := 21) (some 54) rfl rfl (by kernel_rfl) (by rfl) hQ7 hHeld ?_
              try simp only [Act.put, List.setIfInBounds_toArray, List.set_cons_zero, List.set_cons_succ]
              refine rg_skip (i := 22) (some 55) rfl rfl (by kernel_rfl) (by rfl) hQ7 hHeld ?_
              try simp only [Act.put, List.setIfInBounds_toArray, List.set_cons_zero, List.set_cons_succ]
              refine rg_skip (i := 23) (some 56) rfl rfl (by kernel_rfl) (by rfl) hQ7 hHeld ?_
              try simp only [Act.put, List.setIfInBounds_toArray, List.set_cons_zero, List.set_cons_succ]
              refine rg_skip (i := 24) (some 57) rfl rfl (by kernel_rfl) (by rfl) hQ7 hHeld ?_
              try simp only [Act.put, List.setIfInBounds_toArray, List.set_cons_zero, List.set_cons_succ]
              refine rg_skip (i := 25) (some 58) rfl rfl (by kernel_rfl) (by rfl) hQ7 hHeld ?_
              try simp only [Act.put, List.setIfInBounds_toArray, List.set_cons_zero, List.set_cons_succ]
              refine rg_take (i := 26) (some 59) (v := ?_) rfl rfl (by kernel_rfl) (by rfl) hQ7 hHeld ?_ ?_
              rotate_left
              · intro w7 hSw; (try dsimp only at hSw); go_simp; all_goals with_reducible rfl
              try simp only [Act.put, List.setIfInBounds_toArray, List.set_cons_zero, List.set_cons_succ]
              refine rg_take (i := 27) (some 60) (v := ?_) rfl rfl (by kernel_rfl) (by rfl) hQ7 hHeld ?_ ?_
              rotate_left
              · intro w7 hSw; (try dsimp only at hSw); go_simp; all_goals with_reducible rfl
              try simp only [Act.put, List.setIfInBounds_toArray, List.set_cons_zero, List.set_cons_succ]
              refine rg_skip (i := 28) (some 61) rfl rfl (by kernel_rfl) (by rfl) hQ7 hHeld ?_
              try simp only [Act.put, List.setIfInBounds_toArray, List.set_cons_zero, List.set_cons_succ]
              refine rg_skip (i := 29) (some 62) rfl rfl (by kernel_rfl) (by rfl) hQ7 hHeld ?_
              try simp only [Act.put, List.setIfInBounds_toArray, List.set_cons_zero, List.set_cons_succ]
              refine rg_skip (i := 30) (some 63) rfl rfl (by kernel_rfl) (by rfl) hQ7 hHeld ?_
              try simp only [Act.put, List.setIfInBounds_toArray, List.set_cons_zero, List.set_cons_succ]
              refine rg_skip (i := 31) (some 64) rfl rfl (by kernel_rfl) (by rfl) hQ7 hHeld ?_
              try simp only [Act.put, List.setIfInBounds_toArray, List.set_cons_zero, List.set_cons_succ]
              refine rg_skip (i := 32) (some 65) rfl rfl (by kernel_rfl) (by rfl) hQ7 hHeld ?_
              try simp only [Act.put, List.setIfInBounds_toArray, List.set_cons_zero, List.set_cons_succ]
              refine rg_skip (i := 33) (some 66) rfl rfl (by kernel_rfl) (by rfl) hQ7 hHeld ?_
              try simp only [Act.put, List.setIfInBounds_toArray, List.set_cons_zero, List.set_cons_succ]
              refine rg_skip (i := 34) (some 67) rfl rfl (by kernel_rfl) (by rfl) hQ7 hHeld ?_
              try simp only [Act.put, List.setIfInBounds_toArray, List.set_cons_zero, List.set_cons_succ]
              refine rg_skip (i := 35) (some 68) rfl rfl (by kernel_rfl) (by rfl) hQ7 hHeld ?_
              try simp only [Act.put, List.setIfInBounds_toArray, List.set_cons_zero, List.set_cons_succ]
              refine rg_skip (i := 36) (some 69) rfl rfl (by kernel_rfl) (by rfl) hQ7 hHeld ?_
              try simp only [Act.put, List.setIfInBounds_toArray, List.set_cons_zero, List.set_cons_succ]
              refine rg_skip (i := 37) (some 70) rfl rfl (by kernel_rfl) (by rfl) hQ7 hHeld ?_
              try simp only [Act.put, List.setIfInBounds_toArray, List.set_cons_zero, List.set_cons_succ]
              refine rg_skip (i := 38) (some 71) rfl rfl (by kernel_rfl) (by rfl) hQ7 hHeld ?_
              try simp only [Act.put, List.setIfInBounds_toArray, List.set_cons_zero, List.set_cons_succ]
              refine rg_take (i := 39) (some 72) (v := ?_) rfl rfl (by kernel_rfl) (by rfl) hQ7 hHeld ?_ ?_
              rotate_left
              · intro w7 hSw; (try dsimp only at hSw); go_simp; all_goals with_reducible rfl
              try simp only [Act.put, List.setIfInBounds_toArray, List.set_cons_zero, List.set_cons_succ]
              refine rg_end (by kernel_rfl) (hN7 _ _ ?_) _
              clear hQ7 hN7 Q7
              have BX := hHeld.1
              clear SS
              have HON := Lib.hid (show Own _ wo.heap.size 40 Sp.cells 2 (.slice A6 (dayOf (l.take m) x).length c6) (dayOf (l.take (m + 1)) x) from by rw [HSt2.out]; simpa using HOu1.out.ext BX)
              have FN := Lib.hid (ext_trans Fu1.out BX)
              clear BX
              go_wp2_with fail
              first
                | exact ⟨⟨m + 1, hmt, by go_num, HNQ.out, HON.out, FN.out⟩, by simp [intOf]; omega⟩
                | (go_roundw
                   case rel => exact ⟨m + 1, hmt, by go_num, HNQ.out, HON.out, FN.out⟩
                   case measure => simp [intOf]; omega)
            by_cases g2 : y.cl = x.cl
            rotate_left
            · have e0 : (x.k == 1) = true := by simp [g0]
              have e1 : (y.k == 1) = true := by simp [g1]
              have e2 : (y.cl == x.cl) = false := by simp [g2]
              have hsg : sameG x y = false := by
                rw [Bool.eq_false_iff]
                intro h
                simp only [sameG, Bool.and_eq_true, decide_eq_true_eq] at h
                exact g2 (by omega)
              have HSt2 := Lib.hid HSt.out
              rw [hsg] at HSt2
              clear HSt hsg g0 g1 g2
              have SS := Lib.hid (show ∀ w', Below u1.heap.size u1 w' → (fun w' => Below u1.heap.size u1 w' ∧ w'.cell? ⟨b1, o1 + k * 8, none⟩ = some (.int .i64 x.k) ∧ w'.cell? ⟨b1, o1 + k * 8 + 1, none⟩ = some (.string x.sc) ∧ w'.cell? ⟨b1, o1 + k * 8 + 2, none⟩ = some (.string x.sa) ∧ w'.cell? ⟨b1, o1 + k * 8 + 3, none⟩ = some (.int .i64 x.cl) ∧ w'.cell? ⟨b1, o1 + k * 8 + 4, none⟩ = some (.int .i64 x.ap) ∧ w'.cell? ⟨b1, o1 + k * 8 + 5, none⟩ = some (.int .i64 x.n) ∧ w'.cell? ⟨b1, o1 + k * 8 + 6, none⟩ = some (.int .i64 x.f) ∧ w'.cell? ⟨b1, o1 + k * 8 + 7, none⟩ = some (.int .i64 x.t) ∧ w'.cell? ⟨b1, o1 + m * 8, none⟩ = some (.int .i64 y.k) ∧ w'.cell? ⟨b1, o1 + m * 8 + 1, none⟩ = some (.string y.sc) ∧ w'.cell? ⟨b1, o1 + m * 8 + 2, none⟩ = some (.string y.sa) ∧ w'.cell? ⟨b1, o1 + m * 8 + 3, none⟩ = some (.int .i64 y.cl) ∧ w'.cell? ⟨b1, o1 + m * 8 + 4, none⟩ = some (.int .i64 y.ap) ∧ w'.cell? ⟨b1, o1 + m * 8 + 5, none⟩ = some (.int .i64 y.n) ∧ w'.cell? ⟨b1, o1 + m * 8 + 6, none⟩ = some (.int .i64 y.f) ∧ w'.cell? ⟨b1, o1 + m * 8 + 7, none⟩ = some (.int .i64 y.t)) w' from fun w' h => ⟨h, ((h : Below _ _ _).cell (p := ⟨b1, o1 + k * 8, none⟩) hxu1).trans (DXu1.out 0 _ rfl), ((h : Below _ _ _).cell (p := ⟨b1, o1 + k * 8 + 1, none⟩) hxu1).trans (DXu1.out 1 _ rfl), ((h : Below _ _ _).cell (p := ⟨b1, o1 + k * 8 + 2, none⟩) hxu1).trans (DXu1.out 2 _ rfl), ((h : Below _ _ _).cell (p := ⟨b1, o1 + k * 8 + 3, none⟩) hxu1).trans (DXu1.out 3 _ rfl), ((h : Below _ _ _).cell (p := ⟨b1, o1 + k * 8 + 4, none⟩) hxu1).trans (DXu1.out 4 _ rfl), ((h : Below _ _ _).cell (p := ⟨b1, o1 + k * 8 + 5, none⟩) hxu1).trans (DXu1.out 5 _ rfl), ((h : Below _ _ _).cell (p := ⟨b1, o1 + k * 8 + 6, none⟩) hxu1).trans (DXu1.out 6 _ rfl), ((h : Below _ _ _).cell (p := ⟨b1, o1 + k * 8 + 7, none⟩) hxu1).trans (DXu1.out 7 _ rfl), ((h : Below _ _ _).cell (p := ⟨b1, o1 + m * 8, none⟩) hxu1).trans (DYu1.out 0 _ rfl), ((h : Below _ _ _).cell (p := ⟨b1, o1 + m * 8 + 1, none⟩) hxu1).trans (DYu1.out 1 _ rfl), ((h : Below _ _ _).cell (p := ⟨b1, o1 + m * 8 + 2, none⟩) hxu1).trans (DYu1.out 2 _ rfl), ((h : Below _ _ _).cell (p := ⟨b1, o1 + m * 8 + 3, none⟩) hxu1).trans (DYu1.out 3 _ rfl), ((h : Below _ _ _).cell (p := ⟨b1, o1 + m * 8 + 4, none⟩) hxu1).trans (DYu1.out 4 _ rfl), ((h : Below _ _ _).cell (p := ⟨b1, o1 + m * 8 + 5, none⟩) hxu1).trans (DYu1.out 5 _ rfl), ((h : Below _ _ _).cell (p := ⟨b1, o1 + m * 8 + 6, none⟩) hxu1).trans (DYu1.out 6 _ rfl), ((h : Below _ _ _).cell (p := ⟨b1, o1 + m * 8 + 7, none⟩) hxu1).trans (DYu1.out 7 _ rfl)⟩)
              refine rg_begin (S := (fun w' => Below u1.heap.size u1 w' ∧ w'.cell? ⟨b1, o1 + k * 8, none⟩ = some (.int .i64 x.k) ∧ w'.cell? ⟨b1, o1 + k * 8 + 1, none⟩ = some (.string x.sc) ∧ w'.cell? ⟨b1, o1 + k * 8 + 2, none⟩ = some (.string x.sa) ∧ w'.cell? ⟨b1, o1 + k * 8 + 3, none⟩ = some (.int .i64 x.cl) ∧ w'.cell? ⟨b1, o1 + k * 8 + 4, none⟩ = some (.int .i64 x.ap) ∧ w'.cell? ⟨b1, o1 + k * 8 + 5, none⟩ = some (.int .i64 x.n) ∧ w'.cell? ⟨b1, o1 + k * 8 + 6, none⟩ = some (.int .i64 x.f) ∧ w'.cell? ⟨b1, o1 + k * 8 + 7, none⟩ = some (.int .i64 x.t) ∧ w'.cell? ⟨b1, o1 + m * 8, none⟩ = some (.int .i64 y.k) ∧ w'.cell? ⟨b1, o1 + m * 8 + 1, none⟩ = some (.string y.sc) ∧ w'.cell? ⟨b1, o1 + m * 8 + 2, none⟩ = some (.string y.sa) ∧ w'.cell? ⟨b1, o1 + m * 8 + 3, none⟩ = some (.int .i64 y.cl) ∧ w'.cell? ⟨b1, o1 + m * 8 + 4, none⟩ = some (.int .i64 y.ap) ∧ w'.cell? ⟨b1, o1 + m * 8 + 5, none⟩ = some (.int .i64 y.n) ∧ w'.cell? ⟨b1, o1 + m * 8 + 6, none⟩ = some (.int .i64 y.f) ∧ w'.cell? ⟨b1, o1 + m * 8 + 7, none⟩ = some (.int .i64 y.t))) 40 (by kernel_rfl) (by intro d; cases d <;> intro _ _ _ _ h <;> exact h) ?_ (fun Q7 hQ7 hN7 hHeld => ?_)
              · exact SS.out _ (ext_drew (ext_refl _))
              refine rg_take (i := 0) (some 33) (v := ?_) rfl rfl (by kernel_rfl) (by rfl) hQ7 hHeld ?_ ?_
              rotate_left
              · intro w7 hSw; (try dsimp only at hSw); go_simp; all_goals with_reducible rfl
              try simp only [Act.put, List.setIfInBounds_toArray, List.set_cons_zero, List.set_cons_succ]
              refine rg_take (i := 1) (some 34) (v := ?_) rfl rfl (by kernel_rfl) (by rfl) hQ7 hHeld ?_ ?_
              rotate_left
              · intro w7 hSw; (try dsimp only at hSw); go_simp; all_goals with_reducible rfl
              try simp only [Act.put, List.setIfInBounds_toArray, List.set_cons_zero, List.set_cons_succ]
              refine rg_take (i := 2) (some 35) (v := ?_) rfl rfl (by kernel_rfl) (by rfl) hQ7 hHeld ?_ ?_
              rotate_left
              · intro w7 hSw; (try dsimp only at hSw); go_simp; all_goals with_reducible rfl
              try simp only [Act.put, List.setIfInBounds_toArray, List.set_cons_zero, List.set_cons_succ]
              refine rg_take (i := 3) (some 36) (v := ?_) rfl rfl (by kernel_rfl) (by rfl) hQ7 hHeld ?_ ?_
              rotate_left
              · intro w7 hSw; (try dsimp only at hSw); go_simp; all_goals with_reducible rfl
              try simp only [Act.put, List.setIfInBounds_toArray, List.set_cons_zero, List.set_cons_succ]
              refine rg_take (i := 4) (some 37) (v := ?_) rfl rfl (by kernel_rfl) (by rfl) hQ7 hHeld ?_ ?_
              rotate_left
              · intro w7 hSw; (try dsimp only at hSw); go_simp; all_goals with_reducible rfl
              try simp only [Act.put, List.setIfInBounds_toArray, List.set_cons_zero, List.set_cons_succ]
              refine rg_take (i := 5) (some 38) (v := ?_) rfl rfl (by kernel_rfl) (by rfl) hQ7 hHeld ?_ ?_
              rotate_left
              · intro w7 hSw; (try dsimp only at hSw); go_simp; all_goals with_reducible rfl
              try simp only [Act.put, List.setIfInBounds_toArray, List.set_cons_zero, List.set_cons_succ]
              refine rg_take (i := 6) (some 39) (v := ?_) rfl rfl (by kernel_rfl) (by rfl) hQ7 hHeld ?_ ?_
              rotate_left
              · intro w7 hSw; (try dsimp only at hSw); go_simp; all_goals with_reducible rfl
              try simp only [Act.put, List.setIfInBounds_toArray, List.set_cons_zero, List.set_cons_succ]
              refine rg_take (i := 7) (some 40) (v := ?_) rfl rfl (by kernel_rfl) (by rfl) hQ7 hHeld ?_ ?_
              rotate_left
              · intro w7 hSw; (try dsimp only at hSw); go_simp; all_goals with_reducible rfl
              try simp only [Act.put, List.setIfInBounds_toArray, List.set_cons_zero, List.set_cons_succ]
              refine rg_take (i := 8) (some 41) (v := ?_) rfl rfl (by kernel_rfl) (by rfl) hQ7 hHeld ?_ ?_
              rotate_left
              · intro w7 hSw; (try dsimp only at hSw); go_simp; all_goals with_reducible rfl
              try simp only [Act.put, List.setIfInBounds_toArray, List.set_cons_zero, List.set_cons_succ]
              refine rg_take (i := 9) (some 42) (v := ?_) rfl rfl (by kernel_rfl) (by rfl) hQ7 hHeld ?_ ?_
              rotate_left
              · intro w7 hSw; (try dsimp only at hSw); go_simp; all_goals with_reducible rfl
              try simp only [Act.put, List.setIfInBounds_toArray, List.set_cons_zero, List.set_cons_succ]
              refine rg_take (i := 10) (some 43) (v := ?_) rfl rfl (by kernel_rfl) (by rfl) hQ7 hHeld ?_ ?_
              rotate_left
              · intro w7 hSw; (try dsimp only at hSw); go_simp; all_goals with_reducible rfl
              try simp only [Act.put, List.setIfInBounds_toArray, List.set_cons_zero, List.set_cons_succ]
              refine rg_take (i := 11) (some 44) (v := ?_) rfl rfl (by kernel_rfl) (by rfl) hQ7 hHeld ?_ ?_
              rotate_left
              · intro w7 hSw; (try dsimp only at hSw); go_simp; all_goals with_reducible rfl
              try simp only [Act.put, List.setIfInBounds_toArray, List.set_cons_zero, List.set_cons_succ]
              refine rg_take (i := 12) (some 45) (v := ?_) rfl rfl (by kernel_rfl) (by rfl) hQ7 hHeld ?_ ?_
              rotate_left
              · intro w7 hSw; (try dsimp only at hSw); go_simp; all_goals with_reducible rfl
              try simp only [Act.put, List.setIfInBounds_toArray, List.set_cons_zero, List.set_cons_succ]
              refine rg_take (i := 13) (some 46) (v := ?_) rfl rfl (by kernel_rfl) (by rfl) hQ7 hHeld ?_ ?_
              rotate_left
              · intro w7 hSw; (try dsimp only at hSw); go_simp; all_goals with_reducible rfl
              try simp only [Act.put, List.setIfInBounds_toArray, List.set_cons_zero, List.set_cons_succ]
              refine rg_take (i := 14) (some 47) (v := ?_) rfl rfl (by kernel_rfl) (by rfl) hQ7 hHeld ?_ ?_
              rotate_left
              · intro w7 hSw; (try dsimp only at hSw); go_simp; all_goals with_reducible rfl
              try simp only [Act.put, List.setIfInBounds_toArray, List.set_cons_zero, List.set_cons_succ]
              refine rg_take (i := 15) (some 48) (v := ?_) rfl rfl (by kernel_rfl) (by rfl) hQ7 hHeld ?_ ?_
              rotate_left
              · intro w7 hSw; (try dsimp only at hSw); go_simp; all_goals with_reducible rfl
              try simp only [Act.put, List.setIfInBounds_toArray, List.set_cons_zero, List.set_cons_succ]
              refine rg_take (i := 16) (some 49) (v := ?_) rfl rfl (by kernel_rfl) (by rfl) hQ7 hHeld ?_ ?_
              rotate_left
              · intro w7 hSw; (try dsimp only at hSw); go_simp; all_goals with_reducible rfl
              try simp only [Act.put, List.setIfInBounds_toArray, List.set_cons_zero, List.set_cons_succ]
              refine rg_take (i := 17) (some 50) (v := ?_) rfl rfl (by kernel_rfl) (by rfl) hQ7 hHeld ?_ ?_
              rotate_left
              · intro w7 hSw; (try dsimp only at hSw); go_simp; all_goals with_reducible rfl
              try simp only [Act.put, List.setIfInBounds_toArray, List.set_cons_zero, List.set_cons_succ]
              refine rg_take (i := 18) (some 51) (v := ?_) rfl rfl (by kernel_rfl) (by rfl) hQ7 hHeld ?_ ?_
              rotate_left
              · intro w7 hSw; (try dsimp only at hSw); go_simp; all_goals with_reducible rfl
              try simp only [Act.put, List.setIfInBounds_toArray, List.set_cons_zero, List.set_cons_succ]
              refine rg_take (i := 19) (some 52) (v := ?_) rfl rfl (by kernel_rfl) (by rfl) hQ7 hHeld ?_ ?_
              rotate_left
              · intro w7 hSw; (try dsimp only at hSw); go_simp; all_goals with_reducible rfl
              try simp only [Act.put, List.setIfInBounds_toArray, List.set_cons_zero, List.set_cons_succ]
              refine rg_take (i := 20) (some 53) (v := ?_) rfl rfl (by kernel_rfl) (by rfl) hQ7 hHeld ?_ ?_
              rotate_left
              · intro w7 hSw; (try dsimp only at hSw); go_simp; all_goals with_reducible rfl
              try simp only [Act.put, List.setIfInBounds_toArray, List.set_cons_zero, List.set_cons_succ]
              refine rg_take (i := 21) (some 54) (v := ?_) rfl rfl (by kernel_rfl) (by rfl) hQ7 hHeld ?_ ?_
              rotate_left
              · intro w7 hSw; (try dsimp only at hSw); go_simp; all_goals with_reducible rfl
              try simp only [Act.put, List.setIfInBounds_toArray, List.set_cons_zero, List.set_cons_succ]
              refine rg_take (i := 22) (some 55) (v := ?_) rfl rfl (by kernel_rfl) (by rfl) hQ7 hHeld ?_ ?_
              rotate_left
              · intro w7 hSw; (try dsimp only at hSw); go_simp; all_goals with_reducible rfl
              try simp only [Act.put, List.setIfInBounds_toArray, List.set_cons_zero, List.set_cons_succ]
              refine rg_take (i := 23) (some 56) (v := ?_) rfl rfl (by kernel_rfl) (by rfl) hQ7 hHeld ?_ ?_
              rotate_left
              · intro w7 hSw; (try dsimp only at hSw); go_simp; all_goals with_reducible rfl
              try simp only [Act.put, List.setIfInBounds_toArray, List.set_cons_zero, List.set_cons_succ]
              refine rg_take (i := 24) (some 57) (v := ?_) rfl rfl (by kernel_rfl) (by rfl) hQ7 hHeld ?_ ?_
              rotate_left
              · intro w7 hSw; (try dsimp only at hSw); go_simp; all_goals with_reducible rfl
              try simp only [Act.put, List.setIfInBounds_toArray, List.set_cons_zero, List.set_cons_succ]
              refine rg_take (i := 25) (some 58) (v := ?_) rfl rfl (by kernel_rfl) (by rfl) hQ7 hHeld ?_ ?_
              rotate_left
              · intro w7 hSw; (try dsimp only at hSw); go_simp; all_goals with_reducible rfl
              try simp only [Act.put, List.setIfInBounds_toArray, List.set_cons_zero, List.set_cons_succ]
              refine rg_take (i := 26) (some 59) (v := ?_) rfl rfl (by kernel_rfl) (by rfl) hQ7 hHeld ?_ ?_
              rotate_left
              · intro w7 hSw; (try dsimp only at hSw); go_simp; all_goals with_reducible rfl
              try simp only [Act.put, List.setIfInBounds_toArray, List.set_cons_zero, List.set_cons_succ]
              refine rg_take (i := 27) (some 60) (v := ?_) rfl rfl (by kernel_rfl) (by rfl) hQ7 hHeld ?_ ?_
              rotate_left
              · intro w7 hSw; (try dsimp only at hSw); go_simp; all_goals with_reducible rfl
              try simp only [Act.put, List.setIfInBounds_toArray, List.set_cons_zero, List.set_cons_succ]
              refine rg_skip (i := 28) (some 61) rfl rfl (by kernel_rfl) (by rfl) hQ7 hHeld ?_
              try simp only [Act.put, List.setIfInBounds_toArray, List.set_cons_zero, List.set_cons_succ]
              refine rg_skip (i := 29) (some 62) rfl rfl (by kernel_rfl) (by rfl) hQ7 hHeld ?_
              try simp only [Act.put, List.setIfInBounds_toArray, List.set_cons_zero, List.set_cons_succ]
              refine rg_skip (i := 30) (some 63) rfl rfl (by kernel_rfl) (by rfl) hQ7 hHeld ?_
              try simp only [Act.put, List.setIfInBounds_toArray, List.set_cons_zero, List.set_cons_succ]
              refine rg_skip (i := 31) (some 64) rfl rfl (by kernel_rfl) (by rfl) hQ7 hHeld ?_
              try simp only [Act.put, List.setIfInBounds_toArray, List.set_cons_zero, List.set_cons_succ]
              refine rg_skip (i := 32) (some 65) rfl rfl (by kernel_rfl) (by rfl) hQ7 hHeld ?_
              try simp only [Act.put, List.setIfInBounds_toArray, List.set_cons_zero, List.set_cons_succ]
              refine rg_skip (i := 33) (some 66) rfl rfl (by kernel_rfl) (by rfl) hQ7 hHeld ?_
              try simp only [Act.put, List.setIfInBounds_toArray, List.set_cons_zero, List.set_cons_succ]
              refine rg_skip (i := 34) (some 67) rfl rfl (by kernel_rfl) (by rfl) hQ7 hHeld ?_
              try simp only [Act.put, List.setIfInBounds_toArray, List.set_cons_zero, List.set_cons_succ]
              refine rg_skip (i := 35) (some 68) rfl rfl (by kernel_rfl) (by rfl) hQ7 hHeld ?_
              try simp only [Act.put, List.setIfInBounds_toArray, List.set_cons_zero, List.set_cons_succ]
              refine rg_skip (i := 36) (some 69) rfl rfl (by kernel_rfl) (by rfl) hQ7 hHeld ?_
              try simp only [Act.put, List.setIfInBounds_toArray, List.set_cons_zero, List.set_cons_succ]
              refine rg_skip (i := 37) (some 70) rfl rfl (by kernel_rfl) (by rfl) hQ7 hHeld ?_
              try simp only [Act.put, List.setIfInBounds_toArray, List.set_cons_zero, List.set_cons_succ]
              refine rg_skip (i := 38) (some 71) rfl rfl (by kernel_rfl) (by rfl) hQ7 hHeld ?_
              try simp only [Act.put, List.setIfInBounds_toArray, List.set_cons_zero, List.set_cons_succ]
              refine rg_take (i := 39) (some 72) (v := ?_) rfl rfl (by kernel_rfl) (by rfl) hQ7 hHeld ?_ ?_
              rotate_left
              · intro w7 hSw; (try dsimp only at hSw); go_simp; all_goals with_reducible rfl
              try simp only [Act.put, List.setIfInBounds_toArray, List.set_cons_zero, List.set_cons_succ]
              refine rg_end (by kernel_rfl) (hN7 _ _ ?_) _
              clear hQ7 hN7 Q7
              have BX := hHeld.1
              clear SS
              have HON := Lib.hid (show Own _ wo.heap.size 40 Sp.cells 2 (.slice A6 (dayOf (l.take m) x).length c6) (dayOf (l.take (m + 1)) x) from by rw [HSt2.out]; simpa using HOu1.out.ext BX)
              have FN := Lib.hid (ext_trans Fu1.out BX)
              clear BX
              go_wp2_with fail
              first
                | exact ⟨⟨m + 1, hmt, by go_num, HNQ.out, HON.out, FN.out⟩, by simp [intOf]; omega⟩
                | (go_roundw
                   case rel => exact ⟨m + 1, hmt, by go_num, HNQ.out, HON.out, FN.out⟩
                   case measure => simp [intOf]; omega)
            by_cases g3 : y.ap = x.ap
            rotate_left
            · have e0 : (x.k == 1) = true := by simp [g0]
              have e1 : (y.k == 1) = true := by simp [g1]
              have e2 : (y.cl == x.cl) = true := by simp [g2]
              have e3 : (y.ap == x.ap) = false := by simp [g3]
              have hsg : sameG x y = false := by
                rw [Bool.eq_false_iff]
                intro h
                simp only [sameG, Bool.and_eq_true, decide_eq_true_eq] at h
                exact g3 (by omega)
              have HSt2 := Lib.hid HSt.out
              rw [hsg] at HSt2
              clear HSt hsg g0 g1 g2 g3
              have SS := Lib.hid (show ∀ w', Below u1.heap.size u1 w' → (fun w' => Below u1.heap.size u1 w' ∧ w'.cell? ⟨b1, o1 + k * 8, none⟩ = some (.int .i64 x.k) ∧ w'.cell? ⟨b1, o1 + k * 8 + 1, none⟩ = some (.string x.sc) ∧ w'.cell? ⟨b1, o1 + k * 8 + 2, none⟩ = some (.string x.sa) ∧ w'.cell? ⟨b1, o1 + k * 8 + 3, none⟩ = some (.int .i64 x.cl) ∧ w'.cell? ⟨b1, o1 + k * 8 + 4, none⟩ = some (.int .i64 x.ap) ∧ w'.cell? ⟨b1, o1 + k * 8 + 5, none⟩ = some (.int .i64 x.n) ∧ w'.cell? ⟨b1, o1 + k * 8 + 6, none⟩ = some (.int .i64 x.f) ∧ w'.cell? ⟨b1, o1 + k * 8 + 7, none⟩ = some (.int .i64 x.t) ∧ w'.cell? ⟨b1, o1 + m * 8, none⟩ = some (.int .i64 y.k) ∧ w'.cell? ⟨b1, o1 + m * 8 + 1, none⟩ = some (.string y.sc) ∧ w'.cell? ⟨b1, o1 + m * 8 + 2, none⟩ = some (.string y.sa) ∧ w'.cell? ⟨b1, o1 + m * 8 + 3, none⟩ = some (.int .i64 y.cl) ∧ w'.cell? ⟨b1, o1 + m * 8 + 4, none⟩ = some (.int .i64 y.ap) ∧ w'.cell? ⟨b1, o1 + m * 8 + 5, none⟩ = some (.int .i64 y.n) ∧ w'.cell? ⟨b1, o1 + m * 8 + 6, none⟩ = some (.int .i64 y.f) ∧ w'.cell? ⟨b1, o1 + m * 8 + 7, none⟩ = some (.int .i64 y.t)) w' from fun w' h => ⟨h, ((h : Below _ _ _).cell (p := ⟨b1, o1 + k * 8, none⟩) hxu1).trans (DXu1.out 0 _ rfl), ((h : Below _ _ _).cell (p := ⟨b1, o1 + k * 8 + 1, none⟩) hxu1).trans (DXu1.out 1 _ rfl), ((h : Below _ _ _).cell (p := ⟨b1, o1 + k * 8 + 2, none⟩) hxu1).trans (DXu1.out 2 _ rfl), ((h : Below _ _ _).cell (p := ⟨b1, o1 + k * 8 + 3, none⟩) hxu1).trans (DXu1.out 3 _ rfl), ((h : Below _ _ _).cell (p := ⟨b1, o1 + k * 8 + 4, none⟩) hxu1).trans (DXu1.out 4 _ rfl), ((h : Below _ _ _).cell (p := ⟨b1, o1 + k * 8 + 5, none⟩) hxu1).trans (DXu1.out 5 _ rfl), ((h : Below _ _ _).cell (p := ⟨b1, o1 + k * 8 + 6, none⟩) hxu1).trans (DXu1.out 6 _ rfl), ((h : Below _ _ _).cell (p := ⟨b1, o1 + k * 8 + 7, none⟩) hxu1).trans (DXu1.out 7 _ rfl), ((h : Below _ _ _).cell (p := ⟨b1, o1 + m * 8, none⟩) hxu1).trans (DYu1.out 0 _ rfl), ((h : Below _ _ _).cell (p := ⟨b1, o1 + m * 8 + 1, none⟩) hxu1).trans (DYu1.out 1 _ rfl), ((h : Below _ _ _).cell (p := ⟨b1, o1 + m * 8 + 2, none⟩) hxu1).trans (DYu1.out 2 _ rfl), ((h : Below _ _ _).cell (p := ⟨b1, o1 + m * 8 + 3, none⟩) hxu1).trans (DYu1.out 3 _ rfl), ((h : Below _ _ _).cell (p := ⟨b1, o1 + m * 8 + 4, none⟩) hxu1).trans (DYu1.out 4 _ rfl), ((h : Below _ _ _).cell (p := ⟨b1, o1 + m * 8 + 5, none⟩) hxu1).trans (DYu1.out 5 _ rfl), ((h : Below _ _ _).cell (p := ⟨b1, o1 + m * 8 + 6, none⟩) hxu1).trans (DYu1.out 6 _ rfl), ((h : Below _ _ _).cell (p := ⟨b1, o1 + m * 8 + 7, none⟩) hxu1).trans (DYu1.out 7 _ rfl)⟩)
              refine rg_begin (S := (fun w' => Below u1.heap.size u1 w' ∧ w'.cell? ⟨b1, o1 + k * 8, none⟩ = some (.int .i64 x.k) ∧ w'.cell? ⟨b1, o1 + k * 8 + 1, none⟩ = some (.string x.sc) ∧ w'.cell? ⟨b1, o1 + k * 8 + 2, none⟩ = some (.string x.sa) ∧ w'.cell? ⟨b1, o1 + k * 8 + 3, none⟩ = some (.int .i64 x.cl) ∧ w'.cell? ⟨b1, o1 + k * 8 + 4, none⟩ = some (.int .i64 x.ap) ∧ w'.cell? ⟨b1, o1 + k * 8 + 5, none⟩ = some (.int .i64 x.n) ∧ w'.cell? ⟨b1, o1 + k * 8 + 6, none⟩ = some (.int .i64 x.f) ∧ w'.cell? ⟨b1, o1 + k * 8 + 7, none⟩ = some (.int .i64 x.t) ∧ w'.cell? ⟨b1, o1 + m * 8, none⟩ = some (.int .i64 y.k) ∧ w'.cell? ⟨b1, o1 + m * 8 + 1, none⟩ = some (.string y.sc) ∧ w'.cell? ⟨b1, o1 + m * 8 + 2, none⟩ = some (.string y.sa) ∧ w'.cell? ⟨b1, o1 + m * 8 + 3, none⟩ = some (.int .i64 y.cl) ∧ w'.cell? ⟨b1, o1 + m * 8 + 4, none⟩ = some (.int .i64 y.ap) ∧ w'.cell? ⟨b1, o1 + m * 8 + 5, none⟩ = some (.int .i64 y.n) ∧ w'.cell? ⟨b1, o1 + m * 8 + 6, none⟩ = some (.int .i64 y.f) ∧ w'.cell? ⟨b1, o1 + m * 8 + 7, none⟩ = some (.int .i64 y.t))) 40 (by kernel_rfl) (by intro d; cases d <;> intro _ _ _ _ h <;> exact h) ?_ (fun Q7 hQ7 hN7 hHeld => ?_)
              · exact SS.out _ (ext_drew (ext_refl _))
              refine rg_take (i := 0) (some 33) (v := ?_) rfl rfl (by kernel_rfl) (by rfl) hQ7 hHeld ?_ ?_
              rotate_left
              · intro w7 hSw; (try dsimp only at hSw); go_simp; all_goals with_reducible rfl
              try simp only [Act.put, List.setIfInBounds_toArray, List.set_cons_zero, List.set_cons_succ]
              refine rg_take (i := 1) (some 34) (v := ?_) rfl rfl (by kernel_rfl) (by rfl) hQ7 hHeld ?_ ?_
              rotate_left
              · intro w7 hSw; (try dsimp only at hSw); go_simp; all_goals with_reducible rfl
              try simp only [Act.put, List.setIfInBounds_toArray, List.set_cons_zero, List.set_cons_succ]
              refine rg_take (i := 2) (some 35) (v := ?_) rfl rfl (by kernel_rfl) (by rfl) hQ7 hHeld ?_ ?_
              rotate_left
              · intro w7 hSw; (try dsimp only at hSw); go_simp; all_goals with_reducible rfl
              try simp only [Act.put, List.setIfInBounds_toArray, List.set_cons_zero, List.set_cons_succ]
              refine rg_take (i := 3) (some 36) (v := ?_) rfl rfl (by kernel_rfl) (by rfl) hQ7 hHeld ?_ ?_
              rotate_left
              · intro w7 hSw; (try dsimp only at hSw); go_simp; all_goals with_reducible rfl
              try simp only [Act.put, List.setIfInBounds_toArray, List.set_cons_zero, List.set_cons_succ]
              refine rg_take (i := 4) (some 37) (v := ?_) rfl rfl (by kernel_rfl) (by rfl) hQ7 hHeld ?_ ?_
              rotate_left
              · intro w7 hSw; (try dsimp only at hSw); go_simp; all_goals with_reducible rfl
              try simp only [Act.put, List.setIfInBounds_toArray, List.set_cons_zero, List.set_cons_succ]
              refine rg_take (i := 5) (some 38) (v := ?_) rfl rfl (by kernel_rfl) (by rfl) hQ7 hHeld ?_ ?_
              rotate_left
              · intro w7 hSw; (try dsimp only at hSw); go_simp; all_goals with_reducible rfl
              try simp only [Act.put, List.setIfInBounds_toArray, List.set_cons_zero, List.set_cons_succ]
              refine rg_take (i := 6) (some 39) (v := ?_) rfl rfl (by kernel_rfl) (by rfl) hQ7 hHeld ?_ ?_
              rotate_left
              · intro w7 hSw; (try dsimp only at hSw); go_simp; all_goals with_reducible rfl
              try simp only [Act.put, List.setIfInBounds_toArray, List.set_cons_zero, List.set_cons_succ]
              refine rg_take (i := 7) (some 40) (v := ?_) rfl rfl (by kernel_rfl) (by rfl) hQ7 hHeld ?_ ?_
              rotate_left
              · intro w7 hSw; (try dsimp only at hSw); go_simp; all_goals with_reducible rfl
              try simp only [Act.put, List.setIfInBounds_toArray, List.set_cons_zero, List.set_cons_succ]
              refine rg_take (i := 8) (some 41) (v := ?_) rfl rfl (by kernel_rfl) (by rfl) hQ7 hHeld ?_ ?_
              rotate_left
              · intro w7 hSw; (try dsimp only at hSw); go_simp; all_goals with_reducible rfl
              try simp only [Act.put, List.setIfInBounds_toArray, List.set_cons_zero, List.set_cons_succ]
              refine rg_take (i := 9) (some 42) (v := ?_) rfl rfl (by kernel_rfl) (by rfl) hQ7 hHeld ?_ ?_
              rotate_left
              · intro w7 hSw; (try dsimp only at hSw); go_simp; all_goals with_reducible rfl
              try simp only [Act.put, List.setIfInBounds_toArray, List.set_cons_zero, List.set_cons_succ]
              refine rg_take (i := 10) (some 43) (v := ?_) rfl rfl (by kernel_rfl) (by rfl) hQ7 hHeld ?_ ?_
              rotate_left
              · intro w7 hSw; (try dsimp only at hSw); go_simp; all_goals with_reducible rfl
              try simp only [Act.put, List.setIfInBounds_toArray, List.set_cons_zero, List.set_cons_succ]
              refine rg_take (i := 11) (some 44) (v := ?_) rfl rfl (by kernel_rfl) (by rfl) hQ7 hHeld ?_ ?_
              rotate_left
              · intro w7 hSw; (try dsimp only at hSw); go_simp; all_goals with_reducible rfl
              try simp only [Act.put, List.setIfInBounds_toArray, List.set_cons_zero, List.set_cons_succ]
              refine rg_take (i := 12) (some 45) (v := ?_) rfl rfl (by kernel_rfl) (by rfl) hQ7 hHeld ?_ ?_
              rotate_left
              · intro w7 hSw; (try dsimp only at hSw); go_simp; all_goals with_reducible rfl
              try simp only [Act.put, List.setIfInBounds_toArray, List.set_cons_zero, List.set_cons_succ]
              refine rg_take (i := 13) (some 46) (v := ?_) rfl rfl (by kernel_rfl) (by rfl) hQ7 hHeld ?_ ?_
              rotate_left
              · intro w7 hSw; (try dsimp only at hSw); go_simp; all_goals with_reducible rfl
              try simp only [Act.put, List.setIfInBounds_toArray, List.set_cons_zero, List.set_cons_succ]
              refine rg_take (i := 14) (some 47) (v := ?_) rfl rfl (by kernel_rfl) (by rfl) hQ7 hHeld ?_ ?_
              rotate_left
              · intro w7 hSw; (try dsimp only at hSw); go_simp; all_goals with_reducible rfl
              try simp only [Act.put, List.setIfInBounds_toArray, List.set_cons_zero, List.set_cons_succ]
              refine rg_take (i := 15) (some 48) (v := ?_) rfl rfl (by kernel_rfl) (by rfl) hQ7 hHeld ?_ ?_
              rotate_left
              · intro w7 hSw; (try dsimp only at hSw); go_simp; all_goals with_reducible rfl
              try simp only [Act.put, List.setIfInBounds_toArray, List.set_cons_zero, List.set_cons_succ]
              refine rg_take (i := 16) (some 49) (v := ?_) rfl rfl (by kernel_rfl) (by rfl) hQ7 hHeld ?_ ?_
              rotate_left
              · intro w7 hSw; (try dsimp only at hSw); go_simp; all_goals with_reducible rfl
              try simp only [Act.put, List.setIfInBounds_toArray, List.set_cons_zero, List.set_cons_succ]
              refine rg_take (i := 17) (some 50) (v := ?_) rfl rfl (by kernel_rfl) (by rfl) hQ7 hHeld ?_ ?_
              rotate_left
              · intro w7 hSw; (try dsimp only at hSw); go_simp; all_goals with_reducible rfl
              try simp only [Act.put, List.setIfInBounds_toArray, List.set_cons_zero, List.set_cons_succ]
              refine rg_take (i := 18) (some 51) (v := ?_) rfl rfl (by kernel_rfl) (by rfl) hQ7 hHeld ?_ ?_
              rotate_left
              · intro w7 hSw; (try dsimp only at hSw); go_simp; all_goals with_reducible rfl
              try simp only [Act.put, List.setIfInBounds_toArray, List.set_cons_zero, List.set_cons_succ]
              refine rg_take (i := 19) (some 52) (v := ?_) rfl rfl (by kernel_rfl) (by rfl) hQ7 hHeld ?_ ?_
              rotate_left
              · intro w7 hSw; (try dsimp only at hSw); go_simp; all_goals with_reducible rfl
              try simp only [Act.put, List.setIfInBounds_toArray, List.set_cons_zero, List.set_cons_succ]
              refine rg_take (i := 20) (some 53) (v := ?_) rfl rfl (by kernel_rfl) (by rfl) hQ7 hHeld ?_ ?_
              rotate_left
              · intro w7 hSw; (try dsimp only at hSw); go_simp; all_goals with_reducible rfl
              try simp only [Act.put, List.setIfInBounds_toArray, List.set_cons_zero, List.set_cons_succ]
              refine rg_take (i := 21) (some 54) (v := ?_) rfl rfl (by kernel_rfl) (by rfl) hQ7 hHeld ?_ ?_
              rotate_left
              · intro w7 hSw; (try dsimp only at hSw); go_simp; all_goals with_reducible rfl
              try simp only [Act.put, List.setIfInBounds_toArray, List.set_cons_zero, List.set_cons_succ]
              refine rg_take (i := 22) (some 55) (v := ?_) rfl rfl (by kernel_rfl) (by rfl) hQ7 hHeld ?_ ?_
              rotate_left
              · intro w7 hSw; (try dsimp only at hSw); go_simp; all_goals with_reducible rfl
              try simp only [Act.put, List.setIfInBounds_toArray, List.set_cons_zero, List.set_cons_succ]
              refine rg_take (i := 23) (some 56) (v := ?_) rfl rfl (by kernel_rfl) (by rfl) hQ7 hHeld ?_ ?_
              rotate_left
              · intro w7 hSw; (try dsimp only at hSw); go_simp; all_goals with_reducible rfl
              try simp only [Act.put, List.setIfInBounds_toArray, List.set_cons_zero, List.set_cons_succ]
              refine rg_take (i := 24) (some 57) (v := ?_) rfl rfl (by kernel_rfl) (by rfl) hQ7 hHeld ?_ ?_
              rotate_left
              · intro w7 hSw; (try dsimp only at hSw); go_simp; all_goals with_reducible rfl
              try simp only [Act.put, List.setIfInBounds_toArray, List.set_cons_zero, List.set_cons_succ]
              refine rg_take (i := 25) (some 58) (v := ?_) rfl rfl (by kernel_rfl) (by rfl) hQ7 hHeld ?_ ?_
              rotate_left
              · intro w7 hSw; (try dsimp only at hSw); go_simp; all_goals with_reducible rfl
              try simp only [Act.put, List.setIfInBounds_toArray, List.set_cons_zero, List.set_cons_succ]
              refine rg_take (i := 26) (some 59) (v := ?_) rfl rfl (by kernel_rfl) (by rfl) hQ7 hHeld ?_ ?_
              rotate_left
              · intro w7 hSw; (try dsimp only at hSw); go_simp; all_goals with_reducible rfl
              try simp only [Act.put, List.setIfInBounds_toArray, List.set_cons_zero, List.set_cons_succ]
              refine rg_take (i := 27) (some 60) (v := ?_) rfl rfl (by kernel_rfl) (by rfl) hQ7 hHeld ?_ ?_
              rotate_left
              · intro w7 hSw; (try dsimp only at hSw); go_simp; all_goals with_reducible rfl
              try simp only [Act.put, List.setIfInBounds_toArray, List.set_cons_zero, List.set_cons_succ]
              refine rg_take (i := 28) (some 61) (v := ?_) rfl rfl (by kernel_rfl) (by rfl) hQ7 hHeld ?_ ?_
              rotate_left
              · intro w7 hSw; (try dsimp only at hSw); go_simp; all_goals with_reducible rfl
              try simp only [Act.put, List.setIfInBounds_toArray, List.set_cons_zero, List.set_cons_succ]
              refine rg_take (i := 29) (some 62) (v := ?_) rfl rfl (by kernel_rfl) (by rfl) hQ7 hHeld ?_ ?_
              rotate_left
              · intro w7 hSw; (try dsimp only at hSw); go_simp; all_goals with_reducible rfl
              try simp only [Act.put, List.setIfInBounds_toArray, List.set_cons_zero, List.set_cons_succ]
              refine rg_take (i := 30) (some 63) (v := ?_) rfl rfl (by kernel_rfl) (by rfl) hQ7 hHeld ?_ ?_
              rotate_left
              · intro w7 hSw; (try dsimp only at hSw); go_simp; all_goals with_reducible rfl
              try simp only [Act.put, List.setIfInBounds_toArray, List.set_cons_zero, List.set_cons_succ]
              refine rg_take (i := 31) (some 64) (v := ?_) rfl rfl (by kernel_rfl) (by rfl) hQ7 hHeld ?_ ?_
              rotate_left
              · intro w7 hSw; (try dsimp only at hSw); go_simp; all_goals with_reducible rfl
              try simp only [Act.put, List.setIfInBounds_toArray, List.set_cons_zero, List.set_cons_succ]
              refine rg_take (i := 32) (some 65) (v := ?_) rfl rfl (by kernel_rfl) (by rfl) hQ7 hHeld ?_ ?_
              rotate_left
              · intro w7 hSw; (try dsimp only at hSw); go_simp; all_goals with_reducible rfl
              try simp only [Act.put, List.setIfInBounds_toArray, List.set_cons_zero, List.set_cons_succ]
              refine rg_take (i := 33) (some 66) (v := ?_) rfl rfl (by kernel_rfl) (by rfl) hQ7 hHeld ?_ ?_
              rotate_left
              · intro w7 hSw; (try dsimp only at hSw); go_simp; all_goals with_reducible rfl
              try simp only [Act.put, List.setIfInBounds_toArray, List.set_cons_zero, List.set_cons_succ]
              refine rg_take (i := 34) (some 67) (v := ?_) rfl rfl (by kernel_rfl) (by rfl) hQ7 hHeld ?_ ?_
              rotate_left
              · intro w7 hSw; (try dsimp only at hSw); go_simp; all_goals with_reducible rfl
              try simp only [Act.put, List.setIfInBounds_toArray, List.set_cons_zero, List.set_cons_succ]
              refine rg_take (i := 35) (some 68) (v := ?_) rfl rfl (by kernel_rfl) (by rfl) hQ7 hHeld ?_ ?_
              rotate_left
              · intro w7 hSw; (try dsimp only at hSw); go_simp; all_goals with_reducible rfl
              try simp only [Act.put, List.setIfInBounds_toArray, List.set_cons_zero, List.set_cons_succ]
              refine rg_take (i := 36) (some 69) (v := ?_) rfl rfl (by kernel_rfl) (by rfl) hQ7 hHeld ?_ ?_
              rotate_left
              · intro w7 hSw; (try dsimp only at hSw); go_simp; all_goals with_reducible rfl
              try simp only [Act.put, List.setIfInBounds_toArray, List.set_cons_zero, List.set_cons_succ]
              refine rg_take (i := 37) (some 70) (v := ?_) rfl rfl (by kernel_rfl) (by rfl) hQ7 hHeld ?_ ?_
              rotate_left
              · intro w7 hSw; (try dsimp only at hSw); go_simp; all_goals with_reducible rfl
              try simp only [Act.put, List.setIfInBounds_toArray, List.set_cons_zero, List.set_cons_succ]
              refine rg_take (i := 38) (some 71) (v := ?_) rfl rfl (by kernel_rfl) (by rfl) hQ7 hHeld ?_ ?_
              rotate_left
              · intro w7 hSw; (try dsimp only at hSw); go_simp; all_goals with_reducible rfl
              try simp only [Act.put, List.setIfInBounds_toArray, List.set_cons_zero, List.set_cons_succ]
              refine rg_take (i := 39) (some 72) (v := ?_) rfl rfl (by kernel_rfl) (by rfl) hQ7 hHeld ?_ ?_
              rotate_left
              · intro w7 hSw; (try dsimp only at hSw); go_simp; all_goals with_reducible rfl
              try simp only [Act.put, List.setIfInBounds_toArray, List.set_cons_zero, List.set_cons_succ]
              refine rg_end (by kernel_rfl) (hN7 _ _ ?_) _
              clear hQ7 hN7 Q7
              have BX := hHeld.1
              clear SS
              have HON := Lib.hid (show Own _ wo.heap.size 40 Sp.cells 2 (.slice A6 (dayOf (l.take m) x).length c6) (dayOf (l.take (m + 1)) x) from by rw [HSt2.out]; simpa using HOu1.out.ext BX)
              have FN := Lib.hid (ext_trans Fu1.out BX)
              clear BX
              go_wp2_with fail
              first
                | exact ⟨⟨m + 1, hmt, by go_num, HNQ.out, HON.out, FN.out⟩, by simp [intOf]; omega⟩
                | (go_roundw
                   case rel => exact ⟨m + 1, hmt, by go_num, HNQ.out, HON.out, FN.out⟩
                   case measure => simp [intOf]; omega)
            have e0 : (x.k == 1) = true := by simp [g0]
            have e1 : (y.k == 1) = true := by simp [g1]
            have e2 : (y.cl == x.cl) = true := by simp [g2]
            have e3 : (y.ap == x.ap) = true := by simp [g3]
            have hsg : sameG x y = true := by
              simp only [sameG, Bool.and_eq_true, decide_eq_true_eq]
              omega
            have HSt2 := Lib.hid HSt.out
            rw [hsg] at HSt2
            clear HSt hsg g0 g1 g2 g3
            have SS := Lib.hid (show ∀ w', Below u1.heap.size u1 w' → (fun w' => Below u1.heap.size u1 w' ∧ w'.cell? ⟨b1, o1 + k * 8, none⟩ = some (.int .i64 x.k) ∧ w'.cell? ⟨b1, o1 + k * 8 + 1, none⟩ = some (.string x.sc) ∧ w'.cell? ⟨b1, o1 + k * 8 + 2, none⟩ = some (.string x.sa) ∧ w'.cell? ⟨b1, o1 + k * 8 + 3, none⟩ = some (.int .i64 x.cl) ∧ w'.cell? ⟨b1, o1 + k * 8 + 4, none⟩ = some (.int .i64 x.ap) ∧ w'.cell? ⟨b1, o1 + k * 8 + 5, none⟩ = some (.int .i64 x.n) ∧ w'.cell? ⟨b1, o1 + k * 8 + 6, none⟩ = some (.int .i64 x.f) ∧ w'.cell? ⟨b1, o1 + k * 8 + 7, none⟩ = some (.int .i64 x.t) ∧ w'.cell? ⟨b1, o1 + m * 8, none⟩ = some (.int .i64 y.k) ∧ w'.cell? ⟨b1, o1 + m * 8 + 1, none⟩ = some (.string y.sc) ∧ w'.cell? ⟨b1, o1 + m * 8 + 2, none⟩ = some (.string y.sa) ∧ w'.cell? ⟨b1, o1 + m * 8 + 3, none⟩ = some (.int .i64 y.cl) ∧ w'.cell? ⟨b1, o1 + m * 8 + 4, none⟩ = some (.int .i64 y.ap) ∧ w'.cell? ⟨b1, o1 + m * 8 + 5, none⟩ = some (.int .i64 y.n) ∧ w'.cell? ⟨b1, o1 + m * 8 + 6, none⟩ = some (.int .i64 y.f) ∧ w'.cell? ⟨b1, o1 + m * 8 + 7, none⟩ = some (.int .i64 y.t)) w' from fun w' h => ⟨h, ((h : Below _ _ _).cell (p := ⟨b1, o1 + k * 8, none⟩) hxu1).trans (DXu1.out 0 _ rfl), ((h : Below _ _ _).cell (p := ⟨b1, o1 + k * 8 + 1, none⟩) hxu1).trans (DXu1.out 1 _ rfl), ((h : Below _ _ _).cell (p := ⟨b1, o1 + k * 8 + 2, none⟩) hxu1).trans (DXu1.out 2 _ rfl), ((h : Below _ _ _).cell (p := ⟨b1, o1 + k * 8 + 3, none⟩) hxu1).trans (DXu1.out 3 _ rfl), ((h : Below _ _ _).cell (p := ⟨b1, o1 + k * 8 + 4, none⟩) hxu1).trans (DXu1.out 4 _ rfl), ((h : Below _ _ _).cell (p := ⟨b1, o1 + k * 8 + 5, none⟩) hxu1).trans (DXu1.out 5 _ rfl), ((h : Below _ _ _).cell (p := ⟨b1, o1 + k * 8 + 6, none⟩) hxu1).trans (DXu1.out 6 _ rfl), ((h : Below _ _ _).cell (p := ⟨b1, o1 + k * 8 + 7, none⟩) hxu1).trans (DXu1.out 7 _ rfl), ((h : Below _ _ _).cell (p := ⟨b1, o1 + m * 8, none⟩) hxu1).trans (DYu1.out 0 _ rfl), ((h : Below _ _ _).cell (p := ⟨b1, o1 + m * 8 + 1, none⟩) hxu1).trans (DYu1.out 1 _ rfl), ((h : Below _ _ _).cell (p := ⟨b1, o1 + m * 8 + 2, none⟩) hxu1).trans (DYu1.out 2 _ rfl), ((h : Below _ _ _).cell (p := ⟨b1, o1 + m * 8 + 3, none⟩) hxu1).trans (DYu1.out 3 _ rfl), ((h : Below _ _ _).cell (p := ⟨b1, o1 + m * 8 + 4, none⟩) hxu1).trans (DYu1.out 4 _ rfl), ((h : Below _ _ _).cell (p := ⟨b1, o1 + m * 8 + 5, none⟩) hxu1).trans (DYu1.out 5 _ rfl), ((h : Below _ _ _).cell (p := ⟨b1, o1 + m * 8 + 6, none⟩) hxu1).trans (DYu1.out 6 _ rfl), ((h : Below _ _ _).cell (p := ⟨b1, o1 + m * 8 + 7, none⟩) hxu1).trans (DYu1.out 7 _ rfl)⟩)
            refine rg_begin (S := (fun w' => Below u1.heap.size u1 w' ∧ w'.cell? ⟨b1, o1 + k * 8, none⟩ = some (.int .i64 x.k) ∧ w'.cell? ⟨b1, o1 + k * 8 + 1, none⟩ = some (.string x.sc) ∧ w'.cell? ⟨b1, o1 + k * 8 + 2, none⟩ = some (.string x.sa) ∧ w'.cell? ⟨b1, o1 + k * 8 + 3, none⟩ = some (.int .i64 x.cl) ∧ w'.cell? ⟨b1, o1 + k * 8 + 4, none⟩ = some (.int .i64 x.ap) ∧ w'.cell? ⟨b1, o1 + k * 8 + 5, none⟩ = some (.int .i64 x.n) ∧ w'.cell? ⟨b1, o1 + k * 8 + 6, none⟩ = some (.int .i64 x.f) ∧ w'.cell? ⟨b1, o1 + k * 8 + 7, none⟩ = some (.int .i64 x.t) ∧ w'.cell? ⟨b1, o1 + m * 8, none⟩ = some (.int .i64 y.k) ∧ w'.cell? ⟨b1, o1 + m * 8 + 1, none⟩ = some (.string y.sc) ∧ w'.cell? ⟨b1, o1 + m * 8 + 2, none⟩ = some (.string y.sa) ∧ w'.cell? ⟨b1, o1 + m * 8 + 3, none⟩ = some (.int .i64 y.cl) ∧ w'.cell? ⟨b1, o1 + m * 8 + 4, none⟩ = some (.int .i64 y.ap) ∧ w'.cell? ⟨b1, o1 + m * 8 + 5, none⟩ = some (.int .i64 y.n) ∧ w'.cell? ⟨b1, o1 + m * 8 + 6, none⟩ = some (.int .i64 y.f) ∧ w'.cell? ⟨b1, o1 + m * 8 + 7, none⟩ = some (.int .i64 y.t))) 40 (by kernel_rfl) (by intro d; cases d <;> intro _ _ _ _ h <;> exact h) ?_ (fun Q7 hQ7 hN7 hHeld => ?_)
            · exact SS.out _ (ext_drew (ext_refl _))
            refine rg_take (i := 0) (some 33) (v := ?_) rfl rfl (by kernel_rfl) (by rfl) hQ7 hHeld ?_ ?_
            rotate_left
            · intro w7 hSw; (try dsimp only at hSw); go_simp; all_goals with_reducible rfl
            try simp only [Act.put, List.setIfInBounds_toArray, List.set_cons_zero, List.set_cons_succ]
            refine rg_take (i := 1) (some 34) (v := ?_) rfl rfl (by kernel_rfl) (by rfl) hQ7 hHeld ?_ ?_
            rotate_left
            · intro w7 hSw; (try dsimp only at hSw); go_simp; all_goals with_reducible rfl
            try simp only [Act.put, List.setIfInBounds_toArray, List.set_cons_zero, List.set_cons_succ]
            refine rg_take (i := 2) (some 35) (v := ?_) rfl rfl (by kernel_rfl) (by rfl) hQ7 hHeld ?_ ?_
            rotate_left
            · intro w7 hSw; (try dsimp only at hSw); go_simp; all_goals with_reducible rfl
            try simp only [Act.put, List.setIfInBounds_toArray, List.set_cons_zero, List.set_cons_succ]
            refine rg_take (i := 3) (some 36) (v := ?_) rfl rfl (by kernel_rfl) (by rfl) hQ7 hHeld ?_ ?_
            rotate_left
            · intro w7 hSw; (try dsimp only at hSw); go_simp; all_goals with_reducible rfl
            try simp only [Act.put, List.setIfInBounds_toArray, List.set_cons_zero, List.set_cons_succ]
            refine rg_take (i := 4) (some 37) (v := ?_) rfl rfl (by kernel_rfl) (by rfl) hQ7 hHeld ?_ ?_
            rotate_left
            · intro w7 hSw; (try dsimp only at hSw); go_simp; all_goals with_reducible rfl
            try simp only [Act.put, List.setIfInBounds_toArray, List.set_cons_zero, List.set_cons_succ]
            refine rg_take (i := 5) (some 38) (v := ?_) rfl rfl (by kernel_rfl) (by rfl) hQ7 hHeld ?_ ?_
            rotate_left
            · intro w7 hSw; (try dsimp only at hSw); go_simp; all_goals with_reducible rfl
            try simp only [Act.put, List.setIfInBounds_toArray, List.set_cons_zero, List.set_cons_succ]
            refine rg_take (i := 6) (some 39) (v := ?_) rfl rfl (by kernel_rfl) (by rfl) hQ7 hHeld ?_ ?_
            rotate_left
            · intro w7 hSw; (try dsimp only at hSw); go_simp; all_goals with_reducible rfl
            try simp only [Act.put, List.setIfInBounds_toArray, List.set_cons_zero, List.set_cons_succ]
            refine rg_take (i := 7) (some 40) (v := ?_) rfl rfl (by kernel_rfl) (by rfl) hQ7 hHeld ?_ ?_
            rotate_left
            · intro w7 hSw; (try dsimp only at hSw); go_simp; all_goals with_reducible rfl
            try simp only [Act.put, List.setIfInBounds_toArray, List.set_cons_zero, List.set_cons_succ]
            refine rg_take (i := 8) (some 41) (v := ?_) rfl rfl (by kernel_rfl) (by rfl) hQ7 hHeld ?_ ?_
            rotate_left
            · intro w7 hSw; (try dsimp only at hSw); go_simp; all_goals with_reducible rfl
            try simp only [Act.put, List.setIfInBounds_toArray, List.set_cons_zero, List.set_cons_succ]
            refine rg_take (i := 9) (some 42) (v := ?_) rfl rfl (by kernel_rfl) (by rfl) hQ7 hHeld ?_ ?_
            rotate_left
            · intro w7 hSw; (try dsimp only at hSw); go_simp; all_goals with_reducible rfl
            try simp only [Act.put, List.setIfInBounds_toArray, List.set_cons_zero, List.set_cons_succ]
            refine rg_take (i := 10) (some 43) (v := ?_) rfl rfl (by kernel_rfl) (by rfl) hQ7 hHeld ?_ ?_
            rotate_left
            · intro w7 hSw; (try dsimp only at hSw); go_simp; all_goals with_reducible rfl
            try simp only [Act.put, List.setIfInBounds_toArray, List.set_cons_zero, List.set_cons_succ]
            refine rg_take (i := 11) (some 44) (v := ?_) rfl rfl (by kernel_rfl) (by rfl) hQ7 hHeld ?_ ?_
            rotate_left
            · intro w7 hSw; (try dsimp only at hSw); go_simp; all_goals with_reducible rfl
            try simp only [Act.put, List.setIfInBounds_toArray, List.set_cons_zero, List.set_cons_succ]
            refine rg_take (i := 12) (some 45) (v := ?_) rfl rfl (by kernel_rfl) (by rfl) hQ7 hHeld ?_ ?_
            rotate_left
            · intro w7 hSw; (try dsimp only at hSw); go_simp; all_goals with_reducible rfl
            try simp only [Act.put, List.setIfInBounds_toArray, List.set_cons_zero, List.set_cons_succ]
            refine rg_take (i := 13) (some 46) (v := ?_) rfl rfl (by kernel_rfl) (by rfl) hQ7 hHeld ?_ ?_
            rotate_left
            · intro w7 hSw; (try dsimp only at hSw); go_simp; all_goals with_reducible rfl
            try simp only [Act.put, List.setIfInBounds_toArray, List.set_cons_zero, List.set_cons_succ]
            refine rg_take (i := 14) (some 47) (v := ?_) rfl rfl (by kernel_rfl) (by rfl) hQ7 hHeld ?_ ?_
            rotate_left
            · intro w7 hSw; (try dsimp only at hSw); go_simp; all_goals with_reducible rfl
            try simp only [Act.put, List.setIfInBounds_toArray, List.set_cons_zero, List.set_cons_succ]
            refine rg_take (i := 15) (some 48) (v := ?_) rfl rfl (by kernel_rfl) (by rfl) hQ7 hHeld ?_ ?_
            rotate_left
            · intro w7 hSw; (try dsimp only at hSw); go_simp; all_goals with_reducible rfl
            try simp only [Act.put, List.setIfInBounds_toArray, List.set_cons_zero, List.set_cons_succ]
            refine rg_take (i := 16) (some 49) (v := ?_) rfl rfl (by kernel_rfl) (by rfl) hQ7 hHeld ?_ ?_
            rotate_left
            · intro w7 hSw; (try dsimp only at hSw); go_simp; all_goals with_reducible rfl
            try simp only [Act.put, List.setIfInBounds_toArray, List.set_cons_zero, List.set_cons_succ]
            refine rg_take (i := 17) (some 50) (v := ?_) rfl rfl (by kernel_rfl) (by rfl) hQ7 hHeld ?_ ?_
            rotate_left
            · intro w7 hSw; (try dsimp only at hSw); go_simp; all_goals with_reducible rfl
            try simp only [Act.put, List.setIfInBounds_toArray, List.set_cons_zero, List.set_cons_succ]
            refine rg_take (i := 18) (some 51) (v := ?_) rfl rfl (by kernel_rfl) (by rfl) hQ7 hHeld ?_ ?_
            rotate_left
            · intro w7 hSw; (try dsimp only at hSw); go_simp; all_goals with_reducible rfl
            try simp only [Act.put, List.setIfInBounds_toArray, List.set_cons_zero, List.set_cons_succ]
            refine rg_take (i := 19) (some 52) (v := ?_) rfl rfl (by kernel_rfl) (by rfl) hQ7 hHeld ?_ ?_
            rotate_left
            · intro w7 hSw; (try dsimp only at hSw); go_simp; all_goals with_reducible rfl
            try simp only [Act.put, List.setIfInBounds_toArray, List.set_cons_zero, List.set_cons_succ]
            refine rg_take (i := 20) (some 53) (v := ?_) rfl rfl (by kernel_rfl) (by rfl) hQ7 hHeld ?_ ?_
            rotate_left
            · intro w7 hSw; (try dsimp only at hSw); go_simp; all_goals with_reducible rfl
            try simp only [Act.put, List.setIfInBounds_toArray, List.set_cons_zero, List.set_cons_succ]
            refine rg_take (i := 21) (some 54) (v := ?_) rfl rfl (by kernel_rfl) (by rfl) hQ7 hHeld ?_ ?_
            rotate_left
            · intro w7 hSw; (try dsimp only at hSw); go_simp; all_goals with_reducible rfl
            try simp only [Act.put, List.setIfInBounds_toArray, List.set_cons_zero, List.set_cons_succ]
            refine rg_take (i := 22) (some 55) (v := ?_) rfl rfl (by kernel_rfl) (by rfl) hQ7 hHeld ?_ ?_
            rotate_left
            · intro w7 hSw; (try dsimp only at hSw); go_simp; all_goals with_reducible rfl
            try simp only [Act.put, List.setIfInBounds_toArray, List.set_cons_zero, List.set_cons_succ]
            refine rg_take (i := 23) (some 56) (v := ?_) rfl rfl (by kernel_rfl) (by rfl) hQ7 hHeld ?_ ?_
            rotate_left
            · intro w7 hSw; (try dsimp only at hSw); go_simp; all_goals with_reducible rfl
            try simp only [Act.put, List.setIfInBounds_toArray, List.set_cons_zero, List.set_cons_succ]
            refine rg_take (i := 24) (some 57) (v := ?_) rfl rfl (by kernel_rfl) (by rfl) hQ7 hHeld ?_ ?_
            rotate_left
            · intro w7 hSw; (try dsimp only at hSw); go_simp; all_goals with_reducible rfl
            try simp only [Act.put, List.setIfInBounds_toArray, List.set_cons_zero, List.set_cons_succ]
            refine rg_take (i := 25) (some 58) (v := ?_) rfl rfl (by kernel_rfl) (by rfl) hQ7 hHeld ?_ ?_
            rotate_left
            · intro w7 hSw; (try dsimp only at hSw); go_simp; all_goals with_reducible rfl
            try simp only [Act.put, List.setIfInBounds_toArray, List.set_cons_zero, List.set_cons_succ]
            refine rg_take (i := 26) (some 59) (v := ?_) rfl rfl (by kernel_rfl) (by rfl) hQ7 hHeld ?_ ?_
            rotate_left
            · intro w7 hSw; (try dsimp only at hSw); go_simp; all_goals with_reducible rfl
            try simp only [Act.put, List.setIfInBounds_toArray, List.set_cons_zero, List.set_cons_succ]
            refine rg_take (i := 27) (some 60) (v := ?_) rfl rfl (by kernel_rfl) (by rfl) hQ7 hHeld ?_ ?_
            rotate_left
            · intro w7 hSw; (try dsimp only at hSw); go_simp; all_goals with_reducible rfl
            try simp only [Act.put, List.setIfInBounds_toArray, List.set_cons_zero, List.set_cons_succ]
            refine rg_take (i := 28) (some 61) (v := ?_) rfl rfl (by kernel_rfl) (by rfl) hQ7 hHeld ?_ ?_
            rotate_left
            · intro w7 hSw; (try dsimp only at hSw); go_simp; all_goals with_reducible rfl
            try simp only [Act.put, List.setIfInBounds_toArray, List.set_cons_zero, List.set_cons_succ]
            refine rg_take (i := 29) (some 62) (v := ?_) rfl rfl (by kernel_rfl) (by rfl) hQ7 hHeld ?_ ?_
            rotate_left
            · intro w7 hSw; (try dsimp only at hSw); go_simp; all_goals with_reducible rfl
            try simp only [Act.put, List.setIfInBounds_toArray, List.set_cons_zero, List.set_cons_succ]
            refine rg_take (i := 30) (some 63) (v := ?_) rfl rfl (by kernel_rfl) (by rfl) hQ7 hHeld ?_ ?_
            rotate_left
            · intro w7 hSw; (try dsimp only at hSw); go_simp; all_goals with_reducible rfl
            try simp only [Act.put, List.setIfInBounds_toArray, List.set_cons_zero, List.set_cons_succ]
            refine rg_take (i := 31) (some 64) (v := ?_) rfl rfl (by kernel_rfl) (by rfl) hQ7 hHeld ?_ ?_
            rotate_left
            · intro w7 hSw; (try dsimp only at hSw); go_simp; all_goals with_reducible rfl
            try simp only [Act.put, List.setIfInBounds_toArray, List.set_cons_zero, List.set_cons_succ]
            refine rg_take (i := 32) (some 65) (v := ?_) rfl rfl (by kernel_rfl) (by rfl) hQ7 hHeld ?_ ?_
            rotate_left
            · intro w7 hSw; (try dsimp only at hSw); go_simp; all_goals with_reducible rfl
            try simp only [Act.put, List.setIfInBounds_toArray, List.set_cons_zero, List.set_cons_succ]
            refine rg_take (i := 33) (some 66) (v := ?_) rfl rfl (by kernel_rfl) (by rfl) hQ7 hHeld ?_ ?_
            rotate_left
            · intro w7 hSw; (try dsimp only at hSw); go_simp; all_goals with_reducible rfl
            try simp only [Act.put, List.setIfInBounds_toArray, List.set_cons_zero, List.set_cons_succ]
            refine rg_take (i := 34) (some 67) (v := ?_) rfl rfl (by kernel_rfl) (by rfl) hQ7 hHeld ?_ ?_
            rotate_left
            · intro w7 hSw; (try dsimp only at hSw); go_simp; all_goals with_reducible rfl
            try simp only [Act.put, List.setIfInBounds_toArray, List.set_cons_zero, List.set_cons_succ]
            refine rg_take (i := 35) (some 68) (v := ?_) rfl rfl (by kernel_rfl) (by rfl) hQ7 hHeld ?_ ?_
            rotate_left
            · intro w7 hSw; (try dsimp only at hSw); go_simp; all_goals with_reducible rfl
            try simp only [Act.put, List.setIfInBounds_toArray, List.set_cons_zero, List.set_cons_succ]
            refine rg_take (i := 36) (some 69) (v := ?_) rfl rfl (by kernel_rfl) (by rfl) hQ7 hHeld ?_ ?_
            rotate_left
            · intro w7 hSw; (try dsimp only at hSw); go_simp; all_goals with_reducible rfl
            try simp only [Act.put, List.setIfInBounds_toArray, List.set_cons_zero, List.set_cons_succ]
            refine rg_take (i := 37) (some 70) (v := ?_) rfl rfl (by kernel_rfl) (by rfl) hQ7 hHeld ?_ ?_
            rotate_left
            · intro w7 hSw; (try dsimp only at hSw); go_simp; all_goals with_reducible rfl
            try simp only [Act.put, List.setIfInBounds_toArray, List.set_cons_zero, List.set_cons_succ]
            refine rg_take (i := 38) (some 71) (v := ?_) rfl rfl (by kernel_rfl) (by rfl) hQ7 hHeld ?_ ?_
            rotate_left
            · intro w7 hSw; (try dsimp only at hSw); go_simp; all_goals with_reducible rfl
            try simp only [Act.put, List.setIfInBounds_toArray, List.set_cons_zero, List.set_cons_succ]
            refine rg_take (i := 39) (some 72) (v := ?_) rfl rfl (by kernel_rfl) (by rfl) hQ7 hHeld ?_ ?_
            rotate_left
            · intro w7 hSw; (try dsimp only at hSw); go_simp; all_goals with_reducible rfl
            try simp only [Act.put, List.setIfInBounds_toArray, List.set_cons_zero, List.set_cons_succ]
            refine rg_end (by kernel_rfl) (hN7 _ _ ?_) _
            clear hQ7 hN7 Q7
            have BX := hHeld.1
            clear SS
            obtain ⟨wz, hwz⟩ : ∃ W0, W0 = u1.drew := ⟨_, rfl⟩
            rw [← hwz] at BX ⊢
            have hxz : b1 < wz.heap.size := Nat.lt_of_lt_of_le hxu1 BX.size
            have dy6 := (BX.cell (p := ⟨b1, o1 + m * 8 + 6, none⟩) hxu1).trans (DYu1.out 6 _ rfl)
            have dy7 := (BX.cell (p := ⟨b1, o1 + m * 8 + 7, none⟩) hxu1).trans (DYu1.out 7 _ rfl)
            have HOz := Lib.hid (HOu1.out.ext BX)
            have Fz := Lib.hid (ext_trans Fu1.out BX)
            clear BX hwz
            have hS := slc_litH wz [y.h] #[.int .i64 y.f, .int .i64 y.t] 40 (enc := Sp.cells) (sz := 2) (fun _ => rfl) rfl wz.heap.size rfl
            have hl2 : (dayOf (l.take (m + 1)) x).length ≤ 1000 := by have := dayOf_len (l.take (m + 1)) x; simp only [List.length_take] at this; omega
            obtain ⟨v', w5, hrun, A7, c7, hv7, hO7, hB7, -, -, -⟩ := Own.append_k (w0 := wo) I22 46 (HOz.out.alloc (.cells #[.int .i64 y.f, .int .i64 y.t] 40)) (ext_alloc Fz.out _) (ys := [y.h]) (m := 1) rfl 1 hS (dayOf (l.take (m + 1)) x) (by rw [HSt2.out]; rfl) _ rfl (by omega) (by unfold maxLen; omega)
            rw [← hv7] at hO7
            have HRUN := Lib.hid hrun
            have HO7 := Lib.hid hO7
            have HB7 := Lib.hid hB7
            clear hrun hO7 hB7 hS hv7 hl2
            go_wp2_with (at_builtin; refine wpList_append_run rfl (.tmp 73) (.tmp 79) 46 rfl (.slice A6 (dayOf (l.take m) x).length c6) (.slice (some ⟨wz.heap.size, 0, none⟩) 1 1) rfl rfl HRUN.out ?_)
            all_goals
              first
                | exact ⟨⟨m + 1, hmt, by go_num, HNQ.out, HO7.out, HB7.out⟩, by simp [intOf]; omega⟩
                | (go_roundw
                   case rel => exact ⟨m + 1, hmt, by go_num, HNQ.out, HO7.out, HB7.out⟩
                   case measure => simp [intOf]; omega)
end Go.Proofs.Ytmgpbjpohbpgpaa
