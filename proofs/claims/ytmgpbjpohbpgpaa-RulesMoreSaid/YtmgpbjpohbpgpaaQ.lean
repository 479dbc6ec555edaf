/- Contract: what a contradiction is, as the statements describe it. -/
import Derived.Test.YtmgpbjpohbpgpaaF
import Derived.Test.YtmgpbjpohbpgpaaPs
set_option linter.unusedSimpArgs false
set_option linter.unusedVariables false
namespace Go.Proofs.Ytmgpbjpohbpgpaa
open Go.RowKit
def cx (l : List Ru) (x : Ru) : Bool := l.any (cpair x) || cov (dayOf l x) ⟨0, 1440⟩
theorem conB_end {l : List Ru} (h : ∀ x ∈ l, cx l x = false) : conB l = false := by
  unfold conB
  rw [List.any_eq_false]
  intro x hx
  have := h x hx
  unfold cx at this
  rw [this]; simp
theorem conB_hit {l : List Ru} {x : Ru} (h : x ∈ l) (hc : cx l x = true) : conB l = true := List.any_eq_true.2 ⟨x, h, hc⟩
theorem dayOf_step {l : List Ru} {m : Nat} {x y : Ru} (h : l[m]? = some y) : dayOf (l.take (m + 1)) x = dayOf (l.take m) x ++ (if sameG x y then [y.h] else []) := by
  obtain ⟨hm, rfl⟩ := List.getElem?_eq_some_iff.1 h
  unfold dayOf
  rw [← List.take_append_getElem hm, List.filter_append, List.map_append]
  by_cases g : sameG x l[m] = true
  · simp [g]
  · simp [g]
theorem dayOf_len (l : List Ru) (x : Ru) : (dayOf l x).length ≤ l.length := by
  unfold dayOf; rw [List.length_map]; exact List.length_filter_le ..
theorem all_step {p : Ru → Bool} {l : List Ru} {m : Nat} {y : Ru} (h : ∀ z ∈ l.take m, p z = false) (hy : l[m]? = some y) (hp : p y = false) : ∀ z ∈ l.take (m + 1), p z = false := by
  obtain ⟨hm, rfl⟩ := List.getElem?_eq_some_iff.1 hy
  intro z hz
  rw [← List.take_append_getElem hm] at hz
  rcases List.mem_append.1 hz with hz | hz
  · exact h z hz
  · obtain rfl : z = l[m] := by simpa using hz
    exact hp
set_option maxRecDepth 100000 in
set_option maxHeartbeats 12800000 in
theorem conflict_any (A : Option Addr) (c : Nat) (l : List Ru) (w : World) (ha : Slc w Ru.cells 8 A l) (hn : l.length < 1000) : Calls Try.prog 17 #[.slice A l.length c] w (RetB w (conB l)) := by
  obtain ⟨r, hr⟩ : ∃ r, conB l = r := ⟨_, rfl⟩
  have HR := Lib.hid hr
  rw [hr]
  clear hr
  have HA := Lib.hid ha
  clear ha
  go_enter Try.func17, Try.ntmps17
  go_wp2_with fail
  go_loopw [10] (fun i W => ∃ k : Nat, k ≤ l.length ∧ i = .int .i64 k ∧ Hid (∀ x ∈ l.take k, cx l x = false) ∧ Below w.heap.size w W) (fun i _ => l.length - (intOf i).toNat)
  case atStart => exact ⟨0, Nat.zero_le _, rfl, fun x hx => by simp at hx, ext_refl _⟩
  case round =>
    obtain ⟨wo, rfl⟩ : ∃ wo, wo = wr := ⟨_, rfl⟩
    obtain ⟨k, hk, rfl, HP, hB⟩ := hrel
    have E := Lib.hid hB
    clear hB
    by_cases hlt : k < l.length
    rotate_left
    · obtain rfl : k = l.length := by omega
      have hret := Lib.hid (show false = r by rw [← HR.out]; have h0 := HP.out; rw [List.take_length] at h0; exact (conB_end h0).symm)
      go_wp2_with fail
      go_ret
      exact ⟨ret_bool hret.out, E.out⟩
    · obtain ⟨x, b1, o1, hx, rfl, hb1, hd⟩ := (HA.out.ext E.out).at_ hlt
      have HX := Lib.hid hx
      clear hx
      have d0 := hd 0 _ rfl
      have d1 := hd 1 _ rfl
      have d2 := hd 2 _ rfl
      have d3 := hd 3 _ rfl
      have d4 := hd 4 _ rfl
      have d5 := hd 5 _ rfl
      have d6 := hd 6 _ rfl
      have d7 := hd 7 _ rfl
      simp only [Nat.add_zero] at d0
      clear hd
      have hlt' : (k : Int) < l.length := by omega
      have HBX := Lib.hid (Blk.newH wo [.int .i64 x.k, .string x.sc, .string x.sa, .int .i64 x.cl, .int .i64 x.ap, .int .i64 x.n, .int .i64 x.f, .int .i64 x.t] 42 wo.heap.size rfl)
      have E1 := Lib.hid (ext_alloc E.out (.cells #[.int .i64 x.k, .string x.sc, .string x.sa, .int .i64 x.cl, .int .i64 x.ap, .int .i64 x.n, .int .i64 x.f, .int .i64 x.t] 42))
      go_wp2_with fail
      clear d0 d1 d2 d3 d4 d5 d6 d7
      obtain ⟨w1, hw1⟩ : ∃ W, W = wo.alloc (.cells #[.int .i64 x.k, .string x.sc, .string x.sa, .int .i64 x.cl, .int .i64 x.ap, .int .i64 x.n, .int .i64 x.f, .int .i64 x.t] 42) := ⟨_, rfl⟩
      rw [← hw1] at HBX E1 ⊢
      obtain ⟨bx, hbx⟩ : ∃ b, b = wo.heap.size := ⟨_, rfl⟩
      rw [← hbx] at HBX ⊢
      clear hw1 hbx hb1 E
      obtain ⟨x14, h14⟩ : ∃ X, X = Value.agg #[.int .i64 x.k, .string x.sc, .string x.sa, .int .i64 x.cl, .int .i64 x.ap, .int .i64 x.n, .int .i64 x.f, .int .i64 x.t] := ⟨_, rfl⟩
      rw [← h14]
      clear h14
      go_loopw [5, 17] (fun v j W => ∃ m : Nat, m ≤ l.length ∧ j = .int .i64 m ∧ Hid (∀ y ∈ l.take m, cpair x y = false) ∧ Own W w1.heap.size 40 Sp.cells 2 v (dayOf (l.take m) x) ∧ Below w1.heap.size w1 W) (fun _ j _ => l.length - (intOf j).toNat)
      case atStart => exact ⟨0, Nat.zero_le _, rfl, fun y hy => by simp at hy, Own.nil _ _ _ _ _, ext_refl _⟩
      case round =>
        obtain ⟨m, hm, rfl, HQ, hO, hB⟩ := hrel
        have F := Lib.hid hB
        have HO := Lib.hid hO
        clear hB hO
        by_cases hmt : m < l.length
        rotate_left
        · obtain rfl : m = l.length := by omega
          have hQ := HQ.out
          rw [List.take_length] at hQ
          have hO2 := HO.out
          rw [List.take_length] at hO2
          have hlen := dayOf_len l x
          have hcx := Lib.hid (show cx l x = cov (dayOf l x) ⟨0, 1440⟩ by unfold cx; rw [List.any_eq_false.2 (fun z hz => by rw [hQ z hz]; simp)]; rfl)
          obtain ⟨A6, c6, rfl, hc, -, -⟩ := hO2.form
          obtain ⟨q, hq⟩ : ∃ q, cov (dayOf l x) ⟨0, 1440⟩ = q := ⟨_, rfl⟩
          have HC := Lib.hid (covers_any A6 c6 (dayOf l x) ⟨0, 1440⟩ wr (hO2.slc (fun _ => rfl) (by decide)) (by omega))
          rw [hq] at hcx HC
          clear hq hQ hO2 HO HQ hlen hc
          go_wp2_with fail
          refine HC.out.mono ?_
          rintro e w5 ⟨rfl, hB⟩
          have E5 := Lib.hid (ext_trans (ext_trans E1.out F.out) hB)
          clear HC hB
          cases q
          · have HN := Lib.hid (all_step HP.out HX.out hcx.out)
            go_wp2_with fail
            exact ⟨⟨k + 1, hlt, by go_num, HN.out, E5.out⟩, by simp [intOf]; omega⟩
          · have hret := Lib.hid (show true = r by rw [← HR.out]; exact (conB_hit (List.mem_of_getElem? HX.out) hcx.out).symm)
            go_wp2_with fail
            go_ret
            exact ⟨ret_bool hret.out, E5.out⟩
        · obtain ⟨y, b2, o2, hy, hA2, hb2, hd⟩ := (HA.out.ext (ext_trans E1.out F.out)).at_ hmt
          obtain ⟨rfl, rfl⟩ : b1 = b2 ∧ o1 = o2 := by simpa using hA2
          clear hA2
          have HY := Lib.hid hy
          clear hy
          have d0 := hd 0 _ rfl
          have d1 := hd 1 _ rfl
          have d2 := hd 2 _ rfl
          have d3 := hd 3 _ rfl
          have d4 := hd 4 _ rfl
          have d5 := hd 5 _ rfl
          have d6 := hd 6 _ rfl
          have d7 := hd 7 _ rfl
          simp only [Nat.add_zero] at d0
          clear hd
          have hmt' : (m : Int) < l.length := by omega
          have BX := Lib.hid (HBX.out.ext F.out)
          have x0 := BX.out.c 0 _ rfl
          have x3 := BX.out.c 3 _ rfl
          have x4 := BX.out.c 4 _ rfl
          have x5 := BX.out.c 5 _ rfl
          have xl := BX.out.lt
          obtain ⟨A6, c6, rfl, hc6, -, -⟩ := HO.out.form
          have HOy := Lib.hid (HO.out.alloc (.cells #[.int .i64 y.k, .string y.sc, .string y.sa, .int .i64 y.cl, .int .i64 y.ap, .int .i64 y.n, .int .i64 y.f, .int .i64 y.t] 42))
          have Fy := Lib.hid (ext_alloc F.out (.cells #[.int .i64 y.k, .string y.sc, .string y.sa, .int .i64 y.cl, .int .i64 y.ap, .int .i64 y.n, .int .i64 y.f, .int .i64 y.t] 42))
          have HSt := Lib.hid (dayOf_step (x := x) HY.out)
          clear HO F
          have no : sameG x y = false → cpair x y = false → ((∀ z ∈ l.take (m + 1), cpair x z = false) ∧ Own (wr.alloc (.cells #[.int .i64 y.k, .string y.sc, .string y.sa, .int .i64 y.cl, .int .i64 y.ap, .int .i64 y.n, .int .i64 y.f, .int .i64 y.t] 42)) w1.heap.size 40 Sp.cells 2 (.slice A6 (dayOf (l.take m) x).length c6) (dayOf (l.take (m + 1)) x)) := fun h1 h2 => ⟨all_step HQ.out HY.out h2, by rw [HSt.out, h1]; simpa using HOy.out⟩
          have yes : cpair x y = true → true = r := fun h => by
            rw [← HR.out]
            refine (conB_hit (List.mem_of_getElem? HX.out) ?_).symm
            unfold cx
            rw [List.any_eq_true.2 ⟨y, List.mem_of_getElem? HY.out, h⟩]; rfl
          have NO := Lib.hid no
          have YES := Lib.hid yes
          clear no yes
          have ER := Lib.hid (ext_trans E1.out Fy.out)
          by_cases hcl : x.cl = y.cl
          rotate_left
          · have f0 : (x.cl != y.cl) = true := by simp [hcl]
            have hN := Lib.hid (NO.out (by simp [sameG, hcl]) (by simp [cpair, hcl]))
            clear hcl NO YES HOy HSt
            go_wp2_with fail
            exact ⟨⟨m + 1, hmt, by go_num, hN.out.1, hN.out.2, Fy.out⟩, by simp [intOf]; omega⟩
          have f0 : (x.cl != y.cl) = false := by simp [hcl]
          by_cases g : x.k = 1 ∧ y.k = 1 ∧ x.ap = y.ap
          · obtain ⟨g1, g2, g3⟩ := g
            have e1 : (x.k == 1) = true := by simp [g1]
            have e2 : (y.k == 1) = true := by simp [g2]
            have e3 : (x.ap == y.ap) = true := by simp [g3]
            have hp : cpair x y = false := by simp [cpair, g1, g2]
            have hN := Lib.hid (all_step HQ.out HY.out hp)
            have hsg : sameG x y = true := by simp [sameG, g1, g2, g3, hcl]
            rw [hsg] at HSt
            clear hp hsg hcl g1 g2 g3 NO YES ER
            have hlen := dayOf_len (l.take m) x
            have htk : (l.take m).length = m := by simp; omega
            have hS := slc_litH (wr.alloc (.cells #[.int .i64 y.k, .string y.sc, .string y.sa, .int .i64 y.cl, .int .i64 y.ap, .int .i64 y.n, .int .i64 y.f, .int .i64 y.t] 42)) [y.h] #[.int .i64 y.f, .int .i64 y.t] 40 (enc := Sp.cells) (sz := 2) (fun _ => rfl) rfl (wr.heap.size + 1) (by simp)
            have hl2 : (dayOf (l.take (m + 1)) x).length ≤ 1000 := by have := dayOf_len (l.take (m + 1)) x; simp only [List.length_take] at this; omega
            obtain ⟨v', w5, hrun, A7, c7, hv7, hO7, hB7, -, -, -⟩ := Own.append_k (w0 := w1) I22 46 (HOy.out.alloc (.cells #[.int .i64 y.f, .int .i64 y.t] 40)) (ext_alloc Fy.out _) (ys := [y.h]) (m := 1) rfl 1 hS (dayOf (l.take (m + 1)) x) (by rw [HSt.out]; rfl) _ rfl (by omega) (by unfold maxLen; omega)
            rw [← hv7] at hO7
            have HRUN := Lib.hid hrun
            have HO7 := Lib.hid hO7
            have HB7 := Lib.hid hB7
            clear hrun hO7 hB7 hS HSt hc6 hlen htk hv7 hl2 HOy
            go_wp2_with (at_builtin; refine wpList_append_run rfl (.tmp 43) (.tmp 46) 46 rfl (.slice A6 (dayOf (l.take m) x).length c6) (.slice (some ⟨wr.heap.size + 1, 0, none⟩) 1 1) rfl rfl HRUN.out ?_)
            all_goals
              exact ⟨⟨m + 1, hmt, by go_num, hN.out, HO7.out, HB7.out⟩, by simp [intOf]; omega⟩
          have hsg : sameG x y = false := by
            rw [Bool.eq_false_iff]
            intro h
            simp only [sameG, Bool.and_eq_true, decide_eq_true_eq] at h
            exact g ⟨h.1.1.1, h.1.1.2, h.2⟩
          replace NO := Lib.hid (NO.out hsg)
          clear hsg HOy HSt
          have hp0 : cpair x y = decide ((x.k = y.k ∧ (x.k = 3 ∨ x.k = 4) ∧ x.n ≠ y.n) ∨ (x.k = 2 ∧ y.k = 4 ∧ 0 < y.n)) := by simp [cpair, hcl]
          have HP0 := Lib.hid hp0
          clear hp0
          by_cases hn0 : x.n = y.n
          · have f1 : (x.n != y.n) = false := by simp [hn0]
            go_wp2_with fail
            all_goals first
              | (exfalso; refine g ⟨?_, ?_, ?_⟩ <;> first | assumption | (simp_all; done))
              | (have hy := YES.out (by rw [HP0.out, decide_eq_true_eq]; omega)
                 go_ret
                 refine ⟨ret_bool hy, ?_⟩
                 first | exact ER.out | (have q := ER.out; simp only [*] at q; exact q))
              | (have hN := NO.out (by rw [HP0.out, decide_eq_false_iff_not]; omega)
                 go_roundw
                 case rel =>
                   refine ⟨m + 1, hmt, by first | go_num | (simp; omega), hN.1, ?_, ?_⟩
                   · first | exact hN.2 | (have q := hN.2; simp only [*] at q; exact q)
                   · first | exact Fy.out | (have q := Fy.out; simp only [*] at q; exact q)
                 case measure => simp [intOf]; omega)
          · have f1 : (x.n != y.n) = true := by simp [hn0]
            have f2 : ((m : Int) != (k : Int)) = true := by
              simp only [bne_iff_ne, ne_eq, Int.ofNat_inj]
              intro h
              subst h
              have h1 := HX.out
              have h2 := HY.out
              rw [h1] at h2
              exact hn0 (by rw [Option.some.inj h2])
            go_wp2_with fail
            all_goals first
              | (exfalso; refine g ⟨?_, ?_, ?_⟩ <;> first | assumption | (simp_all; done))
              | (have hy := YES.out (by rw [HP0.out, decide_eq_true_eq]; omega)
                 go_ret
                 refine ⟨ret_bool hy, ?_⟩
                 first | exact ER.out | (have q := ER.out; simp only [*] at q; exact q))
              | (have hN := NO.out (by rw [HP0.out, decide_eq_false_iff_not]; omega)
                 go_roundw
                 case rel =>
                   refine ⟨m + 1, hmt, by first | go_num | (simp; omega), hN.1, ?_, ?_⟩
                   · first | exact hN.2 | (have q := hN.2; simp only [*] at q; exact q)
                   · first | exact Fy.out | (have q := Fy.out; simp only [*] at q; exact q)
                 case measure => simp [intOf]; omega)
end Go.Proofs.Ytmgpbjpohbpgpaa
