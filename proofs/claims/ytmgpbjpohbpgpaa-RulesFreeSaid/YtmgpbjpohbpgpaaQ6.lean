/- Law 6: reasons are contradictions, and minimal. -/
import Derived.Test.YtmgpbjpohbpgpaaQ3
set_option linter.unusedSimpArgs false
set_option linter.unusedVariables false
namespace Go.Proofs.Ytmgpbjpohbpgpaa
open Go.RowKit
def fromU (A : Option Addr) (c k : Nat) : Option Addr := if c = k then A else A.map (·.add (k * 8))
set_option maxRecDepth 100000 in
theorem slice_fromU (A : Option Addr) (len c k : Nat) (i : Int) (hi : i = k) (h1 : k ≤ len) (h2 : len ≤ c) (w : World) : (Instr.sliceAt 29 (.slice A len c) (some (.int .i64 i)) none none).run Try.prog w = .ok (.slice (fromU A c k) (len - k) (c - k)) w := by
  subst hi
  have hs : (sizeOf (Try.prog.elem 29)).run Try.prog w = .ok 8 w := by kernel_rfl
  rw [run_sliceAt_slice w 29 _ _ _ _ Try.underlying29, run_slice_l w 29 A len c Try.underlying29 _ _ (by omega) (by omega)]
  simp only [hs, Result.andThen, sliced, fromU]
  rfl
set_option maxRecDepth 100000 in
theorem slice_headU (A : Option Addr) (len c k : Nat) (i : Int) (hi : i = k) (h2 : k ≤ c) (w : World) : (Instr.sliceAt 29 (.slice A len c) none (some (.int .i64 i)) none).run Try.prog w = .ok (.slice A k c) w := by
  subst hi
  have hs : (sizeOf (Try.prog.elem 29)).run Try.prog w = .ok 8 w := by kernel_rfl
  rw [run_sliceAt_slice w 29 _ _ _ _ Try.underlying29, run_slice_h w 29 A len c Try.underlying29 _ _ (by omega) (by omega)]
  simp only [hs, Result.andThen, sliced]
  have : (fun x : Addr => x.add (0 * 8)) = id := by funext a; simp [Addr.add]
  rw [this]
  simp
theorem conflict_at {A : Option Addr} {c n : Nat} {l : List Ru} {w : World} (r : Bool) (hr : conB l = r) (hn : n = l.length) (ha : Slc w Ru.cells 8 A l) (hl : l.length < 1000) : Calls Try.prog 17 #[.slice A n c] w (RetB w r) := by
  subst hr hn; exact conflict_any A c l w ha hl
theorem map_step {f : Nat → Ru} {R : List Nat} {k n : Nat} (h : R[k]? = some n) : (R.take (k + 1)).map f = (R.take k).map f ++ [f n] := by
  obtain ⟨hk, rfl⟩ := List.getElem?_eq_some_iff.1 h
  rw [← List.take_append_getElem hk, List.map_append]; rfl
set_option maxRecDepth 100000 in
set_option maxHeartbeats 25600000 in
theorem law6 (a : As) (w : World) (ha : AOk w a) : Calls Try.prog 6 #[a.v] w (Tru w) := by
  obtain ⟨v, hv⟩ : ∃ v, chkR a.cls.n a.aps.n a.rs.l = v := ⟨_, rfl⟩
  obtain ⟨R, hR⟩ : ∃ R, reaL a.cls.n a.aps.n a.rs.l = R := ⟨_, rfl⟩
  have HV := Lib.hid hv
  have HR := Lib.hid hR
  have HRl := Lib.hid (show R.length ≤ 64 from hR ▸ reaL_len a.cls.n a.aps.n a.rs.l)
  have HRN := Lib.hid (show v ≠ 0 → R = [] ∧ v = 130 from fun h => ⟨by rw [← hR]; unfold reaL; rw [if_neg (by rw [hv]; exact h)], by rcases chk_two (a.cls.n : Int) (a.aps.n : Int) a.rs.l with q | q <;> omega⟩)
  have HMin := Lib.hid (show v = 0 → (R = [] → conB a.rs.l = false) ∧ (R ≠ [] → Idx a.rs.l.length R ∧ conB (R.map (ruAt a.rs.l)) = true ∧ ∀ i < R.length, conB ((R.map (ruAt a.rs.l)).take i ++ (R.map (ruAt a.rs.l)).drop (i + 1)) = false) from fun h => minimal (hv.trans h) (by rw [← hR]; unfold reaL; rw [if_pos (hv.trans h)]))
  clear hv hR
  have E := Lib.hid (ext_refl w)
  have HA := Lib.hid (ha)
  clear ha
  replace E := Lib.hid (ext_alloc E.out (.cells #[.slice a.s0.A a.s0.n a.s0.c, .slice a.s1.A a.s1.n a.s1.c, .slice a.s2.A a.s2.n a.s2.c, .slice a.s3.A a.s3.n a.s3.c, .slice a.s4.A a.s4.n a.s4.c, .slice a.aps.A a.aps.n a.aps.c, .slice a.cls.A a.cls.n a.cls.c, .slice a.rs.A a.rs.l.length a.rs.c] 31))
  replace HA := Lib.hid (HA.out.alloc (.cells #[.slice a.s0.A a.s0.n a.s0.c, .slice a.s1.A a.s1.n a.s1.c, .slice a.s2.A a.s2.n a.s2.c, .slice a.s3.A a.s3.n a.s3.c, .slice a.s4.A a.s4.n a.s4.c, .slice a.aps.A a.aps.n a.aps.c, .slice a.cls.A a.cls.n a.cls.c, .slice a.rs.A a.rs.l.length a.rs.c] 31))
  have X := Lib.hid (Blk.newH w [.slice a.s0.A a.s0.n a.s0.c, .slice a.s1.A a.s1.n a.s1.c, .slice a.s2.A a.s2.n a.s2.c, .slice a.s3.A a.s3.n a.s3.c, .slice a.s4.A a.s4.n a.s4.c, .slice a.aps.A a.aps.n a.aps.c, .slice a.cls.A a.cls.n a.cls.c, .slice a.rs.A a.rs.l.length a.rs.c] 31 (w.heap.size) (by first | rfl | simp))
  go_enter Try.func6, Try.ntmps6
  go_wp2_with fail
  refine (sane_any _).mono ?_
  rintro e z1 ⟨rfl, B⟩
  replace E := Lib.hid (ext_trans E.out B)
  replace HA := Lib.hid (HA.out.ext B)
  replace X := Lib.hid (X.out.ext B)
  clear B
  by_cases hl : (70 : Int) < a.rs.l.length
  · have c0 := X.out.c 7 _ rfl
    go_wp2_with fail
    go_ret
    exact ⟨rfl, E.out⟩
  have hl2 : a.rs.l.length ≤ 70 := by omega
  have c0 := X.out.c 0 _ rfl
  have c1 := X.out.c 1 _ rfl
  have c2 := X.out.c 2 _ rfl
  have c3 := X.out.c 3 _ rfl
  have c4 := X.out.c 4 _ rfl
  have c5 := X.out.c 5 _ rfl
  have c6 := X.out.c 6 _ rfl
  have c7 := X.out.c 7 _ rfl
  go_wp2_with fail
  refine (reason_at (a := a) R v HR.out HV.out HA.out).mono ?_
  rintro e z2 ⟨A4, q4, rfl, h2, B⟩
  clear c0 c1 c2 c3 c4 c5 c6 c7
  replace E := Lib.hid (ext_trans E.out B)
  replace HA := Lib.hid (HA.out.ext B)
  replace X := Lib.hid (X.out.ext B)
  clear B
  have L := Lib.hid h2
  clear h2
  by_cases h0 : v = 0
  rotate_left
  · obtain ⟨rfl, rfl⟩ := HRN.out h0
    clear h0 HMin HRN
    go_wp2_with fail
    go_ret
    exact ⟨ret_bool (by first | rfl | simp), E.out⟩
  subst h0
  obtain ⟨hm1, hm2⟩ := HMin.out rfl
  clear HMin HRN
  by_cases hr0 : R = []
  · have HC := Lib.hid (hm1 hr0)
    subst hr0
    clear hm1 hm2
    have c0 := X.out.c 7 _ rfl
    go_wp2_with fail
    refine (conflict_at (A := a.rs.A) (c := a.rs.c) false HC.out rfl HA.out.rs (by omega)).mono ?_
    rintro e z3 ⟨rfl, B⟩
    clear c0
    replace E := Lib.hid (ext_trans E.out B)
    replace HA := Lib.hid (HA.out.ext B)
    replace X := Lib.hid (X.out.ext B)
    replace L := Lib.hid (L.out.ext B)
    clear B
    go_wp2_with fail
    go_ret
    exact ⟨ret_bool (by first | rfl | simp), E.out⟩
  obtain ⟨hi, hc1, hc2⟩ := hm2 hr0
  have HI := Lib.hid hi
  have HC1 := Lib.hid hc1
  have HC2 := Lib.hid hc2
  have hR0 : 0 < R.length := List.length_pos_iff.2 hr0
  clear hi hc1 hc2 hm1 hm2 hr0
  obtain ⟨rn, hrn⟩ : ∃ n, R.length = n := ⟨_, rfl⟩
  have HRn := Lib.hid hrn
  rw [hrn] at hR0 ⊢
  clear hrn
  have hr64 : rn ≤ 64 := by rw [← HRn.out]; exact HRl.out
  have i1 : (((rn : Nat) : Int) == 0) = false := by simp; omega
  obtain ⟨P, hP⟩ : ∃ P, R.map (ruAt a.rs.l) = P := ⟨_, rfl⟩
  rw [hP] at HC1 HC2
  have HPn := Lib.hid (show P.length = rn by rw [← hP, List.length_map]; exact HRn.out)
  have HP := Lib.hid hP
  clear hP
  go_wp2_with fail
  go_loopw [5, 38] (fun v i W => ∃ k : Nat, k ≤ rn ∧ i = .int .i64 k ∧ Own W z2.heap.size 42 Ru.cells 8 v (P.take k) ∧ Below z2.heap.size z2 W) (fun _ i _ => rn - (intOf i).toNat)
  case atStart => exact ⟨0, Nat.zero_le _, rfl, Own.nil _ _ _ _ _, ext_refl _⟩
  case round =>
    obtain ⟨wo, rfl⟩ : ∃ wo, wo = wr := ⟨_, rfl⟩
    obtain ⟨k, hk, rfl, hO, hB⟩ := hrel
    have F := Lib.hid hB
    have HO := Lib.hid hO
    clear hB hO
    by_cases hlt : k < rn
    rotate_left
    · obtain rfl : k = rn := by omega
      have hO2 := HO.out
      rw [List.take_of_length_le (by rw [HPn.out]; exact Nat.le_refl _)] at hO2
      clear HO
      obtain ⟨A6, c6, rfl, hc6, -, -⟩ := hO2.form
      rw [HPn.out] at hc6 ⊢
      have HS := Lib.hid (show Slc wo Ru.cells 8 A6 P from hO2.slc (fun _ => rfl) (by decide))
      have HC := Lib.hid (conflict_at (c := c6) (n := k) true HC1.out HPn.out.symm HS.out (by rw [HPn.out]; omega))
      clear hO2
      go_wp2_with fail
      refine HC.out.mono ?_
      rintro e y1 ⟨rfl, B⟩
      have G := Lib.hid (ext_trans (ext_trans E.out F.out) B)
      replace HS := Lib.hid (HS.out.ext B)
      clear B HC F
      go_wp2_with fail
      go_loopw [79] (fun i W => ∃ j : Nat, j ≤ k ∧ i = .int .i64 j ∧ Below y1.heap.size y1 W) (fun i _ => k - (intOf i).toNat)
      case atStart => exact ⟨0, Nat.zero_le _, rfl, ext_refl _⟩
      case round =>
        obtain ⟨j, hj, rfl, hB⟩ := hrel
        have F := Lib.hid hB
        clear hB
        by_cases hjt : j < k
        rotate_left
        · obtain rfl : j = k := by omega
          go_wp2_with fail
          go_ret
          exact ⟨rfl, ext_trans G.out F.out⟩
        · have hjt' : (j : Int) < k := by omega
          have HCj := Lib.hid (HC2.out j (by rw [HRn.out]; exact hjt))
          have hs1 := fun w : World => slice_headU A6 k c6 j _ rfl (by omega) w
          have hs2 := fun w : World => slice_fromU A6 k c6 (j + 1) ((j : Int) + 1) (by omega) (by omega) hc6 w
          have HSj := Lib.hid (HS.out.ext F.out)
          have HKT := Lib.hid (show (P.take j).length = j by rw [List.length_take, HPn.out]; omega)
          have HKD := Lib.hid (show (P.drop (j + 1)).length = k - (j + 1) by rw [List.length_drop, HPn.out])
          obtain ⟨AF, hAF⟩ : ∃ z, fromU A6 c6 (j + 1) = z := ⟨_, rfl⟩
          have HD := Lib.hid (show Slc wr Ru.cells 8 AF (P.drop (j + 1)) by rw [← hAF]; exact HSj.out.from_ (j + 1) c6 (by rw [HPn.out]; exact hc6))
          rw [hAF] at hs2
          clear hAF
          have hw1 : IntKind.i64.wrap ((j : Int) + 1) = (j : Int) + 1 := IntWalk.i64_in _ (by omega)
          have hpn := HPn.out
          go_wp2_with fail
          have SS := Lib.hid (show ∀ w', Below wr.heap.size wr w' → (fun w' => Below wr.heap.size wr w') w' from fun w' h => h)
          refine rg_begin (S := (fun w' => Below wr.heap.size wr w')) 11 (by kernel_rfl) (by intro d; cases d <;> intro _ _ _ _ h <;> exact h) ?_ (fun Q7 hQ7 hN7 hHeld => ?_)
          · exact SS.out _ (ext_drew (ext_refl _))
          refine rg_take (i := 1) (some 83) (v := ?_) rfl rfl (by kernel_rfl) (by rfl) hQ7 hHeld ?_ ?_
          rotate_left
          · intro w7 hSw; (try dsimp only at hSw); go_simp; all_goals with_reducible rfl
          try simp only [Act.put, List.setIfInBounds_toArray, List.set_cons_zero, List.set_cons_succ]
          refine rg_take (i := 2) (some 84) (v := ?_) rfl rfl (by kernel_rfl) (by rfl) hQ7 hHeld ?_ ?_
          rotate_left
          · intro w7 hSw; (try dsimp only at hSw); go_simp; all_goals with_reducible rfl
          try simp only [Act.put, List.setIfInBounds_toArray, List.set_cons_zero, List.set_cons_succ]
          refine rg_take (i := 3) (some 85) (v := .slice A6 j c6) rfl rfl (by kernel_rfl) (by rfl) hQ7 hHeld (fun w7 hSw => run_v (hs1 w7)) ?_
          try simp only [Act.put, List.setIfInBounds_toArray, List.set_cons_zero, List.set_cons_succ]
          refine rg_take (i := 5) (some 87) (v := ?_) rfl rfl (by kernel_rfl) (by rfl) hQ7 hHeld ?_ ?_
          rotate_left
          · intro w7 hSw; (try dsimp only at hSw); go_simp; all_goals with_reducible rfl
          try simp only [Act.put, List.setIfInBounds_toArray, List.set_cons_zero, List.set_cons_succ]
          refine rg_take (i := 6) (some 88) (v := ?_) rfl rfl (by kernel_rfl) (by rfl) hQ7 hHeld ?_ ?_
          rotate_left
          · intro w7 hSw; (try dsimp only at hSw); go_simp; all_goals with_reducible rfl
          try simp only [Act.put, List.setIfInBounds_toArray, List.set_cons_zero, List.set_cons_succ]
          refine rg_take (i := 7) (some 89) (v := ?_) rfl rfl (by kernel_rfl) (by rfl) hQ7 hHeld ?_ ?_
          rotate_left
          · intro w7 hSw; (try dsimp only at hSw); go_simp; all_goals with_reducible rfl
          try simp only [Act.put, List.setIfInBounds_toArray, List.set_cons_zero, List.set_cons_succ]
          refine rg_take (i := 8) (some 90) (v := .slice AF (k - (j + 1)) (c6 - (j + 1))) rfl rfl (by kernel_rfl) (by rfl) hQ7 hHeld (fun w7 hSw => run_v (hs2 w7)) ?_
          try simp only [Act.put, List.setIfInBounds_toArray, List.set_cons_zero, List.set_cons_succ]
          refine rg_one (i := 0) (by kernel_rfl) (rg_step rfl (by rfl) (fun K hK => ?_))
          go_simp
          refine hK.out _ _ ?_ (fun hHeld2 => ?_)
          · exact SS.out _ (ext_alloc hHeld _)
          clear hHeld
          have hHeld := hHeld2
          clear hHeld2
          clear hK K
          try simp only [Act.put, List.setIfInBounds_toArray, List.set_cons_zero, List.set_cons_succ]
          refine rg_one (i := 4) (by kernel_rfl) (rg_step rfl (by rfl) (fun K hK => ?_))
          refine rg_append (some 86) _ _ 29 29 rfl rfl rfl _ _ rfl rfl (Own.append_k (w0 := wr) I29 29 ((Own.madeH (α := Ru) wr wr.heap.size 42 Ru.cells 8 (by simp) wr.heap.size (by simp)).drew_) hHeld (ys := P.take j) (m := j) HKT.out.symm c6 ((HSj.out.ext hHeld).take j) (P.take j) rfl j HKT.out (by omega) (by unfold maxLen; omega)) ?_
          rintro _ w1 ⟨A1, q1, rfl, hO1, B1, hg1, hq1, hm1⟩
          refine hK.out _ _ ?_ (fun hHeld2 => ?_)
          · exact SS.out _ B1
          clear hHeld
          have hHeld := hHeld2
          clear hHeld2
          clear hK K
          try simp only [Act.put, List.setIfInBounds_toArray, List.set_cons_zero, List.set_cons_succ]
          refine rg_one (i := 9) (by kernel_rfl) (rg_step rfl (by rfl) (fun K hK => ?_))
          refine rg_append (some 91) _ _ 29 29 rfl rfl rfl _ _ rfl rfl (Own.append_k (w0 := wr) I29 29 hO1 hHeld (ys := P.drop (j + 1)) (m := k - (j + 1)) HKD.out.symm (c6 - (j + 1)) (HD.out.ext hHeld) (P.take j ++ P.drop (j + 1)) rfl (j + (k - (j + 1))) (by rw [List.length_append, HKT.out, HKD.out]) (by omega) (by unfold maxLen; omega)) ?_
          rintro _ w2 ⟨A2, q2, rfl, hO2, B2, hg2, hq2, hm2⟩
          refine hK.out _ _ ?_ (fun hHeld2 => ?_)
          · exact SS.out _ B2
          clear hHeld
          have hHeld := hHeld2
          clear hHeld2
          clear hK K
          try simp only [Act.put, List.setIfInBounds_toArray, List.set_cons_zero, List.set_cons_succ]
          refine rg_one (i := 10) (by kernel_rfl) (rg_step rfl (by rfl) (fun K hK => ?_))
          go_simp
          refine (conflict_at (c := q2) (n := j + (k - (j + 1))) false HCj.out (by rw [List.length_append, HKT.out, HKD.out]) (hO2.slc (fun _ => rfl) (by decide)) (by rw [List.length_append, HKT.out, HKD.out]; omega)).mono ?_
          rintro e u1 ⟨rfl, B⟩
          go_wp2_with fail
          refine hK.out _ _ ?_ (fun hHeld2 => ?_)
          · exact SS.out _ (ext_trans hHeld B)
          clear hHeld
          have hHeld := hHeld2
          clear hHeld2
          clear hK K
          try simp only [Act.put, List.setIfInBounds_toArray, List.set_cons_zero, List.set_cons_succ]
          refine rg_end (by kernel_rfl) (hN7 _ _ ?_) _
          clear hQ7 hN7 Q7
          have BX := hHeld
          clear SS
          have F2 := Lib.hid (ext_trans F.out BX)
          clear BX hpn
          go_wp2_with fail
          first
            | exact ⟨⟨j + 1, hjt, by go_num, F2.out⟩, by simp [intOf]; omega⟩
            | (go_roundw
               case rel => exact ⟨j + 1, hjt, by go_num, F2.out⟩
               case measure => simp [intOf]; omega)
    · obtain ⟨n, b1, o1, hn, hA4, hb1, hd⟩ := (L.out.ext F.out).at_ (show k < R.length by rw [HRn.out]; exact hlt)
      subst hA4
      have d0 : wo.cell? ⟨b1, o1 + k, none⟩ = some (.int .i64 n) := by have := hd 0 _ rfl; simpa using this
      clear hd
      have hnl : n < a.rs.l.length := HI.out.2 n (List.mem_of_getElem? hn)
      obtain ⟨x, b2, o2, hx, hA2, hb2, hd⟩ := (HA.out.rs.ext F.out).at_ hnl
      have HA2 := Lib.hid hA2
      clear hA2
      have e0 := hd 0 _ rfl
      have e1 := hd 1 _ rfl
      have e2 := hd 2 _ rfl
      have e3 := hd 3 _ rfl
      have e4 := hd 4 _ rfl
      have e5 := hd 5 _ rfl
      have e6 := hd 6 _ rfl
      have e7 := hd 7 _ rfl
      simp only [Nat.add_zero] at e0
      clear hd
      have hpt : P.take (k + 1) = P.take k ++ [x] := by
        rw [← HP.out, ← List.map_take, ← List.map_take, map_step hn, ruAt_eq hx]
      have HPt := Lib.hid hpt
      have x7 : wo.cell? ⟨w.heap.size, 7, none⟩ = some (.slice (some ⟨b2, o2, none⟩) a.rs.l.length a.rs.c) := ((X.out.ext F.out).c 7 _ rfl).trans (by rw [HA2.out])
      have hnl' : (n : Int) < a.rs.l.length := by omega
      have hlt' : (k : Int) < rn := by omega
      obtain ⟨A5, c5, rfl, hc5, -, -⟩ := HO.out.form
      have hS := slc_litH wo [x] #[.int .i64 x.k, .string x.sc, .string x.sa, .int .i64 x.cl, .int .i64 x.ap, .int .i64 x.n, .int .i64 x.f, .int .i64 x.t] 42 (enc := Ru.cells) (sz := 8) (fun _ => rfl) rfl wo.heap.size rfl
      have htk : (P.take k).length = k := by rw [List.length_take, HPn.out]; omega
      have htk1 : (P.take (k + 1)).length = k + 1 := by rw [List.length_take, HPn.out]; omega
      rw [htk] at hc5 HO ⊢
      obtain ⟨v', w5, hrun, A6, c6, hv6, hO6, hB5, -, -, -⟩ := Own.append_k (w0 := z2) I29 29 (HO.out.alloc (.cells #[.int .i64 x.k, .string x.sc, .string x.sa, .int .i64 x.cl, .int .i64 x.ap, .int .i64 x.n, .int .i64 x.f, .int .i64 x.t] 42)) (ext_alloc F.out _) (ys := [x]) (m := 1) rfl 1 hS (P.take (k + 1)) HPt.out.symm _ htk1 (by omega) (by unfold maxLen; omega)
      rw [← hv6] at hO6
      have HRUN := Lib.hid hrun
      have HO6 := Lib.hid hO6
      have HB5 := Lib.hid hB5
      have HN := Lib.hid hn
      clear hrun hO6 hB5 hS hv6 hpt htk htk1 hn hx HO
      cases k with
      | zero =>
        have d00 : wo.cell? ⟨b1, o1, none⟩ = some (.int .i64 n) := d0
        go_wp2_with (at_builtin; refine wpList_append_run rfl (.tmp 65) (.tmp 71) 29 rfl (.slice A5 0 c5) (.slice (some ⟨wo.heap.size, 0, none⟩) 1 1) rfl rfl HRUN.out ?_)
        first
          | exact ⟨⟨1, by omega, by go_num, HO6.out, HB5.out⟩, by simp [intOf]; omega⟩
          | (go_roundw
             case rel => exact ⟨1, by omega, by go_num, HO6.out, HB5.out⟩
             case measure => simp [intOf]; omega)
      | succ k =>
        obtain ⟨q, b3, o3, hq, hA3, hb3, hd⟩ := (L.out.ext F.out).at_ (show k < R.length by rw [HRn.out]; omega)
        obtain ⟨rfl, rfl⟩ : b1 = b3 ∧ o1 = o3 := by simpa using hA3
        clear hA3
        have f0 : wo.cell? ⟨b1, o1 + k, none⟩ = some (.int .i64 q) := by have := hd 0 _ rfl; simpa using this
        clear hd
        have hqn : ¬ ((n : Int) ≤ (q : Int)) := by
          obtain ⟨h1, h2⟩ := List.getElem?_eq_some_iff.1 hq
          obtain ⟨h3, h4⟩ := List.getElem?_eq_some_iff.1 HN.out
          have := List.pairwise_iff_getElem.1 HI.out.1 k (k + 1) h1 h3 (by omega)
          rw [h2, h4] at this
          omega
        clear hq
        have hwk : IntKind.i64.wrap ((((k + 1 : Nat)) : Int) - 1) = (k : Int) := by rw [IntWalk.i64_in _ (by omega)]; omega
        have hwk2 : IntKind.i64.wrap (k : Int) = (k : Int) := IntWalk.i64_in _ (by omega)
        go_wp2_with (at_builtin; refine wpList_append_run rfl (.tmp 65) (.tmp 71) 29 rfl (.slice A5 (k + 1) c5) (.slice (some ⟨wo.heap.size, 0, none⟩) 1 1) rfl rfl HRUN.out ?_)
        first
          | exact ⟨⟨k + 1 + 1, by omega, by go_num, HO6.out, HB5.out⟩, by simp [intOf]; omega⟩
          | (go_roundw
             case rel => exact ⟨k + 1 + 1, by omega, by go_num, HO6.out, HB5.out⟩
             case measure => simp [intOf]; omega)
end Go.Proofs.Ytmgpbjpohbpgpaa
