/- Law 5: each volume is in one sector. -/
import Derived.Test.YtilocjliplmmpaaQ3
set_option linter.unusedSimpArgs false
set_option linter.unusedVariables false
namespace Go.Proofs.Ytilocjliplmmpaa
open Go.RowKit
theorem manyS_take {ss : List Sec} {v : Int} {l : List Int} {i : Nat} {s : Int} (h : l[i]? = some s) : manyS ss v (l.take (i + 1)) = manyS ss v (l.take i) + (volsAt ss s).count v := by
  unfold manyS
  rw [List.take_add_one, h]
  simp
theorem manyS_le {ss : List Sec} {v : Int} {l : List Int} (h : ∀ s ∈ l, (volsAt ss s).Nodup) (i : Nat) : manyS ss v (l.take i) ≤ i := by
  rw [manyS_count (fun s hs => h s (List.mem_of_mem_take hs))]
  exact Nat.le_trans List.countP_le_length (by rw [List.length_take]; omega)
def metS (ss : List Sec) (v n : Int) (l : List Int) : Bool := l.any (fun s => decide (v ∈ volsAt ss s) && s == n)
theorem metS_take {ss : List Sec} {v n : Int} {l : List Int} {i : Nat} {s : Int} (h : l[i]? = some s) : metS ss v n (l.take (i + 1)) = (metS ss v n (l.take i) || (decide (v ∈ volsAt ss s) && s == n)) := by
  unfold metS
  rw [List.take_add_one, h]
  simp
theorem cnt_take {l : List Int} {v : Int} {j : Nat} {x : Int} (h : l[j]? = some x) : (l.take (j + 1)).count v = (l.take j).count v + (if x = v then 1 else 0) := by
  rw [List.take_add_one, h, List.count_append]
  congr 1
  by_cases e : x = v <;> simp [e]
theorem mem_take {l : List Int} {v : Int} {j : Nat} {x : Int} (h : l[j]? = some x) : decide (v ∈ l.take (j + 1)) = (decide (v ∈ l.take j) || decide (x = v)) := by
  rw [List.take_add_one, h]
  rw [Bool.eq_iff_iff]
  simp only [Bool.or_eq_true, decide_eq_true_eq, List.mem_append, Option.toList_some, List.mem_singleton]
  exact ⟨fun h => h.imp_right Eq.symm, fun h => h.imp_right Eq.symm⟩
theorem secR_at {t : Tab} {l : List Chg} {now : Chg} {g : Cfg} {m v s : Int} (hn : inS l m = some now) (h0 : 0 ≤ now.cfg) (h1 : now.cfg < t.cs.l.length) (hg : t.cs.l[now.cfg.toNat]? = some g) (hs : secOf t.ss.l v g.ss.l = some s) : secR t l v m = some s := by
  simp only [secR, hn, secIn]
  rw [if_pos ⟨h0, h1⟩, hg]
  exact hs
set_option maxRecDepth 100000 in
set_option maxHeartbeats 64000000 in
theorem law5 (t : Tab) (A : Option Addr) (c : Nat) (l : List Chg) (m : Int) (w : World) (ht : Tab.ok w t) (hs : SOk w A l) : Calls Try.prog 5 #[t.v, .agg #[.slice A l.length c], .int .i64 m] w (Tru w) := by
  have E := Lib.hid (ext_refl w)
  have HT := Lib.hid (ht)
  have HS := Lib.hid (hs)
  clear ht hs
  replace E := Lib.hid (ext_alloc E.out (.cells #[.int .i64 t.n, .slice t.ss.A t.ss.l.length t.ss.c, .slice t.cs.A t.cs.l.length t.cs.c, .slice t.ws.A t.ws.l.length t.ws.c, .slice t.ms.A t.ms.l.length t.ms.c, .slice t.ks.A t.ks.l.length t.ks.c] 28))
  replace HT := Lib.hid (HT.out.alloc (.cells #[.int .i64 t.n, .slice t.ss.A t.ss.l.length t.ss.c, .slice t.cs.A t.cs.l.length t.cs.c, .slice t.ws.A t.ws.l.length t.ws.c, .slice t.ms.A t.ms.l.length t.ms.c, .slice t.ks.A t.ks.l.length t.ks.c] 28))
  replace HS := Lib.hid (HS.out.alloc (.cells #[.int .i64 t.n, .slice t.ss.A t.ss.l.length t.ss.c, .slice t.cs.A t.cs.l.length t.cs.c, .slice t.ws.A t.ws.l.length t.ws.c, .slice t.ms.A t.ms.l.length t.ms.c, .slice t.ks.A t.ks.l.length t.ks.c] 28))
  have T1 := Lib.hid (Blk.newH w [.int .i64 t.n, .slice t.ss.A t.ss.l.length t.ss.c, .slice t.cs.A t.cs.l.length t.cs.c, .slice t.ws.A t.ws.l.length t.ws.c, .slice t.ms.A t.ms.l.length t.ms.c, .slice t.ks.A t.ks.l.length t.ks.c] 28 (w.heap.size) (by first | rfl | simp))
  replace E := Lib.hid (ext_alloc E.out (.cells #[.slice A l.length c] 31))
  replace HT := Lib.hid (HT.out.alloc (.cells #[.slice A l.length c] 31))
  replace HS := Lib.hid (HS.out.alloc (.cells #[.slice A l.length c] 31))
  replace T1 := Lib.hid (T1.out.alloc (.cells #[.slice A l.length c] 31))
  have B1 := Lib.hid (Blk.newH (w.alloc (.cells #[.int .i64 t.n, .slice t.ss.A t.ss.l.length t.ss.c, .slice t.cs.A t.cs.l.length t.cs.c, .slice t.ws.A t.ws.l.length t.ws.c, .slice t.ms.A t.ms.l.length t.ms.c, .slice t.ks.A t.ks.l.length t.ks.c] 28)) [.slice A l.length c] 31 (w.heap.size + 1) (by first | rfl | simp))
  obtain ⟨W, hW⟩ : ∃ xw, ((w.alloc (.cells #[.int .i64 t.n, .slice t.ss.A t.ss.l.length t.ss.c, .slice t.cs.A t.cs.l.length t.cs.c, .slice t.ws.A t.ws.l.length t.ws.c, .slice t.ms.A t.ms.l.length t.ms.c, .slice t.ks.A t.ks.l.length t.ks.c] 28)).alloc (.cells #[.slice A l.length c] 31)) = xw := ⟨_, rfl⟩
  rw [hW] at E HT HS T1 B1
  have HW := Lib.hid hW
  clear hW
  go_enter Try.func5, Try.ntmps5
  go_wp2_with fail
  rw [HW.out]
  clear HW
  refine (sane_any _).mono ?_
  rintro e w1 ⟨rfl, B⟩
  replace E := Lib.hid (ext_trans E.out B)
  replace HT := Lib.hid (HT.out.ext B)
  replace HS := Lib.hid (HS.out.ext B)
  replace T1 := Lib.hid (T1.out.ext B)
  replace B1 := Lib.hid (B1.out.ext B)
  clear B
  have q0 := T1.out.c 0 _ rfl
  have q1 := T1.out.c 1 _ rfl
  have q2 := T1.out.c 2 _ rfl
  have q3 := T1.out.c 3 _ rfl
  have q4 := T1.out.c 4 _ rfl
  have q5 := T1.out.c 5 _ rfl
  have q6 := T1.out.lt
  go_wp2_with fail
  refine (few14_any t _ HT.out).mono ?_
  rintro e w2 ⟨r, rfl, hr, B⟩
  clear q0 q1 q2 q3 q4 q5 q6
  replace E := Lib.hid (ext_trans E.out B)
  replace HT := Lib.hid (HT.out.ext B)
  replace HS := Lib.hid (HS.out.ext B)
  replace T1 := Lib.hid (T1.out.ext B)
  replace B1 := Lib.hid (B1.out.ext B)
  clear B
  have HRw2 := Lib.hid hr
  clear hr
  cases r
  · go_wp2_with fail
    go_ret
    exact ⟨rfl, E.out⟩
  have q0 := B1.out.c 0 _ rfl
  have q1 := B1.out.lt
  go_wp2_with fail
  refine (few19_any A c l _ HS.out.s HS.out.n).mono ?_
  rintro e w3 ⟨r, rfl, hr, B⟩
  clear q0 q1
  replace E := Lib.hid (ext_trans E.out B)
  replace HT := Lib.hid (HT.out.ext B)
  replace HS := Lib.hid (HS.out.ext B)
  replace T1 := Lib.hid (T1.out.ext B)
  replace B1 := Lib.hid (B1.out.ext B)
  clear B
  have HRw3 := Lib.hid hr
  clear hr
  cases r
  · go_wp2_with fail
    go_ret
    exact ⟨rfl, E.out⟩
  obtain ⟨v, hv⟩ : ∃ v, chkS t l = v := ⟨_, rfl⟩
  have HV := Lib.hid hv
  clear hv
  have q0 := T1.out.c 0 _ rfl
  have q1 := T1.out.c 1 _ rfl
  have q2 := T1.out.c 2 _ rfl
  have q3 := T1.out.c 3 _ rfl
  have q4 := T1.out.c 4 _ rfl
  have q5 := T1.out.c 5 _ rfl
  have q6 := T1.out.lt
  have q7 := B1.out.c 0 _ rfl
  have q8 := B1.out.lt
  go_wp2_with fail
  refine (check_sat v HV.out rfl HT.out HS.out.s HS.out.n HS.out.o).mono ?_
  rintro e w4 ⟨rfl, B⟩
  clear q0 q1 q2 q3 q4 q5 q6 q7 q8
  replace E := Lib.hid (ext_trans E.out B)
  replace HT := Lib.hid (HT.out.ext B)
  replace HS := Lib.hid (HS.out.ext B)
  replace T1 := Lib.hid (T1.out.ext B)
  replace B1 := Lib.hid (B1.out.ext B)
  clear B
  by_cases h0 : v = 0
  rotate_left
  · have e1 : (v != 0) = true := by simpa using h0
    go_wp2_with fail
    go_ret
    exact ⟨rfl, E.out⟩
  subst h0
  by_cases m0 : m < 0
  · have e3 : decide (m < 0) = true := decide_eq_true m0
    go_wp2_with fail
    go_ret
    exact ⟨rfl, E.out⟩
  have e3 : decide (m < 0) = false := decide_eq_false m0
  by_cases m1 : 1440 ≤ m
  · have e4 : decide (m ≥ 1440) = true := decide_eq_true m1
    go_wp2_with fail
    go_ret
    exact ⟨rfl, E.out⟩
  have e4 : decide (m ≥ 1440) = false := decide_eq_false m1
  obtain ⟨htab, hvs⟩ := chkS_ok.1 HV.out
  have HTO := Lib.hid (tab_ok htab)
  obtain ⟨now, hnow, hnl⟩ := hvs.at_ (m := m) (by omega)
  have HNW := Lib.hid hnow
  obtain ⟨_, _, f0, f1⟩ := fits_f (hvs.fit now hnl)
  clear htab hvs hnow hnl
  have q0 := B1.out.c 0 _ rfl
  have q1 := B1.out.lt
  go_wp2_with fail
  clear e3 e4
  refine (in_d now true (by rw [HNW.out]; rfl) (by rw [HNW.out]; rfl) rfl HS.out).mono ?_
  rintro e w5 ⟨rfl, B⟩
  clear q0 q1
  replace E := Lib.hid (ext_trans E.out B)
  replace HT := Lib.hid (HT.out.ext B)
  replace HS := Lib.hid (HS.out.ext B)
  replace T1 := Lib.hid (T1.out.ext B)
  replace B1 := Lib.hid (B1.out.ext B)
  clear B
  replace E := Lib.hid (ext_alloc E.out (.cells #[.int .i64 now.f, .int .i64 now.cfg, .slice now.ms.A now.ms.l.length now.ms.c] 37))
  replace HT := Lib.hid (HT.out.alloc (.cells #[.int .i64 now.f, .int .i64 now.cfg, .slice now.ms.A now.ms.l.length now.ms.c] 37))
  replace HS := Lib.hid (HS.out.alloc (.cells #[.int .i64 now.f, .int .i64 now.cfg, .slice now.ms.A now.ms.l.length now.ms.c] 37))
  replace T1 := Lib.hid (T1.out.alloc (.cells #[.int .i64 now.f, .int .i64 now.cfg, .slice now.ms.A now.ms.l.length now.ms.c] 37))
  replace B1 := Lib.hid (B1.out.alloc (.cells #[.int .i64 now.f, .int .i64 now.cfg, .slice now.ms.A now.ms.l.length now.ms.c] 37))
  have D1 := Lib.hid (Blk.newH w5 [.int .i64 now.f, .int .i64 now.cfg, .slice now.ms.A now.ms.l.length now.ms.c] 37 (w5.heap.size) (by first | rfl | simp))
  have q0 := T1.out.c 0 _ rfl
  have q1 := T1.out.c 1 _ rfl
  have q2 := T1.out.c 2 _ rfl
  have q3 := T1.out.c 3 _ rfl
  have q4 := T1.out.c 4 _ rfl
  have q5 := T1.out.c 5 _ rfl
  have q6 := T1.out.lt
  have q7 := D1.out.c 0 _ rfl
  have q8 := D1.out.c 1 _ rfl
  have q9 := D1.out.c 2 _ rfl
  have q10 := D1.out.lt
  have e5 : decide (now.cfg < 0) = false := decide_eq_false (by omega)
  have e6 : decide (now.cfg ≥ (t.cs.l.length : Int)) = false := decide_eq_false (by omega)
  go_wp2_with fail
  clear e5 e6 q0 q1 q2 q3 q4 q5 q6 q7 q8 q9 q10
  obtain ⟨w6, hNw6⟩ : ∃ W0, W0 = (w5.alloc (.cells #[.int .i64 now.f, .int .i64 now.cfg, .slice now.ms.A now.ms.l.length now.ms.c] 37)) := ⟨_, rfl⟩
  rw [← hNw6] at E HT HS T1 B1 D1 ⊢
  clear hNw6
  have HFEW := Lib.hid (HRw2.out (by simp))
  obtain ⟨g, p1, o1, hg, hA1, hp1, hcg⟩ := HT.out.2.1.slc.at_ (k := now.cfg.toNat) (by omega)
  have HGO := Lib.hid (HT.out.2.1.all (List.mem_of_getElem? hg))
  have HDV := Lib.hid (div_of HTO.out.div (List.mem_of_getElem? hg))
  have HG := Lib.hid hg
  have HGF := Lib.hid (HFEW.out.2.c g (List.mem_of_getElem? hg))
  have hg2 := hcg 2 _ rfl
  have HA1 := Lib.hid hA1
  have HSZ := HT.out.1.len
  have hn64 := HTO.out.n1
  have hgl := HGF.out
  clear hg hA1 hcg
  go_loopw [9] (fun i wr => ∃ k : Nat, (k : Int) ≤ t.n ∧ i = .int .i64 k ∧ Hid (Below w6.heap.size w6 wr)) (fun i _ => t.n.toNat - (intOf i).toNat)
  case atStart => exact ⟨0, by have := HTO.out.n0; omega, rfl, ext_refl _⟩
  case round =>
    obtain ⟨k, hk, rfl, HR⟩ := hrel
    replace E := Lib.hid (ext_trans E.out HR.out)
    replace HT := Lib.hid (HT.out.ext HR.out)
    replace HS := Lib.hid (HS.out.ext HR.out)
    replace T1 := Lib.hid (T1.out.ext HR.out)
    replace B1 := Lib.hid (B1.out.ext HR.out)
    replace D1 := Lib.hid (D1.out.ext HR.out)
    have hg3 := (HR.out.cell (p := ⟨p1, o1 + now.cfg.toNat * 3 + 2, none⟩) hp1).trans hg2
    have hp2 : p1 < wr.heap.size := by have := HR.out.size; omega
    have HGO2 := Lib.hid (HGO.out.ext HR.out)
    by_cases hlt : (k : Int) < t.n
    rotate_left
    · have e1 : decide ((k : Int) < t.n) = false := decide_eq_false hlt
      have q0 := T1.out.c 0 _ rfl
      have q1 := T1.out.c 1 _ rfl
      have q2 := T1.out.c 2 _ rfl
      have q3 := T1.out.c 3 _ rfl
      have q4 := T1.out.c 4 _ rfl
      have q5 := T1.out.c 5 _ rfl
      have q6 := T1.out.lt
      go_wp2_with fail
      go_ret
      exact ⟨rfl, E.out⟩
    have e1 : decide ((k : Int) < t.n) = true := decide_eq_true hlt
    obtain ⟨s0, hs0⟩ := HDV.out.sec (v := (k : Int)) (by omega) (by omega)
    have HSR := Lib.hid (secR_at HNW.out f0 f1 HG.out hs0)
    have HSM := Lib.hid (secOf_mem hs0)
    have HMY := Lib.hid (HDV.out.many (v := (k : Int)) (by omega) (by omega))
    clear hs0
    have q0 := T1.out.c 0 _ rfl
    have q1 := T1.out.c 1 _ rfl
    have q2 := T1.out.c 2 _ rfl
    have q3 := T1.out.c 3 _ rfl
    have q4 := T1.out.c 4 _ rfl
    have q5 := T1.out.c 5 _ rfl
    have q6 := T1.out.lt
    have q7 := B1.out.c 0 _ rfl
    have q8 := B1.out.lt
    go_wp2_with fail
    clear e1
    refine (sec_d s0 true (by rw [HSR.out]; rfl) (by rw [HSR.out]; rfl) rfl HT.out HS.out).mono ?_
    rintro e u1 ⟨rfl, B⟩
    clear q0 q1 q2 q3 q4 q5 q6 q7 q8
    replace E := Lib.hid (ext_trans E.out B)
    replace HT := Lib.hid (HT.out.ext B)
    replace HS := Lib.hid (HS.out.ext B)
    replace T1 := Lib.hid (T1.out.ext B)
    replace B1 := Lib.hid (B1.out.ext B)
    replace D1 := Lib.hid (D1.out.ext B)
    replace hg3 := (B.cell (p := ⟨p1, o1 + now.cfg.toNat * 3 + 2, none⟩) hp2).trans hg3
    replace hp2 : p1 < u1.heap.size := by have := B.size; omega
    replace HR := Lib.hid (ext_trans HR.out B)
    replace HGO2 := Lib.hid (HGO2.out.ext B)
    clear B
    have b0 := T1.out.c 0 _ rfl
    have b1 := T1.out.c 1 _ rfl
    have b2 := T1.out.c 2 _ rfl
    have b4 := T1.out.lt
    rw [HA1.out] at b2
    have d1 := D1.out.c 1 _ rfl
    have dl := D1.out.lt
    have hcl : now.cfg < (t.cs.l.length : Int) := f1
    have HE := E
    go_wp2_with fail
    go_loopw [12, 13, 14] (fun a b i wr2 => ∃ j : Nat, j ≤ g.ss.l.length ∧ i = .int .i64 j ∧ a = .int .i64 (manyS t.ss.l k (g.ss.l.take j) : Nat) ∧ b = .bool (metS t.ss.l k s0 (g.ss.l.take j)) ∧ wr2 = u1) (fun _ _ i _ => g.ss.l.length - (intOf i).toNat)
    case atStart => exact ⟨0, Nat.zero_le _, rfl, rfl, rfl, rfl⟩
    case round =>
      obtain ⟨j, hj, rfl, rfl, rfl, hw⟩ := hrel
      obtain rfl : u1 = wr := hw.symm
      by_cases hjt : j < g.ss.l.length
      rotate_left
      · have e1 : decide ((j : Int) < g.ss.l.length) = false := decide_eq_false (by omega)
        have hm1 : manyS t.ss.l k (g.ss.l.take j) = 1 := by rw [List.take_of_length_le (by omega)]; exact HMY.out
        have hm2 : metS t.ss.l k s0 (g.ss.l.take j) = true := by
          rw [List.take_of_length_le (by omega)]
          exact List.any_eq_true.2 ⟨s0, HSM.out.1, by simp [HSM.out.2.2.2]⟩
        rw [hm1, hm2]
        go_wp2_with fail
        first | exact ⟨⟨k + 1, by omega, by go_num, HR.out⟩, by simp [intOf] <;> omega⟩ | (go_roundw; all_goals first | exact ⟨k + 1, by omega, by go_num, HR.out⟩ | (simp [intOf] <;> omega))
      have hjt' : (j : Int) < g.ss.l.length := by omega
      obtain ⟨x, p3, o3, hx, hA3, hp3, hcx⟩ := HGO2.out.2.2.slc.at_ hjt
      have HX := Lib.hid hx
      have HA3 := Lib.hid hA3
      have c0 := hcx 0 _ rfl
      simp only [Nat.mul_one, Nat.add_zero] at c0
      obtain ⟨x0, x1⟩ := HDV.out.inx x (List.mem_of_getElem? hx)
      have hle := manyS_le (v := (k : Int)) HDV.out.nod j
      rw [hA3] at hg3
      clear hx hA3 hcx
      obtain ⟨y, p4, o4, hy, hA4, hp4, hcy⟩ := HT.out.1.slc.at_ (k := x.toNat) (by omega)
      have HA4 := Lib.hid hA4
      have HYO := Lib.hid (HT.out.1.all (List.mem_of_getElem? hy))
      have HYF := HFEW.out.2.s y (List.mem_of_getElem? hy)
      have HYV := Lib.hid (volsAt_of hy)
      have y2 := hcy 2 _ rfl
      rw [hA4] at b1
      clear hy hA4 hcy
      obtain ⟨mn, hmn⟩ : ∃ q, manyS t.ss.l k (g.ss.l.take j) = q := ⟨_, rfl⟩
      obtain ⟨mt, hmt⟩ : ∃ q, metS t.ss.l k s0 (g.ss.l.take j) = q := ⟨_, rfl⟩
      rw [hmn] at hle ⊢
      rw [hmt]
      have HMN := Lib.hid (manyS_take (ss := t.ss.l) (v := (k : Int)) HX.out)
      have HMT := Lib.hid (metS_take (ss := t.ss.l) (v := (k : Int)) (n := s0) HX.out)
      rw [hmn, HYV.out] at HMN
      rw [hmt, HYV.out] at HMT
      clear hmn hmt
      have f3 : decide (x < 0) = false := decide_eq_false (by omega)
      have f4 : decide (x ≥ (t.ss.l.length : Int)) = false := decide_eq_false (by omega)
      go_wp2_with fail
      clear f3 f4
      go_loopw [12, 13, 16] (fun a b i wr3 => ∃ i2 : Nat, i2 ≤ y.vs.l.length ∧ i = .int .i64 i2 ∧ a = .int .i64 ((mn + (y.vs.l.take i2).count (k : Int) : Nat) : Int) ∧ b = .bool (mt || (decide ((k : Int) ∈ y.vs.l.take i2) && x == s0)) ∧ wr3 = u1) (fun _ _ i _ => y.vs.l.length - (intOf i).toNat)
      case atStart => exact ⟨0, Nat.zero_le _, rfl, by simp, by simp, rfl⟩
      case round =>
        obtain ⟨i2, hi2, rfl, rfl, rfl, hw⟩ := hrel
        obtain rfl : u1 = wr := hw.symm
        by_cases hit : i2 < y.vs.l.length
        rotate_left
        · have e1 : decide ((i2 : Int) < y.vs.l.length) = false := decide_eq_false (by omega)
          rw [List.take_of_length_le (by omega)]
          have HMN2 := HMN.out
          have HMT2 := HMT.out
          rw [← HMN2, ← HMT2]
          go_wp2_with fail
          first | exact ⟨⟨j + 1, by omega, by go_num, by first | rfl | trivial, by first | rfl | trivial, by first | rfl | trivial⟩, by simp [intOf] <;> omega⟩ | (go_roundw; all_goals first | exact ⟨j + 1, by omega, by go_num, by first | rfl | trivial, by first | rfl | trivial, by first | rfl | trivial⟩ | (simp [intOf] <;> omega))
        have hit' : (i2 : Int) < y.vs.l.length := by omega
        obtain ⟨z, p5, o5, hz, hA5, hp5, hcz⟩ := HYO.out.2.2.slc.at_ hit
        have z0 := hcz 0 _ rfl
        simp only [Nat.mul_one, Nat.add_zero] at z0
        have hct : (y.vs.l.take i2).count (k : Int) ≤ i2 := Nat.le_trans List.count_le_length (by rw [List.length_take]; omega)
        have HCT := Lib.hid (cnt_take (v := (k : Int)) hz)
        have HME := Lib.hid (mem_take (v := (k : Int)) hz)
        rw [hA5] at y2
        clear hz hA5 hcz
        obtain ⟨cn, hcn⟩ : ∃ q, (y.vs.l.take i2).count (k : Int) = q := ⟨_, rfl⟩
        obtain ⟨bm, hbm⟩ : ∃ q, decide ((k : Int) ∈ y.vs.l.take i2) = q := ⟨_, rfl⟩
        rw [hcn] at HCT hct ⊢
        rw [hbm] at HME ⊢
        clear hcn hbm
        by_cases hzk : z = k
        · have e2 : (z == (k : Int)) = true := by simpa using hzk
          have hwr : IntKind.i64.wrap (((mn + cn : Nat) : Int) + 1) = ((mn + cn + 1 : Nat) : Int) := by rw [IntWalk.i64_in _ (by omega)]; omega
          have h1 : Hid ((y.vs.l.take (i2 + 1)).count (k : Int) = cn + 1) := HCT.out.trans (by rw [if_pos hzk])
          have h2 : Hid (decide ((k : Int) ∈ y.vs.l.take (i2 + 1)) = true) := by rw [HME.out]; simp [Hid, hzk]
          have h3 : Hid ((mt || (bm && x == s0) || x == s0) = (mt || (true && x == s0))) := by cases mt <;> cases bm <;> cases (x == s0) <;> rfl
          clear hzk HCT HME
          obtain ⟨m9, hm9⟩ : ∃ q, (mt || (bm && x == s0)) = q := ⟨_, rfl⟩
          obtain ⟨c9, hc9⟩ : ∃ q, mn + cn = q := ⟨_, rfl⟩
          rw [hm9] at h3 ⊢
          rw [hc9] at hwr ⊢
          have H9 := Lib.hid hc9
          clear hm9 hc9
          obtain ⟨e9, he9⟩ : ∃ q, (x == s0) = q := ⟨_, rfl⟩
          rw [he9] at h3
          have turn : ∃ i3 : Nat, i3 ≤ y.vs.l.length ∧ Value.int .i64 ((i2 : Int) + 1) = .int .i64 i3 ∧ Value.int .i64 ((c9 + 1 : Nat) : Int) = .int .i64 ((mn + (y.vs.l.take i3).count (k : Int) : Nat) : Int) ∧ Value.bool (m9 || e9) = .bool (mt || (decide ((k : Int) ∈ y.vs.l.take i3) && x == s0)) ∧ u1 = u1 :=
            ⟨i2 + 1, by omega, by go_num, by rw [h1.out, ← H9.out]; rfl, by rw [h2.out, he9]; exact congrArg Value.bool h3.out, rfl⟩
          have TURN := Lib.hid turn
          clear turn
          cases m9
          · go_wp2_with fail
            first
              | exact ⟨TURN.out, by simp [intOf] <;> omega⟩
              | (go_roundw; all_goals first | exact TURN.out | simpa using TURN.out | (simp [intOf] <;> omega))
          · go_wp2_with fail
            first
              | exact ⟨TURN.out, by simp [intOf] <;> omega⟩
              | (go_roundw; all_goals first | exact TURN.out | simpa using TURN.out | (simp [intOf] <;> omega))
        · have e2 : (z == (k : Int)) = false := by simpa using hzk
          have h1 : Hid ((y.vs.l.take (i2 + 1)).count (k : Int) = cn) := HCT.out.trans (by rw [if_neg hzk]; rfl)
          have h2 : Hid (decide ((k : Int) ∈ y.vs.l.take (i2 + 1)) = bm) := by rw [HME.out]; simp [Hid, hzk]
          clear hzk HCT HME
          go_wp2_with fail
          first | exact ⟨⟨i2 + 1, by omega, by go_num, by rw [h1.out], by rw [h2.out], by first | rfl | trivial⟩, by simp [intOf] <;> omega⟩ | (go_roundw; all_goals first | exact ⟨i2 + 1, by omega, by go_num, by rw [h1.out], by rw [h2.out], by first | rfl | trivial⟩ | (simp [intOf] <;> omega))
end Go.Proofs.Ytilocjliplmmpaa
