/- Stations: the reference's. -/
import Derived.Test.YtjiojpoiocdnmaaGreatNC
import Derived.Test.YtjiojpoiocdnmaaGreatU7
set_option linter.unusedSimpArgs false
set_option linter.unusedVariables false
namespace Go.Proofs.YtjiojpoiocdnmaaGreat
open Go.RowKit
structure Prv (l : List Int) (k : Nat) (last : Int) : Prop where
  lo : -1 ≤ last
  zero : k = 0 → last = -1
  prev : ∀ j, k = j + 1 → l[j]? = some last
theorem Prv.next {l : List Int} {k : Nat} {v : Int} (h0 : 0 ≤ v) (hv : l[k]? = some v) : Prv l (k + 1) v :=
  ⟨by omega, fun h => by omega, fun j h => by
    have e : j = k := by omega
    rw [e]; exact hv⟩
set_option maxRecDepth 100000 in
set_option maxHeartbeats 16000000 in
theorem rstn_any (n : Int) (s : Stn) (w : World) (hs : Stn.ok w s) : Calls Tryz.prog 61 #[.int .i64 n, s.v] w (RetE w (stnE n s)) := by
  obtain ⟨E, hE⟩ : ∃ q, stnE n s = q := ⟨_, rfl⟩
  rw [hE]
  have HE := Lib.hid hE
  clear hE
  have HD : Hid (stnB n s = (inn n 1 64 && inn s.sh 0 3 && inn s.fa 0 3 && decide (0 < s.vs.l.length) && risB n (-1) s.vs.l)) := rfl
  obtain ⟨W, hW⟩ : ∃ W, w.alloc (.cells #[.slice s.vs.A s.vs.l.length s.vs.c, .int .i64 s.sh, .int .i64 s.fa] 41) = W := ⟨_, rfl⟩
  have HB : Hid (Blk W w.heap.size s.cells) := by rw [← hW]; exact Blk.newH w s.cells 41 w.heap.size rfl
  have HW : Hid (Below w.heap.size w W) := by rw [← hW]; exact ext_alloc (ext_refl w) _
  have HSO : Hid (SliceOf.ok ic 1 (fun _ n => (Lit.int .i64 n).wf = true) W s.vs) := ints.ext (show SliceOf.ok ic 1 (fun _ n => (Lit.int .i64 n).wf = true) w s.vs from hs) HW.out
  have hsl := SliceOf.ok.len hs
  unfold maxLen at hsl
  have c0 := HB.out.c 0 _ rfl
  have c1 := HB.out.c 1 _ rfl
  have c2 := HB.out.c 2 _ rfl
  have bl := HB.out.lt
  clear hs
  go_enter Tryz.func61, Tryz.ntmps61
  go_wp2_with fail
  clear hW
  cases k1 : inn n 1 64
  · refine (inq_at false k1).mono ?_
    rintro e w1 ⟨rfl, rfl⟩
    have HR : Hid (E = 220) := by rw [← HE.out, stnE_of (b := false) (by rw [HD.out, k1]; rfl)]; rfl
    clear k1
    go_wp2_with fail
    go_ret
    rw [HR.out]
    exact ⟨rfl, HW.out⟩
  have hnn := k1
  simp only [inn, Bool.and_eq_true, decide_eq_true_eq] at hnn
  obtain ⟨n0, n1⟩ := hnn
  refine (inq_at true k1).mono ?_
  rintro e w1 ⟨rfl, rfl⟩
  have Hk1 := Lib.hid k1
  clear k1
  by_cases h1 : s.vs.l.length = 0
  · have e1 : ((s.vs.l.length : Int) == 0) = true := beq_iff_eq.2 (by omega)
    have HR : Hid (E = 220) := by rw [← HE.out, stnE_of (b := false) (by rw [HD.out, h1]; simp)]; rfl
    clear h1
    go_wp2_with fail
    go_ret
    rw [HR.out]
    exact ⟨rfl, HW.out⟩
  have e1 : ((s.vs.l.length : Int) == 0) = false := beq_eq_false_iff_ne.2 (by omega)
  have hsp : 0 < s.vs.l.length := by omega
  clear h1
  go_wp2_with fail
  cases k2 : inn s.sh 0 3
  · refine (inq_at false k2).mono ?_
    rintro e w1 ⟨rfl, rfl⟩
    have HR : Hid (E = 220) := by rw [← HE.out, stnE_of (b := false) (by rw [HD.out, k2]; simp)]; rfl
    clear k2
    go_wp2_with fail
    go_ret
    rw [HR.out]
    exact ⟨rfl, HW.out⟩
  refine (inq_at true k2).mono ?_
  rintro e w1 ⟨rfl, rfl⟩
  have Hk2 := Lib.hid k2
  clear k2
  go_wp2_with fail
  cases k3 : inn s.fa 0 3
  · refine (inq_at false k3).mono ?_
    rintro e w1 ⟨rfl, rfl⟩
    have HR : Hid (E = 220) := by rw [← HE.out, stnE_of (b := false) (by rw [HD.out, k3]; simp)]; rfl
    clear k3
    go_wp2_with fail
    go_ret
    rw [HR.out]
    exact ⟨rfl, HW.out⟩
  refine (inq_at true k3).mono ?_
  rintro e w1 ⟨rfl, rfl⟩
  have Hk3 := Lib.hid k3
  clear k3
  have HZ : Hid (stnB n s = risB n (-1) s.vs.l) := by rw [HD.out, Hk1.out, Hk2.out, Hk3.out, decide_eq_true hsp]; rfl
  clear HD Hk1 Hk2 Hk3
  go_wp2_with fail
  clear c0 c1 c2 bl e1
  have hwn : IntKind.i64.wrap (n - 1) = n - 1 := IntWalk.i64_in _ (by omega)
  go_loopw [5] (fun i wr => ∃ (k : Nat) (last : Int), k ≤ s.vs.l.length ∧ i = .int .i64 k ∧ Hid (Prv s.vs.l k last) ∧ Hid (stnB n s = risB n last (s.vs.l.drop k)) ∧ Hid (Below W.heap.size W wr)) (fun i _ => s.vs.l.length - (intOf i).toNat)
  case atStart => exact ⟨0, -1, Nat.zero_le _, rfl, ⟨by omega, fun _ => rfl, fun j h => by omega⟩, HZ.out, ext_refl _⟩
  case round =>
    obtain ⟨k, last, hk, rfl, HP, HQ, HR⟩ := hrel
    have c0 := (HB.out.ext HR.out).c 0 _ rfl
    have bl := (HB.out.ext HR.out).lt
    by_cases hlt : k < s.vs.l.length
    · have hlt' : (k : Int) < s.vs.l.length := by omega
      obtain ⟨v, q1, o1, hv, hA, hb1, hc⟩ := (HSO.out.slc.ext HR.out).at_ hlt
      have HV := Lib.hid hv
      have d0 := hc 0 _ rfl
      simp only [Nat.mul_one, Nat.add_zero] at d0
      rw [hA] at c0
      have HA := Lib.hid hA
      have hlo := HP.out.lo
      clear hc hv hA
      cases hi : inn v 0 (n - 1)
      · have HI := Lib.hid hi
        have HX : Hid (E = 220) := by
          rw [← HE.out, stnE_of (b := false) (HQ.out.trans (risB_no HV.out (by simp [inn] at hi; simp; omega)))]; rfl
        clear hi
        go_wp2_with fail
        have SS := Lib.hid (show ∀ w', Below wr.heap.size wr w' → (fun w' => Below wr.heap.size wr w' ∧ w'.cell? ⟨w.heap.size, 0, none⟩ = some (.slice (some ⟨q1, o1, none⟩) s.vs.l.length s.vs.c) ∧ w'.cell? ⟨q1, o1 + k, none⟩ = some (.int .i64 v)) w' from fun w' h => ⟨h, (by have q := ((HB.out.ext HR.out).ext h).c 0 _ rfl; rw [HA.out] at q; exact q), (h.cell (p := ⟨q1, o1 + k, none⟩) hb1).trans d0⟩)
        refine rgB 27 SS (ext_drew (ext_refl _)) (fun Q7 hQ7 hN7 hHeld => ?_)
        refine rgT 0 (some 34) hQ7 hHeld ?_; refine rgT 1 (some 35) hQ7 hHeld ?_; refine rgT 2 (some 36) hQ7 hHeld ?_; refine rgT 3 (some 37) hQ7 hHeld ?_; refine rgT 4 (some 38) hQ7 hHeld ?_; refine rgT 5 (some 39) hQ7 hHeld ?_; refine rgT 6 (some 40) hQ7 hHeld ?_
        refine rg_one (i := 7) (by kernel_rfl) (rg_step rfl (by rfl) (fun K hK => ?_))
        go_simp
        refine (inqB false HI.out).mono ?_
        rintro e u1 ⟨rfl, B1⟩
        go_wp2_with fail
        refine hK.out _ _ ?_ (fun hHeld2 => ?_)
        · exact SS.out _ (ext_trans hHeld.1 B1)
        clear hHeld
        have hHeld := hHeld2
        clear hHeld2
        clear hK K
        try simp only [Act.put, List.setIfInBounds_toArray, List.set_cons_zero, List.set_cons_succ]
        refine rgT 8 (some 42) hQ7 hHeld ?_; refine rgT 9 (some 43) hQ7 hHeld ?_; refine rgS 10 (some 44) hQ7 hHeld ?_; refine rgS 11 (some 45) hQ7 hHeld ?_; refine rgS 12 (some 46) hQ7 hHeld ?_; refine rgS 13 (some 47) hQ7 hHeld ?_; refine rgS 14 (some 48) hQ7 hHeld ?_; refine rgS 15 (some 49) hQ7 hHeld ?_; refine rgS 16 (some 50) hQ7 hHeld ?_; refine rgS 17 (some 51) hQ7 hHeld ?_; refine rgS 18 (some 52) hQ7 hHeld ?_
        refine rgS 19 (some 53) hQ7 hHeld ?_; refine rgS 20 (some 54) hQ7 hHeld ?_; refine rgS 21 (some 55) hQ7 hHeld ?_; refine rgS 22 (some 56) hQ7 hHeld ?_; refine rgS 23 (some 57) hQ7 hHeld ?_; refine rgS 24 (some 58) hQ7 hHeld ?_; refine rgS 25 (some 59) hQ7 hHeld ?_; refine rgT 26 (some 60) hQ7 hHeld ?_
        refine rg_end (by kernel_rfl) (hN7 _ _ ?_) _
        clear hQ7 hN7 Q7
        have BX := hHeld.1
        clear SS
        have HR1 := Lib.hid (ext_trans HR.out BX)
        clear BX
        go_wp2_with fail
        go_ret
        rw [HX.out]
        exact ⟨rfl, ext_trans HW.out HR1.out⟩
      have HI := Lib.hid hi
      have hi' := hi
      simp only [inn, Bool.and_eq_true, decide_eq_true_eq] at hi'
      obtain ⟨v0, v1⟩ := hi'
      clear hi
      by_cases hk0 : k = 0
      · have hl0 := HP.out.zero hk0
        have HN := Lib.hid (HQ.out.trans (risB_step HV.out (by rw [hl0]; simp; omega)))
        have HP2 : Hid (Prv s.vs.l (k + 1) v) := Prv.next v0 HV.out
        subst hk0
        simp only [Nat.zero_add, Nat.add_zero] at d0
        clear hl0
        go_wp2_with fail
        have SS := Lib.hid (show ∀ w', Below wr.heap.size wr w' → (fun w' => Below wr.heap.size wr w' ∧ w'.cell? ⟨w.heap.size, 0, none⟩ = some (.slice (some ⟨q1, o1, none⟩) s.vs.l.length s.vs.c) ∧ w'.cell? ⟨q1, o1, none⟩ = some (.int .i64 v)) w' from fun w' h => ⟨h, (by have q := ((HB.out.ext HR.out).ext h).c 0 _ rfl; rw [HA.out] at q; exact q), (h.cell (p := ⟨q1, o1, none⟩) hb1).trans d0⟩)
        refine rgB 27 SS (ext_drew (ext_refl _)) (fun Q7 hQ7 hN7 hHeld => ?_)
        refine rgT 0 (some 34) hQ7 hHeld ?_; refine rgT 1 (some 35) hQ7 hHeld ?_; refine rgT 2 (some 36) hQ7 hHeld ?_; refine rgT 3 (some 37) hQ7 hHeld ?_; refine rgT 4 (some 38) hQ7 hHeld ?_; refine rgT 5 (some 39) hQ7 hHeld ?_; refine rgT 6 (some 40) hQ7 hHeld ?_
        refine rg_one (i := 7) (by kernel_rfl) (rg_step rfl (by rfl) (fun K hK => ?_))
        go_simp
        refine (inqB true HI.out).mono ?_
        rintro e u1 ⟨rfl, B1⟩
        go_wp2_with fail
        refine hK.out _ _ ?_ (fun hHeld2 => ?_)
        · exact SS.out _ (ext_trans hHeld.1 B1)
        clear hHeld
        have hHeld := hHeld2
        clear hHeld2
        clear hK K
        try simp only [Act.put, List.setIfInBounds_toArray, List.set_cons_zero, List.set_cons_succ]
        refine rgT 8 (some 42) hQ7 hHeld ?_; refine rgT 9 (some 43) hQ7 hHeld ?_; refine rgT 10 (some 44) hQ7 hHeld ?_; refine rgT 11 (some 45) hQ7 hHeld ?_; refine rgT 12 (some 46) hQ7 hHeld ?_; refine rgS 13 (some 47) hQ7 hHeld ?_; refine rgS 14 (some 48) hQ7 hHeld ?_; refine rgS 15 (some 49) hQ7 hHeld ?_; refine rgS 16 (some 50) hQ7 hHeld ?_; refine rgS 17 (some 51) hQ7 hHeld ?_; refine rgS 18 (some 52) hQ7 hHeld ?_
        refine rgS 19 (some 53) hQ7 hHeld ?_; refine rgS 20 (some 54) hQ7 hHeld ?_; refine rgS 21 (some 55) hQ7 hHeld ?_; refine rgS 22 (some 56) hQ7 hHeld ?_; refine rgS 23 (some 57) hQ7 hHeld ?_; refine rgS 24 (some 58) hQ7 hHeld ?_; refine rgT 25 (some 59) hQ7 hHeld ?_; refine rgT 26 (some 60) hQ7 hHeld ?_
        refine rg_end (by kernel_rfl) (hN7 _ _ ?_) _
        clear hQ7 hN7 Q7
        have BX := hHeld.1
        clear SS
        have HR1 := Lib.hid (ext_trans HR.out BX)
        clear BX d0 c0 bl
        go_wp2_with fail
        first | exact ⟨⟨0 + 1, v, by omega, by go_num, HP2.out, HN.out, HR1.out⟩, by simp [intOf] <;> omega⟩ | (go_roundw; all_goals first | exact ⟨0 + 1, v, by omega, by go_num, HP2.out, HN.out, HR1.out⟩ | (simp [intOf] <;> omega))
      · have hk2 : 0 < k := by omega
        obtain ⟨j, hj⟩ : ∃ j, k = j + 1 := ⟨k - 1, by omega⟩
        have HPV := Lib.hid (HP.out.prev j hj)
        obtain ⟨u, q2, o2, hu, hA2, hb2, hc2⟩ := (HSO.out.slc.ext HR.out).at_ (k := j) (by omega)
        have hul : u = last := Option.some.inj (hu.symm.trans HPV.out)
        subst hul
        rw [HA.out] at hA2
        cases hA2
        have f0 := hc2 0 _ rfl
        simp only [Nat.mul_one, Nat.add_zero] at f0
        have hw1 : IntKind.i64.wrap ((k : Int) - 1) = (j : Int) := by rw [IntWalk.i64_in _ (by omega)]; omega
        have hj1 : (j : Int) < s.vs.l.length := by omega
        clear hu hc2
        have HJ := Lib.hid hj
        clear hj hk0
        by_cases hg : u ≥ v
        · have e4 : decide (u ≥ v) = true := decide_eq_true hg
          have HX : Hid (E = 220) := by rw [← HE.out, stnE_of (b := false) (HQ.out.trans (risB_no HV.out (by simp; omega)))]; rfl
          clear hg
          go_wp2_with fail
          have SS := Lib.hid (show ∀ w', Below wr.heap.size wr w' → (fun w' => Below wr.heap.size wr w' ∧ w'.cell? ⟨w.heap.size, 0, none⟩ = some (.slice (some ⟨q1, o1, none⟩) s.vs.l.length s.vs.c) ∧ w'.cell? ⟨q1, o1 + k, none⟩ = some (.int .i64 v) ∧ w'.cell? ⟨q1, o1 + j, none⟩ = some (.int .i64 u)) w' from fun w' h => ⟨h, (by have q := ((HB.out.ext HR.out).ext h).c 0 _ rfl; rw [HA.out] at q; exact q), (h.cell (p := ⟨q1, o1 + k, none⟩) hb1).trans d0, (h.cell (p := ⟨q1, o1 + j, none⟩) hb1).trans f0⟩)
          refine rgB 27 SS (ext_drew (ext_refl _)) (fun Q7 hQ7 hN7 hHeld => ?_)
          refine rgT 0 (some 34) hQ7 hHeld ?_; refine rgT 1 (some 35) hQ7 hHeld ?_; refine rgT 2 (some 36) hQ7 hHeld ?_; refine rgT 3 (some 37) hQ7 hHeld ?_; refine rgT 4 (some 38) hQ7 hHeld ?_; refine rgT 5 (some 39) hQ7 hHeld ?_; refine rgT 6 (some 40) hQ7 hHeld ?_
          refine rg_one (i := 7) (by kernel_rfl) (rg_step rfl (by rfl) (fun K hK => ?_))
          go_simp
          refine (inqB true HI.out).mono ?_
          rintro e u1 ⟨rfl, B1⟩
          go_wp2_with fail
          refine hK.out _ _ ?_ (fun hHeld2 => ?_)
          · exact SS.out _ (ext_trans hHeld.1 B1)
          clear hHeld
          have hHeld := hHeld2
          clear hHeld2
          clear hK K
          try simp only [Act.put, List.setIfInBounds_toArray, List.set_cons_zero, List.set_cons_succ]
          refine rgT 8 (some 42) hQ7 hHeld ?_; refine rgT 9 (some 43) hQ7 hHeld ?_; refine rgT 10 (some 44) hQ7 hHeld ?_; refine rgT 11 (some 45) hQ7 hHeld ?_; refine rgT 12 (some 46) hQ7 hHeld ?_; refine rgT 13 (some 47) hQ7 hHeld ?_; refine rgT 14 (some 48) hQ7 hHeld ?_; refine rgT 15 (some 49) hQ7 hHeld ?_; refine rgT 16 (some 50) hQ7 hHeld ?_; refine rgT 17 (some 51) hQ7 hHeld ?_; refine rgT 18 (some 52) hQ7 hHeld ?_
          refine rgT 19 (some 53) hQ7 hHeld ?_; refine rgT 20 (some 54) hQ7 hHeld ?_; refine rgT 21 (some 55) hQ7 hHeld ?_; refine rgT 22 (some 56) hQ7 hHeld ?_; refine rgT 23 (some 57) hQ7 hHeld ?_; refine rgT 24 (some 58) hQ7 hHeld ?_; refine rgT 25 (some 59) hQ7 hHeld ?_; refine rgT 26 (some 60) hQ7 hHeld ?_
          refine rg_end (by kernel_rfl) (hN7 _ _ ?_) _
          clear hQ7 hN7 Q7
          have BX := hHeld.1
          clear SS
          have HR1 := Lib.hid (ext_trans HR.out BX)
          clear BX
          go_wp2_with fail
          go_ret
          rw [HX.out]
          exact ⟨rfl, ext_trans HW.out HR1.out⟩
        · have e4 : decide (u ≥ v) = false := decide_eq_false hg
          have HN := Lib.hid (HQ.out.trans (risB_step HV.out (by simp; omega)))
          have HP2 : Hid (Prv s.vs.l (k + 1) v) := Prv.next v0 HV.out
          clear hg
          go_wp2_with fail
          have SS := Lib.hid (show ∀ w', Below wr.heap.size wr w' → (fun w' => Below wr.heap.size wr w' ∧ w'.cell? ⟨w.heap.size, 0, none⟩ = some (.slice (some ⟨q1, o1, none⟩) s.vs.l.length s.vs.c) ∧ w'.cell? ⟨q1, o1 + k, none⟩ = some (.int .i64 v) ∧ w'.cell? ⟨q1, o1 + j, none⟩ = some (.int .i64 u)) w' from fun w' h => ⟨h, (by have q := ((HB.out.ext HR.out).ext h).c 0 _ rfl; rw [HA.out] at q; exact q), (h.cell (p := ⟨q1, o1 + k, none⟩) hb1).trans d0, (h.cell (p := ⟨q1, o1 + j, none⟩) hb1).trans f0⟩)
          refine rgB 27 SS (ext_drew (ext_refl _)) (fun Q7 hQ7 hN7 hHeld => ?_)
          refine rgT 0 (some 34) hQ7 hHeld ?_; refine rgT 1 (some 35) hQ7 hHeld ?_; refine rgT 2 (some 36) hQ7 hHeld ?_; refine rgT 3 (some 37) hQ7 hHeld ?_; refine rgT 4 (some 38) hQ7 hHeld ?_; refine rgT 5 (some 39) hQ7 hHeld ?_; refine rgT 6 (some 40) hQ7 hHeld ?_
          refine rg_one (i := 7) (by kernel_rfl) (rg_step rfl (by rfl) (fun K hK => ?_))
          go_simp
          refine (inqB true HI.out).mono ?_
          rintro e u1 ⟨rfl, B1⟩
          go_wp2_with fail
          refine hK.out _ _ ?_ (fun hHeld2 => ?_)
          · exact SS.out _ (ext_trans hHeld.1 B1)
          clear hHeld
          have hHeld := hHeld2
          clear hHeld2
          clear hK K
          try simp only [Act.put, List.setIfInBounds_toArray, List.set_cons_zero, List.set_cons_succ]
          refine rgT 8 (some 42) hQ7 hHeld ?_; refine rgT 9 (some 43) hQ7 hHeld ?_; refine rgT 10 (some 44) hQ7 hHeld ?_; refine rgT 11 (some 45) hQ7 hHeld ?_; refine rgT 12 (some 46) hQ7 hHeld ?_; refine rgT 13 (some 47) hQ7 hHeld ?_; refine rgT 14 (some 48) hQ7 hHeld ?_; refine rgT 15 (some 49) hQ7 hHeld ?_; refine rgT 16 (some 50) hQ7 hHeld ?_; refine rgT 17 (some 51) hQ7 hHeld ?_; refine rgT 18 (some 52) hQ7 hHeld ?_
          refine rgT 19 (some 53) hQ7 hHeld ?_; refine rgT 20 (some 54) hQ7 hHeld ?_; refine rgT 21 (some 55) hQ7 hHeld ?_; refine rgT 22 (some 56) hQ7 hHeld ?_; refine rgT 23 (some 57) hQ7 hHeld ?_; refine rgT 24 (some 58) hQ7 hHeld ?_; refine rgT 25 (some 59) hQ7 hHeld ?_; refine rgT 26 (some 60) hQ7 hHeld ?_
          refine rg_end (by kernel_rfl) (hN7 _ _ ?_) _
          clear hQ7 hN7 Q7
          have BX := hHeld.1
          clear SS
          have HR1 := Lib.hid (ext_trans HR.out BX)
          clear BX d0 f0 c0 bl
          go_wp2_with fail
          first | exact ⟨⟨k + 1, v, by omega, by go_num, HP2.out, HN.out, HR1.out⟩, by simp [intOf] <;> omega⟩ | (go_roundw; all_goals first | exact ⟨k + 1, v, by omega, by go_num, HP2.out, HN.out, HR1.out⟩ | (simp [intOf] <;> omega))
    · have hlt' : decide ((k : Int) < s.vs.l.length) = false := decide_eq_false (by omega)
      have hd : s.vs.l.drop k = [] := List.drop_eq_nil_of_le (by omega)
      rw [hd] at HQ
      have HX : Hid (E = 0) := by rw [← HE.out, stnE_of (b := true) HQ.out]; rfl
      clear hd
      go_wp2_with fail
      go_ret
      rw [HX.out]
      exact ⟨rfl, ext_trans HW.out HR.out⟩
theorem rstn_at {n : Int} {s : Stn} {w : World} (e : Int) (he : stnE n s = e) (hs : Stn.ok w s) : Calls Tryz.prog 61 #[.int .i64 n, s.v] w (RetE w e) := by
  subst he; exact rstn_any n s w hs
end Go.Proofs.YtjiojpoiocdnmaaGreat
/- Sector. -/
set_option linter.unusedSimpArgs false
set_option linter.unusedVariables false
namespace Go.Proofs.YtjiojpoiocdnmaaGreat
open Go.RowKit
theorem volsAt_of {l : List Sec} {s : Int} {x : Sec} (h : l[s.toNat]? = some x) : volsAt l s = x.vs.l := by simp [volsAt, h]
end Go.Proofs.YtjiojpoiocdnmaaGreat
