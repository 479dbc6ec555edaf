/- The reference's check of tables. -/
import Derived.Test.YtjiojpoiocdnmaaGreatZC
set_option linter.unusedSimpArgs false
set_option linter.unusedVariables false
namespace Go.Proofs.YtjiojpoiocdnmaaGreat
open Go.RowKit
structure RC (t : Tab) : Prop where
 n : inn t.n 1 64 = true
 d : chkD t.n.toNat t.ss.l t.cs.l = true
 m : t.ms.l.length ≤ 16
 w : t.ws.l.length ≤ 64
 k : t.ks.l.length ≤ 8
 ss : t.ss.l.all secB = true
 ms : t.ms.l.all modeB = true
 ws : t.ws.l.all (wayB t.n t.ms.l.length) = true
 ks : t.ks.l.all (kindB t.ms.l.length) = true
theorem rchkT_yes {t : Tab} (h : RC t) : rchkT t = 0 := by
 obtain ⟨h1, h2, h3, h4, h5, h6, h7, h8, h9⟩ := h
 unfold rchkT
 rw [h1, h2, decide_eq_true h3, decide_eq_true h4, decide_eq_true h5, h6, h7, h8, h9]
 rfl
theorem rchkT_no {t : Tab} (h : ¬ RC t) : rchkT t = 140 := by
 unfold rchkT
 split
 ·rename_i q
  simp only [Bool.and_eq_true, decide_eq_true_eq] at q
  obtain ⟨⟨⟨⟨⟨⟨⟨⟨q1, q2⟩, q3⟩, q4⟩, q5⟩, q6⟩, q7⟩, q8⟩, q9⟩ := q
  exact absurd ⟨q1, q2, q3, q4, q5, q6, q7, q8, q9⟩ h
 ·rfl
theorem no_of {b c : Bool} (h : b = c) (hc : c = false) (h2 : b = true) : False := by rw [h, hc] at h2; cases h2
theorem inrB {n a b : Int} {w : World} (r : Bool) (hr : inn n a b = r) : Calls Tryz.prog 67 #[.int .i64 n, .int .i64 a, .int .i64 b] w (RetB w r) :=
 (inr_at r hr).mono fun _ _ ⟨h1, h2⟩ => ⟨h1, by rw [← h2]; exact ext_refl _⟩
theorem rway_of {V : Value} {t : Tab} {x : Wy} {w : World} (r : Bool) (hV : V = t.v) (hr : wayB t.n t.ms.l.length x = r) (h1 : 1 ≤ t.n) (h64 : t.n ≤ 64) (hx : Wy.ok w x) (hm : t.ms.l.length ≤ maxLen) : Calls Tryz.prog 69 #[V, x.v] w (RetB w r) := by
 subst hV; exact rway_at r hr h1 h64 hx hm
set_option maxRecDepth 100000 in
set_option maxHeartbeats 32000000 in
theorem rchk_any (t : Tab) (w : World) (ht : Tab.ok w t) : Calls Tryz.prog 38 #[t.v] w (RetE w (chkT t)) := by
 obtain ⟨E, hE⟩ : ∃ E, chkT t = E := ⟨_, rfl⟩
 rw [hE]
 have HNO : Hid (¬ RC t → E = 140) := fun h => by rw [← hE, ← rchkT_eq]; exact rchkT_no h
 have HYES : Hid (RC t → E = 0) := fun h => by rw [← hE, ← rchkT_eq]; exact rchkT_yes h
 clear hE
 obtain ⟨W, hW⟩ : ∃ W, w.alloc (.cells #[.int .i64 t.n, .slice t.ss.A t.ss.l.length t.ss.c, .slice t.cs.A t.cs.l.length t.cs.c, .slice t.ws.A t.ws.l.length t.ws.c, .slice t.ms.A t.ms.l.length t.ms.c, .slice t.ks.A t.ks.l.length t.ks.c] 28) = W := ⟨_, rfl⟩
 have HB : Hid (Blk W w.heap.size [.int .i64 t.n, .slice t.ss.A t.ss.l.length t.ss.c, .slice t.cs.A t.cs.l.length t.cs.c, .slice t.ws.A t.ws.l.length t.ws.c, .slice t.ms.A t.ms.l.length t.ms.c, .slice t.ks.A t.ks.l.length t.ks.c]) := by rw [← hW]; exact Blk.newH w [.int .i64 t.n, .slice t.ss.A t.ss.l.length t.ss.c, .slice t.cs.A t.cs.l.length t.cs.c, .slice t.ws.A t.ws.l.length t.ws.c, .slice t.ms.A t.ms.l.length t.ms.c, .slice t.ks.A t.ks.l.length t.ks.c] 28 w.heap.size rfl
 have HE : Hid (Below w.heap.size w W) := by rw [← hW]; exact ext_alloc (ext_refl w) _
 have HT := Lib.hid (ht.ext HE.out)
 have b0 := HB.out.c 0 _ rfl
 have b1 := HB.out.c 1 _ rfl
 have b2 := HB.out.c 2 _ rfl
 have b3 := HB.out.c 3 _ rfl
 have b4 := HB.out.c 4 _ rfl
 have b5 := HB.out.c 5 _ rfl
 have bl := HB.out.lt
 have hls := HT.out.1.len
 have hlc := HT.out.2.1.len
 have hlw := HT.out.2.2.1.len
 have hlm := HT.out.2.2.2.1.len
 have hlk := HT.out.2.2.2.2.len
 unfold maxLen at hls hlc hlw hlm hlk
 clear ht
 go_enter Tryz.func38, Tryz.ntmps38
 go_wp2_with fail
 clear hW
 cases hn : inn t.n 1 64
 ·refine (rdiv_no t _ hn).mono ?_
  rintro e w1 ⟨rfl, B⟩
  have HR : Hid (E = 140) := HNO.out (fun R => by have := R.n; rw [hn] at this; cases this)
  have HE1 := Lib.hid (ext_trans HE.out B)
  clear b0 b1 b2 b3 b4 b5 bl hn B
  go_wp2_with fail
  go_ret
  rw [HR.out]
  exact ⟨rfl, ext_alloc HE1.out _⟩
 have hnn := inn_iff.1 hn
 obtain ⟨n0, n1⟩ := hnn
 refine (rdiv_any t _ n0 n1).mono ?_
 rintro e w1 ⟨vb, rfl, B⟩
 have HN := Lib.hid hn
 obtain ⟨W2, hW2⟩ : ∃ W2, w1.alloc (.cells #[.slice (some ⟨vb, 0, none⟩) t.n.toNat t.n.toNat, .slice t.ss.A t.ss.l.length t.ss.c, .slice t.cs.A t.cs.l.length t.cs.c, .slice none 0 0, .slice none 0 0, .slice none 0 0, .slice none 0 0, .slice none 0 0] 156) = W2 := ⟨_, rfl⟩
 have HBA : Hid (Blk W2 w1.heap.size [.slice (some ⟨vb, 0, none⟩) t.n.toNat t.n.toNat, .slice t.ss.A t.ss.l.length t.ss.c, .slice t.cs.A t.cs.l.length t.cs.c, .slice none 0 0, .slice none 0 0, .slice none 0 0, .slice none 0 0, .slice none 0 0]) := by rw [← hW2]; exact Blk.newH w1 [.slice (some ⟨vb, 0, none⟩) t.n.toNat t.n.toNat, .slice t.ss.A t.ss.l.length t.ss.c, .slice t.cs.A t.cs.l.length t.cs.c, .slice none 0 0, .slice none 0 0, .slice none 0 0, .slice none 0 0, .slice none 0 0] 156 w1.heap.size rfl
 have HW : Hid (Below W.heap.size W W2) := by rw [← hW2]; exact ext_alloc B _
 have HW2 := Lib.hid hW2
 clear b0 b1 b2 b3 b4 b5 bl hn B hW2
 go_wp2_with fail
 rw [HW2.out]
 clear HW2
 cases hd : chkD t.n.toNat t.ss.l t.cs.l
 ·refine (rc10_at false hd rfl rfl (HT.out.1.slc.ext HW.out) HT.out.1.len (fun x hx => (HT.out.1.all hx).ext HW.out) (HT.out.2.1.slc.ext HW.out) HT.out.2.1.len (fun x hx => (HT.out.2.1.all hx).ext HW.out) (by omega)).mono ?_
  rintro e w2 ⟨rfl, B⟩
  have HR : Hid (E = 140) := HNO.out (fun R => by have := R.d; rw [hd] at this; cases this)
  have HE1 := Lib.hid (ext_trans HE.out (ext_trans HW.out B))
  clear hd B
  go_wp2_with fail
  go_ret
  rw [HR.out]
  exact ⟨rfl, HE1.out⟩
 refine (rc10_at true hd rfl rfl (HT.out.1.slc.ext HW.out) HT.out.1.len (fun x hx => (HT.out.1.all hx).ext HW.out) (HT.out.2.1.slc.ext HW.out) HT.out.2.1.len (fun x hx => (HT.out.2.1.all hx).ext HW.out) (by omega)).mono ?_
 rintro e w2 ⟨rfl, B⟩
 have HDD := Lib.hid hd
 have HV := Lib.hid (ext_trans HW.out B)
 clear hd B
 have bl := (HB.out.ext HV.out).lt
 have b3 := (HB.out.ext HV.out).c 3 _ rfl
 have b4 := (HB.out.ext HV.out).c 4 _ rfl
 have b5 := (HB.out.ext HV.out).c 5 _ rfl
 by_cases h0 : t.ms.l.length ≤ 16
 rotate_left
 ·have e0 : decide ((t.ms.l.length : Int) > 16) = true := decide_eq_true (by omega)
  have HR : Hid (E = 140) := HNO.out (fun R => h0 R.m)
  clear h0
  go_wp2_with fail
  go_ret
  rw [HR.out]
  exact ⟨rfl, ext_trans HE.out HV.out⟩
 have e0 : decide ((t.ms.l.length : Int) > 16) = false := decide_eq_false (by omega)
 by_cases h1 : t.ws.l.length ≤ 64
 rotate_left
 ·have e1 : decide ((t.ws.l.length : Int) > 64) = true := decide_eq_true (by omega)
  have HR : Hid (E = 140) := HNO.out (fun R => h1 R.w)
  clear h1
  go_wp2_with fail
  go_ret
  rw [HR.out]
  exact ⟨rfl, ext_trans HE.out HV.out⟩
 have e1 : decide ((t.ws.l.length : Int) > 64) = false := decide_eq_false (by omega)
 by_cases h2 : t.ks.l.length ≤ 8
 rotate_left
 ·have e2 : decide ((t.ks.l.length : Int) > 8) = true := decide_eq_true (by omega)
  have HR : Hid (E = 140) := HNO.out (fun R => h2 R.k)
  clear h2
  go_wp2_with fail
  go_ret
  rw [HR.out]
  exact ⟨rfl, ext_trans HE.out HV.out⟩
 have e2 : decide ((t.ks.l.length : Int) > 8) = false := decide_eq_false (by omega)
 go_wp2_with fail
 clear b3 b4 b5 bl e0 e1 e2
 go_loopw [5] (fun i wr => ∃ k : Nat, k ≤ t.ss.l.length ∧ i = .int .i64 k ∧ Hid (t.ss.l.all secB = (t.ss.l.drop k).all secB) ∧ Hid (Below W.heap.size W wr)) (fun i _ => t.ss.l.length - (intOf i).toNat)
 case atStart => exact ⟨0, Nat.zero_le _, rfl, rfl, HV.out⟩
 case round =>
  obtain ⟨k, hk, rfl, HQ, HR⟩ := hrel
  have b1 := (HB.out.ext HR.out).c 1 _ rfl
  have bl := (HB.out.ext HR.out).lt
  by_cases hlt : k < t.ss.l.length
  ·have hlt' : (k : Int) < t.ss.l.length := by omega
   obtain ⟨x, q1, o1, hx, hA, hb1, hcx⟩ := (HT.out.1.slc.ext HR.out).at_ hlt
   have HX := Lib.hid hx
   have HXO := Lib.hid ((HT.out.1.all (List.mem_of_getElem? hx)).ext HR.out)
   have c3 := hcx 3 _ rfl
   have c4 := hcx 4 _ rfl
   rw [hA] at b1
   clear hcx hx
   have HD : Hid (secB x = (inn x.rad 0 64 && inn x.pro 0 x.rad)) := rfl
   cases hr1 : inn x.rad 0 64
   ·have HR1 := Lib.hid hr1
    have HP : Hid (secB x = false) := by rw [HD.out, hr1]; rfl
    clear HD hr1
    go_wp2_with fail
    have SS := Lib.hid (show ∀ w', Below wr.heap.size wr w' → (fun w' => Below wr.heap.size wr w' ∧ w'.cell? ⟨w.heap.size, 1, none⟩ = some (.slice (some ⟨q1, o1, none⟩) t.ss.l.length t.ss.c) ∧ w'.cell? ⟨q1, o1 + k * 5 + 3, none⟩ = some (.int .i64 x.rad) ∧ w'.cell? ⟨q1, o1 + k * 5 + 4, none⟩ = some (.int .i64 x.pro)) w' from fun w' h => ⟨h, ((HB.out.ext HR.out).ext h).c 1 _ (by first | rfl | (rw [← hA]; rfl)), (h.cell (p := ⟨q1, o1 + k * 5 + 3, none⟩) hb1).trans c3, (h.cell (p := ⟨q1, o1 + k * 5 + 4, none⟩) hb1).trans c4⟩)
    refine rgB 24 SS (ext_drew (ext_refl _)) (fun Q7 hQ7 hN7 hHeld => ?_)
    refine rgT 0 (some 46) hQ7 hHeld ?_; refine rgT 1 (some 47) hQ7 hHeld ?_; refine rgT 2 (some 48) hQ7 hHeld ?_; refine rgT 3 (some 49) hQ7 hHeld ?_; refine rgT 4 (some 50) hQ7 hHeld ?_; refine rgT 5 (some 51) hQ7 hHeld ?_
    refine rg_one (i := 6) (by kernel_rfl) (rg_step rfl (by rfl) (fun K hK => ?_))
    go_simp
    refine (inrB false HR1.out).mono ?_
    rintro e u1 ⟨rfl, B1⟩
    go_wp2_with fail
    refine hK.out _ _ ?_ (fun hHeld2 => ?_)
    ·exact SS.out _ (ext_trans hHeld.1 B1)
    clear hHeld
    have hHeld := hHeld2
    clear hHeld2
    clear hK K
    try simp only [Act.put, List.setIfInBounds_toArray, List.set_cons_zero, List.set_cons_succ]
    refine rgT 7 (some 53) hQ7 hHeld ?_; refine rgT 8 (some 54) hQ7 hHeld ?_; refine rgS 9 (some 55) hQ7 hHeld ?_; refine rgS 10 (some 56) hQ7 hHeld ?_; refine rgS 11 (some 57) hQ7 hHeld ?_; refine rgS 12 (some 58) hQ7 hHeld ?_; refine rgS 13 (some 59) hQ7 hHeld ?_; refine rgS 14 (some 60) hQ7 hHeld ?_; refine rgS 15 (some 61) hQ7 hHeld ?_; refine rgS 16 (some 62) hQ7 hHeld ?_; refine rgS 17 (some 63) hQ7 hHeld ?_
    refine rgS 18 (some 64) hQ7 hHeld ?_; refine rgS 19 (some 65) hQ7 hHeld ?_; refine rgS 20 (some 66) hQ7 hHeld ?_; refine rgS 21 (some 67) hQ7 hHeld ?_; refine rgS 22 (some 68) hQ7 hHeld ?_; refine rgT 23 (some 69) hQ7 hHeld ?_
    refine rg_end (by kernel_rfl) (hN7 _ _ ?_) _
    clear hQ7 hN7 Q7
    have BX := hHeld.1
    clear SS
    replace HR1 := Lib.hid (ext_trans HR.out BX)
    clear b1 bl BX c3 c4
    have HN : Hid (E = 140) := HNO.out (fun R => no_of (HQ.out.trans (all_noD HX.out HP.out)) rfl R.ss)
    go_wp2_with fail
    go_ret
    rw [HN.out]
    exact ⟨rfl, ext_trans HE.out HR1.out⟩
   have HI := Lib.hid hr1
   obtain ⟨r, hr⟩ : ∃ r, inn x.pro 0 x.rad = r := ⟨_, rfl⟩
   have HI2 := Lib.hid hr
   have HPP : Hid (secB x = r) := by rw [HD.out, hr1, hr]; rfl
   clear HD hr1 hr
   go_wp2_with fail
   have SS := Lib.hid (show ∀ w', Below wr.heap.size wr w' → (fun w' => Below wr.heap.size wr w' ∧ w'.cell? ⟨w.heap.size, 1, none⟩ = some (.slice (some ⟨q1, o1, none⟩) t.ss.l.length t.ss.c) ∧ w'.cell? ⟨q1, o1 + k * 5 + 3, none⟩ = some (.int .i64 x.rad) ∧ w'.cell? ⟨q1, o1 + k * 5 + 4, none⟩ = some (.int .i64 x.pro)) w' from fun w' h => ⟨h, ((HB.out.ext HR.out).ext h).c 1 _ (by first | rfl | (rw [← hA]; rfl)), (h.cell (p := ⟨q1, o1 + k * 5 + 3, none⟩) hb1).trans c3, (h.cell (p := ⟨q1, o1 + k * 5 + 4, none⟩) hb1).trans c4⟩)
   refine rgB 24 SS (ext_drew (ext_refl _)) (fun Q7 hQ7 hN7 hHeld => ?_)
   refine rgT 0 (some 46) hQ7 hHeld ?_; refine rgT 1 (some 47) hQ7 hHeld ?_; refine rgT 2 (some 48) hQ7 hHeld ?_; refine rgT 3 (some 49) hQ7 hHeld ?_; refine rgT 4 (some 50) hQ7 hHeld ?_; refine rgT 5 (some 51) hQ7 hHeld ?_
   refine rg_one (i := 6) (by kernel_rfl) (rg_step rfl (by rfl) (fun K hK => ?_))
   go_simp
   refine (inrB true HI.out).mono ?_
   rintro e u1 ⟨rfl, B1⟩
   go_wp2_with fail
   refine hK.out _ _ ?_ (fun hHeld2 => ?_)
   ·exact SS.out _ (ext_trans hHeld.1 B1)
   clear hHeld
   have hHeld := hHeld2
   clear hHeld2
   clear hK K
   try simp only [Act.put, List.setIfInBounds_toArray, List.set_cons_zero, List.set_cons_succ]
   refine rgT 7 (some 53) hQ7 hHeld ?_; refine rgT 8 (some 54) hQ7 hHeld ?_; refine rgT 9 (some 55) hQ7 hHeld ?_; refine rgT 10 (some 56) hQ7 hHeld ?_; refine rgT 11 (some 57) hQ7 hHeld ?_; refine rgT 12 (some 58) hQ7 hHeld ?_; refine rgT 13 (some 59) hQ7 hHeld ?_; refine rgT 14 (some 60) hQ7 hHeld ?_; refine rgT 15 (some 61) hQ7 hHeld ?_; refine rgT 16 (some 62) hQ7 hHeld ?_; refine rgT 17 (some 63) hQ7 hHeld ?_
   refine rgT 18 (some 64) hQ7 hHeld ?_; refine rgT 19 (some 65) hQ7 hHeld ?_; refine rgT 20 (some 66) hQ7 hHeld ?_
   refine rg_one (i := 21) (by kernel_rfl) (rg_step rfl (by rfl) (fun K hK => ?_))
   go_simp
   refine (inrB r HI2.out).mono ?_
   rintro e u2 ⟨rfl, B2⟩
   go_wp2_with fail
   refine hK.out _ _ ?_ (fun hHeld2 => ?_)
   ·exact SS.out _ (ext_trans hHeld.1 B2)
   clear hHeld
   have hHeld := hHeld2
   clear hHeld2
   clear hK K
   try simp only [Act.put, List.setIfInBounds_toArray, List.set_cons_zero, List.set_cons_succ]
   refine rgT 22 (some 68) hQ7 hHeld ?_; refine rgT 23 (some 69) hQ7 hHeld ?_
   refine rg_end (by kernel_rfl) (hN7 _ _ ?_) _
   clear hQ7 hN7 Q7
   have BX := hHeld.1
   clear SS
   have HR1 := Lib.hid (ext_trans HR.out BX)
   clear b1 bl BX c3 c4
   cases r
   ·have HP := Lib.hid HPP.out
    have HN : Hid (E = 140) := HNO.out (fun R => no_of (HQ.out.trans (all_noD HX.out HP.out)) rfl R.ss)
    go_wp2_with fail
    go_ret
    rw [HN.out]
    exact ⟨rfl, ext_trans HE.out HR1.out⟩
   ·have HP := Lib.hid HPP.out
    have HN := Lib.hid (all_stepD HX.out HP.out)
    try rw [← hA]
    clear hA
    go_wp2_with fail
    first | exact ⟨⟨k + 1, by omega, by go_num, HQ.out.trans HN.out, HR1.out⟩, by simp [intOf] <;> omega⟩ | (go_roundw; all_goals first | exact ⟨k + 1, by omega, by go_num, HQ.out.trans HN.out, HR1.out⟩ | (simp [intOf] <;> omega))
  ·have hlt' : decide ((k : Int) < t.ss.l.length) = false := decide_eq_false (by omega)
   have hd : t.ss.l.drop k = [] := List.drop_eq_nil_of_le (by omega)
   rw [hd] at HQ
   have Hss : Hid (t.ss.l.all secB = true) := HQ.out
   clear hd HQ
   go_wp2_with fail
   clear b1 bl hlt' hlt hk
   obtain ⟨wo, rfl⟩ : ∃ wo, wo = wr := ⟨_, rfl⟩
   go_loopw [6] (fun i wr => ∃ k : Nat, k ≤ t.ms.l.length ∧ i = .int .i64 k ∧ Hid (t.ms.l.all modeB = (t.ms.l.drop k).all modeB) ∧ Hid (Below W.heap.size W wr)) (fun i _ => t.ms.l.length - (intOf i).toNat)
   case atStart => exact ⟨0, Nat.zero_le _, rfl, rfl, HR.out⟩
   case round =>
    obtain ⟨k, hk, rfl, HQ, HR⟩ := hrel
    have b4 := (HB.out.ext HR.out).c 4 _ rfl
    have bl := (HB.out.ext HR.out).lt
    by_cases hlt : k < t.ms.l.length
    ·have hlt' : (k : Int) < t.ms.l.length := by omega
     obtain ⟨x, q1, o1, hx, hA, hb1, hcx⟩ := (HT.out.2.2.2.1.slc.ext HR.out).at_ hlt
     have HX := Lib.hid hx
     have HXO := Lib.hid (ints.ext (HT.out.2.2.2.1.all (List.mem_of_getElem? hx)) HR.out)
     have c0 := hcx 0 _ rfl
     simp only [Nat.mul_one, Nat.add_zero] at c0
     rw [hA] at b4
     clear hcx hx
     obtain ⟨r, hr⟩ : ∃ r, modeB x = r := ⟨_, rfl⟩
     have HRR := Lib.hid hr
     clear hr
     go_wp2_with fail
     refine (rmode_at r HRR.out HXO.out.slc HXO.out.len).mono ?_
     rintro e w3 ⟨rfl, B⟩
     have HR1 := Lib.hid (ext_trans HR.out B)
     clear b4 bl B c0
     cases r
     ·have HP := Lib.hid HRR.out
      have HN : Hid (E = 140) := HNO.out (fun R => no_of (HQ.out.trans (all_noD HX.out HP.out)) rfl R.ms)
      go_wp2_with fail
      go_ret
      rw [HN.out]
      exact ⟨rfl, ext_trans HE.out HR1.out⟩
     ·have HP := Lib.hid HRR.out
      have HN := Lib.hid (all_stepD HX.out HP.out)
      try rw [← hA]
      clear hA
      go_wp2_with fail
      first | exact ⟨⟨k + 1, by omega, by go_num, HQ.out.trans HN.out, HR1.out⟩, by simp [intOf] <;> omega⟩ | (go_roundw; all_goals first | exact ⟨k + 1, by omega, by go_num, HQ.out.trans HN.out, HR1.out⟩ | (simp [intOf] <;> omega))
    ·have hlt' : decide ((k : Int) < t.ms.l.length) = false := decide_eq_false (by omega)
     have hd : t.ms.l.drop k = [] := List.drop_eq_nil_of_le (by omega)
     rw [hd] at HQ
     have Hms : Hid (t.ms.l.all modeB = true) := HQ.out
     clear hd HQ
     go_wp2_with fail
     clear b4 bl hlt' hlt hk
     obtain ⟨wo, rfl⟩ : ∃ wo, wo = wr := ⟨_, rfl⟩
     go_loopw [7] (fun i wr => ∃ k : Nat, k ≤ t.ws.l.length ∧ i = .int .i64 k ∧ Hid (t.ws.l.all (wayB t.n t.ms.l.length) = (t.ws.l.drop k).all (wayB t.n t.ms.l.length)) ∧ Hid (Below W.heap.size W wr)) (fun i _ => t.ws.l.length - (intOf i).toNat)
     case atStart => exact ⟨0, Nat.zero_le _, rfl, rfl, HR.out⟩
     case round =>
      obtain ⟨k, hk, rfl, HQ, HR⟩ := hrel
      have b3 := (HB.out.ext HR.out).c 3 _ rfl
      have bl := (HB.out.ext HR.out).lt
      by_cases hlt : k < t.ws.l.length
      ·have hlt' : (k : Int) < t.ws.l.length := by omega
       obtain ⟨x, q1, o1, hx, hA, hb1, hcx⟩ := (HT.out.2.2.1.slc.ext HR.out).at_ hlt
       have HX := Lib.hid hx
       have HXO := Lib.hid ((HT.out.2.2.1.all (List.mem_of_getElem? hx)).ext HR.out)
       have c0 := hcx 0 _ rfl
       have c1 := hcx 1 _ rfl
       have c2 := hcx 2 _ rfl
       simp only [Nat.add_zero] at c0
       rw [hA] at b3
       clear hcx hx
       obtain ⟨r, hr⟩ : ∃ r, wayB t.n t.ms.l.length x = r := ⟨_, rfl⟩
       have HRR := Lib.hid hr
       clear hr
       go_wp2_with fail
       have SS := Lib.hid (show ∀ w', Below wr.heap.size wr w' → (fun w' => Below wr.heap.size wr w' ∧ w'.cell? ⟨w.heap.size, 0, none⟩ = some (.int .i64 t.n) ∧ w'.cell? ⟨w.heap.size, 1, none⟩ = some (.slice t.ss.A t.ss.l.length t.ss.c) ∧ w'.cell? ⟨w.heap.size, 2, none⟩ = some (.slice t.cs.A t.cs.l.length t.cs.c) ∧ w'.cell? ⟨w.heap.size, 3, none⟩ = some (.slice (some ⟨q1, o1, none⟩) t.ws.l.length t.ws.c) ∧ w'.cell? ⟨w.heap.size, 4, none⟩ = some (.slice t.ms.A t.ms.l.length t.ms.c) ∧ w'.cell? ⟨w.heap.size, 5, none⟩ = some (.slice t.ks.A t.ks.l.length t.ks.c) ∧ w'.cell? ⟨q1, o1 + k * 3, none⟩ = some (.int .i64 x.f) ∧ w'.cell? ⟨q1, o1 + k * 3 + 1, none⟩ = some (.int .i64 x.t) ∧ w'.cell? ⟨q1, o1 + k * 3 + 2, none⟩ = some (.slice x.legs.A x.legs.l.length x.legs.c)) w' from fun w' h => ⟨h, ((HB.out.ext HR.out).ext h).c 0 _ (by first | rfl | (rw [← hA]; rfl)), ((HB.out.ext HR.out).ext h).c 1 _ (by first | rfl | (rw [← hA]; rfl)), ((HB.out.ext HR.out).ext h).c 2 _ (by first | rfl | (rw [← hA]; rfl)), ((HB.out.ext HR.out).ext h).c 3 _ (by first | rfl | (rw [← hA]; rfl)), ((HB.out.ext HR.out).ext h).c 4 _ (by first | rfl | (rw [← hA]; rfl)), ((HB.out.ext HR.out).ext h).c 5 _ (by first | rfl | (rw [← hA]; rfl)), (h.cell (p := ⟨q1, o1 + k * 3, none⟩) hb1).trans c0, (h.cell (p := ⟨q1, o1 + k * 3 + 1, none⟩) hb1).trans c1, (h.cell (p := ⟨q1, o1 + k * 3 + 2, none⟩) hb1).trans c2⟩)
       refine rgB 8 SS (ext_drew (ext_refl _)) (fun Q7 hQ7 hN7 hHeld => ?_)
       refine rgT 0 (some 91) hQ7 hHeld ?_; refine rgT 1 (some 92) hQ7 hHeld ?_; refine rgT 2 (some 93) hQ7 hHeld ?_; refine rgT 3 (some 94) hQ7 hHeld ?_; refine rgT 4 (some 95) hQ7 hHeld ?_; refine rgT 5 (some 96) hQ7 hHeld ?_
       refine rg_one (i := 6) (by kernel_rfl) (rg_step rfl (by rfl) (fun K hK => ?_))
       go_simp
       refine (rway_of (t := t) (x := x) r (by unfold Tab.v; rw [hA]) HRR.out n0 n1 (HXO.out.ext hHeld.1) HT.out.2.2.2.1.len).mono ?_
       rintro e u1 ⟨rfl, B1⟩
       go_wp2_with fail
       refine hK.out _ _ ?_ (fun hHeld2 => ?_)
       ·exact SS.out _ (ext_trans hHeld.1 B1)
       clear hHeld
       have hHeld := hHeld2
       clear hHeld2
       clear hK K
       try simp only [Act.put, List.setIfInBounds_toArray, List.set_cons_zero, List.set_cons_succ]
       refine rgT 7 (some 98) hQ7 hHeld ?_
       refine rg_end (by kernel_rfl) (hN7 _ _ ?_) _
       clear hQ7 hN7 Q7
       have BX := hHeld.1
       clear SS
       have HR1 := Lib.hid (ext_trans HR.out BX)
       clear b3 bl BX c0 c1 c2
       cases r
       ·have HP := Lib.hid HRR.out
        have HN : Hid (E = 140) := HNO.out (fun R => no_of (HQ.out.trans (all_noD HX.out HP.out)) rfl R.ws)
        go_wp2_with fail
        go_ret
        rw [HN.out]
        exact ⟨rfl, ext_trans HE.out HR1.out⟩
       ·have HP := Lib.hid HRR.out
        have HN := Lib.hid (all_stepD HX.out HP.out)
        try rw [← hA]
        clear hA
        go_wp2_with fail
        first | exact ⟨⟨k + 1, by omega, by go_num, HQ.out.trans HN.out, HR1.out⟩, by simp [intOf] <;> omega⟩ | (go_roundw; all_goals first | exact ⟨k + 1, by omega, by go_num, HQ.out.trans HN.out, HR1.out⟩ | (simp [intOf] <;> omega))
      ·have hlt' : decide ((k : Int) < t.ws.l.length) = false := decide_eq_false (by omega)
       have hd : t.ws.l.drop k = [] := List.drop_eq_nil_of_le (by omega)
       rw [hd] at HQ
       have Hws : Hid (t.ws.l.all (wayB t.n t.ms.l.length) = true) := HQ.out
       clear hd HQ
       go_wp2_with fail
       clear b3 bl hlt' hlt hk
       obtain ⟨wo, rfl⟩ : ∃ wo, wo = wr := ⟨_, rfl⟩
       go_loopw [8] (fun i wr => ∃ k : Nat, k ≤ t.ks.l.length ∧ i = .int .i64 k ∧ Hid (t.ks.l.all (kindB t.ms.l.length) = (t.ks.l.drop k).all (kindB t.ms.l.length)) ∧ Hid (Below W.heap.size W wr)) (fun i _ => t.ks.l.length - (intOf i).toNat)
       case atStart => exact ⟨0, Nat.zero_le _, rfl, rfl, HR.out⟩
       case round =>
        obtain ⟨k, hk, rfl, HQ, HR⟩ := hrel
        have b5 := (HB.out.ext HR.out).c 5 _ rfl
        have bl := (HB.out.ext HR.out).lt
        by_cases hlt : k < t.ks.l.length
        ·have hlt' : (k : Int) < t.ks.l.length := by omega
         obtain ⟨x, q1, o1, hx, hA, hb1, hcx⟩ := (HT.out.2.2.2.2.slc.ext HR.out).at_ hlt
         have HX := Lib.hid hx
         have HXO := Lib.hid ((HT.out.2.2.2.2.all (List.mem_of_getElem? hx)).ext HR.out)
         have c0 := hcx 0 _ rfl
         have c1 := hcx 1 _ rfl
         have c2 := hcx 2 _ rfl
         have c3 := hcx 3 _ rfl
         have c4 := hcx 4 _ rfl
         have c5 := hcx 5 _ rfl
         simp only [Nat.add_zero] at c0
         rw [hA] at b5
         clear hcx hx
         have hk01 := chkK_01 x
         obtain ⟨r, hr⟩ : ∃ r, chkK x = r := ⟨_, rfl⟩
         have HRR := Lib.hid hr
         have HD : Hid (kindB t.ms.l.length x = (r == 0 && x.cur.l.length == t.ms.l.length)) := by rw [← hr]; rfl
         have hxl := HXO.out.len
         unfold maxLen at hxl
         rw [hr] at hk01
         clear hr
         rcases hk01 with rfl | rfl
         rotate_left
         ·have HP : Hid (kindB t.ms.l.length x = false) := by rw [HD.out]; rfl
          clear HD
          go_wp2_with fail
          have SS := Lib.hid (show ∀ w', Below wr.heap.size wr w' → (fun w' => Below wr.heap.size wr w' ∧ w'.cell? ⟨w.heap.size, 5, none⟩ = some (.slice (some ⟨q1, o1, none⟩) t.ks.l.length t.ks.c) ∧ w'.cell? ⟨q1, o1 + k * 6, none⟩ = some (.int .i64 x.slow) ∧ w'.cell? ⟨q1, o1 + k * 6 + 1, none⟩ = some (.int .i64 x.fast) ∧ w'.cell? ⟨q1, o1 + k * 6 + 2, none⟩ = some (.int .i64 x.places) ∧ w'.cell? ⟨q1, o1 + k * 6 + 3, none⟩ = some (.int .i64 x.weight) ∧ w'.cell? ⟨q1, o1 + k * 6 + 4, none⟩ = some (.int .i64 x.longest) ∧ w'.cell? ⟨q1, o1 + k * 6 + 5, none⟩ = some (.slice x.cur.A x.cur.l.length x.cur.c)) w' from fun w' h => ⟨h, ((HB.out.ext HR.out).ext h).c 5 _ (by first | rfl | (rw [← hA]; rfl)), (h.cell (p := ⟨q1, o1 + k * 6, none⟩) hb1).trans c0, (h.cell (p := ⟨q1, o1 + k * 6 + 1, none⟩) hb1).trans c1, (h.cell (p := ⟨q1, o1 + k * 6 + 2, none⟩) hb1).trans c2, (h.cell (p := ⟨q1, o1 + k * 6 + 3, none⟩) hb1).trans c3, (h.cell (p := ⟨q1, o1 + k * 6 + 4, none⟩) hb1).trans c4, (h.cell (p := ⟨q1, o1 + k * 6 + 5, none⟩) hb1).trans c5⟩)
          refine rgB 20 SS (ext_drew (ext_refl _)) (fun Q7 hQ7 hN7 hHeld => ?_)
          refine rgT 0 (some 106) hQ7 hHeld ?_; refine rgT 1 (some 107) hQ7 hHeld ?_; refine rgT 2 (some 108) hQ7 hHeld ?_; refine rgT 3 (some 109) hQ7 hHeld ?_; refine rgT 4 (some 110) hQ7 hHeld ?_
          refine rg_one (i := 5) (by kernel_rfl) (rg_step rfl (by rfl) (fun K hK => ?_))
          go_simp
          refine (rkc_at (k := x) 120 HRR.out (HXO.out.ext hHeld.1)).mono ?_
          rintro e u1 ⟨rfl, B1⟩
          go_wp2_with fail
          refine hK.out _ _ ?_ (fun hHeld2 => ?_)
          ·exact SS.out _ (ext_trans hHeld.1 B1)
          clear hHeld
          have hHeld := hHeld2
          clear hHeld2
          clear hK K
          try simp only [Act.put, List.setIfInBounds_toArray, List.set_cons_zero, List.set_cons_succ]
          refine rgT 6 (some 112) hQ7 hHeld ?_; refine rgT 7 (some 113) hQ7 hHeld ?_; refine rgS 8 (some 114) hQ7 hHeld ?_; refine rgS 9 (some 115) hQ7 hHeld ?_; refine rgS 10 (some 116) hQ7 hHeld ?_; refine rgS 11 (some 117) hQ7 hHeld ?_; refine rgS 12 (some 118) hQ7 hHeld ?_; refine rgS 13 (some 119) hQ7 hHeld ?_; refine rgS 14 (some 120) hQ7 hHeld ?_; refine rgS 15 (some 121) hQ7 hHeld ?_
          refine rgS 16 (some 122) hQ7 hHeld ?_; refine rgS 17 (some 123) hQ7 hHeld ?_; refine rgS 18 (some 124) hQ7 hHeld ?_; refine rgT 19 (some 125) hQ7 hHeld ?_
          refine rg_end (by kernel_rfl) (hN7 _ _ ?_) _
          clear hQ7 hN7 Q7
          have BX := hHeld.1
          clear SS
          have HR1 := Lib.hid (ext_trans HR.out BX)
          clear b5 bl BX c0 c1 c2 c3 c4 c5
          have HN : Hid (E = 140) := HNO.out (fun R => no_of (HQ.out.trans (all_noD HX.out HP.out)) rfl R.ks)
          go_wp2_with fail
          go_ret
          rw [HN.out]
          exact ⟨rfl, ext_trans HE.out HR1.out⟩
         have b4 := (HB.out.ext HR.out).c 4 _ rfl
         by_cases h3 : x.cur.l.length = t.ms.l.length
         rotate_left
         ·have e3 : ((x.cur.l.length : Int) != t.ms.l.length) = true := bne_iff_ne.2 (by omega)
          have HP : Hid (kindB t.ms.l.length x = false) := by rw [HD.out, show (x.cur.l.length == t.ms.l.length) = false from beq_eq_false_iff_ne.2 h3]; rfl
          clear HD h3
          go_wp2_with fail
          have SS := Lib.hid (show ∀ w', Below wr.heap.size wr w' → (fun w' => Below wr.heap.size wr w' ∧ w'.cell? ⟨w.heap.size, 5, none⟩ = some (.slice (some ⟨q1, o1, none⟩) t.ks.l.length t.ks.c) ∧ w'.cell? ⟨w.heap.size, 4, none⟩ = some (.slice t.ms.A t.ms.l.length t.ms.c) ∧ w'.cell? ⟨q1, o1 + k * 6, none⟩ = some (.int .i64 x.slow) ∧ w'.cell? ⟨q1, o1 + k * 6 + 1, none⟩ = some (.int .i64 x.fast) ∧ w'.cell? ⟨q1, o1 + k * 6 + 2, none⟩ = some (.int .i64 x.places) ∧ w'.cell? ⟨q1, o1 + k * 6 + 3, none⟩ = some (.int .i64 x.weight) ∧ w'.cell? ⟨q1, o1 + k * 6 + 4, none⟩ = some (.int .i64 x.longest) ∧ w'.cell? ⟨q1, o1 + k * 6 + 5, none⟩ = some (.slice x.cur.A x.cur.l.length x.cur.c)) w' from fun w' h => ⟨h, ((HB.out.ext HR.out).ext h).c 5 _ (by first | rfl | (rw [← hA]; rfl)), ((HB.out.ext HR.out).ext h).c 4 _ (by first | rfl | (rw [← hA]; rfl)), (h.cell (p := ⟨q1, o1 + k * 6, none⟩) hb1).trans c0, (h.cell (p := ⟨q1, o1 + k * 6 + 1, none⟩) hb1).trans c1, (h.cell (p := ⟨q1, o1 + k * 6 + 2, none⟩) hb1).trans c2, (h.cell (p := ⟨q1, o1 + k * 6 + 3, none⟩) hb1).trans c3, (h.cell (p := ⟨q1, o1 + k * 6 + 4, none⟩) hb1).trans c4, (h.cell (p := ⟨q1, o1 + k * 6 + 5, none⟩) hb1).trans c5⟩)
          refine rgB 20 SS (ext_drew (ext_refl _)) (fun Q7 hQ7 hN7 hHeld => ?_)
          refine rgT 0 (some 106) hQ7 hHeld ?_; refine rgT 1 (some 107) hQ7 hHeld ?_; refine rgT 2 (some 108) hQ7 hHeld ?_; refine rgT 3 (some 109) hQ7 hHeld ?_; refine rgT 4 (some 110) hQ7 hHeld ?_
          refine rg_one (i := 5) (by kernel_rfl) (rg_step rfl (by rfl) (fun K hK => ?_))
          go_simp
          refine (rkc_at (k := x) 0 HRR.out (HXO.out.ext hHeld.1)).mono ?_
          rintro e u1 ⟨rfl, B1⟩
          go_wp2_with fail
          refine hK.out _ _ ?_ (fun hHeld2 => ?_)
          ·exact SS.out _ (ext_trans hHeld.1 B1)
          clear hHeld
          have hHeld := hHeld2
          clear hHeld2
          clear hK K
          try simp only [Act.put, List.setIfInBounds_toArray, List.set_cons_zero, List.set_cons_succ]
          refine rgT 6 (some 112) hQ7 hHeld ?_; refine rgT 7 (some 113) hQ7 hHeld ?_; refine rgT 8 (some 114) hQ7 hHeld ?_; refine rgT 9 (some 115) hQ7 hHeld ?_; refine rgT 10 (some 116) hQ7 hHeld ?_; refine rgT 11 (some 117) hQ7 hHeld ?_; refine rgT 12 (some 118) hQ7 hHeld ?_; refine rgT 13 (some 119) hQ7 hHeld ?_; refine rgT 14 (some 120) hQ7 hHeld ?_; refine rgT 15 (some 121) hQ7 hHeld ?_
          refine rgT 16 (some 122) hQ7 hHeld ?_; refine rgT 17 (some 123) hQ7 hHeld ?_; refine rgT 18 (some 124) hQ7 hHeld ?_; refine rgT 19 (some 125) hQ7 hHeld ?_
          refine rg_end (by kernel_rfl) (hN7 _ _ ?_) _
          clear hQ7 hN7 Q7
          have BX := hHeld.1
          clear SS
          have HR1 := Lib.hid (ext_trans HR.out BX)
          clear b5 bl BX c0 c1 c2 c3 c4 c5 b4
          have HN : Hid (E = 140) := HNO.out (fun R => no_of (HQ.out.trans (all_noD HX.out HP.out)) rfl R.ks)
          go_wp2_with fail
          go_ret
          rw [HN.out]
          exact ⟨rfl, ext_trans HE.out HR1.out⟩
         ·have e3 : ((x.cur.l.length : Int) != t.ms.l.length) = false := bne_eq_false_iff_eq.2 (by omega)
          have HP : Hid (kindB t.ms.l.length x = true) := by rw [HD.out, show (x.cur.l.length == t.ms.l.length) = true from beq_iff_eq.2 h3]; rfl
          clear HD h3
          go_wp2_with fail
          have SS := Lib.hid (show ∀ w', Below wr.heap.size wr w' → (fun w' => Below wr.heap.size wr w' ∧ w'.cell? ⟨w.heap.size, 5, none⟩ = some (.slice (some ⟨q1, o1, none⟩) t.ks.l.length t.ks.c) ∧ w'.cell? ⟨w.heap.size, 4, none⟩ = some (.slice t.ms.A t.ms.l.length t.ms.c) ∧ w'.cell? ⟨q1, o1 + k * 6, none⟩ = some (.int .i64 x.slow) ∧ w'.cell? ⟨q1, o1 + k * 6 + 1, none⟩ = some (.int .i64 x.fast) ∧ w'.cell? ⟨q1, o1 + k * 6 + 2, none⟩ = some (.int .i64 x.places) ∧ w'.cell? ⟨q1, o1 + k * 6 + 3, none⟩ = some (.int .i64 x.weight) ∧ w'.cell? ⟨q1, o1 + k * 6 + 4, none⟩ = some (.int .i64 x.longest) ∧ w'.cell? ⟨q1, o1 + k * 6 + 5, none⟩ = some (.slice x.cur.A x.cur.l.length x.cur.c)) w' from fun w' h => ⟨h, ((HB.out.ext HR.out).ext h).c 5 _ (by first | rfl | (rw [← hA]; rfl)), ((HB.out.ext HR.out).ext h).c 4 _ (by first | rfl | (rw [← hA]; rfl)), (h.cell (p := ⟨q1, o1 + k * 6, none⟩) hb1).trans c0, (h.cell (p := ⟨q1, o1 + k * 6 + 1, none⟩) hb1).trans c1, (h.cell (p := ⟨q1, o1 + k * 6 + 2, none⟩) hb1).trans c2, (h.cell (p := ⟨q1, o1 + k * 6 + 3, none⟩) hb1).trans c3, (h.cell (p := ⟨q1, o1 + k * 6 + 4, none⟩) hb1).trans c4, (h.cell (p := ⟨q1, o1 + k * 6 + 5, none⟩) hb1).trans c5⟩)
          refine rgB 20 SS (ext_drew (ext_refl _)) (fun Q7 hQ7 hN7 hHeld => ?_)
          refine rgT 0 (some 106) hQ7 hHeld ?_; refine rgT 1 (some 107) hQ7 hHeld ?_; refine rgT 2 (some 108) hQ7 hHeld ?_; refine rgT 3 (some 109) hQ7 hHeld ?_; refine rgT 4 (some 110) hQ7 hHeld ?_
          refine rg_one (i := 5) (by kernel_rfl) (rg_step rfl (by rfl) (fun K hK => ?_))
          go_simp
          refine (rkc_at (k := x) 0 HRR.out (HXO.out.ext hHeld.1)).mono ?_
          rintro e u1 ⟨rfl, B1⟩
          go_wp2_with fail
          refine hK.out _ _ ?_ (fun hHeld2 => ?_)
          ·exact SS.out _ (ext_trans hHeld.1 B1)
          clear hHeld
          have hHeld := hHeld2
          clear hHeld2
          clear hK K
          try simp only [Act.put, List.setIfInBounds_toArray, List.set_cons_zero, List.set_cons_succ]
          refine rgT 6 (some 112) hQ7 hHeld ?_; refine rgT 7 (some 113) hQ7 hHeld ?_; refine rgT 8 (some 114) hQ7 hHeld ?_; refine rgT 9 (some 115) hQ7 hHeld ?_; refine rgT 10 (some 116) hQ7 hHeld ?_; refine rgT 11 (some 117) hQ7 hHeld ?_; refine rgT 12 (some 118) hQ7 hHeld ?_; refine rgT 13 (some 119) hQ7 hHeld ?_; refine rgT 14 (some 120) hQ7 hHeld ?_; refine rgT 15 (some 121) hQ7 hHeld ?_
          refine rgT 16 (some 122) hQ7 hHeld ?_; refine rgT 17 (some 123) hQ7 hHeld ?_; refine rgT 18 (some 124) hQ7 hHeld ?_; refine rgT 19 (some 125) hQ7 hHeld ?_
          refine rg_end (by kernel_rfl) (hN7 _ _ ?_) _
          clear hQ7 hN7 Q7
          have BX := hHeld.1
          clear SS
          have HR1 := Lib.hid (ext_trans HR.out BX)
          clear b5 bl BX c0 c1 c2 c3 c4 c5 b4
          have HN := Lib.hid (all_stepD HX.out HP.out)
          try rw [← hA]
          clear hA
          go_wp2_with fail
          first | exact ⟨⟨k + 1, by omega, by go_num, HQ.out.trans HN.out, HR1.out⟩, by simp [intOf] <;> omega⟩ | (go_roundw; all_goals first | exact ⟨k + 1, by omega, by go_num, HQ.out.trans HN.out, HR1.out⟩ | (simp [intOf] <;> omega))
        ·have hlt' : decide ((k : Int) < t.ks.l.length) = false := decide_eq_false (by omega)
         have hd : t.ks.l.drop k = [] := List.drop_eq_nil_of_le (by omega)
         rw [hd] at HQ
         have Hks : Hid (t.ks.l.all (kindB t.ms.l.length) = true) := HQ.out
         clear hd HQ
         have HF : Hid (E = 0) := HYES.out ⟨HN.out, HDD.out, h0, h1, h2, Hss.out, Hms.out, Hws.out, Hks.out⟩
         go_wp2_with fail
         go_ret
         rw [HF.out]
         exact ⟨rfl, ext_trans HE.out HR.out⟩



theorem rchk_at {t : Tab} {w : World} (r : Int) (hr : chkT t = r) (ht : Tab.ok w t) : Calls Tryz.prog 38 #[t.v] w (RetE w r) := by
 subst hr; exact rchk_any t w ht
end Go.Proofs.YtjiojpoiocdnmaaGreat
