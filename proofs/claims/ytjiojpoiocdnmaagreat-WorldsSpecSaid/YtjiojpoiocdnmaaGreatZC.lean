/- The reference's check of configurations; a way. -/
import Derived.Test.YtjiojpoiocdnmaaGreatZB
import Derived.Test.YtjiojpoiocdnmaaGreatU4
set_option linter.unusedSimpArgs false
set_option linter.unusedVariables false
namespace Go.Proofs.YtjiojpoiocdnmaaGreat
open Go.RowKit
set_option maxRecDepth 100000 in
set_option maxHeartbeats 16000000 in
theorem rc10_any (vA : Option Addr) (n vc : Nat) (sA : Option Addr) (sc : Nat) (l : List Sec) (cA : Option Addr) (cc : Nat) (cs : List Cfg) (w : World) (hs : Slc w Sec.cells 5 sA l) (hsl : l.length ≤ maxLen) (hk : ∀ x ∈ l, Sec.ok w x) (hc : Slc w Cfg.cells 3 cA cs) (hcl : cs.length ≤ maxLen) (hck : ∀ x ∈ cs, Cfg.ok w x) (hnn : n ≤ 1000) :
  Calls Tryz.prog 66 #[aspV vA n vc sA l.length sc cA cs.length cc] w (RetE w (if chkD n l cs then 0 else 100)) := by
 obtain ⟨E, hE⟩ : ∃ E : Int, (if chkD n l cs then (0 : Int) else 100) = E := ⟨_, rfl⟩
 rw [hE]
 have HEE := Lib.hid hE
 clear hE
 have HBAD : Hid (chkD n l cs = false → E = 100) := fun h => by rw [← HEE.out, h]; rfl
 obtain ⟨W, hW⟩ : ∃ W, w.alloc (.cells #[.slice vA n vc, .slice sA l.length sc, .slice cA cs.length cc, .slice none 0 0, .slice none 0 0, .slice none 0 0, .slice none 0 0, .slice none 0 0] 156) = W := ⟨_, rfl⟩
 have HB : Hid (Blk W w.heap.size [.slice vA n vc, .slice sA l.length sc, .slice cA cs.length cc, .slice none 0 0, .slice none 0 0, .slice none 0 0, .slice none 0 0, .slice none 0 0]) := by rw [← hW]; exact Blk.newH w [.slice vA n vc, .slice sA l.length sc, .slice cA cs.length cc, .slice none 0 0, .slice none 0 0, .slice none 0 0, .slice none 0 0, .slice none 0 0] 156 w.heap.size rfl
 have HE : Hid (Below w.heap.size w W) := by rw [← hW]; exact ext_alloc (ext_refl w) _
 have HS := Lib.hid (hs.ext HE.out)
 have HC := Lib.hid (hc.ext HE.out)
 have HSO : Hid (∀ x ∈ l, Sec.ok W x) := fun x hx => (hk x hx).ext HE.out
 have HCO : Hid (∀ x ∈ cs, Cfg.ok W x) := fun x hx => (hck x hx).ext HE.out
 have b0 := HB.out.c 0 _ rfl
 have b1 := HB.out.c 1 _ rfl
 have b2 := HB.out.c 2 _ rfl
 have bl := HB.out.lt
 have HNO : Hid (¬ (1 ≤ n ∧ n ≤ 64 ∧ l.length ≤ 64 ∧ 1 ≤ cs.length ∧ cs.length ≤ 32) → chkD n l cs = false) := fun h => by
  cases e : chkD n l cs
  ·rfl
  ·simp only [chkD, Bool.and_eq_true, decide_eq_true_eq] at e
   exact absurd ⟨e.1.1.1.1.1, e.1.1.1.1.2, e.1.1.1.2, e.1.1.2, e.1.2⟩ h
 have HYES : Hid ((1 ≤ n ∧ n ≤ 64 ∧ l.length ≤ 64 ∧ 1 ≤ cs.length ∧ cs.length ≤ 32) → chkD n l cs = (l.all (volB n) && cs.all (dvdB n l))) := fun ⟨q1, q2, q3, q4, q5⟩ => by
  unfold chkD
  rw [decide_eq_true q1, decide_eq_true q2, decide_eq_true q3, decide_eq_true q4, decide_eq_true q5]
  rfl
 clear hs hc hk hck
 unfold maxLen at hsl hcl
 go_enter Tryz.func66, Tryz.ntmps66
 by_cases h0 : n < 1
 ·have e0 : decide ((n : Int) < 1) = true := decide_eq_true (by omega)
  have HR : Hid (E = 100) := HBAD.out (HNO.out (fun R => by omega))
  clear HNO HYES
  go_wp2_with fail
  go_ret
  rw [HR.out]
  exact ⟨rfl, HE.out⟩
 have e0 : decide ((n : Int) < 1) = false := decide_eq_false (by omega)
 by_cases h1 : 64 < n
 ·have e1 : decide ((n : Int) > 64) = true := decide_eq_true (by omega)
  have HR : Hid (E = 100) := HBAD.out (HNO.out (fun R => by omega))
  clear HNO HYES
  go_wp2_with fail
  go_ret
  rw [HR.out]
  exact ⟨rfl, HE.out⟩
 have e1 : decide ((n : Int) > 64) = false := decide_eq_false (by omega)
 by_cases h2 : 64 < l.length
 ·have e2 : decide ((l.length : Int) > 64) = true := decide_eq_true (by omega)
  have HR : Hid (E = 100) := HBAD.out (HNO.out (fun R => by omega))
  clear HNO HYES
  go_wp2_with fail
  go_ret
  rw [HR.out]
  exact ⟨rfl, HE.out⟩
 have e2 : decide ((l.length : Int) > 64) = false := decide_eq_false (by omega)
 by_cases h3 : cs.length < 1
 ·have e3 : decide ((cs.length : Int) < 1) = true := decide_eq_true (by omega)
  have HR : Hid (E = 100) := HBAD.out (HNO.out (fun R => by omega))
  clear HNO HYES
  go_wp2_with fail
  go_ret
  rw [HR.out]
  exact ⟨rfl, HE.out⟩
 have e3 : decide ((cs.length : Int) < 1) = false := decide_eq_false (by omega)
 by_cases h4 : 32 < cs.length
 ·have e4 : decide ((cs.length : Int) > 32) = true := decide_eq_true (by omega)
  have HR : Hid (E = 100) := HBAD.out (HNO.out (fun R => by omega))
  clear HNO HYES
  go_wp2_with fail
  go_ret
  rw [HR.out]
  exact ⟨rfl, HE.out⟩
 have e4 : decide ((cs.length : Int) > 32) = false := decide_eq_false (by omega)
 have HD := Lib.hid (HYES.out ⟨by omega, by omega, by omega, by omega, by omega⟩)
 have hn64 : n ≤ 64 := by omega
 clear HNO HYES
 go_wp2_with fail
 clear hW b0 b1 b2 bl e0 e1 e2 e3 e4 h0 h1 h2 h3 h4
 go_loopw [3] (fun i wr => ∃ k : Nat, k ≤ l.length ∧ i = .int .i64 k ∧ Hid (l.all (volB n) = (l.drop k).all (volB n)) ∧ Hid (Below W.heap.size W wr)) (fun i _ => l.length - (intOf i).toNat)
 case atStart => exact ⟨0, Nat.zero_le _, rfl, rfl, ext_refl _⟩
 case round =>
  obtain ⟨k, hk, rfl, HQ, HR⟩ := hrel
  have b1 := (HB.out.ext HR.out).c 1 _ rfl
  have bl := (HB.out.ext HR.out).lt
  by_cases hlt : k < l.length
  ·have hlt' : (k : Int) < l.length := by omega
   obtain ⟨x, q1, o1, hx, hA, hb1, hcx⟩ := (HS.out.ext HR.out).at_ hlt
   have HX := Lib.hid hx
   have HXO := Lib.hid (HSO.out x (List.mem_of_getElem? hx))
   have c2 := hcx 2 _ rfl
   have hxl := HXO.out.2.2.len
   unfold maxLen at hxl
   subst hA
   clear hcx hx
   by_cases h0 : x.vs.l.length = 0
   ·have e0 : ((x.vs.l.length : Int) == 0) = true := beq_iff_eq.2 (by omega)
    have HN : Hid (chkD n l cs = false) := by rw [HD.out, HQ.out, all_noD HX.out (show volB n x = false from by simp [volB, h0])]; simp [Hid]
    go_wp2_with fail
    have SS := Lib.hid (show ∀ w', Below wr.heap.size wr w' → (fun w' => Below wr.heap.size wr w' ∧ w'.cell? ⟨w.heap.size, 0, none⟩ = some (.slice vA n vc) ∧ w'.cell? ⟨w.heap.size, 1, none⟩ = some (.slice (some ⟨q1, o1, none⟩) l.length sc) ∧ w'.cell? ⟨q1, o1 + k * 5 + 2, none⟩ = some (.slice x.vs.A x.vs.l.length x.vs.c)) w' from fun w' h => ⟨h, ((HB.out.ext HR.out).ext h).c 0 _ rfl, ((HB.out.ext HR.out).ext h).c 1 _ rfl, (h.cell (p := ⟨q1, o1 + k * 5 + 2, none⟩) hb1).trans c2⟩)
    refine rgB 21 SS (ext_drew (ext_refl _)) (fun Q7 hQ7 hN7 hHeld => ?_)
    refine rgT 0 (some 40) hQ7 hHeld ?_; refine rgT 1 (some 41) hQ7 hHeld ?_; refine rgT 2 (some 42) hQ7 hHeld ?_; refine rgT 3 (some 43) hQ7 hHeld ?_; refine rgT 4 (some 44) hQ7 hHeld ?_; refine rgT 5 (some 45) hQ7 hHeld ?_; refine rgT 6 (some 46) hQ7 hHeld ?_; refine rgT 7 (some 47) hQ7 hHeld ?_; refine rgT 8 (some 48) hQ7 hHeld ?_; refine rgS 9 (some 49) hQ7 hHeld ?_; refine rgS 10 (some 50) hQ7 hHeld ?_
    refine rgS 11 (some 51) hQ7 hHeld ?_; refine rgS 12 (some 52) hQ7 hHeld ?_; refine rgS 13 (some 53) hQ7 hHeld ?_; refine rgS 14 (some 54) hQ7 hHeld ?_; refine rgS 15 (some 55) hQ7 hHeld ?_; refine rgS 16 (some 56) hQ7 hHeld ?_; refine rgS 17 (some 57) hQ7 hHeld ?_; refine rgS 18 (some 58) hQ7 hHeld ?_; refine rgS 19 (some 59) hQ7 hHeld ?_; refine rgT 20 (some 60) hQ7 hHeld ?_
    refine rg_end (by kernel_rfl) (hN7 _ _ ?_) _
    clear hQ7 hN7 Q7
    have BX := hHeld.1
    clear SS
    go_wp2_with fail
    go_ret
    rw [HBAD.out HN.out]
    exact ⟨rfl, ext_trans HE.out (ext_trans HR.out BX)⟩
   have e0 : ((x.vs.l.length : Int) == 0) = false := beq_eq_false_iff_ne.2 (by omega)
   obtain ⟨r, hr⟩ : ∃ r, idxB n x.vs.l = r := ⟨_, rfl⟩
   have HI := Lib.hid hr
   have HV : Hid (volB n x = r) := by
    unfold volB
    rw [decide_eq_true (show 0 < x.vs.l.length by omega), hr]; rfl
   clear hr h0
   go_wp2_with fail
   have SS := Lib.hid (show ∀ w', Below wr.heap.size wr w' → (fun w' => Below wr.heap.size wr w' ∧ w'.cell? ⟨w.heap.size, 0, none⟩ = some (.slice vA n vc) ∧ w'.cell? ⟨w.heap.size, 1, none⟩ = some (.slice (some ⟨q1, o1, none⟩) l.length sc) ∧ w'.cell? ⟨q1, o1 + k * 5 + 2, none⟩ = some (.slice x.vs.A x.vs.l.length x.vs.c)) w' from fun w' h => ⟨h, ((HB.out.ext HR.out).ext h).c 0 _ rfl, ((HB.out.ext HR.out).ext h).c 1 _ rfl, (h.cell (p := ⟨q1, o1 + k * 5 + 2, none⟩) hb1).trans c2⟩)
   refine rgB 21 SS (ext_drew (ext_refl _)) (fun Q7 hQ7 hN7 hHeld => ?_)
   refine rgT 0 (some 40) hQ7 hHeld ?_; refine rgT 1 (some 41) hQ7 hHeld ?_; refine rgT 2 (some 42) hQ7 hHeld ?_; refine rgT 3 (some 43) hQ7 hHeld ?_; refine rgT 4 (some 44) hQ7 hHeld ?_; refine rgT 5 (some 45) hQ7 hHeld ?_; refine rgT 6 (some 46) hQ7 hHeld ?_; refine rgT 7 (some 47) hQ7 hHeld ?_; refine rgT 8 (some 48) hQ7 hHeld ?_; refine rgT 9 (some 49) hQ7 hHeld ?_; refine rgT 10 (some 50) hQ7 hHeld ?_
   refine rgT 11 (some 51) hQ7 hHeld ?_; refine rgT 12 (some 52) hQ7 hHeld ?_; refine rgT 13 (some 53) hQ7 hHeld ?_; refine rgT 14 (some 54) hQ7 hHeld ?_; refine rgT 15 (some 55) hQ7 hHeld ?_; refine rgT 16 (some 56) hQ7 hHeld ?_; refine rgT 17 (some 57) hQ7 hHeld ?_
   refine rg_one (i := 18) (by kernel_rfl) (rg_step rfl (by rfl) (fun K hK => ?_))
   go_simp
   refine (idxr_at r HI.out rfl ((HXO.out.2.2.slc.ext HR.out).ext hHeld.1) HXO.out.2.2.2.1 HXO.out.2.2.2.2.1).mono ?_
   rintro e u1 ⟨rfl, B1⟩
   go_wp2_with fail
   refine hK.out _ _ ?_ (fun hHeld2 => ?_)
   ·exact SS.out _ (ext_trans hHeld.1 B1)
   clear hHeld
   have hHeld := hHeld2
   clear hHeld2
   clear hK K
   try simp only [Act.put, List.setIfInBounds_toArray, List.set_cons_zero, List.set_cons_succ]
   refine rgT 19 (some 59) hQ7 hHeld ?_; refine rgT 20 (some 60) hQ7 hHeld ?_
   refine rg_end (by kernel_rfl) (hN7 _ _ ?_) _
   clear hQ7 hN7 Q7
   have BX := hHeld.1
   clear SS
   have HR1 := Lib.hid (ext_trans HR.out BX)
   clear b1 bl c2 BX
   cases r
   ·have HN : Hid (chkD n l cs = false) := by rw [HD.out, HQ.out, all_noD HX.out HV.out]; simp [Hid]
    go_wp2_with fail
    go_ret
    rw [HBAD.out HN.out]
    exact ⟨rfl, ext_trans HE.out HR1.out⟩
   ·have HN := Lib.hid (all_stepD HX.out HV.out)
    go_wp2_with fail
    first | exact ⟨⟨k + 1, by omega, by go_num, HQ.out.trans HN.out, HR1.out⟩, by simp [intOf] <;> omega⟩ | (go_roundw; all_goals first | exact ⟨k + 1, by omega, by go_num, HQ.out.trans HN.out, HR1.out⟩ | (simp [intOf] <;> omega))
  ·have hlt' : decide ((k : Int) < l.length) = false := decide_eq_false (by omega)
   have hd : l.drop k = [] := List.drop_eq_nil_of_le (by omega)
   rw [hd] at HQ
   have HD2 : Hid (chkD n l cs = cs.all (dvdB n l)) := by rw [HD.out, HQ.out]; rfl
   clear hd
   go_wp2_with fail
   clear b1 bl hlt' HD HQ hlt hk
   obtain ⟨wo, rfl⟩ : ∃ wo, wo = wr := ⟨_, rfl⟩
   go_loopw [4] (fun i wr => ∃ j : Nat, j ≤ cs.length ∧ i = .int .i64 j ∧ Hid (cs.all (dvdB n l) = (cs.drop j).all (dvdB n l)) ∧ Hid (Below W.heap.size W wr)) (fun i _ => cs.length - (intOf i).toNat)
   case atStart => exact ⟨0, Nat.zero_le _, rfl, rfl, HR.out⟩
   case round =>
    obtain ⟨j, hj, rfl, HQ, HR2⟩ := hrel
    have b2 := (HB.out.ext HR2.out).c 2 _ rfl
    have bl := (HB.out.ext HR2.out).lt
    by_cases hlt : j < cs.length
    ·have hlt' : (j : Int) < cs.length := by omega
     obtain ⟨g, q1, o1, hx, hA, hb1, hcx⟩ := (HC.out.ext HR2.out).at_ hlt
     have HX := Lib.hid hx
     have HGO := Lib.hid (HCO.out g (List.mem_of_getElem? hx))
     have c0 := hcx 0 _ rfl
     have c1 := hcx 1 _ rfl
     have c2 := hcx 2 _ rfl
     simp only [Nat.add_zero] at c0
     obtain ⟨r, hr⟩ : ∃ r, dvdB n l g = r := ⟨_, rfl⟩
     have HV := Lib.hid hr
     subst hA
     clear hcx hx hr
     go_wp2_with fail
     have SS := Lib.hid (show ∀ w', Below wr.heap.size wr w' → (fun w' => Below wr.heap.size wr w' ∧ w'.cell? ⟨w.heap.size, 0, none⟩ = some (.slice vA n vc) ∧ w'.cell? ⟨w.heap.size, 1, none⟩ = some (.slice sA l.length sc) ∧ w'.cell? ⟨w.heap.size, 2, none⟩ = some (.slice (some ⟨q1, o1, none⟩) cs.length cc) ∧ w'.cell? ⟨w.heap.size, 3, none⟩ = some (.slice none 0 0) ∧ w'.cell? ⟨w.heap.size, 4, none⟩ = some (.slice none 0 0) ∧ w'.cell? ⟨w.heap.size, 5, none⟩ = some (.slice none 0 0) ∧ w'.cell? ⟨w.heap.size, 6, none⟩ = some (.slice none 0 0) ∧ w'.cell? ⟨w.heap.size, 7, none⟩ = some (.slice none 0 0) ∧ w'.cell? ⟨q1, o1 + j * 3, none⟩ = some (.string g.nm) ∧ w'.cell? ⟨q1, o1 + j * 3 + 1, none⟩ = some (.slice g.ns.A g.ns.n g.ns.c) ∧ w'.cell? ⟨q1, o1 + j * 3 + 2, none⟩ = some (.slice g.ss.A g.ss.l.length g.ss.c)) w' from fun w' h => ⟨h, ((HB.out.ext HR2.out).ext h).c 0 _ rfl, ((HB.out.ext HR2.out).ext h).c 1 _ rfl, ((HB.out.ext HR2.out).ext h).c 2 _ rfl, ((HB.out.ext HR2.out).ext h).c 3 _ rfl, ((HB.out.ext HR2.out).ext h).c 4 _ rfl, ((HB.out.ext HR2.out).ext h).c 5 _ rfl, ((HB.out.ext HR2.out).ext h).c 6 _ rfl, ((HB.out.ext HR2.out).ext h).c 7 _ rfl, (h.cell (p := ⟨q1, o1 + j * 3, none⟩) hb1).trans c0, (h.cell (p := ⟨q1, o1 + j * 3 + 1, none⟩) hb1).trans c1, (h.cell (p := ⟨q1, o1 + j * 3 + 2, none⟩) hb1).trans c2⟩)
     refine rgB 8 SS (ext_drew (ext_refl _)) (fun Q7 hQ7 hN7 hHeld => ?_)
     refine rgT 0 (some 68) hQ7 hHeld ?_; refine rgT 1 (some 69) hQ7 hHeld ?_; refine rgT 2 (some 70) hQ7 hHeld ?_; refine rgT 3 (some 71) hQ7 hHeld ?_; refine rgT 4 (some 72) hQ7 hHeld ?_; refine rgT 5 (some 73) hQ7 hHeld ?_
     refine rg_one (i := 6) (by kernel_rfl) (rg_step rfl (by rfl) (fun K hK => ?_))
     go_simp
     refine (rdvd_at (g := g) r HV.out rfl hn64 ((HS.out.ext HR2.out).ext hHeld.1) (by unfold maxLen; exact hsl) (fun x hx => ((HSO.out x hx).ext HR2.out).ext hHeld.1) ((HGO.out.ext HR2.out).ext hHeld.1)).mono ?_
     rintro e u1 ⟨rfl, B1⟩
     go_wp2_with fail
     refine hK.out _ _ ?_ (fun hHeld2 => ?_)
     ·exact SS.out _ (ext_trans hHeld.1 B1)
     clear hHeld
     have hHeld := hHeld2
     clear hHeld2
     clear hK K
     try simp only [Act.put, List.setIfInBounds_toArray, List.set_cons_zero, List.set_cons_succ]
     refine rgT 7 (some 75) hQ7 hHeld ?_
     refine rg_end (by kernel_rfl) (hN7 _ _ ?_) _
     clear hQ7 hN7 Q7
     have BX := hHeld.1
     clear SS
     have HR1 := Lib.hid (ext_trans HR2.out BX)
     clear b2 bl c0 c1 c2 BX
     cases r
     ·have HN : Hid (chkD n l cs = false) := by rw [HD2.out, HQ.out, all_noD HX.out HV.out]; rfl
      go_wp2_with fail
      go_ret
      rw [HBAD.out HN.out]
      exact ⟨rfl, ext_trans HE.out HR1.out⟩
     ·have HN := Lib.hid (all_stepD HX.out HV.out)
      go_wp2_with fail
      first | exact ⟨⟨j + 1, by omega, by go_num, HQ.out.trans HN.out, HR1.out⟩, by simp [intOf] <;> omega⟩ | (go_roundw; all_goals first | exact ⟨j + 1, by omega, by go_num, HQ.out.trans HN.out, HR1.out⟩ | (simp [intOf] <;> omega))
    ·have hlt' : decide ((j : Int) < cs.length) = false := decide_eq_false (by omega)
     have hd : cs.drop j = [] := List.drop_eq_nil_of_le (by omega)
     rw [hd] at HQ
     clear hd
     go_wp2_with fail
     go_ret
     have hD2 := HD2.out
     rw [HQ.out] at hD2
     rw [← HEE.out, hD2]
     exact ⟨rfl, ext_trans HE.out HR2.out⟩
theorem rc10_at {vA : Option Addr} {n vc : Nat} {sA : Option Addr} {sn sc : Nat} {l : List Sec} {cA : Option Addr} {cn cc : Nat} {cs : List Cfg} {w : World} (r : Bool) (hr : chkD n l cs = r) (hsn : sn = l.length) (hcn : cn = cs.length) (hs : Slc w Sec.cells 5 sA l) (hsl : l.length ≤ maxLen) (hk : ∀ x ∈ l, Sec.ok w x) (hc : Slc w Cfg.cells 3 cA cs) (hcl : cs.length ≤ maxLen) (hck : ∀ x ∈ cs, Cfg.ok w x) (hnn : n ≤ 1000) :
  Calls Tryz.prog 66 #[aspV vA n vc sA sn sc cA cn cc] w (RetE w (if r then 0 else 100)) := by
 subst hr hsn hcn; exact rc10_any vA n vc sA sc l cA cc cs w hs hsl hk hc hcl hck hnn
set_option maxRecDepth 100000 in
set_option maxHeartbeats 16000000 in
theorem rway_any (t : Tab) (x : Wy) (w : World) (h1 : 1 ≤ t.n) (h64 : t.n ≤ 64) (hx : Wy.ok w x) (hm : t.ms.l.length ≤ maxLen) : Calls Tryz.prog 69 #[t.v, x.v] w (RetB w (wayB t.n t.ms.l.length x)) := by
 obtain ⟨W, hW⟩ : ∃ W, (w.alloc (.cells #[.int .i64 t.n, .slice t.ss.A t.ss.l.length t.ss.c, .slice t.cs.A t.cs.l.length t.cs.c, .slice t.ws.A t.ws.l.length t.ws.c, .slice t.ms.A t.ms.l.length t.ms.c, .slice t.ks.A t.ks.l.length t.ks.c] 28)).alloc (.cells #[.int .i64 x.f, .int .i64 x.t, .slice x.legs.A x.legs.l.length x.legs.c] 124) = W := ⟨_, rfl⟩
 have HB : Hid (Blk W w.heap.size t.cells) := by rw [← hW]; exact (Blk.newH w t.cells 28 w.heap.size rfl).alloc _
 have HX : Hid (Blk W (w.heap.size + 1) x.cells) := by rw [← hW]; exact Blk.newH (w.alloc _) x.cells 124 (w.heap.size + 1) (by simp)
 have HE : Hid (Below w.heap.size w W) := by rw [← hW]; exact ext_alloc (ext_alloc (ext_refl w) _) _
 have HXO := Lib.hid (hx.ext HE.out)
 have b4 := HB.out.c 4 _ rfl
 have x0 := HX.out.c 0 _ rfl
 have x1 := HX.out.c 1 _ rfl
 have x2 := HX.out.c 2 _ rfl
 have bl := HB.out.lt
 have xl := HX.out.lt
 have hxl := HXO.out.len
 unfold maxLen at hm hxl
 have HD : Hid (wayB t.n t.ms.l.length x = (inn x.f 0 (t.ms.l.length - 1) && inn x.t 0 (t.ms.l.length - 1) && inn x.legs.l.length 1 8 && x.legs.l.all (legB t.n))) := rfl
 clear hx
 go_enter Tryz.func69, Tryz.ntmps69
 go_wp2_with fail
 clear hW
 cases h1 : inn x.f 0 (t.ms.l.length - 1)
 ·refine (inr_at false h1).mono ?_
  rintro e w1 ⟨rfl, rfl⟩
  have HN : Hid (wayB t.n t.ms.l.length x = false) := by rw [HD.out, h1]; rfl
  clear h1
  go_wp2_with fail
  go_ret
  exact ⟨ret_bool HN.out.symm, HE.out⟩
 refine (inr_at true h1).mono ?_
 rintro e w1 ⟨rfl, rfl⟩
 have H1 := Lib.hid h1
 clear h1
 go_wp2_with fail
 cases h2 : inn x.t 0 (t.ms.l.length - 1)
 ·refine (inr_at false h2).mono ?_
  rintro e w1 ⟨rfl, rfl⟩
  have HN : Hid (wayB t.n t.ms.l.length x = false) := by rw [HD.out, h2, Bool.and_false]; rfl
  clear h2
  go_wp2_with fail
  go_ret
  exact ⟨ret_bool HN.out.symm, HE.out⟩
 refine (inr_at true h2).mono ?_
 rintro e w1 ⟨rfl, rfl⟩
 have H2 := Lib.hid h2
 clear h2
 go_wp2_with fail
 cases h3 : inn x.legs.l.length 1 8
 ·refine (inr_at false h3).mono ?_
  rintro e w1 ⟨rfl, rfl⟩
  have HN : Hid (wayB t.n t.ms.l.length x = false) := by rw [HD.out, h3, Bool.and_false]; rfl
  clear h3
  go_wp2_with fail
  go_ret
  exact ⟨ret_bool HN.out.symm, HE.out⟩
 refine (inr_at true h3).mono ?_
 rintro e w1 ⟨rfl, rfl⟩
 have HZ : Hid (wayB t.n t.ms.l.length x = x.legs.l.all (legB t.n)) := by rw [HD.out, H1.out, H2.out, h3]; rfl
 clear h3 HD H1 H2 b4 x0 x1
 go_wp2_with fail
 clear bl xl x2
 go_loopw [5] (fun i wr => ∃ k : Nat, k ≤ x.legs.l.length ∧ i = .int .i64 k ∧ Hid (wayB t.n t.ms.l.length x = (x.legs.l.drop k).all (legB t.n)) ∧ Hid (Below W.heap.size W wr)) (fun i _ => x.legs.l.length - (intOf i).toNat)
 case atStart => exact ⟨0, Nat.zero_le _, rfl, HZ.out, ext_refl _⟩
 case round =>
  obtain ⟨k, hk, rfl, HQ, HR⟩ := hrel
  by_cases hlt : k < x.legs.l.length
  rotate_left
  ·have hlt' : decide ((k : Int) < x.legs.l.length) = false := decide_eq_false (by omega)
   have hd : x.legs.l.drop k = [] := List.drop_eq_nil_of_le (by omega)
   rw [hd] at HQ
   clear hd
   have x2 := (HX.out.ext HR.out).c 2 _ rfl
   have xl := (HX.out.ext HR.out).lt
   go_wp2_with fail
   go_ret
   exact ⟨ret_bool HQ.out.symm, ext_trans HE.out HR.out⟩
  have hlt' : (k : Int) < x.legs.l.length := by omega
  obtain ⟨y, q1, o1, hy, hA, hb1, hcy⟩ := (HXO.out.slc.ext HR.out).at_ hlt
  have HY := Lib.hid hy
  have c0 := hcy 0 _ rfl
  have c1 := hcy 1 _ rfl
  have c2 := hcy 2 _ rfl
  have c3 := hcy 3 _ rfl
  simp only [Nat.add_zero] at c0
  have HYO := Lib.hid ((HXO.out.all (List.mem_of_getElem? hy)).ext HR.out)
  have x2 := (HX.out.ext HR.out).c 2 _ rfl
  rw [hA] at x2
  have xl := (HX.out.ext HR.out).lt
  clear hcy hy hA
  obtain ⟨W2, hW2⟩ : ∃ W2, wr.alloc (.cells #[.int .i64 y.seg, .int .i64 y.vol, .int .i64 y.len, .slice y.mi.A y.mi.l.length y.mi.c] 121) = W2 := ⟨_, rfl⟩
  have HBY : Hid (Blk W2 wr.heap.size y.cells) := by rw [← hW2]; exact Blk.newH wr y.cells 121 wr.heap.size rfl
  have HR2 : Hid (Below W.heap.size W W2) := by rw [← hW2]; exact ext_alloc HR.out _
  have HL : Hid (SliceOf.ok Sp.cells 2 Sp.ok W2 y.mi) := by rw [← hW2]; exact HYO.out.ext (ext_alloc (ext_refl _) _)
  have b0 := (HB.out.ext HR2.out).c 0 _ rfl
  have bl := (HB.out.ext HR2.out).lt
  have y0 := HBY.out.c 0 _ rfl
  have y1 := HBY.out.c 1 _ rfl
  have y2 := HBY.out.c 2 _ rfl
  have y3 := HBY.out.c 3 _ rfl
  have yl := HBY.out.lt
  have hml := HL.out.len
  unfold maxLen at hml
  have HD : Hid (legB t.n y = (inn y.seg 0 127 && inn y.vol 0 (t.n - 1) && inn y.len 1 4096 && decide (0 < y.mi.l.length) && chkHE y.mi.l == 0)) := rfl
  have hr01 := chkHE_01 y.mi.l
  clear HYO
  go_wp2_with fail
  clear hW2 c0 c1 c2 c3 x2 xl
  cases g1 : inn y.seg 0 127
  ·refine (inr_at false g1).mono ?_
   rintro e w1 ⟨rfl, rfl⟩
   have HN : Hid (legB t.n y = false) := by rw [HD.out, g1]; simp [Hid]
   have HM := Lib.hid (all_noD HY.out HN.out)
   clear g1
   go_wp2_with fail
   go_ret
   exact ⟨ret_bool (HQ.out.trans HM.out).symm, ext_trans HE.out HR2.out⟩
  refine (inr_at true g1).mono ?_
  rintro e w1 ⟨rfl, rfl⟩
  have Hg1 := Lib.hid g1
  clear g1
  go_wp2_with fail
  cases g2 : inn y.vol 0 (t.n - 1)
  ·refine (inr_at false g2).mono ?_
   rintro e w1 ⟨rfl, rfl⟩
   have HN : Hid (legB t.n y = false) := by rw [HD.out, g2]; simp [Hid]
   have HM := Lib.hid (all_noD HY.out HN.out)
   clear g2
   go_wp2_with fail
   go_ret
   exact ⟨ret_bool (HQ.out.trans HM.out).symm, ext_trans HE.out HR2.out⟩
  refine (inr_at true g2).mono ?_
  rintro e w1 ⟨rfl, rfl⟩
  have Hg2 := Lib.hid g2
  clear g2
  go_wp2_with fail
  cases g3 : inn y.len 1 4096
  ·refine (inr_at false g3).mono ?_
   rintro e w1 ⟨rfl, rfl⟩
   have HN : Hid (legB t.n y = false) := by rw [HD.out, g3]; simp [Hid]
   have HM := Lib.hid (all_noD HY.out HN.out)
   clear g3
   go_wp2_with fail
   go_ret
   exact ⟨ret_bool (HQ.out.trans HM.out).symm, ext_trans HE.out HR2.out⟩
  refine (inr_at true g3).mono ?_
  rintro e w1 ⟨rfl, rfl⟩
  have Hg3 := Lib.hid g3
  clear g3
  by_cases g4 : y.mi.l.length = 0
  ·have e4 : ((y.mi.l.length : Int) == 0) = true := beq_iff_eq.2 (by omega)
   have HN : Hid (legB t.n y = false) := by rw [HD.out, g4]; simp [Hid]
   have HM := Lib.hid (all_noD HY.out HN.out)
   clear g4
   go_wp2_with fail
   go_ret
   exact ⟨ret_bool (HQ.out.trans HM.out).symm, ext_trans HE.out HR2.out⟩
  have e4 : ((y.mi.l.length : Int) == 0) = false := beq_eq_false_iff_ne.2 (by omega)
  obtain ⟨r, hr⟩ : ∃ r, chkHE y.mi.l = r := ⟨_, rfl⟩
  have HZ2 : Hid (legB t.n y = (r == 0)) := by rw [HD.out, Hg1.out, Hg2.out, Hg3.out, decide_eq_true (show 0 < y.mi.l.length by omega), hr]; rfl
  have HRR := Lib.hid hr
  rw [hr] at hr01
  clear hr g4 HD Hg1 Hg2 Hg3
  go_wp2_with fail
  refine (rhc_at r HRR.out rfl HL.out.slc HL.out.len).mono ?_
  rintro e w1 ⟨rfl, B⟩
  have HR3 := Lib.hid (ext_trans HR2.out B)
  clear b0 bl y0 y1 y2 y3 yl B
  rcases hr01 with rfl | rfl
  ·have HM := Lib.hid (all_stepD HY.out HZ2.out)
   go_wp2_with fail
   first | exact ⟨⟨k + 1, by omega, by go_num, HQ.out.trans HM.out, HR3.out⟩, by simp [intOf] <;> omega⟩ | (go_roundw; all_goals first | exact ⟨k + 1, by omega, by go_num, HQ.out.trans HM.out, HR3.out⟩ | (simp [intOf] <;> omega))
  ·have HM := Lib.hid (all_noD HY.out HZ2.out)
   go_wp2_with fail
   go_ret
   exact ⟨ret_bool (HQ.out.trans HM.out).symm, ext_trans HE.out HR3.out⟩
theorem rway_at {t : Tab} {x : Wy} {w : World} (r : Bool) (hr : wayB t.n t.ms.l.length x = r) (h1 : 1 ≤ t.n) (h64 : t.n ≤ 64) (hx : Wy.ok w x) (hm : t.ms.l.length ≤ maxLen) : Calls Tryz.prog 69 #[t.v, x.v] w (RetB w r) := by
 subst hr; exact rway_any t x w h1 h64 hx hm
end Go.Proofs.YtjiojpoiocdnmaaGreat
