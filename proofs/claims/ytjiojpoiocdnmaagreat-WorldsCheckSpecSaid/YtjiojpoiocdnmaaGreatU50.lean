/- The reference's World. -/
import Derived.Test.YtjiojpoiocdnmaaGreatU49
import Derived.Test.YtjiojpoiocdnmaaGreatU43
import Derived.Test.YtjiojpoiocdnmaaGreatU47
import Derived.Test.YtjiojpoiocdnmaaGreatU22
set_option linter.unusedSimpArgs false
set_option linter.unusedVariables false
namespace Go.Proofs.YtjiojpoiocdnmaaGreat
open Go.RowKit
theorem ask_parts {t : Tab} {s : List Stn} {R : List Rep} {l : List Trk} (h : askE t s R l = 0) : wchkE t l = 0 ∧ s.length ≤ 4 ∧ R.length ≤ 1024 ∧ (∀ y ∈ s, 0 ≤ y.sh ∧ y.sh ≤ 3) ∧ (∀ r ∈ R, 0 ≤ r.mi ∧ r.mi ≤ 1439) ∧ (∀ r ∈ R, 0 ≤ r.st ∧ r.st < (s.length : Int)) := by
 obtain ⟨h1, h2⟩ := ask0.1 h
 obtain ⟨a, b, c, d⟩ := askB_iff.1 h2
 refine ⟨h1, a, b, fun y hy => ?_, fun r hr => ?_, fun r hr => ?_⟩
 ·have := c y hy
  simp only [stnB, Bool.and_eq_true, inn_iff] at this
  omega
 ·have := d r hr
  simp only [repB, Bool.and_eq_true, inn_iff] at this
  omega
 ·have := d r hr
  simp only [repB, Bool.and_eq_true, inn_iff] at this
  omega
theorem anyS_eq {t : Tab} {s : List Stn} {R : List Rep} {l : List Trk} {picks : List Int} (h : askE t s R l = 0) : anyS s R l (stT t l) picks = worldP t s R l picks := by
 obtain ⟨_, h1, _, _, _, h2⟩ := ask_parts h
 unfold anyS worldP worldT wrongAll
 congr 1
 funext x
 exact worldS_eq _ h1 h2
theorem pick_in {t : Tab} {l : List Trk} {st : List (SliceOf (SliceOf Sty))} {picks : List Int} (hst : st.map (fun r => r.l.map (·.l)) = stT t l) (hp : pickOk l picks) : PickIn st picks := by
 intro n z hz
 have h1 : (stT t l)[n]? = some (z.l.map (·.l)) := by rw [← hst, List.getElem?_map, hz]; rfl
 unfold stT at h1
 rw [List.getElem?_map] at h1
 obtain ⟨y, hy, hyz⟩ := Option.map_eq_some_iff.1 h1
 have hlen : z.l.length = y.ps.l.length := by
  have := congrArg List.length hyz
  simpa using this.symm
 have hn : n < picks.length := by rw [hp.1]; exact (List.getElem?_eq_some_iff.1 hy).1
 have h2 := hp.2 n _ y (List.getElem?_eq_getElem hn) hy
 refine ⟨(picks[n]).toNat, ?_, by omega⟩
 rw [List.getElem?_eq_getElem hn, Int.toNat_of_nonneg h2.1]
set_option maxRecDepth 100000 in
set_option maxHeartbeats 8000000 in
theorem rworld16 {t : Tab} {SA RA LA PA : Option Addr} {sn sc rn rc ln lc pn pc : Nat} {s : List Stn} {R : List Rep} {l : List Trk} {picks : List Int} {w : World} (b : Bool) (E : Int) (hb : worldV t s R l picks = b) (hE : worldErr t s R l picks = E)
  (hsn : sn = s.length) (hrn : rn = R.length) (hln : ln = l.length) (hpn : pn = picks.length) (ht : Tab.ok w t) (hs : StnS w SA sc s) (hR : Slc w Rep.cells 6 RA R) (hrm : rn ≤ maxLen) (hl : TrkS w LA lc l) (hp : Slc w ic 1 PA picks) (hpm : pn ≤ maxLen) :
  Calls Tryz.prog 16 #[t.v, .slice SA sn sc, .slice RA rn rc, .slice LA ln lc, .slice PA pn pc] w fun e w' => e = .returned (.tuple #[.bool b, .int .i64 E]) ∧ Below w.heap.size w w' := by
 have Hb := Lib.hid hb
 have HE0 := Lib.hid hE
 have HSN := Lib.hid hsn
 have HRN := Lib.hid hrn
 have HLN := Lib.hid hln
 have HPN := Lib.hid hpn
 have HT := Lib.hid ht
 have HS := Lib.hid hs
 have HR := Lib.hid hR
 have HL := Lib.hid hl
 have HP := Lib.hid hp
 have hlm : ln ≤ 2 ^ 63 - 1 := by rw [hln]; exact hl.len
 unfold maxLen at hrm hpm
 clear hb hE hsn hrn hln hpn ht hs hR hl hp
 have HE : Hid (Below w.heap.size w (w.alloc (.cells #[.int .i64 t.n, .slice t.ss.A t.ss.l.length t.ss.c, .slice t.cs.A t.cs.l.length t.cs.c, .slice t.ws.A t.ws.l.length t.ws.c, .slice t.ms.A t.ms.l.length t.ms.c, .slice t.ks.A t.ks.l.length t.ks.c] 28))) := ext_alloc (ext_refl w) _
 have BT : Hid (Blk (w.alloc (.cells #[.int .i64 t.n, .slice t.ss.A t.ss.l.length t.ss.c, .slice t.cs.A t.cs.l.length t.cs.c, .slice t.ws.A t.ws.l.length t.ws.c, .slice t.ms.A t.ms.l.length t.ms.c, .slice t.ks.A t.ks.l.length t.ks.c] 28)) w.heap.size t.cells) := Blk.newH w t.cells 28 w.heap.size rfl
 obtain ⟨E1, hE1⟩ : ∃ E, askE t s R l = E := ⟨_, rfl⟩
 have HA := Lib.hid hE1
 clear hE1
 go_enter Tryz.func16, Tryz.ntmps16
 go_wp2_with fail
 refine (rask_at E1 HA.out HSN.out HRN.out HLN.out (HT.out.ext HE.out) (HS.out.ext HE.out) (HR.out.ext HE.out) (by unfold maxLen; omega) (HL.out.ext HE.out)).mono ?_
 rintro e w1 ⟨rfl, B⟩
 replace HE := Lib.hid (ext_trans HE.out B)
 replace BT := Lib.hid (BT.out.ext B)
 clear B
 by_cases hc : E1 = 0
 rotate_left
 ·obtain rfl : E = E1 := by rw [← HE0.out, ← HA.out]; unfold worldErr; rw [if_pos (by rw [HA.out]; exact hc)]
  obtain rfl : b = false := by rw [← Hb.out]; unfold worldV; rw [if_neg (by rw [HE0.out]; exact hc)]
  have hcf : ((E : Int) == 0) = false := by rw [beq_eq_false_iff_ne]; exact hc
  have hcf2 : (E != 0) = true := by rw [bne, hcf]; rfl
  clear HE0 HA
  go_wp2_with fail
  go_ret2
  exact ⟨rfl, HE.out⟩
 subst hc
 have HAK := Lib.hid (ask_parts HA.out)
 have HNO : Hid (picksB l picks = false → E = 240 ∧ b = false) := fun h => by
  have e : E = 240 := by rw [← HE0.out]; unfold worldErr; rw [if_neg (by rw [HA.out]; simp), h]; rfl
  refine ⟨e, ?_⟩
  rw [← Hb.out]
  unfold worldV
  rw [if_neg (by rw [HE0.out, e]; decide)]
 have HYES : Hid (picksB l picks = true → E = 0 ∧ anyS s R l (stT t l) picks = b) := fun h => by
  have e : E = 0 := by rw [← HE0.out]; unfold worldErr; rw [if_neg (by rw [HA.out]; simp), h]; rfl
  refine ⟨e, ?_⟩
  rw [← Hb.out]
  unfold worldV
  rw [if_pos (by rw [HE0.out, e]), anyS_eq HA.out]
 clear HE0 Hb HA
 by_cases hpl : pn = ln
 rotate_left
 ·have hq : picksB l picks = false := by
   cases h : picksB l picks with
   | false => rfl
   | true => exact absurd (by rw [HPN.out, HLN.out]; exact (picksB_iff.1 h).1) hpl
  obtain ⟨rfl, rfl⟩ := HNO.out hq
  have hpf : ((pn : Int) == (ln : Int)) = false := by rw [beq_eq_false_iff_ne]; omega
  have hpf2 : ((pn : Int) != (ln : Int)) = true := by rw [bne, hpf]; rfl
  clear hpl HNO HYES hq
  go_wp2_with fail
  go_ret2
  exact ⟨rfl, HE.out⟩
 subst hpl
 go_wp2_with fail
 go_loopw [13] (fun i wr => ∃ k : Nat, k ≤ pn ∧ i = .int .i64 k ∧ Hid (∀ (n : Nat) (v : Int) (y : Trk), n < k → picks[n]? = some v → l[n]? = some y → 0 ≤ v ∧ v < y.ps.l.length) ∧ Hid (Below w1.heap.size w1 wr)) (fun i _ => pn - (intOf i).toNat)
 case atStart => exact ⟨0, by omega, rfl, (fun n v y h => by omega), ext_refl _⟩
 case round =>
  obtain ⟨k, hk, rfl, HF, EO⟩ := hrel
  obtain ⟨wo, rfl⟩ : ∃ wo, wo = wr := ⟨_, rfl⟩
  have EZ := Lib.hid (ext_trans HE.out EO.out)
  by_cases hlt : k < pn
  rotate_left
  ·obtain rfl : k = pn := by omega
   have hkn : ¬ (k : Int) < (k : Int) := by omega
   have hok : pickOk l picks := ⟨by rw [← HPN.out, ← HLN.out], fun i v y hv hy => HF.out i v y (by rw [HPN.out]; exact (List.getElem?_eq_some_iff.1 hv).1) hv hy⟩
   have HOK := Lib.hid hok
   obtain ⟨rfl, hby⟩ := HYES.out (picksB_iff.2 hok)
   have HBY := Lib.hid hby
   have b0 := (BT.out.ext EO.out).c 0 _ rfl
   have b1 := (BT.out.ext EO.out).c 1 _ rfl
   have b2 := (BT.out.ext EO.out).c 2 _ rfl
   have b3 := (BT.out.ext EO.out).c 3 _ rfl
   have b4 := (BT.out.ext EO.out).c 4 _ rfl
   have b5 := (BT.out.ext EO.out).c 5 _ rfl
   have bl := (BT.out.ext EO.out).lt
   clear HNO HYES hok hby HF
   go_wp2_with fail
   refine (rsts_at HLN.out HAK.out.1 (HT.out.ext EZ.out) (HL.out.ext EZ.out)).mono ?_
   rintro e w3 ⟨TA, tn, tc, st, rfl, htn, hST, hSL, B3⟩
   have HTN := Lib.hid htn
   have HST := Lib.hid hST.view
   have HSL := Lib.hid hSL
   have E3 := Lib.hid (ext_trans EZ.out B3)
   have htl : tn = k := by
    have := congrArg List.length hSL
    unfold stT at this
    rw [List.length_map, List.length_map] at this
    rw [htn, this, HLN.out]
   clear htn hST hSL B3 b0 b1 b2 b3 b4 b5 bl
   subst htl
   go_wp2_with fail
   refine (rany_at (st := st) b (by rw [← HBY.out]; unfold stL; rw [HSL.out]) HSN.out HRN.out HLN.out HTN.out HPN.out (HS.out.ext E3.out) (HR.out.ext E3.out) (HL.out.ext E3.out) HST.out (HP.out.ext E3.out) rfl rfl (pick_in HSL.out HOK.out) HAK.out.2.2.2.1 HAK.out.2.2.2.2.1 (by rw [HSN.out]; exact HAK.out.2.1) (by rw [HRN.out]; exact HAK.out.2.2.1) (by rw [HLN.out]; exact (wchk_ok HAK.out.1).2.1)).mono ?_
   rintro e w4 ⟨rfl, B4⟩
   have E4 := Lib.hid (ext_trans E3.out B4)
   clear B4
   go_wp2_with fail
   go_ret2
   exact ⟨rfl, E4.out⟩
  have hki : (k : Int) < (pn : Int) := by omega
  obtain ⟨v, pb, po, hv, hpA, hpb, hpc⟩ := (HP.out.below (Nat.le_refl _) EZ.out).at_ (k := k) (by rw [← HPN.out]; exact hlt)
  obtain ⟨x, xb, xo, hx, hxA, hxb, hxc⟩ := (HL.out.slc.below (Nat.le_refl _) EZ.out).at_ (k := k) (by rw [← HLN.out]; exact hlt)
  have p0 : wo.cell? ⟨pb, po + k, none⟩ = some (.int .i64 v) := by have := hpc 0 _ rfl; simpa using this
  have x12 := hxc 12 _ rfl
  have HV := Lib.hid hv
  have HX := Lib.hid hx
  obtain ⟨m, hm⟩ : ∃ m, x.ps.l.length = m := ⟨_, rfl⟩
  have HM := Lib.hid hm
  rw [hm] at x12
  have hpl := hpb
  have hxl := hxb
  have HBAD : Hid (¬ (0 ≤ v ∧ v < (m : Int)) → picksB l picks = false) := fun hn => by
   cases h : picksB l picks with
   | false => rfl
   | true =>
    have := (picksB_iff.1 h).2 k v x HV.out HX.out
    rw [HM.out] at this
    exact absurd this hn
  have hmm : m ≤ 2 ^ 63 - 1 := by rw [← hm]; exact ((HL.out.all (List.mem_of_getElem? hx)).2.2.1).len
  subst hpA hxA
  clear hv hx hpb hxb hpc hxc hm
  by_cases hv0 : v < 0
  ·obtain ⟨rfl, rfl⟩ := HNO.out (HBAD.out (by omega))
   clear HNO HYES HBAD
   go_wp2_with fail
   have SS := Lib.hid (show ∀ w', Below wo.heap.size wo w' → (fun w' => Below wo.heap.size wo w' ∧ w'.cell? ⟨pb, po + k, none⟩ = some (.int .i64 v)) w' from fun w' h => ⟨h, (h.cell (p := ⟨pb, po + k, none⟩) hpl).trans p0⟩)
   refine rgB 18 SS (ext_drew (ext_refl _)) (fun Q7 hQ7 hN7 hHeld => ?_)
   refine rgT 0 (some 33) hQ7 hHeld ?_; refine rgT 1 (some 34) hQ7 hHeld ?_; refine rgT 2 (some 35) hQ7 hHeld ?_; refine rgT 3 (some 36) hQ7 hHeld ?_; refine rgT 4 (some 37) hQ7 hHeld ?_; refine rgT 5 (some 38) hQ7 hHeld ?_; refine rgS 6 (some 39) hQ7 hHeld ?_; refine rgS 7 (some 40) hQ7 hHeld ?_; refine rgS 8 (some 41) hQ7 hHeld ?_; refine rgS 9 (some 42) hQ7 hHeld ?_; refine rgS 10 (some 43) hQ7 hHeld ?_
   refine rgS 11 (some 44) hQ7 hHeld ?_; refine rgS 12 (some 45) hQ7 hHeld ?_; refine rgS 13 (some 46) hQ7 hHeld ?_; refine rgS 14 (some 47) hQ7 hHeld ?_; refine rgS 15 (some 48) hQ7 hHeld ?_; refine rgS 16 (some 49) hQ7 hHeld ?_; refine rgT 17 (some 50) hQ7 hHeld ?_
   refine rg_end (by kernel_rfl) (hN7 _ _ ?_) _
   clear hQ7 hN7 Q7
   have BX := hHeld.1
   clear SS
   have E9 := Lib.hid (ext_trans EZ.out BX)
   clear BX
   go_wp2_with fail
   go_ret2
   exact ⟨rfl, E9.out⟩
  have hvd : decide (v < 0) = false := decide_eq_false hv0
  by_cases hvm : (m : Int) ≤ v
  ·obtain ⟨rfl, rfl⟩ := HNO.out (HBAD.out (by omega))
   clear HNO HYES HBAD
   go_wp2_with fail
   have SS := Lib.hid (show ∀ w', Below wo.heap.size wo w' → (fun w' => Below wo.heap.size wo w' ∧ w'.cell? ⟨pb, po + k, none⟩ = some (.int .i64 v) ∧ w'.cell? ⟨xb, xo + k * 14 + 12, none⟩ = some (.slice x.ps.A m x.ps.c)) w' from fun w' h => ⟨h, (h.cell (p := ⟨pb, po + k, none⟩) hpl).trans p0, (h.cell (p := ⟨xb, xo + k * 14 + 12, none⟩) hxl).trans x12⟩)
   refine rgB 18 SS (ext_drew (ext_refl _)) (fun Q7 hQ7 hN7 hHeld => ?_)
   refine rgT 0 (some 33) hQ7 hHeld ?_; refine rgT 1 (some 34) hQ7 hHeld ?_; refine rgT 2 (some 35) hQ7 hHeld ?_; refine rgT 3 (some 36) hQ7 hHeld ?_; refine rgT 4 (some 37) hQ7 hHeld ?_; refine rgT 5 (some 38) hQ7 hHeld ?_; refine rgT 6 (some 39) hQ7 hHeld ?_; refine rgT 7 (some 40) hQ7 hHeld ?_; refine rgT 8 (some 41) hQ7 hHeld ?_; refine rgT 9 (some 42) hQ7 hHeld ?_; refine rgT 10 (some 43) hQ7 hHeld ?_
   refine rgT 11 (some 44) hQ7 hHeld ?_; refine rgT 12 (some 45) hQ7 hHeld ?_; refine rgT 13 (some 46) hQ7 hHeld ?_; refine rgT 14 (some 47) hQ7 hHeld ?_; refine rgT 15 (some 48) hQ7 hHeld ?_; refine rgT 16 (some 49) hQ7 hHeld ?_; refine rgT 17 (some 50) hQ7 hHeld ?_
   refine rg_end (by kernel_rfl) (hN7 _ _ ?_) _
   clear hQ7 hN7 Q7
   have BX := hHeld.1
   clear SS
   have E9 := Lib.hid (ext_trans EZ.out BX)
   clear BX
   go_wp2_with fail
   go_ret2
   exact ⟨rfl, E9.out⟩
  have HF2 : Hid (∀ (n : Nat) (v : Int) (y : Trk), n < k + 1 → picks[n]? = some v → l[n]? = some y → 0 ≤ v ∧ v < y.ps.l.length) := fun n u y hn hu hy => by
   by_cases e : n = k
   ·subst e
    rw [HV.out] at hu; rw [HX.out] at hy
    cases hu; cases hy
    rw [HM.out]; omega
   ·exact HF.out n u y (by omega) hu hy
  clear HNO HYES HBAD HF
  go_wp2_with fail
  have SS := Lib.hid (show ∀ w', Below wo.heap.size wo w' → (fun w' => Below wo.heap.size wo w' ∧ w'.cell? ⟨pb, po + k, none⟩ = some (.int .i64 v) ∧ w'.cell? ⟨xb, xo + k * 14 + 12, none⟩ = some (.slice x.ps.A m x.ps.c)) w' from fun w' h => ⟨h, (h.cell (p := ⟨pb, po + k, none⟩) hpl).trans p0, (h.cell (p := ⟨xb, xo + k * 14 + 12, none⟩) hxl).trans x12⟩)
  refine rgB 18 SS (ext_drew (ext_refl _)) (fun Q7 hQ7 hN7 hHeld => ?_)
  refine rgT 0 (some 33) hQ7 hHeld ?_; refine rgT 1 (some 34) hQ7 hHeld ?_; refine rgT 2 (some 35) hQ7 hHeld ?_; refine rgT 3 (some 36) hQ7 hHeld ?_; refine rgT 4 (some 37) hQ7 hHeld ?_; refine rgT 5 (some 38) hQ7 hHeld ?_; refine rgT 6 (some 39) hQ7 hHeld ?_; refine rgT 7 (some 40) hQ7 hHeld ?_; refine rgT 8 (some 41) hQ7 hHeld ?_; refine rgT 9 (some 42) hQ7 hHeld ?_; refine rgT 10 (some 43) hQ7 hHeld ?_
  refine rgT 11 (some 44) hQ7 hHeld ?_; refine rgT 12 (some 45) hQ7 hHeld ?_; refine rgT 13 (some 46) hQ7 hHeld ?_; refine rgT 14 (some 47) hQ7 hHeld ?_; refine rgT 15 (some 48) hQ7 hHeld ?_; refine rgT 16 (some 49) hQ7 hHeld ?_; refine rgT 17 (some 50) hQ7 hHeld ?_
  refine rg_end (by kernel_rfl) (hN7 _ _ ?_) _
  clear hQ7 hN7 Q7
  have BX := hHeld.1
  clear SS
  have E9 := Lib.hid (ext_trans EO.out BX)
  clear BX p0 x12 hpl hxl
  go_wp2_with fail
  go_roundw
  case rel => exact ⟨k + 1, hlt, by go_num, HF2, E9⟩
  case measure => simp [intOf]; (try omega)
end Go.Proofs.YtjiojpoiocdnmaaGreat
/- Law 5: Check and World agree with the reference. -/
set_option linter.unusedSimpArgs false
set_option linter.unusedVariables false
namespace Go.Proofs.YtjiojpoiocdnmaaGreat
open Go.RowKit
set_option maxRecDepth 100000 in
set_option maxHeartbeats 16000000 in
theorem law5 (t : Tab) (SA : Option Addr) (sc : Nat) (s : List Stn) (RA : Option Addr) (rc : Nat) (R : List Rep) (LA : Option Addr) (lc : Nat) (l : List Trk) (PA : Option Addr) (pc : Nat) (p : List Int) (w : World) (ht : Tab.ok w t) (hs : StnS w SA sc s) (hR : SliceOf.ok Rep.cells 6 Rep.ok w ⟨RA, rc, R⟩) (hl : TrkS w LA lc l) (hp : SliceOf.ok ic 1 (fun _ n => (Lit.int .i64 n).wf = true) w ⟨PA, pc, p⟩) :
  Calls Tryz.prog 5 #[t.v, .slice SA s.length sc, .slice RA R.length rc, .slice LA l.length lc, .slice PA p.length pc] w (Tru w) := by
 obtain ⟨rn, hrn⟩ : ∃ rn, R.length = rn := ⟨_, rfl⟩
 obtain ⟨sn, hsn⟩ : ∃ sn, s.length = sn := ⟨_, rfl⟩
 obtain ⟨ln, hln⟩ : ∃ ln, l.length = ln := ⟨_, rfl⟩
 obtain ⟨pn, hpn⟩ : ∃ pn, p.length = pn := ⟨_, rfl⟩
 have HRN := Lib.hid hrn
 have HSN := Lib.hid hsn
 have HLN := Lib.hid hln
 have HPN := Lib.hid hpn
 have hrc : rn ≤ rc := by rw [← hrn]; exact hR.2.1
 have hrm : rc ≤ 2 ^ 63 - 1 := hR.2.2.1
 have hpm : pn ≤ 2 ^ 63 - 1 := by rw [← hpn]; exact hp.len
 rw [hrn, hsn, hln, hpn]
 clear hrn hsn hln hpn
 have HT := Lib.hid ht
 have HS := Lib.hid hs
 have HR := Lib.hid hR
 have HL := Lib.hid hl
 have HP := Lib.hid hp
 obtain ⟨W0, hW0⟩ : ∃ W0, w.alloc (.cells #[.int .i64 t.n, .slice t.ss.A t.ss.l.length t.ss.c, .slice t.cs.A t.cs.l.length t.cs.c, .slice t.ws.A t.ws.l.length t.ws.c, .slice t.ms.A t.ms.l.length t.ms.c, .slice t.ks.A t.ks.l.length t.ks.c] 28) = W0 := ⟨_, rfl⟩
 have E0 : Hid (Below w.heap.size w W0) := by rw [← hW0]; exact ext_alloc (ext_refl w) _
 have T0 : Hid (Blk W0 w.heap.size t.cells) := by rw [← hW0]; exact Blk.newH w t.cells 28 w.heap.size rfl
 clear ht hs hR hl hp
 go_enter Tryz.func5, Tryz.ntmps5
 go_wp2_with fail
 refine (sane_any W0).mono ?_
 rintro e w1 ⟨rfl, B⟩
 have E1 := Lib.hid (ext_trans E0.out B)
 have T1 := Lib.hid (T0.out.ext B)
 clear hW0 B E0 T0
 have b0 := T1.out.c 0 _ rfl
 have b1 := T1.out.c 1 _ rfl
 have b2 := T1.out.c 2 _ rfl
 have b3 := T1.out.c 3 _ rfl
 have b4 := T1.out.c 4 _ rfl
 have b5 := T1.out.c 5 _ rfl
 have b6 := T1.out.lt
 go_wp2_with fail
 clear b0 b1 b2 b3 b4 b5 b6
 refine (light_at (s := s) (R := R) (l := l) 400 400 rfl (by decide) (by decide) HSN.out.symm HRN.out.symm HLN.out.symm (by unfold maxLen; omega) (HT.out.ext E1.out) (HS.out.ext E1.out) (HL.out.ext E1.out)).mono ?_
 rintro e w2 ⟨r, rfl, hLP, B⟩
 have E2 := Lib.hid (ext_trans E1.out B)
 have T2 := Lib.hid (T1.out.ext B)
 clear B E1 T1
 cases r
 ·go_wp2_with fail
  all_goals
   go_ret
   exact ⟨rfl, E2.out⟩
 have HLP := Lib.hid (hLP rfl)
 clear hLP
 by_cases hp20 : 20 < pn
 ·have hp20' : (20 : Int) < (pn : Int) := by omega
  go_wp2_with fail
  all_goals
   go_ret
   exact ⟨rfl, E2.out⟩
 have hp20' : ¬ (20 : Int) < (pn : Int) := by omega
 have hrn : rn ≤ 10 := by rw [← HRN.out]; exact HLP.out.hr
 have hsn : sn ≤ 6 := by rw [← HSN.out]; exact HLP.out.hs
 obtain ⟨EE, hE⟩ : ∃ EE, worldErr t s R l p = EE := ⟨_, rfl⟩
 obtain ⟨b, hb⟩ : ∃ b, worldV t s R l p = b := ⟨_, rfl⟩
 obtain ⟨V, hV⟩ : ∃ V, wchkE t l = V := ⟨_, rfl⟩
 have HE := Lib.hid hE
 have HBV := Lib.hid hb
 have HV := Lib.hid hV
 clear hE hb hV
 have b0 := T2.out.c 0 _ rfl
 have b1 := T2.out.c 1 _ rfl
 have b2 := T2.out.c 2 _ rfl
 have b3 := T2.out.c 3 _ rfl
 have b4 := T2.out.c 4 _ rfl
 have b5 := T2.out.c 5 _ rfl
 have b6 := T2.out.lt
 go_wp2_with fail
 clear b0 b1 b2 b3 b4 b5 b6
 refine (world_lit EE b HE.out HBV.out HSN.out.symm HRN.out.symm HLN.out.symm HPN.out.symm (HT.out.ext E2.out) (HS.out.ext E2.out) (HR.out.slc.ext E2.out) (HL.out.ext E2.out) (HP.out.slc.ext E2.out) (by rw [HPN.out]; unfold maxLen; omega) (by rw [HSN.out]; omega) (by rw [HRN.out]; omega) (by have := HLP.out.hl; omega)).mono ?_
 rintro e w3 ⟨rfl, B⟩
 have E3 := Lib.hid (ext_trans E2.out B)
 have T3 := Lib.hid (T2.out.ext B)
 clear B E2 T2
 have b0 := T3.out.c 0 _ rfl
 have b1 := T3.out.c 1 _ rfl
 have b2 := T3.out.c 2 _ rfl
 have b3 := T3.out.c 3 _ rfl
 have b4 := T3.out.c 4 _ rfl
 have b5 := T3.out.c 5 _ rfl
 have b6 := T3.out.lt
 go_wp2_with fail
 clear b0 b1 b2 b3 b4 b5 b6
 refine (rworld16 b EE HBV.out HE.out HSN.out.symm HRN.out.symm HLN.out.symm HPN.out.symm (HT.out.ext E3.out) (HS.out.ext E3.out) (HR.out.slc.ext E3.out) (by unfold maxLen; omega) (HL.out.ext E3.out) (HP.out.slc.ext E3.out) (by unfold maxLen; omega)).mono ?_
 rintro e w4 ⟨rfl, B⟩
 have E4 := Lib.hid (ext_trans E3.out B)
 have T4 := Lib.hid (T3.out.ext B)
 clear B E3 T3
 have hbb : (b == b) = true := by simp
 have hee : (EE == EE) = true := by simp
 have hvv : (V == V) = true := by simp
 go_wp2_with fail
 have SS := Lib.hid (show ∀ w', Below w4.heap.size w4 w' → (fun w' => Below w4.heap.size w4 w' ∧ w'.cell? ⟨w.heap.size, 0, none⟩ = some (.int .i64 t.n) ∧ w'.cell? ⟨w.heap.size, 1, none⟩ = some (.slice t.ss.A t.ss.l.length t.ss.c) ∧ w'.cell? ⟨w.heap.size, 2, none⟩ = some (.slice t.cs.A t.cs.l.length t.cs.c) ∧ w'.cell? ⟨w.heap.size, 3, none⟩ = some (.slice t.ws.A t.ws.l.length t.ws.c) ∧ w'.cell? ⟨w.heap.size, 4, none⟩ = some (.slice t.ms.A t.ms.l.length t.ms.c) ∧ w'.cell? ⟨w.heap.size, 5, none⟩ = some (.slice t.ks.A t.ks.l.length t.ks.c)) w' from fun w' h => ⟨h, (T4.out.ext h).c 0 _ rfl, (T4.out.ext h).c 1 _ rfl, (T4.out.ext h).c 2 _ rfl, (T4.out.ext h).c 3 _ rfl, (T4.out.ext h).c 4 _ rfl, (T4.out.ext h).c 5 _ rfl⟩)
 refine rgB 18 SS (ext_drew (ext_refl _)) (fun Q7 hQ7 hN7 hHeld => ?_)
 refine rgT 0 (some 46) hQ7 hHeld ?_; refine rgT 1 (some 47) hQ7 hHeld ?_; refine rgT 2 (some 48) hQ7 hHeld ?_; refine rgT 3 (some 49) hQ7 hHeld ?_; refine rgT 4 (some 50) hQ7 hHeld ?_; refine rgT 5 (some 51) hQ7 hHeld ?_; refine rgT 6 (some 52) hQ7 hHeld ?_; refine rgT 7 (some 53) hQ7 hHeld ?_; refine rgT 8 (some 54) hQ7 hHeld ?_; refine rgT 9 (some 55) hQ7 hHeld ?_; refine rgT 10 (some 56) hQ7 hHeld ?_
 refine rgT 12 (some 58) hQ7 hHeld ?_; refine rgT 13 (some 59) hQ7 hHeld ?_
 refine rg_one (i := 11) (by kernel_rfl) (rg_step rfl (by rfl) (fun K hK => ?_))
 go_simp
 refine (wchk_at V HV.out HLN.out.symm (HT.out.ext (ext_trans E4.out hHeld.1)) (HL.out.ext (ext_trans E4.out hHeld.1))).mono ?_
 rintro e u1 ⟨rfl, B1⟩
 go_wp2_with fail
 refine hK.out _ _ ?_ (fun hHeld2 => ?_)
 ·exact SS.out _ (ext_trans hHeld.1 B1)
 clear hHeld
 have hHeld := hHeld2
 clear hHeld2
 clear hK K
 try simp only [Act.put, List.setIfInBounds_toArray, List.set_cons_zero, List.set_cons_succ]
 refine rg_one (i := 14) (by kernel_rfl) (rg_step rfl (by rfl) (fun K hK => ?_))
 go_simp
 refine (rwchk_at V HV.out HLN.out.symm (HT.out.ext (ext_trans E4.out hHeld.1)) (HL.out.ext (ext_trans E4.out hHeld.1))).mono ?_
 rintro e u2 ⟨rfl, B2⟩
 go_wp2_with fail
 refine hK.out _ _ ?_ (fun hHeld2 => ?_)
 ·exact SS.out _ (ext_trans hHeld.1 B2)
 clear hHeld
 have hHeld := hHeld2
 clear hHeld2
 clear hK K
 try simp only [Act.put, List.setIfInBounds_toArray, List.set_cons_zero, List.set_cons_succ]
 refine rgT 15 (some 61) hQ7 hHeld ?_; refine rgT 16 (some 62) hQ7 hHeld ?_; refine rgT 17 (some 10) hQ7 hHeld ?_
 refine rg_end (by kernel_rfl) (hN7 _ _ ?_) _
 clear hQ7 hN7 Q7
 have BX := hHeld.1
 clear SS
 have E9 := Lib.hid (ext_trans E4.out BX)
 clear BX
 go_wp2_with fail
 go_ret
 exact ⟨rfl, E9.out⟩
end Go.Proofs.YtjiojpoiocdnmaaGreat
/- Law 5 as its row asks. -/
set_option linter.unusedSimpArgs false
set_option linter.unusedVariables false
namespace Go.Proofs.YtjiojpoiocdnmaaGreat
open Go.RowKit
theorem walk5 (t : Tab) (s : SliceOf Stn) (r : SliceOf Rep) (l : SliceOf Trk) (p : SliceOf Int) (w : World) (ht : Tab.ok w t) (hs : SliceOf.ok Stn.cells 3 Stn.ok w s) (hr : SliceOf.ok Rep.cells 6 Rep.ok w r) (hl : SliceOf.ok Trk.cells 14 Trk.ok w l) (hp : SliceOf.ok ic 1 (fun _ n => (Lit.int .i64 n).wf = true) w p) :
    Calls Tryz.prog 5 #[.agg t.cells.toArray, .slice s.A s.l.length s.c, .slice r.A r.l.length r.c, .slice l.A l.l.length l.c, .slice p.A p.l.length p.c] w (Tru w) :=
  law5 t s.A s.c s.l r.A r.c r.l l.A l.c l.l p.A p.c p.l w ht hs hr hl hp
end Go.Proofs.YtjiojpoiocdnmaaGreat
