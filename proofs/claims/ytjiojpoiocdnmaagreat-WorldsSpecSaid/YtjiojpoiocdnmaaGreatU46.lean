/- Fewer reports, more faults, wider shifts: the plain law. No program in sight. -/
import Derived.Test.YtjiojpoiocdnmaaGreatQF
import Derived.Test.YtjiojpoiocdnmaaGreatU26
import Derived.Test.YtjiojpoiocdnmaaGreatNZ
set_option linter.unusedSimpArgs false
set_option linter.unusedVariables false
namespace Go.Proofs.YtjiojpoiocdnmaaGreat
open Go.RowKit
theorem possL_len (t : Tab) (s : List Stn) (R : List Rep) (l : List Trk) : (possL t s R l).length = l.length := by simp [possL]
theorem possL_at {t : Tab} {s : List Stn} {R : List Rep} {l : List Trk} {n : Nat} {x : List Bool} (h : (possL t s R l)[n]? = some x) : x.length = (msT l).getD n 0 ∧ ∀ (k : Nat) (b : Bool), x[k]? = some b → b = possB t s R l n k := by
  unfold possL at h
  rw [List.getElem?_map] at h
  obtain ⟨m, hm, rfl⟩ := Option.map_eq_some_iff.1 h
  have hn := (List.getElem?_eq_some_iff.1 hm).1
  rw [List.length_range] at hn
  rw [List.getElem?_range hn] at hm
  cases hm
  refine ⟨by simp, fun k b hb => ?_⟩
  rw [List.getElem?_map] at hb
  obtain ⟨q, hq, rfl⟩ := Option.map_eq_some_iff.1 hb
  have hk := (List.getElem?_eq_some_iff.1 hq).1
  rw [List.length_range] at hk
  rw [List.getElem?_range hk] at hq
  cases hq
  rfl
section
variable {t : Tab} {s : List Stn} {R R2 : List Rep} {l : List Trk}
theorem ask0 : askE t s R l = 0 ↔ wchkE t l = 0 ∧ askB t s R = true := by
  unfold askE
  by_cases h : wchkE t l = 0
  · rw [if_neg (fun q => q h)]
    cases askB t s R <;> simp [h]
  · rw [if_pos h]
    exact ⟨fun q => absurd q h, fun q => absurd q.1 h⟩
theorem askB_iff : askB t s R = true ↔ s.length ≤ 4 ∧ R.length ≤ 1024 ∧ (∀ x ∈ s, stnB t.n x = true) ∧ ∀ r ∈ R, repB s.length r = true := by
  unfold askB
  simp only [Bool.and_eq_true, decide_eq_true_eq, List.all_eq_true]
  exact ⟨fun ⟨⟨⟨a, b⟩, c⟩, d⟩ => ⟨a, b, c, d⟩, fun ⟨a, b, c, d⟩ => ⟨⟨⟨a, b⟩, c⟩, d⟩⟩
end
end Go.Proofs.YtjiojpoiocdnmaaGreat
/- Slices cut; stations changed; law 3. -/
set_option linter.unusedSimpArgs false
set_option linter.unusedVariables false
namespace Go.Proofs.YtjiojpoiocdnmaaGreat
open Go.RowKit Go.Shelf
def StnS (W : World) (A : Option Addr) (c : Nat) (l : List Stn) : Prop := SliceOf.ok Stn.cells 3 Stn.ok W ⟨A, c, l⟩
theorem StnS.ext {W W' : World} {A : Option Addr} {c : Nat} {l : List Stn} (h : StnS W A c l) (hb : Below W.heap.size W W') : StnS W' A c l := SliceOf.ok.ext h hb (fun _ k => k.ext hb)
theorem light_at {t : Tab} {SA RA LA : Option Addr} {sn sc rn rc ln lc : Nat} {s : List Stn} {R : List Rep} {l : List Trk} {w : World} (most : Nat) (m : Int) (hm : m = most) (hm1 : 1 ≤ most) (hm2 : most ≤ 1000) (hsn : sn = s.length) (hrn : rn = R.length) (hln : ln = l.length) (hrm : rn ≤ maxLen) (ht : Tab.ok w t) (hs : StnS w SA sc s) (hl : TrkS w LA lc l) :
    Calls Tryz.prog 10 #[t.v, .slice SA sn sc, .slice RA rn rc, .slice LA ln lc, .int .i64 m] w (FewR w (LightP most s R l)) := by
  subst hm hsn hln
  exact light10 most hm1 hm2 t SA sc s RA rn rc LA lc l R w hrn hrm ht hs hl
theorem L_bounds {t : Tab} {s : List Stn} {R : List Rep} {l : List Trk} (hl : l.length ≤ 5) (hp : ∀ y ∈ l, y.ps.l.length ≤ 20) : (possV t s R l).length ≤ 100000 ∧ ∀ x ∈ possV t s R l, x.length ≤ 100000 := by
  unfold possV
  split
  · refine ⟨by rw [possL_len]; omega, fun x hx => ?_⟩
    obtain ⟨n, hn⟩ := List.mem_iff_getElem?.1 hx
    rw [(possL_at hn).1]
    unfold msT
    rw [List.getD_eq_getElem?_getD, List.getElem?_map]
    cases hy : l[n]? with
    | none => simp
    | some y => have := hp y (List.mem_of_getElem? hy); simp; omega
  · exact ⟨by simp, by simp⟩
end Go.Proofs.YtjiojpoiocdnmaaGreat
/- The errors of World and Possible: the reference's 'asked'. -/
set_option linter.unusedSimpArgs false
set_option linter.unusedVariables false
namespace Go.Proofs.YtjiojpoiocdnmaaGreat
open Go.RowKit
theorem stnE_iff {n : Int} {x : Stn} : stnE n x = 0 ↔ stnB n x = true := by
 unfold stnE
 cases stnB n x <;> simp
theorem repE_iff {n : Int} {x : Rep} : repE n x = 0 ↔ repB n x = true := by
 unfold repE
 cases repB n x <;> simp
set_option maxRecDepth 100000 in
set_option maxHeartbeats 8000000 in
theorem rask_at {t : Tab} {SA RA LA : Option Addr} {sn sc rn rc ln lc : Nat} {s : List Stn} {R : List Rep} {l : List Trk} {w : World} (Q : Int) (hQ : askE t s R l = Q) (hsn : sn = s.length) (hrn : rn = R.length) (hln : ln = l.length) (ht : Tab.ok w t) (hs : StnS w SA sc s) (hR : Slc w Rep.cells 6 RA R) (hrm : rn ≤ maxLen) (hl : TrkS w LA lc l) :
  Calls Tryz.prog 35 #[t.v, .slice SA sn sc, .slice RA rn rc, .slice LA ln lc] w (RetE w Q) := by
 have HQ := Lib.hid hQ
 have HSN := Lib.hid hsn
 have HRN := Lib.hid hrn
 have HLN := Lib.hid hln
 have HT := Lib.hid ht
 have HS := Lib.hid hs
 have HR := Lib.hid hR
 have HL := Lib.hid hl
 have hsm : sn ≤ 2 ^ 63 - 1 := by rw [hsn]; exact hs.len
 unfold maxLen at hrm
 clear hQ hsn hrn hln ht hs hR hl
 have HE : Hid (Below w.heap.size w (w.alloc (.cells #[.int .i64 t.n, .slice t.ss.A t.ss.l.length t.ss.c, .slice t.cs.A t.cs.l.length t.cs.c, .slice t.ws.A t.ws.l.length t.ws.c, .slice t.ms.A t.ms.l.length t.ms.c, .slice t.ks.A t.ks.l.length t.ks.c] 28))) := ext_alloc (ext_refl w) _
 have BT : Hid (Blk (w.alloc (.cells #[.int .i64 t.n, .slice t.ss.A t.ss.l.length t.ss.c, .slice t.cs.A t.cs.l.length t.cs.c, .slice t.ws.A t.ws.l.length t.ws.c, .slice t.ms.A t.ms.l.length t.ms.c, .slice t.ks.A t.ks.l.length t.ks.c] 28)) w.heap.size t.cells) := Blk.newH w t.cells 28 w.heap.size rfl
 obtain ⟨E0, hE0⟩ : ∃ E, wchkE t l = E := ⟨_, rfl⟩
 have HC0 := Lib.hid hE0
 clear hE0
 go_enter Tryz.func35, Tryz.ntmps35
 go_wp2_with fail
 refine (rwchk_at E0 HC0.out HLN.out (HT.out.ext HE.out) (HL.out.ext HE.out)).mono ?_
 rintro e w1 ⟨rfl, B⟩
 replace HE := Lib.hid (ext_trans HE.out B)
 replace BT := Lib.hid (BT.out.ext B)
 clear B
 by_cases hc : E0 = 0
 rotate_left
 ·obtain rfl : Q = E0 := by rw [← HQ.out]; exact askE_w HC0.out hc
  have hcf : ((Q : Int) == 0) = false := by rw [beq_eq_false_iff_ne]; exact hc
  have hcf2 : (Q != 0) = true := by rw [bne, hcf]; rfl
  clear HC0 HQ
  go_wp2_with fail
  go_ret
  exact ⟨rfl, HE.out⟩
 subst hc
 have HC : Hid (wchkE t l = 0) := HC0.out
 have HNO : Hid (askB t s R = false → Q = 240) := fun h => by rw [← HQ.out, askE_b HC.out h]; rfl
 have HYES : Hid (askB t s R = true → Q = 0) := fun h => by rw [← HQ.out, askE_b HC.out h]; rfl
 clear HC0 HQ
 by_cases h4 : 4 < sn
 ·have HQ : Hid (Q = 240) := HNO.out (by
   cases h : askB t s R with
   | false => rfl
   | true => have := (askB_iff.1 h).1; rw [← HSN.out] at this; omega)
  have h4' : (4 : Int) < (sn : Int) := by omega
  clear HNO HYES
  go_wp2_with fail
  go_ret
  rw [HQ.out]
  exact ⟨rfl, HE.out⟩
 have h4' : ¬ (4 : Int) < (sn : Int) := by omega
 by_cases h10 : 1024 < rn
 ·have HQ : Hid (Q = 240) := HNO.out (by
   cases h : askB t s R with
   | false => rfl
   | true => have := (askB_iff.1 h).2.1; rw [← HRN.out] at this; omega)
  have h10' : (1024 : Int) < (rn : Int) := by omega
  clear HNO HYES
  go_wp2_with fail
  go_ret
  rw [HQ.out]
  exact ⟨rfl, HE.out⟩
 have h10' : ¬ (1024 : Int) < (rn : Int) := by omega
 go_wp2_with fail
 go_loopw [10] (fun i wr => ∃ k : Nat, k ≤ sn ∧ i = .int .i64 k ∧ Hid (∀ y ∈ s.take k, stnB t.n y = true) ∧ Hid (Below w1.heap.size w1 wr)) (fun i _ => sn - (intOf i).toNat)
 case atStart => exact ⟨0, by omega, rfl, by simp [Hid], ext_refl _⟩
 case round =>
  obtain ⟨k, hk, rfl, HY, EW⟩ := hrel
  obtain ⟨wo, rfl⟩ : ∃ wo, wo = wr := ⟨_, rfl⟩
  have EO := Lib.hid (ext_trans HE.out EW.out)
  by_cases hlt : k < sn
  rotate_left
  ·obtain rfl : k = sn := by omega
   have hkn : ¬ (k : Int) < (k : Int) := by omega
   have HSA : Hid (∀ y ∈ s, stnB t.n y = true) := fun y hy => HY.out y (by rw [List.take_of_length_le (by rw [HSN.out]; exact Nat.le_refl _)]; exact hy)
   clear HY
   go_wp2_with fail
   go_loopw [11] (fun i wr => ∃ j : Nat, j ≤ rn ∧ i = .int .i64 j ∧ Hid (∀ y ∈ R.take j, repB s.length y = true) ∧ Hid (Below wo.heap.size wo wr)) (fun i _ => rn - (intOf i).toNat)
   case atStart => exact ⟨0, by omega, rfl, by simp [Hid], ext_refl _⟩
   case round =>
    obtain ⟨j, hj, rfl, HZ, EV⟩ := hrel
    obtain ⟨wi, rfl⟩ : ∃ wi, wi = wr := ⟨_, rfl⟩
    have EI := Lib.hid (ext_trans EO.out EV.out)
    by_cases hjt : j < rn
    rotate_left
    ·obtain rfl : j = rn := by omega
     have hjn : ¬ (j : Int) < (j : Int) := by omega
     obtain rfl : Q = 0 := HYES.out (askB_iff.2 ⟨by rw [← HSN.out]; omega, by rw [← HRN.out]; omega, HSA.out, fun y hy => HZ.out y (by rw [List.take_of_length_le (by rw [HRN.out]; exact Nat.le_refl _)]; exact hy)⟩)
     clear HNO HYES
     go_wp2_with fail
     go_ret
     exact ⟨rfl, EI.out⟩
    ·have hji : (j : Int) < (rn : Int) := by omega
     obtain ⟨y, yb, yo, hy, hA, hyb, hyc⟩ := (HR.out.below (Nat.le_refl _) EI.out).at_ (k := j) (by rw [← HRN.out]; exact hjt)
     have d0 := hyc 0 _ rfl
     have d1 := hyc 1 _ rfl
     have d2 := hyc 2 _ rfl
     have d3 := hyc 3 _ rfl
     have d4 := hyc 4 _ rfl
     have d5 := hyc 5 _ rfl
     simp only [Nat.add_zero] at d0
     have HY := Lib.hid hy
     subst hA
     obtain ⟨E, hE⟩ : ∃ E : Int, repE (k : Int) y = E := ⟨_, rfl⟩
     have HE1 := Lib.hid hE
     clear hy hyc hE
     go_wp2_with fail
     refine (rrep_at E HE1.out (by omega) (by omega)).mono ?_
     rintro e w3 ⟨rfl, B⟩
     have E9 := Lib.hid (ext_trans EI.out B)
     have E8 := Lib.hid (ext_trans EV.out B)
     clear B
     clear d0 d1 d2 d3 d4 d5
     by_cases hE0 : E = 0
     rotate_left
     ·have HQ : Hid (Q = 240) := HNO.out (by
       cases h : askB t s R with
       | false => rfl
       | true =>
        have := (askB_iff.1 h).2.2.2 y (List.mem_of_getElem? HY.out)
        rw [← HSN.out] at this
        exact absurd (HE1.out.symm.trans (repE_iff.2 this)) hE0)
      have hcf : ((E : Int) == 0) = false := by rw [beq_eq_false_iff_ne]; exact hE0
      have hcf2 : (E != 0) = true := by rw [bne, hcf]; rfl
      clear HNO HYES
      go_wp2_with fail
      go_ret
      rw [HQ.out]
      exact ⟨rfl, E9.out⟩
     subst hE0
     have HZ2 : Hid (∀ z ∈ R.take (j + 1), repB s.length z = true) := fun z hz => by
      rw [take_snoc2 HY.out] at hz
      rcases List.mem_append.1 hz with h1 | h1
      ·exact HZ.out z h1
      ·rw [List.mem_singleton] at h1
       subst h1
       rw [← HSN.out]
       exact repE_iff.1 HE1.out
     clear HNO HYES
     go_wp2_with fail
     go_roundw
     case rel => exact ⟨j + 1, hjt, by go_num, HZ2, E8⟩
     case measure => simp [intOf]; (try omega)
  ·have hki : (k : Int) < (sn : Int) := by omega
   obtain ⟨x, xb, xo, hx, hA, hxb, hxc⟩ := (HS.out.slc.below (Nat.le_refl _) EO.out).at_ (k := k) (by rw [← HSN.out]; exact hlt)
   have HXK : Hid (Stn.ok wo x) := (HS.out.all (List.mem_of_getElem? hx)).ext EO.out
   have d0 := hxc 0 _ rfl
   have d1 := hxc 1 _ rfl
   have d2 := hxc 2 _ rfl
   simp only [Nat.add_zero] at d0
   have HX := Lib.hid hx
   subst hA
   have xl := hxb
   obtain ⟨E, hE⟩ : ∃ E : Int, stnE t.n x = E := ⟨_, rfl⟩
   have HE1 := Lib.hid hE
   clear hx hxc hxb hE
   go_wp2_with fail
   have SS := Lib.hid (show ∀ w', Below wo.heap.size wo w' → (fun w' => Below wo.heap.size wo w' ∧ w'.cell? ⟨w.heap.size, 0, none⟩ = some (.int .i64 t.n) ∧ w'.cell? ⟨xb, xo + k * 3, none⟩ = some (.slice x.vs.A x.vs.l.length x.vs.c) ∧ w'.cell? ⟨xb, xo + k * 3 + 1, none⟩ = some (.int .i64 x.sh) ∧ w'.cell? ⟨xb, xo + k * 3 + 2, none⟩ = some (.int .i64 x.fa)) w' from fun w' h => ⟨h, ((BT.out.ext EW.out).ext h).c 0 _ rfl, (h.cell (p := ⟨xb, xo + k * 3, none⟩) xl).trans d0, (h.cell (p := ⟨xb, xo + k * 3 + 1, none⟩) xl).trans d1, (h.cell (p := ⟨xb, xo + k * 3 + 2, none⟩) xl).trans d2⟩)
   refine rgB 8 SS (ext_drew (ext_refl _)) (fun Q7 hQ7 hN7 hHeld => ?_)
   refine rgT 0 (some 32) hQ7 hHeld ?_; refine rgT 1 (some 33) hQ7 hHeld ?_; refine rgT 2 (some 34) hQ7 hHeld ?_; refine rgT 3 (some 35) hQ7 hHeld ?_; refine rgT 4 (some 36) hQ7 hHeld ?_; refine rgT 5 (some 37) hQ7 hHeld ?_
   refine rg_one (i := 6) (by kernel_rfl) (rg_step rfl (by rfl) (fun K hK => ?_))
   go_simp
   refine (rstn_at E HE1.out (HXK.out.ext hHeld.1)).mono ?_
   rintro e u1 ⟨rfl, B1⟩
   go_wp2_with fail
   refine hK.out _ _ ?_ (fun hHeld2 => ?_)
   ·exact SS.out _ (ext_trans hHeld.1 B1)
   clear hHeld
   have hHeld := hHeld2
   clear hHeld2
   clear hK K
   try simp only [Act.put, List.setIfInBounds_toArray, List.set_cons_zero, List.set_cons_succ]
   refine rgT 7 (some 39) hQ7 hHeld ?_
   refine rg_end (by kernel_rfl) (hN7 _ _ ?_) _
   clear hQ7 hN7 Q7
   have BX := hHeld.1
   clear SS
   clear xl d0 d1 d2
   have E9 := Lib.hid (ext_trans EO.out BX)
   have E8 := Lib.hid (ext_trans EW.out BX)
   clear BX
   by_cases hE0 : E = 0
   rotate_left
   ·have HQ : Hid (Q = 240) := HNO.out (by
     cases h : askB t s R with
     | false => rfl
     | true => exact absurd (HE1.out.symm.trans (stnE_iff.2 ((askB_iff.1 h).2.2.1 x (List.mem_of_getElem? HX.out)))) hE0)
    have hcf : ((E : Int) == 0) = false := by rw [beq_eq_false_iff_ne]; exact hE0
    have hcf2 : (E != 0) = true := by rw [bne, hcf]; rfl
    clear HNO HYES
    go_wp2_with fail
    go_ret
    rw [HQ.out]
    exact ⟨rfl, E9.out⟩
   subst hE0
   have HY2 : Hid (∀ z ∈ s.take (k + 1), stnB t.n z = true) := fun z hz => by
    rw [take_snoc2 HX.out] at hz
    rcases List.mem_append.1 hz with h1 | h1
    ·exact HY.out z h1
    ·rw [List.mem_singleton] at h1
     subst h1
     exact stnE_iff.1 HE1.out
   clear HNO HYES
   go_wp2_with fail
   go_roundw
   case rel => exact ⟨k + 1, hlt, by go_num, HY2, E8⟩
   case measure => simp [intOf]; (try omega)
end Go.Proofs.YtjiojpoiocdnmaaGreat
/- The stays of all paths of all tracks: the reference's 'stays'. -/
set_option linter.unusedSimpArgs false
set_option linter.unusedVariables false
namespace Go.Proofs.YtjiojpoiocdnmaaGreat
open Go.RowKit
/-- Rows of rows of stays, in memory. -/
structure STR (W : World) (base : Nat) (v : Value) (st : List (SliceOf (SliceOf Sty))) : Prop where
 o : Own W base 135 SliceOf.enc 1 v st
 r : ∀ x ∈ st, Own W base 95 SliceOf.enc 1 x.v x.l
 q : ∀ x ∈ st, ∀ y ∈ x.l, Own W base 113 Sty.cells 4 y.v y.l
theorem STR.ext {W W' : World} {base : Nat} {v : Value} {st : List (SliceOf (SliceOf Sty))} (h : STR W base v st) (hb : Below W.heap.size W W') : STR W' base v st :=
 ⟨h.o.ext hb, fun x hx => (h.r x hx).ext hb, fun x hx y hy => (h.q x hx y hy).ext hb⟩
theorem STR.low {W : World} {base b2 : Nat} {v : Value} {st : List (SliceOf (SliceOf Sty))} (h : STR W base v st) (hb : b2 ≤ base) : STR W b2 v st :=
 ⟨h.o.low hb, fun x hx => (h.r x hx).low hb, fun x hx y hy => (h.q x hx y hy).low hb⟩
theorem STR.add {W W' : World} {base : Nat} {v v' : Value} {st : List (SliceOf (SliceOf Sty))} {x : SliceOf (SliceOf Sty)} (h : STR W base v st) (hx : Own W base 95 SliceOf.enc 1 x.v x.l) (hq : ∀ y ∈ x.l, Own W base 113 Sty.cells 4 y.v y.l)
  (ho : Own W' base 135 SliceOf.enc 1 v' (st ++ [x])) (hg : W.grownBy W' v.ownBlock) : STR W' base v' (st ++ [x]) := by
 refine ⟨ho, fun y hy => ?_, fun y hy z hz => ?_⟩
 ·have h1 : Own W base 95 SliceOf.enc 1 y.v y.l := by
   rcases List.mem_append.1 hy with hy | hy
   ·exact h.r y hy
   ·obtain rfl := List.mem_singleton.1 hy; exact hx
  exact Own.far h1 hg (fun k e e' => h.o.ne h1 (by decide) k e' e)
 ·have h1 : Own W base 113 Sty.cells 4 z.v z.l := by
   rcases List.mem_append.1 hy with hy | hy
   ·exact h.q y hy z hz
   ·obtain rfl := List.mem_singleton.1 hy; exact hq z hz
  exact Own.far h1 hg (fun k e e' => h.o.ne h1 (by decide) k e' e)
def RSts (w : World) (t : Tab) (l : List Trk) (e : Ending) (w' : World) : Prop := ∃ A n c st, e = .returned (.slice A n c) ∧ n = st.length ∧ STR w' w.heap.size (.slice A n c) st ∧ st.map (fun r => r.l.map (·.l)) = stT t l ∧ Below w.heap.size w w'
theorem rstays_n (t : Tab) (p : Pth) (w : World) (L : List Sty) (n : Nat) (hL : staysL t p = L) (hn : L.length = n) (ht : Tab.ok w t) (hp : Pth.ok w p) (hc : chkT t = 0) (hb : pathB t p = true) : Calls Tryz.prog 40 #[t.v, p.v] w fun e w' => ∃ A c, e = .returned (.tuple #[.slice A n c, .int .i64 0]) ∧ Own w' w.heap.size 113 Sty.cells 4 (.slice A n c) L ∧ Below w.heap.size w w' := by
 subst hL hn
 exact rstays_t t p w ht hp hc hb
set_option maxRecDepth 100000 in
set_option maxHeartbeats 16000000 in
theorem rsts_at {t : Tab} {LA : Option Addr} {ln lc : Nat} {l : List Trk} {w : World} (hln : ln = l.length) (hc : wchkE t l = 0) (ht : Tab.ok w t) (hl : TrkS w LA lc l) : Calls Tryz.prog 37 #[t.v, .slice LA ln lc] w (RSts w t l) := by
 have HC := Lib.hid (wchk_ok hc)
 have HLN := Lib.hid hln
 have HT := Lib.hid ht
 have HL := Lib.hid hl
 have hlm : ln ≤ 12 := by rw [hln]; exact HC.out.2.1
 clear hc hln ht hl
 obtain ⟨w1, hw1⟩ : ∃ w1, w.alloc (.cells #[.int .i64 t.n, .slice t.ss.A t.ss.l.length t.ss.c, .slice t.cs.A t.cs.l.length t.cs.c, .slice t.ws.A t.ws.l.length t.ws.c, .slice t.ms.A t.ms.l.length t.ms.c, .slice t.ks.A t.ks.l.length t.ks.c] 28) = w1 := ⟨_, rfl⟩
 have HE : Hid (Below w.heap.size w w1) := by rw [← hw1]; exact ext_alloc (ext_refl w) _
 have BT : Hid (Blk w1 w.heap.size t.cells) := by rw [← hw1]; exact Blk.newH w t.cells 28 w.heap.size rfl
 go_enter Tryz.func37, Tryz.ntmps37
 go_wp2_with fail
 clear hw1
 go_loopw [5, 6] (fun a i wr => ∃ (k : Nat) (A : Option Addr) (n c : Nat) (st : List (SliceOf (SliceOf Sty))), k ≤ ln ∧ i = .int .i64 k ∧ a = .slice A n c ∧ Hid (n = st.length) ∧ Hid (STR wr w1.heap.size (.slice A n c) st) ∧ Hid (st.map (fun r => r.l.map (·.l)) = (l.take k).map (fun y => y.ps.l.map (staysL t))) ∧ Hid (Below w1.heap.size w1 wr)) (fun _ i _ => ln - (intOf i).toNat)
 case atStart => exact ⟨0, none, 0, 0, [], by omega, rfl, rfl, rfl, ⟨Own.nil _ _ _ _ _, by simp, by simp⟩, by simp [Hid], ext_refl _⟩
 case round =>
  obtain ⟨k, A1, n1, c1, st, hk, rfl, rfl, HN1, HS1, HST, EW⟩ := hrel
  obtain ⟨wo, rfl⟩ : ∃ wo, wo = wr := ⟨_, rfl⟩
  have EO := Lib.hid (ext_trans HE.out EW.out)
  by_cases hlt : k < ln
  rotate_left
  ·obtain rfl : k = ln := by omega
   have hkn : ¬ (k : Int) < (k : Int) := by omega
   have HF : Hid (st.map (fun r => r.l.map (·.l)) = stT t l) := by
    unfold Hid stT
    rw [HST.out, List.take_of_length_le (by rw [HLN.out]; exact Nat.le_refl _)]
   go_wp2_with fail
   go_ret
   exact ⟨A1, n1, c1, st, rfl, HN1.out, HS1.out.low HE.out.size, HF.out, EO.out⟩
  ·have hki : (k : Int) < (ln : Int) := by omega
   obtain ⟨x, xb, xo, hx, hA, hxb, hxc⟩ := (HL.out.slc.below (Nat.le_refl _) EO.out).at_ (k := k) (by rw [← HLN.out]; exact hlt)
   have HXK : Hid (SliceOf.ok Pth.cells 2 Pth.ok wo x.ps) := (Trk.ok.ext (HL.out.all (List.mem_of_getElem? hx)) EO.out).2.2.1
   have d12 := hxc 12 _ rfl
   have HX := Lib.hid hx
   have HTB := Lib.hid (HC.out.2.2 x (List.mem_of_getElem? hx))
   subst hA
   obtain ⟨m, hm⟩ : ∃ m, x.ps.l.length = m := ⟨_, rfl⟩
   have HM := Lib.hid hm
   have hmx : m ≤ 4096 := by
    have h := HTB.out
    simp only [trkB, Bool.and_eq_true, decide_eq_true_eq] at h
    rw [← hm]; exact h.1.2
   have HPA : Hid (∀ p ∈ x.ps.l, pathB t p = true) := by
    have h := HTB.out
    simp only [trkB, Bool.and_eq_true, List.all_eq_true] at h
    exact h.2
   rw [hm] at d12
   have D12 := Lib.hid d12
   have XL := Lib.hid hxb
   clear hx hxc hxb hm d12
   go_wp2_with fail
   go_loopw [7, 8] (fun a i wr => ∃ (j : Nat) (A4 : Option Addr) (n4 c4 : Nat) (rows : List (SliceOf Sty)), j ≤ m ∧ i = .int .i64 j ∧ a = .slice A4 n4 c4 ∧ Hid (n4 = rows.length) ∧ Hid (Below wo.heap.size wo wr) ∧ Hid (Own wr wo.heap.size 95 SliceOf.enc 1 (.slice A4 n4 c4) rows) ∧ Hid (∀ q ∈ rows, Own wr wo.heap.size 113 Sty.cells 4 q.v q.l) ∧ Hid (rows.map (·.l) = (x.ps.l.take j).map (staysL t))) (fun _ i _ => m - (intOf i).toNat)
   case atStart => exact ⟨0, none, 0, 0, [], by omega, rfl, rfl, rfl, ext_refl wo, Own.nil _ _ _ _ _, by simp [Hid], rfl⟩
   case round =>
    obtain ⟨j, A5, n5, c5, rows, hj, rfl, rfl, HN5, HB9, HO9, HQ9, HRL⟩ := hrel
    obtain ⟨wi, rfl⟩ : ∃ wi, wi = wr := ⟨_, rfl⟩
    have e12 := (HB9.out.cell (p := ⟨xb, xo + k * 14 + 12, none⟩) XL.out).trans D12.out
    have xl : xb < wi.heap.size := Nat.lt_of_lt_of_le XL.out HB9.out.size
    have EB : Hid (Below w1.heap.size w1 wi) := ext_trans EW.out HB9.out
    by_cases hjl : j < m
    rotate_left
    ·obtain rfl : j = m := by omega
     have hjn : ¬ (j : Int) < (j : Int) := by omega
     have hsl9 : st.length ≤ 100 := by
      have := congrArg List.length HST.out
      rw [List.length_map, List.length_map, List.length_take] at this; omega
     have hu := ext_alloc (ext_refl wi) (.cells #[.slice A5 n5 c5] 135)
     have hS9 := (HS1.out.ext HB9.out).ext hu
     have hB5 := ext_trans EB.out hu
     obtain ⟨v', W9, hrun, A6, c6, rfl, hO12, hB12, hg12, _, _⟩ := Own.append_to (w0 := w1) rowsI 73 hS9.o hB5 (ys := [(⟨A5, c5, rows⟩ : SliceOf (SliceOf Sty))]) (m := 1) rfl 1 (slc_litH wi [(⟨A5, c5, rows⟩ : SliceOf (SliceOf Sty))] #[.slice A5 n5 c5] 135 (enc := SliceOf.enc) (sz := 1) (fun _ => rfl) (by simp [SliceOf.enc, HN5.out]) wi.heap.size rfl) (by simp; omega) (by unfold maxLen; simp; omega)
     have hx5 : Own (wi.alloc (.cells #[.slice A5 n5 c5] 135)) w1.heap.size 95 SliceOf.enc 1 (⟨A5, c5, rows⟩ : SliceOf (SliceOf Sty)).v rows := by
      show Own _ _ 95 SliceOf.enc 1 (.slice A5 rows.length c5) rows
      rw [← HN5.out]; exact (HO9.out.low EW.out.size).ext hu
     have hS12 := hS9.add (x := ⟨A5, c5, rows⟩) hx5 (fun q hq => ((HQ9.out q hq).low EW.out.size).ext hu) hO12 hg12
     obtain ⟨n8, hn8⟩ : ∃ n8, (st ++ [(⟨A5, c5, rows⟩ : SliceOf (SliceOf Sty))]).length = n8 := ⟨_, rfl⟩
     rw [hn8] at hrun hS12
     have HN8 := Lib.hid hn8.symm
     have HS12 := Lib.hid hS12
     have HB12 := Lib.hid hB12
     have HST2 : Hid ((st ++ [(⟨A5, c5, rows⟩ : SliceOf (SliceOf Sty))]).map (fun r => r.l.map (·.l)) = (l.take (k + 1)).map (fun y => y.ps.l.map (staysL t))) := by
      unfold Hid
      rw [take_snoc2 HX.out, List.map_append, List.map_append, HST.out]
      have := HRL.out
      rw [List.take_of_length_le (by rw [HM.out]; exact Nat.le_refl _)] at this
      simp [this]
     have HRUN := Lib.hid hrun
     have HN1' := HN1.out
     rw [← HN1'] at hsl9
     clear hrun hO12 hB12 hg12 hS12 hn8 hx5 hu hS9 hB5 HB9 HO9 HQ9 HRL HN5 HN1'
     go_wp2_with (at_builtin; refine wpList_append_run rfl (.tmp 44) (.tmp 46) 73 rfl (.slice A1 n1 c1) (.slice (some ⟨wi.heap.size, 0, none⟩) 1 1) rfl rfl HRUN.out ?_)
     go_roundw
     case rel => exact ⟨k + 1, A6, n8, c6, _, hlt, by go_num, rfl, HN8, HS12, HST2, HB12⟩
     case measure => simp [intOf]; (try omega)
    ·have hji : (j : Int) < (m : Int) := by omega
     obtain ⟨q, qb, qo, hq, hqA, hqb, hqc⟩ := (HXK.out.slc.below (Nat.le_refl _) HB9.out).at_ (k := j) (by rw [HM.out]; exact hjl)
     have q0 := hqc 0 _ rfl
     have q1 := hqc 1 _ rfl
     simp only [Nat.add_zero] at q0
     have HQO : Hid (∀ u, Below wi.heap.size wi u → Pth.ok u q) := fun u hu => ((HXK.out.all (List.mem_of_getElem? hq)).ext HB9.out).ext hu
     have HQQ := Lib.hid hq
     have HPB := Lib.hid (HPA.out q (List.mem_of_getElem? hq))
     rw [hqA] at e12
     obtain ⟨L7, hL7⟩ : ∃ L7, staysL t q = L7 := ⟨_, rfl⟩
     obtain ⟨n7, hn7⟩ : ∃ n7, L7.length = n7 := ⟨_, rfl⟩
     have HL7 := Lib.hid hL7
     have HN7 := Lib.hid hn7
     have ql := hqb
     clear hq hqc hqb hqA hL7 hn7
     go_wp2_with fail
     have SS := Lib.hid (show ∀ w', Below wi.heap.size wi w' → (fun w' => Below wi.heap.size wi w' ∧ w'.cell? ⟨w.heap.size, 0, none⟩ = some (.int .i64 t.n) ∧ w'.cell? ⟨w.heap.size, 1, none⟩ = some (.slice t.ss.A t.ss.l.length t.ss.c) ∧ w'.cell? ⟨w.heap.size, 2, none⟩ = some (.slice t.cs.A t.cs.l.length t.cs.c) ∧ w'.cell? ⟨w.heap.size, 3, none⟩ = some (.slice t.ws.A t.ws.l.length t.ws.c) ∧ w'.cell? ⟨w.heap.size, 4, none⟩ = some (.slice t.ms.A t.ms.l.length t.ms.c) ∧ w'.cell? ⟨w.heap.size, 5, none⟩ = some (.slice t.ks.A t.ks.l.length t.ks.c) ∧ w'.cell? ⟨xb, xo + k * 14 + 12, none⟩ = some (.slice (some ⟨qb, qo, none⟩) m x.ps.c) ∧ w'.cell? ⟨qb, qo + j * 2, none⟩ = some (.int .i64 q.way) ∧ w'.cell? ⟨qb, qo + j * 2 + 1, none⟩ = some (.slice q.ts.A q.ts.l.length q.ts.c)) w' from fun w' h => ⟨h, ((BT.out.ext EB.out).ext h).c 0 _ rfl, ((BT.out.ext EB.out).ext h).c 1 _ rfl, ((BT.out.ext EB.out).ext h).c 2 _ rfl, ((BT.out.ext EB.out).ext h).c 3 _ rfl, ((BT.out.ext EB.out).ext h).c 4 _ rfl, ((BT.out.ext EB.out).ext h).c 5 _ rfl, (h.cell (p := ⟨xb, xo + k * 14 + 12, none⟩) xl).trans e12, (h.cell (p := ⟨qb, qo + j * 2, none⟩) ql).trans q0, (h.cell (p := ⟨qb, qo + j * 2 + 1, none⟩) ql).trans q1⟩)
     refine rgB 15 SS (ext_drew (ext_refl _)) (fun Q7 hQ7 hN7 hHeld => ?_)
     refine rgT 0 (some 28) hQ7 hHeld ?_; refine rgT 1 (some 29) hQ7 hHeld ?_; refine rgT 2 (some 30) hQ7 hHeld ?_; refine rgT 3 (some 31) hQ7 hHeld ?_; refine rgT 4 (some 32) hQ7 hHeld ?_; refine rgT 5 (some 33) hQ7 hHeld ?_; refine rgT 6 (some 34) hQ7 hHeld ?_; refine rgT 7 (some 35) hQ7 hHeld ?_; refine rgT 8 (some 36) hQ7 hHeld ?_
     refine rg_one (i := 9) (by kernel_rfl) (rg_step rfl (by rfl) (fun K hK => ?_))
     go_simp
     refine (rstays_n t q _ L7 n7 HL7.out HN7.out (HT.out.ext (ext_trans (ext_trans HE.out EB.out) hHeld.1)) (HQO.out _ hHeld.1) HC.out.1 HPB.out).mono ?_
     rintro e u1 ⟨A7, c7, rfl, hO7, B7⟩
     go_wp2_with fail
     refine hK.out _ _ ?_ (fun hHeld2 => ?_)
     ·exact SS.out _ (ext_trans hHeld.1 B7)
     clear hHeld
     have hHeld := hHeld2
     clear hHeld2
     clear hK K
     try simp only [Act.put, List.setIfInBounds_toArray, List.set_cons_zero, List.set_cons_succ]
     refine rgT 10 (some 27) hQ7 hHeld ?_; refine rgT 11 (some 38) hQ7 hHeld ?_; refine rgT 12 (some 39) hQ7 hHeld ?_; refine rgT 13 (some 9) hQ7 hHeld ?_; refine rgT 14 (some 10) hQ7 hHeld ?_
     refine rg_end (by kernel_rfl) (hN7 _ _ ?_) _
     clear hQ7 hN7 Q7
     have BX := hHeld.1
     clear SS
     clear xl ql e12 q0 q1
     have hb11 : Below u1.heap.size u1 (u1.alloc (.cells #[.slice A7 n7 c7] 95)) := ext_alloc (ext_refl u1) _
     have hB10 := ext_trans HB9.out BX
     have HB11 := Lib.hid (ext_trans hB10 hb11)
     have HO11 := (HO9.out.ext BX).ext hb11
     have HQ11 : ∀ q ∈ rows, Own (u1.alloc (.cells #[.slice A7 n7 c7] 95)) wo.heap.size 113 Sty.cells 4 q.v q.l := fun q hq => ((HQ9.out q hq).ext BX).ext hb11
     have hO8 := (hO7.ext hb11).low (show wo.heap.size ≤ wi.drew.heap.size from HB9.out.size)
     have hrl : rows.length ≤ 4096 := by
      have := congrArg List.length HRL.out
      rw [List.length_map, List.length_map, List.length_take] at this; omega
     obtain ⟨v', W10, hrun, A8, c8, rfl, hO12, hB12, hg12, _, _⟩ := Own.append_to (w0 := wo) rowyI 135 HO11 HB11.out (ys := [(⟨A7, c7, L7⟩ : SliceOf Sty)]) (m := 1) rfl 1 (slc_litH u1 [(⟨A7, c7, L7⟩ : SliceOf Sty)] #[.slice A7 n7 c7] 95 (enc := SliceOf.enc) (sz := 1) (fun _ => rfl) (by simp [SliceOf.enc, HN7.out]) u1.heap.size rfl) (by simp; omega) (by unfold maxLen; simp; omega)
     obtain ⟨n8, hn8⟩ : ∃ n8, (rows ++ [(⟨A7, c7, L7⟩ : SliceOf Sty)]).length = n8 := ⟨_, rfl⟩
     rw [hn8] at hrun hO12
     have HN8 := Lib.hid hn8.symm
     have HO12 := Lib.hid hO12
     have HB12 := Lib.hid hB12
     have HQ12 : Hid (∀ q ∈ rows ++ [(⟨A7, c7, L7⟩ : SliceOf Sty)], Own W10 wo.heap.size 113 Sty.cells 4 q.v q.l) := by
      intro q hq
      have h1 : Own (u1.alloc (.cells #[.slice A7 n7 c7] 95)) wo.heap.size 113 Sty.cells 4 q.v q.l := by
       rcases List.mem_append.1 hq with hq | hq
       ·exact HQ11 q hq
       ·obtain rfl := List.mem_singleton.1 hq
        show Own _ _ _ _ _ (.slice A7 L7.length c7) L7
        rw [HN7.out]; exact hO8
      exact Own.far h1 hg12 (fun kk e e' => HO11.ne h1 (by decide) kk e' e)
     have HRL2 : Hid ((rows ++ [(⟨A7, c7, L7⟩ : SliceOf Sty)]).map (·.l) = (x.ps.l.take (j + 1)).map (staysL t)) := by
      unfold Hid
      rw [take_snoc2 HQQ.out, List.map_append, List.map_append, HRL.out]
      simp [HL7.out]
     have HRUN := Lib.hid hrun
     clear hrun hO12 hB12 hg12 hO8 HQ11 HO11 hb11 hO7 hn8 hB10 HB9 HO9 HQ9 HRL hrl BX HB11
     go_wp2_with (at_builtin; refine wpList_append_run rfl (.tmp 40) (.tmp 42) 135 rfl (.slice A5 n5 c5) (.slice (some ⟨u1.heap.size, 0, none⟩) 1 1) rfl rfl HRUN.out ?_)
     go_roundw
     case rel => exact ⟨j + 1, A8, n8, c8, _, hjl, by go_num, rfl, HN8, HB12, HO12, HQ12, HRL2⟩
     case measure => simp [intOf]; (try omega)
end Go.Proofs.YtjiojpoiocdnmaaGreat
/- Is a flight in a volume at a minute: the reference's 'in'. -/
set_option linter.unusedSimpArgs false
set_option linter.unusedVariables false
namespace Go.Proofs.YtjiojpoiocdnmaaGreat
open Go.RowKit
set_option maxRecDepth 100000 in
set_option maxHeartbeats 4000000 in
theorem rin_at {A : Option Addr} {n c : Nat} {l : List Sty} {vol mi : Int} {w : World} (r : Bool) (hr : fliesB l vol mi = r) (hn' : n = l.length) (ha : Slc w Sty.cells 4 A l) (hn : l.length ≤ maxLen) : Calls Tryz.prog 107 #[.slice A n c, .int .i64 vol, .int .i64 mi] w (RetB w r) := by
 have HR := Lib.hid hr
 have HN := Lib.hid hn'
 have HA := Lib.hid ha
 have hnm : n ≤ 2 ^ 63 - 1 := by rw [hn']; exact hn
 clear hr hn' ha hn
 go_enter Tryz.func107, Tryz.ntmps107
 go_wp2_with fail
 go_loopw [7] (fun i wr => ∃ k : Nat, k ≤ n ∧ i = .int .i64 k ∧ Hid (∀ x ∈ l.take k, inV x vol mi = false) ∧ Hid (Below w.heap.size w wr)) (fun i _ => n - (intOf i).toNat)
 case atStart => exact ⟨0, by omega, rfl, by simp [Hid], ext_refl _⟩
 case round =>
  obtain ⟨k, hk, rfl, HN2, HE⟩ := hrel
  obtain ⟨wo, rfl⟩ : ∃ wo, wo = wr := ⟨_, rfl⟩
  by_cases hlt : k < n
  rotate_left
  ·obtain rfl : k = n := by omega
   have hkn : ¬ (k : Int) < (k : Int) := by omega
   obtain rfl : r = false := by
    rw [← HR.out]
    unfold fliesB
    rw [List.any_eq_false]
    intro x hx
    rw [HN2.out x (by rw [List.take_of_length_le (by rw [HN.out]; exact Nat.le_refl _)]; exact hx)]
    simp
   go_wp2_with fail
   go_ret
   exact ⟨rfl, HE.out⟩
  ·have hki : (k : Int) < (n : Int) := by omega
   obtain ⟨x, xb, xo, hx, hA, hxb, hxc⟩ := (HA.out.below (Nat.le_refl _) HE.out).at_ (k := k) (by rw [← HN.out]; exact hlt)
   have d0 := hxc 0 _ rfl
   have d1 := hxc 1 _ rfl
   have d2 := hxc 2 _ rfl
   have d3 := hxc 3 _ rfl
   simp only [Nat.add_zero] at d0
   have HX := Lib.hid hx
   subst hA
   have HNO := Lib.hid (show inV x vol mi = false → ∀ y ∈ l.take (k + 1), inV y vol mi = false from fun h y hy => by
    rw [take_snoc2 hx] at hy
    rcases List.mem_append.1 hy with h1 | h1
    ·exact HN2.out y h1
    ·rw [List.mem_singleton] at h1; rw [h1]; exact h)
   clear hx hxc HN2
   cases ha : x.air
   rotate_left
   ·rw [ha] at d0
    have HNX := Lib.hid (HNO.out (by unfold inV; rw [ha]; rfl))
    clear HNO
    go_wp2_with fail
    go_roundw
    case rel => exact ⟨k + 1, hlt, by go_num, HNX, HE⟩
    case measure => simp [intOf]; (try omega)
   rw [ha] at d0
   by_cases e1 : x.ix = vol
   rotate_left
   ·have e1' : (x.ix == vol) = false := by rw [beq_eq_false_iff_ne]; exact e1
    have HNX := Lib.hid (HNO.out (by unfold inV; rw [ha, decide_eq_false e1]; rfl))
    clear HNO e1
    go_wp2_with fail
    go_roundw
    case rel => exact ⟨k + 1, hlt, by go_num, HNX, HE⟩
    case measure => simp [intOf]; (try omega)
   have e1' : (x.ix == vol) = true := by rw [beq_iff_eq]; exact e1
   by_cases e2 : x.mi.f ≤ mi
   rotate_left
   ·have HNX := Lib.hid (HNO.out (by unfold inV; rw [ha, decide_eq_true e1, decide_eq_false e2]; rfl))
    clear HNO e1
    go_wp2_with fail
    go_roundw
    case rel => exact ⟨k + 1, hlt, by go_num, HNX, HE⟩
    case measure => simp [intOf]; (try omega)
   by_cases e3 : mi < x.mi.t
   rotate_left
   ·have HNX := Lib.hid (HNO.out (by unfold inV; rw [ha, decide_eq_true e1, decide_eq_true e2, decide_eq_false e3]; rfl))
    clear HNO e1
    go_wp2_with fail
    go_roundw
    case rel => exact ⟨k + 1, hlt, by go_num, HNX, HE⟩
    case measure => simp [intOf]; (try omega)
   obtain rfl : r = true := by
    rw [← HR.out]
    unfold fliesB
    rw [List.any_eq_true]
    refine ⟨x, List.mem_of_getElem? HX.out, ?_⟩
    unfold inV
    rw [ha, decide_eq_true e1, decide_eq_true e2, decide_eq_true e3]
    rfl
   clear e1
   go_wp2_with fail
   go_ret
   exact ⟨rfl, HE.out⟩
end Go.Proofs.YtjiojpoiocdnmaaGreat
