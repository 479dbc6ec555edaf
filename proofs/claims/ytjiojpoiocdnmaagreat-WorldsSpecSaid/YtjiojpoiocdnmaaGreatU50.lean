/- What is possible: the reference's Possible. -/
import Derived.Test.YtjiojpoiocdnmaaGreatTN
import Derived.Test.YtjiojpoiocdnmaaGreatU37
import Derived.Test.YtjiojpoiocdnmaaGreatU46
import Derived.Test.YtjiojpoiocdnmaaGreatU22
set_option linter.unusedSimpArgs false
set_option linter.unusedVariables false
namespace Go.Proofs.YtjiojpoiocdnmaaGreat
open Go.RowKit
/-- The picks, read off the memory. -/
def rdA (W : World) (v : Value) (n : Nat) : List Nat := match v with
 | .slice (some a) _ _ => (List.range n).map (fun k => match W.cell? ⟨a.block, k, none⟩ with
  | some (.int .i64 z) => z.toNat
  | _ => 0)
 | _ => []
theorem own_num {W : World} {base n c : Nat} {A : Option Addr} {x : List Nat} (h : Own W base 3 ic 1 (.slice A n c) (nums x)) : x.length = n := by
 rcases h.2 with ⟨h2, h3⟩ | ⟨g, cap, cur, hv, _⟩
 ·injection h2 with _ h2 _
  rw [h2]; simpa [nums] using h3
 ·injection hv with _ e2 _
  simpa [nums] using e2.symm
theorem rdA_own {W : World} {base n c : Nat} {A : Option Addr} {x : List Nat} (h : Own W base 3 ic 1 (.slice A n c) (nums x)) : rdA W (.slice A n c) n = x := by
 have hl := own_num h
 rcases Nat.eq_zero_or_pos n with e | e
 ·subst e
  have : x = [] := List.eq_nil_of_length_eq_zero hl
  subst this
  unfold rdA
  cases A <;> rfl
 ·obtain ⟨g, rfl, _⟩ := own_addr h e
  unfold rdA
  apply List.ext_getElem?
  intro k
  simp only [List.getElem?_map]
  by_cases hk : k < n
  ·rw [List.getElem?_range hk, List.getElem?_eq_getElem (show k < x.length by omega)]
   have := (own_getC h (List.getElem?_eq_getElem (show k < x.length by omega))).1
   simp only [Option.map_some]
   rw [this]
   simp
  ·rw [List.getElem?_eq_none (by rw [List.length_range]; omega), List.getElem?_eq_none (by omega)]; rfl
def leftP (ms : List Nat) (n : Nat) (a mo : Value) (W : World) : Nat := match mo with
 | .bool true => cnt ms - valC ms (rdA W a n)
 | _ => 0
theorem leftP_yes {W : World} {base n c : Nat} {A : Option Addr} {ms : List Nat} {q : Nat} (hq : q < cnt ms) (h : Own W base 3 ic 1 (.slice A n c) (nums (digs ms q))) : leftP ms n (.slice A n c) (.bool true) W = cnt ms - q := by
 unfold leftP
 simp only
 rw [rdA_own h, val_digs ms q hq]
/-- The rows of p, and what they say. -/
structure RP (W : World) (base : Nat) (v : Value) (l : List Trk) (rows : List BR) (T : Nat → Nat → Prop) : Prop where
 r : Rows W base v rows
 s : rows.map (fun r => r.l.length) = l.map (fun y => y.ps.l.length)
 h : Holds rows T
theorem RP.ext {W W' : World} {base : Nat} {v : Value} {l : List Trk} {rows : List BR} {T : Nat → Nat → Prop} (h : RP W base v l rows T) (hb : Below W.heap.size W W') : RP W' base v l rows T := ⟨h.r.ext hb, h.s, h.h⟩
theorem RP.congr {W : World} {base : Nat} {v : Value} {l : List Trk} {rows : List BR} {T T' : Nat → Nat → Prop} (h : RP W base v l rows T) (he : ∀ n k, T n k ↔ T' n k) : RP W base v l rows T' := ⟨h.r, h.s, h.h.congr he⟩
theorem RP.set {W : World} {base : Nat} {v : Value} {l : List Trk} {rows : List BR} {T : Nat → Nat → Prop} (h : RP W base v l rows T) {n k : Nat} {r : BR} (hr : rows[n]? = some r) : RP (W.setCell ⟨r.b, k, none⟩ (.bool true)) base v l (setR rows n k) (fun n' k' => T n' k' ∨ (n' = n ∧ k' = k)) :=
 ⟨h.r.set hr, by rw [(setR_bl rows n k).1]; exact h.s, h.h.set hr⟩
/-- What the first j choices say. -/
def TJ (t : Tab) (s : List Stn) (R : List Rep) (l : List Trk) (j n k : Nat) : Prop := ∃ i, i < j ∧ worldP t s R l (nums (digs (msT l) i)) = true ∧ (digs (msT l) i)[n]? = some k
def fndJ (t : Tab) (s : List Stn) (R : List Rep) (l : List Trk) (j : Nat) : Bool := (List.range j).any (fun i => worldP t s R l (nums (digs (msT l) i)))
theorem fnd_succ (t : Tab) (s : List Stn) (R : List Rep) (l : List Trk) (j : Nat) : fndJ t s R l (j + 1) = (fndJ t s R l j || worldP t s R l (nums (digs (msT l) j))) := by
 unfold fndJ
 rw [List.range_succ, List.any_append]; simp
theorem fnd_all (t : Tab) (s : List Stn) (R : List Rep) (l : List Trk) : fndJ t s R l (cnt (msT l)) = foundB t s R l := by
 unfold fndJ foundB combsT comb
 rw [List.any_map]; rfl
theorem tj_no {t : Tab} {s : List Stn} {R : List Rep} {l : List Trk} {j : Nat} (h : worldP t s R l (nums (digs (msT l) j)) = false) (n k : Nat) : TJ t s R l j n k ↔ TJ t s R l (j + 1) n k := by
 constructor
 ·rintro ⟨i, h1, h2⟩; exact ⟨i, by omega, h2⟩
 ·rintro ⟨i, h1, h2, h3⟩
  by_cases e : i = j
  ·subst e; rw [h] at h2; cases h2
  ·exact ⟨i, by omega, h2, h3⟩
theorem tj_yes {t : Tab} {s : List Stn} {R : List Rep} {l : List Trk} {j : Nat} (h : worldP t s R l (nums (digs (msT l) j)) = true) (n k : Nat) : (TJ t s R l j n k ∨ (digs (msT l) j)[n]? = some k) ↔ TJ t s R l (j + 1) n k := by
 constructor
 ·rintro (⟨i, h1, h2⟩ | h1)
  ·exact ⟨i, by omega, h2⟩
  ·exact ⟨j, by omega, h, h1⟩
 ·rintro ⟨i, h1, h2, h3⟩
  by_cases e : i = j
  ·subst e; exact .inr h3
  ·exact .inl ⟨i, by omega, h2, h3⟩
theorem tj_all (t : Tab) (s : List Stn) (R : List Rep) (l : List Trk) (n k : Nat) : TJ t s R l (cnt (msT l)) n k ↔ possB t s R l n k = true := by
 unfold possB combsT comb
 rw [List.any_map, List.any_eq_true]
 constructor
 ·rintro ⟨i, h1, h2, h3⟩
  exact ⟨i, List.mem_range.2 h1, by simp [h2, h3]⟩
 ·rintro ⟨i, h1, h2⟩
  simp only [Function.comp, Bool.and_eq_true, beq_iff_eq] at h2
  exact ⟨i, List.mem_range.1 h1, h2.2, h2.1⟩
theorem choice_ok {l : List Trk} {x : List Nat} (h : Choice (msT l) x) : pickOk l (nums x) := by
 refine ⟨by rw [nums, List.length_map, h.1]; simp [msT], fun i k y hk hy => ?_⟩
 unfold nums at hk
 rw [List.getElem?_map] at hk
 obtain ⟨d, hd, rfl⟩ := Option.map_eq_some_iff.1 hk
 have := h.2 i y.ps.l.length d (by unfold msT; rw [List.getElem?_map, hy]; rfl) hd
 omega
set_option maxRecDepth 100000 in
set_option maxHeartbeats 32000000 in
theorem rposs_at {t : Tab} {SA RA LA : Option Addr} {sn sc rn rc ln lc : Nat} {s : List Stn} {R : List Rep} {l : List Trk} {w : World} (hsn : sn = s.length) (hrn : rn = R.length) (hln : ln = l.length) (ht : Tab.ok w t) (hs : StnS w SA sc s) (hR : Slc w Rep.cells 6 RA R) (hrm : rn ≤ maxLen) (hl : TrkS w LA lc l) :
  Calls Tryz.prog 18 #[t.v, .slice SA sn sc, .slice RA rn rc, .slice LA ln lc] w (PossR w t s R l) := by
 have HSN := Lib.hid hsn
 have HRN := Lib.hid hrn
 have HLN := Lib.hid hln
 have HT := Lib.hid ht
 have HS := Lib.hid hs
 have HR := Lib.hid hR
 have HL := Lib.hid hl
 unfold maxLen at hrm
 clear hsn hrn hln ht hs hR hl
 have HE : Hid (Below w.heap.size w (w.alloc (.cells #[.int .i64 t.n, .slice t.ss.A t.ss.l.length t.ss.c, .slice t.cs.A t.cs.l.length t.cs.c, .slice t.ws.A t.ws.l.length t.ws.c, .slice t.ms.A t.ms.l.length t.ms.c, .slice t.ks.A t.ks.l.length t.ks.c] 28))) := ext_alloc (ext_refl w) _
 have BT : Hid (Blk (w.alloc (.cells #[.int .i64 t.n, .slice t.ss.A t.ss.l.length t.ss.c, .slice t.cs.A t.cs.l.length t.cs.c, .slice t.ws.A t.ws.l.length t.ws.c, .slice t.ms.A t.ms.l.length t.ms.c, .slice t.ks.A t.ks.l.length t.ks.c] 28)) w.heap.size t.cells) := Blk.newH w t.cells 28 w.heap.size rfl
 obtain ⟨E1, hE1⟩ : ∃ E, askE t s R l = E := ⟨_, rfl⟩
 have HA := Lib.hid hE1
 clear hE1
 go_enter Tryz.func18, Tryz.ntmps18
 go_wp2_with fail
 refine (rask_at E1 HA.out HSN.out HRN.out HLN.out (HT.out.ext HE.out) (HS.out.ext HE.out) (HR.out.ext HE.out) (by unfold maxLen; omega) (HL.out.ext HE.out)).mono ?_
 rintro e w1 ⟨rfl, B⟩
 replace HE := Lib.hid (ext_trans HE.out B)
 replace BT := Lib.hid (BT.out.ext B)
 clear B
 by_cases hc : E1 = 0
 rotate_left
 ·have HPE : Hid (possErr t s R l = E1) := by unfold Hid possErr; rw [if_pos (by rw [HA.out]; exact hc), HA.out]
  have HPV : Hid (possV t s R l = []) := by unfold Hid possV; rw [HPE.out, if_neg hc]
  have hcf : ((E1 : Int) == 0) = false := by rw [beq_eq_false_iff_ne]; exact hc
  have hcf2 : (E1 != 0) = true := by rw [bne, hcf]; rfl
  clear HA
  go_wp2_with fail
  go_ret2
  exact ⟨none, 0, [], by rw [HPE.out]; rfl, rows_nil _ _, HPV.out.symm, HE.out⟩
 subst hc
 have HAK := Lib.hid (ask_parts HA.out)
 have HCK := Lib.hid (wchk_ok HAK.out.1)
 have HPS : Hid (∀ y ∈ l, 1 ≤ y.ps.l.length ∧ y.ps.l.length ≤ 4096) := fun y hy => by
  have h := HCK.out.2.2 y hy
  simp only [trkB, Bool.and_eq_true, decide_eq_true_eq] at h
  exact ⟨h.1.1.2, h.1.2⟩
 have hlm : ln ≤ 12 := by rw [HLN.out]; exact HCK.out.2.1
 have hsm : sn ≤ 4 := by rw [HSN.out]; exact HAK.out.2.1
 have hrm2 : rn ≤ 1024 := by rw [HRN.out]; exact HAK.out.2.2.1
 obtain ⟨mb, hmb⟩ : ∃ b, manyB l = b := ⟨_, rfl⟩
 have HMB := Lib.hid hmb
 clear hmb
 go_wp2_with fail
 refine (rmany_at mb HMB.out HLN.out (HL.out.ext HE.out) hlm HPS.out).mono ?_
 rintro e w2 ⟨rfl, B⟩
 have E2 := Lib.hid (ext_trans HE.out B)
 have B2 := Lib.hid (BT.out.ext B)
 clear B BT HE
 cases mb with
 | true =>
  have HPE : Hid (possErr t s R l = 2) := by unfold Hid possErr; rw [if_neg (by rw [HA.out]; simp), HMB.out]; rfl
  have HPV : Hid (possV t s R l = []) := by unfold Hid possV; rw [HPE.out, if_neg (by decide)]
  clear HA
  go_wp2_with fail
  go_ret2
  exact ⟨none, 0, [], by rw [HPE.out]; rfl, rows_nil _ _, HPV.out.symm, E2.out⟩
 | false =>
 have HPF : Hid (∀ fb, foundB t s R l = fb → possErr t s R l = if fb then 0 else 240) := fun fb h => by
  unfold possErr; rw [if_neg (by rw [HA.out]; simp), HMB.out, h]; rfl
 have b0 := B2.out.c 0 _ rfl
 have b1 := B2.out.c 1 _ rfl
 have b2 := B2.out.c 2 _ rfl
 have b3 := B2.out.c 3 _ rfl
 have b4 := B2.out.c 4 _ rfl
 have b5 := B2.out.c 5 _ rfl
 have b6 := B2.out.lt
 go_wp2_with fail
 refine (rsts_at HLN.out HAK.out.1 (HT.out.ext E2.out) (HL.out.ext E2.out)).mono ?_
 clear b0 b1 b2 b3 b4 b5 b6
 rintro e w3 ⟨TA, tn, tc, st, rfl, htn, hST, hSL, B3⟩
 have HTN := Lib.hid htn
 have HST := Lib.hid hST.view
 have HSL := Lib.hid hSL
 have E3 := Lib.hid (ext_trans E2.out B3)
 have htl : tn = ln := by
  have := congrArg List.length hSL
  unfold stT at this
  rw [List.length_map, List.length_map] at this
  rw [htn, this, HLN.out]
 clear htn hST hSL B3
 subst htl
 go_wp2_with fail
 go_loopw [12, 13] (fun a i wr => ∃ (k : Nat) (A : Option Addr) (c : Nat) (rows : List BR), k ≤ tn ∧ i = .int .i64 k ∧ a = .slice A k c ∧ Hid (Rows wr w3.heap.size (.slice A k c) rows) ∧ Hid (rows.map (·.l) = (l.take k).map (fun y => List.replicate y.ps.l.length false)) ∧ Hid (Below w3.heap.size w3 wr)) (fun _ i _ => tn - (intOf i).toNat)
 case atStart => exact ⟨0, none, 0, [], by omega, rfl, rfl, rows_nil _ _, by simp [Hid], ext_refl _⟩
 case round =>
  obtain ⟨k, A, c, rows, hk, rfl, rfl, HRW, HLS, EO⟩ := hrel
  obtain ⟨wo, rfl⟩ : ∃ wo, wo = wr := ⟨_, rfl⟩
  have EZ := Lib.hid (ext_trans E3.out EO.out)
  by_cases hlt : k < tn
  rotate_left
  ·obtain rfl : k = tn := by omega
   have hkn : ¬ (k : Int) < (k : Int) := by omega
   have HPOS : Hid (∀ m ∈ msT l, 0 < m) := fun m hm => by
    obtain ⟨y, hy, rfl⟩ := List.mem_map.1 hm
    exact (HPS.out y hy).1
   have HLEN : Hid (l.length = k) := HLN.out.symm
   have HRP0 : Hid (RP wo w3.heap.size (.slice A k c) l rows (TJ t s R l 0)) := by
    have h := HLS.out
    rw [List.take_of_length_le (by rw [HLN.out]; exact Nat.le_refl _)] at h
    refine ⟨HRW.out, ?_, fun n r q x hr hx => ?_⟩
    ·have := congrArg (List.map List.length) h
     simpa [Function.comp_def] using this
    ·have h2 : (rows.map (·.l))[n]? = some r.l := by rw [List.getElem?_map, hr]; rfl
     rw [h, List.getElem?_map] at h2
     obtain ⟨y, _, hy⟩ := Option.map_eq_some_iff.1 h2
     rw [← hy, List.getElem?_replicate] at hx
     split at hx
     ·cases hx
      exact ⟨(fun h => by cases h), (fun ⟨i, hi, _⟩ => by omega)⟩
     ·cases hx
   have hmk := fun w : World => mk39 k (by omega) w
   have HO0 : Hid (Own (wo.alloc (.cells (Array.replicate k (.int .i64 0)) 3)) 0 3 ic 1 (.slice (some ⟨wo.heap.size, 0, none⟩) k k) (nums (digs (msT l) 0))) := by
    rw [digs_zero, show (msT l).length = k by rw [HLN.out]; simp [msT]]
    exact own_z0 k wo (by omega)
   have hnew := ext_alloc (ext_refl wo) (.cells (Array.replicate k (.int .i64 0)) 3)
   have HRP1 := Lib.hid (HRP0.out.ext hnew)
   have HB1 := Lib.hid (ext_trans EO.out hnew)
   clear hnew HRP0 HLS HRW
   go_wp2_with fail
   clear hmk
   go_loopw [14, 15, 16] (fun a fd mo wr => ∃ (j : Nat) (PA : Option Addr) (pc : Nat) (fb mb : Bool) (rows : List BR), a = .slice PA k pc ∧ fd = .bool fb ∧ mo = .bool mb ∧ Hid (j ≤ cnt (msT l)) ∧ Hid (fndJ t s R l j = fb) ∧ Hid (mb = true → j < cnt (msT l) ∧ Own wr 0 3 ic 1 (.slice PA k pc) (nums (digs (msT l) j))) ∧ Hid (mb = false → j = cnt (msT l)) ∧ Hid (RP wr w3.heap.size (.slice A k c) l rows (TJ t s R l j)) ∧ Hid (Below w3.heap.size w3 wr)) (fun a _ mo wr => leftP (msT l) k a mo wr)
   case atStart => exact ⟨0, some ⟨wo.heap.size, 0, none⟩, k, false, true, rows, rfl, rfl, rfl, Nat.zero_le _, rfl, (fun _ => ⟨cnt_pos _ HPOS.out, HO0.out⟩), (fun h => by cases h), HRP1.out, HB1.out⟩
   case round =>
    clear HRP1 HB1 HO0 EO EZ
    obtain ⟨j, PA, pc, fb, mb, rows2, rfl, rfl, rfl, HJC, HFB, HMT, HMF, HRP, EQ⟩ := hrel
    obtain ⟨wq, rfl⟩ : ∃ wq, wq = wr := ⟨_, rfl⟩
    have EQ3 := Lib.hid (ext_trans E3.out EQ.out)
    cases mb with
    | false =>
     have HFF : Hid (foundB t s R l = fb) := by unfold Hid; rw [← fnd_all, ← HMF.out rfl]; exact HFB.out
     have HPE := Lib.hid (HPF.out fb HFF.out)
     clear HMT HPF
     cases fb with
     | false =>
      have HPE2 : Hid (possErr t s R l = 240) := HPE.out
      have HPV : Hid (possV t s R l = []) := by unfold Hid possV; rw [HPE2.out, if_neg (by decide)]
      go_wp2_with fail
      go_ret2
      exact ⟨none, 0, [], by rw [HPE2.out]; rfl, rows_nil _ _, HPV.out.symm, EQ3.out⟩
     | true =>
      have HPE2 : Hid (possErr t s R l = 0) := HPE.out
      have HPV : Hid (rows2.map (·.l) = possV t s R l) := by
       unfold Hid possV
       rw [HPE2.out, if_pos rfl]
       have h := HRP.out.congr (T' := fun n q => possB t s R l n q = true) (fun n q => by rw [HMF.out rfl]; exact tj_all t s R l n q)
       exact rows_poss h.s h.h
      have HRL : Hid (k = rows2.length) := by
       have := congrArg List.length HRP.out.s
       rw [List.length_map, List.length_map] at this
       unfold Hid; rw [this]; exact HLN.out
      go_wp2_with fail
      go_ret2
      refine ⟨A, c, rows2, by rw [HPE2.out, ← HRL.out]; rfl, ?_, HPV.out, EQ3.out⟩
      rw [← HRL.out]
      have h := HRP.out.r
      exact ⟨h.o.low E3.out.size, fun x hx => ⟨Nat.le_trans E3.out.size (h.r x hx).1, (h.r x hx).2⟩, h.nd⟩
    | true =>
     obtain ⟨hjl, hO⟩ := HMT.out rfl
     have HJL := Lib.hid hjl
     have HO := Lib.hid hO
     have HMEAS := Lib.hid (leftP_yes hjl hO)
     have HCH := Lib.hid (digs_choice (msT l) j hjl)
     have hdl := own_num hO
     obtain ⟨ds, hds⟩ : ∃ ds, digs (msT l) j = ds := ⟨_, rfl⟩
     have HDS := Lib.hid hds
     rw [hds] at HO HCH hdl
     have HDL := Lib.hid hdl
     obtain ⟨wb, hwb⟩ : ∃ b, worldP t s R l (nums ds) = b := ⟨_, rfl⟩
     have HWB := Lib.hid hwb
     clear HMT HMF hjl hO hdl hds hwb
     go_wp2_with fail
     refine (rany_at (st := st) wb (by rw [← HWB.out, ← anyS_eq HA.out]; unfold stL; rw [HSL.out]) HSN.out HRN.out HLN.out HTN.out (by rw [nums, List.length_map, HDL.out]) (HS.out.ext EQ3.out) (HR.out.ext EQ3.out) (HL.out.ext EQ3.out) (HST.out.ext EQ.out) (own_ints HO.out) rfl rfl (pick_in HSL.out (choice_ok HCH.out)) HAK.out.2.2.2.1 HAK.out.2.2.2.2.1 hsm hrm2 hlm).mono ?_
     rintro e w5 ⟨rfl, B5⟩
     have E5 := Lib.hid (ext_trans EQ.out B5)
     have RP5 := Lib.hid (HRP.out.ext B5)
     have HO5 := Lib.hid (HO.out.ext B5)
     clear B5 HRP HO EQ EQ3
     cases wb with
     | false =>
      have HRPZ : Hid (RP w5 w3.heap.size (.slice A k c) l rows2 (TJ t s R l (j + 1))) := RP5.out.congr (fun n q => tj_no (by rw [HDS.out]; exact HWB.out) n q)
      have HFZ : Hid (fndJ t s R l (j + 1) = fb) := by unfold Hid; rw [fnd_succ, HFB.out, HDS.out, HWB.out, Bool.or_false]
      clear RP5
      go_wp2_with fail
      refine (rnext_at HLN.out HCH.out (HL.out.ext (ext_trans E3.out E5.out)) (own_ints HO5.out) hlm (fun y hy => (HPS.out y hy).2)).mono ?_
      rintro e w6 ⟨A7, c7, ds7, b7, rfl, hO7, hy7, hn7, B6⟩
      have hid := inc_digs (msT l) j HPOS.out HJL.out
      rw [HDS.out] at hid
      have E6 := Lib.hid (ext_trans E5.out B6)
      have RP8 := Lib.hid (HRPZ.out.ext B6)
      have HO6 := Lib.hid (hO7.low (Nat.zero_le _))
      have HY7 := Lib.hid hy7
      have HN7 := Lib.hid hn7
      have HID := Lib.hid hid
      clear hO7 hy7 hn7 hid B6 HRPZ HO5 E5
      cases b7 with
      | true =>
       have HT7 : Hid (j + 1 < cnt (msT l) ∧ ds7 = digs (msT l) (j + 1)) := by
        have e := HY7.out rfl
        rw [HID.out] at e
        by_cases h : j + 1 < cnt (msT l)
        ·rw [if_pos h] at e
         cases e
         exact ⟨h, rfl⟩
        ·rw [if_neg h] at e; cases e
       have HO8 : Hid (Own w6 0 3 ic 1 (.slice A7 k c7) (nums (digs (msT l) (j + 1)))) := by have h := HO6.out; rw [HT7.out.2] at h; exact h
       clear HY7 HN7 HID HO6
       go_wp2_with fail
       go_roundw
       case rel => exact ⟨j + 1, A7, c7, fb, true, rows2, rfl, rfl, rfl, HJL.out, HFZ, (fun _ => ⟨HT7.out.1, HO8.out⟩), (fun h => by cases h), RP8, E6⟩
       case measure =>
        rw [leftP_yes HT7.out.1 HO8.out, HMEAS.out]
        have := HT7.out.1
        omega
      | false =>
       have HT7 : Hid (j + 1 = cnt (msT l)) := by
        have e := HN7.out rfl
        rw [HID.out] at e
        have := HJL.out
        by_cases h : j + 1 < cnt (msT l)
        ·rw [if_pos h] at e; cases e
        ·unfold Hid; omega
       clear HY7 HN7 HID
       go_wp2_with fail
       go_roundw
       case rel => exact ⟨j + 1, A7, c7, fb, false, rows2, rfl, rfl, rfl, HJL.out, HFZ, (fun h => by cases h), (fun _ => HT7.out), RP8, E6⟩
       case measure =>
        rw [HMEAS.out]
        have := HJL.out
        show 0 < _
        omega
     | true =>
      have HFZ : Hid (fndJ t s R l (j + 1) = true) := by unfold Hid; rw [fnd_succ, HDS.out, HWB.out, Bool.or_true]
      have RP6 : Hid (RP w5 w3.heap.size (.slice A k c) l rows2 (fun n q => TJ t s R l j n q ∨ (n < 0 ∧ ds[n]? = some q))) := RP5.out.congr (fun n q => ⟨.inl, fun h => h.elim id (fun h => by omega)⟩)
      clear RP5
      go_wp2_with fail
      go_loopw [17] (fun i wr => ∃ (i' : Nat) (rows3 : List BR), i' ≤ k ∧ i = .int .i64 i' ∧ Hid (RP wr w3.heap.size (.slice A k c) l rows3 (fun n q => TJ t s R l j n q ∨ (n < i' ∧ ds[n]? = some q))) ∧ Hid (Own wr 0 3 ic 1 (.slice PA k pc) (nums ds)) ∧ Hid (Below w3.heap.size w3 wr)) (fun i _ => k - (intOf i).toNat)
      case atStart => exact ⟨0, rows2, Nat.zero_le _, rfl, RP6.out, HO5.out, E5.out⟩
      case round =>
       clear RP6 HO5 E5
       obtain ⟨i, rows3, hi, rfl, RP7, HO7, E7⟩ := hrel
       obtain ⟨wi, rfl⟩ : ∃ wi, wi = wr := ⟨_, rfl⟩
       by_cases hik : i < k
       rotate_left
       ·obtain rfl : i = k := by omega
        have hin : ¬ (i : Int) < (i : Int) := by omega
        have HRPZ : Hid (RP wi w3.heap.size (.slice A i c) l rows3 (TJ t s R l (j + 1))) := RP7.out.congr (fun n q => by
         rw [← tj_yes (by rw [HDS.out]; exact HWB.out) n q, HDS.out]
         exact ⟨fun h => h.elim .inl (fun h => .inr h.2), fun h => h.elim .inl (fun h => .inr ⟨by have := (List.getElem?_eq_some_iff.1 h).1; rw [HDL.out] at this; exact this, h⟩)⟩)
        clear RP7
        go_wp2_with fail
        refine (rnext_at HLN.out HCH.out (HL.out.ext (ext_trans E3.out E7.out)) (own_ints HO7.out) hlm (fun y hy => (HPS.out y hy).2)).mono ?_
        rintro e w6 ⟨A7, c7, ds7, b7, rfl, hO7, hy7, hn7, B6⟩
        have hid := inc_digs (msT l) j HPOS.out HJL.out
        rw [HDS.out] at hid
        have E6 := Lib.hid (ext_trans E7.out B6)
        have RP8 := Lib.hid (HRPZ.out.ext B6)
        have HO6 := Lib.hid (hO7.low (Nat.zero_le _))
        have HY7 := Lib.hid hy7
        have HN7 := Lib.hid hn7
        have HID := Lib.hid hid
        clear hO7 hy7 hn7 hid B6 HRPZ HO7 E7
        cases b7 with
        | true =>
         have HT7 : Hid (j + 1 < cnt (msT l) ∧ ds7 = digs (msT l) (j + 1)) := by
          have e := HY7.out rfl
          rw [HID.out] at e
          by_cases h : j + 1 < cnt (msT l)
          ·rw [if_pos h] at e
           cases e
           exact ⟨h, rfl⟩
          ·rw [if_neg h] at e; cases e
         have HO8 : Hid (Own w6 0 3 ic 1 (.slice A7 i c7) (nums (digs (msT l) (j + 1)))) := by have h := HO6.out; rw [HT7.out.2] at h; exact h
         clear HY7 HN7 HID HO6
         go_wp2_with fail
         go_roundw
         case rel => exact ⟨j + 1, A7, c7, true, true, rows3, rfl, rfl, rfl, HJL.out, HFZ, (fun _ => ⟨HT7.out.1, HO8.out⟩), (fun h => by cases h), RP8, E6⟩
         case measure =>
          rw [leftP_yes HT7.out.1 HO8.out, HMEAS.out]
          have := HT7.out.1
          omega
        | false =>
         have HT7 : Hid (j + 1 = cnt (msT l)) := by
          have e := HN7.out rfl
          rw [HID.out] at e
          have := HJL.out
          by_cases h : j + 1 < cnt (msT l)
          ·rw [if_pos h] at e; cases e
          ·unfold Hid; omega
         clear HY7 HN7 HID
         go_wp2_with fail
         go_roundw
         case rel => exact ⟨j + 1, A7, c7, true, false, rows3, rfl, rfl, rfl, HJL.out, HFZ, (fun h => by cases h), (fun _ => HT7.out), RP8, E6⟩
         case measure =>
          rw [HMEAS.out]
          have := HJL.out
          show 0 < _
          omega
       have hii : (i : Int) < (k : Int) := by omega
       obtain ⟨r, qb, qo, hr, hqA, hqb, hqc⟩ := (show Slc wi BR.enc 1 A rows3 from RP7.out.r.o.slc (fun _ => rfl) (by decide)).at_ (k := i) (by
        have := congrArg List.length RP7.out.s
        rw [List.length_map, List.length_map] at this
        rw [this, HLEN.out]; exact hik)
       obtain ⟨g, hgA, -⟩ := own_addr HO7.out (by omega)
       obtain ⟨d, hd⟩ : ∃ d, ds[i]? = some d := ⟨_, List.getElem?_eq_getElem (by rw [HDL.out]; exact hik)⟩
       have hrk := (RP7.out.r.r r (List.mem_of_getElem? hr)).2
       have hrb := (RP7.out.r.r r (List.mem_of_getElem? hr)).1
       have hdr : d < r.l.length := by
        have h1 := RP7.out.s
        have h2 : (rows3.map (fun r => r.l.length))[i]? = some r.l.length := by rw [List.getElem?_map, hr]; rfl
        rw [h1] at h2
        exact HCH.out.2 i _ d h2 hd
       obtain ⟨bb, hbb⟩ : ∃ bb, r.l[d]? = some bb := ⟨_, List.getElem?_eq_getElem hdr⟩
       subst hqA hgA
       have q8 : wi.cell? ⟨qb, qo + i, none⟩ = some (.slice (some ⟨r.b, 0, none⟩) r.l.length r.l.length) := by have := hqc 0 _ rfl; simpa using this
       have g8 := (own_getC HO7.out hd).1
       have hgl := (own_getC HO7.out hd).2
       have hrd : BR.ok wi.drew r := Below.cellsB (ext_drew (ext_refl wi)) hrk
       have s8 := BR.cell hrd hbb
       have s8f := BR.frozen hrd d
       have s8l := BR.lt hrd
       have RPD := Lib.hid ((RP7.out.set (k := d) hr).ext (ext_drew (ext_refl _)))
       have OD : Hid (Own (wi.setCell ⟨r.b, d, none⟩ (.bool true)).drew 0 3 ic 1 (.slice (some ⟨g, 0, none⟩) k pc) (nums ds)) := (HO7.out.kb (KB.set (a := ⟨r.b, d, none⟩) hrk) (by decide)).ext (ext_drew (ext_refl _))
       have ED : Hid (Below w3.heap.size w3 (wi.setCell ⟨r.b, d, none⟩ (.bool true)).drew) := ext_trans (below_set E7.out _ _ hrb) (ext_drew (ext_refl _))
       have RPE := Lib.hid (RPD.out.congr (T' := fun n q => TJ t s R l j n q ∨ (n < i + 1 ∧ ds[n]? = some q)) (fun n q => by
        constructor
        ·rintro ((h | h) | ⟨rfl, rfl⟩)
         ·exact .inl h
         ·exact .inr ⟨by omega, h.2⟩
         ·exact .inr ⟨by omega, hd⟩
        ·rintro (h | ⟨h1, h2⟩)
         ·exact .inl (.inl h)
         ·by_cases e : n = i
          ·subst e
           rw [hd] at h2
           cases h2
           exact .inr ⟨rfl, rfl⟩
          ·exact .inl (.inr ⟨by omega, h2⟩)))
       have hdi : (d : Int) < (r.l.length : Int) := by omega
       obtain ⟨rl, hrl2⟩ : ∃ rl, r.l.length = rl := ⟨_, rfl⟩
       obtain ⟨rb, hrb2⟩ : ∃ rb, r.b = rb := ⟨_, rfl⟩
       rw [hrl2] at hdi q8
       rw [hrb2] at q8 s8 s8f s8l RPE OD ED
       clear hr hqc hd hrk hrb hdr hbb hrd hrl2 hrb2 RP7 HO7 E7 RPD
       go_wp2_with fail
       have SS := Lib.hid (show ∀ w', Below wi.heap.size wi w' → (fun w' => Below wi.heap.size wi w' ∧ w'.cell? ⟨qb, qo + i, none⟩ = some (.slice (some ⟨rb, 0, none⟩) rl rl) ∧ w'.cell? ⟨g, i, none⟩ = some (.int .i64 (d : Int))) w' from fun w' h => ⟨h, (h.cell (p := ⟨qb, qo + i, none⟩) hqb).trans q8, (h.cell (p := ⟨g, i, none⟩) hgl).trans g8⟩)
       refine rgB 9 SS (ext_drew (ext_refl _)) (fun Q7 hQ7 hN7 hHeld => ?_)
       refine rgT 0 (some 63) hQ7 hHeld ?_; refine rgT 1 (some 64) hQ7 hHeld ?_; refine rgT 2 (some 65) hQ7 hHeld ?_; refine rgT 3 (some 66) hQ7 hHeld ?_; refine rgT 4 (some 67) hQ7 hHeld ?_; refine rgT 5 (some 68) hQ7 hHeld ?_; refine rgT 6 (some 69) hQ7 hHeld ?_; refine rgT 7 (some 70) hQ7 hHeld ?_; refine rgT 8 (some 71) hQ7 hHeld ?_
       refine rg_one (i := 9) (by kernel_rfl) (rg_late rfl (by rfl) (by kernel_rfl) (fun K hK => ?_))
       go_simp
       refine hK.out _ _ ?_
       clear hK K
       try simp only [Act.put, List.setIfInBounds_toArray, List.set_cons_zero, List.set_cons_succ]
       refine rg_end (by kernel_rfl) (hN7 _ _ ?_) _
       clear hQ7 hN7 Q7
       have BX := hHeld.1
       clear SS
       go_wp2_with fail
       go_roundw
       case rel => exact ⟨i + 1, _, hik, by go_num, RPE, OD, ED⟩
       case measure => simp [intOf]; (try omega)
  have hki : (k : Int) < (tn : Int) := by omega
  obtain ⟨x, xb, xo, hx, hxA, hxb, hxc⟩ := (HL.out.slc.below (Nat.le_refl _) EZ.out).at_ (k := k) (by rw [← HLN.out]; exact hlt)
  have x12 := hxc 12 _ rfl
  have HX := Lib.hid hx
  have hmb := (HPS.out x (List.mem_of_getElem? hx)).2
  obtain ⟨m, hm⟩ : ∃ m, x.ps.l.length = m := ⟨_, rfl⟩
  have HM := Lib.hid hm
  rw [hm] at x12 hmb
  have hmk := fun w : World => mk50 m (by omega) w
  have hrl : rows.length = k := by have := congrArg List.length HLS.out; rw [List.length_map, List.length_map, List.length_take] at this; have := HLN.out; omega
  have HRL := Lib.hid hrl
  obtain ⟨_, W9, hrun, A9, c9, rfl, hR9, hg9, hE9⟩ := rows_push HRW.out (by rw [hrl]; omega) m EO.out.size
  rw [hrl] at hrun hR9
  have HR9 := Lib.hid hR9
  have HL9 : Hid ((rows ++ [(⟨wo.heap.size, List.replicate m false⟩ : BR)]).map (·.l) = (l.take (k + 1)).map (fun y => List.replicate y.ps.l.length false)) := by
   unfold Hid
   rw [take_snoc2 HX.out, List.map_append, List.map_append, HLS.out]
   simp only [List.map_cons, List.map_nil, HM.out]
  have HE9 : Hid (Below w3.heap.size w3 W9) := (ext_trans EO.out hE9).grown hg9 (Nat.le_trans EO.out.size hE9.size) (fun r e => (HRW.out.o.lt r e).2)
  have HRUN := Lib.hid hrun
  subst hxA
  clear hx hxc hm hrl hrun hR9 hg9 hE9
  go_wp2_with (at_builtin; refine wpList_append_run rfl (.tmp 37) (.tmp 45) 34 rfl (.slice A k c) (.slice (some ⟨wo.heap.size + 1, 0, none⟩) 1 1) rfl rfl HRUN.out ?_)
  clear x12 hxb hmk
  go_roundw
  case rel => exact ⟨k + 1, A9, c9, _, hlt, by go_num, rfl, HR9, HL9, HE9⟩
  case measure => simp [intOf]; (try omega)
end Go.Proofs.YtjiojpoiocdnmaaGreat
/- Law 6: Possible agrees with the reference. -/
set_option linter.unusedSimpArgs false
set_option linter.unusedVariables false
namespace Go.Proofs.YtjiojpoiocdnmaaGreat
open Go.RowKit
theorem rposs_lit {t : Tab} {SA RA LA : Option Addr} {sn sc rn rc ln lc : Nat} {s : List Stn} {R : List Rep} {l : List Trk} {w : World} (E : Int) (r : Nat) (L : List (List Bool)) (hE : possErr t s R l = E) (hL : possV t s R l = L) (hr : L.length = r) (hsn : sn = s.length) (hrn : rn = R.length) (hln : ln = l.length) (ht : Tab.ok w t) (hs : StnS w SA sc s) (hR : Slc w Rep.cells 6 RA R) (hrm : rn ≤ maxLen) (hl : TrkS w LA lc l) :
  Calls Tryz.prog 18 #[t.v, .slice SA sn sc, .slice RA rn rc, .slice LA ln lc] w fun e w' => ∃ A c, e = .returned (.tuple #[.slice A r c, .int .i64 E]) ∧ PR w' w.heap.size A r c L ∧ Below w.heap.size w w' := by
 subst hE
 refine (rposs_at hsn hrn hln ht hs hR hrm hl).mono ?_
 rintro e w' ⟨A, c, rows, rfl, h4, h5, h6⟩
 have hn : rows.length = r := by rw [← hr, ← hL, ← h5, List.length_map]
 refine ⟨A, c, by rw [hn], ⟨rows, by rw [hn] at h4; exact h4, by rw [h5, hL], hn.symm⟩, h6⟩
set_option maxRecDepth 100000 in
set_option maxHeartbeats 16000000 in
theorem law6 (t : Tab) (SA : Option Addr) (sc : Nat) (s : List Stn) (RA : Option Addr) (rc : Nat) (R : List Rep) (LA : Option Addr) (lc : Nat) (l : List Trk) (w : World) (ht : Tab.ok w t) (hs : StnS w SA sc s) (hR : SliceOf.ok Rep.cells 6 Rep.ok w ⟨RA, rc, R⟩) (hl : TrkS w LA lc l) :
  Calls Tryz.prog 6 #[t.v, .slice SA s.length sc, .slice RA R.length rc, .slice LA l.length lc] w (Tru w) := by
 obtain ⟨rn, hrn⟩ : ∃ rn, R.length = rn := ⟨_, rfl⟩
 obtain ⟨sn, hsn⟩ : ∃ sn, s.length = sn := ⟨_, rfl⟩
 obtain ⟨ln, hln⟩ : ∃ ln, l.length = ln := ⟨_, rfl⟩
 have HRN := Lib.hid hrn
 have HSN := Lib.hid hsn
 have HLN := Lib.hid hln
 have hrc : rn ≤ rc := by rw [← hrn]; exact hR.2.1
 have hrm : rc ≤ 2 ^ 63 - 1 := hR.2.2.1
 rw [hrn, hsn, hln]
 clear hrn hsn hln
 have HT := Lib.hid ht
 have HS := Lib.hid hs
 have HR := Lib.hid hR
 have HL := Lib.hid hl
 obtain ⟨W0, hW0⟩ : ∃ W0, w.alloc (.cells #[.int .i64 t.n, .slice t.ss.A t.ss.l.length t.ss.c, .slice t.cs.A t.cs.l.length t.cs.c, .slice t.ws.A t.ws.l.length t.ws.c, .slice t.ms.A t.ms.l.length t.ms.c, .slice t.ks.A t.ks.l.length t.ks.c] 28) = W0 := ⟨_, rfl⟩
 have E0 : Hid (Below w.heap.size w W0) := by rw [← hW0]; exact ext_alloc (ext_refl w) _
 have T0 : Hid (Blk W0 w.heap.size t.cells) := by rw [← hW0]; exact Blk.newH w t.cells 28 w.heap.size rfl
 clear ht hs hR hl
 go_enter Tryz.func6, Tryz.ntmps6
 go_wp2_with fail
 refine (sane_any W0).mono ?_
 rintro e w1 ⟨rfl, B⟩
 have E1 := Lib.hid (ext_trans E0.out B)
 have T1 := Lib.hid (T0.out.ext B)
 clear hW0 B E0 T0
 have b0 := T1.out.c 0 _ rfl
 have b1 := T1.out.c 1 _ rfl
 have b2 := T1.out.c 2 _ rfl
 have b3 := T1.out.c 3 _ rfl
 have b4 := T1.out.c 4 _ rfl
 have b5 := T1.out.c 5 _ rfl
 have b6 := T1.out.lt
 go_wp2_with fail
 clear b0 b1 b2 b3 b4 b5 b6
 refine (light_at (s := s) (R := R) (l := l) 400 400 rfl (by decide) (by decide) HSN.out.symm HRN.out.symm HLN.out.symm (by unfold maxLen; omega) (HT.out.ext E1.out) (HS.out.ext E1.out) (HL.out.ext E1.out)).mono ?_
 rintro e w2 ⟨r, rfl, hLP, B⟩
 have E2 := Lib.hid (ext_trans E1.out B)
 have T2 := Lib.hid (T1.out.ext B)
 clear B E1 T1
 cases r
 ·go_wp2_with fail
  go_ret
  exact ⟨rfl, E2.out⟩
 have HLP := Lib.hid (hLP rfl)
 clear hLP
 have hrn : rn ≤ 10 := by rw [← HRN.out]; exact HLP.out.hr
 have hsn : sn ≤ 6 := by rw [← HSN.out]; exact HLP.out.hs
 obtain ⟨EE, hE⟩ : ∃ EE, possErr t s R l = EE := ⟨_, rfl⟩
 obtain ⟨L, hL⟩ : ∃ L, possV t s R l = L := ⟨_, rfl⟩
 obtain ⟨n1, hn1⟩ : ∃ n1, L.length = n1 := ⟨_, rfl⟩
 have HLB : Hid (L.length ≤ 100000 ∧ ∀ x ∈ L, x.length ≤ 100000) := by rw [← hL]; exact L_bounds HLP.out.hl HLP.out.hps
 have HE := Lib.hid hE
 have HLL := Lib.hid hL
 have HN1 := Lib.hid hn1
 clear hE hL hn1
 have b0 := T2.out.c 0 _ rfl
 have b1 := T2.out.c 1 _ rfl
 have b2 := T2.out.c 2 _ rfl
 have b3 := T2.out.c 3 _ rfl
 have b4 := T2.out.c 4 _ rfl
 have b5 := T2.out.c 5 _ rfl
 have b6 := T2.out.lt
 go_wp2_with fail
 clear b0 b1 b2 b3 b4 b5 b6
 refine (poss_lit EE n1 L HE.out HLL.out HN1.out HSN.out.symm HRN.out.symm HLN.out.symm (HT.out.ext E2.out) (HS.out.ext E2.out) (HR.out.slc.ext E2.out) (HL.out.ext E2.out) (by rw [HSN.out]; omega) (by rw [HRN.out]; omega) (by have := HLP.out.hl; omega)).mono ?_
 rintro e w3 ⟨A1, c1, rfl, hP1, B⟩
 have E3 := Lib.hid (ext_trans E2.out B)
 have T3 := Lib.hid (T2.out.ext B)
 have P3 := Lib.hid hP1.ra
 clear B E2 T2 hP1
 have b0 := T3.out.c 0 _ rfl
 have b1 := T3.out.c 1 _ rfl
 have b2 := T3.out.c 2 _ rfl
 have b3 := T3.out.c 3 _ rfl
 have b4 := T3.out.c 4 _ rfl
 have b5 := T3.out.c 5 _ rfl
 have b6 := T3.out.lt
 go_wp2_with fail
 clear b0 b1 b2 b3 b4 b5 b6
 refine (rposs_lit EE n1 L HE.out HLL.out HN1.out HSN.out.symm HRN.out.symm HLN.out.symm (HT.out.ext E3.out) (HS.out.ext E3.out) (HR.out.slc.ext E3.out) (by unfold maxLen; omega) (HL.out.ext E3.out)).mono ?_
 rintro e w4 ⟨A2, c2, rfl, hP2, B⟩
 have E4 := Lib.hid (ext_trans E3.out B)
 have P4 := Lib.hid (P3.out.ext B)
 have Q4 := Lib.hid hP2.ra
 clear B E3 T3 hP2 P3
 have hee : (EE == EE) = true := by simp
 go_wp2_with fail
 refine (same_ra true (by simp) P4.out Q4.out HLB.out.1 HLB.out.2).mono ?_
 rintro e w5 ⟨rfl, B⟩
 have E5 := Lib.hid (ext_trans E4.out B)
 clear B
 go_wp2_with fail
 go_ret
 exact ⟨rfl, E5.out⟩
end Go.Proofs.YtjiojpoiocdnmaaGreat
/- Law 6 as its row asks. -/
set_option linter.unusedSimpArgs false
set_option linter.unusedVariables false
namespace Go.Proofs.YtjiojpoiocdnmaaGreat
open Go.RowKit
theorem walk6 (t : Tab) (s : SliceOf Stn) (r : SliceOf Rep) (l : SliceOf Trk) (w : World) (ht : Tab.ok w t) (hs : SliceOf.ok Stn.cells 3 Stn.ok w s) (hr : SliceOf.ok Rep.cells 6 Rep.ok w r) (hl : SliceOf.ok Trk.cells 14 Trk.ok w l) :
    Calls Tryz.prog 6 #[.agg t.cells.toArray, .slice s.A s.l.length s.c, .slice r.A r.l.length r.c, .slice l.A l.l.length l.c] w (Tru w) :=
  law6 t s.A s.c s.l r.A r.c r.l l.A l.c l.l w ht hs hr hl
end Go.Proofs.YtjiojpoiocdnmaaGreat
