/- The reference's world: the reports station by station. No program in sight. -/
import Derived.Test.YtjiojpoiocdnmaaGreatU46
set_option linter.unusedSimpArgs false
set_option linter.unusedVariables false
namespace Go.Proofs.YtjiojpoiocdnmaaGreat
open Go.RowKit
/-- How many of the reports of station k are wrong. -/
def wrK (p : Rep → Bool) (R : List Rep) (k : Nat) : Nat := R.countP (fun r => decide (r.st = (k : Int)) && !p r)
theorem plus_get (x y : V4) (k : Nat) : (x.plus y).get k = x.get k + y.get k := by
 unfold V4.get V4.plus
 split <;> rfl
theorem unit_get {k i : Nat} (hk : k < 4) (hi : i < 4) : (unitV i).get k = if i = k then 1 else 0 := by
 match k, hk, i, hi with
 | 0, _, 0, _ | 0, _, 1, _ | 0, _, 2, _ | 0, _, 3, _ | 1, _, 0, _ | 1, _, 1, _ | 1, _, 2, _ | 1, _, 3, _ | 2, _, 0, _ | 2, _, 1, _ | 2, _, 2, _ | 2, _, 3, _ | 3, _, 0, _ | 3, _, 1, _ | 3, _, 2, _ | 3, _, 3, _ => rfl
theorem wrK_get (p : Rep → Bool) {k : Nat} (hk : k < 4) : ∀ (R : List Rep), (∀ r ∈ R, 0 ≤ r.st ∧ r.st < 4) → (vsum (R.map (cR p))).get k = ((wrK p R k : Nat) : Int)
 | [], _ => by
  match k, hk with
  | 0, _ | 1, _ | 2, _ | 3, _ => rfl
 | r :: R, h => by
  have ih := wrK_get p hk R (fun x hx => h x (by simp [hx]))
  have hr := h r (by simp)
  simp only [List.map_cons, vsum]
  rw [plus_get, ih]
  unfold wrK cR
  rw [List.countP_cons]
  cases hp : p r with
  | true =>
   have : V4.zero.get k = 0 := by
    match k, hk with
    | 0, _ | 1, _ | 2, _ | 3, _ => rfl
   simp [this]
  | false =>
   simp only [Bool.false_eq_true, if_false, Bool.not_false, Bool.and_true]
   rw [unit_get hk (by omega)]
   by_cases e : r.st = (k : Int)
   ·rw [if_pos (by omega), if_pos (by simpa using e)]; omega
   ·rw [if_neg (by omega), if_neg (by simpa using e)]; omega
/-- Has each station no more wrong reports than it may have? -/
def worldS (s : List Stn) (R : List Rep) (p : Rep → Bool) : Bool := (List.range s.length).all (fun k => decide (((wrK p R k : Nat) : Int) ≤ ((s[k]?).map (·.fa)).getD 0))
theorem budV_get (s : List Stn) {k : Nat} (hk : k < 4) : (budV s).get k = ((s[k]?).map (·.fa)).getD 0 := by
 match k, hk with
 | 0, _ | 1, _ | 2, _ | 3, _ => rfl
theorem leB_get {x y : V4} : x.leB y = true ↔ ∀ k, k < 4 → x.get k ≤ y.get k := by
 unfold V4.leB
 simp only [Bool.and_eq_true, decide_eq_true_eq]
 constructor
 ·rintro ⟨⟨⟨a, b⟩, c⟩, d⟩ k hk
  match k, hk with
  | 0, _ => exact a
  | 1, _ => exact b
  | 2, _ => exact c
  | 3, _ => exact d
 ·intro h
  exact ⟨⟨⟨h 0 (by omega), h 1 (by omega)⟩, h 2 (by omega)⟩, h 3 (by omega)⟩
theorem worldS_eq {s : List Stn} {R : List Rep} (p : Rep → Bool) (hs : s.length ≤ 4) (hR : ∀ r ∈ R, 0 ≤ r.st ∧ r.st < s.length) : worldS s R p = (vsum (R.map (cR p))).leB (budV s) := by
 rw [Bool.eq_iff_iff, leB_get]
 unfold worldS
 rw [List.all_eq_true]
 have hR4 : ∀ r ∈ R, 0 ≤ r.st ∧ r.st < 4 := fun r hr => by have := hR r hr; omega
 constructor
 ·intro h k hk
  rw [wrK_get p hk R hR4, budV_get s hk]
  by_cases e : k < s.length
  ·exact of_decide_eq_true (h k (List.mem_range.2 e))
  ·rw [List.getElem?_eq_none (by omega)]
   have : wrK p R k = 0 := by
    unfold wrK
    rw [List.countP_eq_zero]
    intro r hr hh
    rw [Bool.and_eq_true, decide_eq_true_eq] at hh
    have := hR r hr
    omega
   rw [this]; simp
 ·intro h k hk
  have hk := List.mem_range.1 hk
  have := h k (by omega)
  rw [wrK_get p (by omega) R hR4, budV_get s (by omega)] at this
  exact decide_eq_true this
theorem wrK_snoc {p : Rep → Bool} {R : List Rep} {i k : Nat} {r : Rep} (h : R[i]? = some r) : wrK p (R.take (i + 1)) k = wrK p (R.take i) k + if decide (r.st = (k : Int)) && !p r then 1 else 0 := by
 unfold wrK
 rw [take_snoc2 h, List.countP_append, List.countP_cons]
 simp
/-- The reports of a station, looked at track by track. -/
def rightK (st : List (List (List Sty))) (l : List Trk) (picks : List Int) (r : Rep) (sh : Int) (n : Nat) : Bool := (List.range n).any (fun n => decide ((l[n]?).map (·.fl.call) = some r.call) && fliesB (staysAt st n (picks.getD n 0).toNat) r.vol (r.mi + sh))
theorem rightK_succ (st : List (List (List Sty))) (l : List Trk) (picks : List Int) (r : Rep) (sh : Int) (n : Nat) : rightK st l picks r sh (n + 1) = (rightK st l picks r sh n || (decide ((l[n]?).map (·.fl.call) = some r.call) && fliesB (staysAt st n (picks.getD n 0).toNat) r.vol (r.mi + sh))) := by
 unfold rightK
 rw [List.range_succ, List.any_append]
 simp
theorem rightK_at (st : List (List (List Sty))) (l : List Trk) (picks shs : List Int) (r : Rep) (sh : Int) (h : shs.getD r.st.toNat 0 = sh) : rightK st l picks r sh l.length = rightAt st l picks shs r := by
 unfold rightK rightAt
 rw [h]
end Go.Proofs.YtjiojpoiocdnmaaGreat
/- Are picks and shifts a world: the reference's 'world'. -/
set_option linter.unusedSimpArgs false
set_option linter.unusedVariables false
namespace Go.Proofs.YtjiojpoiocdnmaaGreat
open Go.RowKit
theorem dat_len (s : ByteArray) : s.data.toList.length = s.size := by rw [Array.length_toList]; rfl
theorem loop_all (s : ByteArray) : ∀ (n i : Nat) (r : List UInt8), s.size - i = n → ByteArray.toList.loop s i r = r.reverse ++ s.data.toList.drop i
 | 0, i, r, h => by
  rw [ByteArray.toList.loop, if_neg (by omega), List.drop_of_length_le (by rw [dat_len]; omega), List.append_nil]
 | n + 1, i, r, h => by
  have hi : i < s.size := by omega
  have hi2 : i < s.data.toList.length := by rw [dat_len]; exact hi
  have hi3 : i < s.data.size := hi
  have hg : s.get! i = s.data.toList[i] := by
   show s.data[i]! = _
   rw [getElem!_pos s.data i hi3, Array.getElem_toList]
  rw [ByteArray.toList.loop, if_pos hi, loop_all s n (i + 1) _ (by omega), List.reverse_cons, List.append_assoc, List.drop_eq_getElem_cons hi2, hg]
  rfl
theorem str_all (s : ByteArray) : s.toList = s.data.toList := by
 unfold ByteArray.toList
 rw [loop_all s _ 0 [] rfl]
 rfl
theorem str_inj {a b : ByteArray} (h : a.toList = b.toList) : a = b := by
 rw [str_all, str_all] at h
 cases a; cases b
 exact congrArg _ (Array.toList_inj.1 h)
/-- Rows of rows of stays that can be read. -/
structure STV (W : World) (A : Option Addr) (st : List (SliceOf (SliceOf Sty))) : Prop where
 o : Slc W SliceOf.enc 1 A st
 r : ∀ x ∈ st, Slc W SliceOf.enc 1 x.A x.l
 q : ∀ x ∈ st, ∀ y ∈ x.l, Slc W Sty.cells 4 y.A y.l ∧ y.l.length ≤ maxLen
theorem STV.ext {W W' : World} {A : Option Addr} {st : List (SliceOf (SliceOf Sty))} (h : STV W A st) (hb : Below W.heap.size W W') : STV W' A st :=
 ⟨h.o.ext hb, fun x hx => (h.r x hx).ext hb, fun x hx y hy => ⟨(h.q x hx y hy).1.ext hb, (h.q x hx y hy).2⟩⟩
theorem STR.view {W : World} {base : Nat} {A : Option Addr} {n c : Nat} {st : List (SliceOf (SliceOf Sty))} (h : STR W base (.slice A n c) st) : STV W A st :=
 ⟨h.o.slc (fun _ => rfl) (by decide), fun x hx => (h.r x hx).slc (fun _ => rfl) (by decide), fun x hx y hy => ⟨(h.q x hx y hy).slc (fun _ => rfl) (by decide), (h.q x hx y hy).lenMax⟩⟩
def stL (st : List (SliceOf (SliceOf Sty))) : List (List (List Sty)) := st.map (fun r => r.l.map (·.l))
theorem staysAt_of {st : List (SliceOf (SliceOf Sty))} {n k : Nat} {z : SliceOf (SliceOf Sty)} {y : SliceOf Sty} (hz : st[n]? = some z) (hy : z.l[k]? = some y) : staysAt (stL st) n k = y.l := by
 unfold staysAt stL
 rw [List.getElem?_map, hz]
 simp [hy]
def PickIn (st : List (SliceOf (SliceOf Sty))) (picks : List Int) : Prop := ∀ (n : Nat) (z : SliceOf (SliceOf Sty)), st[n]? = some z → ∃ pk : Nat, picks[n]? = some (pk : Int) ∧ pk < z.l.length
set_option maxRecDepth 100000 in
set_option maxHeartbeats 16000000 in
theorem rworld_at {SA RA LA TA PA HA : Option Addr} {sn sc rn rc ln lc tn tc pn pc hn hc : Nat} {s : List Stn} {R : List Rep} {l : List Trk} {st : List (SliceOf (SliceOf Sty))} {picks shs : List Int} {w : World} (B : Bool) (hB : worldS s R (rightAt (stL st) l picks shs) = B)
  (hsn : sn = s.length) (hrn : rn = R.length) (hln : ln = l.length) (htn : tn = st.length) (hpn : pn = picks.length) (hhn : hn = shs.length) (hs : StnS w SA sc s) (hR : Slc w Rep.cells 6 RA R) (hl : TrkS w LA lc l) (ht : STV w TA st) (hp : Slc w ic 1 PA picks) (hh : Slc w ic 1 HA shs)
  (htl : tn = ln) (hpl : pn = ln) (hhl : hn = sn) (hpk : PickIn st picks) (hsh : ∀ h ∈ shs, -3 ≤ h ∧ h ≤ 3) (hmi : ∀ r ∈ R, 0 ≤ r.mi ∧ r.mi ≤ 1439) (hsm : sn ≤ 4) (hrm : rn ≤ 1024) (hlm : ln ≤ 12) :
  Calls Tryz.prog 64 #[.slice SA sn sc, .slice RA rn rc, .slice LA ln lc, .slice TA tn tc, .slice PA pn pc, .slice HA hn hc] w (RetB w B) := by
 subst htl hpl hhl
 have HB := Lib.hid hB
 have HSN := Lib.hid hsn
 have HRN := Lib.hid hrn
 have HLN := Lib.hid hln
 have HTN := Lib.hid htn
 have HPN := Lib.hid hpn
 have HHN := Lib.hid hhn
 have HS := Lib.hid hs
 have HR := Lib.hid hR
 have HL := Lib.hid hl
 have HT := Lib.hid ht
 have HP := Lib.hid hp
 have HH := Lib.hid hh
 have HPK := Lib.hid hpk
 have HSH := Lib.hid hsh
 have HMI := Lib.hid hmi
 clear hB hsn hrn hln htn hpn hhn hs hR hl ht hp hh hpk hsh hmi
 go_enter Tryz.func64, Tryz.ntmps64
 go_wp2_with fail
 go_loopw [13] (fun i wr => ∃ k : Nat, k ≤ hn ∧ i = .int .i64 k ∧ Hid (∀ z, z < k → ((wrK (rightAt (stL st) l picks shs) R z : Nat) : Int) ≤ ((s[z]?).map (·.fa)).getD 0) ∧ Hid (Below w.heap.size w wr)) (fun i _ => hn - (intOf i).toNat)
 case atStart => exact ⟨0, by omega, rfl, (fun z hz => by omega), ext_refl _⟩
 case round =>
  obtain ⟨k, hk, rfl, HW, EO⟩ := hrel
  obtain ⟨wo, rfl⟩ : ∃ wo, wo = wr := ⟨_, rfl⟩
  by_cases hlt : k < hn
  rotate_left
  ·obtain rfl : k = hn := by omega
   have hkn : ¬ (k : Int) < (k : Int) := by omega
   obtain rfl : B = true := by
    rw [← HB.out]
    unfold worldS
    rw [List.all_eq_true]
    intro z hz
    rw [List.mem_range, ← HSN.out] at hz
    exact decide_eq_true (HW.out z hz)
   go_wp2_with fail
   go_ret
   exact ⟨rfl, EO.out⟩
  have hki : (k : Int) < (hn : Int) := by omega
  obtain ⟨g, gb, go, hg, hgA, hgb, hgc⟩ := (HS.out.slc.below (Nat.le_refl _) EO.out).at_ (k := k) (by rw [← HSN.out]; exact hlt)
  have HG := Lib.hid hg
  have HGC := Lib.hid (hgc 2 _ rfl)
  have HGL := Lib.hid hgb
  subst hgA
  clear hg hgc hgb
  go_wp2_with fail
  go_loopw [14, 15] (fun a i wr => ∃ (j c : Nat), j ≤ rn ∧ i = .int .i64 j ∧ a = .int .i64 c ∧ c ≤ j ∧ Hid (wrK (rightAt (stL st) l picks shs) (R.take j) k = c) ∧ Hid (Below wo.heap.size wo wr)) (fun _ i _ => rn - (intOf i).toNat)
  case atStart => exact ⟨0, 0, by omega, rfl, rfl, by omega, by simp [Hid, wrK], ext_refl _⟩
  case round =>
   obtain ⟨j, c, hj, rfl, rfl, hcj, HC, EJ⟩ := hrel
   obtain ⟨wi, rfl⟩ : ∃ wi, wi = wr := ⟨_, rfl⟩
   have EI := Lib.hid (ext_trans EO.out EJ.out)
   by_cases hjt : j < rn
   rotate_left
   ·obtain rfl : j = rn := by omega
    have hjn : ¬ (j : Int) < (j : Int) := by omega
    have HC2 : Hid (wrK (rightAt (stL st) l picks shs) R k = c) := by
     have h := HC.out
     rw [List.take_of_length_le (by rw [HRN.out]; exact Nat.le_refl _)] at h
     exact h
    have g2 := (EJ.out.cell (p := ⟨gb, go + k * 3 + 2, none⟩) HGL.out).trans HGC.out
    by_cases hf : g.fa < (c : Int)
    ·obtain rfl : B = false := by
      rw [← HB.out]
      unfold worldS
      rw [List.all_eq_false]
      refine ⟨k, List.mem_range.2 (by rw [← HSN.out]; exact hlt), ?_⟩
      rw [HG.out, HC2.out]
      simpa using hf
     go_wp2_with fail
     go_ret
     exact ⟨rfl, EI.out⟩
    ·have HW2 : Hid (∀ z, z < k + 1 → ((wrK (rightAt (stL st) l picks shs) R z : Nat) : Int) ≤ ((s[z]?).map (·.fa)).getD 0) := fun z hz => by
      by_cases e : z = k
      ·subst e
       rw [HG.out, HC2.out]
       simpa using hf
      ·exact HW.out z (by omega)
     go_wp2_with fail
     go_roundw
     case rel => exact ⟨k + 1, hlt, by go_num, HW2, EI⟩
     case measure => simp [intOf]; (try omega)
   have hji : (j : Int) < (rn : Int) := by omega
   obtain ⟨r, rb, ro, hr, hrA, hrb, hrc⟩ := (HR.out.below (Nat.le_refl _) EI.out).at_ (k := j) (by rw [← HRN.out]; exact hjt)
   have d0 := hrc 0 _ rfl
   have d1 := hrc 1 _ rfl
   have d2 := hrc 2 _ rfl
   have d3 := hrc 3 _ rfl
   have d4 := hrc 4 _ rfl
   have d5 := hrc 5 _ rfl
   simp only [Nat.add_zero] at d0
   have HRR := Lib.hid hr
   subst hrA
   obtain ⟨W7, hW7⟩ : ∃ W7, wi.alloc (.cells #[.int .i64 r.st, .int .i64 r.no, .int .i64 r.mi, .int .i64 r.ar, .string r.call, .int .i64 r.vol] 55) = W7 := ⟨_, rfl⟩
   have E7 : Hid (Below wi.heap.size wi W7) := by rw [← hW7]; exact ext_alloc (ext_refl wi) _
   have RB : Hid (Blk W7 wi.heap.size r.cells) := by rw [← hW7]; exact Blk.newH wi r.cells 55 wi.heap.size rfl
   have r0 := RB.out.c 0 _ rfl
   have rlt := RB.out.lt
   have EK := Lib.hid (ext_trans EI.out E7.out)
   have EK2 := Lib.hid (ext_trans EJ.out E7.out)
   have hcw : IntKind.i64.wrap ((c : Int) + 1) = ((c + 1 : Nat) : Int) := IntWalk.i64_in _ (by omega)
   clear hr hrc
   by_cases hst : r.st = (k : Int)
   rotate_left
   ·have hst' : (r.st == (k : Int)) = false := by rw [beq_eq_false_iff_ne]; exact hst
    have hst2 : (r.st != (k : Int)) = true := by rw [bne, hst']; rfl
    have HC3 : Hid (wrK (rightAt (stL st) l picks shs) (R.take (j + 1)) k = c) := by
     unfold Hid
     rw [wrK_snoc HRR.out, HC.out, decide_eq_false hst]; rfl
    clear hst hcw
    go_wp2_with fail
    go_roundw
    case rel => exact ⟨j + 1, c, hjt, by go_num, rfl, by omega, HC3, EK2⟩
    case measure => simp [intOf]; (try omega)
   have hst' : (r.st == (k : Int)) = true := by rw [beq_iff_eq]; exact hst
   have hst2 : (r.st != (k : Int)) = false := by rw [bne, hst']; rfl
   obtain ⟨sh, hb, ho, hsh, hhA, hhb, hhc⟩ := (HH.out.below (Nat.le_refl _) EK.out).at_ (k := k) (by rw [← HHN.out]; exact hlt)
   have HSV : Hid (shs.getD r.st.toNat 0 = sh) := by
    unfold Hid
    rw [hst, List.getD_eq_getElem?_getD, show (k : Int).toNat = k by omega, hsh]; rfl
   have HRK : Hid (rightK (stL st) l picks r sh l.length = rightAt (stL st) l picks shs r) := rightK_at _ _ _ _ _ _ HSV.out
   have hsb := HSH.out sh (List.mem_of_getElem? hsh)
   have hmb := HMI.out r (List.mem_of_getElem? HRR.out)
   have hws : IntKind.i64.wrap (r.mi + sh) = r.mi + sh := IntWalk.i64_in _ (by omega)
   have h00 : W7.cell? ⟨hb, ho + k, none⟩ = some (.int .i64 sh) := by have := hhc 0 _ rfl; simpa using this
   have H0 := Lib.hid h00
   have HHB := Lib.hid hhb
   have HCS : Hid (∀ b : Bool, rightAt (stL st) l picks shs r = b → wrK (rightAt (stL st) l picks shs) (R.take (j + 1)) k = if b then c else c + 1) := fun b hb => by
    rw [wrK_snoc HRR.out, HC.out, hst, hb]
    cases b <;> simp
   subst hhA
   clear hst hsh hsb hmb hhc hhb h00
   go_wp2_with fail
   clear hW7 d0 d1 d2 d3 d4 d5 r0 rlt
   go_loopw [17, 18] (fun a i wr => ∃ (n : Nat) (b : Bool), n ≤ pn ∧ i = .int .i64 n ∧ a = .bool b ∧ Hid (rightK (stL st) l picks r sh n = b) ∧ Hid (Below W7.heap.size W7 wr)) (fun _ i _ => pn - (intOf i).toNat)
   case atStart => exact ⟨0, false, by omega, rfl, rfl, rfl, ext_refl _⟩
   case round =>
    obtain ⟨n, b, hnt, rfl, rfl, HK, EN⟩ := hrel
    obtain ⟨wn, rfl⟩ : ∃ wn, wn = wr := ⟨_, rfl⟩
    have EZ := Lib.hid (ext_trans EK.out EN.out)
    have EZ2 := Lib.hid (ext_trans EK2.out EN.out)
    by_cases hnl : n < pn
    rotate_left
    ·obtain rfl : n = pn := by omega
     have hnn : ¬ (n : Int) < (n : Int) := by omega
     have HC3 : Hid (wrK (rightAt (stL st) l picks shs) (R.take (j + 1)) k = if b then c else c + 1) := HCS.out b (by rw [← HRK.out, ← HLN.out]; exact HK.out)
     clear HK HCS
     cases b
     ·go_wp2_with fail
      go_roundw
      case rel => exact ⟨j + 1, c + 1, hjt, by go_num, by go_num, by omega, HC3, EZ2⟩
      case measure => simp [intOf]; (try omega)
     ·clear hcw
      go_wp2_with fail
      go_roundw
      case rel => exact ⟨j + 1, c, hjt, by go_num, rfl, by omega, HC3, EZ2⟩
      case measure => simp [intOf]; (try omega)
    have hni : (n : Int) < (pn : Int) := by omega
    have HKS : Hid (rightK (stL st) l picks r sh (n + 1) = (b || (decide ((l[n]?).map (·.fl.call) = some r.call) && fliesB (staysAt (stL st) n (picks.getD n 0).toNat) r.vol (r.mi + sh)))) := by
     unfold Hid; rw [rightK_succ, HK.out]
    obtain ⟨x, xb, xo, hx, hxA, hxb, hxc⟩ := (HL.out.slc.below (Nat.le_refl _) EZ.out).at_ (k := n) (by rw [← HLN.out]; exact hnl)
    have HX := Lib.hid hx
    have X3 := Lib.hid (hxc 3 _ rfl)
    have XL := Lib.hid hxb
    subst hxA
    clear hx hxc hxb HK
    cases b with
    | true =>
     have HK2 : Hid (rightK (stL st) l picks r sh (n + 1) = true) := HKS.out.trans (Bool.true_or _)
     clear HKS
     go_wp2_with fail
     have SS := Lib.hid (show ∀ w', Below wn.heap.size wn w' → (fun w' => Below wn.heap.size wn w') w' from fun w' h => h)
     refine rgB 35 SS (ext_drew (ext_refl _)) (fun Q7 hQ7 hN7 hHeld => ?_)
     refine rgT 0 (some 45) hQ7 hHeld ?_; refine rgT 1 (some 46) hQ7 hHeld ?_; refine rgS 2 (some 47) hQ7 hHeld ?_; refine rgS 3 (some 48) hQ7 hHeld ?_; refine rgS 4 (some 49) hQ7 hHeld ?_; refine rgS 5 (some 50) hQ7 hHeld ?_; refine rgS 6 (some 51) hQ7 hHeld ?_; refine rgS 7 (some 52) hQ7 hHeld ?_; refine rgS 8 (some 53) hQ7 hHeld ?_; refine rgS 9 (some 54) hQ7 hHeld ?_; refine rgS 10 (some 55) hQ7 hHeld ?_
     refine rgS 11 (some 56) hQ7 hHeld ?_; refine rgS 12 (some 57) hQ7 hHeld ?_; refine rgS 13 (some 58) hQ7 hHeld ?_; refine rgS 14 (some 59) hQ7 hHeld ?_; refine rgS 15 (some 60) hQ7 hHeld ?_; refine rgS 16 (some 61) hQ7 hHeld ?_; refine rgS 17 (some 62) hQ7 hHeld ?_; refine rgS 18 (some 63) hQ7 hHeld ?_; refine rgS 19 (some 64) hQ7 hHeld ?_; refine rgS 20 (some 65) hQ7 hHeld ?_; refine rgS 21 (some 66) hQ7 hHeld ?_
     refine rgS 22 (some 67) hQ7 hHeld ?_; refine rgS 23 (some 68) hQ7 hHeld ?_; refine rgS 24 (some 69) hQ7 hHeld ?_; refine rgS 25 (some 70) hQ7 hHeld ?_; refine rgS 26 (some 71) hQ7 hHeld ?_; refine rgS 27 (some 72) hQ7 hHeld ?_; refine rgS 28 (some 73) hQ7 hHeld ?_; refine rgS 29 (some 74) hQ7 hHeld ?_; refine rgS 30 (some 75) hQ7 hHeld ?_; refine rgS 31 (some 76) hQ7 hHeld ?_; refine rgS 32 (some 77) hQ7 hHeld ?_
     refine rgT 33 (some 78) hQ7 hHeld ?_; refine rgT 34 (some 17) hQ7 hHeld ?_
     refine rg_end (by kernel_rfl) (hN7 _ _ ?_) _
     clear hQ7 hN7 Q7
     have BX := hHeld
     clear SS
     have EN2 := Lib.hid (ext_trans EN.out BX)
     clear BX
     go_wp2_with fail
     go_roundw
     case rel => exact ⟨n + 1, true, hnl, by go_num, rfl, HK2, EN2⟩
     case measure => simp [intOf]; (try omega)
    | false =>
     have x3 := X3.out
     have xl := XL.out
     cases hcc : (x.fl.call.toList == r.call.toList) with
     | false =>
      have HK2 : Hid (rightK (stL st) l picks r sh (n + 1) = false) := by
       unfold Hid
       rw [HKS.out, HX.out]
       rw [decide_eq_false (fun e => by
        rw [Option.map_some] at e
        injection e with e
        rw [e] at hcc
        simp at hcc)]
       rfl
      clear HKS
      go_wp2_with fail
      have SS := Lib.hid (show ∀ w', Below wn.heap.size wn w' → (fun w' => Below wn.heap.size wn w' ∧ w'.cell? ⟨xb, xo + n * 14 + 3, none⟩ = some (.string x.fl.call) ∧ w'.cell? ⟨wi.heap.size, 4, none⟩ = some (.string r.call)) w' from fun w' h => ⟨h, (h.cell (p := ⟨xb, xo + n * 14 + 3, none⟩) xl).trans x3, ((RB.out.ext EN.out).ext h).c 4 _ rfl⟩)
      refine rgB 35 SS (ext_drew (ext_refl _)) (fun Q7 hQ7 hN7 hHeld => ?_)
      refine rgT 0 (some 45) hQ7 hHeld ?_; refine rgT 1 (some 46) hQ7 hHeld ?_; refine rgT 2 (some 47) hQ7 hHeld ?_; refine rgT 3 (some 48) hQ7 hHeld ?_; refine rgT 4 (some 49) hQ7 hHeld ?_; refine rgT 5 (some 50) hQ7 hHeld ?_; refine rgT 6 (some 51) hQ7 hHeld ?_; refine rgT 7 (some 52) hQ7 hHeld ?_; refine rgT 8 (some 53) hQ7 hHeld ?_; refine rgT 9 (some 54) hQ7 hHeld ?_; refine rgT 10 (some 55) hQ7 hHeld ?_
      refine rgT 11 (some 56) hQ7 hHeld ?_; refine rgS 12 (some 57) hQ7 hHeld ?_; refine rgS 13 (some 58) hQ7 hHeld ?_; refine rgS 14 (some 59) hQ7 hHeld ?_; refine rgS 15 (some 60) hQ7 hHeld ?_; refine rgS 16 (some 61) hQ7 hHeld ?_; refine rgS 17 (some 62) hQ7 hHeld ?_; refine rgS 18 (some 63) hQ7 hHeld ?_; refine rgS 19 (some 64) hQ7 hHeld ?_; refine rgS 20 (some 65) hQ7 hHeld ?_; refine rgS 21 (some 66) hQ7 hHeld ?_
      refine rgS 22 (some 67) hQ7 hHeld ?_; refine rgS 23 (some 68) hQ7 hHeld ?_; refine rgS 24 (some 69) hQ7 hHeld ?_; refine rgS 25 (some 70) hQ7 hHeld ?_; refine rgS 26 (some 71) hQ7 hHeld ?_; refine rgS 27 (some 72) hQ7 hHeld ?_; refine rgS 28 (some 73) hQ7 hHeld ?_; refine rgS 29 (some 74) hQ7 hHeld ?_; refine rgS 30 (some 75) hQ7 hHeld ?_; refine rgS 31 (some 76) hQ7 hHeld ?_; refine rgT 32 (some 77) hQ7 hHeld ?_
      refine rgT 33 (some 78) hQ7 hHeld ?_; refine rgT 34 (some 17) hQ7 hHeld ?_
      refine rg_end (by kernel_rfl) (hN7 _ _ ?_) _
      clear hQ7 hN7 Q7
      have BX := hHeld.1
      clear SS
      have EN2 := Lib.hid (ext_trans EN.out BX)
      clear BX
      go_wp2_with fail
      go_roundw
      case rel => exact ⟨n + 1, false, hnl, by go_num, rfl, HK2, EN2⟩
      case measure => simp [intOf]; (try omega)
     | true =>
      obtain ⟨z, sb, so, hz, hzA, hzb, hzc⟩ := (HT.out.o.below (Nat.le_refl _) EZ.out).at_ (k := n) (by rw [← HTN.out]; exact hnl)
      obtain ⟨pk, hpk, hpz⟩ := HPK.out n z hz
      obtain ⟨pv, pb, po, hpv, hpA, hpb, hpc⟩ := (HP.out.below (Nat.le_refl _) EZ.out).at_ (k := n) (by rw [← HPN.out]; exact hnl)
      obtain rfl : pv = (pk : Int) := Option.some.inj (hpv.symm.trans hpk)
      obtain ⟨y, tb, tof, hy, hyA, htb, htc⟩ := ((HT.out.r z (List.mem_of_getElem? hz)).below (Nat.le_refl _) EZ.out).at_ (k := pk) hpz
      have hq := HT.out.q z (List.mem_of_getElem? hz) y (List.mem_of_getElem? hy)
      have HYS := Lib.hid hq
      obtain ⟨yl, hyl⟩ : ∃ yl, yl = y.l.length := ⟨_, rfl⟩
      have HYL := Lib.hid hyl
      have s0 : wn.cell? ⟨sb, so + n, none⟩ = some (.slice (some ⟨tb, tof, none⟩) z.l.length z.c) := by have := hzc 0 _ rfl; rw [hyA] at this; simpa using this
      have p0 : wn.cell? ⟨pb, po + n, none⟩ = some (.int .i64 (pk : Int)) := by have := hpc 0 _ rfl; simpa using this
      have t0 : wn.cell? ⟨tb, tof + pk, none⟩ = some (.slice y.A yl y.c) := by have := htc 0 _ rfl; rw [hyl]; simpa using this
      have h0 := (EN.out.cell (p := ⟨hb, ho + k, none⟩) HHB.out).trans H0.out
      have hl : hb < wn.heap.size := Nat.lt_of_lt_of_le HHB.out EN.out.size
      have hpi : (pk : Int) < (z.l.length : Int) := by omega
      have sl := hzb
      have pl := hpb
      have tl := htb
      obtain ⟨e, he⟩ : ∃ e, fliesB y.l r.vol (r.mi + sh) = e := ⟨_, rfl⟩
      have HE1 := Lib.hid he
      have HK2 : Hid (rightK (stL st) l picks r sh (n + 1) = e) := by
       unfold Hid
       rw [HKS.out, HX.out, Option.map_some, Bool.false_or, List.getD_eq_getElem?_getD, hpk, Option.getD_some, show (pk : Int).toNat = pk by omega, staysAt_of hz hy, he]
       rw [decide_eq_true (by
        congr 1
        exact str_inj (beq_iff_eq.1 hcc)), Bool.true_and]
      subst hzA hpA
      clear hz hzb hzc hpk hpz hpv hpb hpc hy hyA htb htc hq hyl he HKS
      go_wp2_with fail
      have SS := Lib.hid (show ∀ w', Below wn.heap.size wn w' → (fun w' => Below wn.heap.size wn w' ∧ w'.cell? ⟨xb, xo + n * 14 + 3, none⟩ = some (.string x.fl.call) ∧ w'.cell? ⟨wi.heap.size, 4, none⟩ = some (.string r.call) ∧ w'.cell? ⟨wi.heap.size, 5, none⟩ = some (.int .i64 r.vol) ∧ w'.cell? ⟨wi.heap.size, 2, none⟩ = some (.int .i64 r.mi) ∧ w'.cell? ⟨sb, so + n, none⟩ = some (.slice (some ⟨tb, tof, none⟩) z.l.length z.c) ∧ w'.cell? ⟨pb, po + n, none⟩ = some (.int .i64 (pk : Int)) ∧ w'.cell? ⟨tb, tof + pk, none⟩ = some (.slice y.A yl y.c) ∧ w'.cell? ⟨hb, ho + k, none⟩ = some (.int .i64 sh)) w' from fun w' h => ⟨h, (h.cell (p := ⟨xb, xo + n * 14 + 3, none⟩) xl).trans x3, ((RB.out.ext EN.out).ext h).c 4 _ rfl, ((RB.out.ext EN.out).ext h).c 5 _ rfl, ((RB.out.ext EN.out).ext h).c 2 _ rfl, (h.cell (p := ⟨sb, so + n, none⟩) sl).trans s0, (h.cell (p := ⟨pb, po + n, none⟩) pl).trans p0, (h.cell (p := ⟨tb, tof + pk, none⟩) tl).trans t0, (h.cell (p := ⟨hb, ho + k, none⟩) hl).trans h0⟩)
      refine rgB 35 SS (ext_drew (ext_refl _)) (fun Q7 hQ7 hN7 hHeld => ?_)
      refine rgT 0 (some 45) hQ7 hHeld ?_; refine rgT 1 (some 46) hQ7 hHeld ?_; refine rgT 2 (some 47) hQ7 hHeld ?_; refine rgT 3 (some 48) hQ7 hHeld ?_; refine rgT 4 (some 49) hQ7 hHeld ?_; refine rgT 5 (some 50) hQ7 hHeld ?_; refine rgT 6 (some 51) hQ7 hHeld ?_; refine rgT 7 (some 52) hQ7 hHeld ?_; refine rgT 8 (some 53) hQ7 hHeld ?_; refine rgT 9 (some 54) hQ7 hHeld ?_; refine rgT 10 (some 55) hQ7 hHeld ?_
      refine rgT 11 (some 56) hQ7 hHeld ?_; refine rgT 12 (some 57) hQ7 hHeld ?_; refine rgT 13 (some 58) hQ7 hHeld ?_; refine rgT 14 (some 59) hQ7 hHeld ?_; refine rgT 15 (some 60) hQ7 hHeld ?_; refine rgT 16 (some 61) hQ7 hHeld ?_; refine rgT 17 (some 62) hQ7 hHeld ?_; refine rgT 18 (some 63) hQ7 hHeld ?_; refine rgT 19 (some 64) hQ7 hHeld ?_; refine rgT 20 (some 65) hQ7 hHeld ?_; refine rgT 21 (some 66) hQ7 hHeld ?_
      refine rgT 22 (some 67) hQ7 hHeld ?_; refine rgT 23 (some 68) hQ7 hHeld ?_; refine rgT 24 (some 69) hQ7 hHeld ?_; refine rgT 25 (some 70) hQ7 hHeld ?_; refine rgT 26 (some 71) hQ7 hHeld ?_; refine rgT 27 (some 72) hQ7 hHeld ?_; refine rgT 28 (some 73) hQ7 hHeld ?_; refine rgT 29 (some 74) hQ7 hHeld ?_; refine rgT 30 (some 75) hQ7 hHeld ?_
      refine rg_one (i := 31) (by kernel_rfl) (rg_step rfl (by rfl) (fun K hK => ?_))
      go_simp
      refine (rin_at e HE1.out HYL.out ((HYS.out.1.below (Nat.le_refl _) (ext_trans EZ.out hHeld.1))) HYS.out.2).mono ?_
      rintro e1 u1 ⟨rfl, B1⟩
      go_wp2_with fail
      refine hK.out _ _ ?_ (fun hHeld2 => ?_)
      ·exact SS.out _ (ext_trans hHeld.1 B1)
      clear hHeld
      have hHeld := hHeld2
      clear hHeld2
      clear hK K
      try simp only [Act.put, List.setIfInBounds_toArray, List.set_cons_zero, List.set_cons_succ]
      refine rgT 32 (some 77) hQ7 hHeld ?_; refine rgT 33 (some 78) hQ7 hHeld ?_; refine rgT 34 (some 17) hQ7 hHeld ?_
      refine rg_end (by kernel_rfl) (hN7 _ _ ?_) _
      clear hQ7 hN7 Q7
      have BX := hHeld.1
      clear SS
      have EN2 := Lib.hid (ext_trans EN.out BX)
      clear BX
      clear s0 p0 t0 h0 hl sl pl tl hpi
      go_wp2_with fail
      go_roundw
      case rel => exact ⟨n + 1, e, hnl, by go_num, rfl, HK2, EN2⟩
      case measure => simp [intOf]; (try omega)
end Go.Proofs.YtjiojpoiocdnmaaGreat
