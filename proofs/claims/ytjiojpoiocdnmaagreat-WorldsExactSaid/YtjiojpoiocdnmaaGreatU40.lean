/- Law 7: a path is possible exactly if it belongs to a world. -/
import Derived.Test.YtjiojpoiocdnmaaGreatU39
import Derived.Deep.CutBlock
import Derived.Test.YtjiojpoiocdnmaaGreatU15
set_option linter.unusedSimpArgs false
set_option linter.unusedVariables false
namespace Go.Proofs.YtjiojpoiocdnmaaGreat
open Go.RowKit Go.Shelf Go.ChangeMaps
/-- A map of pairs that holds T. -/
structure MSpec (T : Nat → Nat → Prop) (M : List (P2 × Value)) : Prop where
  t : ∀ p ∈ M, p.2 = .bool true
  k : ∀ n q : Nat, (⟨(n : Int), (q : Int)⟩ : P2) ∈ M.map (·.1) ↔ T n q
theorem MSpec.nil {T : Nat → Nat → Prop} (h : ∀ n q, ¬ T n q) : MSpec T [] := ⟨by simp, fun n q => by simp [h n q]⟩
theorem MSpec.congr {T T' : Nat → Nat → Prop} {M : List (P2 × Value)} (h : MSpec T M) (e : ∀ n q, T n q ↔ T' n q) : MSpec T' M := ⟨h.t, fun n q => (h.k n q).trans (e n q)⟩
theorem MSpec.put {T : Nat → Nat → Prop} {M : List (P2 × Value)} (h : MSpec T M) (hn : (M.map (·.1)).Nodup) (i d : Nat) : MSpec (fun n q => T n q ∨ (n = i ∧ q = d)) (Go.Proofs.YtjiojpoiocdnmaaGreat.put M ⟨(i : Int), (d : Int)⟩ (.bool true)) := by
  refine ⟨fun p hp => ?_, fun n q => ?_⟩
  · rcases (mem_put hn).1 hp with rfl | ⟨h1, _⟩
    · rfl
    · exact h.t p h1
  · rw [put_keys]
    have e : (⟨(n : Int), (q : Int)⟩ : P2) = ⟨(i : Int), (d : Int)⟩ ↔ n = i ∧ q = d := by
      rw [P2.mk.injEq]; omega
    rw [← h.k n q, ← e]
    split
    · rename_i h1
      exact ⟨.inl, fun x => x.elim id (fun x => x ▸ h1)⟩
    · rw [List.mem_append, List.mem_singleton]
theorem zv4 (w : World) : (zeroValue 4).run Tryz.prog w = .ok (.bool false) w := by kernel_rfl
theorem look61 {T : Nat → Nat → Prop} {M : List (P2 × Value)} {w : World} {b : Nat} (h : GMap P2.v w b M) (hs : MSpec T M) (n q : Nat) (r : Bool) (hr : T n q ↔ r = true) :
    (Instr.lookup 61 (.map (some b)) (.agg #[.int .i64 (n : Int), .int .i64 (q : Int)]) false).run Tryz.prog w = .ok (.bool r) w := by
  have hl := h.look key62 Tryz.underlying61 (zv4 w) ⟨(n : Int), (q : Int)⟩ false trivial (fun _ _ => trivial)
  have e : (asc M ⟨(n : Int), (q : Int)⟩).getD (.bool false) = .bool r := by
    cases r with
    | false =>
      rw [asc_none (fun hm => by have := hr.1 ((hs.k n q).1 hm); cases this)]; rfl
    | true =>
      obtain ⟨p, hp, hpe⟩ := List.mem_map.1 ((hs.k n q).2 (hr.2 rfl))
      rw [← hpe, asc_some h.nd_ hp, hs.t p hp]; rfl
  rw [e] at hl
  exact hl
theorem own_raise {W : World} {base g n c : Nat} {x : List Int} (h : Own W 0 3 ic 1 (.slice (some ⟨g, 0, none⟩) n c) x) (hg : base ≤ g) : Own W base 3 ic 1 (.slice (some ⟨g, 0, none⟩) n c) x := by
  refine ⟨h.1, ?_⟩
  rcases h.2 with ⟨hv, _⟩ | ⟨g', cap, cur, hv, _, rest⟩
  · cases hv
  · injection hv with e1 e2 e3
    injection e1 with e1
    injection e1 with e1 _ _
    exact .inr ⟨g', cap, cur, by rw [e1, e2, e3], by omega, rest⟩
theorem wErr_ok {t : Tab} {s : List Stn} {R : List Rep} {l : List Trk} {p : List Int} (h : pickOk l p) : worldErr t s R l p = askE t s R l := by
  unfold worldErr
  by_cases e : askE t s R l = 0
  · rw [if_neg (by rw [e]; simp), picksB_iff.2 h, e]; rfl
  · rw [if_pos e]
theorem wVal_ok {t : Tab} {s : List Stn} {R : List Rep} {l : List Trk} {p : List Int} (h : pickOk l p) (e : askE t s R l = 0) : worldV t s R l p = worldP t s R l p := by
  unfold worldV
  rw [wErr_ok h, if_pos e]
theorem possV_len {t : Tab} {s : List Stn} {R : List Rep} {l : List Trk} {L : List (List Bool)} {E : Int} {n : Nat} (hE : possErr t s R l = E) (hL : possV t s R l = L) (hn : L.length = n) : (E = 0 → n = l.length) ∧ (¬ E = 0 → n = 0) := by
  subst hn
  refine ⟨fun h => ?_, fun h => ?_⟩
  · rw [← hL, possV0 (hE.trans h), possL_len]
  · rw [← hL]; unfold possV; rw [if_neg (by rw [hE]; exact h)]; rfl
theorem perr_askE {t : Tab} {s : List Stn} {R : List Rep} {l : List Trk} (h : ¬ askE t s R l = 0) : possErr t s R l = askE t s R l := by unfold possErr; rw [if_pos h]
theorem perr_fnd {t : Tab} {s : List Stn} {R : List Rep} {l : List Trk} (h : askE t s R l = 0) (hm : manyB l = false) : possErr t s R l = if foundB t s R l then 0 else 240 := by unfold possErr; rw [if_neg (by rw [h]; simp), hm]; rfl
theorem askE_chk {t : Tab} {s : List Stn} {R : List Rep} {l : List Trk} (h : ¬ wchkE t l = 0) : possErr t s R l ≠ 0 := by
  have e : askE t s R l = wchkE t l := by unfold askE; rw [if_pos h]
  rw [perr_askE (by rw [e]; exact h), e]; exact h
set_option maxRecDepth 100000 in
set_option maxHeartbeats 64000000 in
theorem law7 (t : Tab) (SA : Option Addr) (sc : Nat) (s : List Stn) (RA : Option Addr) (rc : Nat) (R : List Rep) (LA : Option Addr) (lc : Nat) (l : List Trk) (w : World) (ht : Tab.ok w t) (hs : StnS w SA sc s) (hR : SliceOf.ok Rep.cells 6 Rep.ok w ⟨RA, rc, R⟩) (hl : TrkS w LA lc l) :
    Calls Tryz.prog 7 #[t.v, .slice SA s.length sc, .slice RA R.length rc, .slice LA l.length lc] w (Tru w) := by
  obtain ⟨rn, hrn⟩ : ∃ rn, R.length = rn := ⟨_, rfl⟩
  obtain ⟨sn, hsn⟩ : ∃ sn, s.length = sn := ⟨_, rfl⟩
  obtain ⟨ln, hln⟩ : ∃ ln, l.length = ln := ⟨_, rfl⟩
  have HRN := Lib.hid hrn
  have HSN := Lib.hid hsn
  have HLN := Lib.hid hln
  have hrc : rn ≤ rc := by rw [← hrn]; exact hR.2.1
  have hrm : rc ≤ 2 ^ 63 - 1 := hR.2.2.1
  rw [hrn, hsn, hln]
  clear hrn hsn hln
  have HT := Lib.hid ht
  have HS := Lib.hid hs
  have HR := Lib.hid hR
  have HL := Lib.hid hl
  obtain ⟨W0, hW0⟩ : ∃ W0, w.alloc (.cells #[.int .i64 t.n, .slice t.ss.A t.ss.l.length t.ss.c, .slice t.cs.A t.cs.l.length t.cs.c, .slice t.ws.A t.ws.l.length t.ws.c, .slice t.ms.A t.ms.l.length t.ms.c, .slice t.ks.A t.ks.l.length t.ks.c] 28) = W0 := ⟨_, rfl⟩
  have E0 : Hid (Below w.heap.size w W0) := by rw [← hW0]; exact ext_alloc (ext_refl w) _
  have T0 : Hid (Blk W0 w.heap.size t.cells) := by rw [← hW0]; exact Blk.newH w t.cells 28 w.heap.size rfl
  clear ht hs hR hl
  go_enter Tryz.func7, Tryz.ntmps7
  go_wp2_with fail
  refine (sane_any W0).mono ?_
  rintro e w1 ⟨rfl, B⟩
  have E1 := Lib.hid (ext_trans E0.out B)
  have T1 := Lib.hid (T0.out.ext B)
  clear hW0 B E0 T0
  have b0 := T1.out.c 0 _ rfl
  have b1 := T1.out.c 1 _ rfl
  have b2 := T1.out.c 2 _ rfl
  have b3 := T1.out.c 3 _ rfl
  have b4 := T1.out.c 4 _ rfl
  have b5 := T1.out.c 5 _ rfl
  have b6 := T1.out.lt
  go_wp2_with fail
  clear b0 b1 b2 b3 b4 b5 b6
  refine (light_at (s := s) (R := R) (l := l) 200 200 rfl (by decide) (by decide) HSN.out.symm HRN.out.symm HLN.out.symm (by unfold maxLen; omega) (HT.out.ext E1.out) (HS.out.ext E1.out) (HL.out.ext E1.out)).mono ?_
  rintro e w2 ⟨r, rfl, hLP, B⟩
  have E2 := Lib.hid (ext_trans E1.out B)
  have T2 := Lib.hid (T1.out.ext B)
  clear B E1 T1
  cases r
  · go_wp2_with fail
    go_ret
    exact ⟨rfl, E2.out⟩
  have HLP := Lib.hid (hLP rfl)
  clear hLP
  have hrn : rn ≤ 10 := by rw [← HRN.out]; exact HLP.out.hr
  have hsn : sn ≤ 6 := by rw [← HSN.out]; exact HLP.out.hs
  have hln : ln ≤ 5 := by rw [← HLN.out]; exact HLP.out.hl
  have HMF := Lib.hid (few_many (Nat.le_trans HLP.out.hp (by decide)))
  obtain ⟨EE, hE⟩ : ∃ EE, possErr t s R l = EE := ⟨_, rfl⟩
  obtain ⟨L, hL⟩ : ∃ L, possV t s R l = L := ⟨_, rfl⟩
  obtain ⟨n1, hn1⟩ : ∃ n1, L.length = n1 := ⟨_, rfl⟩
  have HE := Lib.hid hE
  have HLL := Lib.hid hL
  have HN1 := Lib.hid hn1
  have HNN := Lib.hid (possV_len hE hL hn1)
  clear hE hL hn1
  have b0 := T2.out.c 0 _ rfl
  have b1 := T2.out.c 1 _ rfl
  have b2 := T2.out.c 2 _ rfl
  have b3 := T2.out.c 3 _ rfl
  have b4 := T2.out.c 4 _ rfl
  have b5 := T2.out.c 5 _ rfl
  have b6 := T2.out.lt
  go_wp2_with fail
  clear b0 b1 b2 b3 b4 b5 b6
  refine (poss_lit EE n1 L HE.out HLL.out HN1.out HSN.out.symm HRN.out.symm HLN.out.symm (HT.out.ext E2.out) (HS.out.ext E2.out) (HR.out.slc.ext E2.out) (HL.out.ext E2.out) (by rw [HSN.out]; omega) (by rw [HRN.out]; omega) (by rw [HLN.out]; omega)).mono ?_
  rintro e w3 ⟨A1, c1, rfl, hP1, B⟩
  have E3 := Lib.hid (ext_trans E2.out B)
  have T3 := Lib.hid (T2.out.ext B)
  have P3 := Lib.hid hP1.ra
  clear B E2 T2 hP1
  obtain ⟨V, hV⟩ : ∃ V, wchkE t l = V := ⟨_, rfl⟩
  have HV := Lib.hid hV
  clear hV
  rcases Classical.em (EE = 0) with he | he
  case' inl =>
    have he0 : ((EE : Int) == 0) = true := by rw [beq_iff_eq]; exact he
    have he1 : ((EE : Int) != 0) = false := by rw [bne, he0]; rfl
    have hn0 : ((n1 : Int) != (ln : Int)) = false := by rw [HNN.out.1 he, HLN.out]; simp
  case' inr =>
    have he0 : ((EE : Int) == 0) = false := by rw [beq_eq_false_iff_ne]; exact he
    have he1 : ((EE : Int) != 0) = true := by rw [bne, he0]; rfl
    have hn0 : ((n1 : Int) != 0) = false := by rw [HNN.out.2 he]; simp
  all_goals
    have HEZ := Lib.hid he
    clear he
    have b0 := T3.out.c 0 _ rfl
    have b1 := T3.out.c 1 _ rfl
    have b2 := T3.out.c 2 _ rfl
    have b3 := T3.out.c 3 _ rfl
    have b4 := T3.out.c 4 _ rfl
    have b5 := T3.out.c 5 _ rfl
    have b6 := T3.out.lt
    go_wp2_with fail
    clear b0 b1 b2 b3 b4 b5 b6
    refine (wchk_at V HV.out HLN.out.symm (HT.out.ext E3.out) (HL.out.ext E3.out)).mono ?_
    rintro e w4 ⟨rfl, B⟩
    have E4 := Lib.hid (ext_trans E3.out B)
    have T4 := Lib.hid (T3.out.ext B)
    have P4 := Lib.hid (P3.out.ext B)
    clear B E3 T3 P3 hn0
    by_cases hv : V = 0
    rotate_left
    · have hne : ¬ EE = 0 := by rw [← HE.out]; exact askE_chk (by rw [HV.out]; exact hv)
      have hne1 : ((EE : Int) != 0) = true := by rw [bne_iff_ne]; exact hne
      have hv0 : ((V : Int) == 0) = false := by rw [beq_eq_false_iff_ne]; exact hv
      have hv1 : ((V : Int) != 0) = true := by rw [bne, hv0]; rfl
      first
        | exact absurd HEZ.out hne
        | (clear hne hv
           go_wp2_with fail
           go_ret
           exact ⟨rfl, E4.out⟩)
    subst hv
    have HCK := Lib.hid (wchk_ok HV.out)
    have HPS : Hid (∀ y ∈ l, 1 ≤ y.ps.l.length ∧ y.ps.l.length ≤ 4096) := fun y hy => by
      have h := HCK.out.2.2 y hy
      simp only [trkB, Bool.and_eq_true, decide_eq_true_eq] at h
      exact ⟨h.1.1.2, h.1.2⟩
    have HPOS : Hid (∀ m ∈ msT l, 0 < m) := fun m hm => by
      obtain ⟨y, hy, rfl⟩ := List.mem_map.1 hm
      exact (HPS.out y hy).1
    have hmk := fun w : World => mk39 ln (by omega) w
    have hmm := mk61
    have HO0 : Hid (Own ((w4.alloc (.cells (Array.replicate ln (.int .i64 0)) 3)).alloc (.map #[] 0)) w4.heap.size 3 ic 1 (.slice (some ⟨w4.heap.size, 0, none⟩) ln ln) (nums (digs (msT l) 0))) := by
      rw [digs_zero, show (msT l).length = ln by rw [← HLN.out]; simp [msT]]
      exact (own_raise (own_z0 ln w4 (by omega)) (Nat.le_refl _)).alloc _
    have HM0 : Hid (GMap P2.v ((w4.alloc (.cells (Array.replicate ln (.int .i64 0)) 3)).alloc (.map #[] 0)) (w4.heap.size + 1) []) := by
      have q := GMap.made (enc := P2.v) (w4.alloc (.cells (Array.replicate ln (.int .i64 0)) 3))
      simp only [World.size_alloc] at q; exact q
    have EB0 : Hid (Below w4.heap.size w4 ((w4.alloc (.cells (Array.replicate ln (.int .i64 0)) 3)).alloc (.map #[] 0))) := ext_alloc (ext_alloc (ext_refl w4) _) _
    go_upto_block 0 with fail
    clear hmk hmm
    go_cut [13, 14, 15, 16] from 63 to 100 (fun fd ok f i wc => ∃ (fb : Bool) (M : List (P2 × Value)), fd = .bool fb ∧ Hid (foundB t s R l = fb) ∧ Hid (GMap P2.v wc (w4.heap.size + 1) M) ∧ Hid (MSpec (fun n k => possB t s R l n k = true) M) ∧ Hid (Below w4.heap.size w4 wc) ∧ Hid (askE t s R l = 0))
    case first =>
      go_wp2_with fail
      go_loopw [13] (fun fd wr => ∃ (j : Nat) (fb : Bool) (M : List (P2 × Value)), fd = .bool fb ∧ Hid (j < cnt (msT l)) ∧ Hid (fndJ t s R l j = fb) ∧ Hid (Own wr w4.heap.size 3 ic 1 (.slice (some ⟨w4.heap.size, 0, none⟩) ln ln) (nums (digs (msT l) j))) ∧ Hid (GMap P2.v wr (w4.heap.size + 1) M) ∧ Hid (MSpec (TJ t s R l j) M) ∧ Hid (Below w4.heap.size w4 wr)) (fun _ wr => leftP (msT l) ln (.slice (some ⟨w4.heap.size, 0, none⟩) ln ln) (.bool true) wr)
      case atStart => exact ⟨0, false, [], rfl, cnt_pos _ HPOS.out, rfl, HO0.out, HM0.out, MSpec.nil (fun n q ⟨i, h, _⟩ => by omega), EB0.out⟩
      case round =>
        clear HO0 HM0 EB0
        obtain ⟨j, fb, M, rfl, HJL, HFB, HO, HM, HMS, EB⟩ := hrel
        obtain ⟨wq, rfl⟩ : ∃ wq, wq = wr := ⟨_, rfl⟩
        have EQ := Lib.hid (ext_trans E4.out EB.out)
        have HMEAS := Lib.hid (leftP_yes HJL.out HO.out)
        have HCH := Lib.hid (digs_choice (msT l) j HJL.out)
        have hdl := own_num HO.out
        obtain ⟨ds, hds⟩ : ∃ ds, digs (msT l) j = ds := ⟨_, rfl⟩
        have HDS := Lib.hid hds
        rw [hds] at HO HCH hdl
        have HDL := Lib.hid hdl
        have HPK := Lib.hid (choice_ok HCH.out)
        obtain ⟨QA, hqa⟩ : ∃ E, askE t s R l = E := ⟨_, rfl⟩
        have HQA := Lib.hid hqa
        obtain ⟨wv, hwv⟩ : ∃ b, worldV t s R l (nums ds) = b := ⟨_, rfl⟩
        have HWV := Lib.hid hwv
        clear hdl hds hqa hwv
        have b0 := (T4.out.ext EB.out).c 0 _ rfl
        have b1 := (T4.out.ext EB.out).c 1 _ rfl
        have b2 := (T4.out.ext EB.out).c 2 _ rfl
        have b3 := (T4.out.ext EB.out).c 3 _ rfl
        have b4 := (T4.out.ext EB.out).c 4 _ rfl
        have b5 := (T4.out.ext EB.out).c 5 _ rfl
        have b6 := (T4.out.ext EB.out).lt
        go_wp2_with fail
        clear b0 b1 b2 b3 b4 b5 b6
        refine (world_lit QA wv ((wErr_ok HPK.out).trans HQA.out) HWV.out HSN.out.symm HRN.out.symm HLN.out.symm (by rw [nums, List.length_map, HDL.out]) (HT.out.ext EQ.out) (HS.out.ext EQ.out) (HR.out.slc.ext EQ.out) (HL.out.ext EQ.out) (own_ints HO.out) (by rw [nums, List.length_map, HDL.out]; unfold maxLen; omega) (by rw [HSN.out]; omega) (by rw [HRN.out]; omega) (by rw [HLN.out]; omega)).mono ?_
        rintro e w6 ⟨rfl, B6⟩
        have EB6 := Lib.hid (ext_trans EB.out B6)
        have EQ6 := Lib.hid (ext_trans EQ.out B6)
        have HO6 := Lib.hid (HO.out.ext B6)
        have HM6 := Lib.hid (HM.out.ext B6)
        clear B6 EB EQ HO HM
        by_cases hq : QA = 0
        rotate_left
        · have hee : EE = QA := by rw [← HE.out, ← HQA.out]; exact perr_askE (by rw [HQA.out]; exact hq)
          have hee1 : ((EE : Int) == (QA : Int)) = true := by rw [beq_iff_eq]; exact hee
          have hq0 : ((QA : Int) == 0) = false := by rw [beq_eq_false_iff_ne]; exact hq
          have hq1 : ((QA : Int) != 0) = true := by rw [bne, hq0]; rfl
          clear hee hq
          go_wp2_with fail
          go_ret
          exact ⟨rfl, EQ6.out⟩
        subst hq
        have HWB : Hid (worldP t s R l (nums ds) = wv) := by rw [← HWV.out]; exact (wVal_ok HPK.out HQA.out).symm
        have HFZ : Hid (fndJ t s R l (j + 1) = (fb || wv)) := by unfold Hid; rw [fnd_succ, HFB.out, HDS.out, HWB.out]
        clear HWV
        cases wv with
        | false =>
          have HMZ : Hid (MSpec (TJ t s R l (j + 1)) M) := HMS.out.congr (fun n q => tj_no (by rw [HDS.out]; exact HWB.out) n q)
          rw [Bool.or_false] at HFZ
          clear HMS HFB
          cases fb
          all_goals
            go_wp2_with fail
            go_loopw [16] (fun i wr => i = .int .i64 0 ∧ wr = w6) (fun _ _ => 0)
            case atStart => exact ⟨rfl, rfl⟩
            case round =>
              obtain ⟨rfl, rfl⟩ := hrel
              rcases Nat.eq_zero_or_pos ln with hl0 | hl0
              case' inl => have hin : ¬ (0 : Int) < (ln : Int) := by omega
              case' inr => have hin : (0 : Int) < (ln : Int) := by omega
              all_goals
                clear hl0
                go_wp2_with fail
                refine (next19 (w0 := w) (ext_trans E4.out EB6.out) E4.out.size HLN.out.symm HCH.out HL.out HO6.out (by omega) (fun y hy => (HPS.out y hy).2)).mono ?_
                rintro e w7 ⟨ds7, b7, rfl, hO9, hy7, hn7, hg7⟩
                have hid := inc_digs (msT l) j HPOS.out HJL.out
                rw [HDS.out] at hid
                have EB9 : Hid (Below w4.heap.size w4 w7) := EB6.out.grown hg7 EB6.out.size (fun k e => by have h1 : w4.heap.size = k := Option.some.inj e; omega)
                have HM9 : Hid (GMap P2.v w7 (w4.heap.size + 1) M) := GMap.far HM6.out hg7 (fun e => by have h1 : w4.heap.size + 1 = w4.heap.size := Option.some.inj e; omega)
                have HO9 := Lib.hid hO9
                have HY7 := Lib.hid hy7
                have HN7 := Lib.hid hn7
                have HID := Lib.hid hid
                clear hO9 hy7 hn7 hid hg7 HM6 HO6 EB6
                cases b7 with
                | true =>
                  have HT7 : Hid (j + 1 < cnt (msT l) ∧ ds7 = digs (msT l) (j + 1)) := by
                    have e := HY7.out rfl
                    rw [HID.out] at e
                    by_cases h : j + 1 < cnt (msT l)
                    · rw [if_pos h] at e
                      cases e
                      exact ⟨h, rfl⟩
                    · rw [if_neg h] at e; cases e
                  have HO8 : Hid (Own w7 w4.heap.size 3 ic 1 (.slice (some ⟨w4.heap.size, 0, none⟩) ln ln) (nums (digs (msT l) (j + 1)))) := by have h := HO9.out; rw [HT7.out.2] at h; exact h
                  clear HY7 HN7 HID HO9
                  go_wp2_with fail
                  go_roundw
                  case rel => exact ⟨j + 1, _, M, rfl, HT7.out.1, HFZ, HO8, HM9, HMZ, EB9⟩
                  case measure =>
                    rw [leftP_yes HT7.out.1 HO8.out, HMEAS.out]
                    have := HT7.out.1
                    omega
                | false =>
                  have HT7 : Hid (j + 1 = cnt (msT l)) := by
                    have e := HN7.out rfl
                    rw [HID.out] at e
                    have := HJL.out
                    by_cases h : j + 1 < cnt (msT l)
                    · rw [if_pos h] at e; cases e
                    · unfold Hid; omega
                  have HFF := Lib.hid ((fnd_all t s R l).symm.trans ((congrArg (fndJ t s R l) HT7.out).symm.trans HFZ.out))
                  have HMF2 : Hid (MSpec (fun n k => possB t s R l n k = true) M) := HMZ.out.congr (fun n q => by rw [HT7.out]; exact tj_all t s R l n q)
                  clear HY7 HN7 HID HO9
                  go_wp2_with fail
                  go_meet
                  exact ⟨_, M, rfl, HFF, HM9, HMF2, EB9, HQA⟩
        | true =>
          rw [Bool.or_true] at HFZ
          have HMS0 : Hid (MSpec (fun n q => TJ t s R l j n q ∨ (n < 0 ∧ ds[n]? = some q)) M) := HMS.out.congr (fun n q => ⟨.inl, fun h => h.elim id (fun h => by omega)⟩)
          clear HMS HFB
          cases fb
          all_goals
            go_wp2_with fail
            go_loopw [16] (fun i wr => ∃ (i' : Nat) (M2 : List (P2 × Value)), i' ≤ ln ∧ i = .int .i64 i' ∧ Hid (GMap P2.v wr (w4.heap.size + 1) M2) ∧ Hid (MSpec (fun n q => TJ t s R l j n q ∨ (n < i' ∧ ds[n]? = some q)) M2) ∧ Hid (Own wr w4.heap.size 3 ic 1 (.slice (some ⟨w4.heap.size, 0, none⟩) ln ln) (nums ds)) ∧ Hid (Below w4.heap.size w4 wr)) (fun i _ => ln - (intOf i).toNat)
            case atStart => exact ⟨0, M, Nat.zero_le _, rfl, HM6.out, HMS0.out, HO6.out, EB6.out⟩
            case round =>
              clear HM6 HMS0 HO6 EB6 EQ6
              obtain ⟨i, M2, hi, rfl, HM7, HMS7, HO7, EB7⟩ := hrel
              obtain ⟨wi, rfl⟩ : ∃ wi, wi = wr := ⟨_, rfl⟩
              by_cases hil : i < ln
              rotate_left
              · obtain rfl : i = ln := by omega
                have hin : ¬ (i : Int) < (i : Int) := by omega
                have HMZ : Hid (MSpec (TJ t s R l (j + 1)) M2) := HMS7.out.congr (fun n q => by
                  rw [← tj_yes (by rw [HDS.out]; exact HWB.out) n q, HDS.out]
                  exact ⟨fun h => h.elim .inl (fun h => .inr h.2), fun h => h.elim .inl (fun h => .inr ⟨by have := (List.getElem?_eq_some_iff.1 h).1; rw [HDL.out] at this; exact this, h⟩)⟩)
                clear HMS7
                go_wp2_with fail
                refine (next19 (w0 := w) (ext_trans E4.out EB7.out) E4.out.size HLN.out.symm HCH.out HL.out HO7.out (by omega) (fun y hy => (HPS.out y hy).2)).mono ?_
                rintro e w7 ⟨ds7, b7, rfl, hO9, hy7, hn7, hg7⟩
                have hid := inc_digs (msT l) j HPOS.out HJL.out
                rw [HDS.out] at hid
                have EB9 : Hid (Below w4.heap.size w4 w7) := EB7.out.grown hg7 EB7.out.size (fun k e => by have h1 : w4.heap.size = k := Option.some.inj e; omega)
                have HM9 : Hid (GMap P2.v w7 (w4.heap.size + 1) M2) := GMap.far HM7.out hg7 (fun e => by have h1 : w4.heap.size + 1 = w4.heap.size := Option.some.inj e; omega)
                have HO9 := Lib.hid hO9
                have HY7 := Lib.hid hy7
                have HN7 := Lib.hid hn7
                have HID := Lib.hid hid
                clear hO9 hy7 hn7 hid hg7 HM7 HO7 EB7
                cases b7 with
                | true =>
                  have HT7 : Hid (j + 1 < cnt (msT l) ∧ ds7 = digs (msT l) (j + 1)) := by
                    have e := HY7.out rfl
                    rw [HID.out] at e
                    by_cases h : j + 1 < cnt (msT l)
                    · rw [if_pos h] at e
                      cases e
                      exact ⟨h, rfl⟩
                    · rw [if_neg h] at e; cases e
                  have HO8 : Hid (Own w7 w4.heap.size 3 ic 1 (.slice (some ⟨w4.heap.size, 0, none⟩) i i) (nums (digs (msT l) (j + 1)))) := by have h := HO9.out; rw [HT7.out.2] at h; exact h
                  clear HY7 HN7 HID HO9
                  go_wp2_with fail
                  go_roundw
                  case rel => exact ⟨j + 1, _, M2, rfl, HT7.out.1, HFZ, HO8, HM9, HMZ, EB9⟩
                  case measure =>
                    rw [leftP_yes HT7.out.1 HO8.out, HMEAS.out]
                    have := HT7.out.1
                    omega
                | false =>
                  have HT7 : Hid (j + 1 = cnt (msT l)) := by
                    have e := HN7.out rfl
                    rw [HID.out] at e
                    have := HJL.out
                    by_cases h : j + 1 < cnt (msT l)
                    · rw [if_pos h] at e; cases e
                    · unfold Hid; omega
                  have HFF := Lib.hid ((fnd_all t s R l).symm.trans ((congrArg (fndJ t s R l) HT7.out).symm.trans HFZ.out))
                  have HMF2 : Hid (MSpec (fun n k => possB t s R l n k = true) M2) := HMZ.out.congr (fun n q => by rw [HT7.out]; exact tj_all t s R l n q)
                  clear HY7 HN7 HID HO9
                  go_wp2_with fail
                  go_meet
                  exact ⟨_, M2, rfl, HFF, HM9, HMF2, EB9, HQA⟩
              have hii : (i : Int) < (ln : Int) := by omega
              obtain ⟨d, hd⟩ : ∃ d, ds[i]? = some d := ⟨_, List.getElem?_eq_getElem (by rw [HDL.out]; exact hil)⟩
              have g8 := (own_getC HO7.out hd).1
              have gl := (own_getC HO7.out hd).2
              obtain ⟨o, hput, hM', ho⟩ := HM7.out.upd key62 Tryz.underlying61 ⟨(i : Int), (d : Int)⟩ (.bool true) trivial (fun _ _ => trivial)
              have hput' : (Instr.mapUpdate 61 (.map (some (w4.heap.size + 1))) (.agg #[.int .i64 (i : Int), .int .i64 (d : Int)]) (.bool true)).run Tryz.prog wi = .ok () (setBlock wi (w4.heap.size + 1) o) := hput
              have HM8 := Lib.hid hM'
              have HMS8 : Hid (MSpec (fun n q => TJ t s R l j n q ∨ (n < i + 1 ∧ ds[n]? = some q)) (put M2 ⟨(i : Int), (d : Int)⟩ (.bool true))) := (HMS7.out.put HM7.out.nd_ i d).congr (fun n q => by
                constructor
                · rintro ((h | h) | ⟨rfl, rfl⟩)
                  · exact .inl h
                  · exact .inr ⟨by omega, h.2⟩
                  · exact .inr ⟨by omega, hd⟩
                · rintro (h | ⟨h1, h2⟩)
                  · exact .inl (.inl h)
                  · by_cases e : n = i
                    · subst e
                      rw [hd] at h2
                      cases h2
                      exact .inr ⟨rfl, rfl⟩
                    · exact .inl (.inr ⟨by omega, h2⟩))
              have HO8 : Hid (Own (setBlock wi (w4.heap.size + 1) o) w4.heap.size 3 ic 1 (.slice (some ⟨w4.heap.size, 0, none⟩) ln ln) (nums ds)) := Own.far HO7.out (sb_grown _ _ _) (fun k e q => by
                have h1 : w4.heap.size = k := Option.some.inj e
                have h2 : w4.heap.size + 1 = k := Option.some.inj q
                omega)
              have EB8 : Hid (Below w4.heap.size w4 (setBlock wi (w4.heap.size + 1) o)) := below_sb EB7.out _ _ (by omega)
              clear hd hput hM' ho HM7 HMS7 HO7 EB7
              go_wp2_with fail
              go_roundw
              case rel => exact ⟨i + 1, _, hil, by go_num, HM8, HMS8, HO8, EB8⟩
              case measure => simp [intOf]; (try omega)
    case rest =>
      obtain ⟨fb, M, rfl, HF, HM, HMS, EB, HA⟩ := hcut
      have EC := Lib.hid (ext_trans E4.out EB.out)
      clear HO0 HM0 EB0
      have HPF := Lib.hid (perr_fnd HA.out HMF.out)
      cases fb with
      | false =>
        have h240 : EE = 240 := by rw [← HE.out, HPF.out, HF.out]; rfl
        have h241 : ((EE : Int) == 240) = true := by rw [beq_iff_eq]; exact h240
        clear h240
        go_wp2_with fail
        go_ret
        exact ⟨rfl, EC.out⟩
      | true =>
        have hE0 : EE = 0 := by rw [← HE.out, HPF.out, HF.out]; rfl
        first
          | exact absurd hE0 HEZ.out
          | skip
        all_goals
          obtain rfl : n1 = ln := by rw [HNN.out.1 hE0, HLN.out]
          have HLV : Hid (possL t s R l = L) := by rw [← HLL.out, possV0 (HE.out.trans hE0)]; rfl
          obtain ⟨rows, hrs, hrok, hrm, hrl⟩ := P4.out.ext EB.out
          have HRS := Lib.hid hrs
          have HROK := Lib.hid hrok
          have HRM := Lib.hid hrm
          have HRL := Lib.hid hrl
          clear hE0 hrs hrok hrm hrl
          go_wp2_with fail
          go_loopw [17] (fun i wr => ∃ i' : Nat, i' ≤ n1 ∧ i = .int .i64 i' ∧ Hid (Below wc.heap.size wc wr)) (fun i _ => n1 - (intOf i).toNat)
          case atStart => exact ⟨0, Nat.zero_le _, rfl, ext_refl _⟩
          case round =>
            obtain ⟨i, hi, rfl, EI⟩ := hrel
            obtain ⟨wo, rfl⟩ : ∃ wo, wo = wr := ⟨_, rfl⟩
            have ED := Lib.hid (ext_trans EC.out EI.out)
            by_cases hil : i < n1
            rotate_left
            · obtain rfl : i = n1 := by omega
              have hin : ¬ (i : Int) < (i : Int) := by omega
              go_wp2_with fail
              go_ret
              exact ⟨rfl, ED.out⟩
            have hii : (i : Int) < (n1 : Int) := by omega
            obtain ⟨r, qb, qo, hr, hqA, hqb, hqc⟩ := (HRS.out.below (Nat.le_refl _) EI.out).at_ (k := i) (by rw [← HRL.out]; exact hil)
            obtain ⟨x, xb, xo, hx, hxA, hxb, hxc⟩ := (HL.out.slc.below (Nat.le_refl _) ED.out).at_ (k := i) (by rw [HLN.out]; exact hil)
            have hLi : (possL t s R l)[i]? = some r.l := by rw [HLV.out, ← HRM.out, List.getElem?_map, hr]; rfl
            obtain ⟨hlen, hval⟩ := possL_at hLi
            have hmx : r.l.length = x.ps.l.length := hlen.trans (msT_at hx)
            obtain ⟨m, hm⟩ : ∃ m, x.ps.l.length = m := ⟨_, rfl⟩
            obtain ⟨rb, hrb⟩ : ∃ rb, r.b = rb := ⟨_, rfl⟩
            have HMR : Hid (r.l.length = m) := hmx.trans hm
            have q8 : wo.cell? ⟨qb, qo + i, none⟩ = some (.slice (some ⟨rb, 0, none⟩) m m) := by
              have := hqc 0 _ rfl
              rw [BR.v, HMR.out, hrb] at this
              simpa using this
            have x12 := hxc 12 _ rfl
            rw [hm] at x12
            have HVAL := Lib.hid hval
            have HOKR := Lib.hid (HROK.out r (List.mem_of_getElem? hr))
            have HRB := Lib.hid hrb
            have hm4 : m ≤ 4096 := by rw [← hm]; exact (HPS.out x (List.mem_of_getElem? hx)).2
            have ql := hqb
            have xl := hxb
            subst hqA hxA
            clear hr hqb hqc hx hxb hxc hLi hlen hval hmx hm hrb
            go_wp2_with fail
            have SS := Lib.hid (show ∀ w', Below wo.heap.size wo w' → (fun w' => Below wo.heap.size wo w' ∧ w'.cell? ⟨qb, qo + i, none⟩ = some (.slice (some ⟨rb, 0, none⟩) m m) ∧ w'.cell? ⟨xb, xo + i * 14 + 12, none⟩ = some (.slice x.ps.A m x.ps.c)) w' from fun w' h => ⟨h, (h.cell (p := ⟨qb, qo + i, none⟩) ql).trans q8, (h.cell (p := ⟨xb, xo + i * 14 + 12, none⟩) xl).trans x12⟩)
            refine rgB 12 SS (ext_drew (ext_refl _)) (fun Q7 hQ7 hN7 hHeld => ?_)
            refine rgT 0 (some 113) hQ7 hHeld ?_; refine rgT 1 (some 114) hQ7 hHeld ?_; refine rgT 2 (some 115) hQ7 hHeld ?_; refine rgT 3 (some 116) hQ7 hHeld ?_; refine rgT 4 (some 117) hQ7 hHeld ?_; refine rgT 5 (some 118) hQ7 hHeld ?_; refine rgT 6 (some 119) hQ7 hHeld ?_; refine rgT 7 (some 120) hQ7 hHeld ?_; refine rgT 8 (some 121) hQ7 hHeld ?_; refine rgT 9 (some 122) hQ7 hHeld ?_; refine rgT 10 (some 123) hQ7 hHeld ?_
            refine rgT 11 (some 124) hQ7 hHeld ?_
            refine rg_end (by kernel_rfl) (hN7 _ _ ?_) _
            clear hQ7 hN7 Q7
            have BX := hHeld.1
            clear SS
            obtain ⟨w8, hw8⟩ : ∃ w8, wo.drew = w8 := ⟨_, rfl⟩
            rw [hw8] at BX ⊢
            have Q8 : Hid (w8.cell? ⟨qb, qo + i, none⟩ = some (.slice (some ⟨rb, 0, none⟩) m m)) := (BX.cell (p := ⟨qb, qo + i, none⟩) ql).trans q8
            have QL : Hid (qb < w8.heap.size) := Nat.lt_of_lt_of_le ql BX.size
            have EI8 := Lib.hid (ext_trans EI.out BX)
            clear hw8 BX q8 x12 ql xl
            go_wp2_with fail
            go_loopw [18] (fun k wr => ∃ q : Nat, q ≤ m ∧ k = .int .i64 q ∧ Hid (Below w8.heap.size w8 wr)) (fun k _ => m - (intOf k).toNat)
            case atStart => exact ⟨0, Nat.zero_le _, rfl, ext_refl _⟩
            case round =>
              obtain ⟨q, hq, rfl, EJ⟩ := hrel
              obtain ⟨wp, rfl⟩ : ∃ wp, wp = wr := ⟨_, rfl⟩
              have EP := Lib.hid (ext_trans EI8.out EJ.out)
              have q8 := (EJ.out.cell (p := ⟨qb, qo + i, none⟩) QL.out).trans Q8.out
              have ql : qb < wp.heap.size := Nat.lt_of_lt_of_le QL.out EJ.out.size
              by_cases hqm : q < m
              rotate_left
              · obtain rfl : q = m := by omega
                have hqn : ¬ (q : Int) < (q : Int) := by omega
                go_wp2_with fail
                go_roundw
                case rel => exact ⟨i + 1, hil, by go_num, EP⟩
                case measure => simp [intOf]; (try omega)
              have hqi : (q : Int) < (m : Int) := by omega
              obtain ⟨bb, hbb⟩ : ∃ bb, r.l[q]? = some bb := ⟨_, List.getElem?_eq_getElem (by rw [HMR.out]; exact hqm)⟩
              have hrk : BR.ok wp r := Below.cellsB EP.out HOKR.out
              have r8 : wp.cell? ⟨rb, q, none⟩ = some (.bool bb) := by rw [← HRB.out]; exact BR.cell hrk hbb
              have rl : rb < wp.heap.size := by rw [← HRB.out]; exact BR.lt hrk
              have HTB : Hid (possB t s R l i q = true ↔ bb = true) := by rw [HVAL.out q bb hbb]; exact Iff.rfl
              have HMP := Lib.hid (HM.out.ext EP.out)
              clear hbb hrk
              go_wp2_with fail
              have SS := Lib.hid (show ∀ w', Below wp.heap.size wp w' → (fun w' => Below wp.heap.size wp w' ∧ w'.cell? ⟨qb, qo + i, none⟩ = some (.slice (some ⟨rb, 0, none⟩) m m) ∧ w'.cell? ⟨rb, q, none⟩ = some (.bool bb)) w' from fun w' h => ⟨h, (h.cell (p := ⟨qb, qo + i, none⟩) ql).trans q8, (h.cell (p := ⟨rb, q, none⟩) rl).trans r8⟩)
              refine rgB 13 SS (ext_drew (ext_refl _)) (fun Q7 hQ7 hN7 hHeld => ?_)
              refine rgT 0 (some 134) hQ7 hHeld ?_; refine rgT 1 (some 135) hQ7 hHeld ?_; refine rgT 2 (some 136) hQ7 hHeld ?_; refine rgT 3 (some 137) hQ7 hHeld ?_; refine rgT 4 (some 138) hQ7 hHeld ?_; refine rgT 5 (some 139) hQ7 hHeld ?_; refine rgT 6 (some 140) hQ7 hHeld ?_; refine rgT 7 (some 141) hQ7 hHeld ?_; refine rgT 8 (some 142) hQ7 hHeld ?_; refine rgT 9 (some 143) hQ7 hHeld ?_; refine rgT 10 (some 144) hQ7 hHeld ?_
              refine rg_take (i := 11) (some 145) (v := .bool bb) rfl rfl (by kernel_rfl) (by rfl) hQ7 hHeld (fun w7 hSw => run_v (look61 (HMP.out.ext hSw.1) HMS.out i q bb HTB.out)) ?_
              try simp only [Act.put, List.setIfInBounds_toArray, List.set_cons_zero, List.set_cons_succ]
              refine rgT 12 (some 146) hQ7 hHeld ?_
              refine rg_end (by kernel_rfl) (hN7 _ _ ?_) _
              clear hQ7 hN7 Q7
              have BX := hHeld.1
              clear SS
              have E9 := Lib.hid (ext_trans EJ.out BX)
              clear BX q8 ql r8 rl HMP
              go_wp2_with fail
              go_roundw
              case rel => exact ⟨q + 1, hqm, by go_num, E9⟩
              case measure => simp [intOf]; (try omega)
end Go.Proofs.YtjiojpoiocdnmaaGreat
/- Law 7 as its row asks. -/
set_option linter.unusedSimpArgs false
set_option linter.unusedVariables false
namespace Go.Proofs.YtjiojpoiocdnmaaGreat
open Go.RowKit
theorem walk7 (t : Tab) (s : SliceOf Stn) (r : SliceOf Rep) (l : SliceOf Trk) (w : World) (ht : Tab.ok w t) (hs : SliceOf.ok Stn.cells 3 Stn.ok w s) (hr : SliceOf.ok Rep.cells 6 Rep.ok w r) (hl : SliceOf.ok Trk.cells 14 Trk.ok w l) :
    Calls Tryz.prog 7 #[.agg t.cells.toArray, .slice s.A s.l.length s.c, .slice r.A r.l.length r.c, .slice l.A l.l.length l.c] w (Tru w) :=
  law7 t s.A s.c s.l r.A r.c r.l l.A l.c l.l w ht hs hr hl
end Go.Proofs.YtjiojpoiocdnmaaGreat
