/- Law 7: rules without a contradiction. -/
import Derived.Test.YtmgpbjpohbpgpaaQ6
import Derived.Deep.Cut
set_option linter.unusedSimpArgs false
set_option linter.unusedVariables false
namespace Go.Proofs.Ytmgpbjpohbpgpaa
open Go.RowKit
theorem AOk.far7 {w : World} {a : As} (h : AOk w a) {p : Addr} {v : Value} (hp : rowOff a.rs.A a.rs.l p.block) : AOk (w.setCell p v) a := ⟨h.aps, h.cls, h.rs.far hp, h.rl, h.rc⟩
theorem rot_mem (l : List Ru) (k : Nat) : ∀ r, r ∈ l ↔ r ∈ l.drop k ++ l.take k := fun r => by
  conv => lhs; rw [← List.take_append_drop k l]
  simp only [List.mem_append]; exact Or.comm
theorem rot_len (l : List Ru) (k : Nat) : l.length = (l.drop k ++ l.take k).length := by simp; omega
theorem curE_mem {nC nA cl ap : Int} {l m : List Ru} (hn : l.length = m.length) (h : ∀ r, r ∈ l ↔ r ∈ m) : chkC nC nA l cl = chkC nC nA m cl ∧ curE nC nA l cl ap = curE nC nA m cl ap ∧ curN nC nA l cl ap = curN nC nA m cl ap := by
  have h1 : chkC nC nA l cl = chkC nC nA m cl := by unfold chkC; rw [chk_mem hn h]
  have h2 : curE nC nA l cl ap = curE nC nA m cl ap := by unfold curE; rw [h1]
  refine ⟨h1, h2, ?_⟩
  unfold curN
  rw [h2]
  split
  · refine nrm_congr fun k _ => ?_
    rw [inL_cur, inL_cur, any_of_mem h]
  · rfl
theorem num_mem2 {nC nA cl : Int} {l m : List Ru} (hn : l.length = m.length) (h : ∀ r, r ∈ l ↔ r ∈ m) (hv : chkR nC nA l = 0) (hc : ¬ Con l) : weightN nC nA l cl = weightN nC nA m cl ∧ longN nC nA l cl = longN nC nA m cl := by
  have h1 := (curE_mem (nC := nC) (nA := nA) (cl := cl) (ap := 0) hn h).1
  have g := good_k hv
  have e3 : numR l 3 cl 1 = numR m 3 cl 1 := num_mem h fun x hx y hy a b c d => con_same hc hx hy (by omega) (by omega) (by omega)
  have e4 : numR l 4 cl 60 = numR m 4 cl 60 := num_mem h fun x hx y hy a b c d => con_same hc hx hy (by omega) (by omega) (by omega)
  have e2 : numR l 2 cl 60 = numR m 2 cl 60 := num_mem h fun x hx y hy a b c d => by rw [(g x hx).2.1 a, (g y hy).2.1 b]
  unfold weightN longN
  rw [h1, e3, e4, e2]; exact ⟨rfl, rfl⟩
theorem cur_free {nC nA : Int} {l : List Ru} {cl ap : Int} (hv : chkR nC nA l = 0) (hc : ¬ Con l) (he : curE nC nA l cl ap = 0) : cov (curN nC nA l cl ap) ⟨0, 1440⟩ = false := by
  rw [Bool.eq_false_iff, ne_eq, cov_full]
  intro hf
  have hin : ∀ m < 1440, l.any (onM cl ap (m : Nat)) = true := fun m hm => by
    have h1 := hf m hm
    have h2 := has_cur (mi := (m : Int)) he
    rw [← h2]
    unfold has
    rw [h1]
    simp
    omega
  have h0 := hin 0 (by omega)
  obtain ⟨x, hx, hx1⟩ := List.any_eq_true.1 h0
  simp only [onM, Bool.and_eq_true, decide_eq_true_eq] at hx1
  refine hc (.inr ⟨x, hx, full_iff.2 fun m hm => ?_⟩)
  obtain ⟨y, hy, hy1⟩ := List.any_eq_true.1 (hin m hm)
  simp only [onM, Bool.and_eq_true, decide_eq_true_eq] at hy1
  refine ⟨y.h, List.mem_map.2 ⟨y, List.mem_filter.2 ⟨hy, ?_⟩, rfl⟩, ?_⟩
  · simp only [sameG, Bool.and_eq_true, decide_eq_true_eq]; omega
  · show (decide (y.f ≤ (m : Int)) && decide ((m : Int) < y.t)) = true
    simp only [Bool.and_eq_true, decide_eq_true_eq]; omega
theorem covers_at {A : Option Addr} {c n : Nat} {l : List Sp} {w : World} (r : Bool) (hr : cov l ⟨0, 1440⟩ = r) (hn : n = l.length) (ha : Slc w Sp.cells 2 A l) (hl : l.length < 1000000) : Calls Try.prog 19 #[.slice A n c, .agg #[.int .i64 0, .int .i64 1440]] w (RetB w r) := by
  subst hr hn; exact covers_any A c l ⟨0, 1440⟩ w ha hl
set_option maxRecDepth 100000 in
set_option maxHeartbeats 51200000 in
theorem law7 (a : As) (tn cl ap : Int) (w : World) (ha : AOk w a) (ht0 : 0 ≤ tn) (ht1 : tn ≤ 255) : Calls Try.prog 7 #[a.v, .int .u8 tn, .int .i64 cl, .int .i64 ap] w (Tru w) := by
  obtain ⟨v, hv⟩ : ∃ v, chkR a.cls.n a.aps.n a.rs.l = v := ⟨_, rfl⟩
  obtain ⟨R, hR⟩ : ∃ R, reaL a.cls.n a.aps.n a.rs.l = R := ⟨_, rfl⟩
  have HV := Lib.hid hv
  have HR := Lib.hid hR
  obtain ⟨k, hk⟩ : ∃ k : Nat, (tn.toNat % a.rs.l.length) = k := ⟨_, rfl⟩
  obtain ⟨m, hm⟩ : ∃ m, a.rs.l.drop k ++ a.rs.l.take k = m := ⟨_, rfl⟩
  obtain ⟨e0, he0⟩ : ∃ v, curE a.cls.n a.aps.n a.rs.l cl ap = v := ⟨_, rfl⟩
  obtain ⟨C, hC⟩ : ∃ v, curN a.cls.n a.aps.n a.rs.l cl ap = v := ⟨_, rfl⟩
  obtain ⟨we, hwe⟩ : ∃ v, chkC a.cls.n a.aps.n a.rs.l cl = v := ⟨_, rfl⟩
  obtain ⟨wn, hwn⟩ : ∃ v, weightN a.cls.n a.aps.n a.rs.l cl = v := ⟨_, rfl⟩
  obtain ⟨wl, hwl⟩ : ∃ v, longN a.cls.n a.aps.n a.rs.l cl = v := ⟨_, rfl⟩
  have hml : a.rs.l.length = m.length := by rw [← hm]; exact rot_len _ _
  have hmm : ∀ r, r ∈ a.rs.l ↔ r ∈ m := by rw [← hm]; exact rot_mem _ _
  have HCl := Lib.hid (show C.length ≤ 1440 from hC ▸ curN_len a.cls.n a.aps.n a.rs.l cl ap)
  have hcm := curE_mem (nC := a.cls.n) (nA := a.aps.n) (cl := cl) (ap := ap) hml hmm
  have HCM := Lib.hid (show chkC a.cls.n a.aps.n m cl = we ∧ curE a.cls.n a.aps.n m cl ap = e0 ∧ curN a.cls.n a.aps.n m cl ap = C from ⟨hcm.1 ▸ hwe, hcm.2.1 ▸ he0, hcm.2.2 ▸ hC⟩)
  have HFree := Lib.hid (show v = 0 → R = [] → ¬ Con a.rs.l from fun h h2 => (reason_spec a.cls.n a.aps.n a.rs.l (hv_of (hv.trans h))).1 (by rw [← h2, ← hR]; unfold reaL; rw [if_pos (hv.trans h)]))
  have HNum := Lib.hid (show v = 0 → R = [] → weightN a.cls.n a.aps.n m cl = wn ∧ longN a.cls.n a.aps.n m cl = wl from fun h h2 => by
    have := num_mem2 (nC := a.cls.n) (nA := a.aps.n) (cl := cl) hml hmm (hv.trans h) (HFree.out h h2)
    exact ⟨this.1 ▸ hwn, this.2 ▸ hwl⟩)
  have HCov := Lib.hid (show v = 0 → R = [] → e0 = 0 → cov C ⟨0, 1440⟩ = false from fun h h2 h3 => by rw [← hC]; exact cur_free (hv.trans h) (HFree.out h h2) (he0.trans h3))
  have HFin := Lib.hid (show v = 0 → R = [] → we = 0 → ∀ r ∈ a.rs.l, r.cl = cl → (r.k = 2 → wl = 0) ∧ (r.k = 4 → wl = r.n) ∧ (r.k = 3 → wn = r.n) from fun h h2 h3 r hr hrc => by
    have := free_num (hv.trans h) (HFree.out h h2) hr hrc
    have q1 : weightN a.cls.n a.aps.n a.rs.l cl = numR a.rs.l 3 cl 1 := by unfold weightN; rw [if_pos (hwe.trans h3)]
    have q2 : longN a.cls.n a.aps.n a.rs.l cl = min (numR a.rs.l 4 cl 60) (numR a.rs.l 2 cl 60) := by unfold longN; rw [if_pos (hwe.trans h3)]
    rw [← hwn, ← hwl, q1, q2]
    exact this)
  have HE0 := Lib.hid he0
  have HC := Lib.hid hC
  have HWE := Lib.hid hwe
  have HWN := Lib.hid hwn
  have HWL := Lib.hid hwl
  have HM := Lib.hid hm
  have HML := Lib.hid hml
  have HK := Lib.hid hk
  clear hv hR hk hm he0 hC hwe hwn hwl hml hmm hcm
  have E := Lib.hid (ext_refl w)
  have HA := Lib.hid (ha)
  clear ha
  replace E := Lib.hid (ext_alloc E.out (.cells #[.slice a.s0.A a.s0.n a.s0.c, .slice a.s1.A a.s1.n a.s1.c, .slice a.s2.A a.s2.n a.s2.c, .slice a.s3.A a.s3.n a.s3.c, .slice a.s4.A a.s4.n a.s4.c, .slice a.aps.A a.aps.n a.aps.c, .slice a.cls.A a.cls.n a.cls.c, .slice a.rs.A a.rs.l.length a.rs.c] 31))
  replace HA := Lib.hid (HA.out.alloc (.cells #[.slice a.s0.A a.s0.n a.s0.c, .slice a.s1.A a.s1.n a.s1.c, .slice a.s2.A a.s2.n a.s2.c, .slice a.s3.A a.s3.n a.s3.c, .slice a.s4.A a.s4.n a.s4.c, .slice a.aps.A a.aps.n a.aps.c, .slice a.cls.A a.cls.n a.cls.c, .slice a.rs.A a.rs.l.length a.rs.c] 31))
  have X := Lib.hid (Blk.newH w [.slice a.s0.A a.s0.n a.s0.c, .slice a.s1.A a.s1.n a.s1.c, .slice a.s2.A a.s2.n a.s2.c, .slice a.s3.A a.s3.n a.s3.c, .slice a.s4.A a.s4.n a.s4.c, .slice a.aps.A a.aps.n a.aps.c, .slice a.cls.A a.cls.n a.cls.c, .slice a.rs.A a.rs.l.length a.rs.c] 31 (w.heap.size) (by first | rfl | simp))
  go_enter Try.func7, Try.ntmps7
  go_wp2_with fail
  refine (sane_any _).mono ?_
  rintro e z1 ⟨rfl, B⟩
  replace E := Lib.hid (ext_trans E.out B)
  replace HA := Lib.hid (HA.out.ext B)
  replace X := Lib.hid (X.out.ext B)
  clear B
  by_cases hl : (70 : Int) < a.rs.l.length
  · have c0 := X.out.c 7 _ rfl
    go_wp2_with fail
    go_ret
    exact ⟨rfl, E.out⟩
  have hl2 : a.rs.l.length ≤ 70 := by omega
  have c0 := X.out.c 0 _ rfl
  have c1 := X.out.c 1 _ rfl
  have c2 := X.out.c 2 _ rfl
  have c3 := X.out.c 3 _ rfl
  have c4 := X.out.c 4 _ rfl
  have c5 := X.out.c 5 _ rfl
  have c6 := X.out.c 6 _ rfl
  have c7 := X.out.c 7 _ rfl
  go_wp2_with fail
  refine (reason_at (a := a) R v HR.out HV.out HA.out).mono ?_
  rintro e z2 ⟨A4, q4, rfl, -, B⟩
  clear c0 c1 c2 c3 c4 c5 c6 c7
  replace E := Lib.hid (ext_trans E.out B)
  replace HA := Lib.hid (HA.out.ext B)
  replace X := Lib.hid (X.out.ext B)
  clear B
  by_cases h0 : v = 0
  rotate_left
  · have e1 : (v != 0) = true := by simp [h0]
    clear h0 HNum HCov HFin HFree
    go_wp2_with fail
    go_ret
    exact ⟨rfl, E.out⟩
  subst h0
  by_cases hr0 : R = []
  rotate_left
  · have hR0 : (0 : Int) < R.length := by have := List.length_pos_iff.2 hr0; omega
    clear hr0 HNum HCov HFin HFree
    go_wp2_with fail
    go_ret
    exact ⟨rfl, E.out⟩
  have hnum := HNum.out rfl hr0
  have HN1 := Lib.hid hnum.1
  have HN2 := Lib.hid hnum.2
  have HCv := Lib.hid (HCov.out rfl hr0)
  have HFn := Lib.hid (HFin.out rfl hr0)
  subst hr0
  clear hnum HNum HCov HFin HFree
  have hwl0 : w.heap.size ≤ z2.heap.size := E.out.size
  have hxl : w.heap.size < z2.heap.size := X.out.lt
  have HRO := Lib.hid (HA.out.rs.rowOff (b := z2.heap.size) (Nat.le_refl _))
  have c0 := X.out.c 0 _ rfl
  have c1 := X.out.c 1 _ rfl
  have c2 := X.out.c 2 _ rfl
  have c3 := X.out.c 3 _ rfl
  have c4 := X.out.c 4 _ rfl
  have c5 := X.out.c 5 _ rfl
  have c6 := X.out.c 6 _ rfl
  have c7 := X.out.c 7 _ rfl
  replace E := Lib.hid (ext_alloc E.out (.cells #[.slice a.s0.A a.s0.n a.s0.c, .slice a.s1.A a.s1.n a.s1.c, .slice a.s2.A a.s2.n a.s2.c, .slice a.s3.A a.s3.n a.s3.c, .slice a.s4.A a.s4.n a.s4.c, .slice a.aps.A a.aps.n a.aps.c, .slice a.cls.A a.cls.n a.cls.c, .slice a.rs.A a.rs.l.length a.rs.c] 31))
  replace HA := Lib.hid (HA.out.alloc (.cells #[.slice a.s0.A a.s0.n a.s0.c, .slice a.s1.A a.s1.n a.s1.c, .slice a.s2.A a.s2.n a.s2.c, .slice a.s3.A a.s3.n a.s3.c, .slice a.s4.A a.s4.n a.s4.c, .slice a.aps.A a.aps.n a.aps.c, .slice a.cls.A a.cls.n a.cls.c, .slice a.rs.A a.rs.l.length a.rs.c] 31))
  replace X := Lib.hid (X.out.alloc (.cells #[.slice a.s0.A a.s0.n a.s0.c, .slice a.s1.A a.s1.n a.s1.c, .slice a.s2.A a.s2.n a.s2.c, .slice a.s3.A a.s3.n a.s3.c, .slice a.s4.A a.s4.n a.s4.c, .slice a.aps.A a.aps.n a.aps.c, .slice a.cls.A a.cls.n a.cls.c, .slice a.rs.A a.rs.l.length a.rs.c] 31))
  have Y := Lib.hid (Blk.newH z2 [.slice a.s0.A a.s0.n a.s0.c, .slice a.s1.A a.s1.n a.s1.c, .slice a.s2.A a.s2.n a.s2.c, .slice a.s3.A a.s3.n a.s3.c, .slice a.s4.A a.s4.n a.s4.c, .slice a.aps.A a.aps.n a.aps.c, .slice a.cls.A a.cls.n a.cls.c, .slice a.rs.A a.rs.l.length a.rs.c] 31 (z2.heap.size) (by first | rfl | simp))
  have xl := X.out.lt
  have x7 := X.out.c 7 _ rfl
  go_upto_if 51 with fail
  clear c0 c1 c2 c3 c4 c5 c6 c7 xl x7
  obtain ⟨wq, hNwq⟩ : ∃ W0, W0 = (z2.alloc (.cells #[.slice a.s0.A a.s0.n a.s0.c, .slice a.s1.A a.s1.n a.s1.c, .slice a.s2.A a.s2.n a.s2.c, .slice a.s3.A a.s3.n a.s3.c, .slice a.s4.A a.s4.n a.s4.c, .slice a.aps.A a.aps.n a.aps.c, .slice a.cls.A a.cls.n a.cls.c, .slice a.rs.A a.rs.l.length a.rs.c] 31)) := ⟨_, rfl⟩
  rw [← hNwq] at E HA X Y ⊢
  clear hNwq
  have hyq : z2.heap.size < wq.heap.size := Y.out.lt
  go_cut [] from 28 (fun wc => ∃ A2 q2, Hid (Below w.heap.size w wc) ∧ Hid (AOk wc a) ∧ Hid (Blk wc (w.heap.size) [.slice a.s0.A a.s0.n a.s0.c, .slice a.s1.A a.s1.n a.s1.c, .slice a.s2.A a.s2.n a.s2.c, .slice a.s3.A a.s3.n a.s3.c, .slice a.s4.A a.s4.n a.s4.c, .slice a.aps.A a.aps.n a.aps.c, .slice a.cls.A a.cls.n a.cls.c, .slice a.rs.A a.rs.l.length a.rs.c]) ∧ Hid (Blk wc (z2.heap.size) [.slice a.s0.A a.s0.n a.s0.c, .slice a.s1.A a.s1.n a.s1.c, .slice a.s2.A a.s2.n a.s2.c, .slice a.s3.A a.s3.n a.s3.c, .slice a.s4.A a.s4.n a.s4.c, .slice a.aps.A a.aps.n a.aps.c, .slice a.cls.A a.cls.n a.cls.c, .slice A2 m.length q2]) ∧ Hid (AOk wc { a with rs := ⟨A2, q2, m⟩ }))
  case first =>
    by_cases hn0 : a.rs.l.length = 0
    · have hlt : ¬ ((0 : Int) < a.rs.l.length) := by omega
      have hme : m = a.rs.l := by
        have h1 := List.eq_nil_of_length_eq_zero hn0
        have h2 : m.length = 0 := by rw [← HML.out]; exact hn0
        rw [h1, List.eq_nil_of_length_eq_zero h2]
      clear hn0
      go_wp2_with fail
      go_meet
      case rel => exact ⟨a.rs.A, a.rs.c, E, HA, X, by rw [hme]; exact Y, by rw [hme]; exact HA⟩
    have hn1 : 0 < a.rs.l.length := by omega
    have hlt : ((0 : Int) < a.rs.l.length) := by omega
    have hkl : k < a.rs.l.length := by rw [← HK.out]; exact Nat.mod_lt _ hn1
    have hz : (((a.rs.l.length : Nat) : Int) == 0) = false := beq_eq_false_iff_ne.2 (by omega)
    have hz2 : ¬ (((a.rs.l.length : Nat) : Int) = 0) := by omega
    have hz3 : ¬ (a.rs.l = []) := fun h => by rw [h] at hn1; exact absurd hn1 (by simp)
    have hmod : Int.tmod tn (a.rs.l.length : Int) = (k : Int) := by
      rw [Int.tmod_eq_emod_of_nonneg ht0, ← HK.out, Int.natCast_emod, Int.toNat_of_nonneg ht0]
    have hwt : IntKind.i64.wrap tn = tn := IntWalk.i64_in _ (by omega)
    have hwk : IntKind.i64.wrap (k : Int) = (k : Int) := IntWalk.i64_in _ (by omega)
    clear hn0
    go_wp2_with fail
    have hcp := HA.out.rl
    have hs1 := fun w : World => slice_headU a.rs.A a.rs.l.length a.rs.c k _ rfl (by omega) w
    have hs2 := fun w : World => slice_fromU a.rs.A a.rs.l.length a.rs.c k (k : Int) rfl (by omega) hcp w
    have HKT := Lib.hid (show (a.rs.l.take k).length = k by rw [List.length_take]; omega)
    have HKD := Lib.hid (show (a.rs.l.drop k).length = a.rs.l.length - k by rw [List.length_drop])
    obtain ⟨AF, hAF⟩ : ∃ z, fromU a.rs.A a.rs.c k = z := ⟨_, rfl⟩
    have HAF := Lib.hid hAF
    rw [hAF] at hs2
    clear hAF
    have SS := Lib.hid (show ∀ w', Below wq.heap.size wq w' → (fun w' => Below wq.heap.size wq w' ∧ w'.cell? ⟨w.heap.size, 7, none⟩ = some (.slice a.rs.A a.rs.l.length a.rs.c)) w' from fun w' h => ⟨h, (X.out.ext h).c 7 _ rfl⟩)
    refine rg_begin (S := (fun w' => Below wq.heap.size wq w' ∧ w'.cell? ⟨w.heap.size, 7, none⟩ = some (.slice a.rs.A a.rs.l.length a.rs.c))) 12 (by kernel_rfl) (by intro d; cases d <;> intro _ _ _ _ h <;> exact h) ?_ (fun Q7 hQ7 hN7 hHeld => ?_)
    · exact SS.out _ (ext_drew (ext_refl _))
    refine rg_take (i := 1) (some 57) (v := ?_) rfl rfl (by kernel_rfl) (by rfl) hQ7 hHeld ?_ ?_
    rotate_left
    · intro w7 hSw; (try dsimp only at hSw); go_simp; all_goals with_reducible rfl
    try simp only [Act.put, List.setIfInBounds_toArray, List.set_cons_zero, List.set_cons_succ]
    refine rg_take (i := 2) (some 58) (v := ?_) rfl rfl (by kernel_rfl) (by rfl) hQ7 hHeld ?_ ?_
    rotate_left
    · intro w7 hSw; (try dsimp only at hSw); go_simp; all_goals with_reducible rfl
    try simp only [Act.put, List.setIfInBounds_toArray, List.set_cons_zero, List.set_cons_succ]
    refine rg_take (i := 3) (some 59) (v := ?_) rfl rfl (by kernel_rfl) (by rfl) hQ7 hHeld ?_ ?_
    rotate_left
    · intro w7 hSw; (try dsimp only at hSw); go_simp; all_goals with_reducible rfl
    try simp only [Act.put, List.setIfInBounds_toArray, List.set_cons_zero, List.set_cons_succ]
    refine rg_take (i := 4) (some 60) (v := .slice AF (a.rs.l.length - k) (a.rs.c - k)) rfl rfl (by kernel_rfl) (by rfl) hQ7 hHeld (fun w7 hSw => run_v (hs2 w7)) ?_
    try simp only [Act.put, List.setIfInBounds_toArray, List.set_cons_zero, List.set_cons_succ]
    refine rg_take (i := 6) (some 62) (v := ?_) rfl rfl (by kernel_rfl) (by rfl) hQ7 hHeld ?_ ?_
    rotate_left
    · intro w7 hSw; (try dsimp only at hSw); go_simp; all_goals with_reducible rfl
    try simp only [Act.put, List.setIfInBounds_toArray, List.set_cons_zero, List.set_cons_succ]
    refine rg_take (i := 7) (some 63) (v := ?_) rfl rfl (by kernel_rfl) (by rfl) hQ7 hHeld ?_ ?_
    rotate_left
    · intro w7 hSw; (try dsimp only at hSw); go_simp; all_goals with_reducible rfl
    try simp only [Act.put, List.setIfInBounds_toArray, List.set_cons_zero, List.set_cons_succ]
    refine rg_take (i := 8) (some 64) (v := ?_) rfl rfl (by kernel_rfl) (by rfl) hQ7 hHeld ?_ ?_
    rotate_left
    · intro w7 hSw; (try dsimp only at hSw); go_simp; all_goals with_reducible rfl
    try simp only [Act.put, List.setIfInBounds_toArray, List.set_cons_zero, List.set_cons_succ]
    refine rg_take (i := 9) (some 65) (v := .slice a.rs.A k a.rs.c) rfl rfl (by kernel_rfl) (by rfl) hQ7 hHeld (fun w7 hSw => run_v (hs1 w7)) ?_
    try simp only [Act.put, List.setIfInBounds_toArray, List.set_cons_zero, List.set_cons_succ]
    refine rg_one (i := 0) (by kernel_rfl) (rg_step rfl (by rfl) (fun K hK => ?_))
    go_simp
    refine hK.out _ _ ?_ (fun hHeld2 => ?_)
    · exact SS.out _ (ext_alloc hHeld.1 _)
    clear hHeld
    have hHeld := hHeld2
    clear hHeld2
    clear hK K
    try simp only [Act.put, List.setIfInBounds_toArray, List.set_cons_zero, List.set_cons_succ]
    refine rg_one (i := 5) (by kernel_rfl) (rg_step rfl (by rfl) (fun K hK => ?_))
    refine rg_append (some 61) _ _ 29 29 rfl rfl rfl _ _ rfl rfl (Own.append_k (w0 := wq) I29 29 ((Own.madeH (α := Ru) wq wq.heap.size 42 Ru.cells 8 (by simp) wq.heap.size (by simp)).drew_) hHeld.1 (ys := a.rs.l.drop k) (m := a.rs.l.length - k) HKD.out.symm (a.rs.c - k) (show Slc _ Ru.cells 8 AF (a.rs.l.drop k) by rw [← HAF.out]; exact (HA.out.rs.ext hHeld.1).from_ k a.rs.c HA.out.rl) (a.rs.l.drop k) rfl (a.rs.l.length - k) HKD.out (by omega) (by unfold maxLen; omega)) ?_
    rintro _ w1 ⟨A1, q1, rfl, hO1, B1, hg1, hq1, hm1⟩
    refine hK.out _ _ ?_ (fun hHeld2 => ?_)
    · exact SS.out _ B1
    clear hHeld
    have hHeld := hHeld2
    clear hHeld2
    clear hK K
    try simp only [Act.put, List.setIfInBounds_toArray, List.set_cons_zero, List.set_cons_succ]
    refine rg_one (i := 10) (by kernel_rfl) (rg_step rfl (by rfl) (fun K hK => ?_))
    refine rg_append (some 66) _ _ 29 29 rfl rfl rfl _ _ rfl rfl (Own.append_k (w0 := wq) I29 29 hO1 hHeld.1 (ys := a.rs.l.take k) (m := k) HKT.out.symm a.rs.c ((HA.out.rs.ext hHeld.1).take k) m HM.out m.length rfl (by rw [← HML.out]; omega) (by rw [← HML.out]; unfold maxLen; omega)) ?_
    rintro _ w2 ⟨A2, q2, rfl, hO2, B2, hg2, hq2, hm2⟩
    refine hK.out _ _ ?_ (fun hHeld2 => ?_)
    · exact SS.out _ B2
    clear hHeld
    have hHeld := hHeld2
    clear hHeld2
    clear hK K
    try simp only [Act.put, List.setIfInBounds_toArray, List.set_cons_zero, List.set_cons_succ]
    refine rg_take (i := 11) (some 67) (v := ?_) rfl rfl (by kernel_rfl) (by rfl) hQ7 hHeld ?_ ?_
    rotate_left
    · intro w7 hSw; (try dsimp only at hSw); go_simp; all_goals with_reducible rfl
    try simp only [Act.put, List.setIfInBounds_toArray, List.set_cons_zero, List.set_cons_succ]
    have y9 := Y.out.ext hHeld.1
    have y7 := y9.c 7 _ rfl
    have yf := y9.f
    have yl := y9.lt
    clear y9
    refine rg_one (i := 12) (by kernel_rfl) (rg_late rfl (by rfl) (by kernel_rfl) (fun K hK => ?_))
    go_simp
    refine hK.out _ _ ?_
    clear hK K
    try simp only [Act.put, List.setIfInBounds_toArray, List.set_cons_zero, List.set_cons_succ]
    refine rg_end (by kernel_rfl) (hN7 _ _ ?_) _
    clear hQ7 hN7 Q7
    have BX := hHeld.1
    clear SS
    have hob := Lib.hid (show ∀ b o s, A2 = some ⟨b, o, s⟩ → wq.heap.size ≤ b from fun b o s e => by
      obtain ⟨A9, c9, h1, -, -, h2⟩ := hO2.form
      injection h1 with h1 _ _
      exact (h2 b o s (h1 ▸ e)).1)
    have NB := Lib.hid (show Slc w2 Ru.cells 8 A2 m from hO2.slc (fun _ => rfl) (by decide))
    have hq9 := hq2
    have hm9 := hm2
    clear hO1 hO2 hg1 hg2 hq1 hm1 hq2 hm2 BX B1 y7 yf yl hs1 hs2
    replace E := Lib.hid (ext_trans E.out B2)
    replace HA := Lib.hid (HA.out.ext B2)
    replace X := Lib.hid (X.out.ext B2)
    replace Y := Lib.hid (Y.out.ext B2)
    clear B2
    replace E := Lib.hid (ext_set E.out ⟨z2.heap.size, 7, none⟩ (.slice A2 m.length q2) (by first | exact Nat.le_refl _ | omega | (simp; done) | (simp; omega)))
    replace HA := Lib.hid (HA.out.far7 (p := ⟨z2.heap.size, 7, none⟩) (v := (.slice A2 m.length q2)) HRO.out)
    replace X := Lib.hid (X.out.other (p := ⟨z2.heap.size, 7, none⟩) (.slice A2 m.length q2) (by first | omega | (simp; done) | (simp; omega)))
    replace Y := Lib.hid (show Blk _ (z2.heap.size) [.slice a.s0.A a.s0.n a.s0.c, .slice a.s1.A a.s1.n a.s1.c, .slice a.s2.A a.s2.n a.s2.c, .slice a.s3.A a.s3.n a.s3.c, .slice a.s4.A a.s4.n a.s4.c, .slice a.aps.A a.aps.n a.aps.c, .slice a.cls.A a.cls.n a.cls.c, .slice A2 m.length q2] from Y.out.set (j := 7) (by simp) (.slice A2 m.length q2))
    replace NB := Lib.hid (NB.out.far (p := ⟨z2.heap.size, 7, none⟩) (v := (.slice A2 m.length q2)) (fun _ b o s e => by have := hob.out b o s e; show b ≠ z2.heap.size; omega))
    clear hob
    obtain ⟨x1, hNx1⟩ : ∃ W0, W0 = (w2.setCell ⟨z2.heap.size, 7, none⟩ (.slice A2 m.length q2)) := ⟨_, rfl⟩
    rw [← hNx1] at E HA X Y NB ⊢
    clear hNx1
    have HB := Lib.hid (show AOk x1 { a with rs := ⟨A2, q2, m⟩ } from ⟨HA.out.aps, HA.out.cls, NB.out, hq9, hm9⟩)
    go_wp2_with fail
    go_meet
    case rel => exact ⟨A2, q2, E, HA, X, Y, HB⟩
  case rest =>
    clear E HA X Y
    obtain ⟨A2, q2, E, HA, X, Y, HB⟩ := hcut
    have c0 := X.out.c 0 _ rfl
    have c1 := X.out.c 1 _ rfl
    have c2 := X.out.c 2 _ rfl
    have c3 := X.out.c 3 _ rfl
    have c4 := X.out.c 4 _ rfl
    have c5 := X.out.c 5 _ rfl
    have c6 := X.out.c 6 _ rfl
    have c7 := X.out.c 7 _ rfl
    go_wp2_with fail
    refine (curfew_at (a := a) C e0 HC.out HE0.out HA.out).mono ?_
    rintro e z3 ⟨A5, q5, rfl, h2, B⟩
    clear c0 c1 c2 c3 c4 c5 c6 c7
    replace E := Lib.hid (ext_trans E.out B)
    replace HA := Lib.hid (HA.out.ext B)
    replace X := Lib.hid (X.out.ext B)
    replace Y := Lib.hid (Y.out.ext B)
    replace HB := Lib.hid (HB.out.ext B)
    clear B
    have L := Lib.hid h2
    clear h2
    have c0 := Y.out.c 0 _ rfl
    have c1 := Y.out.c 1 _ rfl
    have c2 := Y.out.c 2 _ rfl
    have c3 := Y.out.c 3 _ rfl
    have c4 := Y.out.c 4 _ rfl
    have c5 := Y.out.c 5 _ rfl
    have c6 := Y.out.c 6 _ rfl
    have c7 := Y.out.c 7 _ rfl
    go_wp2_with fail
    refine (curfew_at (a := { a with rs := ⟨A2, q2, m⟩ }) C e0 HCM.out.2.2 HCM.out.2.1 HB.out).mono ?_
    rintro e z4 ⟨A6, q6, rfl, h2, B⟩
    clear c0 c1 c2 c3 c4 c5 c6 c7
    replace E := Lib.hid (ext_trans E.out B)
    replace HA := Lib.hid (HA.out.ext B)
    replace X := Lib.hid (X.out.ext B)
    replace Y := Lib.hid (Y.out.ext B)
    replace HB := Lib.hid (HB.out.ext B)
    replace L := Lib.hid (L.out.ext B)
    clear B
    have N := Lib.hid h2
    clear h2
    have c0 := X.out.c 0 _ rfl
    have c1 := X.out.c 1 _ rfl
    have c2 := X.out.c 2 _ rfl
    have c3 := X.out.c 3 _ rfl
    have c4 := X.out.c 4 _ rfl
    have c5 := X.out.c 5 _ rfl
    have c6 := X.out.c 6 _ rfl
    have c7 := X.out.c 7 _ rfl
    go_wp2_with fail
    refine (weight_at (a := a) (cl := cl) wn we HWN.out HWE.out HA.out).mono ?_
    rintro e z5 ⟨rfl, B⟩
    clear c0 c1 c2 c3 c4 c5 c6 c7
    replace E := Lib.hid (ext_trans E.out B)
    replace HA := Lib.hid (HA.out.ext B)
    replace X := Lib.hid (X.out.ext B)
    replace Y := Lib.hid (Y.out.ext B)
    replace HB := Lib.hid (HB.out.ext B)
    replace L := Lib.hid (L.out.ext B)
    replace N := Lib.hid (N.out.ext B)
    clear B
    have c0 := Y.out.c 0 _ rfl
    have c1 := Y.out.c 1 _ rfl
    have c2 := Y.out.c 2 _ rfl
    have c3 := Y.out.c 3 _ rfl
    have c4 := Y.out.c 4 _ rfl
    have c5 := Y.out.c 5 _ rfl
    have c6 := Y.out.c 6 _ rfl
    have c7 := Y.out.c 7 _ rfl
    go_wp2_with fail
    refine (weight_at (a := { a with rs := ⟨A2, q2, m⟩ }) (cl := cl) wn we HN1.out HCM.out.1 HB.out).mono ?_
    rintro e z6 ⟨rfl, B⟩
    clear c0 c1 c2 c3 c4 c5 c6 c7
    replace E := Lib.hid (ext_trans E.out B)
    replace HA := Lib.hid (HA.out.ext B)
    replace X := Lib.hid (X.out.ext B)
    replace Y := Lib.hid (Y.out.ext B)
    replace HB := Lib.hid (HB.out.ext B)
    replace L := Lib.hid (L.out.ext B)
    replace N := Lib.hid (N.out.ext B)
    clear B
    have c0 := X.out.c 0 _ rfl
    have c1 := X.out.c 1 _ rfl
    have c2 := X.out.c 2 _ rfl
    have c3 := X.out.c 3 _ rfl
    have c4 := X.out.c 4 _ rfl
    have c5 := X.out.c 5 _ rfl
    have c6 := X.out.c 6 _ rfl
    have c7 := X.out.c 7 _ rfl
    go_wp2_with fail
    refine (longest_at (a := a) (cl := cl) wl we HWL.out HWE.out HA.out).mono ?_
    rintro e z7 ⟨rfl, B⟩
    clear c0 c1 c2 c3 c4 c5 c6 c7
    replace E := Lib.hid (ext_trans E.out B)
    replace HA := Lib.hid (HA.out.ext B)
    replace X := Lib.hid (X.out.ext B)
    replace Y := Lib.hid (Y.out.ext B)
    replace HB := Lib.hid (HB.out.ext B)
    replace L := Lib.hid (L.out.ext B)
    replace N := Lib.hid (N.out.ext B)
    clear B
    have c0 := Y.out.c 0 _ rfl
    have c1 := Y.out.c 1 _ rfl
    have c2 := Y.out.c 2 _ rfl
    have c3 := Y.out.c 3 _ rfl
    have c4 := Y.out.c 4 _ rfl
    have c5 := Y.out.c 5 _ rfl
    have c6 := Y.out.c 6 _ rfl
    have c7 := Y.out.c 7 _ rfl
    go_wp2_with fail
    refine (longest_at (a := { a with rs := ⟨A2, q2, m⟩ }) (cl := cl) wl we HN2.out HCM.out.1 HB.out).mono ?_
    rintro e z8 ⟨rfl, B⟩
    clear c0 c1 c2 c3 c4 c5 c6 c7
    replace E := Lib.hid (ext_trans E.out B)
    replace HA := Lib.hid (HA.out.ext B)
    replace X := Lib.hid (X.out.ext B)
    replace Y := Lib.hid (Y.out.ext B)
    replace HB := Lib.hid (HB.out.ext B)
    replace L := Lib.hid (L.out.ext B)
    replace N := Lib.hid (N.out.ext B)
    clear B
    go_wp2_with fail
    refine (sameSp true (by simp) rfl rfl L.out N.out (by have := HCl.out; omega)).mono ?_
    rintro e z9 ⟨rfl, B⟩
    replace E := Lib.hid (ext_trans E.out B)
    replace HA := Lib.hid (HA.out.ext B)
    replace X := Lib.hid (X.out.ext B)
    replace Y := Lib.hid (Y.out.ext B)
    replace HB := Lib.hid (HB.out.ext B)
    replace L := Lib.hid (L.out.ext B)
    replace N := Lib.hid (N.out.ext B)
    clear B
    clear N
    by_cases he0 : e0 = 0
    rotate_left
    · have f9 : (e0 == 0) = false := by simp [he0]
      clear he0 HCv
      have c0 := X.out.c 7 _ rfl
      go_wp2_with fail
      clear c0
      go_loopw [145] (fun i W => ∃ j : Nat, j ≤ a.rs.l.length ∧ i = .int .i64 j ∧ Below z9.heap.size z9 W) (fun i _ => a.rs.l.length - (intOf i).toNat)
      case atStart => exact ⟨0, Nat.zero_le _, rfl, ext_refl _⟩
      case round =>
        obtain ⟨j, hj, rfl, hB⟩ := hrel
        have F := Lib.hid hB
        clear hB
        by_cases hjt : j < a.rs.l.length
        rotate_left
        · obtain rfl : j = a.rs.l.length := by omega
          go_wp2_with fail
          go_ret
          exact ⟨rfl, ext_trans E.out F.out⟩
        · obtain ⟨x, b1, o1, hx, hA1, hb1, hd⟩ := (HA.out.rs.ext F.out).at_ hjt
          have d0 := hd 0 _ rfl
          have d1 := hd 1 _ rfl
          have d2 := hd 2 _ rfl
          have d3 := hd 3 _ rfl
          have d4 := hd 4 _ rfl
          have d5 := hd 5 _ rfl
          have d6 := hd 6 _ rfl
          have d7 := hd 7 _ rfl
          simp only [Nat.add_zero] at d0
          have hjt' : (j : Int) < a.rs.l.length := by omega
          have F2 := Lib.hid (ext_alloc F.out (.cells #[.int .i64 x.k, .string x.sc, .string x.sa, .int .i64 x.cl, .int .i64 x.ap, .int .i64 x.n, .int .i64 x.f, .int .i64 x.t] 42))
          have HX := Lib.hid (List.mem_of_getElem? hx)
          clear hd hx
          by_cases hwe : we = 0
          rotate_left
          · have f0 : (we == 0) = false := by simp [hwe]
            clear hwe
            go_wp2_with fail
            try rw [← hA1]
            first
              | exact ⟨⟨j + 1, hjt, by go_num, F2.out⟩, by simp [intOf]; omega⟩
              | (go_roundw
                 case rel => exact ⟨j + 1, hjt, by go_num, F2.out⟩
                 case measure => simp [intOf]; omega)
          have f0 : (we == 0) = true := by simp [hwe]
          by_cases hcl : x.cl = cl
          rotate_left
          · have f1 : (x.cl == cl) = false := by simp [hcl]
            clear hwe hcl
            go_wp2_with fail
            try rw [← hA1]
            first
              | exact ⟨⟨j + 1, hjt, by go_num, F2.out⟩, by simp [intOf]; omega⟩
              | (go_roundw
                 case rel => exact ⟨j + 1, hjt, by go_num, F2.out⟩
                 case measure => simp [intOf]; omega)
          have f1 : (x.cl == cl) = true := by simp [hcl]
          obtain ⟨g2, g4, g3⟩ := HFn.out hwe x HX.out hcl
          clear hwe hcl
          by_cases k2 : x.k = 2
          · have f2 : (x.k == 2) = true := by simp [k2]
            have f3 : (wl != 0) = false := by simp [g2 k2]
            have f4 : (x.k == 4) = false := by simp [k2]
            have f5 : (x.k == 3) = false := by simp [k2]
            clear g2 g4 g3 k2
            go_wp2_with fail
            try rw [← hA1]
            first
              | exact ⟨⟨j + 1, hjt, by go_num, F2.out⟩, by simp [intOf]; omega⟩
              | (go_roundw
                 case rel => exact ⟨j + 1, hjt, by go_num, F2.out⟩
                 case measure => simp [intOf]; omega)
          have f2 : (x.k == 2) = false := by simp [k2]
          by_cases k4 : x.k = 4
          · have f4 : (x.k == 4) = true := by simp [k4]
            have f3 : (wl != x.n) = false := by simp [g4 k4]
            have f5 : (x.k == 3) = false := by simp [k4]
            clear g2 g4 g3 k2 k4
            go_wp2_with fail
            try rw [← hA1]
            first
              | exact ⟨⟨j + 1, hjt, by go_num, F2.out⟩, by simp [intOf]; omega⟩
              | (go_roundw
                 case rel => exact ⟨j + 1, hjt, by go_num, F2.out⟩
                 case measure => simp [intOf]; omega)
          have f4 : (x.k == 4) = false := by simp [k4]
          by_cases k3 : x.k = 3
          · have f5 : (x.k == 3) = true := by simp [k3]
            have f3 : (wn != x.n) = false := by simp [g3 k3]
            clear g2 g4 g3 k2 k4 k3
            go_wp2_with fail
            try rw [← hA1]
            first
              | exact ⟨⟨j + 1, hjt, by go_num, F2.out⟩, by simp [intOf]; omega⟩
              | (go_roundw
                 case rel => exact ⟨j + 1, hjt, by go_num, F2.out⟩
                 case measure => simp [intOf]; omega)
          have f5 : (x.k == 3) = false := by simp [k3]
          clear g2 g4 g3 k2 k4 k3
          go_wp2_with fail
          try rw [← hA1]
          first
            | exact ⟨⟨j + 1, hjt, by go_num, F2.out⟩, by simp [intOf]; omega⟩
            | (go_roundw
               case rel => exact ⟨j + 1, hjt, by go_num, F2.out⟩
               case measure => simp [intOf]; omega)
    have HCv2 := Lib.hid (HCv.out he0)
    subst he0
    clear HCv
    go_wp2_with fail
    refine (covers_at false HCv2.out rfl L.out (by have := HCl.out; omega)).mono ?_
    rintro e z10 ⟨rfl, B⟩
    replace E := Lib.hid (ext_trans E.out B)
    replace HA := Lib.hid (HA.out.ext B)
    replace X := Lib.hid (X.out.ext B)
    replace Y := Lib.hid (Y.out.ext B)
    replace HB := Lib.hid (HB.out.ext B)
    replace L := Lib.hid (L.out.ext B)
    clear B
    have c0 := X.out.c 7 _ rfl
    go_wp2_with fail
    clear c0
    go_loopw [145] (fun i W => ∃ j : Nat, j ≤ a.rs.l.length ∧ i = .int .i64 j ∧ Below z10.heap.size z10 W) (fun i _ => a.rs.l.length - (intOf i).toNat)
    case atStart => exact ⟨0, Nat.zero_le _, rfl, ext_refl _⟩
    case round =>
      obtain ⟨j, hj, rfl, hB⟩ := hrel
      have F := Lib.hid hB
      clear hB
      by_cases hjt : j < a.rs.l.length
      rotate_left
      · obtain rfl : j = a.rs.l.length := by omega
        go_wp2_with fail
        go_ret
        exact ⟨rfl, ext_trans E.out F.out⟩
      · obtain ⟨x, b1, o1, hx, hA1, hb1, hd⟩ := (HA.out.rs.ext F.out).at_ hjt
        have d0 := hd 0 _ rfl
        have d1 := hd 1 _ rfl
        have d2 := hd 2 _ rfl
        have d3 := hd 3 _ rfl
        have d4 := hd 4 _ rfl
        have d5 := hd 5 _ rfl
        have d6 := hd 6 _ rfl
        have d7 := hd 7 _ rfl
        simp only [Nat.add_zero] at d0
        have hjt' : (j : Int) < a.rs.l.length := by omega
        have F2 := Lib.hid (ext_alloc F.out (.cells #[.int .i64 x.k, .string x.sc, .string x.sa, .int .i64 x.cl, .int .i64 x.ap, .int .i64 x.n, .int .i64 x.f, .int .i64 x.t] 42))
        have HX := Lib.hid (List.mem_of_getElem? hx)
        clear hd hx
        by_cases hwe : we = 0
        rotate_left
        · have f0 : (we == 0) = false := by simp [hwe]
          clear hwe
          go_wp2_with fail
          try rw [← hA1]
          first
            | exact ⟨⟨j + 1, hjt, by go_num, F2.out⟩, by simp [intOf]; omega⟩
            | (go_roundw
               case rel => exact ⟨j + 1, hjt, by go_num, F2.out⟩
               case measure => simp [intOf]; omega)
        have f0 : (we == 0) = true := by simp [hwe]
        by_cases hcl : x.cl = cl
        rotate_left
        · have f1 : (x.cl == cl) = false := by simp [hcl]
          clear hwe hcl
          go_wp2_with fail
          try rw [← hA1]
          first
            | exact ⟨⟨j + 1, hjt, by go_num, F2.out⟩, by simp [intOf]; omega⟩
            | (go_roundw
               case rel => exact ⟨j + 1, hjt, by go_num, F2.out⟩
               case measure => simp [intOf]; omega)
        have f1 : (x.cl == cl) = true := by simp [hcl]
        obtain ⟨g2, g4, g3⟩ := HFn.out hwe x HX.out hcl
        clear hwe hcl
        by_cases k2 : x.k = 2
        · have f2 : (x.k == 2) = true := by simp [k2]
          have f3 : (wl != 0) = false := by simp [g2 k2]
          have f4 : (x.k == 4) = false := by simp [k2]
          have f5 : (x.k == 3) = false := by simp [k2]
          clear g2 g4 g3 k2
          go_wp2_with fail
          try rw [← hA1]
          first
            | exact ⟨⟨j + 1, hjt, by go_num, F2.out⟩, by simp [intOf]; omega⟩
            | (go_roundw
               case rel => exact ⟨j + 1, hjt, by go_num, F2.out⟩
               case measure => simp [intOf]; omega)
        have f2 : (x.k == 2) = false := by simp [k2]
        by_cases k4 : x.k = 4
        · have f4 : (x.k == 4) = true := by simp [k4]
          have f3 : (wl != x.n) = false := by simp [g4 k4]
          have f5 : (x.k == 3) = false := by simp [k4]
          clear g2 g4 g3 k2 k4
          go_wp2_with fail
          try rw [← hA1]
          first
            | exact ⟨⟨j + 1, hjt, by go_num, F2.out⟩, by simp [intOf]; omega⟩
            | (go_roundw
               case rel => exact ⟨j + 1, hjt, by go_num, F2.out⟩
               case measure => simp [intOf]; omega)
        have f4 : (x.k == 4) = false := by simp [k4]
        by_cases k3 : x.k = 3
        · have f5 : (x.k == 3) = true := by simp [k3]
          have f3 : (wn != x.n) = false := by simp [g3 k3]
          clear g2 g4 g3 k2 k4 k3
          go_wp2_with fail
          try rw [← hA1]
          first
            | exact ⟨⟨j + 1, hjt, by go_num, F2.out⟩, by simp [intOf]; omega⟩
            | (go_roundw
               case rel => exact ⟨j + 1, hjt, by go_num, F2.out⟩
               case measure => simp [intOf]; omega)
        have f5 : (x.k == 3) = false := by simp [k3]
        clear g2 g4 g3 k2 k4 k3
        go_wp2_with fail
        try rw [← hA1]
        first
          | exact ⟨⟨j + 1, hjt, by go_num, F2.out⟩, by simp [intOf]; omega⟩
          | (go_roundw
             case rel => exact ⟨j + 1, hjt, by go_num, F2.out⟩
             case measure => simp [intOf]; omega)
end Go.Proofs.Ytmgpbjpohbpgpaa
