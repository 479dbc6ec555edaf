/- NetworkLost, walked. -/
import Derived.Test.YthchcimialclkaaQ3
set_option linter.unusedSimpArgs false
set_option linter.unusedVariables false
namespace Go.Proofs.Ythchcimialclkaa
open Go.RowKit
theorem lose_at {n : Nt} {i : Int} {w : World} (q : List Pk) (ap : List Lk) (r : Int) (hq : n.loseQ i = q) (ha : n.loseA i = ap) (hr : n.atE i = r) (hn : NOk w n) : Calls Try.prog 21 #[.agg #[.slice n.q.A n.q.l.length n.q.c, .slice n.ap.A n.ap.l.length n.ap.c], .int .i64 i] w (NetR w n.off q ap r) := by
  subst hq ha hr; exact lose_any n i w hn
theorem okP_mem {n : Nt} (h : chkE n = 0) {p : Pk} (hp : p ∈ n.q.l) : okP p = true := by
  unfold chkE at h
  by_cases hc : chkN n.q.l n.ap.l = true
  · unfold chkN at hc; simp only [Bool.and_eq_true, List.all_eq_true] at hc; exact hc.1.2 p hp
  · rw [if_neg hc] at h; cases h
theorem chk_iff {n : Nt} : chkE n = 0 ↔ n.q.l.length ≤ 4096 ∧ (∀ p ∈ n.q.l, okP p = true) ∧ okA n.ap.l = true := by
  unfold chkE
  by_cases hc : chkN n.q.l n.ap.l = true
  · simp only [hc, if_true, true_iff]; unfold chkN at hc; simp only [Bool.and_eq_true, List.all_eq_true, decide_eq_true_eq] at hc; exact ⟨hc.1.1, hc.1.2, hc.2⟩
  · simp only [hc]
    refine ⟨fun h => by simp at h, fun h => absurd ?_ hc⟩
    unfold chkN; simp only [Bool.and_eq_true, List.all_eq_true, decide_eq_true_eq]; exact ⟨⟨h.1, h.2.1⟩, h.2.2⟩
section
variable {n : Nt} {k : Nat} (hc : chkE n = 0) (hk : k < n.q.l.length)
include hc hk
theorem atE_ok : n.atE k = 0 := by unfold Nt.atE; rw [if_neg (by simpa using hc), if_neg (by omega)]
theorem atP_ok : n.atP k = n.q.l[k] := by unfold Nt.atP; rw [if_pos (atE_ok hc hk)]; simp [hk]
theorem loseQ_ok : n.loseQ k = delN n.q.l k := by unfold Nt.loseQ; rw [if_pos (atE_ok hc hk)]; simp
theorem loseA_ok : n.loseA k = n.ap.l := by unfold Nt.loseA; rw [if_pos (atE_ok hc hk)]
theorem sendE_ok (hl : n.q.l.length < 4096) : n.sendE n.q.l[k] = 0 := by
  unfold Nt.sendE; rw [if_neg (by simp [hc, okP_mem hc (List.getElem_mem hk)]), if_neg (by omega)]
theorem repE_ok (hl : n.q.l.length < 4096) : n.repE k = 0 := by unfold Nt.repE; rw [if_pos (atE_ok hc hk), atP_ok hc hk, sendE_ok hc hk hl]
theorem repQ_ok (hl : n.q.l.length < 4096) : n.repQ k = n.q.l ++ [n.q.l[k]] := by unfold Nt.repQ; rw [if_pos (atE_ok hc hk), atP_ok hc hk]; unfold Nt.sendQ; rw [if_pos (sendE_ok hc hk hl)]
theorem repA_ok (hl : n.q.l.length < 4096) : n.repA k = n.ap.l := by unfold Nt.repA; rw [if_pos (atE_ok hc hk), atP_ok hc hk]; unfold Nt.sendA; rw [if_pos (sendE_ok hc hk hl)]
end
theorem del_len {l : List Pk} {k : Nat} (hk : k < l.length) : (delN l k).length + 1 = l.length := by simp [delN]; omega
theorem del_app {l : List Pk} {k : Nat} (hk : k < l.length) (x : Pk) : delN (l ++ [x]) k = delN l k ++ [x] := by
  unfold delN
  rw [List.take_append_of_le_length (by omega), List.drop_append_of_le_length (by omega), List.append_assoc]
set_option maxHeartbeats 8000000 in
set_option maxRecDepth 100000 in
theorem law7 (n : Nt) (at_ : Int) (w : World) (hn : NOk w n) (hw : (Lit.int .u64 at_).wf = true) : Calls Try.prog 7 #[n.v, .int .u64 at_] w (Tru w) := by
  have h0 : 0 ≤ at_ := by simp [Lit.wf, IntKind.min, IntKind.max, IntKind.signed, IntKind.bits] at hw; omega
  have h1 : at_ < 18446744073709551616 := by simp [Lit.wf, IntKind.min, IntKind.max, IntKind.signed, IntKind.bits] at hw; omega
  clear hw
  have E := Lib.hid (ext_alloc (ext_refl w) (.cells #[.slice n.q.A n.q.l.length n.q.c, .slice n.ap.A n.ap.l.length n.ap.c] 25))
  have X1 := Lib.hid (Blk.new w [.slice n.q.A n.q.l.length n.q.c, .slice n.ap.A n.ap.l.length n.ap.c] 25)
  cases hf : fewN n
  · have HF := Lib.hid hf
    clear hf
    go_enter Try.func7, Try.ntmps7
    go_wp2_with fail
    refine (sane_any _).mono ?_
    rintro e v1 ⟨rfl, B⟩
    replace E := Lib.hid (ext_trans E.out B)
    replace X1 := Lib.hid (X1.out.ext B)
    have c0 := X1.out.c 0 _ rfl
    have c1 := X1.out.c 1 _ rfl
    go_wp2_with fail
    refine (few_at false HF.out (hn.ext E.out)).mono ?_
    rintro e v2 ⟨rfl, B⟩
    clear c0 c1
    replace E := Lib.hid (ext_trans E.out B)
    replace X1 := Lib.hid (X1.out.ext B)
    go_wp2_with fail
    go_ret
    exact ⟨rfl, E.out⟩
  have HF := Lib.hid hf
  clear hf
  obtain ⟨c, hc⟩ : ∃ c, chkE n = c := ⟨_, rfl⟩
  have HC := Lib.hid hc
  have hc01 := chkE_or n
  rw [hc] at hc01
  clear hc
  rcases hc01 with rfl | rfl
  rotate_left
  · go_enter Try.func7, Try.ntmps7
    go_wp2_with fail
    refine (sane_any _).mono ?_
    rintro e v1 ⟨rfl, B⟩
    replace E := Lib.hid (ext_trans E.out B)
    replace X1 := Lib.hid (X1.out.ext B)
    have c0 := X1.out.c 0 _ rfl
    have c1 := X1.out.c 1 _ rfl
    go_wp2_with fail
    refine (few_at true HF.out (hn.ext E.out)).mono ?_
    rintro e v2 ⟨rfl, B⟩
    clear c0 c1
    replace E := Lib.hid (ext_trans E.out B)
    replace X1 := Lib.hid (X1.out.ext B)
    have c0 := X1.out.c 0 _ rfl
    have c1 := X1.out.c 1 _ rfl
    go_wp2_with fail
    refine (check_at 460 HC.out (hn.ext E.out)).mono ?_
    rintro e v3 ⟨rfl, B⟩
    clear c0 c1
    replace E := Lib.hid (ext_trans E.out B)
    replace X1 := Lib.hid (X1.out.ext B)
    go_wp2_with fail
    go_ret
    exact ⟨rfl, E.out⟩
  have hfew : n.q.l.length ≤ 40 := by have := HF.out; unfold fewN at this; simp at this; exact this.1
  by_cases hl : n.q.l.length = 0
  · have hl1 : ((n.q.l.length : Int) == 0) = true := by simp [hl]
    clear hl
    go_enter Try.func7, Try.ntmps7
    go_wp2_with fail
    refine (sane_any _).mono ?_
    rintro e v1 ⟨rfl, B⟩
    replace E := Lib.hid (ext_trans E.out B)
    replace X1 := Lib.hid (X1.out.ext B)
    have c0 := X1.out.c 0 _ rfl
    have c1 := X1.out.c 1 _ rfl
    go_wp2_with fail
    refine (few_at true HF.out (hn.ext E.out)).mono ?_
    rintro e v2 ⟨rfl, B⟩
    clear c0 c1
    replace E := Lib.hid (ext_trans E.out B)
    replace X1 := Lib.hid (X1.out.ext B)
    have c0 := X1.out.c 0 _ rfl
    have c1 := X1.out.c 1 _ rfl
    go_wp2_with fail
    refine (check_at 0 HC.out (hn.ext E.out)).mono ?_
    rintro e v3 ⟨rfl, B⟩
    clear c0 c1
    replace E := Lib.hid (ext_trans E.out B)
    replace X1 := Lib.hid (X1.out.ext B)
    have n0 := X1.out.c 0 _ rfl
    go_wp2_with fail
    go_ret
    exact ⟨rfl, E.out⟩
  have hl1 : ((n.q.l.length : Int) == 0) = false := by rw [beq_eq_false_iff_ne]; omega
  have hl0 : (0 : Int) < n.q.l.length := by omega
  have hl2 : ((n.q.l.length : Int)) ≠ 0 := by omega
  have hu : IntKind.u64.wrap (n.q.l.length : Int) = n.q.l.length := by simp [IntKind.wrap, IntKind.signed, IntKind.bits]; omega
  obtain ⟨k, hk⟩ : ∃ k : Nat, at_ % (n.q.l.length : Int) = k := ⟨(at_ % (n.q.l.length : Int)).toNat, by have := Int.emod_nonneg at_ hl2; omega⟩
  have hkl : k < n.q.l.length := by have := Int.emod_lt_of_pos at_ hl0; omega
  have hk2 : at_.tmod (n.q.l.length : Int) = k := by rw [Int.tmod_eq_emod_of_nonneg h0]; exact hk
  have hi : IntKind.i64.wrap (k : Int) = k := IntWalk.i64_in _ (by omega)
  have HL := Lib.hid hl
  clear hl
  go_enter Try.func7, Try.ntmps7
  go_wp2_with fail
  refine (sane_any _).mono ?_
  rintro e v1 ⟨rfl, B⟩
  replace E := Lib.hid (ext_trans E.out B)
  replace X1 := Lib.hid (X1.out.ext B)
  have c0 := X1.out.c 0 _ rfl
  have c1 := X1.out.c 1 _ rfl
  go_wp2_with fail
  refine (few_at true HF.out (hn.ext E.out)).mono ?_
  rintro e v2 ⟨rfl, B⟩
  clear c0 c1
  replace E := Lib.hid (ext_trans E.out B)
  replace X1 := Lib.hid (X1.out.ext B)
  have c0 := X1.out.c 0 _ rfl
  have c1 := X1.out.c 1 _ rfl
  go_wp2_with fail
  refine (check_at 0 HC.out (hn.ext E.out)).mono ?_
  rintro e v3 ⟨rfl, B⟩
  clear c0 c1
  replace E := Lib.hid (ext_trans E.out B)
  replace X1 := Lib.hid (X1.out.ext B)
  obtain ⟨p, hp⟩ : ∃ p, n.delP k = p := ⟨_, rfl⟩
  have HP := Lib.hid hp
  clear hp
  have c0 := X1.out.c 0 _ rfl
  have c1 := X1.out.c 1 _ rfl
  go_wp2_with fail
  refine (deliver_at (n := n) (i := k) p (delN n.q.l k) n.ap.l 0 HP.out (loseQ_ok HC.out hkl) (loseA_ok HC.out hkl) (atE_ok HC.out hkl) (hn.ext E.out)).mono ?_
  rintro e v4 ⟨a, rfl, hq, ha, hm, B, ho⟩
  clear c0 c1
  replace E := Lib.hid (ext_trans E.out B)
  replace X1 := Lib.hid (X1.out.ext B)
  have HAq := Lib.hid (show _ ∧ _ from ⟨hq, ha⟩)
  have NA := Lib.hid hm
  clear hq ha hm ho
  clear hu hk hk2 hi
  replace E := Lib.hid (ext_alloc E.out (.cells #[.int .i64 p.f, .int .i64 p.t, .slice p.d.A p.d.l.length p.d.c] 28))
  replace X1 := Lib.hid (X1.out.alloc (.cells #[.int .i64 p.f, .int .i64 p.t, .slice p.d.A p.d.l.length p.d.c] 28))
  replace NA := Lib.hid (NA.out.alloc (.cells #[.int .i64 p.f, .int .i64 p.t, .slice p.d.A p.d.l.length p.d.c] 28))
  replace E := Lib.hid (ext_alloc E.out (.cells #[.slice a.q.A a.q.l.length a.q.c, .slice a.ap.A a.ap.l.length a.ap.c] 25))
  replace X1 := Lib.hid (X1.out.alloc (.cells #[.slice a.q.A a.q.l.length a.q.c, .slice a.ap.A a.ap.l.length a.ap.c] 25))
  replace NA := Lib.hid (NA.out.alloc (.cells #[.slice a.q.A a.q.l.length a.q.c, .slice a.ap.A a.ap.l.length a.ap.c] 25))
  have X7 := Lib.hid (Blk.newH (v4.alloc (.cells #[.int .i64 p.f, .int .i64 p.t, .slice p.d.A p.d.l.length p.d.c] 28)) [.slice a.q.A a.q.l.length a.q.c, .slice a.ap.A a.ap.l.length a.ap.c] 25 (v4.heap.size + 1) (by first | rfl | simp))
  have c0 := X1.out.c 0 _ rfl
  have c1 := X1.out.c 1 _ rfl
  go_wp2_with fail
  refine (lose_at (n := n) (i := k) (delN n.q.l k) n.ap.l 0 (loseQ_ok HC.out hkl) (loseA_ok HC.out hkl) (atE_ok HC.out hkl) (hn.ext E.out)).mono ?_
  rintro e v5 ⟨b, rfl, hq, ha, hm, B, ho⟩
  clear c0 c1
  replace E := Lib.hid (ext_trans E.out B)
  replace X1 := Lib.hid (X1.out.ext B)
  replace NA := Lib.hid (NA.out.ext B)
  replace X7 := Lib.hid (X7.out.ext B)
  have HBq := Lib.hid (show _ ∧ _ from ⟨hq, ha⟩)
  have NB := Lib.hid hm
  clear hq ha hm ho
  replace E := Lib.hid (ext_alloc E.out (.cells #[.slice b.q.A b.q.l.length b.q.c, .slice b.ap.A b.ap.l.length b.ap.c] 25))
  replace X1 := Lib.hid (X1.out.alloc (.cells #[.slice b.q.A b.q.l.length b.q.c, .slice b.ap.A b.ap.l.length b.ap.c] 25))
  replace NA := Lib.hid (NA.out.alloc (.cells #[.slice b.q.A b.q.l.length b.q.c, .slice b.ap.A b.ap.l.length b.ap.c] 25))
  replace X7 := Lib.hid (X7.out.alloc (.cells #[.slice b.q.A b.q.l.length b.q.c, .slice b.ap.A b.ap.l.length b.ap.c] 25))
  replace NB := Lib.hid (NB.out.alloc (.cells #[.slice b.q.A b.q.l.length b.q.c, .slice b.ap.A b.ap.l.length b.ap.c] 25))
  have X9 := Lib.hid (Blk.newH v5 [.slice b.q.A b.q.l.length b.q.c, .slice b.ap.A b.ap.l.length b.ap.c] 25 (v5.heap.size) (by first | rfl | simp))
  have c0 := X1.out.c 0 _ rfl
  have c1 := X1.out.c 1 _ rfl
  go_wp2_with fail
  refine (rep_at (n := n) (i := k) (n.q.l ++ [n.q.l[k]]) n.ap.l 0 (repQ_ok HC.out hkl (by omega)) (repA_ok HC.out hkl (by omega)) (repE_ok HC.out hkl (by omega)) (hn.ext E.out)).mono ?_
  rintro e v6 ⟨c, rfl, hq, ha, hm, B, ho⟩
  clear c0 c1
  replace E := Lib.hid (ext_trans E.out B)
  replace X1 := Lib.hid (X1.out.ext B)
  replace NA := Lib.hid (NA.out.ext B)
  replace X7 := Lib.hid (X7.out.ext B)
  replace NB := Lib.hid (NB.out.ext B)
  replace X9 := Lib.hid (X9.out.ext B)
  have HCq := Lib.hid (show _ ∧ _ from ⟨hq, ha⟩)
  have NC := Lib.hid hm
  clear hq ha hm ho
  have HCC := Lib.hid (show chkE c = 0 by rw [chk_iff, HCq.out.1, HCq.out.2]; have := chk_iff.1 HC.out; refine ⟨by simp; omega, fun p hp => ?_, this.2.2⟩; exact (List.mem_append.1 hp).elim (this.2.1 p) (fun h => by rw [List.mem_singleton.1 h]; exact this.2.1 _ (List.getElem_mem _)))
  have HCL := Lib.hid (show k < c.q.l.length by rw [HCq.out.1]; simp; omega)
  replace E := Lib.hid (ext_alloc E.out (.cells #[.slice c.q.A c.q.l.length c.q.c, .slice c.ap.A c.ap.l.length c.ap.c] 25))
  replace X1 := Lib.hid (X1.out.alloc (.cells #[.slice c.q.A c.q.l.length c.q.c, .slice c.ap.A c.ap.l.length c.ap.c] 25))
  replace NA := Lib.hid (NA.out.alloc (.cells #[.slice c.q.A c.q.l.length c.q.c, .slice c.ap.A c.ap.l.length c.ap.c] 25))
  replace X7 := Lib.hid (X7.out.alloc (.cells #[.slice c.q.A c.q.l.length c.q.c, .slice c.ap.A c.ap.l.length c.ap.c] 25))
  replace NB := Lib.hid (NB.out.alloc (.cells #[.slice c.q.A c.q.l.length c.q.c, .slice c.ap.A c.ap.l.length c.ap.c] 25))
  replace X9 := Lib.hid (X9.out.alloc (.cells #[.slice c.q.A c.q.l.length c.q.c, .slice c.ap.A c.ap.l.length c.ap.c] 25))
  replace NC := Lib.hid (NC.out.alloc (.cells #[.slice c.q.A c.q.l.length c.q.c, .slice c.ap.A c.ap.l.length c.ap.c] 25))
  have X11 := Lib.hid (Blk.newH v6 [.slice c.q.A c.q.l.length c.q.c, .slice c.ap.A c.ap.l.length c.ap.c] 25 (v6.heap.size) (by first | rfl | simp))
  have c0 := X11.out.c 0 _ rfl
  have c1 := X11.out.c 1 _ rfl
  go_wp2_with fail
  refine (lose_at (n := c) (i := k) (delN n.q.l k ++ [n.q.l[k]]) n.ap.l 0 (by rw [loseQ_ok HCC.out HCL.out, HCq.out.1, del_app hkl]) (by rw [loseA_ok HCC.out HCL.out, HCq.out.2]) (atE_ok HCC.out HCL.out) NC.out).mono ?_
  rintro e v7 ⟨d, rfl, hq, ha, hm, B, ho⟩
  clear c0 c1
  replace E := Lib.hid (ext_trans E.out B)
  replace X1 := Lib.hid (X1.out.ext B)
  replace NA := Lib.hid (NA.out.ext B)
  replace X7 := Lib.hid (X7.out.ext B)
  replace NB := Lib.hid (NB.out.ext B)
  replace X9 := Lib.hid (X9.out.ext B)
  replace NC := Lib.hid (NC.out.ext B)
  replace X11 := Lib.hid (X11.out.ext B)
  have HDq := Lib.hid (show _ ∧ _ from ⟨hq, ha⟩)
  have ND := Lib.hid hm
  clear hq ha hm ho
  replace E := Lib.hid (ext_alloc E.out (.cells #[.slice d.q.A d.q.l.length d.q.c, .slice d.ap.A d.ap.l.length d.ap.c] 25))
  replace X1 := Lib.hid (X1.out.alloc (.cells #[.slice d.q.A d.q.l.length d.q.c, .slice d.ap.A d.ap.l.length d.ap.c] 25))
  replace NA := Lib.hid (NA.out.alloc (.cells #[.slice d.q.A d.q.l.length d.q.c, .slice d.ap.A d.ap.l.length d.ap.c] 25))
  replace X7 := Lib.hid (X7.out.alloc (.cells #[.slice d.q.A d.q.l.length d.q.c, .slice d.ap.A d.ap.l.length d.ap.c] 25))
  replace NB := Lib.hid (NB.out.alloc (.cells #[.slice d.q.A d.q.l.length d.q.c, .slice d.ap.A d.ap.l.length d.ap.c] 25))
  replace X9 := Lib.hid (X9.out.alloc (.cells #[.slice d.q.A d.q.l.length d.q.c, .slice d.ap.A d.ap.l.length d.ap.c] 25))
  replace NC := Lib.hid (NC.out.alloc (.cells #[.slice d.q.A d.q.l.length d.q.c, .slice d.ap.A d.ap.l.length d.ap.c] 25))
  replace X11 := Lib.hid (X11.out.alloc (.cells #[.slice d.q.A d.q.l.length d.q.c, .slice d.ap.A d.ap.l.length d.ap.c] 25))
  replace ND := Lib.hid (ND.out.alloc (.cells #[.slice d.q.A d.q.l.length d.q.c, .slice d.ap.A d.ap.l.length d.ap.c] 25))
  have X13 := Lib.hid (Blk.newH v7 [.slice d.q.A d.q.l.length d.q.c, .slice d.ap.A d.ap.l.length d.ap.c] 25 (v7.heap.size) (by first | rfl | simp))
  obtain ⟨w5, hw5⟩ : ∃ w5, (v7.alloc (.cells #[.slice d.q.A d.q.l.length d.q.c, .slice d.ap.A d.ap.l.length d.ap.c] 25)) = w5 := ⟨_, rfl⟩
  rw [hw5] at E X1 NA X7 NB X9 NC X11 ND X13
  obtain ⟨x, b1, o1, hx, hA, hb1, hcx⟩ := (hn.q.ext E.out).at_ hkl
  have HX := Lib.hid (show n.q.l[k] = x by rw [List.getElem?_eq_getElem hkl] at hx; exact Option.some.inj hx)
  have n0 := X1.out.c 0 _ rfl
  have n1 := X1.out.c 1 _ rfl
  have b0 := X9.out.c 0 _ rfl
  have bb := X9.out.c 1 _ rfl
  have d0 := hcx 0 _ rfl
  have d1 := hcx 1 _ rfl
  have d2 := hcx 2 _ rfl
  simp only [Nat.add_zero] at d0
  rw [hA] at n0
  have hk' : (k : Int) < n.q.l.length := by omega
  have hk0 : (0 : Int) ≤ k := by omega
  have hkn : (k : Int).toNat = k := by omega
  have HSB := Lib.hid (show b.sendE x = 0 ∧ b.sendQ x = delN n.q.l k ++ [n.q.l[k]] ∧ b.sendA x = n.ap.l by
    have h := chk_iff.1 HC.out
    have h0 : chkE b = 0 := by rw [chk_iff, HBq.out.1, HBq.out.2]; exact ⟨by have := del_len hkl; omega, fun p hp => h.2.1 p (mem_del hp), h.2.2⟩
    have h1 : b.sendE x = 0 := by
      unfold Nt.sendE; rw [if_neg (by rw [← HX.out]; simp [h0, okP_mem HC.out (List.getElem_mem hkl)]), if_neg (by rw [HBq.out.1]; have := del_len hkl; omega)]
    refine ⟨h1, ?_, ?_⟩
    · unfold Nt.sendQ; rw [if_pos h1, HBq.out.1, HX.out]
    · unfold Nt.sendA; rw [if_pos h1, HBq.out.2])
  have hxm : x ∈ n.q.l := by rw [← HX.out]; exact List.getElem_mem hkl
  have HD := Lib.hid (show _ ∧ _ from ⟨(hn.d x hxm).ext E.out, hn.dl x hxm⟩)
  clear hcx hx hA hxm
  have s1 := X1.out.lt
  have s9 := X9.out.lt
  have SS := Lib.hid (show ∀ w', Below w5.heap.size w5 w' → (fun w' => Below w5.heap.size w5 w' ∧ w'.cell? ⟨w.heap.size, 0, none⟩ = some (.slice (some ⟨b1, o1, none⟩) n.q.l.length n.q.c) ∧ w'.cell? ⟨v5.heap.size, 0, none⟩ = some (.slice b.q.A b.q.l.length b.q.c) ∧ w'.cell? ⟨v5.heap.size, 1, none⟩ = some (.slice b.ap.A b.ap.l.length b.ap.c) ∧ w'.cell? ⟨b1, o1 + k * 3, none⟩ = some (.int .i64 x.f) ∧ w'.cell? ⟨b1, o1 + k * 3 + 1, none⟩ = some (.int .i64 x.t) ∧ w'.cell? ⟨b1, o1 + k * 3 + 2, none⟩ = some (.slice x.d.A x.d.l.length x.d.c)) w' from fun w' h => ⟨h, (h.cell (p := ⟨w.heap.size, 0, none⟩) s1).trans n0, (h.cell (p := ⟨v5.heap.size, 0, none⟩) s9).trans b0, (h.cell (p := ⟨v5.heap.size, 1, none⟩) s9).trans bb, (h.cell (p := ⟨b1, _, none⟩) hb1).trans d0, (h.cell (p := ⟨b1, _, none⟩) hb1).trans d1, (h.cell (p := ⟨b1, _, none⟩) hb1).trans d2⟩)
  go_wp2_with fail
  try rw [hw5]
  clear hw5 n0 n1 b0 bb d0 d1 d2 s1 s9
  refine rg_begin (S := (fun w' => Below w5.heap.size w5 w' ∧ w'.cell? ⟨w.heap.size, 0, none⟩ = some (.slice (some ⟨b1, o1, none⟩) n.q.l.length n.q.c) ∧ w'.cell? ⟨v5.heap.size, 0, none⟩ = some (.slice b.q.A b.q.l.length b.q.c) ∧ w'.cell? ⟨v5.heap.size, 1, none⟩ = some (.slice b.ap.A b.ap.l.length b.ap.c) ∧ w'.cell? ⟨b1, o1 + k * 3, none⟩ = some (.int .i64 x.f) ∧ w'.cell? ⟨b1, o1 + k * 3 + 1, none⟩ = some (.int .i64 x.t) ∧ w'.cell? ⟨b1, o1 + k * 3 + 2, none⟩ = some (.slice x.d.A x.d.l.length x.d.c))) 11 (by kernel_rfl) (by intro d; cases d <;> intro _ _ _ _ h <;> exact h) ?_ (fun Q7 hQ7 hN7 hHeld => ?_)
  · exact SS.out _ (ext_drew (ext_refl w5))
  refine rg_take (i := 0) (some 66) (v := ?_) rfl rfl (by kernel_rfl) (by rfl) hQ7 hHeld ?_ ?_
  rotate_left
  · intro w7 hSw; (try dsimp only at hSw); go_simp; all_goals with_reducible rfl
  try simp only [Act.put, List.setIfInBounds_toArray, List.set_cons_zero, List.set_cons_succ]
  refine rg_take (i := 1) (some 67) (v := ?_) rfl rfl (by kernel_rfl) (by rfl) hQ7 hHeld ?_ ?_
  rotate_left
  · intro w7 hSw; (try dsimp only at hSw); go_simp; all_goals with_reducible rfl
  try simp only [Act.put, List.setIfInBounds_toArray, List.set_cons_zero, List.set_cons_succ]
  refine rg_take (i := 2) (some 68) (v := ?_) rfl rfl (by kernel_rfl) (by rfl) hQ7 hHeld ?_ ?_
  rotate_left
  · intro w7 hSw; (try dsimp only at hSw); go_simp; all_goals with_reducible rfl
  try simp only [Act.put, List.setIfInBounds_toArray, List.set_cons_zero, List.set_cons_succ]
  refine rg_take (i := 3) (some 69) (v := ?_) rfl rfl (by kernel_rfl) (by rfl) hQ7 hHeld ?_ ?_
  rotate_left
  · intro w7 hSw; (try dsimp only at hSw); go_simp; all_goals with_reducible rfl
  try simp only [Act.put, List.setIfInBounds_toArray, List.set_cons_zero, List.set_cons_succ]
  refine rg_take (i := 4) (some 70) (v := ?_) rfl rfl (by kernel_rfl) (by rfl) hQ7 hHeld ?_ ?_
  rotate_left
  · intro w7 hSw; (try dsimp only at hSw); go_simp; all_goals with_reducible rfl
  try simp only [Act.put, List.setIfInBounds_toArray, List.set_cons_zero, List.set_cons_succ]
  refine rg_take (i := 5) (some 71) (v := ?_) rfl rfl (by kernel_rfl) (by rfl) hQ7 hHeld ?_ ?_
  rotate_left
  · intro w7 hSw; (try dsimp only at hSw); go_simp; all_goals with_reducible rfl
  try simp only [Act.put, List.setIfInBounds_toArray, List.set_cons_zero, List.set_cons_succ]
  refine rg_two (i := 6) (j := 10) (by kernel_rfl) (rg_step rfl (by rfl) (fun K hK => ?_)) (rg_step rfl (by rfl) (fun K hK => ?_))
  · go_simp
    refine (send_at (n := b) (p := x) (delN n.q.l k ++ [n.q.l[k]]) n.ap.l 0 HSB.out.2.1 HSB.out.2.2 HSB.out.1 (NB.out.ext hHeld.1) (HD.out.1.ext hHeld.1) HD.out.2).mono ?_
    rintro e x6 ⟨m, rfl, hq, ha, hm, B6, ho⟩
    go_wp2_with fail
    refine hK.out _ _ ?_ (fun hHeld2 => ?_)
    · exact SS.out _ (ext_trans hHeld.1 B6)
    clear hHeld
    have hHeld := hHeld2
    clear hHeld2
    clear hK K
    try simp only [Act.put, List.setIfInBounds_toArray, List.set_cons_zero, List.set_cons_succ]
    have BX := hHeld.1
    have HMq := Lib.hid (show _ ∧ _ from ⟨hq, ha⟩)
    clear hq ha
    refine rg_take (i := 7) (some 65) (v := ?_) rfl rfl (by kernel_rfl) (by rfl) hQ7 hHeld ?_ ?_
    rotate_left
    · intro w7 hSw; (try dsimp only at hSw); go_simp; all_goals with_reducible rfl
    try simp only [Act.put, List.setIfInBounds_toArray, List.set_cons_zero, List.set_cons_succ]
    refine rg_take (i := 8) (some 73) (v := ?_) rfl rfl (by kernel_rfl) (by rfl) hQ7 hHeld ?_ ?_
    rotate_left
    · intro w7 hSw; (try dsimp only at hSw); go_simp; all_goals with_reducible rfl
    try simp only [Act.put, List.setIfInBounds_toArray, List.set_cons_zero, List.set_cons_succ]
    refine rg_pure (i := 9) (some 74) (v := ?_) rfl rfl (by kernel_rfl) (by rfl) hQ7 (by first | exact .inr hHeld | exact .inl (by kernel_rfl)) ?_ ?_
    rotate_left
    · intro w7; go_simp; all_goals with_reducible rfl
    try simp only [Act.put, List.setIfInBounds_toArray, List.set_cons_zero, List.set_cons_succ]
    refine rg_one (i := 10) (by kernel_rfl) (rg_step rfl (by rfl) (fun K hK => ?_))
    go_simp
    refine hK.out _ _ ?_ (fun hHeld2 => ?_)
    · exact SS.out _ (ext_alloc hHeld.1 _)
    clear hHeld
    have hHeld := hHeld2
    clear hHeld2
    clear hK K
    try simp only [Act.put, List.setIfInBounds_toArray, List.set_cons_zero, List.set_cons_succ]
    have NM := Lib.hid (hm.alloc (.cells #[.slice none 0 0, .slice none 0 0] 25))
    have XM := Lib.hid (Blk.new x6 [.slice none 0 0, .slice none 0 0] 25)
    obtain ⟨HB, hHB⟩ : ∃ HB, x6.heap.size = HB := ⟨_, rfl⟩
    have hge : w5.heap.size ≤ HB := by rw [← hHB]; exact BX.size
    have hoff := hm.off (b := HB) (by omega)
    rw [hHB] at XM
    obtain ⟨x7, hx7⟩ : ∃ x7, x6.alloc (.cells #[.slice none 0 0, .slice none 0 0] 25) = x7 := ⟨_, rfl⟩
    rw [hx7] at NM XM
    have B7 : Below w5.heap.size w5 x7 := by rw [← hx7]; exact ext_alloc BX _
    have z0 := XM.out.c 0 _ rfl
    have z1 := XM.out.c 1 _ rfl
    have zf := XM.out.f
    refine rg_one (i := 11) (by kernel_rfl) (rg_late rfl (by rfl) (by kernel_rfl) (fun K hK => ?_))
    go_simp
    refine hK.out _ _ ?_
    clear hK K
    try simp only [Act.put, List.setIfInBounds_toArray, List.set_cons_zero, List.set_cons_succ]
    refine rg_one (i := 12) (by kernel_rfl) (rg_late rfl (by rfl) (by kernel_rfl) (fun K hK => ?_))
    go_simp
    refine hK.out _ _ ?_
    clear hK K
    try simp only [Act.put, List.setIfInBounds_toArray, List.set_cons_zero, List.set_cons_succ]
    refine rg_end (by kernel_rfl) (hN7 _ _ ?_) _
    clear hQ7 hN7 Q7
    have hB8 : Below w5.heap.size w5 (set2 x7 HB (.slice m.q.A m.q.l.length m.q.c) (.slice m.ap.A m.ap.l.length m.ap.c)) := ext_set2 B7 HB _ _ hge
    have N8 := Lib.hid ((NM.out.set (p := ⟨HB, 0, none⟩) (.slice m.q.A m.q.l.length m.q.c) hoff).set (p := ⟨HB, 1, none⟩) (.slice m.ap.A m.ap.l.length m.ap.c) hoff)
    have X15 := Lib.hid (XM.out.put2 (.slice m.q.A m.q.l.length m.q.c) (.slice m.ap.A m.ap.l.length m.ap.c))
    replace E := Lib.hid (ext_trans E.out hB8)
    replace X1 := Lib.hid (X1.out.ext hB8)
    replace X7 := Lib.hid (X7.out.ext hB8)
    replace X9 := Lib.hid (X9.out.ext hB8)
    replace X11 := Lib.hid (X11.out.ext hB8)
    replace X13 := Lib.hid (X13.out.ext hB8)
    replace NA := Lib.hid (NA.out.ext hB8)
    replace NB := Lib.hid (NB.out.ext hB8)
    replace NC := Lib.hid (NC.out.ext hB8)
    replace ND := Lib.hid (ND.out.ext hB8)
    clear hB8 hoff hge NM XM z0 z1 zf hm ho B6 BX B7 hHeld
    unfold set2 at *
    obtain ⟨x8, hx8⟩ : ∃ x8, (x7.setCell ⟨HB, 0, none⟩ (.slice m.q.A m.q.l.length m.q.c)).setCell ⟨HB, 1, none⟩ (.slice m.ap.A m.ap.l.length m.ap.c) = x8 := ⟨_, rfl⟩
    rw [hx8] at E X1 X7 X9 X11 X13 X15 NA NB NC ND N8
    try simp only [hx7, hHB, hx8, sz_drew]
    have c0 := X7.out.c 0 _ rfl
    have c1 := X7.out.c 1 _ rfl
    have c2 := X9.out.c 0 _ rfl
    have c3 := X9.out.c 1 _ rfl
    go_wp2_with fail
    refine (same_at (a := a) (b := b) true (sameN_eq (by rw [HAq.out.1, HBq.out.1]) (by rw [HAq.out.2, HBq.out.2])) NA.out NB.out).mono ?_
    rintro e y1 ⟨rfl, B⟩
    clear c0 c1 c2 c3
    replace E := Lib.hid (ext_trans E.out B)
    replace X1 := Lib.hid (X1.out.ext B)
    replace X7 := Lib.hid (X7.out.ext B)
    replace X9 := Lib.hid (X9.out.ext B)
    replace X11 := Lib.hid (X11.out.ext B)
    replace X13 := Lib.hid (X13.out.ext B)
    replace NA := Lib.hid (NA.out.ext B)
    replace NB := Lib.hid (NB.out.ext B)
    replace NC := Lib.hid (NC.out.ext B)
    replace ND := Lib.hid (ND.out.ext B)
    replace X15 := Lib.hid (X15.out.ext B)
    replace N8 := Lib.hid (N8.out.ext B)
    have c0 := X13.out.c 0 _ rfl
    have c1 := X13.out.c 1 _ rfl
    have c2 := X15.out.c 0 _ rfl
    have c3 := X15.out.c 1 _ rfl
    go_wp2_with fail
    refine (same_at (a := d) (b := m) true (sameN_eq (by rw [HDq.out.1, HMq.out.1]) (by rw [HDq.out.2, HMq.out.2])) ND.out N8.out).mono ?_
    rintro e y2 ⟨rfl, B⟩
    clear c0 c1 c2 c3
    replace E := Lib.hid (ext_trans E.out B)
    replace X1 := Lib.hid (X1.out.ext B)
    replace X7 := Lib.hid (X7.out.ext B)
    replace X9 := Lib.hid (X9.out.ext B)
    replace X11 := Lib.hid (X11.out.ext B)
    replace X13 := Lib.hid (X13.out.ext B)
    replace NA := Lib.hid (NA.out.ext B)
    replace NB := Lib.hid (NB.out.ext B)
    replace NC := Lib.hid (NC.out.ext B)
    replace ND := Lib.hid (ND.out.ext B)
    replace X15 := Lib.hid (X15.out.ext B)
    replace N8 := Lib.hid (N8.out.ext B)
    have c0 := X11.out.c 0 _ rfl
    have c1 := X1.out.c 0 _ rfl
    rw [show c.q.l.length = n.q.l.length + 1 by rw [HCq.out.1]; simp] at c0
    go_wp2_with fail
    go_ret
    exact ⟨rfl, E.out⟩
  · go_simp
    refine hK.out _ _ ?_ (fun hHeld2 => ?_)
    · exact SS.out _ (ext_alloc hHeld.1 _)
    clear hHeld
    have hHeld := hHeld2
    clear hHeld2
    clear hK K
    try simp only [Act.put, List.setIfInBounds_toArray, List.set_cons_zero, List.set_cons_succ]
    refine rg_one (i := 6) (by kernel_rfl) (rg_step rfl (by rfl) (fun K hK => ?_))
    go_simp
    refine (send_at (n := b) (p := x) (delN n.q.l k ++ [n.q.l[k]]) n.ap.l 0 HSB.out.2.1 HSB.out.2.2 HSB.out.1 (NB.out.ext hHeld.1) (HD.out.1.ext hHeld.1) HD.out.2).mono ?_
    rintro e x6 ⟨m, rfl, hq, ha, hm, B6, ho⟩
    go_wp2_with fail
    refine hK.out _ _ ?_ (fun hHeld2 => ?_)
    · exact SS.out _ (ext_trans hHeld.1 B6)
    clear hHeld
    have hHeld := hHeld2
    clear hHeld2
    clear hK K
    try simp only [Act.put, List.setIfInBounds_toArray, List.set_cons_zero, List.set_cons_succ]
    have BX := hHeld.1
    have HMq := Lib.hid (show _ ∧ _ from ⟨hq, ha⟩)
    clear hq ha
    refine rg_take (i := 7) (some 65) (v := ?_) rfl rfl (by kernel_rfl) (by rfl) hQ7 hHeld ?_ ?_
    rotate_left
    · intro w7 hSw; (try dsimp only at hSw); go_simp; all_goals with_reducible rfl
    try simp only [Act.put, List.setIfInBounds_toArray, List.set_cons_zero, List.set_cons_succ]
    refine rg_take (i := 8) (some 73) (v := ?_) rfl rfl (by kernel_rfl) (by rfl) hQ7 hHeld ?_ ?_
    rotate_left
    · intro w7 hSw; (try dsimp only at hSw); go_simp; all_goals with_reducible rfl
    try simp only [Act.put, List.setIfInBounds_toArray, List.set_cons_zero, List.set_cons_succ]
    refine rg_pure (i := 9) (some 74) (v := ?_) rfl rfl (by kernel_rfl) (by rfl) hQ7 (by first | exact .inr hHeld | exact .inl (by kernel_rfl)) ?_ ?_
    rotate_left
    · intro w7; go_simp; all_goals with_reducible rfl
    try simp only [Act.put, List.setIfInBounds_toArray, List.set_cons_zero, List.set_cons_succ]
    have NM := Lib.hid hm
    have XM := Lib.hid (Blk.ext (Blk.new w5.drew [.slice none 0 0, .slice none 0 0] 25) B6)
    obtain ⟨HB, hHB⟩ : ∃ HB, w5.heap.size = HB := ⟨_, rfl⟩
    have hge : w5.heap.size ≤ HB := by omega
    have hlt := (Blk.new w5.drew [.slice none 0 0, .slice none 0 0] 25).lt
    have hoff : m.off HB := ho HB (by rw [← hHB]; exact hlt) ⟨NB.out.off (by omega), HD.out.1.rowOff (by omega)⟩
    rw [show w5.drew.heap.size = HB from hHB] at XM
    obtain ⟨x7, hx7⟩ : ∃ x7, x6 = x7 := ⟨_, rfl⟩
    rw [hx7] at NM XM
    have B7 : Below w5.heap.size w5 x7 := by rw [← hx7]; exact BX
    have z0 := XM.out.c 0 _ rfl
    have z1 := XM.out.c 1 _ rfl
    have zf := XM.out.f
    refine rg_one (i := 11) (by kernel_rfl) (rg_late rfl (by rfl) (by kernel_rfl) (fun K hK => ?_))
    go_simp
    refine hK.out _ _ ?_
    clear hK K
    try simp only [Act.put, List.setIfInBounds_toArray, List.set_cons_zero, List.set_cons_succ]
    refine rg_one (i := 12) (by kernel_rfl) (rg_late rfl (by rfl) (by kernel_rfl) (fun K hK => ?_))
    go_simp
    refine hK.out _ _ ?_
    clear hK K
    try simp only [Act.put, List.setIfInBounds_toArray, List.set_cons_zero, List.set_cons_succ]
    refine rg_end (by kernel_rfl) (hN7 _ _ ?_) _
    clear hQ7 hN7 Q7
    have hB8 : Below w5.heap.size w5 (set2 x7 HB (.slice m.q.A m.q.l.length m.q.c) (.slice m.ap.A m.ap.l.length m.ap.c)) := ext_set2 B7 HB _ _ hge
    have N8 := Lib.hid ((NM.out.set (p := ⟨HB, 0, none⟩) (.slice m.q.A m.q.l.length m.q.c) hoff).set (p := ⟨HB, 1, none⟩) (.slice m.ap.A m.ap.l.length m.ap.c) hoff)
    have X15 := Lib.hid (XM.out.put2 (.slice m.q.A m.q.l.length m.q.c) (.slice m.ap.A m.ap.l.length m.ap.c))
    replace E := Lib.hid (ext_trans E.out hB8)
    replace X1 := Lib.hid (X1.out.ext hB8)
    replace X7 := Lib.hid (X7.out.ext hB8)
    replace X9 := Lib.hid (X9.out.ext hB8)
    replace X11 := Lib.hid (X11.out.ext hB8)
    replace X13 := Lib.hid (X13.out.ext hB8)
    replace NA := Lib.hid (NA.out.ext hB8)
    replace NB := Lib.hid (NB.out.ext hB8)
    replace NC := Lib.hid (NC.out.ext hB8)
    replace ND := Lib.hid (ND.out.ext hB8)
    clear hB8 hoff hge NM XM z0 z1 zf hm ho B6 BX B7 hHeld
    unfold set2 at *
    obtain ⟨x8, hx8⟩ : ∃ x8, (x7.setCell ⟨HB, 0, none⟩ (.slice m.q.A m.q.l.length m.q.c)).setCell ⟨HB, 1, none⟩ (.slice m.ap.A m.ap.l.length m.ap.c) = x8 := ⟨_, rfl⟩
    rw [hx8] at E X1 X7 X9 X11 X13 X15 NA NB NC ND N8
    try simp only [hx7, hHB, hx8, sz_drew]
    have c0 := X7.out.c 0 _ rfl
    have c1 := X7.out.c 1 _ rfl
    have c2 := X9.out.c 0 _ rfl
    have c3 := X9.out.c 1 _ rfl
    go_wp2_with fail
    refine (same_at (a := a) (b := b) true (sameN_eq (by rw [HAq.out.1, HBq.out.1]) (by rw [HAq.out.2, HBq.out.2])) NA.out NB.out).mono ?_
    rintro e y1 ⟨rfl, B⟩
    clear c0 c1 c2 c3
    replace E := Lib.hid (ext_trans E.out B)
    replace X1 := Lib.hid (X1.out.ext B)
    replace X7 := Lib.hid (X7.out.ext B)
    replace X9 := Lib.hid (X9.out.ext B)
    replace X11 := Lib.hid (X11.out.ext B)
    replace X13 := Lib.hid (X13.out.ext B)
    replace NA := Lib.hid (NA.out.ext B)
    replace NB := Lib.hid (NB.out.ext B)
    replace NC := Lib.hid (NC.out.ext B)
    replace ND := Lib.hid (ND.out.ext B)
    replace X15 := Lib.hid (X15.out.ext B)
    replace N8 := Lib.hid (N8.out.ext B)
    have c0 := X13.out.c 0 _ rfl
    have c1 := X13.out.c 1 _ rfl
    have c2 := X15.out.c 0 _ rfl
    have c3 := X15.out.c 1 _ rfl
    go_wp2_with fail
    refine (same_at (a := d) (b := m) true (sameN_eq (by rw [HDq.out.1, HMq.out.1]) (by rw [HDq.out.2, HMq.out.2])) ND.out N8.out).mono ?_
    rintro e y2 ⟨rfl, B⟩
    clear c0 c1 c2 c3
    replace E := Lib.hid (ext_trans E.out B)
    replace X1 := Lib.hid (X1.out.ext B)
    replace X7 := Lib.hid (X7.out.ext B)
    replace X9 := Lib.hid (X9.out.ext B)
    replace X11 := Lib.hid (X11.out.ext B)
    replace X13 := Lib.hid (X13.out.ext B)
    replace NA := Lib.hid (NA.out.ext B)
    replace NB := Lib.hid (NB.out.ext B)
    replace NC := Lib.hid (NC.out.ext B)
    replace ND := Lib.hid (ND.out.ext B)
    replace X15 := Lib.hid (X15.out.ext B)
    replace N8 := Lib.hid (N8.out.ext B)
    have c0 := X11.out.c 0 _ rfl
    have c1 := X1.out.c 0 _ rfl
    rw [show c.q.l.length = n.q.l.length + 1 by rw [HCq.out.1]; simp] at c0
    go_wp2_with fail
    go_ret
    exact ⟨rfl, E.out⟩
end Go.Proofs.Ythchcimialclkaa
