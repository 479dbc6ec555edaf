/- NetworkCuts, walked. -/
import Derived.Test.YthchcimialclkaaQ7
set_option linter.unusedSimpArgs false
set_option linter.unusedVariables false
namespace Go.Proofs.Ythchcimialclkaa
open Go.RowKit
theorem okA_sub (f : Lk → Bool) : okA (allL.filter f) = true := by
  simp only [allL, List.filter]
  cases f ⟨0, 1⟩ <;> cases f ⟨0, 2⟩ <;> cases f ⟨0, 3⟩ <;> cases f ⟨1, 2⟩ <;> cases f ⟨1, 3⟩ <;> cases f ⟨2, 3⟩ <;> rfl
theorem mem_allL {x : Lk} : okL x = true ↔ x ∈ allL := by
  constructor
  · intro h
    simp only [okL, Bool.and_eq_true, decide_eq_true_eq] at h
    obtain ⟨a, b⟩ := x
    simp only at h
    have : (a = 0 ∨ a = 1 ∨ a = 2) ∧ (b = 1 ∨ b = 2 ∨ b = 3) := by omega
    rcases this with ⟨rfl | rfl | rfl, rfl | rfl | rfl⟩ <;> simp [allL] <;> omega
  · intro h
    simp only [allL, List.mem_cons, List.not_mem_nil, or_false] at h
    rcases h with rfl | rfl | rfl | rfl | rfl | rfl <;> rfl
theorem hasL_iff {l : List Lk} {x : Lk} : hasL l x = true ↔ x ∈ l := by
  unfold hasL; rw [List.any_eq_true]; exact ⟨fun ⟨y, hy, h⟩ => by rw [of_decide_eq_true h]; exact hy, fun h => ⟨x, h, by simp⟩⟩
theorem hasL_cuts {l : List Lk} {ch x : Lk} {on : Bool} (hx : x ∈ allL) : hasL (cutsL l ch on) x = keepL l ch on x := by
  rw [Bool.eq_iff_iff, hasL_iff]; unfold cutsL; rw [List.mem_filter]; exact ⟨fun h => h.2, fun h => ⟨hx, h⟩⟩
theorem cuts_cuts (l : List Lk) (ch : Lk) (on on2 : Bool) : cutsL (cutsL l ch on) ch on2 = cutsL l ch on2 := by
  unfold cutsL
  refine List.filter_congr (fun x hx => ?_)
  have := hasL_cuts (l := l) (ch := ch) (on := on) hx
  unfold cutsL at this
  unfold keepL at this ⊢
  split
  · rfl
  · rename_i h; rw [this, if_neg h]
theorem filter_more {l : List Lk} (hn : l.Nodup) {ch : Lk} (hc : ch ∈ l) (f : Lk → Bool) : (l.filter (fun x => if x = ch then true else f x)).length = (l.filter (fun x => if x = ch then false else f x)).length + 1 := by
  induction l with
  | nil => cases hc
  | cons y l ih =>
    rw [List.nodup_cons] at hn
    by_cases h : y = ch
    · subst h
      have e : l.filter (fun x => if x = y then true else f x) = l.filter (fun x => if x = y then false else f x) := List.filter_congr (fun x hx => by
        have : x ≠ y := by rintro rfl; exact hn.1 hx
        simp [this])
      rw [List.filter_cons_of_pos (by simp), List.filter_cons_of_neg (by simp), e, List.length_cons]
    · have hc' : ch ∈ l := by
        rcases List.mem_cons.1 hc with h' | h'
        · exact absurd h'.symm h
        · exact h'
      have := ih hn.2 hc'
      cases hf : f y
      · rw [List.filter_cons_of_neg (by simp [h, hf]), List.filter_cons_of_neg (by simp [h, hf])]; exact this
      · rw [List.filter_cons_of_pos (by simp [h, hf]), List.filter_cons_of_pos (by simp [h, hf]), List.length_cons, List.length_cons]; omega
theorem cuts_more {l : List Lk} {ch : Lk} (hc : okL ch = true) : (cutsL l ch true).length = (cutsL l ch false).length + 1 :=
  filter_more (l := allL) (by decide +kernel) (mem_allL.1 hc) (hasL l)
theorem btw_comm (a b : Int) : btw b a = btw a b := by unfold btw; rw [Int.min_comm, Int.max_comm]
theorem btw_eq {a b c d : Int} (h : btw a b = btw c d) : a = c ∧ b = d ∨ a = d ∧ b = c := by
  simp only [btw, Lk.mk.injEq] at h; omega
theorem okL_ne {a b : Int} (h : okL (btw a b) = true) : a ≠ b := by
  rintro rfl
  simp [okL, btw] at h
section
variable {n : Nt} (hc : chkE n = 0) {a b : Int} (ho : okL (btw a b) = true)
include hc ho
theorem cutE_ok : n.cutE a b = 0 := by unfold Nt.cutE; rw [if_neg (by simpa using hc), if_pos ho]
theorem cutQ_ok : n.cutQ a b = n.q.l := by unfold Nt.cutQ; rw [if_pos (cutE_ok hc ho)]
theorem cutA_ok (on : Bool) : n.cutA a b on = cutsL n.ap.l (btw a b) on := by unfold Nt.cutA; rw [if_pos (cutE_ok hc ho)]
end
theorem chk_cut {n m : Nt} {ch : Lk} {on : Bool} (hc : chkE n = 0) (hq : m.q.l = n.q.l) (ha : m.ap.l = cutsL n.ap.l ch on) : chkE m = 0 := by
  rw [chk_iff, hq, ha]; exact ⟨(chk_iff.1 hc).1, (chk_iff.1 hc).2.1, okA_sub _⟩
theorem NOk.delP {w : World} {n : Nt} (h : NOk w n) (j : Int) : Slc w bc 1 (n.delP j).d.A (n.delP j).d.l := by
  unfold Nt.delP
  split
  · exact Slc.nil
  · exact (h.atP j).1
/-- What the two deliveries say of a packet. -/
def Betw (p q : Pk) (a b : Int) : Prop := (q.f = a ∧ q.t = b ∨ q.f = b ∧ q.t = a) ∧ sameP p zeroP = true ∨ ¬ (q.f = a ∧ q.t = b ∨ q.f = b ∧ q.t = a) ∧ sameP p zeroP = sameP q zeroP ∧ sameP p q = true
theorem betw_of {n x k : Nt} {a b : Int} {j : Nat} (hc : chkE n = 0) (ho : okL (btw a b) = true) (hj : j < n.q.l.length) (xq : x.q.l = n.q.l) (xa : x.ap.l = cutsL n.ap.l (btw a b) true) (kq : k.q.l = n.q.l) (ka : k.ap.l = cutsL n.ap.l (btw a b) false) :
    Betw (x.delP j) (k.delP j) a b := by
  have hP : okP n.q.l[j] = true := okP_mem hc (List.getElem_mem hj)
  have hl : okL (btw n.q.l[j].f n.q.l[j].t) = true := by unfold okP at hP; simp only [Bool.and_eq_true] at hP; exact hP.1
  have dx : x.delP j = if hasL x.ap.l (btw n.q.l[j].f n.q.l[j].t) then zeroP else n.q.l[j] := by
    have h0 := chk_cut hc xq xa
    have hj' : j < x.q.l.length := by rw [xq]; exact hj
    unfold Nt.delP; rw [atP_ok h0 hj']; simp only [atE_ok h0 hj', xq, true_and]
  have dk : k.delP j = if hasL k.ap.l (btw n.q.l[j].f n.q.l[j].t) then zeroP else n.q.l[j] := by
    have h0 := chk_cut hc kq ka
    have hj' : j < k.q.l.length := by rw [kq]; exact hj
    unfold Nt.delP; rw [atP_ok h0 hj']; simp only [atE_ok h0 hj', kq, true_and]
  rw [dx, dk, xa, ka, hasL_cuts (mem_allL.1 hl), hasL_cuts (mem_allL.1 hl)]
  unfold keepL
  by_cases he : btw n.q.l[j].f n.q.l[j].t = btw a b
  · left
    rw [if_pos he, if_pos he]
    refine ⟨?_, sameP_self _⟩
    rcases btw_eq he with h | h
    · exact .inl h
    · exact .inr h
  · right
    rw [if_neg he, if_neg he]
    refine ⟨?_, rfl, sameP_self _⟩
    have hne := okL_ne ho
    cases hasL n.ap.l (btw n.q.l[j].f n.q.l[j].t)
    · simp only [Bool.false_eq_true, if_false]
      rintro (⟨h1, h2⟩ | ⟨h1, h2⟩)
      · exact he (by rw [h1, h2])
      · exact he (by rw [h1, h2, btw_comm])
    · simp only [if_true, zeroP]
      rintro (⟨h1, h2⟩ | ⟨h1, h2⟩)
      · exact hne (h1.symm.trans h2)
      · exact hne (h2.symm.trans h1)
set_option maxHeartbeats 16000000 in
set_option maxRecDepth 100000 in
theorem law5 (n : Nt) (a b at_ : Int) (w : World) (hn : NOk w n) (hw : (Lit.int .u64 at_).wf = true) : Calls Try.prog 5 #[n.v, .int .i64 a, .int .i64 b, .int .u64 at_] w (Tru w) := by
  have h0 : 0 ≤ at_ := by simp [Lit.wf, IntKind.min, IntKind.max, IntKind.signed, IntKind.bits] at hw; omega
  have h1 : at_ < 18446744073709551616 := by simp [Lit.wf, IntKind.min, IntKind.max, IntKind.signed, IntKind.bits] at hw; omega
  clear hw
  have E := Lib.hid (ext_alloc (ext_refl w) (.cells #[.slice n.q.A n.q.l.length n.q.c, .slice n.ap.A n.ap.l.length n.ap.c] 25))
  have X1 := Lib.hid (Blk.new w [.slice n.q.A n.q.l.length n.q.c, .slice n.ap.A n.ap.l.length n.ap.c] 25)
  cases hf : fewN n
  · have HF := Lib.hid hf
    clear hf
    go_enter Try.func5, Try.ntmps5
    go_wp2_with fail
    refine (sane_any _).mono ?_
    rintro e v1 ⟨rfl, B⟩
    replace E := Lib.hid (ext_trans E.out B)
    replace X1 := Lib.hid (X1.out.ext B)
    have c0 := X1.out.c 0 _ rfl
    have c1 := X1.out.c 1 _ rfl
    go_wp2_with fail
    refine (few_at false HF.out (hn.ext E.out)).mono ?_
    rintro e v2 ⟨rfl, B⟩
    clear c0 c1
    replace E := Lib.hid (ext_trans E.out B)
    replace X1 := Lib.hid (X1.out.ext B)
    go_wp2_with fail
    go_ret
    exact ⟨rfl, E.out⟩
  have HF := Lib.hid hf
  clear hf
  obtain ⟨c, hc⟩ : ∃ c, chkE n = c := ⟨_, rfl⟩
  have HC := Lib.hid hc
  have hc01 := chkE_or n
  rw [hc] at hc01
  clear hc
  rcases hc01 with rfl | rfl
  rotate_left
  · go_enter Try.func5, Try.ntmps5
    go_wp2_with fail
    refine (sane_any _).mono ?_
    rintro e v1 ⟨rfl, B⟩
    replace E := Lib.hid (ext_trans E.out B)
    replace X1 := Lib.hid (X1.out.ext B)
    have c0 := X1.out.c 0 _ rfl
    have c1 := X1.out.c 1 _ rfl
    go_wp2_with fail
    refine (few_at true HF.out (hn.ext E.out)).mono ?_
    rintro e v2 ⟨rfl, B⟩
    clear c0 c1
    replace E := Lib.hid (ext_trans E.out B)
    replace X1 := Lib.hid (X1.out.ext B)
    have c0 := X1.out.c 0 _ rfl
    have c1 := X1.out.c 1 _ rfl
    go_wp2_with fail
    refine (check_at 460 HC.out (hn.ext E.out)).mono ?_
    rintro e v3 ⟨rfl, B⟩
    clear c0 c1
    replace E := Lib.hid (ext_trans E.out B)
    replace X1 := Lib.hid (X1.out.ext B)
    go_wp2_with fail
    go_ret
    exact ⟨rfl, E.out⟩
  obtain ⟨o, ho⟩ : ∃ o, okL (btw a b) = o := ⟨_, rfl⟩
  have HO := Lib.hid ho
  clear ho
  cases o
  · go_enter Try.func5, Try.ntmps5
    go_wp2_with fail
    refine (sane_any _).mono ?_
    rintro e v1 ⟨rfl, B⟩
    replace E := Lib.hid (ext_trans E.out B)
    replace X1 := Lib.hid (X1.out.ext B)
    have c0 := X1.out.c 0 _ rfl
    have c1 := X1.out.c 1 _ rfl
    go_wp2_with fail
    refine (few_at true HF.out (hn.ext E.out)).mono ?_
    rintro e v2 ⟨rfl, B⟩
    clear c0 c1
    replace E := Lib.hid (ext_trans E.out B)
    replace X1 := Lib.hid (X1.out.ext B)
    have c0 := X1.out.c 0 _ rfl
    have c1 := X1.out.c 1 _ rfl
    go_wp2_with fail
    refine (check_at 0 HC.out (hn.ext E.out)).mono ?_
    rintro e v3 ⟨rfl, B⟩
    clear c0 c1
    replace E := Lib.hid (ext_trans E.out B)
    replace X1 := Lib.hid (X1.out.ext B)
    have c0 := X1.out.c 0 _ rfl
    have c1 := X1.out.c 1 _ rfl
    go_wp2_with fail
    refine (cut_at (n := n) (a := a) (b := b) [] [] 1 (by unfold Nt.cutQ Nt.cutE; simp [HC.out, HO.out]) (by unfold Nt.cutA Nt.cutE; simp [HC.out, HO.out]) (by unfold Nt.cutE; simp [HC.out, HO.out]) (hn.ext E.out)).mono ?_
    rintro e v4 ⟨x, rfl, hq, ha, hm, B, hoff⟩
    clear c0 c1
    replace E := Lib.hid (ext_trans E.out B)
    replace X1 := Lib.hid (X1.out.ext B)
    clear hq ha hm hoff
    replace E := Lib.hid (ext_alloc E.out (.cells #[.slice x.q.A x.q.l.length x.q.c, .slice x.ap.A x.ap.l.length x.ap.c] 25))
    replace X1 := Lib.hid (X1.out.alloc (.cells #[.slice x.q.A x.q.l.length x.q.c, .slice x.ap.A x.ap.l.length x.ap.c] 25))
    go_wp2_with fail
    go_ret
    exact ⟨rfl, E.out⟩
  have hfew : n.q.l.length ≤ 40 := by have := HF.out; unfold fewN at this; simp at this; exact this.1
  go_enter Try.func5, Try.ntmps5
  go_wp2_with fail
  refine (sane_any _).mono ?_
  rintro e v1 ⟨rfl, B⟩
  replace E := Lib.hid (ext_trans E.out B)
  replace X1 := Lib.hid (X1.out.ext B)
  have c0 := X1.out.c 0 _ rfl
  have c1 := X1.out.c 1 _ rfl
  go_wp2_with fail
  refine (few_at true HF.out (hn.ext E.out)).mono ?_
  rintro e v2 ⟨rfl, B⟩
  clear c0 c1
  replace E := Lib.hid (ext_trans E.out B)
  replace X1 := Lib.hid (X1.out.ext B)
  have c0 := X1.out.c 0 _ rfl
  have c1 := X1.out.c 1 _ rfl
  go_wp2_with fail
  refine (check_at 0 HC.out (hn.ext E.out)).mono ?_
  rintro e v3 ⟨rfl, B⟩
  clear c0 c1
  replace E := Lib.hid (ext_trans E.out B)
  replace X1 := Lib.hid (X1.out.ext B)
  have c0 := X1.out.c 0 _ rfl
  have c1 := X1.out.c 1 _ rfl
  go_wp2_with fail
  refine (cut_at (n := n) (a := a) (b := b) n.q.l (cutsL n.ap.l (btw a b) true) 0 (cutQ_ok HC.out HO.out) (cutA_ok HC.out HO.out true) (cutE_ok HC.out HO.out) (hn.ext E.out)).mono ?_
  rintro e v4 ⟨x, rfl, hq, ha, hm, B, hoff⟩
  clear c0 c1
  replace E := Lib.hid (ext_trans E.out B)
  replace X1 := Lib.hid (X1.out.ext B)
  have HX := Lib.hid (show _ ∧ _ from ⟨hq, ha⟩)
  have NX := Lib.hid hm
  clear hq ha hm hoff
  have HXC := Lib.hid (chk_cut HC.out HX.out.1 HX.out.2)
  replace E := Lib.hid (ext_alloc E.out (.cells #[.slice x.q.A x.q.l.length x.q.c, .slice x.ap.A x.ap.l.length x.ap.c] 25))
  replace X1 := Lib.hid (X1.out.alloc (.cells #[.slice x.q.A x.q.l.length x.q.c, .slice x.ap.A x.ap.l.length x.ap.c] 25))
  replace NX := Lib.hid (NX.out.alloc (.cells #[.slice x.q.A x.q.l.length x.q.c, .slice x.ap.A x.ap.l.length x.ap.c] 25))
  have X9 := Lib.hid (Blk.newH v4 [.slice x.q.A x.q.l.length x.q.c, .slice x.ap.A x.ap.l.length x.ap.c] 25 (v4.heap.size) (by first | rfl | simp))
  have c0 := X1.out.c 0 _ rfl
  have c1 := X1.out.c 1 _ rfl
  go_wp2_with fail
  refine (cut_at (n := n) (a := b) (b := a) n.q.l (cutsL n.ap.l (btw a b) true) 0 (cutQ_ok HC.out (by rw [btw_comm]; exact HO.out)) (by rw [cutA_ok HC.out (by rw [btw_comm]; exact HO.out), btw_comm]) (cutE_ok HC.out (by rw [btw_comm]; exact HO.out)) (hn.ext E.out)).mono ?_
  rintro e v5 ⟨y, rfl, hq, ha, hm, B, hoff⟩
  clear c0 c1
  replace E := Lib.hid (ext_trans E.out B)
  replace X1 := Lib.hid (X1.out.ext B)
  replace NX := Lib.hid (NX.out.ext B)
  replace X9 := Lib.hid (X9.out.ext B)
  have HY := Lib.hid (show _ ∧ _ from ⟨hq, ha⟩)
  have NY := Lib.hid hm
  clear hq ha hm hoff
  replace E := Lib.hid (ext_alloc E.out (.cells #[.slice y.q.A y.q.l.length y.q.c, .slice y.ap.A y.ap.l.length y.ap.c] 25))
  replace X1 := Lib.hid (X1.out.alloc (.cells #[.slice y.q.A y.q.l.length y.q.c, .slice y.ap.A y.ap.l.length y.ap.c] 25))
  replace NX := Lib.hid (NX.out.alloc (.cells #[.slice y.q.A y.q.l.length y.q.c, .slice y.ap.A y.ap.l.length y.ap.c] 25))
  replace X9 := Lib.hid (X9.out.alloc (.cells #[.slice y.q.A y.q.l.length y.q.c, .slice y.ap.A y.ap.l.length y.ap.c] 25))
  replace NY := Lib.hid (NY.out.alloc (.cells #[.slice y.q.A y.q.l.length y.q.c, .slice y.ap.A y.ap.l.length y.ap.c] 25))
  have X11 := Lib.hid (Blk.newH v5 [.slice y.q.A y.q.l.length y.q.c, .slice y.ap.A y.ap.l.length y.ap.c] 25 (v5.heap.size) (by first | rfl | simp))
  have c0 := X9.out.c 0 _ rfl
  have c1 := X9.out.c 1 _ rfl
  go_wp2_with fail
  refine (cut_at (n := x) (a := a) (b := b) n.q.l (cutsL n.ap.l (btw a b) true) 0 (by rw [cutQ_ok HXC.out HO.out, HX.out.1]) (by rw [cutA_ok HXC.out HO.out, HX.out.2, cuts_cuts]) (cutE_ok HXC.out HO.out) NX.out).mono ?_
  rintro e v6 ⟨z, rfl, hq, ha, hm, B, hoff⟩
  clear c0 c1
  replace E := Lib.hid (ext_trans E.out B)
  replace X1 := Lib.hid (X1.out.ext B)
  replace NX := Lib.hid (NX.out.ext B)
  replace X9 := Lib.hid (X9.out.ext B)
  replace NY := Lib.hid (NY.out.ext B)
  replace X11 := Lib.hid (X11.out.ext B)
  have HZ := Lib.hid (show _ ∧ _ from ⟨hq, ha⟩)
  have NZ := Lib.hid hm
  clear hq ha hm hoff
  replace E := Lib.hid (ext_alloc E.out (.cells #[.slice z.q.A z.q.l.length z.q.c, .slice z.ap.A z.ap.l.length z.ap.c] 25))
  replace X1 := Lib.hid (X1.out.alloc (.cells #[.slice z.q.A z.q.l.length z.q.c, .slice z.ap.A z.ap.l.length z.ap.c] 25))
  replace NX := Lib.hid (NX.out.alloc (.cells #[.slice z.q.A z.q.l.length z.q.c, .slice z.ap.A z.ap.l.length z.ap.c] 25))
  replace X9 := Lib.hid (X9.out.alloc (.cells #[.slice z.q.A z.q.l.length z.q.c, .slice z.ap.A z.ap.l.length z.ap.c] 25))
  replace NY := Lib.hid (NY.out.alloc (.cells #[.slice z.q.A z.q.l.length z.q.c, .slice z.ap.A z.ap.l.length z.ap.c] 25))
  replace X11 := Lib.hid (X11.out.alloc (.cells #[.slice z.q.A z.q.l.length z.q.c, .slice z.ap.A z.ap.l.length z.ap.c] 25))
  replace NZ := Lib.hid (NZ.out.alloc (.cells #[.slice z.q.A z.q.l.length z.q.c, .slice z.ap.A z.ap.l.length z.ap.c] 25))
  have X13 := Lib.hid (Blk.newH v6 [.slice z.q.A z.q.l.length z.q.c, .slice z.ap.A z.ap.l.length z.ap.c] 25 (v6.heap.size) (by first | rfl | simp))
  have c0 := X9.out.c 0 _ rfl
  have c1 := X9.out.c 1 _ rfl
  go_wp2_with fail
  refine (cut_at (n := x) (a := b) (b := a) n.q.l (cutsL n.ap.l (btw a b) false) 0 (by rw [cutQ_ok HXC.out (by rw [btw_comm]; exact HO.out), HX.out.1]) (by rw [cutA_ok HXC.out (by rw [btw_comm]; exact HO.out), HX.out.2, btw_comm, cuts_cuts]) (cutE_ok HXC.out (by rw [btw_comm]; exact HO.out)) NX.out).mono ?_
  rintro e v7 ⟨m, rfl, hq, ha, hm, B, hoff⟩
  clear c0 c1
  replace E := Lib.hid (ext_trans E.out B)
  replace X1 := Lib.hid (X1.out.ext B)
  replace NX := Lib.hid (NX.out.ext B)
  replace X9 := Lib.hid (X9.out.ext B)
  replace NY := Lib.hid (NY.out.ext B)
  replace X11 := Lib.hid (X11.out.ext B)
  replace NZ := Lib.hid (NZ.out.ext B)
  replace X13 := Lib.hid (X13.out.ext B)
  have HM := Lib.hid (show _ ∧ _ from ⟨hq, ha⟩)
  have NM := Lib.hid hm
  clear hq ha hm hoff
  replace E := Lib.hid (ext_alloc E.out (.cells #[.slice m.q.A m.q.l.length m.q.c, .slice m.ap.A m.ap.l.length m.ap.c] 25))
  replace X1 := Lib.hid (X1.out.alloc (.cells #[.slice m.q.A m.q.l.length m.q.c, .slice m.ap.A m.ap.l.length m.ap.c] 25))
  replace NX := Lib.hid (NX.out.alloc (.cells #[.slice m.q.A m.q.l.length m.q.c, .slice m.ap.A m.ap.l.length m.ap.c] 25))
  replace X9 := Lib.hid (X9.out.alloc (.cells #[.slice m.q.A m.q.l.length m.q.c, .slice m.ap.A m.ap.l.length m.ap.c] 25))
  replace NY := Lib.hid (NY.out.alloc (.cells #[.slice m.q.A m.q.l.length m.q.c, .slice m.ap.A m.ap.l.length m.ap.c] 25))
  replace X11 := Lib.hid (X11.out.alloc (.cells #[.slice m.q.A m.q.l.length m.q.c, .slice m.ap.A m.ap.l.length m.ap.c] 25))
  replace NZ := Lib.hid (NZ.out.alloc (.cells #[.slice m.q.A m.q.l.length m.q.c, .slice m.ap.A m.ap.l.length m.ap.c] 25))
  replace X13 := Lib.hid (X13.out.alloc (.cells #[.slice m.q.A m.q.l.length m.q.c, .slice m.ap.A m.ap.l.length m.ap.c] 25))
  replace NM := Lib.hid (NM.out.alloc (.cells #[.slice m.q.A m.q.l.length m.q.c, .slice m.ap.A m.ap.l.length m.ap.c] 25))
  have X15 := Lib.hid (Blk.newH v7 [.slice m.q.A m.q.l.length m.q.c, .slice m.ap.A m.ap.l.length m.ap.c] 25 (v7.heap.size) (by first | rfl | simp))
  have c0 := X1.out.c 0 _ rfl
  have c1 := X1.out.c 1 _ rfl
  go_wp2_with fail
  refine (cut_at (n := n) (a := a) (b := b) n.q.l (cutsL n.ap.l (btw a b) false) 0 (cutQ_ok HC.out HO.out) (cutA_ok HC.out HO.out false) (cutE_ok HC.out HO.out) (hn.ext E.out)).mono ?_
  rintro e v8 ⟨k, rfl, hq, ha, hm, B, hoff⟩
  clear c0 c1
  replace E := Lib.hid (ext_trans E.out B)
  replace X1 := Lib.hid (X1.out.ext B)
  replace NX := Lib.hid (NX.out.ext B)
  replace X9 := Lib.hid (X9.out.ext B)
  replace NY := Lib.hid (NY.out.ext B)
  replace X11 := Lib.hid (X11.out.ext B)
  replace NZ := Lib.hid (NZ.out.ext B)
  replace X13 := Lib.hid (X13.out.ext B)
  replace NM := Lib.hid (NM.out.ext B)
  replace X15 := Lib.hid (X15.out.ext B)
  have HK := Lib.hid (show _ ∧ _ from ⟨hq, ha⟩)
  have NK := Lib.hid hm
  clear hq ha hm hoff
  have HKC := Lib.hid (chk_cut HC.out HK.out.1 HK.out.2)
  replace E := Lib.hid (ext_alloc E.out (.cells #[.slice k.q.A k.q.l.length k.q.c, .slice k.ap.A k.ap.l.length k.ap.c] 25))
  replace X1 := Lib.hid (X1.out.alloc (.cells #[.slice k.q.A k.q.l.length k.q.c, .slice k.ap.A k.ap.l.length k.ap.c] 25))
  replace NX := Lib.hid (NX.out.alloc (.cells #[.slice k.q.A k.q.l.length k.q.c, .slice k.ap.A k.ap.l.length k.ap.c] 25))
  replace X9 := Lib.hid (X9.out.alloc (.cells #[.slice k.q.A k.q.l.length k.q.c, .slice k.ap.A k.ap.l.length k.ap.c] 25))
  replace NY := Lib.hid (NY.out.alloc (.cells #[.slice k.q.A k.q.l.length k.q.c, .slice k.ap.A k.ap.l.length k.ap.c] 25))
  replace X11 := Lib.hid (X11.out.alloc (.cells #[.slice k.q.A k.q.l.length k.q.c, .slice k.ap.A k.ap.l.length k.ap.c] 25))
  replace NZ := Lib.hid (NZ.out.alloc (.cells #[.slice k.q.A k.q.l.length k.q.c, .slice k.ap.A k.ap.l.length k.ap.c] 25))
  replace X13 := Lib.hid (X13.out.alloc (.cells #[.slice k.q.A k.q.l.length k.q.c, .slice k.ap.A k.ap.l.length k.ap.c] 25))
  replace NM := Lib.hid (NM.out.alloc (.cells #[.slice k.q.A k.q.l.length k.q.c, .slice k.ap.A k.ap.l.length k.ap.c] 25))
  replace X15 := Lib.hid (X15.out.alloc (.cells #[.slice k.q.A k.q.l.length k.q.c, .slice k.ap.A k.ap.l.length k.ap.c] 25))
  replace NK := Lib.hid (NK.out.alloc (.cells #[.slice k.q.A k.q.l.length k.q.c, .slice k.ap.A k.ap.l.length k.ap.c] 25))
  have X17 := Lib.hid (Blk.newH v8 [.slice k.q.A k.q.l.length k.q.c, .slice k.ap.A k.ap.l.length k.ap.c] 25 (v8.heap.size) (by first | rfl | simp))
  have c0 := X9.out.c 0 _ rfl
  have c1 := X9.out.c 1 _ rfl
  have c2 := X11.out.c 0 _ rfl
  have c3 := X11.out.c 1 _ rfl
  go_wp2_with fail
  refine (same_at (a := x) (b := y) true (sameN_eq (by rw [HX.out.1, HY.out.1]) (by rw [HX.out.2, HY.out.2])) NX.out NY.out).mono ?_
  rintro e v9 ⟨rfl, B⟩
  clear c0 c1 c2 c3
  replace E := Lib.hid (ext_trans E.out B)
  replace X1 := Lib.hid (X1.out.ext B)
  replace NX := Lib.hid (NX.out.ext B)
  replace X9 := Lib.hid (X9.out.ext B)
  replace NY := Lib.hid (NY.out.ext B)
  replace X11 := Lib.hid (X11.out.ext B)
  replace NZ := Lib.hid (NZ.out.ext B)
  replace X13 := Lib.hid (X13.out.ext B)
  replace NM := Lib.hid (NM.out.ext B)
  replace X15 := Lib.hid (X15.out.ext B)
  replace NK := Lib.hid (NK.out.ext B)
  replace X17 := Lib.hid (X17.out.ext B)
  have c0 := X9.out.c 0 _ rfl
  have c1 := X9.out.c 1 _ rfl
  have c2 := X13.out.c 0 _ rfl
  have c3 := X13.out.c 1 _ rfl
  go_wp2_with fail
  refine (same_at (a := x) (b := z) true (sameN_eq (by rw [HX.out.1, HZ.out.1]) (by rw [HX.out.2, HZ.out.2])) NX.out NZ.out).mono ?_
  rintro e v10 ⟨rfl, B⟩
  clear c0 c1 c2 c3
  replace E := Lib.hid (ext_trans E.out B)
  replace X1 := Lib.hid (X1.out.ext B)
  replace NX := Lib.hid (NX.out.ext B)
  replace X9 := Lib.hid (X9.out.ext B)
  replace NY := Lib.hid (NY.out.ext B)
  replace X11 := Lib.hid (X11.out.ext B)
  replace NZ := Lib.hid (NZ.out.ext B)
  replace X13 := Lib.hid (X13.out.ext B)
  replace NM := Lib.hid (NM.out.ext B)
  replace X15 := Lib.hid (X15.out.ext B)
  replace NK := Lib.hid (NK.out.ext B)
  replace X17 := Lib.hid (X17.out.ext B)
  have c0 := X15.out.c 0 _ rfl
  have c1 := X15.out.c 1 _ rfl
  have c2 := X17.out.c 0 _ rfl
  have c3 := X17.out.c 1 _ rfl
  go_wp2_with fail
  refine (same_at (a := m) (b := k) true (sameN_eq (by rw [HM.out.1, HK.out.1]) (by rw [HM.out.2, HK.out.2])) NM.out NK.out).mono ?_
  rintro e v11 ⟨rfl, B⟩
  clear c0 c1 c2 c3
  replace E := Lib.hid (ext_trans E.out B)
  replace X1 := Lib.hid (X1.out.ext B)
  replace NX := Lib.hid (NX.out.ext B)
  replace X9 := Lib.hid (X9.out.ext B)
  replace NY := Lib.hid (NY.out.ext B)
  replace X11 := Lib.hid (X11.out.ext B)
  replace NZ := Lib.hid (NZ.out.ext B)
  replace X13 := Lib.hid (X13.out.ext B)
  replace NM := Lib.hid (NM.out.ext B)
  replace X15 := Lib.hid (X15.out.ext B)
  replace NK := Lib.hid (NK.out.ext B)
  replace X17 := Lib.hid (X17.out.ext B)
  clear X11 X13 X15 NY NZ NM
  have hcm := cuts_more (l := n.ap.l) HO.out
  have hcl := cuts_len n.ap.l (btw a b) true
  have c0 := X9.out.c 1 _ rfl
  have c1 := X17.out.c 1 _ rfl
  have hlen : x.ap.l.length = k.ap.l.length + 1 := by rw [HX.out.2, HK.out.2]; exact hcm
  have hkl : k.ap.l.length ≤ 6 := by rw [HK.out.2]; omega
  have hln : ((x.ap.l.length : Int) != (k.ap.l.length : Int) + 1) = false := by simp; omega
  clear hcm hcl hlen
  by_cases hl : n.q.l.length = 0
  · have hl1 : ((n.q.l.length : Int) == 0) = true := by simp [hl]
    clear hl
    have c2 := X1.out.c 0 _ rfl
    go_wp2_with fail
    go_ret
    exact ⟨rfl, E.out⟩
  have hl1 : ((n.q.l.length : Int) == 0) = false := by rw [beq_eq_false_iff_ne]; omega
  have hl0 : (0 : Int) < n.q.l.length := by omega
  have hl2 : ((n.q.l.length : Int)) ≠ 0 := by omega
  have hu : IntKind.u64.wrap (n.q.l.length : Int) = n.q.l.length := by simp [IntKind.wrap, IntKind.signed, IntKind.bits]; omega
  obtain ⟨j, hj⟩ : ∃ j : Nat, at_ % (n.q.l.length : Int) = j := ⟨(at_ % (n.q.l.length : Int)).toNat, by have := Int.emod_nonneg at_ hl2; omega⟩
  have hjl : j < n.q.l.length := by have := Int.emod_lt_of_pos at_ hl0; omega
  have hj2 : at_.tmod (n.q.l.length : Int) = j := by rw [Int.tmod_eq_emod_of_nonneg h0]; exact hj
  have hi : IntKind.i64.wrap (j : Int) = j := IntWalk.i64_in _ (by omega)
  clear hl
  obtain ⟨p, hp⟩ : ∃ p, x.delP j = p := ⟨_, rfl⟩
  obtain ⟨q, hq⟩ : ∃ q, k.delP j = q := ⟨_, rfl⟩
  have HB := Lib.hid (show Betw p q a b by rw [← hp, ← hq]; exact betw_of HC.out HO.out hjl HX.out.1 HX.out.2 HK.out.1 HK.out.2)
  have HP := Lib.hid hp
  have HQ := Lib.hid hq
  have HJX := Lib.hid (show j < x.q.l.length by rw [HX.out.1]; exact hjl)
  have HJK := Lib.hid (show j < k.q.l.length by rw [HK.out.1]; exact hjl)
  have HPD := Lib.hid (show ∀ w, NOk w x → Slc w bc 1 p.d.A p.d.l from fun w h => by rw [← hp]; exact h.delP j)
  have HQD := Lib.hid (show ∀ w, NOk w k → Slc w bc 1 q.d.A q.d.l from fun w h => by rw [← hq]; exact h.delP j)
  clear hp hq
  have c2 := X1.out.c 0 _ rfl
  have c3 := X9.out.c 0 _ rfl
  have SX := Lib.hid (HPD.out _ NX.out)
  go_wp2_with fail
  refine (deliver_at (n := x) (i := j) p (delN n.q.l j) x.ap.l 0 HP.out (by rw [loseQ_ok HXC.out HJX.out, HX.out.1]) (loseA_ok HXC.out HJX.out) (atE_ok HXC.out HJX.out) NX.out).mono ?_
  rintro e v12 ⟨g, rfl, hq, ha, hm, B, hoff⟩
  replace E := Lib.hid (ext_trans E.out B)
  replace X1 := Lib.hid (X1.out.ext B)
  replace NX := Lib.hid (NX.out.ext B)
  replace X9 := Lib.hid (X9.out.ext B)
  replace NK := Lib.hid (NK.out.ext B)
  replace X17 := Lib.hid (X17.out.ext B)
  replace SX := Lib.hid (SX.out.ext B)
  clear hq ha hm hoff hu hj hj2 hi hln c0 c1 c2 c3 HPD
  clear NX
  replace E := Lib.hid (ext_alloc E.out (.cells #[.int .i64 p.f, .int .i64 p.t, .slice p.d.A p.d.l.length p.d.c] 28))
  replace X1 := Lib.hid (X1.out.alloc (.cells #[.int .i64 p.f, .int .i64 p.t, .slice p.d.A p.d.l.length p.d.c] 28))
  replace X9 := Lib.hid (X9.out.alloc (.cells #[.int .i64 p.f, .int .i64 p.t, .slice p.d.A p.d.l.length p.d.c] 28))
  replace NK := Lib.hid (NK.out.alloc (.cells #[.int .i64 p.f, .int .i64 p.t, .slice p.d.A p.d.l.length p.d.c] 28))
  replace X17 := Lib.hid (X17.out.alloc (.cells #[.int .i64 p.f, .int .i64 p.t, .slice p.d.A p.d.l.length p.d.c] 28))
  replace SX := Lib.hid (SX.out.alloc (.cells #[.int .i64 p.f, .int .i64 p.t, .slice p.d.A p.d.l.length p.d.c] 28))
  have X20 := Lib.hid (Blk.newH v12 [.int .i64 p.f, .int .i64 p.t, .slice p.d.A p.d.l.length p.d.c] 28 (v12.heap.size) (by first | rfl | simp))
  replace E := Lib.hid (ext_alloc E.out (.cells #[.slice g.q.A g.q.l.length g.q.c, .slice g.ap.A g.ap.l.length g.ap.c] 25))
  replace X1 := Lib.hid (X1.out.alloc (.cells #[.slice g.q.A g.q.l.length g.q.c, .slice g.ap.A g.ap.l.length g.ap.c] 25))
  replace X9 := Lib.hid (X9.out.alloc (.cells #[.slice g.q.A g.q.l.length g.q.c, .slice g.ap.A g.ap.l.length g.ap.c] 25))
  replace NK := Lib.hid (NK.out.alloc (.cells #[.slice g.q.A g.q.l.length g.q.c, .slice g.ap.A g.ap.l.length g.ap.c] 25))
  replace X17 := Lib.hid (X17.out.alloc (.cells #[.slice g.q.A g.q.l.length g.q.c, .slice g.ap.A g.ap.l.length g.ap.c] 25))
  replace SX := Lib.hid (SX.out.alloc (.cells #[.slice g.q.A g.q.l.length g.q.c, .slice g.ap.A g.ap.l.length g.ap.c] 25))
  replace X20 := Lib.hid (X20.out.alloc (.cells #[.slice g.q.A g.q.l.length g.q.c, .slice g.ap.A g.ap.l.length g.ap.c] 25))
  have SK := Lib.hid (HQD.out _ NK.out)
  have c0 := X17.out.c 0 _ rfl
  have c1 := X17.out.c 1 _ rfl
  go_wp2_with fail
  refine (deliver_at (n := k) (i := j) q (delN n.q.l j) k.ap.l 0 HQ.out (by rw [loseQ_ok HKC.out HJK.out, HK.out.1]) (loseA_ok HKC.out HJK.out) (atE_ok HKC.out HJK.out) NK.out).mono ?_
  rintro e v13 ⟨g2, rfl, hq, ha, hm, B, hoff⟩
  clear c0 c1
  replace E := Lib.hid (ext_trans E.out B)
  replace X1 := Lib.hid (X1.out.ext B)
  replace X9 := Lib.hid (X9.out.ext B)
  replace NK := Lib.hid (NK.out.ext B)
  replace X17 := Lib.hid (X17.out.ext B)
  replace SX := Lib.hid (SX.out.ext B)
  replace X20 := Lib.hid (X20.out.ext B)
  replace SK := Lib.hid (SK.out.ext B)
  clear hq ha hm hoff HQD
  clear NK
  replace E := Lib.hid (ext_alloc E.out (.cells #[.int .i64 q.f, .int .i64 q.t, .slice q.d.A q.d.l.length q.d.c] 28))
  replace X1 := Lib.hid (X1.out.alloc (.cells #[.int .i64 q.f, .int .i64 q.t, .slice q.d.A q.d.l.length q.d.c] 28))
  replace X9 := Lib.hid (X9.out.alloc (.cells #[.int .i64 q.f, .int .i64 q.t, .slice q.d.A q.d.l.length q.d.c] 28))
  replace X17 := Lib.hid (X17.out.alloc (.cells #[.int .i64 q.f, .int .i64 q.t, .slice q.d.A q.d.l.length q.d.c] 28))
  replace SX := Lib.hid (SX.out.alloc (.cells #[.int .i64 q.f, .int .i64 q.t, .slice q.d.A q.d.l.length q.d.c] 28))
  replace X20 := Lib.hid (X20.out.alloc (.cells #[.int .i64 q.f, .int .i64 q.t, .slice q.d.A q.d.l.length q.d.c] 28))
  replace SK := Lib.hid (SK.out.alloc (.cells #[.int .i64 q.f, .int .i64 q.t, .slice q.d.A q.d.l.length q.d.c] 28))
  have X23 := Lib.hid (Blk.newH v13 [.int .i64 q.f, .int .i64 q.t, .slice q.d.A q.d.l.length q.d.c] 28 (v13.heap.size) (by first | rfl | simp))
  replace E := Lib.hid (ext_alloc E.out (.cells #[.slice g2.q.A g2.q.l.length g2.q.c, .slice g2.ap.A g2.ap.l.length g2.ap.c] 25))
  replace X1 := Lib.hid (X1.out.alloc (.cells #[.slice g2.q.A g2.q.l.length g2.q.c, .slice g2.ap.A g2.ap.l.length g2.ap.c] 25))
  replace X9 := Lib.hid (X9.out.alloc (.cells #[.slice g2.q.A g2.q.l.length g2.q.c, .slice g2.ap.A g2.ap.l.length g2.ap.c] 25))
  replace X17 := Lib.hid (X17.out.alloc (.cells #[.slice g2.q.A g2.q.l.length g2.q.c, .slice g2.ap.A g2.ap.l.length g2.ap.c] 25))
  replace SX := Lib.hid (SX.out.alloc (.cells #[.slice g2.q.A g2.q.l.length g2.q.c, .slice g2.ap.A g2.ap.l.length g2.ap.c] 25))
  replace X20 := Lib.hid (X20.out.alloc (.cells #[.slice g2.q.A g2.q.l.length g2.q.c, .slice g2.ap.A g2.ap.l.length g2.ap.c] 25))
  replace SK := Lib.hid (SK.out.alloc (.cells #[.slice g2.q.A g2.q.l.length g2.q.c, .slice g2.ap.A g2.ap.l.length g2.ap.c] 25))
  replace X23 := Lib.hid (X23.out.alloc (.cells #[.slice g2.q.A g2.q.l.length g2.q.c, .slice g2.ap.A g2.ap.l.length g2.ap.c] 25))
  clear X1 X9 X17
  have hne := okL_ne HO.out
  obtain ⟨sp, hsp⟩ : ∃ s, sameP p zeroP = s := ⟨_, rfl⟩
  obtain ⟨sq, hsq⟩ : ∃ s, sameP q zeroP = s := ⟨_, rfl⟩
  obtain ⟨sr, hsr⟩ : ∃ s, sameP p q = s := ⟨_, rfl⟩
  have HSP := Lib.hid hsp
  have HSQ := Lib.hid hsq
  have HSR := Lib.hid hsr
  have hb := HB.out
  unfold Betw at hb
  rw [hsp, hsq, hsr] at hb
  clear hsp hsq hsr
  have q0 := X23.out.c 0 _ rfl
  have q1 := X23.out.c 1 _ rfl
  rcases hb with ⟨hb, rfl⟩ | ⟨hb, rfl, rfl⟩
  · rcases hb with ⟨b1, b2⟩ | ⟨b1, b2⟩
    · have e1 : (q.f == a) = true := by simpa using b1
      have e2 : (q.t == b) = true := by simpa using b2
      clear b1 b2
      have hb := trivial
      clear hb hne
      have c0 := X20.out.c 0 _ rfl
      have c1 := X20.out.c 1 _ rfl
      have c2 := X20.out.c 2 _ rfl
      go_wp2_with fail
      refine (samep_at (p := p) (q := ⟨0, 0, ⟨none, 0, []⟩⟩) true HSP.out SX.out Slc.nil).mono ?_
      rintro e v14 ⟨rfl, B⟩
      clear c0 c1 c2
      replace E := Lib.hid (ext_trans E.out B)
      replace SX := Lib.hid (SX.out.ext B)
      replace X20 := Lib.hid (X20.out.ext B)
      replace SK := Lib.hid (SK.out.ext B)
      replace X23 := Lib.hid (X23.out.ext B)
      clear q0 q1
      have q0 := X23.out.c 0 _ rfl
      have q1 := X23.out.c 1 _ rfl
      go_wp2_with fail
      go_ret
      exact ⟨rfl, E.out⟩
    · have e1 : (q.f == a) = false := by rw [beq_eq_false_iff_ne, b1]; exact hne.symm
      have e3 : (q.f == b) = true := by simpa using b1
      have e4 : (q.t == a) = true := by simpa using b2
      clear b1 b2
      have hb := trivial
      clear hb hne
      have c0 := X20.out.c 0 _ rfl
      have c1 := X20.out.c 1 _ rfl
      have c2 := X20.out.c 2 _ rfl
      go_wp2_with fail
      refine (samep_at (p := p) (q := ⟨0, 0, ⟨none, 0, []⟩⟩) true HSP.out SX.out Slc.nil).mono ?_
      rintro e v14 ⟨rfl, B⟩
      clear c0 c1 c2
      replace E := Lib.hid (ext_trans E.out B)
      replace SX := Lib.hid (SX.out.ext B)
      replace X20 := Lib.hid (X20.out.ext B)
      replace SK := Lib.hid (SK.out.ext B)
      replace X23 := Lib.hid (X23.out.ext B)
      clear q0 q1
      have q0 := X23.out.c 0 _ rfl
      have q1 := X23.out.c 1 _ rfl
      go_wp2_with fail
      go_ret
      exact ⟨rfl, E.out⟩
  · by_cases b1 : q.f = a
    · have e1 : (q.f == a) = true := by simpa using b1
      have e2 : (q.t == b) = false := by rw [beq_eq_false_iff_ne]; exact fun h => hb (.inl ⟨b1, h⟩)
      have e3 : (q.f == b) = false := by rw [beq_eq_false_iff_ne, b1]; exact hne
      clear b1
      clear hb hne
      have c0 := X20.out.c 0 _ rfl
      have c1 := X20.out.c 1 _ rfl
      have c2 := X20.out.c 2 _ rfl
      go_wp2_with fail
      refine (samep_at (p := p) (q := ⟨0, 0, ⟨none, 0, []⟩⟩) sp HSP.out SX.out Slc.nil).mono ?_
      rintro e v14 ⟨rfl, B⟩
      clear c0 c1 c2
      replace E := Lib.hid (ext_trans E.out B)
      replace SX := Lib.hid (SX.out.ext B)
      replace X20 := Lib.hid (X20.out.ext B)
      replace SK := Lib.hid (SK.out.ext B)
      replace X23 := Lib.hid (X23.out.ext B)
      clear q0 q1
      have q0 := X23.out.c 0 _ rfl
      have q1 := X23.out.c 1 _ rfl
      have c0 := X23.out.c 0 _ rfl
      have c1 := X23.out.c 1 _ rfl
      have c2 := X23.out.c 2 _ rfl
      go_wp2_with fail
      refine (samep_at (p := q) (q := ⟨0, 0, ⟨none, 0, []⟩⟩) sp HSQ.out SK.out Slc.nil).mono ?_
      rintro e v15 ⟨rfl, B⟩
      clear c0 c1 c2
      replace E := Lib.hid (ext_trans E.out B)
      replace SX := Lib.hid (SX.out.ext B)
      replace X20 := Lib.hid (X20.out.ext B)
      replace SK := Lib.hid (SK.out.ext B)
      replace X23 := Lib.hid (X23.out.ext B)
      clear q0 q1
      have c0 := X20.out.c 0 _ rfl
      have c1 := X20.out.c 1 _ rfl
      have c2 := X20.out.c 2 _ rfl
      have c3 := X23.out.c 0 _ rfl
      have c4 := X23.out.c 1 _ rfl
      have c5 := X23.out.c 2 _ rfl
      go_wp2_with fail
      refine (samep_at (p := p) (q := q) true HSR.out SX.out SK.out).mono ?_
      rintro e v16 ⟨rfl, B⟩
      clear c0 c1 c2 c3 c4 c5
      replace E := Lib.hid (ext_trans E.out B)
      replace SX := Lib.hid (SX.out.ext B)
      replace X20 := Lib.hid (X20.out.ext B)
      replace SK := Lib.hid (SK.out.ext B)
      replace X23 := Lib.hid (X23.out.ext B)
      go_wp2_with fail
      go_ret
      exact ⟨rfl, E.out⟩
    · have e1 : (q.f == a) = false := by simpa using b1
      by_cases b3 : q.f = b
      · have e3 : (q.f == b) = true := by simpa using b3
        have e4 : (q.t == a) = false := by rw [beq_eq_false_iff_ne]; exact fun h => hb (.inr ⟨b3, h⟩)
        clear b1 b3
        clear hb hne
        have c0 := X20.out.c 0 _ rfl
        have c1 := X20.out.c 1 _ rfl
        have c2 := X20.out.c 2 _ rfl
        go_wp2_with fail
        refine (samep_at (p := p) (q := ⟨0, 0, ⟨none, 0, []⟩⟩) sp HSP.out SX.out Slc.nil).mono ?_
        rintro e v14 ⟨rfl, B⟩
        clear c0 c1 c2
        replace E := Lib.hid (ext_trans E.out B)
        replace SX := Lib.hid (SX.out.ext B)
        replace X20 := Lib.hid (X20.out.ext B)
        replace SK := Lib.hid (SK.out.ext B)
        replace X23 := Lib.hid (X23.out.ext B)
        clear q0 q1
        have q0 := X23.out.c 0 _ rfl
        have q1 := X23.out.c 1 _ rfl
        have c0 := X23.out.c 0 _ rfl
        have c1 := X23.out.c 1 _ rfl
        have c2 := X23.out.c 2 _ rfl
        go_wp2_with fail
        refine (samep_at (p := q) (q := ⟨0, 0, ⟨none, 0, []⟩⟩) sp HSQ.out SK.out Slc.nil).mono ?_
        rintro e v15 ⟨rfl, B⟩
        clear c0 c1 c2
        replace E := Lib.hid (ext_trans E.out B)
        replace SX := Lib.hid (SX.out.ext B)
        replace X20 := Lib.hid (X20.out.ext B)
        replace SK := Lib.hid (SK.out.ext B)
        replace X23 := Lib.hid (X23.out.ext B)
        clear q0 q1
        have c0 := X20.out.c 0 _ rfl
        have c1 := X20.out.c 1 _ rfl
        have c2 := X20.out.c 2 _ rfl
        have c3 := X23.out.c 0 _ rfl
        have c4 := X23.out.c 1 _ rfl
        have c5 := X23.out.c 2 _ rfl
        go_wp2_with fail
        refine (samep_at (p := p) (q := q) true HSR.out SX.out SK.out).mono ?_
        rintro e v16 ⟨rfl, B⟩
        clear c0 c1 c2 c3 c4 c5
        replace E := Lib.hid (ext_trans E.out B)
        replace SX := Lib.hid (SX.out.ext B)
        replace X20 := Lib.hid (X20.out.ext B)
        replace SK := Lib.hid (SK.out.ext B)
        replace X23 := Lib.hid (X23.out.ext B)
        go_wp2_with fail
        go_ret
        exact ⟨rfl, E.out⟩
      · have e3 : (q.f == b) = false := by simpa using b3
        clear b1 b3
        clear hb hne
        have c0 := X20.out.c 0 _ rfl
        have c1 := X20.out.c 1 _ rfl
        have c2 := X20.out.c 2 _ rfl
        go_wp2_with fail
        refine (samep_at (p := p) (q := ⟨0, 0, ⟨none, 0, []⟩⟩) sp HSP.out SX.out Slc.nil).mono ?_
        rintro e v14 ⟨rfl, B⟩
        clear c0 c1 c2
        replace E := Lib.hid (ext_trans E.out B)
        replace SX := Lib.hid (SX.out.ext B)
        replace X20 := Lib.hid (X20.out.ext B)
        replace SK := Lib.hid (SK.out.ext B)
        replace X23 := Lib.hid (X23.out.ext B)
        clear q0 q1
        have q0 := X23.out.c 0 _ rfl
        have q1 := X23.out.c 1 _ rfl
        have c0 := X23.out.c 0 _ rfl
        have c1 := X23.out.c 1 _ rfl
        have c2 := X23.out.c 2 _ rfl
        go_wp2_with fail
        refine (samep_at (p := q) (q := ⟨0, 0, ⟨none, 0, []⟩⟩) sp HSQ.out SK.out Slc.nil).mono ?_
        rintro e v15 ⟨rfl, B⟩
        clear c0 c1 c2
        replace E := Lib.hid (ext_trans E.out B)
        replace SX := Lib.hid (SX.out.ext B)
        replace X20 := Lib.hid (X20.out.ext B)
        replace SK := Lib.hid (SK.out.ext B)
        replace X23 := Lib.hid (X23.out.ext B)
        clear q0 q1
        have c0 := X20.out.c 0 _ rfl
        have c1 := X20.out.c 1 _ rfl
        have c2 := X20.out.c 2 _ rfl
        have c3 := X23.out.c 0 _ rfl
        have c4 := X23.out.c 1 _ rfl
        have c5 := X23.out.c 2 _ rfl
        go_wp2_with fail
        refine (samep_at (p := p) (q := q) true HSR.out SX.out SK.out).mono ?_
        rintro e v16 ⟨rfl, B⟩
        clear c0 c1 c2 c3 c4 c5
        replace E := Lib.hid (ext_trans E.out B)
        replace SX := Lib.hid (SX.out.ext B)
        replace X20 := Lib.hid (X20.out.ext B)
        replace SK := Lib.hid (SK.out.ext B)
        replace X23 := Lib.hid (X23.out.ext B)
        go_wp2_with fail
        go_ret
        exact ⟨rfl, E.out⟩
end Go.Proofs.Ythchcimialclkaa
