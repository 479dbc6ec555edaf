/- Law 4 of the great seat: Of agrees with the reference. -/
import Derived.Test.YtilocjliplmmpaaGreatQo
import Derived.Test.YtilocjliplmmpaaGreatZG
set_option linter.unusedSimpArgs false
set_option linter.unusedVariables false
namespace Go.Proofs.YtilocjliplmmpaaGreat
open Go.RowKit
set_option maxRecDepth 100000 in
set_option maxHeartbeats 64000000 in
theorem law4 (t : Tab) (tA : Option Addr) (tc : Nat) (tree : List Nd) (leaf : Int) (A : Option Addr) (c : Nat) (l : List Chg) (sA : Option Addr) (sc : Nat) (seen : List Bool) (z : Cel) (w : World)
    (ht : Tab.ok w t) (htr : TOk w tA tree) (hs : SOk w A l) (hse : Slc w bc 1 sA seen) (hsel : seen.length ≤ maxLen) :
    Calls Tryz.prog 4 #[t.v, .slice tA tree.length tc, .int .i64 leaf, .agg #[.slice A l.length c], .slice sA seen.length sc, z.v] w (Tru w) := by
  obtain ⟨sn, hsn⟩ : ∃ n, seen.length = n := ⟨_, rfl⟩
  have HSN := Lib.hid hsn
  rw [hsn]
  have HSL := Lib.hid hsel
  clear hsn hsel
  have E := Lib.hid (ext_refl w)
  have HT := Lib.hid (ht)
  have HTR := Lib.hid (htr)
  have HS := Lib.hid (hs)
  have HB := Lib.hid (hse)
  clear ht htr hs hse
  replace E := Lib.hid (ext_alloc E.out (.cells #[.int .i64 t.n, .slice t.ss.A t.ss.l.length t.ss.c, .slice t.cs.A t.cs.l.length t.cs.c, .slice t.ws.A t.ws.l.length t.ws.c, .slice t.ms.A t.ms.l.length t.ms.c, .slice t.ks.A t.ks.l.length t.ks.c] 28))
  replace HT := Lib.hid (HT.out.alloc (.cells #[.int .i64 t.n, .slice t.ss.A t.ss.l.length t.ss.c, .slice t.cs.A t.cs.l.length t.cs.c, .slice t.ws.A t.ws.l.length t.ws.c, .slice t.ms.A t.ms.l.length t.ms.c, .slice t.ks.A t.ks.l.length t.ks.c] 28))
  replace HTR := Lib.hid (HTR.out.alloc (.cells #[.int .i64 t.n, .slice t.ss.A t.ss.l.length t.ss.c, .slice t.cs.A t.cs.l.length t.cs.c, .slice t.ws.A t.ws.l.length t.ws.c, .slice t.ms.A t.ms.l.length t.ms.c, .slice t.ks.A t.ks.l.length t.ks.c] 28))
  replace HS := Lib.hid (HS.out.alloc (.cells #[.int .i64 t.n, .slice t.ss.A t.ss.l.length t.ss.c, .slice t.cs.A t.cs.l.length t.cs.c, .slice t.ws.A t.ws.l.length t.ws.c, .slice t.ms.A t.ms.l.length t.ms.c, .slice t.ks.A t.ks.l.length t.ks.c] 28))
  replace HB := Lib.hid (HB.out.alloc (.cells #[.int .i64 t.n, .slice t.ss.A t.ss.l.length t.ss.c, .slice t.cs.A t.cs.l.length t.cs.c, .slice t.ws.A t.ws.l.length t.ws.c, .slice t.ms.A t.ms.l.length t.ms.c, .slice t.ks.A t.ks.l.length t.ks.c] 28))
  have T1 := Lib.hid (Blk.newH w [.int .i64 t.n, .slice t.ss.A t.ss.l.length t.ss.c, .slice t.cs.A t.cs.l.length t.cs.c, .slice t.ws.A t.ws.l.length t.ws.c, .slice t.ms.A t.ms.l.length t.ms.c, .slice t.ks.A t.ks.l.length t.ks.c] 28 (w.heap.size) (by first | rfl | simp))
  replace E := Lib.hid (ext_alloc E.out (.cells #[.slice A l.length c] 31))
  replace HT := Lib.hid (HT.out.alloc (.cells #[.slice A l.length c] 31))
  replace HTR := Lib.hid (HTR.out.alloc (.cells #[.slice A l.length c] 31))
  replace HS := Lib.hid (HS.out.alloc (.cells #[.slice A l.length c] 31))
  replace HB := Lib.hid (HB.out.alloc (.cells #[.slice A l.length c] 31))
  replace T1 := Lib.hid (T1.out.alloc (.cells #[.slice A l.length c] 31))
  have B1 := Lib.hid (Blk.newH (w.alloc (.cells #[.int .i64 t.n, .slice t.ss.A t.ss.l.length t.ss.c, .slice t.cs.A t.cs.l.length t.cs.c, .slice t.ws.A t.ws.l.length t.ws.c, .slice t.ms.A t.ms.l.length t.ms.c, .slice t.ks.A t.ks.l.length t.ks.c] 28)) [.slice A l.length c] 31 (w.heap.size + 1) (by first | rfl | simp))
  replace E := Lib.hid (ext_alloc E.out (.cells #[.bool z.air, .int .i64 z.ix, .int .i64 z.mi] 47))
  replace HT := Lib.hid (HT.out.alloc (.cells #[.bool z.air, .int .i64 z.ix, .int .i64 z.mi] 47))
  replace HTR := Lib.hid (HTR.out.alloc (.cells #[.bool z.air, .int .i64 z.ix, .int .i64 z.mi] 47))
  replace HS := Lib.hid (HS.out.alloc (.cells #[.bool z.air, .int .i64 z.ix, .int .i64 z.mi] 47))
  replace HB := Lib.hid (HB.out.alloc (.cells #[.bool z.air, .int .i64 z.ix, .int .i64 z.mi] 47))
  replace T1 := Lib.hid (T1.out.alloc (.cells #[.bool z.air, .int .i64 z.ix, .int .i64 z.mi] 47))
  replace B1 := Lib.hid (B1.out.alloc (.cells #[.bool z.air, .int .i64 z.ix, .int .i64 z.mi] 47))
  have Z1 := Lib.hid (Blk.newH ((w.alloc (.cells #[.int .i64 t.n, .slice t.ss.A t.ss.l.length t.ss.c, .slice t.cs.A t.cs.l.length t.cs.c, .slice t.ws.A t.ws.l.length t.ws.c, .slice t.ms.A t.ms.l.length t.ms.c, .slice t.ks.A t.ks.l.length t.ks.c] 28)).alloc (.cells #[.slice A l.length c] 31)) [.bool z.air, .int .i64 z.ix, .int .i64 z.mi] 47 (w.heap.size + 1 + 1) (by first | rfl | simp))
  obtain ⟨W, hW⟩ : ∃ xw, (((w.alloc (.cells #[.int .i64 t.n, .slice t.ss.A t.ss.l.length t.ss.c, .slice t.cs.A t.cs.l.length t.cs.c, .slice t.ws.A t.ws.l.length t.ws.c, .slice t.ms.A t.ms.l.length t.ms.c, .slice t.ks.A t.ks.l.length t.ks.c] 28)).alloc (.cells #[.slice A l.length c] 31)).alloc (.cells #[.bool z.air, .int .i64 z.ix, .int .i64 z.mi] 47)) = xw := ⟨_, rfl⟩
  rw [hW] at E HT HTR HS HB T1 B1 Z1
  have HW := Lib.hid hW
  clear hW
  go_enter Tryz.func4, Tryz.ntmps4
  go_wp2_with fail
  rw [HW.out]
  clear HW
  refine (sane_any _).mono ?_
  rintro e w1 ⟨rfl, B⟩
  replace E := Lib.hid (ext_trans E.out B)
  replace HT := Lib.hid (HT.out.ext B)
  replace HTR := Lib.hid (HTR.out.ext B)
  replace HS := Lib.hid (HS.out.ext B)
  replace HB := Lib.hid (HB.out.ext B)
  replace T1 := Lib.hid (T1.out.ext B)
  replace B1 := Lib.hid (B1.out.ext B)
  replace Z1 := Lib.hid (Z1.out.ext B)
  clear B
  have q0 := T1.out.c 0 _ rfl
  have q1 := T1.out.c 1 _ rfl
  have q2 := T1.out.c 2 _ rfl
  have q3 := T1.out.c 3 _ rfl
  have q4 := T1.out.c 4 _ rfl
  have q5 := T1.out.c 5 _ rfl
  have q6 := T1.out.lt
  go_wp2_with fail
  refine (few14_any t _ HT.out).mono ?_
  rintro e w2 ⟨r, rfl, hr, B⟩
  clear q0 q1 q2 q3 q4 q5 q6
  replace E := Lib.hid (ext_trans E.out B)
  replace HT := Lib.hid (HT.out.ext B)
  replace HTR := Lib.hid (HTR.out.ext B)
  replace HS := Lib.hid (HS.out.ext B)
  replace HB := Lib.hid (HB.out.ext B)
  replace T1 := Lib.hid (T1.out.ext B)
  replace B1 := Lib.hid (B1.out.ext B)
  replace Z1 := Lib.hid (Z1.out.ext B)
  clear B
  have HRw2 := Lib.hid hr
  clear hr
  cases r
  · go_wp2_with fail
    go_ret
    exact ⟨rfl, E.out⟩
  go_wp2_with fail
  refine (few18_any tA tc tree _ HTR.out.nd HTR.out.len).mono ?_
  rintro e w2b ⟨r, rfl, B⟩
  replace E := Lib.hid (ext_trans E.out B)
  replace HT := Lib.hid (HT.out.ext B)
  replace HTR := Lib.hid (HTR.out.ext B)
  replace HS := Lib.hid (HS.out.ext B)
  replace HB := Lib.hid (HB.out.ext B)
  replace T1 := Lib.hid (T1.out.ext B)
  replace B1 := Lib.hid (B1.out.ext B)
  replace Z1 := Lib.hid (Z1.out.ext B)
  clear B
  cases r
  · go_wp2_with fail
    go_ret
    exact ⟨rfl, E.out⟩
  have q0 := B1.out.c 0 _ rfl
  have q1 := B1.out.lt
  go_wp2_with fail
  refine (few19_any A c l _ HS.out.s HS.out.n).mono ?_
  rintro e w3 ⟨r, rfl, hr, B⟩
  clear q0 q1
  replace E := Lib.hid (ext_trans E.out B)
  replace HT := Lib.hid (HT.out.ext B)
  replace HTR := Lib.hid (HTR.out.ext B)
  replace HS := Lib.hid (HS.out.ext B)
  replace HB := Lib.hid (HB.out.ext B)
  replace T1 := Lib.hid (T1.out.ext B)
  replace B1 := Lib.hid (B1.out.ext B)
  replace Z1 := Lib.hid (Z1.out.ext B)
  clear B
  have HRw3 := Lib.hid hr
  clear hr
  cases r
  · go_wp2_with fail
    go_ret
    exact ⟨rfl, E.out⟩
  have q0 := T1.out.c 0 _ rfl
  have q1 := T1.out.c 1 _ rfl
  have q2 := T1.out.c 2 _ rfl
  have q3 := T1.out.c 3 _ rfl
  have q4 := T1.out.c 4 _ rfl
  have q5 := T1.out.c 5 _ rfl
  have q6 := T1.out.lt
  have q7 := B1.out.c 0 _ rfl
  have q8 := B1.out.lt
  have q9 := Z1.out.c 0 _ rfl
  have q10 := Z1.out.c 1 _ rfl
  have q11 := Z1.out.c 2 _ rfl
  have q12 := Z1.out.lt
  by_cases hm : 100 < sn
  · have e1 : decide ((sn : Int) > 100) = true := decide_eq_true (by omega)
    go_wp2_with fail
    go_ret
    exact ⟨rfl, E.out⟩
  have e1 : decide ((sn : Int) > 100) = false := decide_eq_false (by omega)
  have HFEW : Hid (∀ s ∈ t.ss.l, s.vs.l.length ≤ 64) := fun s hs => Nat.le_trans ((HRw2.out (by simp)).2.s s hs) (by decide)
  obtain ⟨n0, hn0⟩ : ∃ r, ofN t tree leaf l seen z = r := ⟨_, rfl⟩
  obtain ⟨e0, he0⟩ : ∃ r, ofE t tree leaf l seen.length z = r := ⟨_, rfl⟩
  have HN0 := Lib.hid hn0
  have HE0 := Lib.hid he0
  clear hn0 he0
  go_wp2_with fail
  clear e1
  refine (of_lit n0 e0 HN0.out HE0.out rfl rfl HSN.out.symm HT.out HTR.out HS.out.s HS.out.n HS.out.o HB.out HSL.out HFEW.out).mono ?_
  rintro e w4 ⟨rfl, B⟩
  clear q0 q1 q2 q3 q4 q5 q6 q7 q8 q9 q10 q11 q12
  replace E := Lib.hid (ext_trans E.out B)
  replace HT := Lib.hid (HT.out.ext B)
  replace HTR := Lib.hid (HTR.out.ext B)
  replace HS := Lib.hid (HS.out.ext B)
  replace HB := Lib.hid (HB.out.ext B)
  replace T1 := Lib.hid (T1.out.ext B)
  replace B1 := Lib.hid (B1.out.ext B)
  replace Z1 := Lib.hid (Z1.out.ext B)
  clear B
  have q0 := T1.out.c 0 _ rfl
  have q1 := T1.out.c 1 _ rfl
  have q2 := T1.out.c 2 _ rfl
  have q3 := T1.out.c 3 _ rfl
  have q4 := T1.out.c 4 _ rfl
  have q5 := T1.out.c 5 _ rfl
  have q6 := T1.out.lt
  have q7 := B1.out.c 0 _ rfl
  have q8 := B1.out.lt
  have q9 := Z1.out.c 0 _ rfl
  have q10 := Z1.out.c 1 _ rfl
  have q11 := Z1.out.c 2 _ rfl
  have q12 := Z1.out.lt
  go_wp2_with fail
  refine (rof_lit n0 e0 HN0.out HE0.out rfl rfl HSN.out.symm HT.out HTR.out HS.out.s HS.out.n HS.out.o HB.out HSL.out HFEW.out).mono ?_
  rintro e w5 ⟨rfl, B⟩
  clear q0 q1 q2 q3 q4 q5 q6 q7 q8 q9 q10 q11 q12
  replace E := Lib.hid (ext_trans E.out B)
  replace HT := Lib.hid (HT.out.ext B)
  replace HTR := Lib.hid (HTR.out.ext B)
  replace HS := Lib.hid (HS.out.ext B)
  replace HB := Lib.hid (HB.out.ext B)
  replace T1 := Lib.hid (T1.out.ext B)
  replace B1 := Lib.hid (B1.out.ext B)
  replace Z1 := Lib.hid (Z1.out.ext B)
  clear B
  have e1 : (n0 == n0) = true := by simp
  have e2 : (e0 == e0) = true := by simp
  go_wp2_with fail
  go_ret
  exact ⟨rfl, E.out⟩
end Go.Proofs.YtilocjliplmmpaaGreat
