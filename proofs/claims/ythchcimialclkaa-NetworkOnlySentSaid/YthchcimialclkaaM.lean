/- The examples of the chapter. -/
import Derived.Test.YthchcimialclkaaL
set_option linter.unusedSimpArgs false
set_option linter.unusedVariables false
namespace Go.Proofs.Ythchcimialclkaa
open Go.RowKit
theorem rep_at {n : Nt} {i : Int} {w : World} (q : List Pk) (ap : List Lk) (r : Int) (hq : n.repQ i = q) (ha : n.repA i = ap) (hr : n.repE i = r) (hn : NOk w n) : Calls Try.prog 22 #[.agg #[.slice n.q.A n.q.l.length n.q.c, .slice n.ap.A n.ap.l.length n.ap.c], .int .i64 i] w (NetR w n.off q ap r) := by
  subst hq ha hr; exact rep_any n i w hn
abbrev Tru (w : World) (e : Ending) (w' : World) : Prop := e = .returned (.bool true) ∧ Below w.heap.size w w'
/-- What a law asks of links hangs on the two lists alone. -/
def mkN (q : List Pk) (ap : List Lk) : Nt := ⟨⟨none, 0, q⟩, ⟨none, 0, ap⟩⟩
section
variable {m : Nt} {q : List Pk} {ap : List Lk} (hq : m.q.l = q) (ha : m.ap.l = ap)
include hq ha
theorem chkE_of : chkE m = chkE (mkN q ap) := by subst hq ha; rfl
theorem atE_of (i : Int) : m.atE i = (mkN q ap).atE i := by subst hq ha; rfl
theorem atP_of (i : Int) : m.atP i = (mkN q ap).atP i := by subst hq ha; rfl
theorem loseQ_of (i : Int) : m.loseQ i = (mkN q ap).loseQ i := by subst hq ha; rfl
theorem loseA_of (i : Int) : m.loseA i = (mkN q ap).loseA i := by subst hq ha; rfl
theorem delP_of (i : Int) : m.delP i = (mkN q ap).delP i := by subst hq ha; rfl
theorem repE_of (i : Int) : m.repE i = (mkN q ap).repE i := by subst hq ha; rfl
theorem repQ_of (i : Int) : m.repQ i = (mkN q ap).repQ i := by subst hq ha; rfl
theorem repA_of (i : Int) : m.repA i = (mkN q ap).repA i := by subst hq ha; rfl
theorem sendE_of (p : Pk) : m.sendE p = (mkN q ap).sendE p := by subst hq ha; rfl
theorem sendQ_of (p : Pk) : m.sendQ p = (mkN q ap).sendQ p := by subst hq ha; rfl
theorem sendA_of (p : Pk) : m.sendA p = (mkN q ap).sendA p := by subst hq ha; rfl
theorem cutE_of (a b : Int) : m.cutE a b = (mkN q ap).cutE a b := by subst hq ha; rfl
theorem cutQ_of (a b : Int) : m.cutQ a b = (mkN q ap).cutQ a b := by subst hq ha; rfl
theorem cutA_of (a b : Int) (on : Bool) : m.cutA a b on = (mkN q ap).cutA a b on := by subst hq ha; rfl
end
theorem sameN_of {a b : Nt} {qa qb : List Pk} {aa ab : List Lk} (h1 : a.q.l = qa) (h2 : a.ap.l = aa) (h3 : b.q.l = qb) (h4 : b.ap.l = ab) : sameN a b = sameN (mkN qa aa) (mkN qb ab) := by subst h1 h2 h3 h4; rfl
set_option maxHeartbeats 8000000 in
set_option maxRecDepth 100000 in
theorem sane_any (w : World) : Calls Try.prog 8 #[] w (Tru w) := by
  have E := Lib.hid (ext_refl w)
  go_enter Try.func8, Try.ntmps8
  obtain ⟨zp, hzp⟩ : ∃ p, p = zeroP := ⟨_, rfl⟩
  have HZP := Lib.hid hzp
  clear hzp
  go_wp2_with fail
  refine (new_any _).mono ?_
  rintro e v1 ⟨rfl, B⟩
  replace E := Lib.hid (ext_trans E.out B)
  replace E := Lib.hid (ext_alloc E.out (.cells #[.slice none 0 0, .slice none 0 0] 25))
  have X1 := Lib.hid (Blk.newH v1 [.slice none 0 0, .slice none 0 0] 25 (v1.heap.size) (by first | rfl | simp))
  have c0 := X1.out.c 0 _ rfl
  have c1 := X1.out.c 1 _ rfl
  go_wp2_with fail
  refine (deliver_at (n := zeroN) (i := 0) zp [] [] 1 (by rw [HZP.out]; kernel_rfl) (by kernel_rfl) (by kernel_rfl) (by kernel_rfl) (NOk.zero _)).mono ?_
  rintro e v2 ⟨m1, rfl, hq, ha, hm, B, ho⟩
  clear c0 c1
  replace E := Lib.hid (ext_trans E.out B)
  replace X1 := Lib.hid (X1.out.ext B)
  clear hq ha hm ho
  replace E := Lib.hid (ext_alloc E.out (.cells #[.int .i64 zp.f, .int .i64 zp.t, .slice zp.d.A zp.d.l.length zp.d.c] 28))
  replace X1 := Lib.hid (X1.out.alloc (.cells #[.int .i64 zp.f, .int .i64 zp.t, .slice zp.d.A zp.d.l.length zp.d.c] 28))
  replace E := Lib.hid (ext_alloc E.out (.cells #[.slice m1.q.A m1.q.l.length m1.q.c, .slice m1.ap.A m1.ap.l.length m1.ap.c] 25))
  replace X1 := Lib.hid (X1.out.alloc (.cells #[.slice m1.q.A m1.q.l.length m1.q.c, .slice m1.ap.A m1.ap.l.length m1.ap.c] 25))
  have hbd := fun w => (show (Instr.build 28 #[(0, .int .i64 3), (1, .int .i64 3)]).run Try.prog w = .ok (.agg #[.int .i64 3, .int .i64 3, .slice none 0 0]) w by kernel_rfl)
  have c0 := X1.out.c 0 _ rfl
  have c1 := X1.out.c 1 _ rfl
  go_wp2_with fail
  refine (send_at (n := zeroN) (p := ⟨3, 3, ⟨none, 0, []⟩⟩) [] [] 460 (by kernel_rfl) (by kernel_rfl) (by kernel_rfl) (NOk.zero _) Slc.nil (by simp)).mono ?_
  rintro e v3 ⟨m2, rfl, hq, ha, hm, B, ho⟩
  clear c0 c1
  replace E := Lib.hid (ext_trans E.out B)
  replace X1 := Lib.hid (X1.out.ext B)
  clear hq ha hm ho
  replace E := Lib.hid (ext_alloc E.out (.cells #[.slice m2.q.A m2.q.l.length m2.q.c, .slice m2.ap.A m2.ap.l.length m2.ap.c] 25))
  replace X1 := Lib.hid (X1.out.alloc (.cells #[.slice m2.q.A m2.q.l.length m2.q.c, .slice m2.ap.A m2.ap.l.length m2.ap.c] 25))
  have c0 := X1.out.c 0 _ rfl
  have c1 := X1.out.c 1 _ rfl
  go_wp2_with fail
  refine (cut_at (n := zeroN) [] [] 1 (by kernel_rfl) (by kernel_rfl) (by kernel_rfl) (NOk.zero _)).mono ?_
  rintro e v4 ⟨m3, rfl, hq, ha, hm, B, ho⟩
  clear c0 c1
  replace E := Lib.hid (ext_trans E.out B)
  replace X1 := Lib.hid (X1.out.ext B)
  clear hq ha hm ho
  replace E := Lib.hid (ext_alloc E.out (.cells #[.slice m3.q.A m3.q.l.length m3.q.c, .slice m3.ap.A m3.ap.l.length m3.ap.c] 25))
  replace X1 := Lib.hid (X1.out.alloc (.cells #[.slice m3.q.A m3.q.l.length m3.q.c, .slice m3.ap.A m3.ap.l.length m3.ap.c] 25))
  replace E := Lib.hid (ext_alloc E.out (.cells #[.int .u8 7] 5))
  replace X1 := Lib.hid (X1.out.alloc (.cells #[.int .u8 7] 5))
  have SP := Lib.hid (slc_litH (v4.alloc (.cells #[.slice m3.q.A m3.q.l.length m3.q.c, .slice m3.ap.A m3.ap.l.length m3.ap.c] 25)) [7] #[.int .u8 7] 5 (enc := bc) (sz := 1) (fun _ => rfl) rfl (v4.heap.size + 1) (by simp))
  replace E := Lib.hid (ext_alloc E.out (.cells #[.int .i64 1, .int .i64 3, .slice (some ⟨v4.heap.size + 1, 0, none⟩) 1 1] 28))
  replace X1 := Lib.hid (X1.out.alloc (.cells #[.int .i64 1, .int .i64 3, .slice (some ⟨v4.heap.size + 1, 0, none⟩) 1 1] 28))
  replace SP := Lib.hid (SP.out.alloc (.cells #[.int .i64 1, .int .i64 3, .slice (some ⟨v4.heap.size + 1, 0, none⟩) 1 1] 28))
  have X9 := Lib.hid (Blk.newH ((v4.alloc (.cells #[.slice m3.q.A m3.q.l.length m3.q.c, .slice m3.ap.A m3.ap.l.length m3.ap.c] 25)).alloc (.cells #[.int .u8 7] 5)) [.int .i64 1, .int .i64 3, .slice (some ⟨v4.heap.size + 1, 0, none⟩) 1 1] 28 (v4.heap.size + 1 + 1) (by first | rfl | simp))
  have hP : ∃ P : Pk, P = ⟨1, 3, ⟨some ⟨v4.heap.size + 1, 0, none⟩, 1, [7]⟩⟩ := ⟨_, rfl⟩
  obtain ⟨P, hP⟩ := hP
  have HP := Lib.hid hP
  clear hP
  have c0 := X1.out.c 0 _ rfl
  have c1 := X1.out.c 1 _ rfl
  go_wp2_with fail
  refine (send_at (n := zeroN) (p := ⟨1, 3, ⟨some ⟨v4.heap.size + 1, 0, none⟩, 1, [7]⟩⟩) [⟨1, 3, ⟨some ⟨v4.heap.size + 1, 0, none⟩, 1, [7]⟩⟩] [] 0 rfl rfl rfl (NOk.zero _) SP.out (by simp [maxLen])).mono ?_
  rintro e v5 ⟨ma, rfl, hq, ha, hm, B, ho⟩
  clear c0 c1
  replace E := Lib.hid (ext_trans E.out B)
  replace X1 := Lib.hid (X1.out.ext B)
  replace SP := Lib.hid (SP.out.ext B)
  replace X9 := Lib.hid (X9.out.ext B)
  rw [← HP.out] at hq
  have HA := Lib.hid (show _ ∧ _ from ⟨hq, ha⟩)
  have NA := Lib.hid hm
  clear hq ha hm ho
  replace E := Lib.hid (ext_alloc E.out (.cells #[.slice ma.q.A ma.q.l.length ma.q.c, .slice ma.ap.A ma.ap.l.length ma.ap.c] 25))
  replace X1 := Lib.hid (X1.out.alloc (.cells #[.slice ma.q.A ma.q.l.length ma.q.c, .slice ma.ap.A ma.ap.l.length ma.ap.c] 25))
  replace SP := Lib.hid (SP.out.alloc (.cells #[.slice ma.q.A ma.q.l.length ma.q.c, .slice ma.ap.A ma.ap.l.length ma.ap.c] 25))
  replace X9 := Lib.hid (X9.out.alloc (.cells #[.slice ma.q.A ma.q.l.length ma.q.c, .slice ma.ap.A ma.ap.l.length ma.ap.c] 25))
  replace NA := Lib.hid (NA.out.alloc (.cells #[.slice ma.q.A ma.q.l.length ma.q.c, .slice ma.ap.A ma.ap.l.length ma.ap.c] 25))
  have X10 := Lib.hid (Blk.newH v5 [.slice ma.q.A ma.q.l.length ma.q.c, .slice ma.ap.A ma.ap.l.length ma.ap.c] 25 (v5.heap.size) (by first | rfl | simp))
  have c0 := X10.out.c 0 _ rfl
  have c1 := X10.out.c 1 _ rfl
  go_wp2_with fail
  refine (rep_at (n := ma) (i := 0) [P, P] [] 0 (by rw [repQ_of HA.out.1 HA.out.2, HP.out]; rfl) (by rw [repA_of HA.out.1 HA.out.2, HP.out]; rfl) (by rw [repE_of HA.out.1 HA.out.2, HP.out]; rfl) NA.out).mono ?_
  rintro e v6 ⟨mb, rfl, hq, ha, hm, B, ho⟩
  clear c0 c1
  replace E := Lib.hid (ext_trans E.out B)
  replace X1 := Lib.hid (X1.out.ext B)
  replace SP := Lib.hid (SP.out.ext B)
  replace X9 := Lib.hid (X9.out.ext B)
  replace NA := Lib.hid (NA.out.ext B)
  replace X10 := Lib.hid (X10.out.ext B)
  have HBq := Lib.hid (show _ ∧ _ from ⟨hq, ha⟩)
  have NB := Lib.hid hm
  clear hq ha hm ho
  replace E := Lib.hid (ext_alloc E.out (.cells #[.slice mb.q.A mb.q.l.length mb.q.c, .slice mb.ap.A mb.ap.l.length mb.ap.c] 25))
  replace X1 := Lib.hid (X1.out.alloc (.cells #[.slice mb.q.A mb.q.l.length mb.q.c, .slice mb.ap.A mb.ap.l.length mb.ap.c] 25))
  replace SP := Lib.hid (SP.out.alloc (.cells #[.slice mb.q.A mb.q.l.length mb.q.c, .slice mb.ap.A mb.ap.l.length mb.ap.c] 25))
  replace X9 := Lib.hid (X9.out.alloc (.cells #[.slice mb.q.A mb.q.l.length mb.q.c, .slice mb.ap.A mb.ap.l.length mb.ap.c] 25))
  replace NA := Lib.hid (NA.out.alloc (.cells #[.slice mb.q.A mb.q.l.length mb.q.c, .slice mb.ap.A mb.ap.l.length mb.ap.c] 25))
  replace X10 := Lib.hid (X10.out.alloc (.cells #[.slice mb.q.A mb.q.l.length mb.q.c, .slice mb.ap.A mb.ap.l.length mb.ap.c] 25))
  replace NB := Lib.hid (NB.out.alloc (.cells #[.slice mb.q.A mb.q.l.length mb.q.c, .slice mb.ap.A mb.ap.l.length mb.ap.c] 25))
  have X12 := Lib.hid (Blk.newH v6 [.slice mb.q.A mb.q.l.length mb.q.c, .slice mb.ap.A mb.ap.l.length mb.ap.c] 25 (v6.heap.size) (by first | rfl | simp))
  have c0 := X12.out.c 0 _ rfl
  have c1 := X12.out.c 1 _ rfl
  go_wp2_with fail
  refine (cut_at (n := mb) [P, P] [⟨1, 3⟩] 0 (by rw [cutQ_of HBq.out.1 HBq.out.2, HP.out]; rfl) (by rw [cutA_of HBq.out.1 HBq.out.2, HP.out]; rfl) (by rw [cutE_of HBq.out.1 HBq.out.2, HP.out]; rfl) NB.out).mono ?_
  rintro e v7 ⟨mc, rfl, hq, ha, hm, B, ho⟩
  clear c0 c1
  replace E := Lib.hid (ext_trans E.out B)
  replace X1 := Lib.hid (X1.out.ext B)
  replace SP := Lib.hid (SP.out.ext B)
  replace X9 := Lib.hid (X9.out.ext B)
  replace NA := Lib.hid (NA.out.ext B)
  replace X10 := Lib.hid (X10.out.ext B)
  replace NB := Lib.hid (NB.out.ext B)
  replace X12 := Lib.hid (X12.out.ext B)
  have HCq := Lib.hid (show _ ∧ _ from ⟨hq, ha⟩)
  have NC := Lib.hid hm
  clear hq ha hm ho
  replace E := Lib.hid (ext_alloc E.out (.cells #[.slice mc.q.A mc.q.l.length mc.q.c, .slice mc.ap.A mc.ap.l.length mc.ap.c] 25))
  replace X1 := Lib.hid (X1.out.alloc (.cells #[.slice mc.q.A mc.q.l.length mc.q.c, .slice mc.ap.A mc.ap.l.length mc.ap.c] 25))
  replace SP := Lib.hid (SP.out.alloc (.cells #[.slice mc.q.A mc.q.l.length mc.q.c, .slice mc.ap.A mc.ap.l.length mc.ap.c] 25))
  replace X9 := Lib.hid (X9.out.alloc (.cells #[.slice mc.q.A mc.q.l.length mc.q.c, .slice mc.ap.A mc.ap.l.length mc.ap.c] 25))
  replace NA := Lib.hid (NA.out.alloc (.cells #[.slice mc.q.A mc.q.l.length mc.q.c, .slice mc.ap.A mc.ap.l.length mc.ap.c] 25))
  replace X10 := Lib.hid (X10.out.alloc (.cells #[.slice mc.q.A mc.q.l.length mc.q.c, .slice mc.ap.A mc.ap.l.length mc.ap.c] 25))
  replace NB := Lib.hid (NB.out.alloc (.cells #[.slice mc.q.A mc.q.l.length mc.q.c, .slice mc.ap.A mc.ap.l.length mc.ap.c] 25))
  replace X12 := Lib.hid (X12.out.alloc (.cells #[.slice mc.q.A mc.q.l.length mc.q.c, .slice mc.ap.A mc.ap.l.length mc.ap.c] 25))
  replace NC := Lib.hid (NC.out.alloc (.cells #[.slice mc.q.A mc.q.l.length mc.q.c, .slice mc.ap.A mc.ap.l.length mc.ap.c] 25))
  have X14 := Lib.hid (Blk.newH v7 [.slice mc.q.A mc.q.l.length mc.q.c, .slice mc.ap.A mc.ap.l.length mc.ap.c] 25 (v7.heap.size) (by first | rfl | simp))
  have c0 := X12.out.c 0 _ rfl
  have c1 := X12.out.c 1 _ rfl
  go_wp2_with fail
  refine (deliver_at (n := mb) (i := 0) P [P] [] 0 (by rw [delP_of HBq.out.1 HBq.out.2, HP.out]; rfl) (by rw [loseQ_of HBq.out.1 HBq.out.2, HP.out]; rfl) (by rw [loseA_of HBq.out.1 HBq.out.2, HP.out]; rfl) (by rw [atE_of HBq.out.1 HBq.out.2, HP.out]; rfl) NB.out).mono ?_
  rintro e v8 ⟨md, rfl, hq, ha, hm, B, ho⟩
  clear c0 c1
  replace E := Lib.hid (ext_trans E.out B)
  replace X1 := Lib.hid (X1.out.ext B)
  replace SP := Lib.hid (SP.out.ext B)
  replace X9 := Lib.hid (X9.out.ext B)
  replace NA := Lib.hid (NA.out.ext B)
  replace X10 := Lib.hid (X10.out.ext B)
  replace NB := Lib.hid (NB.out.ext B)
  replace X12 := Lib.hid (X12.out.ext B)
  replace NC := Lib.hid (NC.out.ext B)
  replace X14 := Lib.hid (X14.out.ext B)
  have HDq := Lib.hid (show _ ∧ _ from ⟨hq, ha⟩)
  have ND := Lib.hid hm
  clear hq ha hm ho
  replace E := Lib.hid (ext_alloc E.out (.cells #[.int .i64 P.f, .int .i64 P.t, .slice P.d.A P.d.l.length P.d.c] 28))
  replace X1 := Lib.hid (X1.out.alloc (.cells #[.int .i64 P.f, .int .i64 P.t, .slice P.d.A P.d.l.length P.d.c] 28))
  replace SP := Lib.hid (SP.out.alloc (.cells #[.int .i64 P.f, .int .i64 P.t, .slice P.d.A P.d.l.length P.d.c] 28))
  replace X9 := Lib.hid (X9.out.alloc (.cells #[.int .i64 P.f, .int .i64 P.t, .slice P.d.A P.d.l.length P.d.c] 28))
  replace NA := Lib.hid (NA.out.alloc (.cells #[.int .i64 P.f, .int .i64 P.t, .slice P.d.A P.d.l.length P.d.c] 28))
  replace X10 := Lib.hid (X10.out.alloc (.cells #[.int .i64 P.f, .int .i64 P.t, .slice P.d.A P.d.l.length P.d.c] 28))
  replace NB := Lib.hid (NB.out.alloc (.cells #[.int .i64 P.f, .int .i64 P.t, .slice P.d.A P.d.l.length P.d.c] 28))
  replace X12 := Lib.hid (X12.out.alloc (.cells #[.int .i64 P.f, .int .i64 P.t, .slice P.d.A P.d.l.length P.d.c] 28))
  replace NC := Lib.hid (NC.out.alloc (.cells #[.int .i64 P.f, .int .i64 P.t, .slice P.d.A P.d.l.length P.d.c] 28))
  replace X14 := Lib.hid (X14.out.alloc (.cells #[.int .i64 P.f, .int .i64 P.t, .slice P.d.A P.d.l.length P.d.c] 28))
  replace ND := Lib.hid (ND.out.alloc (.cells #[.int .i64 P.f, .int .i64 P.t, .slice P.d.A P.d.l.length P.d.c] 28))
  have X16 := Lib.hid (Blk.newH v8 [.int .i64 P.f, .int .i64 P.t, .slice P.d.A P.d.l.length P.d.c] 28 (v8.heap.size) (by first | rfl | simp))
  replace E := Lib.hid (ext_alloc E.out (.cells #[.slice md.q.A md.q.l.length md.q.c, .slice md.ap.A md.ap.l.length md.ap.c] 25))
  replace X1 := Lib.hid (X1.out.alloc (.cells #[.slice md.q.A md.q.l.length md.q.c, .slice md.ap.A md.ap.l.length md.ap.c] 25))
  replace SP := Lib.hid (SP.out.alloc (.cells #[.slice md.q.A md.q.l.length md.q.c, .slice md.ap.A md.ap.l.length md.ap.c] 25))
  replace X9 := Lib.hid (X9.out.alloc (.cells #[.slice md.q.A md.q.l.length md.q.c, .slice md.ap.A md.ap.l.length md.ap.c] 25))
  replace NA := Lib.hid (NA.out.alloc (.cells #[.slice md.q.A md.q.l.length md.q.c, .slice md.ap.A md.ap.l.length md.ap.c] 25))
  replace X10 := Lib.hid (X10.out.alloc (.cells #[.slice md.q.A md.q.l.length md.q.c, .slice md.ap.A md.ap.l.length md.ap.c] 25))
  replace NB := Lib.hid (NB.out.alloc (.cells #[.slice md.q.A md.q.l.length md.q.c, .slice md.ap.A md.ap.l.length md.ap.c] 25))
  replace X12 := Lib.hid (X12.out.alloc (.cells #[.slice md.q.A md.q.l.length md.q.c, .slice md.ap.A md.ap.l.length md.ap.c] 25))
  replace NC := Lib.hid (NC.out.alloc (.cells #[.slice md.q.A md.q.l.length md.q.c, .slice md.ap.A md.ap.l.length md.ap.c] 25))
  replace X14 := Lib.hid (X14.out.alloc (.cells #[.slice md.q.A md.q.l.length md.q.c, .slice md.ap.A md.ap.l.length md.ap.c] 25))
  replace ND := Lib.hid (ND.out.alloc (.cells #[.slice md.q.A md.q.l.length md.q.c, .slice md.ap.A md.ap.l.length md.ap.c] 25))
  replace X16 := Lib.hid (X16.out.alloc (.cells #[.slice md.q.A md.q.l.length md.q.c, .slice md.ap.A md.ap.l.length md.ap.c] 25))
  have X17 := Lib.hid (Blk.newH (v8.alloc (.cells #[.int .i64 P.f, .int .i64 P.t, .slice P.d.A P.d.l.length P.d.c] 28)) [.slice md.q.A md.q.l.length md.q.c, .slice md.ap.A md.ap.l.length md.ap.c] 25 (v8.heap.size + 1) (by first | rfl | simp))
  have c0 := X14.out.c 0 _ rfl
  have c1 := X14.out.c 1 _ rfl
  go_wp2_with fail
  refine (deliver_at (n := mc) (i := 1) zp [P] [⟨1, 3⟩] 0 (by rw [delP_of HCq.out.1 HCq.out.2, HP.out, HZP.out]; rfl) (by rw [loseQ_of HCq.out.1 HCq.out.2, HP.out]; rfl) (by rw [loseA_of HCq.out.1 HCq.out.2, HP.out]; rfl) (by rw [atE_of HCq.out.1 HCq.out.2, HP.out]; rfl) NC.out).mono ?_
  rintro e v9 ⟨me, rfl, hq, ha, hm, B, ho⟩
  clear c0 c1
  replace E := Lib.hid (ext_trans E.out B)
  replace X1 := Lib.hid (X1.out.ext B)
  replace SP := Lib.hid (SP.out.ext B)
  replace X9 := Lib.hid (X9.out.ext B)
  replace NA := Lib.hid (NA.out.ext B)
  replace X10 := Lib.hid (X10.out.ext B)
  replace NB := Lib.hid (NB.out.ext B)
  replace X12 := Lib.hid (X12.out.ext B)
  replace NC := Lib.hid (NC.out.ext B)
  replace X14 := Lib.hid (X14.out.ext B)
  replace ND := Lib.hid (ND.out.ext B)
  replace X16 := Lib.hid (X16.out.ext B)
  replace X17 := Lib.hid (X17.out.ext B)
  clear hq ha hm ho
  replace E := Lib.hid (ext_alloc E.out (.cells #[.int .i64 zp.f, .int .i64 zp.t, .slice zp.d.A zp.d.l.length zp.d.c] 28))
  replace X1 := Lib.hid (X1.out.alloc (.cells #[.int .i64 zp.f, .int .i64 zp.t, .slice zp.d.A zp.d.l.length zp.d.c] 28))
  replace SP := Lib.hid (SP.out.alloc (.cells #[.int .i64 zp.f, .int .i64 zp.t, .slice zp.d.A zp.d.l.length zp.d.c] 28))
  replace X9 := Lib.hid (X9.out.alloc (.cells #[.int .i64 zp.f, .int .i64 zp.t, .slice zp.d.A zp.d.l.length zp.d.c] 28))
  replace NA := Lib.hid (NA.out.alloc (.cells #[.int .i64 zp.f, .int .i64 zp.t, .slice zp.d.A zp.d.l.length zp.d.c] 28))
  replace X10 := Lib.hid (X10.out.alloc (.cells #[.int .i64 zp.f, .int .i64 zp.t, .slice zp.d.A zp.d.l.length zp.d.c] 28))
  replace NB := Lib.hid (NB.out.alloc (.cells #[.int .i64 zp.f, .int .i64 zp.t, .slice zp.d.A zp.d.l.length zp.d.c] 28))
  replace X12 := Lib.hid (X12.out.alloc (.cells #[.int .i64 zp.f, .int .i64 zp.t, .slice zp.d.A zp.d.l.length zp.d.c] 28))
  replace NC := Lib.hid (NC.out.alloc (.cells #[.int .i64 zp.f, .int .i64 zp.t, .slice zp.d.A zp.d.l.length zp.d.c] 28))
  replace X14 := Lib.hid (X14.out.alloc (.cells #[.int .i64 zp.f, .int .i64 zp.t, .slice zp.d.A zp.d.l.length zp.d.c] 28))
  replace ND := Lib.hid (ND.out.alloc (.cells #[.int .i64 zp.f, .int .i64 zp.t, .slice zp.d.A zp.d.l.length zp.d.c] 28))
  replace X16 := Lib.hid (X16.out.alloc (.cells #[.int .i64 zp.f, .int .i64 zp.t, .slice zp.d.A zp.d.l.length zp.d.c] 28))
  replace X17 := Lib.hid (X17.out.alloc (.cells #[.int .i64 zp.f, .int .i64 zp.t, .slice zp.d.A zp.d.l.length zp.d.c] 28))
  have X19 := Lib.hid (Blk.newH v9 [.int .i64 zp.f, .int .i64 zp.t, .slice zp.d.A zp.d.l.length zp.d.c] 28 (v9.heap.size) (by first | rfl | simp))
  replace E := Lib.hid (ext_alloc E.out (.cells #[.slice me.q.A me.q.l.length me.q.c, .slice me.ap.A me.ap.l.length me.ap.c] 25))
  replace X1 := Lib.hid (X1.out.alloc (.cells #[.slice me.q.A me.q.l.length me.q.c, .slice me.ap.A me.ap.l.length me.ap.c] 25))
  replace SP := Lib.hid (SP.out.alloc (.cells #[.slice me.q.A me.q.l.length me.q.c, .slice me.ap.A me.ap.l.length me.ap.c] 25))
  replace X9 := Lib.hid (X9.out.alloc (.cells #[.slice me.q.A me.q.l.length me.q.c, .slice me.ap.A me.ap.l.length me.ap.c] 25))
  replace NA := Lib.hid (NA.out.alloc (.cells #[.slice me.q.A me.q.l.length me.q.c, .slice me.ap.A me.ap.l.length me.ap.c] 25))
  replace X10 := Lib.hid (X10.out.alloc (.cells #[.slice me.q.A me.q.l.length me.q.c, .slice me.ap.A me.ap.l.length me.ap.c] 25))
  replace NB := Lib.hid (NB.out.alloc (.cells #[.slice me.q.A me.q.l.length me.q.c, .slice me.ap.A me.ap.l.length me.ap.c] 25))
  replace X12 := Lib.hid (X12.out.alloc (.cells #[.slice me.q.A me.q.l.length me.q.c, .slice me.ap.A me.ap.l.length me.ap.c] 25))
  replace NC := Lib.hid (NC.out.alloc (.cells #[.slice me.q.A me.q.l.length me.q.c, .slice me.ap.A me.ap.l.length me.ap.c] 25))
  replace X14 := Lib.hid (X14.out.alloc (.cells #[.slice me.q.A me.q.l.length me.q.c, .slice me.ap.A me.ap.l.length me.ap.c] 25))
  replace ND := Lib.hid (ND.out.alloc (.cells #[.slice me.q.A me.q.l.length me.q.c, .slice me.ap.A me.ap.l.length me.ap.c] 25))
  replace X16 := Lib.hid (X16.out.alloc (.cells #[.slice me.q.A me.q.l.length me.q.c, .slice me.ap.A me.ap.l.length me.ap.c] 25))
  replace X17 := Lib.hid (X17.out.alloc (.cells #[.slice me.q.A me.q.l.length me.q.c, .slice me.ap.A me.ap.l.length me.ap.c] 25))
  replace X19 := Lib.hid (X19.out.alloc (.cells #[.slice me.q.A me.q.l.length me.q.c, .slice me.ap.A me.ap.l.length me.ap.c] 25))
  have c0 := X1.out.c 0 _ rfl
  have c1 := X1.out.c 1 _ rfl
  go_wp2_with fail
  refine (check_at (n := zeroN) 0 (by kernel_rfl) (NOk.zero _)).mono ?_
  rintro e v10 ⟨rfl, B⟩
  clear c0 c1
  replace E := Lib.hid (ext_trans E.out B)
  replace X1 := Lib.hid (X1.out.ext B)
  replace SP := Lib.hid (SP.out.ext B)
  replace X9 := Lib.hid (X9.out.ext B)
  replace NA := Lib.hid (NA.out.ext B)
  replace X10 := Lib.hid (X10.out.ext B)
  replace NB := Lib.hid (NB.out.ext B)
  replace X12 := Lib.hid (X12.out.ext B)
  replace NC := Lib.hid (NC.out.ext B)
  replace X14 := Lib.hid (X14.out.ext B)
  replace ND := Lib.hid (ND.out.ext B)
  replace X16 := Lib.hid (X16.out.ext B)
  replace X17 := Lib.hid (X17.out.ext B)
  replace X19 := Lib.hid (X19.out.ext B)
  have SQ := Lib.hid (show Slc v10 bc 1 P.d.A P.d.l by rw [HP.out]; exact SP.out)
  have c0 := X9.out.c 0 _ rfl
  have c1 := X9.out.c 1 _ rfl
  have c2 := X9.out.c 2 _ rfl
  have c3 := X16.out.c 0 _ rfl
  have c4 := X16.out.c 1 _ rfl
  have c5 := X16.out.c 2 _ rfl
  go_wp2_with fail
  refine (samep_at (p := ⟨1, 3, ⟨some ⟨v4.heap.size + 1, 0, none⟩, 1, [7]⟩⟩) (q := P) true (by rw [HP.out]; kernel_rfl) SP.out SQ.out).mono ?_
  rintro e v11 ⟨rfl, B⟩
  clear c0 c1 c2 c3 c4 c5
  replace E := Lib.hid (ext_trans E.out B)
  replace X1 := Lib.hid (X1.out.ext B)
  replace SP := Lib.hid (SP.out.ext B)
  replace X9 := Lib.hid (X9.out.ext B)
  replace NA := Lib.hid (NA.out.ext B)
  replace X10 := Lib.hid (X10.out.ext B)
  replace NB := Lib.hid (NB.out.ext B)
  replace X12 := Lib.hid (X12.out.ext B)
  replace NC := Lib.hid (NC.out.ext B)
  replace X14 := Lib.hid (X14.out.ext B)
  replace ND := Lib.hid (ND.out.ext B)
  replace X16 := Lib.hid (X16.out.ext B)
  replace X17 := Lib.hid (X17.out.ext B)
  replace X19 := Lib.hid (X19.out.ext B)
  replace SQ := Lib.hid (SQ.out.ext B)
  have c0 := X19.out.c 0 _ rfl
  have c1 := X19.out.c 1 _ rfl
  have c2 := X19.out.c 2 _ rfl
  go_wp2_with fail
  refine (samep_at (p := zp) (q := ⟨0, 0, ⟨none, 0, []⟩⟩) true (by rw [HZP.out]; kernel_rfl) (by rw [HZP.out]; exact Slc.nil) Slc.nil).mono ?_
  rintro e v12 ⟨rfl, B⟩
  clear c0 c1 c2
  replace E := Lib.hid (ext_trans E.out B)
  replace X1 := Lib.hid (X1.out.ext B)
  replace SP := Lib.hid (SP.out.ext B)
  replace X9 := Lib.hid (X9.out.ext B)
  replace NA := Lib.hid (NA.out.ext B)
  replace X10 := Lib.hid (X10.out.ext B)
  replace NB := Lib.hid (NB.out.ext B)
  replace X12 := Lib.hid (X12.out.ext B)
  replace NC := Lib.hid (NC.out.ext B)
  replace X14 := Lib.hid (X14.out.ext B)
  replace ND := Lib.hid (ND.out.ext B)
  replace X16 := Lib.hid (X16.out.ext B)
  replace X17 := Lib.hid (X17.out.ext B)
  replace X19 := Lib.hid (X19.out.ext B)
  replace SQ := Lib.hid (SQ.out.ext B)
  have c0 := X17.out.c 0 _ rfl
  have c1 := X17.out.c 1 _ rfl
  have c2 := X10.out.c 0 _ rfl
  have c3 := X10.out.c 1 _ rfl
  go_wp2_with fail
  refine (same_at (a := md) (b := ma) true (by rw [sameN_of HDq.out.1 HDq.out.2 HA.out.1 HA.out.2, HP.out]; kernel_rfl) ND.out NA.out).mono ?_
  rintro e v13 ⟨rfl, B⟩
  clear c0 c1 c2 c3
  replace E := Lib.hid (ext_trans E.out B)
  replace X1 := Lib.hid (X1.out.ext B)
  replace SP := Lib.hid (SP.out.ext B)
  replace X9 := Lib.hid (X9.out.ext B)
  replace NA := Lib.hid (NA.out.ext B)
  replace X10 := Lib.hid (X10.out.ext B)
  replace NB := Lib.hid (NB.out.ext B)
  replace X12 := Lib.hid (X12.out.ext B)
  replace NC := Lib.hid (NC.out.ext B)
  replace X14 := Lib.hid (X14.out.ext B)
  replace ND := Lib.hid (ND.out.ext B)
  replace X16 := Lib.hid (X16.out.ext B)
  replace X17 := Lib.hid (X17.out.ext B)
  replace X19 := Lib.hid (X19.out.ext B)
  replace SQ := Lib.hid (SQ.out.ext B)
  have c0 := X14.out.c 0 _ rfl
  have c1 := X14.out.c 1 _ rfl
  have hap := NC.out.ap
  rw [HCq.out.2] at c1 hap
  rw [HCq.out.1] at c0
  obtain ⟨y, b1, o1, hy, hA, hb1, hc⟩ := hap.at_ (k := 0) (by simp)
  obtain rfl : (⟨1, 3⟩ : Lk) = y := by simpa using hy
  rw [hA] at c1
  have d0 := hc 0 _ rfl
  have d1 := hc 1 _ rfl
  simp only [Nat.zero_mul, Nat.add_zero] at d0 d1
  clear hc hy hA hap
  have hne := fun w => run_eql53 ⟨1, 3⟩ ⟨1, 3⟩ w
  simp only [decide_true] at hne
  go_wp2_with fail
  go_ret
  exact ⟨rfl, E.out⟩
end Go.Proofs.Ythchcimialclkaa
