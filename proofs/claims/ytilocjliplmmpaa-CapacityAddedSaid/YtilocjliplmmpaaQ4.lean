/- Law 4: what Add says. -/
import Derived.Test.YtilocjliplmmpaaQ3
set_option linter.unusedSimpArgs false
set_option linter.unusedVariables false
namespace Go.Proofs.Ytilocjliplmmpaa
open Go.RowKit
/-- The next change's beginning among the first ones. -/
structure Nxt (l : List Chg) (f nx : Int) : Prop where
  hi : nx ≤ 1440
  lo : ∀ y ∈ l, f < y.f → nx ≤ y.f
  at_ : nx = 1440 ∨ ∃ y ∈ l, f < y.f ∧ y.f = nx
theorem Nxt.keep {l : List Chg} {f nx : Int} {k : Nat} {y : Chg} (h : Nxt (l.take k) f nx) (hy : l[k]? = some y) (hn : ¬ (f < y.f ∧ y.f < nx)) : Nxt (l.take (k + 1)) f nx := by
  rw [List.take_add_one, hy]
  refine ⟨h.hi, fun z hz hf => ?_, ?_⟩
  · rcases List.mem_append.1 hz with hz | hz
    · exact h.lo z hz hf
    · simp at hz; subst hz; omega
  · rcases h.at_ with q | ⟨z, h1, h2⟩
    · exact .inl q
    · exact .inr ⟨z, List.mem_append.2 (.inl h1), h2⟩
theorem Nxt.take_ {l : List Chg} {f nx : Int} {k : Nat} {y : Chg} (h : Nxt (l.take k) f nx) (hy : l[k]? = some y) (h1 : f < y.f) (h2 : y.f < nx) : Nxt (l.take (k + 1)) f y.f := by
  have hh := h.hi
  rw [List.take_add_one, hy]
  refine ⟨by omega, fun z hz hf => ?_, .inr ⟨y, by simp, h1, rfl⟩⟩
  rcases List.mem_append.1 hz with hz | hz
  · have := h.lo z hz hf; omega
  · simp at hz; subst hz; omega
theorem added_in {l : List Chg} {x : Chg} {nx m : Int} (hl : Inc l) (h : Nxt l x.f nx) (hm : m < 1440) : inS (putC l x) m = if x.f ≤ m ∧ m < nx then some x else inS l m := by
  rw [in_putC hl]
  by_cases h1 : x.f ≤ m
  · by_cases h2 : m < nx
    · rw [if_pos ⟨h1, fun y hy hf => by have := h.lo y hy hf; omega⟩, if_pos ⟨h1, h2⟩]
    · rw [if_neg, if_neg (fun q => h2 q.2)]
      rintro ⟨_, q⟩
      rcases h.at_ with e | ⟨y, hy, hf, e⟩
      · omega
      · have := q y hy hf; omega
  · rw [if_neg (fun q => h1 q.1), if_neg (fun q => h1 q.1)]
theorem putC_ok {w : World} {l : List Chg} {x : Chg} (h : ∀ y ∈ l, Chg.ok w y) (hx : Chg.ok w x) : ∀ y ∈ putC l x, Chg.ok w y := fun y hy => by
  rcases mem_putC.1 hy with rfl | ⟨hy, _⟩
  · exact hx
  · exact h y hy
theorem inS_okd {w : World} {A : Option Addr} {l : List Chg} {m : Int} {d : Chg} (h : SOk w A l) (hd : (inS l m).getD noChg = d) : Chg.ok w d := hd ▸ inS_ok h
set_option maxRecDepth 100000 in
set_option maxHeartbeats 32000000 in
theorem law4 (t : Tab) (A : Option Addr) (c : Nat) (l : List Chg) (x : Chg) (m : Int) (w : World) (ht : Tab.ok w t) (hs : SOk w A l) (hx : Chg.ok w x) : Calls Try.prog 4 #[t.v, .agg #[.slice A l.length c], x.v, .int .i64 m] w (Tru w) := by
  have E := Lib.hid (ext_refl w)
  have HT := Lib.hid (ht)
  have HS := Lib.hid (hs)
  have HX := Lib.hid (hx)
  clear ht hs hx
  replace E := Lib.hid (ext_alloc E.out (.cells #[.int .i64 t.n, .slice t.ss.A t.ss.l.length t.ss.c, .slice t.cs.A t.cs.l.length t.cs.c, .slice t.ws.A t.ws.l.length t.ws.c, .slice t.ms.A t.ms.l.length t.ms.c, .slice t.ks.A t.ks.l.length t.ks.c] 28))
  replace HT := Lib.hid (HT.out.alloc (.cells #[.int .i64 t.n, .slice t.ss.A t.ss.l.length t.ss.c, .slice t.cs.A t.cs.l.length t.cs.c, .slice t.ws.A t.ws.l.length t.ws.c, .slice t.ms.A t.ms.l.length t.ms.c, .slice t.ks.A t.ks.l.length t.ks.c] 28))
  replace HS := Lib.hid (HS.out.alloc (.cells #[.int .i64 t.n, .slice t.ss.A t.ss.l.length t.ss.c, .slice t.cs.A t.cs.l.length t.cs.c, .slice t.ws.A t.ws.l.length t.ws.c, .slice t.ms.A t.ms.l.length t.ms.c, .slice t.ks.A t.ks.l.length t.ks.c] 28))
  replace HX := Lib.hid (HX.out.alloc (.cells #[.int .i64 t.n, .slice t.ss.A t.ss.l.length t.ss.c, .slice t.cs.A t.cs.l.length t.cs.c, .slice t.ws.A t.ws.l.length t.ws.c, .slice t.ms.A t.ms.l.length t.ms.c, .slice t.ks.A t.ks.l.length t.ks.c] 28))
  have T1 := Lib.hid (Blk.newH w [.int .i64 t.n, .slice t.ss.A t.ss.l.length t.ss.c, .slice t.cs.A t.cs.l.length t.cs.c, .slice t.ws.A t.ws.l.length t.ws.c, .slice t.ms.A t.ms.l.length t.ms.c, .slice t.ks.A t.ks.l.length t.ks.c] 28 (w.heap.size) (by first | rfl | simp))
  replace E := Lib.hid (ext_alloc E.out (.cells #[.slice A l.length c] 31))
  replace HT := Lib.hid (HT.out.alloc (.cells #[.slice A l.length c] 31))
  replace HS := Lib.hid (HS.out.alloc (.cells #[.slice A l.length c] 31))
  replace HX := Lib.hid (HX.out.alloc (.cells #[.slice A l.length c] 31))
  replace T1 := Lib.hid (T1.out.alloc (.cells #[.slice A l.length c] 31))
  have B1 := Lib.hid (Blk.newH (w.alloc (.cells #[.int .i64 t.n, .slice t.ss.A t.ss.l.length t.ss.c, .slice t.cs.A t.cs.l.length t.cs.c, .slice t.ws.A t.ws.l.length t.ws.c, .slice t.ms.A t.ms.l.length t.ms.c, .slice t.ks.A t.ks.l.length t.ks.c] 28)) [.slice A l.length c] 31 (w.heap.size + 1) (by first | rfl | simp))
  replace E := Lib.hid (ext_alloc E.out (.cells #[.int .i64 x.f, .int .i64 x.cfg, .slice x.ms.A x.ms.l.length x.ms.c] 37))
  replace HT := Lib.hid (HT.out.alloc (.cells #[.int .i64 x.f, .int .i64 x.cfg, .slice x.ms.A x.ms.l.length x.ms.c] 37))
  replace HS := Lib.hid (HS.out.alloc (.cells #[.int .i64 x.f, .int .i64 x.cfg, .slice x.ms.A x.ms.l.length x.ms.c] 37))
  replace HX := Lib.hid (HX.out.alloc (.cells #[.int .i64 x.f, .int .i64 x.cfg, .slice x.ms.A x.ms.l.length x.ms.c] 37))
  replace T1 := Lib.hid (T1.out.alloc (.cells #[.int .i64 x.f, .int .i64 x.cfg, .slice x.ms.A x.ms.l.length x.ms.c] 37))
  replace B1 := Lib.hid (B1.out.alloc (.cells #[.int .i64 x.f, .int .i64 x.cfg, .slice x.ms.A x.ms.l.length x.ms.c] 37))
  have C1 := Lib.hid (Blk.newH ((w.alloc (.cells #[.int .i64 t.n, .slice t.ss.A t.ss.l.length t.ss.c, .slice t.cs.A t.cs.l.length t.cs.c, .slice t.ws.A t.ws.l.length t.ws.c, .slice t.ms.A t.ms.l.length t.ms.c, .slice t.ks.A t.ks.l.length t.ks.c] 28)).alloc (.cells #[.slice A l.length c] 31)) [.int .i64 x.f, .int .i64 x.cfg, .slice x.ms.A x.ms.l.length x.ms.c] 37 (w.heap.size + 1 + 1) (by first | rfl | simp))
  obtain ⟨W, hW⟩ : ∃ xw, (((w.alloc (.cells #[.int .i64 t.n, .slice t.ss.A t.ss.l.length t.ss.c, .slice t.cs.A t.cs.l.length t.cs.c, .slice t.ws.A t.ws.l.length t.ws.c, .slice t.ms.A t.ms.l.length t.ms.c, .slice t.ks.A t.ks.l.length t.ks.c] 28)).alloc (.cells #[.slice A l.length c] 31)).alloc (.cells #[.int .i64 x.f, .int .i64 x.cfg, .slice x.ms.A x.ms.l.length x.ms.c] 37)) = xw := ⟨_, rfl⟩
  rw [hW] at E HT HS HX T1 B1 C1
  have HW := Lib.hid hW
  clear hW
  go_enter Try.func4, Try.ntmps4
  go_wp2_with fail
  rw [HW.out]
  clear HW
  refine (sane_any _).mono ?_
  rintro e w1 ⟨rfl, B⟩
  replace E := Lib.hid (ext_trans E.out B)
  replace HT := Lib.hid (HT.out.ext B)
  replace HS := Lib.hid (HS.out.ext B)
  replace HX := Lib.hid (HX.out.ext B)
  replace T1 := Lib.hid (T1.out.ext B)
  replace B1 := Lib.hid (B1.out.ext B)
  replace C1 := Lib.hid (C1.out.ext B)
  clear B
  have q0 := T1.out.c 0 _ rfl
  have q1 := T1.out.c 1 _ rfl
  have q2 := T1.out.c 2 _ rfl
  have q3 := T1.out.c 3 _ rfl
  have q4 := T1.out.c 4 _ rfl
  have q5 := T1.out.c 5 _ rfl
  have q6 := T1.out.lt
  go_wp2_with fail
  refine (few14_any t _ HT.out).mono ?_
  rintro e w2 ⟨r, rfl, hr, B⟩
  clear q0 q1 q2 q3 q4 q5 q6
  replace E := Lib.hid (ext_trans E.out B)
  replace HT := Lib.hid (HT.out.ext B)
  replace HS := Lib.hid (HS.out.ext B)
  replace HX := Lib.hid (HX.out.ext B)
  replace T1 := Lib.hid (T1.out.ext B)
  replace B1 := Lib.hid (B1.out.ext B)
  replace C1 := Lib.hid (C1.out.ext B)
  clear B
  have HRw2 := Lib.hid hr
  clear hr
  cases r
  · go_wp2_with fail
    go_ret
    exact ⟨rfl, E.out⟩
  have q0 := B1.out.c 0 _ rfl
  have q1 := B1.out.lt
  go_wp2_with fail
  refine (few19_any A c l _ HS.out.s HS.out.n).mono ?_
  rintro e w3 ⟨r, rfl, hr, B⟩
  clear q0 q1
  replace E := Lib.hid (ext_trans E.out B)
  replace HT := Lib.hid (HT.out.ext B)
  replace HS := Lib.hid (HS.out.ext B)
  replace HX := Lib.hid (HX.out.ext B)
  replace T1 := Lib.hid (T1.out.ext B)
  replace B1 := Lib.hid (B1.out.ext B)
  replace C1 := Lib.hid (C1.out.ext B)
  clear B
  have HRw3 := Lib.hid hr
  clear hr
  cases r
  · go_wp2_with fail
    go_ret
    exact ⟨rfl, E.out⟩
  have hl10 := (HRw3.out rfl).1
  have q0 := C1.out.c 0 _ rfl
  have q1 := C1.out.c 1 _ rfl
  have q2 := C1.out.c 2 _ rfl
  have q3 := C1.out.lt
  by_cases hm : 10 < x.ms.l.length
  · have e1 : decide ((x.ms.l.length : Int) > 10) = true := decide_eq_true (by omega)
    go_wp2_with fail
    go_ret
    exact ⟨rfl, E.out⟩
  have e1 : decide ((x.ms.l.length : Int) > 10) = false := decide_eq_false (by omega)
  have r0 := T1.out.c 0 _ rfl
  have r1 := T1.out.c 1 _ rfl
  have r2 := T1.out.c 2 _ rfl
  have r3 := T1.out.c 3 _ rfl
  have r4 := T1.out.c 4 _ rfl
  have r5 := T1.out.c 5 _ rfl
  have r6 := T1.out.lt
  have r7 := B1.out.c 0 _ rfl
  have r8 := B1.out.lt
  obtain ⟨v, hv⟩ : ∃ v, addE t l x = v := ⟨_, rfl⟩
  obtain ⟨P, hP⟩ : ∃ P, addL t l x = P := ⟨_, rfl⟩
  obtain ⟨pl, hpl⟩ : ∃ n, P.length = n := ⟨_, rfl⟩
  have HV := Lib.hid hv
  have HP := Lib.hid hP
  have HPL := Lib.hid hpl
  clear hv hP hpl
  go_wp2_with fail
  clear e1 hm
  refine (add_lit (L := P) pl HV.out HP.out HPL.out.symm rfl HT.out HS.out.s (by omega) HS.out.o HX.out).mono ?_
  rintro e w4 ⟨A1, cp1, rfl, hO1, B⟩
  clear q0 q1 q2 q3 r0 r1 r2 r3 r4 r5 r6 r7 r8
  replace E := Lib.hid (ext_trans E.out B)
  replace HT := Lib.hid (HT.out.ext B)
  replace HS := Lib.hid (HS.out.ext B)
  replace HX := Lib.hid (HX.out.ext B)
  replace T1 := Lib.hid (T1.out.ext B)
  replace B1 := Lib.hid (B1.out.ext B)
  replace C1 := Lib.hid (C1.out.ext B)
  clear B
  by_cases h0 : v = 0
  rotate_left
  · have e1 : (v != 0) = true := by simpa using h0
    have h9 : pl = 0 := by rw [← HPL.out, ← HP.out, addL_no HV.out h0]; rfl
    subst h9
    go_wp2_with fail
    go_ret
    exact ⟨by simp, ext_alloc E.out _⟩
  subst h0
  have HOK := Lib.hid (addE_ok.1 HV.out)
  have HPP : Hid (P = putC l x) := HP.out.symm.trans (addL_yes HV.out)
  have hp11 : pl ≤ 1000 := by have := putC_len (l := l) (c := x); rw [← HPP.out, HPL.out] at this; omega
  have HAG : Hid (addE t P x = 0 ∧ addL t P x = P) := by
    have := HOK.out.again
    rw [← HPP.out] at this
    have h1 := addE_ok.2 this.1
    exact ⟨h1, by rw [addL_yes h1]; exact this.2⟩
  have HCK : Hid (chkS t P = 0) := chkS_ok.2 ⟨HOK.out.tab, by rw [HPP.out]; exact HOK.out.vs⟩
  have S1 := Lib.hid (show SOk _ A1 P from ⟨hO1.slc (sz := 3) (fun _ => rfl) (by decide), by rw [HPL.out]; unfold maxLen; omega, by rw [HPP.out]; exact putC_ok HS.out.o HX.out⟩)
  clear hO1
  replace E := Lib.hid (ext_alloc E.out (.cells #[.slice A1 pl cp1] 31))
  replace HT := Lib.hid (HT.out.alloc (.cells #[.slice A1 pl cp1] 31))
  replace HS := Lib.hid (HS.out.alloc (.cells #[.slice A1 pl cp1] 31))
  replace HX := Lib.hid (HX.out.alloc (.cells #[.slice A1 pl cp1] 31))
  replace T1 := Lib.hid (T1.out.alloc (.cells #[.slice A1 pl cp1] 31))
  replace B1 := Lib.hid (B1.out.alloc (.cells #[.slice A1 pl cp1] 31))
  replace C1 := Lib.hid (C1.out.alloc (.cells #[.slice A1 pl cp1] 31))
  replace S1 := Lib.hid (S1.out.alloc (.cells #[.slice A1 pl cp1] 31))
  have X1 := Lib.hid (Blk.newH w4 [.slice A1 pl cp1] 31 (w4.heap.size) (by first | rfl | simp))
  have q0 := T1.out.c 0 _ rfl
  have q1 := T1.out.c 1 _ rfl
  have q2 := T1.out.c 2 _ rfl
  have q3 := T1.out.c 3 _ rfl
  have q4 := T1.out.c 4 _ rfl
  have q5 := T1.out.c 5 _ rfl
  have q6 := T1.out.lt
  have q7 := X1.out.c 0 _ rfl
  have q8 := X1.out.lt
  have q9 := C1.out.c 0 _ rfl
  have q10 := C1.out.c 1 _ rfl
  have q11 := C1.out.c 2 _ rfl
  have q12 := C1.out.lt
  go_wp2_with fail
  refine (add_lit (L := P) pl HAG.out.1 HAG.out.2 HPL.out.symm HPL.out.symm HT.out S1.out.s (by rw [HPL.out]; exact hp11) S1.out.o HX.out).mono ?_
  rintro e w5 ⟨A2, cp2, rfl, hO2, B⟩
  clear q0 q1 q2 q3 q4 q5 q6 q7 q8 q9 q10 q11 q12
  replace E := Lib.hid (ext_trans E.out B)
  replace HT := Lib.hid (HT.out.ext B)
  replace HS := Lib.hid (HS.out.ext B)
  replace HX := Lib.hid (HX.out.ext B)
  replace T1 := Lib.hid (T1.out.ext B)
  replace B1 := Lib.hid (B1.out.ext B)
  replace C1 := Lib.hid (C1.out.ext B)
  replace S1 := Lib.hid (S1.out.ext B)
  replace X1 := Lib.hid (X1.out.ext B)
  clear B
  have S2 := Lib.hid (show SOk _ A2 P from ⟨hO2.slc (sz := 3) (fun _ => rfl) (by decide), S1.out.n, S1.out.o⟩)
  clear hO2
  replace E := Lib.hid (ext_alloc E.out (.cells #[.slice A2 pl cp2] 31))
  replace HT := Lib.hid (HT.out.alloc (.cells #[.slice A2 pl cp2] 31))
  replace HS := Lib.hid (HS.out.alloc (.cells #[.slice A2 pl cp2] 31))
  replace HX := Lib.hid (HX.out.alloc (.cells #[.slice A2 pl cp2] 31))
  replace T1 := Lib.hid (T1.out.alloc (.cells #[.slice A2 pl cp2] 31))
  replace B1 := Lib.hid (B1.out.alloc (.cells #[.slice A2 pl cp2] 31))
  replace C1 := Lib.hid (C1.out.alloc (.cells #[.slice A2 pl cp2] 31))
  replace S1 := Lib.hid (S1.out.alloc (.cells #[.slice A2 pl cp2] 31))
  replace X1 := Lib.hid (X1.out.alloc (.cells #[.slice A2 pl cp2] 31))
  replace S2 := Lib.hid (S2.out.alloc (.cells #[.slice A2 pl cp2] 31))
  have X2 := Lib.hid (Blk.newH w5 [.slice A2 pl cp2] 31 (w5.heap.size) (by first | rfl | simp))
  have q0 := T1.out.c 0 _ rfl
  have q1 := T1.out.c 1 _ rfl
  have q2 := T1.out.c 2 _ rfl
  have q3 := T1.out.c 3 _ rfl
  have q4 := T1.out.c 4 _ rfl
  have q5 := T1.out.c 5 _ rfl
  have q6 := T1.out.lt
  have q7 := X1.out.c 0 _ rfl
  have q8 := X1.out.lt
  go_wp2_with fail
  refine (check_sat 0 HCK.out HPL.out.symm HT.out S1.out.s S1.out.n S1.out.o).mono ?_
  rintro e w6 ⟨rfl, B⟩
  clear q0 q1 q2 q3 q4 q5 q6 q7 q8
  replace E := Lib.hid (ext_trans E.out B)
  replace HT := Lib.hid (HT.out.ext B)
  replace HS := Lib.hid (HS.out.ext B)
  replace HX := Lib.hid (HX.out.ext B)
  replace T1 := Lib.hid (T1.out.ext B)
  replace B1 := Lib.hid (B1.out.ext B)
  replace C1 := Lib.hid (C1.out.ext B)
  replace S1 := Lib.hid (S1.out.ext B)
  replace X1 := Lib.hid (X1.out.ext B)
  replace S2 := Lib.hid (S2.out.ext B)
  replace X2 := Lib.hid (X2.out.ext B)
  clear B
  have q0 := X1.out.c 0 _ rfl
  have q1 := X1.out.lt
  have q2 := X2.out.c 0 _ rfl
  have q3 := X2.out.lt
  go_wp2_with fail
  refine (sameS_at true (sameS_refl P) HPL.out.symm HPL.out.symm S2.out.s S2.out.n S2.out.o S1.out.s S1.out.n S1.out.o).mono ?_
  rintro e w7 ⟨rfl, B⟩
  clear q0 q1 q2 q3
  replace E := Lib.hid (ext_trans E.out B)
  replace HT := Lib.hid (HT.out.ext B)
  replace HS := Lib.hid (HS.out.ext B)
  replace HX := Lib.hid (HX.out.ext B)
  replace T1 := Lib.hid (T1.out.ext B)
  replace B1 := Lib.hid (B1.out.ext B)
  replace C1 := Lib.hid (C1.out.ext B)
  replace S1 := Lib.hid (S1.out.ext B)
  replace X1 := Lib.hid (X1.out.ext B)
  replace S2 := Lib.hid (S2.out.ext B)
  replace X2 := Lib.hid (X2.out.ext B)
  clear B
  have q0 := B1.out.c 0 _ rfl
  have q1 := B1.out.lt
  have hll := HS.out.n
  unfold maxLen at hll
  go_wp2_with fail
  clear q0 q1
  go_loopw [13, 14] (fun z i wr => ∃ (k : Nat) (nx : Int), k ≤ l.length ∧ i = .int .i64 k ∧ z = .int .i64 nx ∧ Hid (Nxt (l.take k) x.f nx) ∧ Hid (Below w7.heap.size w7 wr)) (fun _ i _ => l.length - (intOf i).toNat)
  case atStart => exact ⟨0, 1440, Nat.zero_le _, rfl, rfl, ⟨by decide, by simp, .inl rfl⟩, ext_refl _⟩
  case round =>
    obtain ⟨k, nx, hk, rfl, rfl, HN, HR⟩ := hrel
    replace E := Lib.hid (ext_trans E.out HR.out)
    replace HT := Lib.hid (HT.out.ext HR.out)
    replace HS := Lib.hid (HS.out.ext HR.out)
    replace HX := Lib.hid (HX.out.ext HR.out)
    replace T1 := Lib.hid (T1.out.ext HR.out)
    replace B1 := Lib.hid (B1.out.ext HR.out)
    replace C1 := Lib.hid (C1.out.ext HR.out)
    replace S1 := Lib.hid (S1.out.ext HR.out)
    replace X1 := Lib.hid (X1.out.ext HR.out)
    replace S2 := Lib.hid (S2.out.ext HR.out)
    replace X2 := Lib.hid (X2.out.ext HR.out)
    have h0 := B1.out.c 0 _ rfl
    have hl := B1.out.lt
    by_cases hlt : k < l.length
    · have hlt' : (k : Int) < l.length := by omega
      obtain ⟨y, q1, o1, hy, rfl, hb1, hc⟩ := HS.out.s.at_ hlt
      have HY := Lib.hid hy
      have c0 := hc 0 _ rfl
      simp only [Nat.add_zero] at c0
      clear hc hy
      by_cases g1 : x.f < y.f
      rotate_left
      · have e1 : decide (y.f > x.f) = false := decide_eq_false g1
        have HN1 := Lib.hid (HN.out.keep HY.out (fun q => g1 q.1))
        go_wp2_with fail
        have SS := Lib.hid (show ∀ w', Below wr.heap.size wr w' → (fun w' => Below wr.heap.size wr w' ∧ w'.cell? ⟨w.heap.size + 1, 0, none⟩ = some (.slice (some ⟨q1, o1, none⟩) l.length c) ∧ w'.cell? ⟨w.heap.size + 1 + 1, 0, none⟩ = some (.int .i64 x.f) ∧ w'.cell? ⟨q1, o1 + k * 3, none⟩ = some (.int .i64 y.f)) w' from fun w' h => ⟨h, (B1.out.ext h).c 0 _ rfl, (C1.out.ext h).c 0 _ rfl, (h.cell (p := ⟨q1, o1 + k * 3, none⟩) hb1).trans c0⟩)
        refine rg_begin (S := (fun w' => Below wr.heap.size wr w' ∧ w'.cell? ⟨w.heap.size + 1, 0, none⟩ = some (.slice (some ⟨q1, o1, none⟩) l.length c) ∧ w'.cell? ⟨w.heap.size + 1 + 1, 0, none⟩ = some (.int .i64 x.f) ∧ w'.cell? ⟨q1, o1 + k * 3, none⟩ = some (.int .i64 y.f))) 19 (by kernel_rfl) (by intro d; cases d <;> intro _ _ _ _ h <;> exact h) ?_ (fun Q7 hQ7 hN7 hHeld => ?_)
        · exact SS.out _ (ext_drew (ext_refl _))
        refine rg_take (i := 0) (some 76) (v := ?_) rfl rfl (by kernel_rfl) (by rfl) hQ7 hHeld ?_ ?_
        rotate_left
        · intro w7 hSw; (try dsimp only at hSw); go_simp; all_goals with_reducible rfl
        try simp only [Act.put, List.setIfInBounds_toArray, List.set_cons_zero, List.set_cons_succ]
        refine rg_take (i := 1) (some 77) (v := ?_) rfl rfl (by kernel_rfl) (by rfl) hQ7 hHeld ?_ ?_
        rotate_left
        · intro w7 hSw; (try dsimp only at hSw); go_simp; all_goals with_reducible rfl
        try simp only [Act.put, List.setIfInBounds_toArray, List.set_cons_zero, List.set_cons_succ]
        refine rg_take (i := 2) (some 78) (v := ?_) rfl rfl (by kernel_rfl) (by rfl) hQ7 hHeld ?_ ?_
        rotate_left
        · intro w7 hSw; (try dsimp only at hSw); go_simp; all_goals with_reducible rfl
        try simp only [Act.put, List.setIfInBounds_toArray, List.set_cons_zero, List.set_cons_succ]
        refine rg_take (i := 3) (some 79) (v := ?_) rfl rfl (by kernel_rfl) (by rfl) hQ7 hHeld ?_ ?_
        rotate_left
        · intro w7 hSw; (try dsimp only at hSw); go_simp; all_goals with_reducible rfl
        try simp only [Act.put, List.setIfInBounds_toArray, List.set_cons_zero, List.set_cons_succ]
        refine rg_take (i := 4) (some 80) (v := ?_) rfl rfl (by kernel_rfl) (by rfl) hQ7 hHeld ?_ ?_
        rotate_left
        · intro w7 hSw; (try dsimp only at hSw); go_simp; all_goals with_reducible rfl
        try simp only [Act.put, List.setIfInBounds_toArray, List.set_cons_zero, List.set_cons_succ]
        refine rg_take (i := 5) (some 81) (v := ?_) rfl rfl (by kernel_rfl) (by rfl) hQ7 hHeld ?_ ?_
        rotate_left
        · intro w7 hSw; (try dsimp only at hSw); go_simp; all_goals with_reducible rfl
        try simp only [Act.put, List.setIfInBounds_toArray, List.set_cons_zero, List.set_cons_succ]
        refine rg_take (i := 6) (some 82) (v := ?_) rfl rfl (by kernel_rfl) (by rfl) hQ7 hHeld ?_ ?_
        rotate_left
        · intro w7 hSw; (try dsimp only at hSw); go_simp; all_goals with_reducible rfl
        try simp only [Act.put, List.setIfInBounds_toArray, List.set_cons_zero, List.set_cons_succ]
        refine rg_take (i := 7) (some 83) (v := ?_) rfl rfl (by kernel_rfl) (by rfl) hQ7 hHeld ?_ ?_
        rotate_left
        · intro w7 hSw; (try dsimp only at hSw); go_simp; all_goals with_reducible rfl
        try simp only [Act.put, List.setIfInBounds_toArray, List.set_cons_zero, List.set_cons_succ]
        refine rg_take (i := 8) (some 84) (v := ?_) rfl rfl (by kernel_rfl) (by rfl) hQ7 hHeld ?_ ?_
        rotate_left
        · intro w7 hSw; (try dsimp only at hSw); go_simp; all_goals with_reducible rfl
        try simp only [Act.put, List.setIfInBounds_toArray, List.set_cons_zero, List.set_cons_succ]
        refine rg_take (i := 9) (some 85) (v := ?_) rfl rfl (by kernel_rfl) (by rfl) hQ7 hHeld ?_ ?_
        rotate_left
        · intro w7 hSw; (try dsimp only at hSw); go_simp; all_goals with_reducible rfl
        try simp only [Act.put, List.setIfInBounds_toArray, List.set_cons_zero, List.set_cons_succ]
        refine rg_skip (i := 10) (some 86) rfl rfl (by kernel_rfl) (by rfl) hQ7 hHeld ?_
        try simp only [Act.put, List.setIfInBounds_toArray, List.set_cons_zero, List.set_cons_succ]
        refine rg_skip (i := 11) (some 87) rfl rfl (by kernel_rfl) (by rfl) hQ7 hHeld ?_
        try simp only [Act.put, List.setIfInBounds_toArray, List.set_cons_zero, List.set_cons_succ]
        refine rg_skip (i := 12) (some 88) rfl rfl (by kernel_rfl) (by rfl) hQ7 hHeld ?_
        try simp only [Act.put, List.setIfInBounds_toArray, List.set_cons_zero, List.set_cons_succ]
        refine rg_skip (i := 13) (some 89) rfl rfl (by kernel_rfl) (by rfl) hQ7 hHeld ?_
        try simp only [Act.put, List.setIfInBounds_toArray, List.set_cons_zero, List.set_cons_succ]
        refine rg_skip (i := 14) (some 90) rfl rfl (by kernel_rfl) (by rfl) hQ7 hHeld ?_
        try simp only [Act.put, List.setIfInBounds_toArray, List.set_cons_zero, List.set_cons_succ]
        refine rg_skip (i := 15) (some 91) rfl rfl (by kernel_rfl) (by rfl) hQ7 hHeld ?_
        try simp only [Act.put, List.setIfInBounds_toArray, List.set_cons_zero, List.set_cons_succ]
        refine rg_skip (i := 16) (some 92) rfl rfl (by kernel_rfl) (by rfl) hQ7 hHeld ?_
        try simp only [Act.put, List.setIfInBounds_toArray, List.set_cons_zero, List.set_cons_succ]
        refine rg_skip (i := 17) (some 93) rfl rfl (by kernel_rfl) (by rfl) hQ7 hHeld ?_
        try simp only [Act.put, List.setIfInBounds_toArray, List.set_cons_zero, List.set_cons_succ]
        refine rg_take (i := 18) (some 94) (v := ?_) rfl rfl (by kernel_rfl) (by rfl) hQ7 hHeld ?_ ?_
        rotate_left
        · intro w7 hSw; (try dsimp only at hSw); go_simp; all_goals with_reducible rfl
        try simp only [Act.put, List.setIfInBounds_toArray, List.set_cons_zero, List.set_cons_succ]
        refine rg_end (by kernel_rfl) (hN7 _ _ ?_) _
        clear hQ7 hN7 Q7
        have BX := hHeld.1
        clear SS
        have HR1 := Lib.hid (ext_trans HR.out BX)
        clear h0 hl c0
        clear BX
        go_wp2_with fail
        first | exact ⟨⟨k + 1, nx, by omega, by go_num, by first | rfl | trivial, HN1.out, HR1.out⟩, by simp [intOf] <;> omega⟩ | (go_roundw; all_goals first | exact ⟨k + 1, nx, by omega, by go_num, by first | rfl | trivial, HN1.out, HR1.out⟩ | (simp [intOf] <;> omega))
      have e1 : decide (y.f > x.f) = true := decide_eq_true g1
      by_cases g2 : y.f < nx
      rotate_left
      · have e2 : decide (y.f < nx) = false := decide_eq_false g2
        have HN1 := Lib.hid (HN.out.keep HY.out (fun q => g2 q.2))
        go_wp2_with fail
        have SS := Lib.hid (show ∀ w', Below wr.heap.size wr w' → (fun w' => Below wr.heap.size wr w' ∧ w'.cell? ⟨w.heap.size + 1, 0, none⟩ = some (.slice (some ⟨q1, o1, none⟩) l.length c) ∧ w'.cell? ⟨w.heap.size + 1 + 1, 0, none⟩ = some (.int .i64 x.f) ∧ w'.cell? ⟨q1, o1 + k * 3, none⟩ = some (.int .i64 y.f)) w' from fun w' h => ⟨h, (B1.out.ext h).c 0 _ rfl, (C1.out.ext h).c 0 _ rfl, (h.cell (p := ⟨q1, o1 + k * 3, none⟩) hb1).trans c0⟩)
        refine rg_begin (S := (fun w' => Below wr.heap.size wr w' ∧ w'.cell? ⟨w.heap.size + 1, 0, none⟩ = some (.slice (some ⟨q1, o1, none⟩) l.length c) ∧ w'.cell? ⟨w.heap.size + 1 + 1, 0, none⟩ = some (.int .i64 x.f) ∧ w'.cell? ⟨q1, o1 + k * 3, none⟩ = some (.int .i64 y.f))) 19 (by kernel_rfl) (by intro d; cases d <;> intro _ _ _ _ h <;> exact h) ?_ (fun Q7 hQ7 hN7 hHeld => ?_)
        · exact SS.out _ (ext_drew (ext_refl _))
        refine rg_take (i := 0) (some 76) (v := ?_) rfl rfl (by kernel_rfl) (by rfl) hQ7 hHeld ?_ ?_
        rotate_left
        · intro w7 hSw; (try dsimp only at hSw); go_simp; all_goals with_reducible rfl
        try simp only [Act.put, List.setIfInBounds_toArray, List.set_cons_zero, List.set_cons_succ]
        refine rg_take (i := 1) (some 77) (v := ?_) rfl rfl (by kernel_rfl) (by rfl) hQ7 hHeld ?_ ?_
        rotate_left
        · intro w7 hSw; (try dsimp only at hSw); go_simp; all_goals with_reducible rfl
        try simp only [Act.put, List.setIfInBounds_toArray, List.set_cons_zero, List.set_cons_succ]
        refine rg_take (i := 2) (some 78) (v := ?_) rfl rfl (by kernel_rfl) (by rfl) hQ7 hHeld ?_ ?_
        rotate_left
        · intro w7 hSw; (try dsimp only at hSw); go_simp; all_goals with_reducible rfl
        try simp only [Act.put, List.setIfInBounds_toArray, List.set_cons_zero, List.set_cons_succ]
        refine rg_take (i := 3) (some 79) (v := ?_) rfl rfl (by kernel_rfl) (by rfl) hQ7 hHeld ?_ ?_
        rotate_left
        · intro w7 hSw; (try dsimp only at hSw); go_simp; all_goals with_reducible rfl
        try simp only [Act.put, List.setIfInBounds_toArray, List.set_cons_zero, List.set_cons_succ]
        refine rg_take (i := 4) (some 80) (v := ?_) rfl rfl (by kernel_rfl) (by rfl) hQ7 hHeld ?_ ?_
        rotate_left
        · intro w7 hSw; (try dsimp only at hSw); go_simp; all_goals with_reducible rfl
        try simp only [Act.put, List.setIfInBounds_toArray, List.set_cons_zero, List.set_cons_succ]
        refine rg_take (i := 5) (some 81) (v := ?_) rfl rfl (by kernel_rfl) (by rfl) hQ7 hHeld ?_ ?_
        rotate_left
        · intro w7 hSw; (try dsimp only at hSw); go_simp; all_goals with_reducible rfl
        try simp only [Act.put, List.setIfInBounds_toArray, List.set_cons_zero, List.set_cons_succ]
        refine rg_take (i := 6) (some 82) (v := ?_) rfl rfl (by kernel_rfl) (by rfl) hQ7 hHeld ?_ ?_
        rotate_left
        · intro w7 hSw; (try dsimp only at hSw); go_simp; all_goals with_reducible rfl
        try simp only [Act.put, List.setIfInBounds_toArray, List.set_cons_zero, List.set_cons_succ]
        refine rg_take (i := 7) (some 83) (v := ?_) rfl rfl (by kernel_rfl) (by rfl) hQ7 hHeld ?_ ?_
        rotate_left
        · intro w7 hSw; (try dsimp only at hSw); go_simp; all_goals with_reducible rfl
        try simp only [Act.put, List.setIfInBounds_toArray, List.set_cons_zero, List.set_cons_succ]
        refine rg_take (i := 8) (some 84) (v := ?_) rfl rfl (by kernel_rfl) (by rfl) hQ7 hHeld ?_ ?_
        rotate_left
        · intro w7 hSw; (try dsimp only at hSw); go_simp; all_goals with_reducible rfl
        try simp only [Act.put, List.setIfInBounds_toArray, List.set_cons_zero, List.set_cons_succ]
        refine rg_take (i := 9) (some 85) (v := ?_) rfl rfl (by kernel_rfl) (by rfl) hQ7 hHeld ?_ ?_
        rotate_left
        · intro w7 hSw; (try dsimp only at hSw); go_simp; all_goals with_reducible rfl
        try simp only [Act.put, List.setIfInBounds_toArray, List.set_cons_zero, List.set_cons_succ]
        refine rg_take (i := 10) (some 86) (v := ?_) rfl rfl (by kernel_rfl) (by rfl) hQ7 hHeld ?_ ?_
        rotate_left
        · intro w7 hSw; (try dsimp only at hSw); go_simp; all_goals with_reducible rfl
        try simp only [Act.put, List.setIfInBounds_toArray, List.set_cons_zero, List.set_cons_succ]
        refine rg_take (i := 11) (some 87) (v := ?_) rfl rfl (by kernel_rfl) (by rfl) hQ7 hHeld ?_ ?_
        rotate_left
        · intro w7 hSw; (try dsimp only at hSw); go_simp; all_goals with_reducible rfl
        try simp only [Act.put, List.setIfInBounds_toArray, List.set_cons_zero, List.set_cons_succ]
        refine rg_take (i := 12) (some 88) (v := ?_) rfl rfl (by kernel_rfl) (by rfl) hQ7 hHeld ?_ ?_
        rotate_left
        · intro w7 hSw; (try dsimp only at hSw); go_simp; all_goals with_reducible rfl
        try simp only [Act.put, List.setIfInBounds_toArray, List.set_cons_zero, List.set_cons_succ]
        refine rg_take (i := 13) (some 89) (v := ?_) rfl rfl (by kernel_rfl) (by rfl) hQ7 hHeld ?_ ?_
        rotate_left
        · intro w7 hSw; (try dsimp only at hSw); go_simp; all_goals with_reducible rfl
        try simp only [Act.put, List.setIfInBounds_toArray, List.set_cons_zero, List.set_cons_succ]
        refine rg_take (i := 14) (some 90) (v := ?_) rfl rfl (by kernel_rfl) (by rfl) hQ7 hHeld ?_ ?_
        rotate_left
        · intro w7 hSw; (try dsimp only at hSw); go_simp; all_goals with_reducible rfl
        try simp only [Act.put, List.setIfInBounds_toArray, List.set_cons_zero, List.set_cons_succ]
        refine rg_take (i := 15) (some 91) (v := ?_) rfl rfl (by kernel_rfl) (by rfl) hQ7 hHeld ?_ ?_
        rotate_left
        · intro w7 hSw; (try dsimp only at hSw); go_simp; all_goals with_reducible rfl
        try simp only [Act.put, List.setIfInBounds_toArray, List.set_cons_zero, List.set_cons_succ]
        refine rg_take (i := 16) (some 92) (v := ?_) rfl rfl (by kernel_rfl) (by rfl) hQ7 hHeld ?_ ?_
        rotate_left
        · intro w7 hSw; (try dsimp only at hSw); go_simp; all_goals with_reducible rfl
        try simp only [Act.put, List.setIfInBounds_toArray, List.set_cons_zero, List.set_cons_succ]
        refine rg_take (i := 17) (some 93) (v := ?_) rfl rfl (by kernel_rfl) (by rfl) hQ7 hHeld ?_ ?_
        rotate_left
        · intro w7 hSw; (try dsimp only at hSw); go_simp; all_goals with_reducible rfl
        try simp only [Act.put, List.setIfInBounds_toArray, List.set_cons_zero, List.set_cons_succ]
        refine rg_take (i := 18) (some 94) (v := ?_) rfl rfl (by kernel_rfl) (by rfl) hQ7 hHeld ?_ ?_
        rotate_left
        · intro w7 hSw; (try dsimp only at hSw); go_simp; all_goals with_reducible rfl
        try simp only [Act.put, List.setIfInBounds_toArray, List.set_cons_zero, List.set_cons_succ]
        refine rg_end (by kernel_rfl) (hN7 _ _ ?_) _
        clear hQ7 hN7 Q7
        have BX := hHeld.1
        clear SS
        have HR1 := Lib.hid (ext_trans HR.out BX)
        clear h0 hl c0
        clear BX
        go_wp2_with fail
        first | exact ⟨⟨k + 1, nx, by omega, by go_num, by first | rfl | trivial, HN1.out, HR1.out⟩, by simp [intOf] <;> omega⟩ | (go_roundw; all_goals first | exact ⟨k + 1, nx, by omega, by go_num, by first | rfl | trivial, HN1.out, HR1.out⟩ | (simp [intOf] <;> omega))
      have e2 : decide (y.f < nx) = true := decide_eq_true g2
      have HN1 := Lib.hid (HN.out.take_ HY.out g1 g2)
      go_wp2_with fail
      have SS := Lib.hid (show ∀ w', Below wr.heap.size wr w' → (fun w' => Below wr.heap.size wr w' ∧ w'.cell? ⟨w.heap.size + 1, 0, none⟩ = some (.slice (some ⟨q1, o1, none⟩) l.length c) ∧ w'.cell? ⟨w.heap.size + 1 + 1, 0, none⟩ = some (.int .i64 x.f) ∧ w'.cell? ⟨q1, o1 + k * 3, none⟩ = some (.int .i64 y.f)) w' from fun w' h => ⟨h, (B1.out.ext h).c 0 _ rfl, (C1.out.ext h).c 0 _ rfl, (h.cell (p := ⟨q1, o1 + k * 3, none⟩) hb1).trans c0⟩)
      refine rg_begin (S := (fun w' => Below wr.heap.size wr w' ∧ w'.cell? ⟨w.heap.size + 1, 0, none⟩ = some (.slice (some ⟨q1, o1, none⟩) l.length c) ∧ w'.cell? ⟨w.heap.size + 1 + 1, 0, none⟩ = some (.int .i64 x.f) ∧ w'.cell? ⟨q1, o1 + k * 3, none⟩ = some (.int .i64 y.f))) 19 (by kernel_rfl) (by intro d; cases d <;> intro _ _ _ _ h <;> exact h) ?_ (fun Q7 hQ7 hN7 hHeld => ?_)
      · exact SS.out _ (ext_drew (ext_refl _))
      refine rg_take (i := 0) (some 76) (v := ?_) rfl rfl (by kernel_rfl) (by rfl) hQ7 hHeld ?_ ?_
      rotate_left
      · intro w7 hSw; (try dsimp only at hSw); go_simp; all_goals with_reducible rfl
      try simp only [Act.put, List.setIfInBounds_toArray, List.set_cons_zero, List.set_cons_succ]
      refine rg_take (i := 1) (some 77) (v := ?_) rfl rfl (by kernel_rfl) (by rfl) hQ7 hHeld ?_ ?_
      rotate_left
      · intro w7 hSw; (try dsimp only at hSw); go_simp; all_goals with_reducible rfl
      try simp only [Act.put, List.setIfInBounds_toArray, List.set_cons_zero, List.set_cons_succ]
      refine rg_take (i := 2) (some 78) (v := ?_) rfl rfl (by kernel_rfl) (by rfl) hQ7 hHeld ?_ ?_
      rotate_left
      · intro w7 hSw; (try dsimp only at hSw); go_simp; all_goals with_reducible rfl
      try simp only [Act.put, List.setIfInBounds_toArray, List.set_cons_zero, List.set_cons_succ]
      refine rg_take (i := 3) (some 79) (v := ?_) rfl rfl (by kernel_rfl) (by rfl) hQ7 hHeld ?_ ?_
      rotate_left
      · intro w7 hSw; (try dsimp only at hSw); go_simp; all_goals with_reducible rfl
      try simp only [Act.put, List.setIfInBounds_toArray, List.set_cons_zero, List.set_cons_succ]
      refine rg_take (i := 4) (some 80) (v := ?_) rfl rfl (by kernel_rfl) (by rfl) hQ7 hHeld ?_ ?_
      rotate_left
      · intro w7 hSw; (try dsimp only at hSw); go_simp; all_goals with_reducible rfl
      try simp only [Act.put, List.setIfInBounds_toArray, List.set_cons_zero, List.set_cons_succ]
      refine rg_take (i := 5) (some 81) (v := ?_) rfl rfl (by kernel_rfl) (by rfl) hQ7 hHeld ?_ ?_
      rotate_left
      · intro w7 hSw; (try dsimp only at hSw); go_simp; all_goals with_reducible rfl
      try simp only [Act.put, List.setIfInBounds_toArray, List.set_cons_zero, List.set_cons_succ]
      refine rg_take (i := 6) (some 82) (v := ?_) rfl rfl (by kernel_rfl) (by rfl) hQ7 hHeld ?_ ?_
      rotate_left
      · intro w7 hSw; (try dsimp only at hSw); go_simp; all_goals with_reducible rfl
      try simp only [Act.put, List.setIfInBounds_toArray, List.set_cons_zero, List.set_cons_succ]
      refine rg_take (i := 7) (some 83) (v := ?_) rfl rfl (by kernel_rfl) (by rfl) hQ7 hHeld ?_ ?_
      rotate_left
      · intro w7 hSw; (try dsimp only at hSw); go_simp; all_goals with_reducible rfl
      try simp only [Act.put, List.setIfInBounds_toArray, List.set_cons_zero, List.set_cons_succ]
      refine rg_take (i := 8) (some 84) (v := ?_) rfl rfl (by kernel_rfl) (by rfl) hQ7 hHeld ?_ ?_
      rotate_left
      · intro w7 hSw; (try dsimp only at hSw); go_simp; all_goals with_reducible rfl
      try simp only [Act.put, List.setIfInBounds_toArray, List.set_cons_zero, List.set_cons_succ]
      refine rg_take (i := 9) (some 85) (v := ?_) rfl rfl (by kernel_rfl) (by rfl) hQ7 hHeld ?_ ?_
      rotate_left
      · intro w7 hSw; (try dsimp only at hSw); go_simp; all_goals with_reducible rfl
      try simp only [Act.put, List.setIfInBounds_toArray, List.set_cons_zero, List.set_cons_succ]
      refine rg_take (i := 10) (some 86) (v := ?_) rfl rfl (by kernel_rfl) (by rfl) hQ7 hHeld ?_ ?_
      rotate_left
      · intro w7 hSw; (try dsimp only at hSw); go_simp; all_goals with_reducible rfl
      try simp only [Act.put, List.setIfInBounds_toArray, List.set_cons_zero, List.set_cons_succ]
      refine rg_take (i := 11) (some 87) (v := ?_) rfl rfl (by kernel_rfl) (by rfl) hQ7 hHeld ?_ ?_
      rotate_left
      · intro w7 hSw; (try dsimp only at hSw); go_simp; all_goals with_reducible rfl
      try simp only [Act.put, List.setIfInBounds_toArray, List.set_cons_zero, List.set_cons_succ]
      refine rg_take (i := 12) (some 88) (v := ?_) rfl rfl (by kernel_rfl) (by rfl) hQ7 hHeld ?_ ?_
      rotate_left
      · intro w7 hSw; (try dsimp only at hSw); go_simp; all_goals with_reducible rfl
      try simp only [Act.put, List.setIfInBounds_toArray, List.set_cons_zero, List.set_cons_succ]
      refine rg_take (i := 13) (some 89) (v := ?_) rfl rfl (by kernel_rfl) (by rfl) hQ7 hHeld ?_ ?_
      rotate_left
      · intro w7 hSw; (try dsimp only at hSw); go_simp; all_goals with_reducible rfl
      try simp only [Act.put, List.setIfInBounds_toArray, List.set_cons_zero, List.set_cons_succ]
      refine rg_take (i := 14) (some 90) (v := ?_) rfl rfl (by kernel_rfl) (by rfl) hQ7 hHeld ?_ ?_
      rotate_left
      · intro w7 hSw; (try dsimp only at hSw); go_simp; all_goals with_reducible rfl
      try simp only [Act.put, List.setIfInBounds_toArray, List.set_cons_zero, List.set_cons_succ]
      refine rg_take (i := 15) (some 91) (v := ?_) rfl rfl (by kernel_rfl) (by rfl) hQ7 hHeld ?_ ?_
      rotate_left
      · intro w7 hSw; (try dsimp only at hSw); go_simp; all_goals with_reducible rfl
      try simp only [Act.put, List.setIfInBounds_toArray, List.set_cons_zero, List.set_cons_succ]
      refine rg_take (i := 16) (some 92) (v := ?_) rfl rfl (by kernel_rfl) (by rfl) hQ7 hHeld ?_ ?_
      rotate_left
      · intro w7 hSw; (try dsimp only at hSw); go_simp; all_goals with_reducible rfl
      try simp only [Act.put, List.setIfInBounds_toArray, List.set_cons_zero, List.set_cons_succ]
      refine rg_take (i := 17) (some 93) (v := ?_) rfl rfl (by kernel_rfl) (by rfl) hQ7 hHeld ?_ ?_
      rotate_left
      · intro w7 hSw; (try dsimp only at hSw); go_simp; all_goals with_reducible rfl
      try simp only [Act.put, List.setIfInBounds_toArray, List.set_cons_zero, List.set_cons_succ]
      refine rg_take (i := 18) (some 94) (v := ?_) rfl rfl (by kernel_rfl) (by rfl) hQ7 hHeld ?_ ?_
      rotate_left
      · intro w7 hSw; (try dsimp only at hSw); go_simp; all_goals with_reducible rfl
      try simp only [Act.put, List.setIfInBounds_toArray, List.set_cons_zero, List.set_cons_succ]
      refine rg_end (by kernel_rfl) (hN7 _ _ ?_) _
      clear hQ7 hN7 Q7
      have BX := hHeld.1
      clear SS
      have x0 := (BX.cell (p := ⟨q1, o1 + k * 3, none⟩) hb1).trans c0
      have xl : q1 < wr.heap.size := hb1
      have z0 := (B1.out.ext BX).c 0 _ rfl
      have zl := (B1.out.ext BX).lt
      have HR1 := Lib.hid (ext_trans HR.out BX)
      clear h0 hl c0
      clear BX
      go_wp2_with fail
      first | exact ⟨⟨k + 1, y.f, by omega, by go_num, by first | rfl | trivial, HN1.out, HR1.out⟩, by simp [intOf] <;> omega⟩ | (go_roundw; all_goals first | exact ⟨k + 1, y.f, by omega, by go_num, by first | rfl | trivial, HN1.out, HR1.out⟩ | (simp [intOf] <;> omega))
    · have hlt' : decide ((k : Int) < l.length) = false := decide_eq_false (by omega)
      rw [List.take_of_length_le (by omega)] at HN
      have HINC : Hid (Inc l) := by rcases HOK.out.old with h | h; (rw [h]; exact List.Pairwise.nil); exact h.inc
      by_cases m0 : m < 0
      · have e3 : decide (m < 0) = true := decide_eq_true m0
        go_wp2_with fail
        go_ret
        exact ⟨rfl, E.out⟩
      have e3 : decide (m < 0) = false := decide_eq_false m0
      by_cases m1 : 1440 ≤ m
      · have e4 : decide (m ≥ 1440) = true := decide_eq_true m1
        go_wp2_with fail
        go_ret
        exact ⟨rfl, E.out⟩
      have e4 : decide (m ≥ 1440) = false := decide_eq_false m1
      have HIN := Lib.hid (added_in HINC.out HN.out (show m < 1440 by omega))
      rw [← HPP.out] at HIN
      obtain ⟨d, hd⟩ : ∃ d, (inS P m).getD noChg = d := ⟨_, rfl⟩
      obtain ⟨o, ho⟩ : ∃ o, (inS P m).isSome = o := ⟨_, rfl⟩
      obtain ⟨d', hd'⟩ : ∃ d, (inS l m).getD noChg = d := ⟨_, rfl⟩
      obtain ⟨o', ho'⟩ : ∃ o, (inS l m).isSome = o := ⟨_, rfl⟩
      have Hd := Lib.hid hd
      have Ho := Lib.hid ho
      have Hd' := Lib.hid hd'
      have Ho' := Lib.hid ho'
      clear hd ho hd' ho'
      have q0 := X1.out.c 0 _ rfl
      have q1 := X1.out.lt
      go_wp2_with fail
      refine (in_d d o Hd.out Ho.out HPL.out.symm S1.out).mono ?_
      rintro e u1 ⟨rfl, B⟩
      clear q0 q1
      replace E := Lib.hid (ext_trans E.out B)
      replace HT := Lib.hid (HT.out.ext B)
      replace HS := Lib.hid (HS.out.ext B)
      replace HX := Lib.hid (HX.out.ext B)
      replace T1 := Lib.hid (T1.out.ext B)
      replace B1 := Lib.hid (B1.out.ext B)
      replace C1 := Lib.hid (C1.out.ext B)
      replace S1 := Lib.hid (S1.out.ext B)
      replace X1 := Lib.hid (X1.out.ext B)
      replace S2 := Lib.hid (S2.out.ext B)
      replace X2 := Lib.hid (X2.out.ext B)
      clear B
      clear e3 e4 hlt' h0 hl
      replace E := Lib.hid (ext_alloc E.out (.cells #[.int .i64 d.f, .int .i64 d.cfg, .slice d.ms.A d.ms.l.length d.ms.c] 37))
      replace HT := Lib.hid (HT.out.alloc (.cells #[.int .i64 d.f, .int .i64 d.cfg, .slice d.ms.A d.ms.l.length d.ms.c] 37))
      replace HS := Lib.hid (HS.out.alloc (.cells #[.int .i64 d.f, .int .i64 d.cfg, .slice d.ms.A d.ms.l.length d.ms.c] 37))
      replace HX := Lib.hid (HX.out.alloc (.cells #[.int .i64 d.f, .int .i64 d.cfg, .slice d.ms.A d.ms.l.length d.ms.c] 37))
      replace T1 := Lib.hid (T1.out.alloc (.cells #[.int .i64 d.f, .int .i64 d.cfg, .slice d.ms.A d.ms.l.length d.ms.c] 37))
      replace B1 := Lib.hid (B1.out.alloc (.cells #[.int .i64 d.f, .int .i64 d.cfg, .slice d.ms.A d.ms.l.length d.ms.c] 37))
      replace C1 := Lib.hid (C1.out.alloc (.cells #[.int .i64 d.f, .int .i64 d.cfg, .slice d.ms.A d.ms.l.length d.ms.c] 37))
      replace S1 := Lib.hid (S1.out.alloc (.cells #[.int .i64 d.f, .int .i64 d.cfg, .slice d.ms.A d.ms.l.length d.ms.c] 37))
      replace X1 := Lib.hid (X1.out.alloc (.cells #[.int .i64 d.f, .int .i64 d.cfg, .slice d.ms.A d.ms.l.length d.ms.c] 37))
      replace S2 := Lib.hid (S2.out.alloc (.cells #[.int .i64 d.f, .int .i64 d.cfg, .slice d.ms.A d.ms.l.length d.ms.c] 37))
      replace X2 := Lib.hid (X2.out.alloc (.cells #[.int .i64 d.f, .int .i64 d.cfg, .slice d.ms.A d.ms.l.length d.ms.c] 37))
      have D1 := Lib.hid (Blk.newH u1 [.int .i64 d.f, .int .i64 d.cfg, .slice d.ms.A d.ms.l.length d.ms.c] 37 (u1.heap.size) (by first | rfl | simp))
      have q0 := B1.out.c 0 _ rfl
      have q1 := B1.out.lt
      go_wp2_with fail
      refine (in_d d' o' Hd'.out Ho'.out rfl HS.out).mono ?_
      rintro e u2 ⟨rfl, B⟩
      clear q0 q1
      replace E := Lib.hid (ext_trans E.out B)
      replace HT := Lib.hid (HT.out.ext B)
      replace HS := Lib.hid (HS.out.ext B)
      replace HX := Lib.hid (HX.out.ext B)
      replace T1 := Lib.hid (T1.out.ext B)
      replace B1 := Lib.hid (B1.out.ext B)
      replace C1 := Lib.hid (C1.out.ext B)
      replace S1 := Lib.hid (S1.out.ext B)
      replace X1 := Lib.hid (X1.out.ext B)
      replace S2 := Lib.hid (S2.out.ext B)
      replace X2 := Lib.hid (X2.out.ext B)
      replace D1 := Lib.hid (D1.out.ext B)
      clear B
      replace E := Lib.hid (ext_alloc E.out (.cells #[.int .i64 d'.f, .int .i64 d'.cfg, .slice d'.ms.A d'.ms.l.length d'.ms.c] 37))
      replace HT := Lib.hid (HT.out.alloc (.cells #[.int .i64 d'.f, .int .i64 d'.cfg, .slice d'.ms.A d'.ms.l.length d'.ms.c] 37))
      replace HS := Lib.hid (HS.out.alloc (.cells #[.int .i64 d'.f, .int .i64 d'.cfg, .slice d'.ms.A d'.ms.l.length d'.ms.c] 37))
      replace HX := Lib.hid (HX.out.alloc (.cells #[.int .i64 d'.f, .int .i64 d'.cfg, .slice d'.ms.A d'.ms.l.length d'.ms.c] 37))
      replace T1 := Lib.hid (T1.out.alloc (.cells #[.int .i64 d'.f, .int .i64 d'.cfg, .slice d'.ms.A d'.ms.l.length d'.ms.c] 37))
      replace B1 := Lib.hid (B1.out.alloc (.cells #[.int .i64 d'.f, .int .i64 d'.cfg, .slice d'.ms.A d'.ms.l.length d'.ms.c] 37))
      replace C1 := Lib.hid (C1.out.alloc (.cells #[.int .i64 d'.f, .int .i64 d'.cfg, .slice d'.ms.A d'.ms.l.length d'.ms.c] 37))
      replace S1 := Lib.hid (S1.out.alloc (.cells #[.int .i64 d'.f, .int .i64 d'.cfg, .slice d'.ms.A d'.ms.l.length d'.ms.c] 37))
      replace X1 := Lib.hid (X1.out.alloc (.cells #[.int .i64 d'.f, .int .i64 d'.cfg, .slice d'.ms.A d'.ms.l.length d'.ms.c] 37))
      replace S2 := Lib.hid (S2.out.alloc (.cells #[.int .i64 d'.f, .int .i64 d'.cfg, .slice d'.ms.A d'.ms.l.length d'.ms.c] 37))
      replace X2 := Lib.hid (X2.out.alloc (.cells #[.int .i64 d'.f, .int .i64 d'.cfg, .slice d'.ms.A d'.ms.l.length d'.ms.c] 37))
      replace D1 := Lib.hid (D1.out.alloc (.cells #[.int .i64 d'.f, .int .i64 d'.cfg, .slice d'.ms.A d'.ms.l.length d'.ms.c] 37))
      have D2 := Lib.hid (Blk.newH u2 [.int .i64 d'.f, .int .i64 d'.cfg, .slice d'.ms.A d'.ms.l.length d'.ms.c] 37 (u2.heap.size) (by first | rfl | simp))
      by_cases m2 : x.f ≤ m ∧ m < nx
      · obtain ⟨m3, m4⟩ := m2
        have e5 : decide (m ≥ x.f) = true := decide_eq_true m3
        have e6 : decide (m < nx) = true := decide_eq_true m4
        rw [if_pos ⟨m3, m4⟩] at HIN
        have hdx : x = d := by have := Hd.out; rw [HIN.out] at this; exact this
        have hox : o = true := by have := Ho.out; rw [HIN.out] at this; exact this.symm
        have HDX := Lib.hid hdx
        clear hdx
        subst hox
        have q0 := D1.out.c 0 _ rfl
        have q1 := D1.out.c 1 _ rfl
        have q2 := D1.out.c 2 _ rfl
        have q3 := D1.out.lt
        have q4 := C1.out.c 0 _ rfl
        have q5 := C1.out.c 1 _ rfl
        have q6 := C1.out.c 2 _ rfl
        have q7 := C1.out.lt
        go_wp2_with fail
        refine (sameC_at (a := d) (b := x) true (by rw [← HDX.out]; exact sameC_refl x) (by rw [← HDX.out]; exact HX.out) HX.out).mono ?_
        rintro e u3 ⟨rfl, B⟩
        clear q0 q1 q2 q3 q4 q5 q6 q7
        replace E := Lib.hid (ext_trans E.out B)
        replace HT := Lib.hid (HT.out.ext B)
        replace HS := Lib.hid (HS.out.ext B)
        replace HX := Lib.hid (HX.out.ext B)
        replace T1 := Lib.hid (T1.out.ext B)
        replace B1 := Lib.hid (B1.out.ext B)
        replace C1 := Lib.hid (C1.out.ext B)
        replace S1 := Lib.hid (S1.out.ext B)
        replace X1 := Lib.hid (X1.out.ext B)
        replace S2 := Lib.hid (S2.out.ext B)
        replace X2 := Lib.hid (X2.out.ext B)
        replace D1 := Lib.hid (D1.out.ext B)
        replace D2 := Lib.hid (D2.out.ext B)
        clear B
        go_wp2_with fail
        go_ret
        exact ⟨rfl, E.out⟩
      · have HIN2 : Hid (inS P m = inS l m) := HIN.out.trans (if_neg m2)
        have hdx : d' = d := by rw [← Hd.out, ← Hd'.out, HIN2.out]
        have hox : o' = o := by rw [← Ho.out, ← Ho'.out, HIN2.out]
        have HDX := Lib.hid hdx
        clear hdx
        subst hox
        have eo : (o' == o') = true := by simp
        by_cases m3 : x.f ≤ m
        · have e5 : decide (m ≥ x.f) = true := decide_eq_true m3
          have e6 : decide (m < nx) = false := decide_eq_false (fun q => m2 ⟨m3, q⟩)
          clear m2
          have q0 := D1.out.c 0 _ rfl
          have q1 := D1.out.c 1 _ rfl
          have q2 := D1.out.c 2 _ rfl
          have q3 := D1.out.lt
          have q4 := D2.out.c 0 _ rfl
          have q5 := D2.out.c 1 _ rfl
          have q6 := D2.out.c 2 _ rfl
          have q7 := D2.out.lt
          have q8 := C1.out.c 0 _ rfl
          have q9 := C1.out.c 1 _ rfl
          have q10 := C1.out.c 2 _ rfl
          have q11 := C1.out.lt
          go_wp2_with fail
          refine (sameC_at (a := d) (b := d') true (by rw [HDX.out]; exact sameC_refl d) (inS_okd S1.out Hd.out) (inS_okd HS.out Hd'.out)).mono ?_
          rintro e u3 ⟨rfl, B⟩
          clear q0 q1 q2 q3 q4 q5 q6 q7 q8 q9 q10 q11
          replace E := Lib.hid (ext_trans E.out B)
          replace HT := Lib.hid (HT.out.ext B)
          replace HS := Lib.hid (HS.out.ext B)
          replace HX := Lib.hid (HX.out.ext B)
          replace T1 := Lib.hid (T1.out.ext B)
          replace B1 := Lib.hid (B1.out.ext B)
          replace C1 := Lib.hid (C1.out.ext B)
          replace S1 := Lib.hid (S1.out.ext B)
          replace X1 := Lib.hid (X1.out.ext B)
          replace S2 := Lib.hid (S2.out.ext B)
          replace X2 := Lib.hid (X2.out.ext B)
          replace D1 := Lib.hid (D1.out.ext B)
          replace D2 := Lib.hid (D2.out.ext B)
          clear B
          go_wp2_with fail
          go_ret
          exact ⟨rfl, E.out⟩
        · have e5 : decide (m ≥ x.f) = false := decide_eq_false m3
          clear m2
          have q0 := D1.out.c 0 _ rfl
          have q1 := D1.out.c 1 _ rfl
          have q2 := D1.out.c 2 _ rfl
          have q3 := D1.out.lt
          have q4 := D2.out.c 0 _ rfl
          have q5 := D2.out.c 1 _ rfl
          have q6 := D2.out.c 2 _ rfl
          have q7 := D2.out.lt
          have q8 := C1.out.c 0 _ rfl
          have q9 := C1.out.c 1 _ rfl
          have q10 := C1.out.c 2 _ rfl
          have q11 := C1.out.lt
          go_wp2_with fail
          refine (sameC_at (a := d) (b := d') true (by rw [HDX.out]; exact sameC_refl d) (inS_okd S1.out Hd.out) (inS_okd HS.out Hd'.out)).mono ?_
          rintro e u3 ⟨rfl, B⟩
          clear q0 q1 q2 q3 q4 q5 q6 q7 q8 q9 q10 q11
          replace E := Lib.hid (ext_trans E.out B)
          replace HT := Lib.hid (HT.out.ext B)
          replace HS := Lib.hid (HS.out.ext B)
          replace HX := Lib.hid (HX.out.ext B)
          replace T1 := Lib.hid (T1.out.ext B)
          replace B1 := Lib.hid (B1.out.ext B)
          replace C1 := Lib.hid (C1.out.ext B)
          replace S1 := Lib.hid (S1.out.ext B)
          replace X1 := Lib.hid (X1.out.ext B)
          replace S2 := Lib.hid (S2.out.ext B)
          replace X2 := Lib.hid (X2.out.ext B)
          replace D1 := Lib.hid (D1.out.ext B)
          replace D2 := Lib.hid (D2.out.ext B)
          clear B
          go_wp2_with fail
          go_ret
          exact ⟨rfl, E.out⟩
end Go.Proofs.Ytilocjliplmmpaa
