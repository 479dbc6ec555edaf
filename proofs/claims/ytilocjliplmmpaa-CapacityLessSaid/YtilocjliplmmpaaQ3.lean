/- Law 3: In and Sector. -/
import Derived.Test.YtilocjliplmmpaaW
set_option linter.unusedSimpArgs false
set_option linter.unusedVariables false
namespace Go.Proofs.Ytilocjliplmmpaa
open Go.RowKit
/-- A scheme as it lies in memory. -/
structure SOk (w : World) (A : Option Addr) (l : List Chg) : Prop where
  s : Slc w Chg.cells 3 A l
  n : l.length ≤ maxLen
  o : ∀ y ∈ l, Chg.ok w y
theorem SOk.ext {w w' : World} {A : Option Addr} {l : List Chg} (h : SOk w A l) (hb : Below w.heap.size w w') : SOk w' A l := ⟨h.s.ext hb, h.n, fun y hy => (h.o y hy).ext hb⟩
theorem SOk.alloc {w : World} {A : Option Addr} {l : List Chg} (h : SOk w A l) (o : Obj) : SOk (w.alloc o) A l := h.ext (ext_alloc (ext_refl _) o)
theorem Tab.ok.alloc {w : World} {t : Tab} (h : Tab.ok w t) (o : Obj) : Tab.ok (w.alloc o) t := h.ext (ext_alloc (ext_refl _) o)
theorem Chg.ok.alloc {w : World} {t : Chg} (h : Chg.ok w t) (o : Obj) : Chg.ok (w.alloc o) t := h.ext (ext_alloc (ext_refl _) o)
theorem noChg_ok (w : World) : Chg.ok w noChg := okN0
theorem inGo_mem {m : Int} : ∀ {l : List Chg} {o : Option Chg} {x : Chg}, inGo m o l = some x → o = some x ∨ x ∈ l
  | [], o, x, h => .inl (by cases o <;> exact h)
  | y :: r, o, x, h => by
    cases o with
    | none =>
      simp only [inGo] at h
      split at h
      · rcases inGo_mem h with q | q
        · cases q; exact .inr List.mem_cons_self
        · exact .inr (List.mem_cons_of_mem _ q)
      · rcases inGo_mem h with q | q
        · cases q
        · exact .inr (List.mem_cons_of_mem _ q)
    | some c =>
      simp only [inGo] at h
      split at h
      · rcases inGo_mem h with q | q
        · cases q; exact .inr List.mem_cons_self
        · exact .inr (List.mem_cons_of_mem _ q)
      · rcases inGo_mem h with q | q
        · exact .inl q
        · exact .inr (List.mem_cons_of_mem _ q)
theorem inS_ok {w : World} {A : Option Addr} {l : List Chg} {m : Int} (h : SOk w A l) : Chg.ok w ((inS l m).getD noChg) := by
  cases e : inS l m with
  | none => exact noChg_ok w
  | some x =>
    rcases inGo_mem e with q | q
    · cases q
    · exact h.o x q
def InD (w : World) (d : Chg) (o : Bool) (e : Ending) (w' : World) : Prop := e = .returned (.tuple #[d.v, .bool o]) ∧ Below w.heap.size w w'
theorem in_d {A : Option Addr} {n c : Nat} {l : List Chg} {m : Int} {w : World} (d : Chg) (o : Bool) (hd : (inS l m).getD noChg = d) (ho : (inS l m).isSome = o) (hn : n = l.length) (h : SOk w A l) : Calls Try.prog 11 #[.agg #[.slice A n c], .int .i64 m] w (InD w d o) := by
  subst hd ho; exact cin_at _ rfl hn h.s h.n
theorem rin_d {A : Option Addr} {n c : Nat} {l : List Chg} {m : Int} {w : World} (d : Chg) (o : Bool) (hd : (inS l m).getD noChg = d) (ho : (inS l m).isSome = o) (hn : n = l.length) (h : SOk w A l) : Calls Try.prog 12 #[.agg #[.slice A n c], .int .i64 m] w (InD w d o) := by
  subst hd ho; exact rin_at _ rfl hn h.s h.n
def SecD (w : World) (r : Int) (o : Bool) (e : Ending) (w' : World) : Prop := e = .returned (.tuple #[.int .i64 r, .bool o]) ∧ Below w.heap.size w w'
theorem sec_d {t : Tab} {A : Option Addr} {n c : Nat} {l : List Chg} {v m : Int} {w : World} (r : Int) (o : Bool) (hr : (secR t l v m).getD 0 = r) (ho : (secR t l v m).isSome = o) (hn : n = l.length) (ht : Tab.ok w t) (h : SOk w A l) :
    Calls Try.prog 13 #[t.v, .agg #[.slice A n c], .int .i64 v, .int .i64 m] w (SecD w r o) := by
  subst hr ho hn; exact sector_any t A c l v m w ht h.s h.n
theorem rsec_d {t : Tab} {A : Option Addr} {n c : Nat} {l : List Chg} {v m : Int} {w : World} (r : Int) (o : Bool) (hr : (secR t l v m).getD 0 = r) (ho : (secR t l v m).isSome = o) (hn : n = l.length) (ht : Tab.ok w t) (h : SOk w A l) :
    Calls Try.prog 14 #[t.v, .agg #[.slice A n c], .int .i64 v, .int .i64 m] w (SecD w r o) := by
  subst hr ho hn; exact rsector_any t A c l v m w ht h.s h.n
set_option maxRecDepth 100000 in
set_option maxHeartbeats 16000000 in
theorem law3 (t : Tab) (A : Option Addr) (c : Nat) (l : List Chg) (v m : Int) (w : World) (ht : Tab.ok w t) (hs : SOk w A l) : Calls Try.prog 3 #[t.v, .agg #[.slice A l.length c], .int .i64 v, .int .i64 m] w (Tru w) := by
  have E := Lib.hid (ext_refl w)
  have HT := Lib.hid (ht)
  have HS := Lib.hid (hs)
  clear ht hs
  replace E := Lib.hid (ext_alloc E.out (.cells #[.int .i64 t.n, .slice t.ss.A t.ss.l.length t.ss.c, .slice t.cs.A t.cs.l.length t.cs.c, .slice t.ws.A t.ws.l.length t.ws.c, .slice t.ms.A t.ms.l.length t.ms.c, .slice t.ks.A t.ks.l.length t.ks.c] 28))
  replace HT := Lib.hid (HT.out.alloc (.cells #[.int .i64 t.n, .slice t.ss.A t.ss.l.length t.ss.c, .slice t.cs.A t.cs.l.length t.cs.c, .slice t.ws.A t.ws.l.length t.ws.c, .slice t.ms.A t.ms.l.length t.ms.c, .slice t.ks.A t.ks.l.length t.ks.c] 28))
  replace HS := Lib.hid (HS.out.alloc (.cells #[.int .i64 t.n, .slice t.ss.A t.ss.l.length t.ss.c, .slice t.cs.A t.cs.l.length t.cs.c, .slice t.ws.A t.ws.l.length t.ws.c, .slice t.ms.A t.ms.l.length t.ms.c, .slice t.ks.A t.ks.l.length t.ks.c] 28))
  have T1 := Lib.hid (Blk.newH w [.int .i64 t.n, .slice t.ss.A t.ss.l.length t.ss.c, .slice t.cs.A t.cs.l.length t.cs.c, .slice t.ws.A t.ws.l.length t.ws.c, .slice t.ms.A t.ms.l.length t.ms.c, .slice t.ks.A t.ks.l.length t.ks.c] 28 (w.heap.size) (by first | rfl | simp))
  replace E := Lib.hid (ext_alloc E.out (.cells #[.slice A l.length c] 31))
  replace HT := Lib.hid (HT.out.alloc (.cells #[.slice A l.length c] 31))
  replace HS := Lib.hid (HS.out.alloc (.cells #[.slice A l.length c] 31))
  replace T1 := Lib.hid (T1.out.alloc (.cells #[.slice A l.length c] 31))
  have B1 := Lib.hid (Blk.newH (w.alloc (.cells #[.int .i64 t.n, .slice t.ss.A t.ss.l.length t.ss.c, .slice t.cs.A t.cs.l.length t.cs.c, .slice t.ws.A t.ws.l.length t.ws.c, .slice t.ms.A t.ms.l.length t.ms.c, .slice t.ks.A t.ks.l.length t.ks.c] 28)) [.slice A l.length c] 31 (w.heap.size + 1) (by first | rfl | simp))
  obtain ⟨W, hW⟩ : ∃ x, ((w.alloc (.cells #[.int .i64 t.n, .slice t.ss.A t.ss.l.length t.ss.c, .slice t.cs.A t.cs.l.length t.cs.c, .slice t.ws.A t.ws.l.length t.ws.c, .slice t.ms.A t.ms.l.length t.ms.c, .slice t.ks.A t.ks.l.length t.ks.c] 28)).alloc (.cells #[.slice A l.length c] 31)) = x := ⟨_, rfl⟩
  rw [hW] at E HT HS T1 B1
  have HW := Lib.hid hW
  clear hW
  obtain ⟨d, hd⟩ : ∃ d, (inS l m).getD noChg = d := ⟨_, rfl⟩
  obtain ⟨o, ho⟩ : ∃ o, (inS l m).isSome = o := ⟨_, rfl⟩
  obtain ⟨n, hn⟩ : ∃ n, (secR t l v m).getD 0 = n := ⟨_, rfl⟩
  obtain ⟨p, hp⟩ : ∃ p, (secR t l v m).isSome = p := ⟨_, rfl⟩
  have Hhd := Lib.hid hd
  clear hd
  have Hho := Lib.hid ho
  clear ho
  have Hhn := Lib.hid hn
  clear hn
  have Hhp := Lib.hid hp
  clear hp
  go_enter Try.func3, Try.ntmps3
  go_wp2_with fail
  rw [HW.out]
  clear HW
  refine (sane_any _).mono ?_
  rintro e w1 ⟨rfl, B⟩
  replace E := Lib.hid (ext_trans E.out B)
  replace HT := Lib.hid (HT.out.ext B)
  replace HS := Lib.hid (HS.out.ext B)
  replace T1 := Lib.hid (T1.out.ext B)
  replace B1 := Lib.hid (B1.out.ext B)
  clear B
  have q0 := T1.out.c 0 _ rfl
  have q1 := T1.out.c 1 _ rfl
  have q2 := T1.out.c 2 _ rfl
  have q3 := T1.out.c 3 _ rfl
  have q4 := T1.out.c 4 _ rfl
  have q5 := T1.out.c 5 _ rfl
  have q6 := T1.out.lt
  go_wp2_with fail
  refine (few14_any t _ HT.out).mono ?_
  rintro e w2 ⟨r, rfl, hr, B⟩
  clear q0 q1 q2 q3 q4 q5 q6
  replace E := Lib.hid (ext_trans E.out B)
  replace HT := Lib.hid (HT.out.ext B)
  replace HS := Lib.hid (HS.out.ext B)
  replace T1 := Lib.hid (T1.out.ext B)
  replace B1 := Lib.hid (B1.out.ext B)
  clear B
  have HRw2 := Lib.hid hr
  clear hr
  cases r
  · go_wp2_with fail
    go_ret
    exact ⟨rfl, E.out⟩
  have q0 := B1.out.c 0 _ rfl
  have q1 := B1.out.lt
  go_wp2_with fail
  refine (few19_any A c l _ HS.out.s HS.out.n).mono ?_
  rintro e w3 ⟨r, rfl, hr, B⟩
  clear q0 q1
  replace E := Lib.hid (ext_trans E.out B)
  replace HT := Lib.hid (HT.out.ext B)
  replace HS := Lib.hid (HS.out.ext B)
  replace T1 := Lib.hid (T1.out.ext B)
  replace B1 := Lib.hid (B1.out.ext B)
  clear B
  have HRw3 := Lib.hid hr
  clear hr
  cases r
  · go_wp2_with fail
    go_ret
    exact ⟨rfl, E.out⟩
  have q0 := B1.out.c 0 _ rfl
  have q1 := B1.out.lt
  go_wp2_with fail
  refine (in_d d o Hhd.out Hho.out rfl HS.out).mono ?_
  rintro e w4 ⟨rfl, B⟩
  clear q0 q1
  replace E := Lib.hid (ext_trans E.out B)
  replace HT := Lib.hid (HT.out.ext B)
  replace HS := Lib.hid (HS.out.ext B)
  replace T1 := Lib.hid (T1.out.ext B)
  replace B1 := Lib.hid (B1.out.ext B)
  clear B
  replace E := Lib.hid (ext_alloc E.out (.cells #[.int .i64 d.f, .int .i64 d.cfg, .slice d.ms.A d.ms.l.length d.ms.c] 37))
  replace HT := Lib.hid (HT.out.alloc (.cells #[.int .i64 d.f, .int .i64 d.cfg, .slice d.ms.A d.ms.l.length d.ms.c] 37))
  replace HS := Lib.hid (HS.out.alloc (.cells #[.int .i64 d.f, .int .i64 d.cfg, .slice d.ms.A d.ms.l.length d.ms.c] 37))
  replace T1 := Lib.hid (T1.out.alloc (.cells #[.int .i64 d.f, .int .i64 d.cfg, .slice d.ms.A d.ms.l.length d.ms.c] 37))
  replace B1 := Lib.hid (B1.out.alloc (.cells #[.int .i64 d.f, .int .i64 d.cfg, .slice d.ms.A d.ms.l.length d.ms.c] 37))
  have D1 := Lib.hid (Blk.newH w4 [.int .i64 d.f, .int .i64 d.cfg, .slice d.ms.A d.ms.l.length d.ms.c] 37 (w4.heap.size) (by first | rfl | simp))
  have q0 := B1.out.c 0 _ rfl
  have q1 := B1.out.lt
  go_wp2_with fail
  refine (rin_d d o Hhd.out Hho.out rfl HS.out).mono ?_
  rintro e w5 ⟨rfl, B⟩
  clear q0 q1
  replace E := Lib.hid (ext_trans E.out B)
  replace HT := Lib.hid (HT.out.ext B)
  replace HS := Lib.hid (HS.out.ext B)
  replace T1 := Lib.hid (T1.out.ext B)
  replace B1 := Lib.hid (B1.out.ext B)
  replace D1 := Lib.hid (D1.out.ext B)
  clear B
  replace E := Lib.hid (ext_alloc E.out (.cells #[.int .i64 d.f, .int .i64 d.cfg, .slice d.ms.A d.ms.l.length d.ms.c] 37))
  replace HT := Lib.hid (HT.out.alloc (.cells #[.int .i64 d.f, .int .i64 d.cfg, .slice d.ms.A d.ms.l.length d.ms.c] 37))
  replace HS := Lib.hid (HS.out.alloc (.cells #[.int .i64 d.f, .int .i64 d.cfg, .slice d.ms.A d.ms.l.length d.ms.c] 37))
  replace T1 := Lib.hid (T1.out.alloc (.cells #[.int .i64 d.f, .int .i64 d.cfg, .slice d.ms.A d.ms.l.length d.ms.c] 37))
  replace B1 := Lib.hid (B1.out.alloc (.cells #[.int .i64 d.f, .int .i64 d.cfg, .slice d.ms.A d.ms.l.length d.ms.c] 37))
  replace D1 := Lib.hid (D1.out.alloc (.cells #[.int .i64 d.f, .int .i64 d.cfg, .slice d.ms.A d.ms.l.length d.ms.c] 37))
  have D2 := Lib.hid (Blk.newH w5 [.int .i64 d.f, .int .i64 d.cfg, .slice d.ms.A d.ms.l.length d.ms.c] 37 (w5.heap.size) (by first | rfl | simp))
  have q0 := T1.out.c 0 _ rfl
  have q1 := T1.out.c 1 _ rfl
  have q2 := T1.out.c 2 _ rfl
  have q3 := T1.out.c 3 _ rfl
  have q4 := T1.out.c 4 _ rfl
  have q5 := T1.out.c 5 _ rfl
  have q6 := T1.out.lt
  have q7 := B1.out.c 0 _ rfl
  have q8 := B1.out.lt
  go_wp2_with fail
  refine (sec_d n p Hhn.out Hhp.out rfl HT.out HS.out).mono ?_
  rintro e w6 ⟨rfl, B⟩
  clear q0 q1 q2 q3 q4 q5 q6 q7 q8
  replace E := Lib.hid (ext_trans E.out B)
  replace HT := Lib.hid (HT.out.ext B)
  replace HS := Lib.hid (HS.out.ext B)
  replace T1 := Lib.hid (T1.out.ext B)
  replace B1 := Lib.hid (B1.out.ext B)
  replace D1 := Lib.hid (D1.out.ext B)
  replace D2 := Lib.hid (D2.out.ext B)
  clear B
  have q0 := T1.out.c 0 _ rfl
  have q1 := T1.out.c 1 _ rfl
  have q2 := T1.out.c 2 _ rfl
  have q3 := T1.out.c 3 _ rfl
  have q4 := T1.out.c 4 _ rfl
  have q5 := T1.out.c 5 _ rfl
  have q6 := T1.out.lt
  have q7 := B1.out.c 0 _ rfl
  have q8 := B1.out.lt
  go_wp2_with fail
  refine (rsec_d n p Hhn.out Hhp.out rfl HT.out HS.out).mono ?_
  rintro e w7 ⟨rfl, B⟩
  clear q0 q1 q2 q3 q4 q5 q6 q7 q8
  replace E := Lib.hid (ext_trans E.out B)
  replace HT := Lib.hid (HT.out.ext B)
  replace HS := Lib.hid (HS.out.ext B)
  replace T1 := Lib.hid (T1.out.ext B)
  replace B1 := Lib.hid (B1.out.ext B)
  replace D1 := Lib.hid (D1.out.ext B)
  replace D2 := Lib.hid (D2.out.ext B)
  clear B
  have q0 := D1.out.c 0 _ rfl
  have q1 := D1.out.c 1 _ rfl
  have q2 := D1.out.c 2 _ rfl
  have q3 := D1.out.lt
  have q4 := D2.out.c 0 _ rfl
  have q5 := D2.out.c 1 _ rfl
  have q6 := D2.out.c 2 _ rfl
  have q7 := D2.out.lt
  go_wp2_with fail
  refine (sameC_at true (sameC_refl d) (by rw [← Hhd.out]; exact inS_ok HS.out) (by rw [← Hhd.out]; exact inS_ok HS.out)).mono ?_
  rintro e w8 ⟨rfl, B⟩
  clear q0 q1 q2 q3 q4 q5 q6 q7
  replace E := Lib.hid (ext_trans E.out B)
  replace HT := Lib.hid (HT.out.ext B)
  replace HS := Lib.hid (HS.out.ext B)
  replace T1 := Lib.hid (T1.out.ext B)
  replace B1 := Lib.hid (B1.out.ext B)
  replace D1 := Lib.hid (D1.out.ext B)
  replace D2 := Lib.hid (D2.out.ext B)
  clear B
  have e1 : (o == o) = true := by simp
  have e2 : (p == p) = true := by simp
  have e3 : (n == n) = true := by simp
  go_wp2_with fail
  all_goals go_ret
  all_goals exact ⟨by first | rfl | simp, E.out⟩
end Go.Proofs.Ytilocjliplmmpaa
