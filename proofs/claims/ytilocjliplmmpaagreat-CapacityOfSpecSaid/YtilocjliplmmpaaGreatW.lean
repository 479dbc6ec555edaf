/- The examples hold. -/
import Derived.Test.YtilocjliplmmpaaGreatZ
set_option linter.unusedSimpArgs false
set_option linter.unusedVariables false
namespace Go.Proofs.YtilocjliplmmpaaGreat
open Go.RowKit
/-- All that lay in w0 lies unchanged. -/
def Anc (w0 W : World) : Prop := Below w0.heap.size w0 W
theorem Anc.alloc {w0 W : World} (h : Anc w0 W) (o : Obj) : Anc w0 (W.alloc o) := ext_alloc h o
theorem Anc.ext {w0 W W' : World} (h : Anc w0 W) (hb : Below W.heap.size W W') : Anc w0 W' := ext_trans h hb
theorem Anc.set {w0 W : World} (h : Anc w0 W) (p : Addr) (v : Value) (hp : w0.heap.size ≤ p.block) : Anc w0 (W.setCell p v) := below_set h p v hp
theorem add_lit {t : Tab} {A : Option Addr} {n c : Nat} {l : List Chg} {x : Chg} {w : World} {E : Int} {L : List Chg} (r : Nat) (hE : addE t l x = E) (hL : addL t l x = L) (hr : r = L.length) (hn : n = l.length) (ht : Tab.ok w t) (ha : Slc w Chg.cells 3 A l) (hl : l.length ≤ 1000) (hao : ∀ y ∈ l, Chg.ok w y) (hx : Chg.ok w x) :
    Calls Tryz.prog 8 #[t.v, .agg #[.slice A n c], x.v] w fun e w' => ∃ A cp, e = .returned (.tuple #[.agg #[.slice A r cp], .int .i64 E]) ∧ Own w' w.heap.size 34 Chg.cells 3 (.slice A r cp) L ∧ Below w.heap.size w w' := by
  subst hE hL hr; exact add_at hn ht ha hl hao hx
theorem in_lit {A : Option Addr} {n c : Nat} {l : List Chg} {m : Int} {w : World} {x : Chg} (v0 v1 : Int) (v2 : Value) (hv : x.v = .agg #[.int .i64 v0, .int .i64 v1, v2]) (hr : inS l m = some x) (hn : n = l.length) (ha : Slc w Chg.cells 3 A l) (hl : l.length ≤ maxLen) :
    Calls Tryz.prog 17 #[.agg #[.slice A n c], .int .i64 m] w fun e w' => e = .returned (.tuple #[.agg #[.int .i64 v0, .int .i64 v1, v2], .bool true]) ∧ Below w.heap.size w w' :=
  (cin_at (some x) hr hn ha hl).mono fun _ _ ⟨h1, h2⟩ => ⟨by rw [h1, ← hv]; rfl, h2⟩
theorem in_nil {m : Int} {w : World} (hr : inS [] m = none) : Calls Tryz.prog 17 #[.agg #[.slice none 0 0], .int .i64 m] w fun e w' => e = .returned (.tuple #[.agg #[.int .i64 0, .int .i64 0, .slice none 0 0], .bool false]) ∧ Below w.heap.size w w' :=
  (cin_at none hr rfl Slc.nil (by show 0 ≤ maxLen; decide)).mono fun _ _ ⟨h1, h2⟩ => ⟨by rw [h1]; rfl, h2⟩
theorem sec_lit {t : Tab} {A : Option Addr} {n c : Nat} {l : List Chg} {v m : Int} {w : World} (r : Int) (o : Bool) (hr : (secR t l v m).getD 0 = r) (ho : (secR t l v m).isSome = o) (hn : n = l.length) (ht : Tab.ok w t) (ha : Slc w Chg.cells 3 A l) (hl : l.length ≤ maxLen) :
    Calls Tryz.prog 18 #[t.v, .agg #[.slice A n c], .int .i64 v, .int .i64 m] w fun e w' => e = .returned (.tuple #[.int .i64 r, .bool o]) ∧ Below w.heap.size w w' := by
  subst hr ho hn; exact sector_any t A c l v m w ht ha hl
theorem of_lit {t : Tab} {tA : Option Addr} {tn tc : Nat} {tree : List Nd} {leaf : Int} {A : Option Addr} {n c : Nat} {l : List Chg} {sA : Option Addr} {sn sc : Nat} {seen : List Bool} {z : Cel} {w : World} (r e : Int) (hr : ofN t tree leaf l seen z = r) (he : ofE t tree leaf l seen.length z = e) (htn : tn = tree.length) (hn : n = l.length) (hsn : sn = seen.length)
    (ht : Tab.ok w t) (htr : TOk w tA tree) (ha : Slc w Chg.cells 3 A l) (hl : l.length ≤ maxLen) (hao : ∀ y ∈ l, Chg.ok w y) (hs : Slc w bc 1 sA seen) (hsl : seen.length ≤ maxLen) (hfew : ∀ s ∈ t.ss.l, s.vs.l.length ≤ 64) :
    Calls Tryz.prog 14 #[t.v, .slice tA tn tc, .int .i64 leaf, .agg #[.slice A n c], .slice sA sn sc, z.v] w (OfR w r e) := by
  subst hr he htn hn hsn; exact of_any t tA tc tree leaf A c l sA sc seen z w ht htr ha hl hao hs hsl hfew
theorem TOk.alloc {w : World} {A : Option Addr} {l : List Nd} (h : TOk w A l) (o : Obj) : TOk (w.alloc o) A l := h.ext (ext_alloc (ext_refl _) o)
theorem exT_few (a : Nat → Option Addr) : ∀ s ∈ (exT a).ss.l, s.vs.l.length ≤ 64 := by
  refine all3 ?_ ?_ ?_ <;> simp
set_option maxRecDepth 100000 in
set_option maxHeartbeats 64000000 in
theorem sane_any (w : World) : Calls Tryz.prog 5 #[] w (Tru w) := by
  go_enter Tryz.func5, Tryz.ntmps5
  go_wp2_with fail
  refine (tables_any w).mono ?_
  rintro e w1 ⟨a, rfl, hT, B0⟩
  have hw0 := B0.size
  obtain ⟨t, hta⟩ : ∃ t, exT a = t := ⟨_, rfl⟩
  have HTA := Lib.hid hta
  rw [hta] at hT ⊢
  clear hta
  obtain ⟨W2, hW2⟩ : ∃ x, (((((w1.alloc (.cells #[.int .i64 t.n, .slice t.ss.A t.ss.l.length t.ss.c, .slice t.cs.A t.cs.l.length t.cs.c, .slice t.ws.A t.ws.l.length t.ws.c, .slice t.ms.A t.ms.l.length t.ms.c, .slice t.ks.A t.ks.l.length t.ks.c] 28)).alloc (.cells #[.int .i64 0, .int .i64 0] 3)).alloc (.cells #[.int .i64 1, .int .i64 0] 3)).alloc (.cells #[.int .i64 0, .int .i64 0, .slice (some ⟨w1.heap.size + 1, 0, none⟩) 2 2] 34)).alloc (.cells #[.int .i64 600, .int .i64 1, .slice (some ⟨w1.heap.size + 1 + 1, 0, none⟩) 2 2] 34)) = x := ⟨_, rfl⟩
  have hz2 : W2.heap.size = w1.heap.size + 5 := by rw [← hW2]; simp
  have T1 : Hid (Blk W2 (w1.heap.size) [.int .i64 t.n, .slice t.ss.A t.ss.l.length t.ss.c, .slice t.cs.A t.cs.l.length t.cs.c, .slice t.ws.A t.ws.l.length t.ws.c, .slice t.ms.A t.ms.l.length t.ms.c, .slice t.ks.A t.ks.l.length t.ks.c]) := by rw [← hW2]; exact ((((Blk.newH w1 [.int .i64 t.n, .slice t.ss.A t.ss.l.length t.ss.c, .slice t.cs.A t.cs.l.length t.cs.c, .slice t.ws.A t.ws.l.length t.ws.c, .slice t.ms.A t.ms.l.length t.ms.c, .slice t.ks.A t.ks.l.length t.ks.c] 28 _ rfl).alloc _).alloc _).alloc _).alloc _
  have C1 : Hid (Blk W2 (w1.heap.size + 1 + 1 + 1) [.int .i64 0, .int .i64 0, .slice (some ⟨w1.heap.size + 1, 0, none⟩) 2 2]) := by rw [← hW2]; exact (Blk.newH (((w1.alloc (.cells #[.int .i64 t.n, .slice t.ss.A t.ss.l.length t.ss.c, .slice t.cs.A t.cs.l.length t.cs.c, .slice t.ws.A t.ws.l.length t.ws.c, .slice t.ms.A t.ms.l.length t.ms.c, .slice t.ks.A t.ks.l.length t.ks.c] 28)).alloc (.cells #[.int .i64 0, .int .i64 0] 3)).alloc (.cells #[.int .i64 1, .int .i64 0] 3)) [.int .i64 0, .int .i64 0, .slice (some ⟨w1.heap.size + 1, 0, none⟩) 2 2] 34 _ (by simp)).alloc _
  have C2 : Hid (Blk W2 (w1.heap.size + 1 + 1 + 1 + 1) [.int .i64 600, .int .i64 1, .slice (some ⟨w1.heap.size + 1 + 1, 0, none⟩) 2 2]) := by rw [← hW2]; exact Blk.newH ((((w1.alloc (.cells #[.int .i64 t.n, .slice t.ss.A t.ss.l.length t.ss.c, .slice t.cs.A t.cs.l.length t.cs.c, .slice t.ws.A t.ws.l.length t.ws.c, .slice t.ms.A t.ms.l.length t.ms.c, .slice t.ks.A t.ks.l.length t.ks.c] 28)).alloc (.cells #[.int .i64 0, .int .i64 0] 3)).alloc (.cells #[.int .i64 1, .int .i64 0] 3)).alloc (.cells #[.int .i64 0, .int .i64 0, .slice (some ⟨w1.heap.size + 1, 0, none⟩) 2 2] 34)) [.int .i64 600, .int .i64 1, .slice (some ⟨w1.heap.size + 1 + 1, 0, none⟩) 2 2] 34 _ (by simp)
  have S1 : Hid (Slc W2 ic 1 (some ⟨w1.heap.size + 1, 0, none⟩) [0, 0]) := by rw [← hW2]; exact (((slc_litH (w1.alloc (.cells #[.int .i64 t.n, .slice t.ss.A t.ss.l.length t.ss.c, .slice t.cs.A t.cs.l.length t.cs.c, .slice t.ws.A t.ws.l.length t.ws.c, .slice t.ms.A t.ms.l.length t.ms.c, .slice t.ks.A t.ks.l.length t.ks.c] 28)) [0, 0] #[.int .i64 0, .int .i64 0] 3 (enc := ic) (sz := 1) (fun _ => rfl) rfl _ (by simp)).alloc _).alloc _).alloc _
  have S2 : Hid (Slc W2 ic 1 (some ⟨w1.heap.size + 1 + 1, 0, none⟩) [1, 0]) := by rw [← hW2]; exact ((slc_litH ((w1.alloc (.cells #[.int .i64 t.n, .slice t.ss.A t.ss.l.length t.ss.c, .slice t.cs.A t.cs.l.length t.cs.c, .slice t.ws.A t.ws.l.length t.ws.c, .slice t.ms.A t.ms.l.length t.ms.c, .slice t.ks.A t.ks.l.length t.ks.c] 28)).alloc (.cells #[.int .i64 0, .int .i64 0] 3)) [1, 0] #[.int .i64 1, .int .i64 0] 3 (enc := ic) (sz := 1) (fun _ => rfl) rfl _ (by simp)).alloc _).alloc _
  have B2 : Below w1.heap.size w1 W2 := by rw [← hW2]; exact ext_alloc (ext_alloc (ext_alloc (ext_alloc (ext_alloc (ext_refl w1) _) _) _) _) _
  have E := Lib.hid (ext_trans B0 B2)
  have HT := Lib.hid (hT.ext B2)
  have AN : Hid (Anc W2 W2) := ext_refl W2
  have HW2 := Lib.hid hW2
  have iw : ∀ n : Int, 0 ≤ n → n ≤ 1000 → (Lit.int .i64 n).wf = true := fun n h0 h1 => wf64 (by omega) (by omega)
  have K1 : Hid (Chg.ok W2 (exC1 (some ⟨w1.heap.size + 1, 0, none⟩))) := show SliceOf.ok ic 1 (fun _ n => (Lit.int .i64 n).wf = true) W2 ⟨_, 2, [0, 0]⟩ from okS S1.out rfl (by decide) (all2 (iw 0 (by decide) (by decide)) (iw 0 (by decide) (by decide)))
  have K2 : Hid (Chg.ok W2 (exC2 (some ⟨w1.heap.size + 1 + 1, 0, none⟩))) := show SliceOf.ok ic 1 (fun _ n => (Lit.int .i64 n).wf = true) W2 ⟨_, 2, [1, 0]⟩ from okS S2.out rfl (by decide) (all2 (iw 1 (by decide) (by decide)) (iw 0 (by decide) (by decide)))
  clear hW2 hT B0 B2 iw
  go_wp2_with fail
  rw [HW2.out]
  clear HW2
  refine (add_lit (E := 0) (L := [(exC1 (some ⟨w1.heap.size + 1, 0, none⟩))]) (A := none) (n := 0) (l := []) (x := (exC1 (some ⟨w1.heap.size + 1, 0, none⟩))) 1 (by rw [← HTA.out]; first | done | exact ex1 _ _) (by rw [← HTA.out]; first | done | exact ex2 _ _) rfl rfl (HT.out.ext (show Below _ _ _ from AN.out)) Slc.nil (by simp) (by simp) (K1.out.ext (show Below _ _ _ from AN.out))).mono ?_
  rintro e w3 ⟨A1, cp1, rfl, hO1, B⟩
  replace E := Lib.hid (ext_trans E.out B)
  replace AN := Lib.hid (AN.out.ext B)
  replace T1 := Lib.hid (T1.out.ext B)
  replace C1 := Lib.hid (C1.out.ext B)
  replace C2 := Lib.hid (C2.out.ext B)
  clear B
  have O1 := Lib.hid (hO1)
  clear hO1
  have hw3 := AN.out.size
  replace E := Lib.hid (ext_alloc E.out (.cells #[.slice A1 1 cp1] 31))
  replace AN := Lib.hid (AN.out.alloc (.cells #[.slice A1 1 cp1] 31))
  replace T1 := Lib.hid (T1.out.alloc (.cells #[.slice A1 1 cp1] 31))
  replace C1 := Lib.hid (C1.out.alloc (.cells #[.slice A1 1 cp1] 31))
  replace C2 := Lib.hid (C2.out.alloc (.cells #[.slice A1 1 cp1] 31))
  replace O1 := Lib.hid (O1.out.alloc (.cells #[.slice A1 1 cp1] 31))
  have B4 := Lib.hid (Blk.newH w3 [.slice A1 1 cp1] 31 (w3.heap.size) (by first | rfl | simp))
  have c0 := T1.out.c 0 _ rfl
  have c1 := T1.out.c 1 _ rfl
  have c2 := T1.out.c 2 _ rfl
  have c3 := T1.out.c 3 _ rfl
  have c4 := T1.out.c 4 _ rfl
  have c5 := T1.out.c 5 _ rfl
  have c6 := C2.out.c 0 _ rfl
  have c7 := C2.out.c 1 _ rfl
  have c8 := C2.out.c 2 _ rfl
  have c9 := B4.out.c 0 _ rfl
  have cl := B4.out.lt
  have cl2 := C2.out.lt
  have cl3 := T1.out.lt
  go_wp2_with fail
  clear cl cl2 cl3 c0 c1 c2 c3 c4 c5 c6 c7 c8 c9
  obtain ⟨V3, hNV3⟩ : ∃ W0, W0 = (w3.alloc (.cells #[.slice A1 1 cp1] 31)) := ⟨_, rfl⟩
  rw [← hNV3] at E AN T1 C1 C2 O1 B4 ⊢
  clear hNV3
  have hV3 := B4.out.lt
  refine (add_lit (E := 0) (L := [(exC1 (some ⟨w1.heap.size + 1, 0, none⟩)), (exC2 (some ⟨w1.heap.size + 1 + 1, 0, none⟩))]) (A := A1) (n := 1) (l := [(exC1 (some ⟨w1.heap.size + 1, 0, none⟩))]) (x := (exC2 (some ⟨w1.heap.size + 1 + 1, 0, none⟩))) 2 (by rw [← HTA.out]; first | done | exact ex3 _ _ _) (by rw [← HTA.out]; first | done | exact ex4 _ _ _) rfl rfl (HT.out.ext (show Below _ _ _ from AN.out)) (O1.out.slc (sz := 3) (fun _ => rfl) (by decide)) (by simp) (all1 (K1.out.ext (show Below _ _ _ from AN.out))) (K2.out.ext (show Below _ _ _ from AN.out))).mono ?_
  rintro e w4 ⟨A2, cp2, rfl, hO2, B⟩
  replace E := Lib.hid (ext_trans E.out B)
  replace AN := Lib.hid (AN.out.ext B)
  replace T1 := Lib.hid (T1.out.ext B)
  replace C1 := Lib.hid (C1.out.ext B)
  replace C2 := Lib.hid (C2.out.ext B)
  replace O1 := Lib.hid (O1.out.ext B)
  replace B4 := Lib.hid (B4.out.ext B)
  clear B
  clear O1
  have O2 := Lib.hid (hO2)
  clear hO2
  have y0 := B4.out.c 0 _ rfl
  have yf := B4.out.f
  have yl := B4.out.lt
  replace E := Lib.hid (ext_set E.out ⟨w3.heap.size, 0, none⟩ (.slice A2 2 cp2) (by first | exact Nat.le_refl _ | omega | (simp; done) | (simp; omega)))
  replace AN := Lib.hid (AN.out.set ⟨w3.heap.size, 0, none⟩ ((.slice A2 2 cp2)) (by show _ ≤ w3.heap.size; omega))
  replace T1 := Lib.hid (T1.out.other (p := ⟨w3.heap.size, 0, none⟩) (.slice A2 2 cp2) (by first | omega | (simp; done) | (simp; omega)))
  replace C1 := Lib.hid (C1.out.other (p := ⟨w3.heap.size, 0, none⟩) (.slice A2 2 cp2) (by first | omega | (simp; done) | (simp; omega)))
  replace C2 := Lib.hid (C2.out.other (p := ⟨w3.heap.size, 0, none⟩) (.slice A2 2 cp2) (by first | omega | (simp; done) | (simp; omega)))
  replace B4 := Lib.hid (show Blk _ (w3.heap.size) [.slice A2 2 cp2] from B4.out.set (j := 0) (by simp) (.slice A2 2 cp2))
  replace O2 := Lib.hid (O2.out.far_set (p := ⟨w3.heap.size, 0, none⟩) (u := (.slice A2 2 cp2)) (by show w3.heap.size < V3.heap.size; omega))
  have c0 := T1.out.c 0 _ rfl
  have c1 := T1.out.c 1 _ rfl
  have c2 := T1.out.c 2 _ rfl
  have c3 := T1.out.c 3 _ rfl
  have c4 := T1.out.c 4 _ rfl
  have c5 := T1.out.c 5 _ rfl
  have c6 := C2.out.c 0 _ rfl
  have c7 := C2.out.c 1 _ rfl
  have c8 := C2.out.c 2 _ rfl
  have cl2 := C2.out.lt
  have cl3 := T1.out.lt
  go_wp2_with fail
  clear cl2 cl3 y0 yf yl c0 c1 c2 c3 c4 c5 c6 c7 c8
  obtain ⟨V4, hNV4⟩ : ∃ W0, W0 = (w4.setCell ⟨w3.heap.size, 0, none⟩ (.slice A2 2 cp2)) := ⟨_, rfl⟩
  rw [← hNV4] at E AN T1 C1 C2 B4 O2 ⊢
  clear hNV4
  have L2 := Lib.hid (O2.out.slc (sz := 3) (fun _ => rfl) (by decide))
  clear O2
  refine (add_lit (E := 190) (L := []) (A := none) (n := 0) (l := []) (x := (exC2 (some ⟨w1.heap.size + 1 + 1, 0, none⟩))) 0 (by rw [← HTA.out]; first | done | exact ex5 _ _) (by rw [← HTA.out]; first | done | exact ex6 _ _) rfl rfl (HT.out.ext (show Below _ _ _ from AN.out)) Slc.nil (by simp) (by simp) (K2.out.ext (show Below _ _ _ from AN.out))).mono ?_
  rintro e w5 ⟨A3, cp3, rfl, hO3, B⟩
  replace E := Lib.hid (ext_trans E.out B)
  replace AN := Lib.hid (AN.out.ext B)
  replace T1 := Lib.hid (T1.out.ext B)
  replace C1 := Lib.hid (C1.out.ext B)
  replace C2 := Lib.hid (C2.out.ext B)
  replace B4 := Lib.hid (B4.out.ext B)
  replace L2 := Lib.hid (L2.out.ext B)
  clear B
  clear hO3
  replace E := Lib.hid (ext_alloc E.out (.cells #[.slice A3 0 cp3] 31))
  replace AN := Lib.hid (AN.out.alloc (.cells #[.slice A3 0 cp3] 31))
  replace T1 := Lib.hid (T1.out.alloc (.cells #[.slice A3 0 cp3] 31))
  replace C1 := Lib.hid (C1.out.alloc (.cells #[.slice A3 0 cp3] 31))
  replace C2 := Lib.hid (C2.out.alloc (.cells #[.slice A3 0 cp3] 31))
  replace B4 := Lib.hid (B4.out.alloc (.cells #[.slice A3 0 cp3] 31))
  replace L2 := Lib.hid (L2.out.alloc (.cells #[.slice A3 0 cp3] 31))
  have q0 := B4.out.c 0 _ rfl
  have q1 := B4.out.lt
  go_wp2_with fail
  refine (in_lit (l := [(exC1 (some ⟨w1.heap.size + 1, 0, none⟩)), (exC2 (some ⟨w1.heap.size + 1 + 1, 0, none⟩))]) 0 0 (.slice (some ⟨w1.heap.size + 1, 0, none⟩) 2 2) rfl (ex7 _ _) rfl L2.out (by simp [maxLen, exN])).mono ?_
  rintro e w6 ⟨rfl, B⟩
  clear q0 q1
  replace E := Lib.hid (ext_trans E.out B)
  replace AN := Lib.hid (AN.out.ext B)
  replace T1 := Lib.hid (T1.out.ext B)
  replace C1 := Lib.hid (C1.out.ext B)
  replace C2 := Lib.hid (C2.out.ext B)
  replace B4 := Lib.hid (B4.out.ext B)
  replace L2 := Lib.hid (L2.out.ext B)
  clear B
  replace E := Lib.hid (ext_alloc E.out (.cells #[.int .i64 0, .int .i64 0, .slice (some ⟨w1.heap.size + 1, 0, none⟩) 2 2] 34))
  replace AN := Lib.hid (AN.out.alloc (.cells #[.int .i64 0, .int .i64 0, .slice (some ⟨w1.heap.size + 1, 0, none⟩) 2 2] 34))
  replace T1 := Lib.hid (T1.out.alloc (.cells #[.int .i64 0, .int .i64 0, .slice (some ⟨w1.heap.size + 1, 0, none⟩) 2 2] 34))
  replace C1 := Lib.hid (C1.out.alloc (.cells #[.int .i64 0, .int .i64 0, .slice (some ⟨w1.heap.size + 1, 0, none⟩) 2 2] 34))
  replace C2 := Lib.hid (C2.out.alloc (.cells #[.int .i64 0, .int .i64 0, .slice (some ⟨w1.heap.size + 1, 0, none⟩) 2 2] 34))
  replace B4 := Lib.hid (B4.out.alloc (.cells #[.int .i64 0, .int .i64 0, .slice (some ⟨w1.heap.size + 1, 0, none⟩) 2 2] 34))
  replace L2 := Lib.hid (L2.out.alloc (.cells #[.int .i64 0, .int .i64 0, .slice (some ⟨w1.heap.size + 1, 0, none⟩) 2 2] 34))
  have Ba := Lib.hid (Blk.newH w6 [.int .i64 0, .int .i64 0, .slice (some ⟨w1.heap.size + 1, 0, none⟩) 2 2] 34 (w6.heap.size) (by first | rfl | simp))
  have q0 := B4.out.c 0 _ rfl
  have q1 := B4.out.lt
  go_wp2_with fail
  refine (in_lit (l := [(exC1 (some ⟨w1.heap.size + 1, 0, none⟩)), (exC2 (some ⟨w1.heap.size + 1 + 1, 0, none⟩))]) 600 1 (.slice (some ⟨w1.heap.size + 1 + 1, 0, none⟩) 2 2) rfl (ex8 _ _) rfl L2.out (by simp [maxLen, exN])).mono ?_
  rintro e w7 ⟨rfl, B⟩
  clear q0 q1
  replace E := Lib.hid (ext_trans E.out B)
  replace AN := Lib.hid (AN.out.ext B)
  replace T1 := Lib.hid (T1.out.ext B)
  replace C1 := Lib.hid (C1.out.ext B)
  replace C2 := Lib.hid (C2.out.ext B)
  replace B4 := Lib.hid (B4.out.ext B)
  replace L2 := Lib.hid (L2.out.ext B)
  replace Ba := Lib.hid (Ba.out.ext B)
  clear B
  replace E := Lib.hid (ext_alloc E.out (.cells #[.int .i64 600, .int .i64 1, .slice (some ⟨w1.heap.size + 1 + 1, 0, none⟩) 2 2] 34))
  replace AN := Lib.hid (AN.out.alloc (.cells #[.int .i64 600, .int .i64 1, .slice (some ⟨w1.heap.size + 1 + 1, 0, none⟩) 2 2] 34))
  replace T1 := Lib.hid (T1.out.alloc (.cells #[.int .i64 600, .int .i64 1, .slice (some ⟨w1.heap.size + 1 + 1, 0, none⟩) 2 2] 34))
  replace C1 := Lib.hid (C1.out.alloc (.cells #[.int .i64 600, .int .i64 1, .slice (some ⟨w1.heap.size + 1 + 1, 0, none⟩) 2 2] 34))
  replace C2 := Lib.hid (C2.out.alloc (.cells #[.int .i64 600, .int .i64 1, .slice (some ⟨w1.heap.size + 1 + 1, 0, none⟩) 2 2] 34))
  replace B4 := Lib.hid (B4.out.alloc (.cells #[.int .i64 600, .int .i64 1, .slice (some ⟨w1.heap.size + 1 + 1, 0, none⟩) 2 2] 34))
  replace L2 := Lib.hid (L2.out.alloc (.cells #[.int .i64 600, .int .i64 1, .slice (some ⟨w1.heap.size + 1 + 1, 0, none⟩) 2 2] 34))
  replace Ba := Lib.hid (Ba.out.alloc (.cells #[.int .i64 600, .int .i64 1, .slice (some ⟨w1.heap.size + 1 + 1, 0, none⟩) 2 2] 34))
  have Bb := Lib.hid (Blk.newH w7 [.int .i64 600, .int .i64 1, .slice (some ⟨w1.heap.size + 1 + 1, 0, none⟩) 2 2] 34 (w7.heap.size) (by first | rfl | simp))
  go_wp2_with fail
  refine (in_nil ex9).mono ?_
  rintro e w8 ⟨rfl, B⟩
  replace E := Lib.hid (ext_trans E.out B)
  replace AN := Lib.hid (AN.out.ext B)
  replace T1 := Lib.hid (T1.out.ext B)
  replace C1 := Lib.hid (C1.out.ext B)
  replace C2 := Lib.hid (C2.out.ext B)
  replace B4 := Lib.hid (B4.out.ext B)
  replace L2 := Lib.hid (L2.out.ext B)
  replace Ba := Lib.hid (Ba.out.ext B)
  replace Bb := Lib.hid (Bb.out.ext B)
  clear B
  replace E := Lib.hid (ext_alloc E.out (.cells #[.int .i64 0, .int .i64 0, .slice none 0 0] 34))
  replace AN := Lib.hid (AN.out.alloc (.cells #[.int .i64 0, .int .i64 0, .slice none 0 0] 34))
  replace T1 := Lib.hid (T1.out.alloc (.cells #[.int .i64 0, .int .i64 0, .slice none 0 0] 34))
  replace C1 := Lib.hid (C1.out.alloc (.cells #[.int .i64 0, .int .i64 0, .slice none 0 0] 34))
  replace C2 := Lib.hid (C2.out.alloc (.cells #[.int .i64 0, .int .i64 0, .slice none 0 0] 34))
  replace B4 := Lib.hid (B4.out.alloc (.cells #[.int .i64 0, .int .i64 0, .slice none 0 0] 34))
  replace L2 := Lib.hid (L2.out.alloc (.cells #[.int .i64 0, .int .i64 0, .slice none 0 0] 34))
  replace Ba := Lib.hid (Ba.out.alloc (.cells #[.int .i64 0, .int .i64 0, .slice none 0 0] 34))
  replace Bb := Lib.hid (Bb.out.alloc (.cells #[.int .i64 0, .int .i64 0, .slice none 0 0] 34))
  have q0 := T1.out.c 0 _ rfl
  have q1 := T1.out.c 1 _ rfl
  have q2 := T1.out.c 2 _ rfl
  have q3 := T1.out.c 3 _ rfl
  have q4 := T1.out.c 4 _ rfl
  have q5 := T1.out.c 5 _ rfl
  have q6 := T1.out.lt
  have q7 := B4.out.c 0 _ rfl
  have q8 := B4.out.lt
  go_wp2_with fail
  refine (sec_lit (l := [(exC1 (some ⟨w1.heap.size + 1, 0, none⟩)), (exC2 (some ⟨w1.heap.size + 1 + 1, 0, none⟩))]) 2 true (by rw [← HTA.out, ex10]; rfl) (by rw [← HTA.out, ex10]; rfl) rfl (HT.out.ext (show Below _ _ _ from AN.out)) L2.out (by simp [maxLen, exN])).mono ?_
  rintro e w9 ⟨rfl, B⟩
  clear q0 q1 q2 q3 q4 q5 q6 q7 q8
  replace E := Lib.hid (ext_trans E.out B)
  replace AN := Lib.hid (AN.out.ext B)
  replace T1 := Lib.hid (T1.out.ext B)
  replace C1 := Lib.hid (C1.out.ext B)
  replace C2 := Lib.hid (C2.out.ext B)
  replace B4 := Lib.hid (B4.out.ext B)
  replace L2 := Lib.hid (L2.out.ext B)
  replace Ba := Lib.hid (Ba.out.ext B)
  replace Bb := Lib.hid (Bb.out.ext B)
  clear B
  have q0 := T1.out.c 0 _ rfl
  have q1 := T1.out.c 1 _ rfl
  have q2 := T1.out.c 2 _ rfl
  have q3 := T1.out.c 3 _ rfl
  have q4 := T1.out.c 4 _ rfl
  have q5 := T1.out.c 5 _ rfl
  have q6 := T1.out.lt
  go_wp2_with fail
  refine (sec_lit (A := none) (n := 0) (c := 0) (l := []) 0 false (by rw [← HTA.out, ex11]; rfl) (by rw [← HTA.out, ex11]; rfl) rfl (HT.out.ext (show Below _ _ _ from AN.out)) Slc.nil (by simp [maxLen, exN])).mono ?_
  rintro e w10 ⟨rfl, B⟩
  clear q0 q1 q2 q3 q4 q5 q6
  replace E := Lib.hid (ext_trans E.out B)
  replace AN := Lib.hid (AN.out.ext B)
  replace T1 := Lib.hid (T1.out.ext B)
  replace C1 := Lib.hid (C1.out.ext B)
  replace C2 := Lib.hid (C2.out.ext B)
  replace B4 := Lib.hid (B4.out.ext B)
  replace L2 := Lib.hid (L2.out.ext B)
  replace Ba := Lib.hid (Ba.out.ext B)
  replace Bb := Lib.hid (Bb.out.ext B)
  clear B
  have q0 := T1.out.c 0 _ rfl
  have q1 := T1.out.c 1 _ rfl
  have q2 := T1.out.c 2 _ rfl
  have q3 := T1.out.c 3 _ rfl
  have q4 := T1.out.c 4 _ rfl
  have q5 := T1.out.c 5 _ rfl
  have q6 := T1.out.lt
  have q7 := B4.out.c 0 _ rfl
  have q8 := B4.out.lt
  replace E := Lib.hid (ext_alloc E.out (.cells #[.bool true, .int .i64 0, .int .i64 0, .int .i64 10, .int .i64 3] 60))
  replace AN := Lib.hid (AN.out.alloc (.cells #[.bool true, .int .i64 0, .int .i64 0, .int .i64 10, .int .i64 3] 60))
  replace T1 := Lib.hid (T1.out.alloc (.cells #[.bool true, .int .i64 0, .int .i64 0, .int .i64 10, .int .i64 3] 60))
  replace C1 := Lib.hid (C1.out.alloc (.cells #[.bool true, .int .i64 0, .int .i64 0, .int .i64 10, .int .i64 3] 60))
  replace C2 := Lib.hid (C2.out.alloc (.cells #[.bool true, .int .i64 0, .int .i64 0, .int .i64 10, .int .i64 3] 60))
  replace B4 := Lib.hid (B4.out.alloc (.cells #[.bool true, .int .i64 0, .int .i64 0, .int .i64 10, .int .i64 3] 60))
  replace L2 := Lib.hid (L2.out.alloc (.cells #[.bool true, .int .i64 0, .int .i64 0, .int .i64 10, .int .i64 3] 60))
  replace Ba := Lib.hid (Ba.out.alloc (.cells #[.bool true, .int .i64 0, .int .i64 0, .int .i64 10, .int .i64 3] 60))
  replace Bb := Lib.hid (Bb.out.alloc (.cells #[.bool true, .int .i64 0, .int .i64 0, .int .i64 10, .int .i64 3] 60))
  have SC := Lib.hid (slc_litH w10 ([⟨true, 0, 0, 10, 3⟩] : List Cut) #[.bool true, .int .i64 0, .int .i64 0, .int .i64 10, .int .i64 3] 60 (enc := Cut.cells) (sz := 5) (fun _ => rfl) rfl (w10.heap.size) (by simp))
  replace E := Lib.hid (ext_alloc E.out (.cells #[.int .i64 (-1), .int .i64 0, .slice (some ⟨w10.heap.size, 0, none⟩) 1 1] 63))
  replace AN := Lib.hid (AN.out.alloc (.cells #[.int .i64 (-1), .int .i64 0, .slice (some ⟨w10.heap.size, 0, none⟩) 1 1] 63))
  replace T1 := Lib.hid (T1.out.alloc (.cells #[.int .i64 (-1), .int .i64 0, .slice (some ⟨w10.heap.size, 0, none⟩) 1 1] 63))
  replace C1 := Lib.hid (C1.out.alloc (.cells #[.int .i64 (-1), .int .i64 0, .slice (some ⟨w10.heap.size, 0, none⟩) 1 1] 63))
  replace C2 := Lib.hid (C2.out.alloc (.cells #[.int .i64 (-1), .int .i64 0, .slice (some ⟨w10.heap.size, 0, none⟩) 1 1] 63))
  replace B4 := Lib.hid (B4.out.alloc (.cells #[.int .i64 (-1), .int .i64 0, .slice (some ⟨w10.heap.size, 0, none⟩) 1 1] 63))
  replace L2 := Lib.hid (L2.out.alloc (.cells #[.int .i64 (-1), .int .i64 0, .slice (some ⟨w10.heap.size, 0, none⟩) 1 1] 63))
  replace Ba := Lib.hid (Ba.out.alloc (.cells #[.int .i64 (-1), .int .i64 0, .slice (some ⟨w10.heap.size, 0, none⟩) 1 1] 63))
  replace Bb := Lib.hid (Bb.out.alloc (.cells #[.int .i64 (-1), .int .i64 0, .slice (some ⟨w10.heap.size, 0, none⟩) 1 1] 63))
  replace SC := Lib.hid (SC.out.alloc (.cells #[.int .i64 (-1), .int .i64 0, .slice (some ⟨w10.heap.size, 0, none⟩) 1 1] 63))
  have SD := Lib.hid (slc_litH (w10.alloc (.cells #[.bool true, .int .i64 0, .int .i64 0, .int .i64 10, .int .i64 3] 60)) (exN (some ⟨w10.heap.size, 0, none⟩)) #[.int .i64 (-1), .int .i64 0, .slice (some ⟨w10.heap.size, 0, none⟩) 1 1] 63 (enc := Nd.cells) (sz := 3) (fun _ => rfl) rfl (w10.heap.size + 1) (by simp))
  have TR : Hid (TOk ((w10.alloc (.cells #[.bool true, .int .i64 0, .int .i64 0, .int .i64 10, .int .i64 3] 60)).alloc (.cells #[.int .i64 (-1), .int .i64 0, .slice (some ⟨w10.heap.size, 0, none⟩) 1 1] 63)) (some ⟨w10.heap.size + 1, 0, none⟩) (exN (some ⟨w10.heap.size, 0, none⟩))) := ⟨SD.out, all1 SC.out, (by simp [maxLen, exN]), all1 (by simp [maxLen, exN])⟩
  clear SC SD
  replace E := Lib.hid (ext_alloc E.out (.cells #[.bool true, .bool false] 4))
  replace AN := Lib.hid (AN.out.alloc (.cells #[.bool true, .bool false] 4))
  replace T1 := Lib.hid (T1.out.alloc (.cells #[.bool true, .bool false] 4))
  replace C1 := Lib.hid (C1.out.alloc (.cells #[.bool true, .bool false] 4))
  replace C2 := Lib.hid (C2.out.alloc (.cells #[.bool true, .bool false] 4))
  replace B4 := Lib.hid (B4.out.alloc (.cells #[.bool true, .bool false] 4))
  replace L2 := Lib.hid (L2.out.alloc (.cells #[.bool true, .bool false] 4))
  replace Ba := Lib.hid (Ba.out.alloc (.cells #[.bool true, .bool false] 4))
  replace Bb := Lib.hid (Bb.out.alloc (.cells #[.bool true, .bool false] 4))
  replace TR := Lib.hid (TR.out.alloc (.cells #[.bool true, .bool false] 4))
  have SE := Lib.hid (slc_litH ((w10.alloc (.cells #[.bool true, .int .i64 0, .int .i64 0, .int .i64 10, .int .i64 3] 60)).alloc (.cells #[.int .i64 (-1), .int .i64 0, .slice (some ⟨w10.heap.size, 0, none⟩) 1 1] 63)) ([true, false] : List Bool) #[.bool true, .bool false] 4 (enc := bc) (sz := 1) (fun _ => rfl) rfl (w10.heap.size + 1 + 1) (by simp))
  go_wp2_with fail
  refine (of_lit (tn := 1) (n := 2) (sn := 2) (tree := exN (some ⟨w10.heap.size, 0, none⟩)) (leaf := 0) (l := [(exC1 (some ⟨w1.heap.size + 1, 0, none⟩)), (exC2 (some ⟨w1.heap.size + 1 + 1, 0, none⟩))]) (seen := [true, false]) (z := ⟨false, 0, 5⟩) 2 0 (by rw [← HTA.out]; first | done | exact ex12 _ _ _ _) (by rw [← HTA.out]; first | done | exact ex13 _ _ _ _) rfl rfl rfl (HT.out.ext (show Below _ _ _ from AN.out)) TR.out L2.out (by simp [maxLen, exN]) (all2 (K1.out.ext (show Below _ _ _ from AN.out)) (K2.out.ext (show Below _ _ _ from AN.out))) SE.out (by simp [maxLen, exN]) (by rw [← HTA.out]; exact exT_few _)).mono ?_
  rintro e w11 ⟨rfl, B⟩
  clear q0 q1 q2 q3 q4 q5 q6 q7 q8
  replace E := Lib.hid (ext_trans E.out B)
  replace AN := Lib.hid (AN.out.ext B)
  replace T1 := Lib.hid (T1.out.ext B)
  replace C1 := Lib.hid (C1.out.ext B)
  replace C2 := Lib.hid (C2.out.ext B)
  replace B4 := Lib.hid (B4.out.ext B)
  replace L2 := Lib.hid (L2.out.ext B)
  replace Ba := Lib.hid (Ba.out.ext B)
  replace Bb := Lib.hid (Bb.out.ext B)
  replace TR := Lib.hid (TR.out.ext B)
  replace SE := Lib.hid (SE.out.ext B)
  clear B
  clear SE
  have q0 := T1.out.c 0 _ rfl
  have q1 := T1.out.c 1 _ rfl
  have q2 := T1.out.c 2 _ rfl
  have q3 := T1.out.c 3 _ rfl
  have q4 := T1.out.c 4 _ rfl
  have q5 := T1.out.c 5 _ rfl
  have q6 := T1.out.lt
  have q7 := B4.out.c 0 _ rfl
  have q8 := B4.out.lt
  replace E := Lib.hid (ext_alloc E.out (.cells #[.bool true, .bool true] 4))
  replace AN := Lib.hid (AN.out.alloc (.cells #[.bool true, .bool true] 4))
  replace T1 := Lib.hid (T1.out.alloc (.cells #[.bool true, .bool true] 4))
  replace C1 := Lib.hid (C1.out.alloc (.cells #[.bool true, .bool true] 4))
  replace C2 := Lib.hid (C2.out.alloc (.cells #[.bool true, .bool true] 4))
  replace B4 := Lib.hid (B4.out.alloc (.cells #[.bool true, .bool true] 4))
  replace L2 := Lib.hid (L2.out.alloc (.cells #[.bool true, .bool true] 4))
  replace Ba := Lib.hid (Ba.out.alloc (.cells #[.bool true, .bool true] 4))
  replace Bb := Lib.hid (Bb.out.alloc (.cells #[.bool true, .bool true] 4))
  replace TR := Lib.hid (TR.out.alloc (.cells #[.bool true, .bool true] 4))
  have SE := Lib.hid (slc_litH w11 ([true, true] : List Bool) #[.bool true, .bool true] 4 (enc := bc) (sz := 1) (fun _ => rfl) rfl (w11.heap.size) (by simp))
  go_wp2_with fail
  refine (of_lit (tn := 1) (n := 2) (sn := 2) (tree := exN (some ⟨w10.heap.size, 0, none⟩)) (leaf := 0) (l := [(exC1 (some ⟨w1.heap.size + 1, 0, none⟩)), (exC2 (some ⟨w1.heap.size + 1 + 1, 0, none⟩))]) (seen := [true, true]) (z := ⟨false, 0, 600⟩) 0 0 (by rw [← HTA.out]; first | done | exact ex14 _ _ _ _) (by rw [← HTA.out]; first | done | exact ex15 _ _ _ _) rfl rfl rfl (HT.out.ext (show Below _ _ _ from AN.out)) TR.out L2.out (by simp [maxLen, exN]) (all2 (K1.out.ext (show Below _ _ _ from AN.out)) (K2.out.ext (show Below _ _ _ from AN.out))) SE.out (by simp [maxLen, exN]) (by rw [← HTA.out]; exact exT_few _)).mono ?_
  rintro e w12 ⟨rfl, B⟩
  clear q0 q1 q2 q3 q4 q5 q6 q7 q8
  replace E := Lib.hid (ext_trans E.out B)
  replace AN := Lib.hid (AN.out.ext B)
  replace T1 := Lib.hid (T1.out.ext B)
  replace C1 := Lib.hid (C1.out.ext B)
  replace C2 := Lib.hid (C2.out.ext B)
  replace B4 := Lib.hid (B4.out.ext B)
  replace L2 := Lib.hid (L2.out.ext B)
  replace Ba := Lib.hid (Ba.out.ext B)
  replace Bb := Lib.hid (Bb.out.ext B)
  replace TR := Lib.hid (TR.out.ext B)
  replace SE := Lib.hid (SE.out.ext B)
  clear B
  clear SE
  have q0 := T1.out.c 0 _ rfl
  have q1 := T1.out.c 1 _ rfl
  have q2 := T1.out.c 2 _ rfl
  have q3 := T1.out.c 3 _ rfl
  have q4 := T1.out.c 4 _ rfl
  have q5 := T1.out.c 5 _ rfl
  have q6 := T1.out.lt
  have q7 := B4.out.c 0 _ rfl
  have q8 := B4.out.lt
  replace E := Lib.hid (ext_alloc E.out (.cells #[.bool true, .bool true] 4))
  replace AN := Lib.hid (AN.out.alloc (.cells #[.bool true, .bool true] 4))
  replace T1 := Lib.hid (T1.out.alloc (.cells #[.bool true, .bool true] 4))
  replace C1 := Lib.hid (C1.out.alloc (.cells #[.bool true, .bool true] 4))
  replace C2 := Lib.hid (C2.out.alloc (.cells #[.bool true, .bool true] 4))
  replace B4 := Lib.hid (B4.out.alloc (.cells #[.bool true, .bool true] 4))
  replace L2 := Lib.hid (L2.out.alloc (.cells #[.bool true, .bool true] 4))
  replace Ba := Lib.hid (Ba.out.alloc (.cells #[.bool true, .bool true] 4))
  replace Bb := Lib.hid (Bb.out.alloc (.cells #[.bool true, .bool true] 4))
  replace TR := Lib.hid (TR.out.alloc (.cells #[.bool true, .bool true] 4))
  have SE := Lib.hid (slc_litH w12 ([true, true] : List Bool) #[.bool true, .bool true] 4 (enc := bc) (sz := 1) (fun _ => rfl) rfl (w12.heap.size) (by simp))
  go_wp2_with fail
  refine (of_lit (tn := 1) (n := 2) (sn := 2) (tree := exN (some ⟨w10.heap.size, 0, none⟩)) (leaf := 0) (l := [(exC1 (some ⟨w1.heap.size + 1, 0, none⟩)), (exC2 (some ⟨w1.heap.size + 1 + 1, 0, none⟩))]) (seen := [true, true]) (z := ⟨true, 0, 9⟩) 1 0 (by rw [← HTA.out]; first | done | exact ex16 _ _ _ _) (by rw [← HTA.out]; first | done | exact ex17 _ _ _ _) rfl rfl rfl (HT.out.ext (show Below _ _ _ from AN.out)) TR.out L2.out (by simp [maxLen, exN]) (all2 (K1.out.ext (show Below _ _ _ from AN.out)) (K2.out.ext (show Below _ _ _ from AN.out))) SE.out (by simp [maxLen, exN]) (by rw [← HTA.out]; exact exT_few _)).mono ?_
  rintro e w13 ⟨rfl, B⟩
  clear q0 q1 q2 q3 q4 q5 q6 q7 q8
  replace E := Lib.hid (ext_trans E.out B)
  replace AN := Lib.hid (AN.out.ext B)
  replace T1 := Lib.hid (T1.out.ext B)
  replace C1 := Lib.hid (C1.out.ext B)
  replace C2 := Lib.hid (C2.out.ext B)
  replace B4 := Lib.hid (B4.out.ext B)
  replace L2 := Lib.hid (L2.out.ext B)
  replace Ba := Lib.hid (Ba.out.ext B)
  replace Bb := Lib.hid (Bb.out.ext B)
  replace TR := Lib.hid (TR.out.ext B)
  replace SE := Lib.hid (SE.out.ext B)
  clear B
  clear SE
  have q0 := T1.out.c 0 _ rfl
  have q1 := T1.out.c 1 _ rfl
  have q2 := T1.out.c 2 _ rfl
  have q3 := T1.out.c 3 _ rfl
  have q4 := T1.out.c 4 _ rfl
  have q5 := T1.out.c 5 _ rfl
  have q6 := T1.out.lt
  have q7 := B4.out.c 0 _ rfl
  have q8 := B4.out.lt
  replace E := Lib.hid (ext_alloc E.out (.cells #[.bool true, .bool true] 4))
  replace AN := Lib.hid (AN.out.alloc (.cells #[.bool true, .bool true] 4))
  replace T1 := Lib.hid (T1.out.alloc (.cells #[.bool true, .bool true] 4))
  replace C1 := Lib.hid (C1.out.alloc (.cells #[.bool true, .bool true] 4))
  replace C2 := Lib.hid (C2.out.alloc (.cells #[.bool true, .bool true] 4))
  replace B4 := Lib.hid (B4.out.alloc (.cells #[.bool true, .bool true] 4))
  replace L2 := Lib.hid (L2.out.alloc (.cells #[.bool true, .bool true] 4))
  replace Ba := Lib.hid (Ba.out.alloc (.cells #[.bool true, .bool true] 4))
  replace Bb := Lib.hid (Bb.out.alloc (.cells #[.bool true, .bool true] 4))
  replace TR := Lib.hid (TR.out.alloc (.cells #[.bool true, .bool true] 4))
  have SE := Lib.hid (slc_litH w13 ([true, true] : List Bool) #[.bool true, .bool true] 4 (enc := bc) (sz := 1) (fun _ => rfl) rfl (w13.heap.size) (by simp))
  go_wp2_with fail
  refine (of_lit (tn := 1) (n := 2) (sn := 2) (tree := exN (some ⟨w10.heap.size, 0, none⟩)) (leaf := 1) (l := [(exC1 (some ⟨w1.heap.size + 1, 0, none⟩)), (exC2 (some ⟨w1.heap.size + 1 + 1, 0, none⟩))]) (seen := [true, true]) (z := ⟨false, 0, 0⟩) 0 190 (by rw [← HTA.out]; first | done | exact ex19 _ _ _ _) (by rw [← HTA.out]; first | done | exact ex18 _ _ _ _) rfl rfl rfl (HT.out.ext (show Below _ _ _ from AN.out)) TR.out L2.out (by simp [maxLen, exN]) (all2 (K1.out.ext (show Below _ _ _ from AN.out)) (K2.out.ext (show Below _ _ _ from AN.out))) SE.out (by simp [maxLen, exN]) (by rw [← HTA.out]; exact exT_few _)).mono ?_
  rintro e w14 ⟨rfl, B⟩
  clear q0 q1 q2 q3 q4 q5 q6 q7 q8
  replace E := Lib.hid (ext_trans E.out B)
  replace AN := Lib.hid (AN.out.ext B)
  replace T1 := Lib.hid (T1.out.ext B)
  replace C1 := Lib.hid (C1.out.ext B)
  replace C2 := Lib.hid (C2.out.ext B)
  replace B4 := Lib.hid (B4.out.ext B)
  replace L2 := Lib.hid (L2.out.ext B)
  replace Ba := Lib.hid (Ba.out.ext B)
  replace Bb := Lib.hid (Bb.out.ext B)
  replace TR := Lib.hid (TR.out.ext B)
  replace SE := Lib.hid (SE.out.ext B)
  clear B
  clear SE
  have q0 := T1.out.c 0 _ rfl
  have q1 := T1.out.c 1 _ rfl
  have q2 := T1.out.c 2 _ rfl
  have q3 := T1.out.c 3 _ rfl
  have q4 := T1.out.c 4 _ rfl
  have q5 := T1.out.c 5 _ rfl
  have q6 := T1.out.lt
  go_wp2_with fail
  refine (achk_at 0 (by rw [← HTA.out]; first | done | exact ex0 _) (HT.out.ext (show Below _ _ _ from AN.out))).mono ?_
  rintro e w15 ⟨rfl, B⟩
  clear q0 q1 q2 q3 q4 q5 q6
  replace E := Lib.hid (ext_trans E.out B)
  replace AN := Lib.hid (AN.out.ext B)
  replace T1 := Lib.hid (T1.out.ext B)
  replace C1 := Lib.hid (C1.out.ext B)
  replace C2 := Lib.hid (C2.out.ext B)
  replace B4 := Lib.hid (B4.out.ext B)
  replace L2 := Lib.hid (L2.out.ext B)
  replace Ba := Lib.hid (Ba.out.ext B)
  replace Bb := Lib.hid (Bb.out.ext B)
  replace TR := Lib.hid (TR.out.ext B)
  clear B
  have q0 := T1.out.c 0 _ rfl
  have q1 := T1.out.c 1 _ rfl
  have q2 := T1.out.c 2 _ rfl
  have q3 := T1.out.c 3 _ rfl
  have q4 := T1.out.c 4 _ rfl
  have q5 := T1.out.c 5 _ rfl
  have q6 := T1.out.lt
  go_wp2_with fail
  refine (check_sat (A := none) (n := 0) (c := 0) (l := []) 190 (by rw [← HTA.out]; first | done | exact ex20 _) rfl (HT.out.ext (show Below _ _ _ from AN.out)) Slc.nil (by simp [maxLen, exN]) (by simp)).mono ?_
  rintro e w16 ⟨rfl, B⟩
  clear q0 q1 q2 q3 q4 q5 q6
  replace E := Lib.hid (ext_trans E.out B)
  replace AN := Lib.hid (AN.out.ext B)
  replace T1 := Lib.hid (T1.out.ext B)
  replace C1 := Lib.hid (C1.out.ext B)
  replace C2 := Lib.hid (C2.out.ext B)
  replace B4 := Lib.hid (B4.out.ext B)
  replace L2 := Lib.hid (L2.out.ext B)
  replace Ba := Lib.hid (Ba.out.ext B)
  replace Bb := Lib.hid (Bb.out.ext B)
  replace TR := Lib.hid (TR.out.ext B)
  clear B
  have q0 := T1.out.c 0 _ rfl
  have q1 := T1.out.c 1 _ rfl
  have q2 := T1.out.c 2 _ rfl
  have q3 := T1.out.c 3 _ rfl
  have q4 := T1.out.c 4 _ rfl
  have q5 := T1.out.c 5 _ rfl
  have q6 := T1.out.lt
  have q7 := B4.out.c 0 _ rfl
  have q8 := B4.out.lt
  go_wp2_with fail
  refine (check_sat (l := [(exC1 (some ⟨w1.heap.size + 1, 0, none⟩)), (exC2 (some ⟨w1.heap.size + 1 + 1, 0, none⟩))]) 0 (by rw [← HTA.out]; first | done | exact ex21 _ _ _) rfl (HT.out.ext (show Below _ _ _ from AN.out)) L2.out (by simp [maxLen, exN]) (all2 (K1.out.ext (show Below _ _ _ from AN.out)) (K2.out.ext (show Below _ _ _ from AN.out)))).mono ?_
  rintro e w17 ⟨rfl, B⟩
  clear q0 q1 q2 q3 q4 q5 q6 q7 q8
  replace E := Lib.hid (ext_trans E.out B)
  replace AN := Lib.hid (AN.out.ext B)
  replace T1 := Lib.hid (T1.out.ext B)
  replace C1 := Lib.hid (C1.out.ext B)
  replace C2 := Lib.hid (C2.out.ext B)
  replace B4 := Lib.hid (B4.out.ext B)
  replace L2 := Lib.hid (L2.out.ext B)
  replace Ba := Lib.hid (Ba.out.ext B)
  replace Bb := Lib.hid (Bb.out.ext B)
  replace TR := Lib.hid (TR.out.ext B)
  clear B
  have q0 := Ba.out.c 0 _ rfl
  have q1 := Ba.out.c 1 _ rfl
  have q2 := Ba.out.c 2 _ rfl
  have q3 := Ba.out.lt
  have q4 := C1.out.c 0 _ rfl
  have q5 := C1.out.c 1 _ rfl
  have q6 := C1.out.c 2 _ rfl
  have q7 := C1.out.lt
  go_wp2_with fail
  refine (sameC_at (a := (exC1 (some ⟨w1.heap.size + 1, 0, none⟩))) (b := (exC1 (some ⟨w1.heap.size + 1, 0, none⟩))) true (sameC_refl _) (K1.out.ext (show Below _ _ _ from AN.out)) (K1.out.ext (show Below _ _ _ from AN.out))).mono ?_
  rintro e w18 ⟨rfl, B⟩
  clear q0 q1 q2 q3 q4 q5 q6 q7
  replace E := Lib.hid (ext_trans E.out B)
  replace AN := Lib.hid (AN.out.ext B)
  replace T1 := Lib.hid (T1.out.ext B)
  replace C1 := Lib.hid (C1.out.ext B)
  replace C2 := Lib.hid (C2.out.ext B)
  replace B4 := Lib.hid (B4.out.ext B)
  replace L2 := Lib.hid (L2.out.ext B)
  replace Ba := Lib.hid (Ba.out.ext B)
  replace Bb := Lib.hid (Bb.out.ext B)
  replace TR := Lib.hid (TR.out.ext B)
  clear B
  have q0 := Bb.out.c 0 _ rfl
  have q1 := Bb.out.c 1 _ rfl
  have q2 := Bb.out.c 2 _ rfl
  have q3 := Bb.out.lt
  have q4 := C2.out.c 0 _ rfl
  have q5 := C2.out.c 1 _ rfl
  have q6 := C2.out.c 2 _ rfl
  have q7 := C2.out.lt
  go_wp2_with fail
  refine (sameC_at (a := (exC2 (some ⟨w1.heap.size + 1 + 1, 0, none⟩))) (b := (exC2 (some ⟨w1.heap.size + 1 + 1, 0, none⟩))) true (sameC_refl _) (K2.out.ext (show Below _ _ _ from AN.out)) (K2.out.ext (show Below _ _ _ from AN.out))).mono ?_
  rintro e w19 ⟨rfl, B⟩
  clear q0 q1 q2 q3 q4 q5 q6 q7
  replace E := Lib.hid (ext_trans E.out B)
  replace AN := Lib.hid (AN.out.ext B)
  replace T1 := Lib.hid (T1.out.ext B)
  replace C1 := Lib.hid (C1.out.ext B)
  replace C2 := Lib.hid (C2.out.ext B)
  replace B4 := Lib.hid (B4.out.ext B)
  replace L2 := Lib.hid (L2.out.ext B)
  replace Ba := Lib.hid (Ba.out.ext B)
  replace Bb := Lib.hid (Bb.out.ext B)
  replace TR := Lib.hid (TR.out.ext B)
  clear B
  go_wp2_with fail
  go_ret
  exact ⟨rfl, E.out⟩
end Go.Proofs.YtilocjliplmmpaaGreat
