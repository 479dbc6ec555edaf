/- Add. -/
import Derived.Test.YtilocjliplmmpaaGreatT
import Derived.Test.YtilocjliplmmpaaGreatDel
import Derived.Test.YtilocjliplmmpaaGreatLB
set_option linter.unusedSimpArgs false
set_option linter.unusedVariables false
namespace Go.Proofs.YtilocjliplmmpaaGreat
open Go.RowKit
theorem cut_filter {l : List Chg} {v : Int} {k : Nat} (h : CutAt (fun x : Chg => decide (x.f < v)) l k) : l.filter (fun x => decide (x.f < v)) = l.take k := by
  conv => lhs; rw [← List.take_append_drop k l]
  rw [List.filter_append]
  have h1 : (l.take k).filter (fun x => decide (x.f < v)) = l.take k := List.filter_eq_self.2 fun x hx => by
    obtain ⟨i, hi⟩ := List.mem_iff_getElem?.1 hx
    rw [List.getElem?_take] at hi
    split at hi
    · exact h.2.1 i x (by assumption) hi
    · cases hi
  have h2 : (l.drop k).filter (fun x => decide (x.f < v)) = [] := List.filter_eq_nil_iff.2 fun x hx => by
    obtain ⟨i, hi⟩ := List.mem_iff_getElem?.1 hx
    rw [List.getElem?_drop] at hi
    have := h.2.2 (k + i) x (by omega) hi
    simp at this; simp; omega
  rw [h1, h2, List.append_nil]
theorem above_filter {l : List Chg} {v : Int} {k : Nat} (hl : Inc l) (h : CutAt (fun x : Chg => decide (x.f < v)) l k) (d : Nat) (hd : d = k ∧ (∀ x, l[k]? = some x → x.f ≠ v) ∨ d = k + 1 ∧ (∃ x, l[k]? = some x ∧ x.f = v)) : l.filter (fun x => decide (v < x.f)) = l.drop d := by
  conv => lhs; rw [← List.take_append_drop d l]
  rw [List.filter_append]
  have h1 : (l.take d).filter (fun x => decide (v < x.f)) = [] := List.filter_eq_nil_iff.2 fun x hx => by
    obtain ⟨i, hi⟩ := List.mem_iff_getElem?.1 hx
    rw [List.getElem?_take] at hi
    split at hi
    · rename_i hid
      by_cases e : i < k
      · have := h.2.1 i x e hi
        simp at this
        simp; omega
      · rcases hd with ⟨rfl, _⟩ | ⟨rfl, y, hy, hv⟩
        · omega
        · obtain rfl : i = k := by omega
          cases hi.symm.trans hy
          simp; omega
    · cases hi
  have h2 : (l.drop d).filter (fun x => decide (v < x.f)) = l.drop d := List.filter_eq_self.2 fun x hx => by
    obtain ⟨i, hi⟩ := List.mem_iff_getElem?.1 hx
    rw [List.getElem?_drop] at hi
    have hge := h.2.2 (d + i) x (by rcases hd with ⟨rfl, _⟩ | ⟨rfl, _⟩ <;> omega) hi
    simp at hge
    have : v ≠ x.f := by
      rcases hd with ⟨rfl, hn⟩ | ⟨rfl, y, hy, hv⟩
      · by_cases e : i = 0
        · subst e; intro q; exact hn x (by simpa using hi) q.symm
        · have hlt := (List.getElem?_eq_some_iff.1 hi).1
          have hy := List.getElem?_eq_getElem (show d < l.length by omega)
          have h3 := h.2.2 d _ (Nat.le_refl _) hy
          have h4 := mono_ch hl (show d < d + i by omega) hy hi
          simp at h3
          omega
      · have := mono_ch hl (show k < k + 1 + i by omega) hy hi
        omega
    simp; omega
  rw [h1, h2, List.nil_append]
theorem put_met {l : List Chg} {c : Chg} {k : Nat} (hl : Inc l) (h : CutAt (fun x : Chg => decide (x.f < c.f)) l k) (hx : ∃ x, l[k]? = some x ∧ x.f = c.f) : putC l c = l.set k c := by
  obtain ⟨x, h1, h2⟩ := hx
  have hk := (List.getElem?_eq_some_iff.1 h1).1
  unfold putC
  rw [cut_filter h, above_filter hl h (k + 1) (.inr ⟨rfl, x, h1, h2⟩), List.set_eq_take_append_cons_drop, if_pos hk]
theorem put_new {l : List Chg} {c : Chg} {k : Nat} (hl : Inc l) (h : CutAt (fun x : Chg => decide (x.f < c.f)) l k) (hx : ¬ ∃ x, l[k]? = some x ∧ x.f = c.f) : putC l c = l.take k ++ c :: l.drop k := by
  unfold putC
  rw [cut_filter h, above_filter hl h k (.inl ⟨rfl, fun x h1 h2 => hx ⟨x, h1, h2⟩⟩)]
theorem put_atChg {W : World} {g0 i : Nat} {cur : List Value} (x : Chg) (hg : W.heap[g0]? = some (.cells cur.toArray 34 (0, 0))) (hi : i * 3 + 3 ≤ cur.length) :
    (((W.setCell ⟨g0, i * 3, none⟩ (.int .i64 x.f)).setCell ⟨g0, i * 3 + 1, none⟩ (.int .i64 x.cfg)).setCell ⟨g0, i * 3 + 2, none⟩ (.slice x.ms.A x.ms.l.length x.ms.c)).heap[g0]? = some (.cells (splice cur (i * 3) (Chg.cells x)).toArray 34 (0, 0)) := by
  have h := (row_set (row_set (row_set hg (i * 3) (.int .i64 x.f)) (i * 3 + 1) (.int .i64 x.cfg)) (i * 3 + 2) (.slice x.ms.A x.ms.l.length x.ms.c))
  have e : splice cur (i * 3) (Chg.cells x) = (((cur).set (i * 3) (.int .i64 x.f)).set (i * 3 + 1) (.int .i64 x.cfg)).set (i * 3 + 2) (.slice x.ms.A x.ms.l.length x.ms.c) := by
    unfold Chg.cells
    rw [← splice_set _ _ _ _ (by first | omega | (simp; omega))]; rw [← splice_set _ _ _ _ (by first | omega | (simp; omega))]; rw [← splice_set _ _ _ _ (by first | omega | (simp; omega))]; rw [splice_nil]
  rw [e]; exact h
theorem Own.far_set {α : Type} {w : World} {base : Nat} {e : TypeId} {enc : α → List Value} {sz : Nat} {v u : Value} {l : List α} (h : Own w base e enc sz v l) {p : Addr} (hp : p.block < base) : Own (w.setCell p u) base e enc sz v l :=
  h.block fun k hk => Below.heap_setCell w p u k (by have := (h.lt k hk).2; omega)
/-- A valid scheme is sorted. -/
theorem add_inc {t : Tab} {l : List Chg} (h : l = [] ∨ vldS t l = true) : Inc l := by
  rcases h with rfl | h
  · exact List.Pairwise.nil
  · exact (vldS_iff.1 h).inc
def AddR (w : World) (t : Tab) (l : List Chg) (c : Chg) (e : Ending) (w' : World) : Prop :=
  ∃ A cp, e = .returned (.tuple #[.agg #[.slice A (addL t l c).length cp], .int .i64 (addE t l c)]) ∧ Own w' w.heap.size 34 Chg.cells 3 (.slice A (addL t l c).length cp) (addL t l c) ∧ Below w.heap.size w w'
theorem addL_no {t : Tab} {l : List Chg} {c : Chg} {v : Int} (h : addE t l c = v) (hv : v ≠ 0) : addL t l c = [] := by unfold addL; rw [if_neg (by omega)]
theorem addL_yes {t : Tab} {l : List Chg} {c : Chg} (h : addE t l c = 0) : addL t l c = putC l c := by unfold addL; rw [if_pos h]
theorem putC_len {l : List Chg} {c : Chg} : (putC l c).length ≤ l.length + 1 := by
  unfold putC
  rw [List.length_append, List.length_cons]
  have h1 := List.length_filter_le (fun x : Chg => decide (x.f < c.f)) l
  have : (l.filter (fun x => decide (x.f < c.f))).length + (l.filter (fun x => decide (c.f < x.f))).length ≤ l.length := by
    induction l with
    | nil => simp
    | cons a r ih =>
      have ih := ih (List.length_filter_le _ _)
      simp only [List.filter_cons, List.length_cons]
      by_cases e1 : a.f < c.f
      · have e2 : ¬ c.f < a.f := by omega
        simp [e1, e2]; omega
      · by_cases e2 : c.f < a.f
        · simp [e1, e2]; omega
        · simp [e1, e2]; omega
  omega
set_option maxRecDepth 100000 in
set_option maxHeartbeats 32000000 in
theorem add_any (t : Tab) (A : Option Addr) (c : Nat) (l : List Chg) (x : Chg) (n : Nat) (w : World) (hn : n = l.length) (ht : Tab.ok w t) (ha : Slc w Chg.cells 3 A l) (hl : l.length ≤ 1000) (hao : ∀ y ∈ l, Chg.ok w y) (hx : Chg.ok w x) :
    Calls Tryz.prog 8 #[t.v, .agg #[.slice A n c], x.v] w (AddR w t l x) := by
  obtain ⟨W, hW⟩ : ∃ W, (((w.alloc (.cells #[.int .i64 t.n, .slice t.ss.A t.ss.l.length t.ss.c, .slice t.cs.A t.cs.l.length t.cs.c, .slice t.ws.A t.ws.l.length t.ws.c, .slice t.ms.A t.ms.l.length t.ms.c, .slice t.ks.A t.ks.l.length t.ks.c] 28)).alloc (.cells #[.slice A n c] 31)).alloc (.cells #[.int .i64 x.f, .int .i64 x.cfg, .slice x.ms.A x.ms.l.length x.ms.c] 34)).alloc (.cells #[.slice none 0 0] 31) = W := ⟨_, rfl⟩
  have hz : W.heap.size = w.heap.size + 4 := by rw [← hW]; simp
  have HB : Hid (Blk W w.heap.size t.cells) := by rw [← hW]; exact (((Blk.newH w t.cells 28 w.heap.size rfl).alloc _).alloc _).alloc _
  have HS : Hid (Blk W (w.heap.size + 1) [.slice A n c]) := by rw [← hW]; exact ((Blk.newH (w.alloc _) [.slice A n c] 31 (w.heap.size + 1) (by simp)).alloc _).alloc _
  have HC : Hid (Blk W (w.heap.size + 1 + 1) x.cells) := by rw [← hW]; exact (Blk.newH ((w.alloc _).alloc _) x.cells 34 (w.heap.size + 1 + 1) (by simp)).alloc _
  have HZ : Hid (Blk W (w.heap.size + 1 + 1 + 1) [.slice none 0 0]) := by rw [← hW]; exact Blk.newH (((w.alloc _).alloc _).alloc _) [.slice none 0 0] 31 (w.heap.size + 1 + 1 + 1) (by simp)
  have HE : Hid (Below w.heap.size w W) := by rw [← hW]; exact ext_alloc (ext_alloc (ext_alloc (ext_alloc (ext_refl w) _) _) _) _
  have HT := Lib.hid (ht.ext HE.out)
  have HA := Lib.hid (ha.ext HE.out)
  have HAO : Hid (∀ y ∈ l, Chg.ok W y) := fun y hy => (hao y hy).ext HE.out
  have HXO := Lib.hid (hx.ext HE.out)
  have HD : Hid (addE t l x = if chkT t ≠ 0 then chkT t else if (l ≠ [] ∧ vldS t l = false) ∨ fitsB t x = false ∨ (l = [] ∧ x.f ≠ 0) then 190 else 0) := rfl
  have HNN := Lib.hid hn
  clear ht ha hao hx hn
  have b0 := HB.out.c 0 _ rfl
  have b1 := HB.out.c 1 _ rfl
  have b2 := HB.out.c 2 _ rfl
  have b3 := HB.out.c 3 _ rfl
  have b4 := HB.out.c 4 _ rfl
  have b5 := HB.out.c 5 _ rfl
  have s0 := HS.out.c 0 _ rfl
  have c0 := HC.out.c 0 _ rfl
  have c1 := HC.out.c 1 _ rfl
  have c2 := HC.out.c 2 _ rfl
  have z0 := HZ.out.c 0 _ rfl
  have zf := HZ.out.f
  have zl := HZ.out.lt
  go_enter Tryz.func8, Tryz.ntmps8
  go_wp2_with fail
  clear hW
  clear b0 b1 b2 b3 b4 b5 s0 c0 c1 c2 z0 zf zl
  obtain ⟨v, hv⟩ : ∃ v, chkT t = v := ⟨_, rfl⟩
  rw [hv] at HD
  refine (achk_at v hv HT.out).mono ?_
  rintro e w1 ⟨rfl, B⟩
  have HE1 := Lib.hid (ext_trans HE.out B)
  have HB1 := Lib.hid (HB.out.ext B)
  have HS1 := Lib.hid (HS.out.ext B)
  have HC1 := Lib.hid (HC.out.ext B)
  have HZ1 := Lib.hid (HZ.out.ext B)
  have HT1 := Lib.hid (HT.out.ext B)
  have HA1 := Lib.hid (HA.out.ext B)
  have HAO1 : Hid (∀ y ∈ l, Chg.ok w1 y) := fun y hy => (HAO.out y hy).ext B
  have HXO1 := Lib.hid (HXO.out.ext B)
  have hz1 := B.size
  clear HE HB HS HC HZ HT HA HAO HXO B hv
  have b0 := HB1.out.c 0 _ rfl
  have b1 := HB1.out.c 1 _ rfl
  have b2 := HB1.out.c 2 _ rfl
  have b3 := HB1.out.c 3 _ rfl
  have b4 := HB1.out.c 4 _ rfl
  have b5 := HB1.out.c 5 _ rfl
  have s0 := HS1.out.c 0 _ rfl
  have c0 := HC1.out.c 0 _ rfl
  have c1 := HC1.out.c 1 _ rfl
  have c2 := HC1.out.c 2 _ rfl
  have z0 := HZ1.out.c 0 _ rfl
  have zf := HZ1.out.f
  have zl := HZ1.out.lt
  by_cases h1 : v = 0
  rotate_left
  · have e1 : (v != 0) = true := by simpa using h1
    rw [if_pos h1] at HD
    have HL := Lib.hid (addL_no HD.out h1)
    clear h1
    have ZP := HZ1.out.set (j := 0) (by simp) (.slice none 0 0)
    have ZE := Lib.hid (below_set HE1.out ⟨w.heap.size + 1 + 1 + 1, 0, none⟩ (.slice none 0 0) (by show _ ≤ w.heap.size + 1 + 1 + 1; omega))
    have p0 := ZP.c 0 _ rfl
    clear ZP
    go_wp2_with fail
    refine bodyPost_ret (v := .tuple #[.agg #[.slice none 0 0], .int .i64 v]) (by simp [results, Tryz.results8, go_sem, p0]) rfl ?_
    unfold AddR
    rw [HL.out, HD.out]
    exact ⟨none, 0, rfl, Own.nil _ _ _ _ _, ZE.out⟩
  subst h1
  rw [if_neg (by simp)] at HD
  by_cases h2 : n = 0
  · have H2 : Hid (l = []) := List.eq_nil_of_length_eq_zero (by have := HNN.out; omega)
    subst h2
    go_wp2_with fail
    cases hf : fitsB t x
    · refine (fits_at false hf HT1.out HXO1.out).mono ?_
      rintro e w2 ⟨rfl, B⟩
      have HZ2 := Lib.hid (HZ1.out.ext B)
      have HE2 := Lib.hid (ext_trans HE1.out B)
      rw [hf, if_pos (.inr (.inl rfl))] at HD
      have HL := Lib.hid (addL_no HD.out (by decide))
      clear b0 b1 b2 b3 b4 b5 s0 c0 c1 c2 z0 zf zl
      have z0 := HZ2.out.c 0 _ rfl
      have zf := HZ2.out.f
      have zl := HZ2.out.lt
      have ZP := HZ2.out.set (j := 0) (by simp) (.slice none 0 0)
      have ZE := Lib.hid (below_set HE2.out ⟨w.heap.size + 1 + 1 + 1, 0, none⟩ (.slice none 0 0) (by show _ ≤ w.heap.size + 1 + 1 + 1; omega))
      have p0 := ZP.c 0 _ rfl
      clear ZP
      go_wp2_with fail
      refine bodyPost_ret (v := .tuple #[.agg #[.slice none 0 0], .int .i64 190]) (by simp [results, Tryz.results8, go_sem, p0]) rfl ?_
      unfold AddR
      rw [HL.out, HD.out]
      exact ⟨none, 0, rfl, Own.nil _ _ _ _ _, ZE.out⟩
    refine (fits_at true hf HT1.out HXO1.out).mono ?_
    rintro e w2 ⟨rfl, B⟩
    have HZ2 := Lib.hid (HZ1.out.ext B)
    have HE2 := Lib.hid (ext_trans HE1.out B)
    have HC2 := Lib.hid (HC1.out.ext B)
    have HS2 := Lib.hid (HS1.out.ext B)
    have HA2 := Lib.hid (HA1.out.ext B)
    have hz2 := B.size
    clear b0 b1 b2 b3 b4 b5 s0 c0 c1 c2 z0 zf zl
    have z0 := HZ2.out.c 0 _ rfl
    have zf := HZ2.out.f
    have zl := HZ2.out.lt
    have s0 := HS2.out.c 0 _ rfl
    have c0 := HC2.out.c 0 _ rfl
    have c1 := HC2.out.c 1 _ rfl
    have c2 := HC2.out.c 2 _ rfl
    rw [hf] at HD
    by_cases h3 : x.f = 0
    rotate_left
    · have e3 : (x.f != 0) = true := by simpa using h3
      rw [if_pos (.inr (.inr ⟨H2.out, h3⟩))] at HD
      have HL := Lib.hid (addL_no HD.out (by decide))
      clear h3
      have ZP := HZ2.out.set (j := 0) (by simp) (.slice none 0 0)
      have ZE := Lib.hid (below_set HE2.out ⟨w.heap.size + 1 + 1 + 1, 0, none⟩ (.slice none 0 0) (by show _ ≤ w.heap.size + 1 + 1 + 1; omega))
      have p0 := ZP.c 0 _ rfl
      clear ZP
      go_wp2_with fail
      refine bodyPost_ret (v := .tuple #[.agg #[.slice none 0 0], .int .i64 190]) (by simp [results, Tryz.results8, go_sem, p0]) rfl ?_
      unfold AddR
      rw [HL.out, HD.out]
      exact ⟨none, 0, rfl, Own.nil _ _ _ _ _, ZE.out⟩
    have e3 : (x.f != 0) = false := by simpa using h3
    rw [if_neg (by rw [H2.out]; simp [h3])] at HD
    have HINC := Lib.hid (add_inc (t := t) (.inl H2.out))
    clear h3 hf
    go_wp2_with fail
    have HL := Lib.hid (addL_yes HD.out)
    refine (clone_any A c 0 l _ HNN.out HA2.out (by omega)).mono ?_
    rintro e w3 ⟨A1, c1', rfl, hO, B3⟩
    have HO := Lib.hid hO
    have HZ3 := Lib.hid (HZ2.out.ext B3)
    have HC3 := Lib.hid (HC2.out.ext B3)
    have HE3 := Lib.hid (ext_trans HE2.out B3)
    have hz3 := B3.size
    have HB3 := Lib.hid B3
    clear hO B3 z0 zf zl s0 c0 c1 c2
    have c0 := HC3.out.c 0 _ rfl
    have c1 := HC3.out.c 1 _ rfl
    have c2 := HC3.out.c 2 _ rfl
    have cl := HC3.out.lt
    go_wp2_with fail
    refine (bsearch_any x.f A1 c1' l _ (HO.out.slc (sz := 3) (fun _ => rfl) (by decide)) (by omega) HINC.out).mono ?_
    rintro e w4 ⟨k, r, rfl, hcut, hmet, B4⟩
    have HCUT := Lib.hid hcut
    have HMET := Lib.hid hmet
    have HO4 := Lib.hid (HO.out.ext B4)
    have HZ4 := Lib.hid (HZ3.out.ext B4)
    have HC4 := Lib.hid (HC3.out.ext B4)
    have HE4 := Lib.hid (ext_trans HE3.out B4)
    have HB4 := Lib.hid (ext_trans HB3.out B4)
    have hz4 := B4.size
    have hk := hcut.1
    clear hcut hmet B4 c0 c1 c2 cl HO HZ3 HC3 HE3 HB3
    have c0 := HC4.out.c 0 _ rfl
    have c1 := HC4.out.c 1 _ rfl
    have c2 := HC4.out.c 2 _ rfl
    have cl := HC4.out.lt
    cases r
    · have HP := Lib.hid (put_new HINC.out HCUT.out (fun q => by have := HMET.out.2 q; cases this))
      have hv : (w4.alloc (.cells #[.int .i64 x.f, .int .i64 x.cfg, .slice x.ms.A x.ms.l.length x.ms.c] 34)).heap[w4.heap.size]? = some (.cells (Chg.cells x).toArray 34 (0, 0)) := heap_alloc_new w4 _
      have HI := Lib.hid (insertChg w2 (w4.alloc (.cells #[.int .i64 x.f, .int .i64 x.cfg, .slice x.ms.A x.ms.l.length x.ms.c] 34)) A1 _ c1' l k x w4.heap.size rfl hk (HO4.out.alloc _) (ext_alloc HB4.out _) (by omega) hv (fun g hg => by have := (HO4.out.lt g hg).1; omega))
      have HZ5 := Lib.hid (HZ4.out.alloc (.cells #[.int .i64 x.f, .int .i64 x.cfg, .slice x.ms.A x.ms.l.length x.ms.c] 34))
      clear hv
      go_wp2_with fail
      refine HI.out.mono ?_
      rintro e w6 ⟨A6, c6, rfl, hO6, hE6⟩
      have HZ6 := Lib.hid (HZ2.out.ext hE6)
      have z0 := HZ6.out.c 0 _ rfl
      have zf := HZ6.out.f
      have zl := HZ6.out.lt
      have ZP := HZ6.out.set (j := 0) (by simp) (.slice A6 (l.length + 1) c6)
      have ZE := Lib.hid (below_set (ext_trans HE2.out hE6) ⟨w.heap.size + 1 + 1 + 1, 0, none⟩ (.slice A6 (l.length + 1) c6) (by show _ ≤ w.heap.size + 1 + 1 + 1; omega))
      have HO7 := Lib.hid (hO6.far_set (p := ⟨w.heap.size + 1 + 1 + 1, 0, none⟩) (u := .slice A6 (l.length + 1) c6) (by show w.heap.size + 1 + 1 + 1 < _; omega))
      have p0 := ZP.c 0 _ rfl
      clear ZP hO6 hE6 c0 c1 c2 cl HI
      go_wp2_with fail
      refine bodyPost_ret (v := .tuple #[.agg #[.slice A6 (l.length + 1) c6], .int .i64 0]) (by simp [results, Tryz.results8, go_sem, p0]) rfl ?_
      have hlen : (putC l x).length = l.length + 1 := by rw [HP.out]; simp; omega
      unfold AddR
      rw [HL.out, HD.out, hlen, HP.out]
      exact ⟨A6, c6, rfl, HO7.out.low (by omega), ZE.out⟩
    · have hmt := HMET.out.1 rfl
      have HP := Lib.hid (put_met HINC.out HCUT.out hmt)
      obtain ⟨y, hy, _⟩ := hmt
      have hkl := (List.getElem?_eq_some_iff.1 hy).1
      have hkl' : (k : Int) < l.length := by omega
      obtain ⟨g, cp, cur0, hAA, _, _, _, _⟩ := HO4.out.some_ (by omega)
      injection hAA with hA1 _ hcc
      subst hA1 hcc
      obtain ⟨_, hbg, hgl, hlc, hcm, cur, hg, hcz, hct⟩ := HO4.out.row
      have hcf := HO4.out.frozen
      obtain ⟨y2, gg, oo, hy2, eA, hgg, hcy⟩ := (HO4.out.slc (sz := 3) (fun _ => rfl) (by decide)).at_ hkl
      cases eA
      have r0 := hcy 0 _ rfl
      have r1 := hcy 1 _ rfl
      have r2 := hcy 2 _ rfl
      simp only [Nat.zero_add, Nat.add_zero] at r0 r1 r2
      have hfit : k * 3 + 3 ≤ cur.length := by rw [hcz]; omega
      have hOP := own_put chI.hl hbg hcm hlc hcz hct (i := k) (x := x) hkl (put_atChg x hg hfit)
      have HO5 := Lib.hid hOP
      have HZ5 := Lib.hid (((HZ4.out.other (p := ⟨g, k * 3, none⟩) (.int .i64 x.f) (by show g ≠ _; omega)).other (p := ⟨g, k * 3 + 1, none⟩) (.int .i64 x.cfg) (by show g ≠ _; omega)).other (p := ⟨g, k * 3 + 2, none⟩) (.slice x.ms.A x.ms.l.length x.ms.c) (by show g ≠ _; omega))
      have HE5 := Lib.hid (below_set (below_set (below_set HE4.out ⟨g, k * 3, none⟩ (.int .i64 x.f) (by show _ ≤ g; omega)) ⟨g, k * 3 + 1, none⟩ (.int .i64 x.cfg) (by show _ ≤ g; omega)) ⟨g, k * 3 + 2, none⟩ (.slice x.ms.A x.ms.l.length x.ms.c) (by show _ ≤ g; omega))
      clear hcy hy hy2 hct hcz hg hOP
      have z0 := HZ5.out.c 0 _ rfl
      have zf := HZ5.out.f
      have zl := HZ5.out.lt
      have y0 := HZ4.out.c 0 _ rfl
      have yf := HZ4.out.f
      have yl := HZ4.out.lt
      have ZP := HZ5.out.set (j := 0) (by simp) (.slice (some ⟨g, 0, none⟩) l.length c1')
      have ZE := Lib.hid (below_set HE5.out ⟨w.heap.size + 1 + 1 + 1, 0, none⟩ (.slice (some ⟨g, 0, none⟩) l.length c1') (by show _ ≤ w.heap.size + 1 + 1 + 1; omega))
      have HO7 := Lib.hid (HO5.out.far_set (p := ⟨w.heap.size + 1 + 1 + 1, 0, none⟩) (u := .slice (some ⟨g, 0, none⟩) l.length c1') (by show w.heap.size + 1 + 1 + 1 < _; omega))
      have p0 := ZP.c 0 _ rfl
      have hng : w.heap.size + 1 + 1 + 1 ≠ g := by omega
      clear ZP
      go_wp2_with fail
      refine bodyPost_ret (v := .tuple #[.agg #[.slice (some ⟨g, 0, none⟩) l.length c1'], .int .i64 0]) (by simp [results, Tryz.results8, go_sem, p0]) rfl ?_
      have hlen : (putC l x).length = l.length := by rw [HP.out]; simp
      unfold AddR
      rw [HL.out, HD.out, hlen, HP.out]
      exact ⟨_, c1', rfl, HO7.out.low (by omega), ZE.out⟩
  · have h2p : 0 < n := by omega
    have HNE : Hid (l ≠ []) := fun q => h2 (by rw [HNN.out, q]; rfl)
    go_wp2_with fail
    cases hr : vldS t l
    · refine (valid_at false hr HNN.out HT1.out HA1.out (by unfold maxLen; omega) HAO1.out).mono ?_
      rintro e w2 ⟨rfl, B⟩
      have HZ2 := Lib.hid (HZ1.out.ext B)
      have HE2 := Lib.hid (ext_trans HE1.out B)
      rw [hr, if_pos (.inl ⟨HNE.out, rfl⟩)] at HD
      have HL := Lib.hid (addL_no HD.out (by decide))
      clear b0 b1 b2 b3 b4 b5 s0 c0 c1 c2 z0 zf zl
      have z0 := HZ2.out.c 0 _ rfl
      have zf := HZ2.out.f
      have zl := HZ2.out.lt
      have ZP := HZ2.out.set (j := 0) (by simp) (.slice none 0 0)
      have ZE := Lib.hid (below_set HE2.out ⟨w.heap.size + 1 + 1 + 1, 0, none⟩ (.slice none 0 0) (by show _ ≤ w.heap.size + 1 + 1 + 1; omega))
      have p0 := ZP.c 0 _ rfl
      clear ZP
      go_wp2_with fail
      refine bodyPost_ret (v := .tuple #[.agg #[.slice none 0 0], .int .i64 190]) (by simp [results, Tryz.results8, go_sem, p0]) rfl ?_
      unfold AddR
      rw [HL.out, HD.out]
      exact ⟨none, 0, rfl, Own.nil _ _ _ _ _, ZE.out⟩
    refine (valid_at true hr HNN.out HT1.out HA1.out (by unfold maxLen; omega) HAO1.out).mono ?_
    rintro e w1b ⟨rfl, Bb⟩
    have HINC := Lib.hid (add_inc (.inr hr))
    have HE1b := Lib.hid (ext_trans HE1.out Bb)
    have HB1b := Lib.hid (HB1.out.ext Bb)
    have HS1b := Lib.hid (HS1.out.ext Bb)
    have HC1b := Lib.hid (HC1.out.ext Bb)
    have HZ1b := Lib.hid (HZ1.out.ext Bb)
    have HT1b := Lib.hid (HT1.out.ext Bb)
    have HA1b := Lib.hid (HA1.out.ext Bb)
    have HXO1b := Lib.hid (HXO1.out.ext Bb)
    have hz1b := Bb.size
    clear b0 b1 b2 b3 b4 b5 s0 c0 c1 c2 z0 zf zl
    clear HE1 HB1 HS1 HC1 HZ1 HT1 HA1 HAO1 HXO1 Bb
    have b0 := HB1b.out.c 0 _ rfl
    have b1 := HB1b.out.c 1 _ rfl
    have b2 := HB1b.out.c 2 _ rfl
    have b3 := HB1b.out.c 3 _ rfl
    have b4 := HB1b.out.c 4 _ rfl
    have b5 := HB1b.out.c 5 _ rfl
    have s0 := HS1b.out.c 0 _ rfl
    have c0 := HC1b.out.c 0 _ rfl
    have c1 := HC1b.out.c 1 _ rfl
    have c2 := HC1b.out.c 2 _ rfl
    have z0 := HZ1b.out.c 0 _ rfl
    have zf := HZ1b.out.f
    have zl := HZ1b.out.lt
    go_wp2_with fail
    cases hf : fitsB t x
    · refine (fits_at false hf HT1b.out HXO1b.out).mono ?_
      rintro e w2 ⟨rfl, B⟩
      have HZ2 := Lib.hid (HZ1b.out.ext B)
      have HE2 := Lib.hid (ext_trans HE1b.out B)
      rw [hf, if_pos (.inr (.inl rfl))] at HD
      have HL := Lib.hid (addL_no HD.out (by decide))
      clear b0 b1 b2 b3 b4 b5 s0 c0 c1 c2 z0 zf zl
      have z0 := HZ2.out.c 0 _ rfl
      have zf := HZ2.out.f
      have zl := HZ2.out.lt
      have ZP := HZ2.out.set (j := 0) (by simp) (.slice none 0 0)
      have ZE := Lib.hid (below_set HE2.out ⟨w.heap.size + 1 + 1 + 1, 0, none⟩ (.slice none 0 0) (by show _ ≤ w.heap.size + 1 + 1 + 1; omega))
      have p0 := ZP.c 0 _ rfl
      clear ZP
      go_wp2_with fail
      refine bodyPost_ret (v := .tuple #[.agg #[.slice none 0 0], .int .i64 190]) (by simp [results, Tryz.results8, go_sem, p0]) rfl ?_
      unfold AddR
      rw [HL.out, HD.out]
      exact ⟨none, 0, rfl, Own.nil _ _ _ _ _, ZE.out⟩
    refine (fits_at true hf HT1b.out HXO1b.out).mono ?_
    rintro e w2 ⟨rfl, B⟩
    have HZ2 := Lib.hid (HZ1b.out.ext B)
    have HE2 := Lib.hid (ext_trans HE1b.out B)
    have HC2 := Lib.hid (HC1b.out.ext B)
    have HS2 := Lib.hid (HS1b.out.ext B)
    have HA2 := Lib.hid (HA1b.out.ext B)
    have hz2 := B.size
    clear b0 b1 b2 b3 b4 b5 s0 c0 c1 c2 z0 zf zl
    have z0 := HZ2.out.c 0 _ rfl
    have zf := HZ2.out.f
    have zl := HZ2.out.lt
    have s0 := HS2.out.c 0 _ rfl
    have c0 := HC2.out.c 0 _ rfl
    have c1 := HC2.out.c 1 _ rfl
    have c2 := HC2.out.c 2 _ rfl
    rw [hf, hr, if_neg (by simp [HNE.out])] at HD
    have e4 : ((n : Int) == 0) = false := by simp; omega
    clear hf hr
    go_wp2_with fail
    have HL := Lib.hid (addL_yes HD.out)
    refine (clone_any A c n l _ HNN.out HA2.out (by omega)).mono ?_
    rintro e w3 ⟨A1, c1', rfl, hO, B3⟩
    have HO := Lib.hid hO
    have HZ3 := Lib.hid (HZ2.out.ext B3)
    have HC3 := Lib.hid (HC2.out.ext B3)
    have HE3 := Lib.hid (ext_trans HE2.out B3)
    have hz3 := B3.size
    have HB3 := Lib.hid B3
    clear hO B3 z0 zf zl s0 c0 c1 c2
    have c0 := HC3.out.c 0 _ rfl
    have c1 := HC3.out.c 1 _ rfl
    have c2 := HC3.out.c 2 _ rfl
    have cl := HC3.out.lt
    go_wp2_with fail
    refine (bsearch_any x.f A1 c1' l _ (HO.out.slc (sz := 3) (fun _ => rfl) (by decide)) (by omega) HINC.out).mono ?_
    rintro e w4 ⟨k, r, rfl, hcut, hmet, B4⟩
    have HCUT := Lib.hid hcut
    have HMET := Lib.hid hmet
    have HO4 := Lib.hid (HO.out.ext B4)
    have HZ4 := Lib.hid (HZ3.out.ext B4)
    have HC4 := Lib.hid (HC3.out.ext B4)
    have HE4 := Lib.hid (ext_trans HE3.out B4)
    have HB4 := Lib.hid (ext_trans HB3.out B4)
    have hz4 := B4.size
    have hk := hcut.1
    clear hcut hmet B4 c0 c1 c2 cl HO HZ3 HC3 HE3 HB3
    have c0 := HC4.out.c 0 _ rfl
    have c1 := HC4.out.c 1 _ rfl
    have c2 := HC4.out.c 2 _ rfl
    have cl := HC4.out.lt
    cases r
    · have HP := Lib.hid (put_new HINC.out HCUT.out (fun q => by have := HMET.out.2 q; cases this))
      have hv : (w4.alloc (.cells #[.int .i64 x.f, .int .i64 x.cfg, .slice x.ms.A x.ms.l.length x.ms.c] 34)).heap[w4.heap.size]? = some (.cells (Chg.cells x).toArray 34 (0, 0)) := heap_alloc_new w4 _
      have HI := Lib.hid (insertChg w2 (w4.alloc (.cells #[.int .i64 x.f, .int .i64 x.cfg, .slice x.ms.A x.ms.l.length x.ms.c] 34)) A1 _ c1' l k x w4.heap.size rfl hk (HO4.out.alloc _) (ext_alloc HB4.out _) (by omega) hv (fun g hg => by have := (HO4.out.lt g hg).1; omega))
      have HZ5 := Lib.hid (HZ4.out.alloc (.cells #[.int .i64 x.f, .int .i64 x.cfg, .slice x.ms.A x.ms.l.length x.ms.c] 34))
      clear hv
      go_wp2_with fail
      refine HI.out.mono ?_
      rintro e w6 ⟨A6, c6, rfl, hO6, hE6⟩
      have HZ6 := Lib.hid (HZ2.out.ext hE6)
      have z0 := HZ6.out.c 0 _ rfl
      have zf := HZ6.out.f
      have zl := HZ6.out.lt
      have ZP := HZ6.out.set (j := 0) (by simp) (.slice A6 (l.length + 1) c6)
      have ZE := Lib.hid (below_set (ext_trans HE2.out hE6) ⟨w.heap.size + 1 + 1 + 1, 0, none⟩ (.slice A6 (l.length + 1) c6) (by show _ ≤ w.heap.size + 1 + 1 + 1; omega))
      have HO7 := Lib.hid (hO6.far_set (p := ⟨w.heap.size + 1 + 1 + 1, 0, none⟩) (u := .slice A6 (l.length + 1) c6) (by show w.heap.size + 1 + 1 + 1 < _; omega))
      have p0 := ZP.c 0 _ rfl
      clear ZP hO6 hE6 c0 c1 c2 cl HI
      go_wp2_with fail
      refine bodyPost_ret (v := .tuple #[.agg #[.slice A6 (l.length + 1) c6], .int .i64 0]) (by simp [results, Tryz.results8, go_sem, p0]) rfl ?_
      have hlen : (putC l x).length = l.length + 1 := by rw [HP.out]; simp; omega
      unfold AddR
      rw [HL.out, HD.out, hlen, HP.out]
      exact ⟨A6, c6, rfl, HO7.out.low (by omega), ZE.out⟩
    · have hmt := HMET.out.1 rfl
      have HP := Lib.hid (put_met HINC.out HCUT.out hmt)
      obtain ⟨y, hy, _⟩ := hmt
      have hkl := (List.getElem?_eq_some_iff.1 hy).1
      have hkl' : (k : Int) < l.length := by omega
      obtain ⟨g, cp, cur0, hAA, _, _, _, _⟩ := HO4.out.some_ (by omega)
      injection hAA with hA1 _ hcc
      subst hA1 hcc
      obtain ⟨_, hbg, hgl, hlc, hcm, cur, hg, hcz, hct⟩ := HO4.out.row
      have hcf := HO4.out.frozen
      obtain ⟨y2, gg, oo, hy2, eA, hgg, hcy⟩ := (HO4.out.slc (sz := 3) (fun _ => rfl) (by decide)).at_ hkl
      cases eA
      have r0 := hcy 0 _ rfl
      have r1 := hcy 1 _ rfl
      have r2 := hcy 2 _ rfl
      simp only [Nat.zero_add, Nat.add_zero] at r0 r1 r2
      have hfit : k * 3 + 3 ≤ cur.length := by rw [hcz]; omega
      have hOP := own_put chI.hl hbg hcm hlc hcz hct (i := k) (x := x) hkl (put_atChg x hg hfit)
      have HO5 := Lib.hid hOP
      have HZ5 := Lib.hid (((HZ4.out.other (p := ⟨g, k * 3, none⟩) (.int .i64 x.f) (by show g ≠ _; omega)).other (p := ⟨g, k * 3 + 1, none⟩) (.int .i64 x.cfg) (by show g ≠ _; omega)).other (p := ⟨g, k * 3 + 2, none⟩) (.slice x.ms.A x.ms.l.length x.ms.c) (by show g ≠ _; omega))
      have HE5 := Lib.hid (below_set (below_set (below_set HE4.out ⟨g, k * 3, none⟩ (.int .i64 x.f) (by show _ ≤ g; omega)) ⟨g, k * 3 + 1, none⟩ (.int .i64 x.cfg) (by show _ ≤ g; omega)) ⟨g, k * 3 + 2, none⟩ (.slice x.ms.A x.ms.l.length x.ms.c) (by show _ ≤ g; omega))
      clear hcy hy hy2 hct hcz hg hOP
      have z0 := HZ5.out.c 0 _ rfl
      have zf := HZ5.out.f
      have zl := HZ5.out.lt
      have y0 := HZ4.out.c 0 _ rfl
      have yf := HZ4.out.f
      have yl := HZ4.out.lt
      have ZP := HZ5.out.set (j := 0) (by simp) (.slice (some ⟨g, 0, none⟩) l.length c1')
      have ZE := Lib.hid (below_set HE5.out ⟨w.heap.size + 1 + 1 + 1, 0, none⟩ (.slice (some ⟨g, 0, none⟩) l.length c1') (by show _ ≤ w.heap.size + 1 + 1 + 1; omega))
      have HO7 := Lib.hid (HO5.out.far_set (p := ⟨w.heap.size + 1 + 1 + 1, 0, none⟩) (u := .slice (some ⟨g, 0, none⟩) l.length c1') (by show w.heap.size + 1 + 1 + 1 < _; omega))
      have p0 := ZP.c 0 _ rfl
      have hng : w.heap.size + 1 + 1 + 1 ≠ g := by omega
      clear ZP
      go_wp2_with fail
      refine bodyPost_ret (v := .tuple #[.agg #[.slice (some ⟨g, 0, none⟩) l.length c1'], .int .i64 0]) (by simp [results, Tryz.results8, go_sem, p0]) rfl ?_
      have hlen : (putC l x).length = l.length := by rw [HP.out]; simp
      unfold AddR
      rw [HL.out, HD.out, hlen, HP.out]
      exact ⟨_, c1', rfl, HO7.out.low (by omega), ZE.out⟩
theorem add_at {t : Tab} {A : Option Addr} {n c : Nat} {l : List Chg} {x : Chg} {w : World} (hn : n = l.length) (ht : Tab.ok w t) (ha : Slc w Chg.cells 3 A l) (hl : l.length ≤ 1000) (hao : ∀ y ∈ l, Chg.ok w y) (hx : Chg.ok w x) :
    Calls Tryz.prog 8 #[t.v, .agg #[.slice A n c], x.v] w (AddR w t l x) := by
  exact add_any t A c l x n w hn ht ha hl hao hx
end Go.Proofs.YtilocjliplmmpaaGreat

