/- slices.DeleteFunc at credits. -/
import Derived.Test.YtafglcalimcdcaaI
import Derived.Test.YtafglcalimcdcaaDel
set_option linter.unusedSimpArgs false
set_option linter.unusedVariables false
namespace Go.Proofs.Ytafglcalimcdcaa
open Go.RowKit
theorem put_atCr {W : World} {g0 i : Nat} {cur : List Value} (x : Cr) (hg : W.heap[g0]? = some (.cells cur.toArray 24 (0, 0))) (hi : i * 3 + 3 ≤ cur.length) :
    (((W.setCell ⟨g0, i * 3, none⟩ (.int .i64 x.a)).setCell ⟨g0, i * 3 + 1, none⟩ (.int .i64 x.m)).setCell ⟨g0, i * 3 + 2, none⟩ (.int .i64 x.u)).heap[g0]? = some (.cells (splice cur (i * 3) (Cr.cells x)).toArray 24 (0, 0)) := by
  have h := (row_set (row_set (row_set hg (i * 3) (.int .i64 x.a)) (i * 3 + 1) (.int .i64 x.m)) (i * 3 + 2) (.int .i64 x.u))
  have e : splice cur (i * 3) (Cr.cells x) = (((cur).set (i * 3) (.int .i64 x.a)).set (i * 3 + 1) (.int .i64 x.m)).set (i * 3 + 2) (.int .i64 x.u) := by
    unfold Cr.cells
    rw [← splice_set _ _ _ _ (by first | omega | (simp; omega))]; rw [← splice_set _ _ _ _ (by first | omega | (simp; omega))]; rw [← splice_set _ _ _ _ (by first | omega | (simp; omega))]; rw [splice_nil]
  rw [e]; exact h
theorem zeroCr (w : World) : (zeroValue 24).run Try.prog w = .ok (.agg #[.int .i64 0,.int .i64 0,.int .i64 0]) w := by kernel_rfl
theorem filt_take {l : List Cr} {q : Cr → Bool} {j : Nat} {x : Cr} (hx : l[j]? = some x) : (l.take (j + 1)).filter q = (l.take j).filter q ++ (if q x then [x] else []) := by
  rw [List.take_add_one, hx, Option.toList_some, List.filter_append]; congr 1
  by_cases h : q x = true <;> simp [h]
theorem filt_len (l : List Cr) (q : Cr → Bool) (j : Nat) : ((l.take j).filter q).length ≤ j := Nat.le_trans (List.length_filter_le _ _) (by rw [List.length_take]; omega)
/-- The row while DeleteFunc runs: what was kept stands ahead, what is to come stands behind. -/
structure Mid (W : World) (base g0 c : Nat) (l : List Cr) (q : Cr → Bool) (j : Nat) (m : List Cr) : Prop where
  own : Own W base 24 Cr.cells 3 (.slice (some ⟨g0, 0, none⟩) l.length c) m
  len : m.length = l.length
  kept : m.take ((l.take j).filter q).length = (l.take j).filter q
  come : m.drop j = l.drop j
theorem Mid.ext {W W' : World} {base g0 c : Nat} {l : List Cr} {q : Cr → Bool} {j : Nat} {m : List Cr} (h : Mid W base g0 c l q j m) (hb : Below W.heap.size W W') : Mid W' base g0 c l q j m := ⟨h.own.ext hb, h.len, h.kept, h.come⟩
theorem Mid.at_ {W : World} {base g0 c : Nat} {l : List Cr} {q : Cr → Bool} {j : Nat} {m : List Cr} (h : Mid W base g0 c l q j m) : m[j]? = l[j]? := by
  have := congrArg (fun l => l[0]?) h.come
  simpa [List.getElem?_drop] using this
theorem Mid.no {W : World} {base g0 c : Nat} {l : List Cr} {q : Cr → Bool} {j : Nat} {m : List Cr} {x : Cr} (h : Mid W base g0 c l q j m) (hx : l[j]? = some x) (hq : q x = false) : Mid W base g0 c l q (j + 1) m := by
  have e : (l.take (j + 1)).filter q = (l.take j).filter q := by rw [filt_take hx, hq]; simp
  refine ⟨h.own, h.len, by rw [e]; exact h.kept, ?_⟩
  rw [← List.tail_drop, h.come, List.tail_drop]
theorem Mid.yes {W W' : World} {base g0 c : Nat} {l : List Cr} {q : Cr → Bool} {j : Nat} {m : List Cr} {x : Cr} (h : Mid W base g0 c l q j m) (hx : l[j]? = some x) (hq : q x = true)
    (hw : ∀ cur : List Value, W.heap[g0]? = some (.cells cur.toArray 24 (0, 0)) → ((l.take j).filter q).length * 3 + 3 ≤ cur.length → W'.heap[g0]? = some (.cells (splice cur (((l.take j).filter q).length * 3) (Cr.cells x)).toArray 24 (0, 0))) : Mid W' base g0 c l q (j + 1) (m.set ((l.take j).filter q).length x) := by
  have hjl : j < l.length := (List.getElem?_eq_some_iff.1 hx).1
  have hij := filt_len l q j
  have hml := h.len
  obtain ⟨_, hb, _, hlc, hcm, cur, hg, hcz, hct⟩ := h.own.row
  have hfit : (((l.take j).filter q).length + 1) * 3 ≤ c * 3 := Nat.mul_le_mul_right 3 (by omega)
  have e : (l.take (j + 1)).filter q = (l.take j).filter q ++ [x] := by rw [filt_take hx, hq]; simp
  have ho := own_put crI.hl hb hcm hlc hcz hct (i := ((l.take j).filter q).length) (x := x) (by omega) (hw cur hg (by omega))
  rw [hml] at ho
  refine ⟨ho, by rw [List.length_set]; exact hml, ?_, ?_⟩
  · rw [e, List.length_append, List.length_singleton, List.take_add_one, List.take_set_of_le (Nat.le_refl _), h.kept, List.getElem?_set_self (by omega), Option.toList_some]
  · rw [List.drop_set_of_lt (by omega), ← List.tail_drop, h.come, List.tail_drop]
set_option maxHeartbeats 1600000 in
theorem deleteCr (w0 w : World) (g : Nat) (p : Cr → Bool) (A : Option Addr) (n c : Nat) (l : List Cr) (hn : n = l.length) (hO : Own w w0.heap.size 24 Cr.cells 3 (.slice A n c) l) (hE0 : Below w0.heap.size w0 w) (hm : l.length ≤ 1048576) (hE : Enters Try.prog g)
    (hp : ∀ (x : Cr) (W : World), x ∈ l → Below w0.heap.size w0 W → Calls Try.prog g #[x.v] W fun e W' => e = .returned (.bool (p x)) ∧ Below W.heap.size W W') :
    Calls Try.prog 25 #[.slice A n c, .func (.func g) #[] #[]] w fun e w' => ∃ A' c', e = .returned (.slice A' (l.filter (fun x => !p x)).length c') ∧ Own w' w0.heap.size 24 Cr.cells 3 (.slice A' (l.filter (fun x => !p x)).length c') (l.filter (fun x => !p x)) ∧ Below w0.heap.size w0 w' := by
  subst hn
  have HP := Lib.hid hp
  have HE := Lib.hid hE
  have HO := Lib.hid hO
  have E0 := Lib.hid hE0
  obtain ⟨hlc, hcm⟩ : l.length ≤ c ∧ c ≤ maxLen := by obtain ⟨_, _, h1, h2, h3, _⟩ := hO.cap; injection h1 with _ _ h1; subst h1; exact ⟨h2, h3⟩
  unfold maxLen at hcm
  obtain ⟨k, hk⟩ : ∃ k, idxGo p 0 l = k := ⟨_, rfl⟩
  have HK := Lib.hid hk
  have HC := Lib.hid (idxGo_cases p 0 l)
  clear hp hE hO hE0 hk
  rcases HC.out with ⟨h1, h2⟩ | ⟨i0, x0, h1, h2, h3, h4⟩
  · have hk1 : k = -1 := by rw [← HK.out]; exact h1
    have HF := Lib.hid (show l.filter (fun x => !p x) = l from List.filter_eq_self.2 (fun x hx => by simp [h2 x hx]))
    have hkk : (k == -1) = true := by simp [hk1]
    clear h1 h2 hk1
    go_enter Try.func25, Try.ntmps25
    go_wp2_with fail
    refine (indexCr g p A c l w (HO.out.slc crI.hl crI.hz) (by unfold maxLen; omega) HE.out (fun x W hx hW => HP.out x W hx (E0.out.trans (hW.mono E0.out.size)))).mono ?_
    rintro e w1 ⟨rfl, B⟩
    rw [HK.out]
    replace HO := Lib.hid (HO.out.ext B)
    replace E0 := Lib.hid (E0.out.trans (B.mono E0.out.size))
    clear B
    go_wp2_with fail
    go_ret
    rw [HF.out]
    exact ⟨A, c, rfl, HO.out, E0.out⟩
  · have hk1 : k = (i0 : Int) := by rw [← HK.out, h1]; omega
    have hi0 : i0 < l.length := (List.getElem?_eq_some_iff.1 h2).1
    have HSTART := Lib.hid (show (l.take (i0 + 1)).filter (fun x => !p x) = l.take i0 by
      rw [filt_take h2, h3]
      simp only [Bool.not_true, Bool.false_eq_true, if_false, List.append_nil]
      refine List.filter_eq_self.2 (fun x hx => ?_)
      obtain ⟨j, hj, rfl⟩ := List.getElem_of_mem hx
      rw [List.length_take] at hj
      have := h4 j (by omega) l[j] (List.getElem?_eq_getElem (by omega))
      simpa using this)
    obtain ⟨g0, c', cur0, hv0, -, hb0, hg0l, hg0⟩ := HO.out.some_ (by omega)
    injection hv0 with hA _ hcc
    subst hA
    clear c' hcc
    have hM : Mid w w0.heap.size g0 c l (fun x => !p x) (i0 + 1) l := ⟨HO.out, rfl, by rw [HSTART.out, List.length_take, Nat.min_eq_left (by omega)], rfl⟩
    have HM := Lib.hid hM
    have hkk : ((i0 : Int) == -1) = false := by rw [beq_eq_false_iff_ne]; omega
    have hkk2 : ¬ ((i0 : Int) = -1) := by omega
    have HL0 := Lib.hid (show ((l.take (i0 + 1)).filter (fun x => !p x)).length = i0 by rw [HSTART.out, List.length_take]; omega)
    have HB0 := Lib.hid hb0
    have HX0 := Lib.hid (show _ ∧ _ from ⟨h2, h3⟩)
    clear h1 h2 h3 h4 hg0 hM hb0 HO hg0l
    go_enter Try.func25, Try.ntmps25
    go_wp2_with fail
    refine (indexCr g p _ c l w (HM.out.own.slc crI.hl crI.hz) (by unfold maxLen; omega) HE.out (fun x W hx hW => HP.out x W hx (E0.out.trans (hW.mono E0.out.size)))).mono ?_
    rintro e w1 ⟨rfl, B⟩
    rw [HK.out, hk1]
    replace HM := Lib.hid (HM.out.ext B)
    replace E0 := Lib.hid (E0.out.trans (B.mono E0.out.size))
    clear B hk1
    go_wp2_with fail
    go_loopw [5, 6] (fun i j wr => ∃ (a b : Nat) (m : List Cr), i0 < b ∧ b ≤ l.length ∧ a < b ∧ i = .int .i64 a ∧ j = .int .i64 b ∧ Hid (((l.take b).filter (fun x => !p x)).length = a) ∧ Hid (Mid wr w0.heap.size g0 c l (fun x => !p x) b m) ∧ Hid (Below w0.heap.size w0 wr)) (fun _ j _ => l.length - (intOf j).toNat)
    case atStart => exact ⟨i0, i0 + 1, l, by omega, by omega, by omega, rfl, by go_num, HL0, HM, E0⟩
    clear HM E0
    case round =>
      obtain ⟨a, b, m, hib, hbl, hab, rfl, rfl, HA, HM, E0⟩ := hrel
      have SL := Lib.hid (HM.out.own.slc crI.hl crI.hz)
      by_cases hlt : b < l.length
      · obtain ⟨x, b1, o1, hx, hA1, hb1, hc⟩ := SL.out.at_ (k := b) (by rw [HM.out.len]; exact hlt)
        cases hA1
        have c0 := hc 0 _ rfl
        have c1 := hc 1 _ rfl
        have c2 := hc 2 _ rfl
        simp only [Nat.add_zero, Nat.zero_add] at c0 c1 c2
        have HX := Lib.hid (show l[b]? = some x by rw [← HM.out.at_]; exact hx)
        have hlt' : (b : Int) < l.length := by omega
        have hal' : (a : Int) < l.length := by omega
        clear hc hx SL
        have AX := ext_alloc (ext_refl wr) (.cells #[.int .i64 x.a, .int .i64 x.m, .int .i64 x.u] 24)
        have hE2 := HE.out #[x.v]
        have HM2 := Lib.hid (HM.out.ext AX)
        have E2 := Lib.hid (E0.out.trans (AX.mono E0.out.size))
        have X := Lib.hid (Blk.new wr [.int .i64 x.a, .int .i64 x.m, .int .i64 x.u] 24)
        clear HM E0 AX
        cases hpx : p x
        · go_wp2_with fail
          refine (HP.out x _ (List.mem_of_getElem? HX.out) E2.out).mono ?_
          rintro e w2 ⟨he, B⟩
          rw [hpx] at he
          subst he
          clear hE2 c0 c1 c2
          replace X := Lib.hid (X.out.ext B)
          replace E2 := Lib.hid (E2.out.trans (B.mono E2.out.size))
          replace HM2 := Lib.hid (HM2.out.ext B)
          clear B
          have d0 := X.out.c 0 _ rfl
          have d1 := X.out.c 1 _ rfl
          have d2 := X.out.c 2 _ rfl
          have HPX := Lib.hid hpx
          obtain ⟨-, -, hgl, -, -, cur, hg, hcz, -⟩ := HM2.out.own.row
          have hcl : l.length * 3 ≤ c * 3 := Nat.mul_le_mul_right 3 hlc
          have hcb : a * 3 + 3 ≤ l.length * 3 := by have := Nat.mul_le_mul_right 3 (show a + 1 ≤ l.length by omega); omega
          obtain ⟨y, b2, o2, -, hA2, -, hy⟩ := (HM2.out.own.slc crI.hl crI.hz).at_ (k := a) (by rw [HM2.out.len]; omega)
          cases hA2
          have s0 := hy 0 _ rfl
          have s1 := hy 1 _ rfl
          have s2 := hy 2 _ rfl
          simp only [Nat.add_zero, Nat.zero_add] at s0 s1 s2
          have fz := fun j => row_frozen hg j
          have HM3 := Lib.hid (HM2.out.yes (W' := (((w2.setCell ⟨g0, a * 3, none⟩ (.int .i64 x.a)).setCell ⟨g0, a * 3 + 1, none⟩ (.int .i64 x.m)).setCell ⟨g0, a * 3 + 2, none⟩ (.int .i64 x.u))) HX.out (by simp [HPX.out]) (fun cur2 hg2 hl2 => by
            have hA := HA.out
            simp only [hA] at hl2 ⊢
            exact put_atCr x hg2 hl2))
          have hgw : w0.heap.size ≤ g0 := HB0.out
          have E3 := Lib.hid ((((E2.out).setCell (p := ⟨g0, a * 3, none⟩) hgw (.int .i64 x.a)).setCell (p := ⟨g0, a * 3 + 1, none⟩) hgw (.int .i64 x.m)).setCell (p := ⟨g0, a * 3 + 2, none⟩) hgw (.int .i64 x.u))
          have HA3 := Lib.hid (show ((l.take (b + 1)).filter (fun x => !p x)).length = a + 1 by rw [filt_take HX.out, HPX.out]; simp [HA.out])
          clear hpx hy hg hcz hgw HM2 E2
          go_wp2_with fail
          go_roundw
          case rel => exact ⟨a + 1, b + 1, _, by omega, by omega, by omega, by go_num, by go_num, HA3, HM3, E3⟩
          case measure => simp [intOf]; omega
        · go_wp2_with fail
          refine (HP.out x _ (List.mem_of_getElem? HX.out) E2.out).mono ?_
          rintro e w2 ⟨he, B⟩
          rw [hpx] at he
          subst he
          clear hE2 c0 c1 c2
          replace E2 := Lib.hid (E2.out.trans (B.mono E2.out.size))
          replace HM2 := Lib.hid (HM2.out.ext B)
          have HPX := Lib.hid hpx
          have HM3 := Lib.hid (HM2.out.no HX.out (by simp [HPX.out]))
          have HA3 := Lib.hid (show ((l.take (b + 1)).filter (fun x => !p x)).length = a by rw [filt_take HX.out, HPX.out]; simp [HA.out])
          clear hpx B HM2 X
          go_wp2_with fail
          go_roundw
          case rel => exact ⟨a, b + 1, m, by omega, by omega, by omega, rfl, by go_num, HA3, HM3, E2⟩
          case measure => simp [intOf]; omega
      · obtain rfl : b = l.length := by omega
        have hge : ¬ (l.length : Int) < l.length := by omega
        obtain ⟨-, hbg, hgl, -, -, cur, hg, hcz, hct⟩ := HM.out.own.row
        have hml := HM.out.len
        have HF := Lib.hid (show l.filter (fun x => !p x) = m.take a by rw [← HA.out, HM.out.kept, List.take_length])
        have hcl : l.length * 3 ≤ c * 3 := Nat.mul_le_mul_right 3 hlc
        have hal : (l.length - a) * 3 + a * 3 = l.length * 3 := by rw [← Nat.add_mul]; congr 1; omega
        obtain ⟨W3, hr3, ⟨zs, hzl, hg3⟩, hb3⟩ := run_clearG crI wr 0 g0 (a * 3) (l.length - a) (c - a) cur 24 (.agg #[.int .i64 0,.int .i64 0,.int .i64 0]) hg (by simp [Value.cells]; omega) zeroCr (by simp [Value.cells]; decide)
        have hzl2 : zs.length = (l.length - a) * 3 := by rw [hzl]; simp [Value.cells]
        have hOW := own_cut (k := a) (l := l.filter (fun x => !p x)) crI.hl hbg hg3 (by unfold maxLen; omega) (by rw [splice_len (by omega)]; exact hcz) hct (by omega) (by omega) (take_splice _ _ _ _ (Nat.le_refl _) (by omega)) HF.out.symm
        have HOW := Lib.hid hOW
        have HLEN := Lib.hid (show (l.filter (fun x => !p x)).length = a by rw [HF.out, List.length_take]; omega)
        have E3 := Lib.hid (ext_grown E0.out hb3 (fun r e => by cases e; exact hbg))
        have HR3 := Lib.hid hr3
        have hs1 := fun w : World => slice_fromCr (some ⟨g0, 0, none⟩) l.length c a _ rfl (by omega) hlc w
        have hs2 := fun w : World => slice_headCr (some ⟨g0, 0, none⟩) l.length c a _ rfl (by omega) w
        unfold fromACr at hs1
        simp only [from0 g0 c a 3 (by omega)] at hs1
        have hclr : ∀ W, W = wr → (Builtin.clear_ #[22] 0 #[.slice (some ⟨g0, a * 3, none⟩) (l.length - a) (c - a)]).run Try.prog W = .ok (.tuple #[]) W3 := fun W e => by rw [e]; exact HR3.out
        have hclr := hclr _ rfl
        have hal' : (a : Int) ≤ l.length := by omega
        clear hr3 hg3 hb3 hg hcz hct hOW hzl hzl2 hcl hal HF hml SL hge
        go_wp2_with fail
        go_ret
        exact ⟨some ⟨g0, 0, none⟩, c, by first | (rw [HLEN.out]; done) | (rw [HLEN.out]; rfl) | simp [HLEN.out], HOW.out, E3.out⟩
end Go.Proofs.Ytafglcalimcdcaa
