/- slices.DeleteFunc at credits, while another block is watched. -/
import Derived.Test.YtafglcalimcdcaaJ
set_option linter.unusedSimpArgs false
set_option linter.unusedVariables false
namespace Go.Proofs.Ytafglcalimcdcaa
open Go.RowKit
/-- What lies on w0, and what lies in block D. -/
structure Bk (w0 : World) (D : Nat) (o : Obj) (w : World) : Prop where
  b : Below w0.heap.size w0 w
  d : w.heap[D]? = some o
theorem Bk.ext {w0 w w' : World} {D : Nat} {o : Obj} (h : Bk w0 D o w) (B : Below w.heap.size w w') : Bk w0 D o w' := ⟨h.b.trans (B.mono h.b.size), (B.block D (Array.getElem?_eq_some_iff.1 h.d).1).trans h.d⟩
theorem Bk.set {w0 w : World} {D g : Nat} {o : Obj} (h : Bk w0 D o w) (hD : D ≠ g) (hg : w0.heap.size ≤ g) (j : Nat) (v : Value) : Bk w0 D o (w.setCell ⟨g, j, none⟩ v) := ⟨h.b.setCell (p := ⟨g, j, none⟩) hg v, (Below.heap_setCell w ⟨g, j, none⟩ v D hD).trans h.d⟩
theorem Bk.grown {w0 w w' : World} {D : Nat} {o : Obj} {row : Option Nat} (h : Bk w0 D o w) (hg : w.grownBy w' row) (hr : ∀ r, row = some r → w0.heap.size ≤ r) (hD : some D ≠ row) : Bk w0 D o w' := ⟨ext_grown h.b hg hr, (hg.block D (Array.getElem?_eq_some_iff.1 h.d).1 hD).trans h.d⟩
set_option maxHeartbeats 1600000 in
theorem deleteCrD (D : Nat) (o : Obj) (w0 w : World) (g : Nat) (p : Cr → Bool) (A : Option Addr) (n c : Nat) (l : List Cr) (hn : n = l.length) (hO : Own w w0.heap.size 24 Cr.cells 3 (.slice A n c) l) (hE0 : Below w0.heap.size w0 w) (hm : l.length ≤ 1048576) (hD : w.heap[D]? = some o) (hDn : ∀ k, (Value.slice A n c).ownBlock = some k → D ≠ k) (hE : Enters Try.prog g)
    (hp : ∀ (x : Cr) (W : World), x ∈ l → Below w0.heap.size w0 W → Calls Try.prog g #[x.v] W fun e W' => e = .returned (.bool (p x)) ∧ Below W.heap.size W W') :
    Calls Try.prog 25 #[.slice A n c, .func (.func g) #[] #[]] w fun e w' => ∃ A' c', e = .returned (.slice A' (l.filter (fun x => !p x)).length c') ∧ Own w' w0.heap.size 24 Cr.cells 3 (.slice A' (l.filter (fun x => !p x)).length c') (l.filter (fun x => !p x)) ∧ Below w0.heap.size w0 w' ∧ w'.heap[D]? = some o := by
  subst hn
  have HP := Lib.hid hp
  have HE := Lib.hid hE
  have HO := Lib.hid hO
  have E0 := Lib.hid (show Bk w0 D o w from ⟨hE0, hD⟩)
  have HDN := Lib.hid hDn
  clear hD hDn
  obtain ⟨hlc, hcm⟩ : l.length ≤ c ∧ c ≤ maxLen := by obtain ⟨_, _, h1, h2, h3, _⟩ := hO.cap; injection h1 with _ _ h1; subst h1; exact ⟨h2, h3⟩
  unfold maxLen at hcm
  obtain ⟨k, hk⟩ : ∃ k, idxGo p 0 l = k := ⟨_, rfl⟩
  have HK := Lib.hid hk
  have HC := Lib.hid (idxGo_cases p 0 l)
  clear hp hE hO hE0 hk
  rcases HC.out with ⟨h1, h2⟩ | ⟨i0, x0, h1, h2, h3, h4⟩
  · have hk1 : k = -1 := by rw [← HK.out]; exact h1
    have HF := Lib.hid (show l.filter (fun x => !p x) = l from List.filter_eq_self.2 (fun x hx => by simp [h2 x hx]))
    have hkk : (k == -1) = true := by simp [hk1]
    clear h1 h2 hk1
    go_enter Try.func25, Try.ntmps25
    go_wp2_with fail
    refine (indexCr g p A c l w (HO.out.slc crI.hl crI.hz) (by unfold maxLen; omega) HE.out (fun x W hx hW => HP.out x W hx (E0.out.b.trans (hW.mono E0.out.b.size)))).mono ?_
    rintro e w1 ⟨rfl, B⟩
    rw [HK.out]
    replace HO := Lib.hid (HO.out.ext B)
    replace E0 := Lib.hid (E0.out.ext B)
    clear B
    go_wp2_with fail
    go_ret
    rw [HF.out]
    exact ⟨A, c, rfl, HO.out, E0.out.b, E0.out.d⟩
  · have hk1 : k = (i0 : Int) := by rw [← HK.out, h1]; omega
    have hi0 : i0 < l.length := (List.getElem?_eq_some_iff.1 h2).1
    have HSTART := Lib.hid (show (l.take (i0 + 1)).filter (fun x => !p x) = l.take i0 by
      rw [filt_take h2, h3]
      simp only [Bool.not_true, Bool.false_eq_true, if_false, List.append_nil]
      refine List.filter_eq_self.2 (fun x hx => ?_)
      obtain ⟨j, hj, rfl⟩ := List.getElem_of_mem hx
      rw [List.length_take] at hj
      have := h4 j (by omega) l[j] (List.getElem?_eq_getElem (by omega))
      simpa using this)
    obtain ⟨g0, c', cur0, hv0, -, hb0, hg0l, hg0⟩ := HO.out.some_ (by omega)
    injection hv0 with hA _ hcc
    subst hA
    clear c' hcc
    have HDG := Lib.hid (HDN.out g0 rfl)
    have hM : Mid w w0.heap.size g0 c l (fun x => !p x) (i0 + 1) l := ⟨HO.out, rfl, by rw [HSTART.out, List.length_take, Nat.min_eq_left (by omega)], rfl⟩
    have HM := Lib.hid hM
    have hkk : ((i0 : Int) == -1) = false := by rw [beq_eq_false_iff_ne]; omega
    have hkk2 : ¬ ((i0 : Int) = -1) := by omega
    have HL0 := Lib.hid (show ((l.take (i0 + 1)).filter (fun x => !p x)).length = i0 by rw [HSTART.out, List.length_take]; omega)
    have HB0 := Lib.hid hb0
    have HX0 := Lib.hid (show _ ∧ _ from ⟨h2, h3⟩)
    clear h1 h2 h3 h4 hg0 hM hb0 HO hg0l
    go_enter Try.func25, Try.ntmps25
    go_wp2_with fail
    refine (indexCr g p _ c l w (HM.out.own.slc crI.hl crI.hz) (by unfold maxLen; omega) HE.out (fun x W hx hW => HP.out x W hx (E0.out.b.trans (hW.mono E0.out.b.size)))).mono ?_
    rintro e w1 ⟨rfl, B⟩
    rw [HK.out, hk1]
    replace HM := Lib.hid (HM.out.ext B)
    replace E0 := Lib.hid (E0.out.ext B)
    clear B hk1
    go_wp2_with fail
    go_loopw [5, 6] (fun i j wr => ∃ (a b : Nat) (m : List Cr), i0 < b ∧ b ≤ l.length ∧ a < b ∧ i = .int .i64 a ∧ j = .int .i64 b ∧ Hid (((l.take b).filter (fun x => !p x)).length = a) ∧ Hid (Mid wr w0.heap.size g0 c l (fun x => !p x) b m) ∧ Hid (Bk w0 D o wr)) (fun _ j _ => l.length - (intOf j).toNat)
    case atStart => exact ⟨i0, i0 + 1, l, by omega, by omega, by omega, rfl, by go_num, HL0, HM, E0⟩
    clear HM E0
    case round =>
      obtain ⟨a, b, m, hib, hbl, hab, rfl, rfl, HA, HM, E0⟩ := hrel
      have SL := Lib.hid (HM.out.own.slc crI.hl crI.hz)
      by_cases hlt : b < l.length
      · obtain ⟨x, b1, o1, hx, hA1, hb1, hc⟩ := SL.out.at_ (k := b) (by rw [HM.out.len]; exact hlt)
        cases hA1
        have c0 := hc 0 _ rfl
        have c1 := hc 1 _ rfl
        have c2 := hc 2 _ rfl
        simp only [Nat.add_zero, Nat.zero_add] at c0 c1 c2
        have HX := Lib.hid (show l[b]? = some x by rw [← HM.out.at_]; exact hx)
        have hlt' : (b : Int) < l.length := by omega
        have hal' : (a : Int) < l.length := by omega
        clear hc hx SL
        have AX := ext_alloc (ext_refl wr) (.cells #[.int .i64 x.a, .int .i64 x.m, .int .i64 x.u] 24)
        have hE2 := HE.out #[x.v]
        have HM2 := Lib.hid (HM.out.ext AX)
        have E2 := Lib.hid (E0.out.ext AX)
        have X := Lib.hid (Blk.new wr [.int .i64 x.a, .int .i64 x.m, .int .i64 x.u] 24)
        clear HM E0 AX
        cases hpx : p x
        · go_wp2_with fail
          refine (HP.out x _ (List.mem_of_getElem? HX.out) E2.out.b).mono ?_
          rintro e w2 ⟨he, B⟩
          rw [hpx] at he
          subst he
          clear hE2 c0 c1 c2
          replace X := Lib.hid (X.out.ext B)
          replace E2 := Lib.hid (E2.out.ext B)
          replace HM2 := Lib.hid (HM2.out.ext B)
          clear B
          have d0 := X.out.c 0 _ rfl
          have d1 := X.out.c 1 _ rfl
          have d2 := X.out.c 2 _ rfl
          have HPX := Lib.hid hpx
          obtain ⟨-, -, hgl, -, -, cur, hg, hcz, -⟩ := HM2.out.own.row
          have hcl : l.length * 3 ≤ c * 3 := Nat.mul_le_mul_right 3 hlc
          have hcb : a * 3 + 3 ≤ l.length * 3 := by have := Nat.mul_le_mul_right 3 (show a + 1 ≤ l.length by omega); omega
          obtain ⟨y, b2, o2, -, hA2, -, hy⟩ := (HM2.out.own.slc crI.hl crI.hz).at_ (k := a) (by rw [HM2.out.len]; omega)
          cases hA2
          have s0 := hy 0 _ rfl
          have s1 := hy 1 _ rfl
          have s2 := hy 2 _ rfl
          simp only [Nat.add_zero, Nat.zero_add] at s0 s1 s2
          have fz := fun j => row_frozen hg j
          have HM3 := Lib.hid (HM2.out.yes (W' := (((w2.setCell ⟨g0, a * 3, none⟩ (.int .i64 x.a)).setCell ⟨g0, a * 3 + 1, none⟩ (.int .i64 x.m)).setCell ⟨g0, a * 3 + 2, none⟩ (.int .i64 x.u))) HX.out (by simp [HPX.out]) (fun cur2 hg2 hl2 => by
            have hA := HA.out
            simp only [hA] at hl2 ⊢
            exact put_atCr x hg2 hl2))
          have hgw : w0.heap.size ≤ g0 := HB0.out
          have E3 := Lib.hid (((E2.out.set HDG.out hgw (a * 3) (.int .i64 x.a)).set HDG.out hgw (a * 3 + 1) (.int .i64 x.m)).set HDG.out hgw (a * 3 + 2) (.int .i64 x.u))
          have HA3 := Lib.hid (show ((l.take (b + 1)).filter (fun x => !p x)).length = a + 1 by rw [filt_take HX.out, HPX.out]; simp [HA.out])
          clear hpx hy hg hcz hgw HM2 E2
          go_wp2_with fail
          go_roundw
          case rel => exact ⟨a + 1, b + 1, _, by omega, by omega, by omega, by go_num, by go_num, HA3, HM3, E3⟩
          case measure => simp [intOf]; omega
        · go_wp2_with fail
          refine (HP.out x _ (List.mem_of_getElem? HX.out) E2.out.b).mono ?_
          rintro e w2 ⟨he, B⟩
          rw [hpx] at he
          subst he
          clear hE2 c0 c1 c2
          replace E2 := Lib.hid (E2.out.ext B)
          replace HM2 := Lib.hid (HM2.out.ext B)
          have HPX := Lib.hid hpx
          have HM3 := Lib.hid (HM2.out.no HX.out (by simp [HPX.out]))
          have HA3 := Lib.hid (show ((l.take (b + 1)).filter (fun x => !p x)).length = a by rw [filt_take HX.out, HPX.out]; simp [HA.out])
          clear hpx B HM2 X
          go_wp2_with fail
          go_roundw
          case rel => exact ⟨a, b + 1, m, by omega, by omega, by omega, rfl, by go_num, HA3, HM3, E2⟩
          case measure => simp [intOf]; omega
      · obtain rfl : b = l.length := by omega
        have hge : ¬ (l.length : Int) < l.length := by omega
        obtain ⟨-, hbg, hgl, -, -, cur, hg, hcz, hct⟩ := HM.out.own.row
        have hml := HM.out.len
        have HF := Lib.hid (show l.filter (fun x => !p x) = m.take a by rw [← HA.out, HM.out.kept, List.take_length])
        have hcl : l.length * 3 ≤ c * 3 := Nat.mul_le_mul_right 3 hlc
        have hal : (l.length - a) * 3 + a * 3 = l.length * 3 := by rw [← Nat.add_mul]; congr 1; omega
        obtain ⟨W3, hr3, ⟨zs, hzl, hg3⟩, hb3⟩ := run_clearG crI wr 0 g0 (a * 3) (l.length - a) (c - a) cur 24 (.agg #[.int .i64 0,.int .i64 0,.int .i64 0]) hg (by simp [Value.cells]; omega) zeroCr (by simp [Value.cells]; decide)
        have hzl2 : zs.length = (l.length - a) * 3 := by rw [hzl]; simp [Value.cells]
        have hOW := own_cut (k := a) (l := l.filter (fun x => !p x)) crI.hl hbg hg3 (by unfold maxLen; omega) (by rw [splice_len (by omega)]; exact hcz) hct (by omega) (by omega) (take_splice _ _ _ _ (Nat.le_refl _) (by omega)) HF.out.symm
        have HOW := Lib.hid hOW
        have HLEN := Lib.hid (show (l.filter (fun x => !p x)).length = a by rw [HF.out, List.length_take]; omega)
        have E3 := Lib.hid (E0.out.grown hb3 (fun r e => by cases e; exact hbg) (fun e => HDG.out (Option.some.inj e)))
        have HR3 := Lib.hid hr3
        have hs1 := fun w : World => slice_fromCr (some ⟨g0, 0, none⟩) l.length c a _ rfl (by omega) hlc w
        have hs2 := fun w : World => slice_headCr (some ⟨g0, 0, none⟩) l.length c a _ rfl (by omega) w
        unfold fromACr at hs1
        simp only [from0 g0 c a 3 (by omega)] at hs1
        have hclr : ∀ W, W = wr → (Builtin.clear_ #[22] 0 #[.slice (some ⟨g0, a * 3, none⟩) (l.length - a) (c - a)]).run Try.prog W = .ok (.tuple #[]) W3 := fun W e => by rw [e]; exact HR3.out
        have hclr := hclr _ rfl
        have hal' : (a : Int) ≤ l.length := by omega
        clear hr3 hg3 hb3 hg hcz hct hOW hzl hzl2 hcl hal HF hml SL hge
        go_wp2_with fail
        go_ret
        exact ⟨some ⟨g0, 0, none⟩, c, by first | (rw [HLEN.out]; done) | (rw [HLEN.out]; rfl) | simp [HLEN.out], HOW.out, E3.out.b, E3.out.d⟩
end Go.Proofs.Ytafglcalimcdcaa
