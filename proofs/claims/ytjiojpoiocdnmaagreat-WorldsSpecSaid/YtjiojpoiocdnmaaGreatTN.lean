/- The next picks: the reference's 'next'. -/
import Derived.Test.YtjiojpoiocdnmaaGreatU48
import Derived.Test.YtjiojpoiocdnmaaGreatME
set_option linter.unusedSimpArgs false
set_option linter.unusedVariables false
namespace Go.Proofs.YtjiojpoiocdnmaaGreat
open Go.RowKit
theorem own_getC {W : World} {base B n c : Nat} {x : List Nat} (h : Own W base 3 ic 1 (.slice (some ⟨B, 0, none⟩) n c) (nums x)) {j d : Nat} (hd : x[j]? = some d) : W.cell? ⟨B, j, none⟩ = some (.int .i64 d) ∧ B < W.heap.size := by
 have hlt := (List.getElem?_eq_some_iff.1 hd).1
 obtain ⟨y, b, o, hy, hA, hb, hc⟩ := ((show Slc W ic 1 (some ⟨B, 0, none⟩) (nums x) from h.slc (fun _ => rfl) (by decide))).at_ (k := j) (by simpa [nums] using hlt)
 injection hA with hA
 injection hA with e1 e2
 subst e1 e2
 have : y = (d : Int) := by rw [nums_at hd] at hy; cases hy; rfl
 subst this
 have := hc 0 _ rfl
 exact ⟨by simpa using this, hb⟩
theorem own_setC {W : World} {base B n c : Nat} {x : List Nat} (h : Own W base 3 ic 1 (.slice (some ⟨B, 0, none⟩) n c) (nums x)) {j d : Nat} (e : Nat) (hd : x[j]? = some d) : Own (W.setCell ⟨B, j, none⟩ (.int .i64 e)) base 3 ic 1 (.slice (some ⟨B, 0, none⟩) n c) (nums (x.set j e)) := by
 have := Own.set_ (sz := 1) (enc := ic) (fun _ => rfl) h (k := j) (r := 0) (x := (d : Int)) (y := (e : Int)) (v := .int .i64 e) (nums_at hd) (by decide) rfl
 rw [show nums (x.set j e) = (nums x).set j (e : Int) by simp [nums]]
 simpa using this
theorem own_addr {W : World} {base n c : Nat} {A : Option Addr} {x : List Nat} (h : Own W base 3 ic 1 (.slice A n c) (nums x)) (hn : 0 < n) : ∃ g, A = some ⟨g, 0, none⟩ ∧ base ≤ g := by
 rcases h.2 with ⟨hv, _⟩ | ⟨g, cap, cur, hv, hb, _⟩
 ·injection hv with _ e _; omega
 ·injection hv with e _ _
  exact ⟨g, e, hb⟩
theorem mid_at {xs : List Nat} {n k d : Nat} (h : k < xs.length) : (xs.take k ++ d :: List.replicate n 0)[k]? = some d := by
 rw [List.getElem?_append_right (by simp; omega)]; simp [Nat.min_eq_left (Nat.le_of_lt h)]
def NextR (w : World) (ms ds : List Nat) (n : Nat) (e : Ending) (w' : World) : Prop := ∃ (A : Option Addr) (c : Nat) (ds' : List Nat) (b : Bool), e = .returned (.tuple #[.slice A n c, .bool b]) ∧ Own w' w.heap.size 3 ic 1 (.slice A n c) (nums ds') ∧ (b = true → inc ms ds = some ds') ∧ (b = false → inc ms ds = none) ∧ Below w.heap.size w w'
set_option maxRecDepth 100000 in
set_option maxHeartbeats 8000000 in
theorem rnext_at {LA PA : Option Addr} {ln lc pc : Nat} {l : List Trk} {ds : List Nat} {w : World} (hln : ln = l.length) (hch : Choice (msT l) ds) (hl : TrkS w LA lc l) (hp : Slc w ic 1 PA (nums ds)) (hlm : ln ≤ 12) (hps : ∀ y ∈ l, y.ps.l.length ≤ 4096) : Calls Tryz.prog 42 #[.slice LA ln lc, .slice PA ln pc] w (NextR w (msT l) ds ln) := by
 have hml : (msT l).length = ln := by rw [hln]; simp [msT]
 have hdl : ds.length = ln := by rw [hch.1, hml]
 have HLN := Lib.hid hln
 have HCH := Lib.hid hch
 have HL := Lib.hid hl
 have HML := Lib.hid hml
 have HDL := Lib.hid hdl
 have HPS := Lib.hid hps
 have ha := ext_alloc (ext_refl w) (.cells #[] 3)
 obtain ⟨_, Wb, hrun1, A1, c1, rfl, hO1, hB1, -, -, -⟩ := Own.append_k (w0 := w) intI 39 (Own.madeH (α := Int) w w.heap.size 3 ic 1 (Nat.le_refl _) w.heap.size rfl) ha (ys := nums ds) (m := ln) (by simp [nums, hdl]) pc (hp.ext ha) (nums ds) rfl ln (by simp [nums, hdl]) (by omega) (by unfold maxLen; omega)
 have R1 := Lib.hid hrun1
 have HO1 := Lib.hid hO1
 have HB1 := Lib.hid hB1
 have hwl : IntKind.i64.wrap ((ln : Int) - 1) = (ln : Int) - 1 := IntWalk.i64_in _ (by omega)
 clear hrun1 hO1 hB1 ha hln hch hl hml hdl hp hps
 go_enter Tryz.func42, Tryz.ntmps42
 go_wp2_with (at_builtin; refine wpList_append_run rfl (.tmp 8) (.tmp 9) 39 rfl (.slice (some ⟨w.heap.size, 0, none⟩) 0 0) (.slice PA ln pc) rfl rfl R1.out ?_)
 clear hwl
 go_loopw [7] (fun i wr => ∃ j : Nat, j ≤ ln ∧ i = .int .i64 ((j : Int) - 1) ∧ Hid (Own wr w.heap.size 3 ic 1 (.slice A1 ln c1) (nums (ds.take j ++ List.replicate (ln - j) 0))) ∧ Hid (Spun (msT l) ds j) ∧ Hid (Below w.heap.size w wr)) (fun i _ => (intOf i + 1).toNat)
 case atStart => exact ⟨ln, Nat.le_refl _, rfl, by rw [Nat.sub_self, List.replicate_zero, List.append_nil, List.take_of_length_le (by rw [HDL.out]; exact Nat.le_refl _)]; exact HO1.out, spun_end (by rw [HML.out]; exact Nat.le_refl _), HB1.out⟩
 case round =>
  obtain ⟨j, hj, rfl, HO, HSP, EO⟩ := hrel
  obtain ⟨wi, rfl⟩ : ∃ wi, wi = wr := ⟨_, rfl⟩
  clear HO1 HB1 R1
  cases j with
  | zero =>
   have z1 : ((0 : Nat) : Int) - 1 = -1 := rfl
   rw [z1]
   have HI : Hid (inc (msT l) ds = none) := by
    have := HSP.out
    unfold Spun at this
    rwa [List.drop_zero, List.drop_zero] at this
   clear z1 HSP
   go_wp2_with fail
   go_ret2
   exact ⟨A1, c1, _, false, rfl, HO.out, (fun h => by cases h), (fun _ => HI.out), EO.out⟩
  | succ k =>
   have z1 : ((k + 1 : Nat) : Int) - 1 = (k : Int) := by omega
   rw [z1]
   obtain ⟨g, rfl, hgb⟩ := own_addr HO.out (by omega)
   have hkx : k < ds.length := by rw [HDL.out]; omega
   obtain ⟨d, hd⟩ : ∃ d, ds[k]? = some d := ⟨_, List.getElem?_eq_getElem hkx⟩
   have hd2 : (ds.take (k + 1) ++ List.replicate (ln - (k + 1)) 0)[k]? = some d := (mid_get hkx).trans hd
   have d0 := (own_getC HO.out hd2).1
   have gl0 := (own_getC HO.out hd2).2
   have f0 := Own.frozen HO.out k
   obtain ⟨x, xb, xo, hx, hxA, hxb, hxc⟩ := (HL.out.slc.below (Nat.le_refl _) EO.out).at_ (k := k) (by rw [← HLN.out]; omega)
   have hmk : (msT l)[k]? = some x.ps.l.length := by unfold msT; rw [List.getElem?_map, hx]; rfl
   have hdx : d < x.ps.l.length := HCH.out.2 k _ d hmk hd
   have hx4 := HPS.out x (List.mem_of_getElem? hx)
   obtain ⟨m, hm⟩ : ∃ m, x.ps.l.length = m := ⟨_, rfl⟩
   rw [hm] at hmk hdx hx4
   have hki : (k : Int) < (ln : Int) := by omega
   have hk0 : (0 : Int) ≤ (k : Int) := by omega
   have hwd : IntKind.i64.wrap ((d : Int) + 1) = (d : Int) + 1 := IntWalk.i64_in _ (by omega)
   have hwk : IntKind.i64.wrap ((k : Int) - 1) = (k : Int) - 1 := IntWalk.i64_in _ (by omega)
   have HO5 : Hid (Own (wi.setCell ⟨g, k, none⟩ (.int .i64 ((d : Int) + 1))) w.heap.size 3 ic 1 (.slice (some ⟨g, 0, none⟩) ln c1) (nums (ds.take k ++ (d + 1) :: List.replicate (ln - (k + 1)) 0))) := by
    have := own_setC HO.out (d + 1) hd2
    rw [mid_set _ hkx] at this
    exact this
   have E5 : Hid (Below w.heap.size w (wi.setCell ⟨g, k, none⟩ (.int .i64 ((d : Int) + 1)))) := below_set EO.out _ _ hgb
   have x12 : (wi.setCell ⟨g, k, none⟩ (.int .i64 ((d : Int) + 1))).cell? ⟨xb, xo + k * 14 + 12, none⟩ = some (.slice x.ps.A m x.ps.c) := by
    obtain ⟨x2, xb2, xo2, hx2, hxA2, hxb2, hxc2⟩ := (HL.out.slc.below (Nat.le_refl _) E5.out).at_ (k := k) (by rw [← HLN.out]; omega)
    rw [hxA] at hxA2
    injection hxA2 with hxA2
    injection hxA2 with e1 e2
    subst e1 e2
    obtain rfl : x2 = x := Option.some.inj (hx2.symm.trans hx)
    have := hxc2 12 _ rfl
    rw [← hm]; exact this
   have xl : xb < (wi.setCell ⟨g, k, none⟩ (.int .i64 ((d : Int) + 1))).heap.size := by simpa [World.setCell] using hxb
   have gl : g < (wi.setCell ⟨g, k, none⟩ (.int .i64 ((d : Int) + 1))).heap.size := by simpa [World.setCell] using gl0
   obtain ⟨W4, hW4⟩ : ∃ W4, wi.setCell ⟨g, k, none⟩ (.int .i64 ((d : Int) + 1)) = W4 := ⟨_, rfl⟩
   rw [hW4] at HO5 E5 x12 xl gl
   have HD := Lib.hid hd
   have HMK := Lib.hid hmk
   have HX12 := Lib.hid x12
   have HXL := Lib.hid xl
   have HGL := Lib.hid gl
   subst hxA
   clear HO hd hd2 hx hxb hxc hmk hm x12 xl gl hx4
   go_wp2_with fail
   clear d0 f0 gl0 hW4
   have x12 := HX12.out
   have xl := HXL.out
   have gl := HGL.out
   have F1 : W4.cell? ⟨g, k, none⟩ = some (.int .i64 ((d : Int) + 1)) := (own_getC HO5.out (d := d + 1) (mid_at hkx)).1
   have SS := Lib.hid (show ∀ w', Below W4.heap.size W4 w' → (fun w' => Below W4.heap.size W4 w' ∧ w'.cell? ⟨g, k, none⟩ = some (.int .i64 ((d : Int) + 1)) ∧ w'.cell? ⟨xb, xo + k * 14 + 12, none⟩ = some (.slice x.ps.A m x.ps.c)) w' from fun w' h => ⟨h, (h.cell (p := ⟨g, k, none⟩) gl).trans F1, (h.cell (p := ⟨xb, xo + k * 14 + 12, none⟩) xl).trans x12⟩)
   refine rgB 11 SS (ext_drew (ext_refl _)) (fun Q7 hQ7 hN7 hHeld => ?_)
   refine rgT 0 (some 24) hQ7 hHeld ?_; refine rgT 1 (some 25) hQ7 hHeld ?_; refine rgT 2 (some 26) hQ7 hHeld ?_; refine rgT 3 (some 27) hQ7 hHeld ?_; refine rgT 4 (some 28) hQ7 hHeld ?_; refine rgT 5 (some 29) hQ7 hHeld ?_; refine rgT 6 (some 30) hQ7 hHeld ?_; refine rgT 7 (some 31) hQ7 hHeld ?_; refine rgT 8 (some 32) hQ7 hHeld ?_; refine rgT 9 (some 33) hQ7 hHeld ?_; refine rgT 10 (some 34) hQ7 hHeld ?_
   refine rg_end (by kernel_rfl) (hN7 _ _ ?_) _
   clear hQ7 hN7 Q7
   have BX := hHeld.1
   clear SS
   have HO6 := Lib.hid (HO5.out.ext BX)
   have E6 := Lib.hid (ext_trans E5.out BX)
   clear BX HO5 E5 x12 xl gl F1 HX12 HXL HGL
   obtain ⟨W6, hW6⟩ : ∃ W6, W4.drew = W6 := ⟨_, rfl⟩
   rw [hW6] at HO6 E6 ⊢
   clear hW6
   by_cases hin : d + 1 < m
   ·have hin' : (d : Int) + 1 < (m : Int) := by omega
    have HI : Hid (inc (msT l) ds = some (ds.take k ++ (d + 1) :: List.replicate (ln - (k + 1)) 0)) := by
     have := spun_inc (by rw [HML.out, HDL.out]) HMK.out HD.out HSP.out hin
     rw [HML.out] at this
     exact this
    go_wp2_with fail
    go_ret2
    exact ⟨_, c1, _, true, rfl, HO6.out, (fun _ => HI.out), (fun h => by cases h), E6.out⟩
   ·have hin' : ¬ (d : Int) + 1 < (m : Int) := by omega
    have g0 := (own_getC HO6.out (d := d + 1) (mid_at hkx)).1
    have gl := (own_getC HO6.out (d := d + 1) (mid_at hkx)).2
    have f0 := Own.frozen HO6.out k
    have HO7 : Hid (Own (W6.setCell ⟨g, k, none⟩ (.int .i64 0)) w.heap.size 3 ic 1 (.slice (some ⟨g, 0, none⟩) ln c1) (nums (ds.take k ++ List.replicate (ln - k) 0))) := by
     have := own_setC HO6.out (j := k) (d := d + 1) 0 (mid_at hkx)
     rw [List.set_append_right _ _ (by rw [List.length_take]; omega), List.length_take, Nat.min_eq_left (Nat.le_of_lt hkx), Nat.sub_self, List.set_cons_zero, mid_zero (by omega)] at this
     exact this
    have E7 : Hid (Below w.heap.size w (W6.setCell ⟨g, k, none⟩ (.int .i64 0))) := below_set E6.out _ _ hgb
    have HSP7 := Lib.hid (spun_step HMK.out HD.out HSP.out hin)
    clear HO6 E6
    go_wp2_with fail
    go_roundw
    case rel => exact ⟨k, by omega, by go_num, HO7, HSP7, E7⟩
    case measure => simp [intOf]; (try omega)
end Go.Proofs.YtjiojpoiocdnmaaGreat
