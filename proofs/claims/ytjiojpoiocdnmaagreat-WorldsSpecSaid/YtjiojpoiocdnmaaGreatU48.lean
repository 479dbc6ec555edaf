/- The combinations of shifts: the reference's Shifts. -/
import Derived.Test.YtjiojpoiocdnmaaGreatU47
import Derived.Test.YtjiojpoiocdnmaaGreatNQ
import Derived.Test.YtjiojpoiocdnmaaGreatU42
set_option linter.unusedSimpArgs false
set_option linter.unusedVariables false
namespace Go.Proofs.YtjiojpoiocdnmaaGreat
open Go.RowKit
def stepX (L : List (List Int)) (m : Int) : List (List Int) := L.flatMap (fun b => (rngM m).map (fun n => b ++ [n]))
theorem foldl_exts : ∀ (ms : List Int) (L : List (List Int)), ms.foldl stepX L = L.flatMap (fun b => exts ms b)
 | [], L => by simp [exts]
 | m :: ms, L => by
  rw [List.foldl_cons, foldl_exts ms]
  unfold stepX
  rw [List.flatMap_assoc]
  congr 1
  funext b
  rw [List.flatMap_map]
  rfl
theorem steps_all (ss : List Stn) : (ss.map (·.sh)).foldl stepX [[]] = shiftsL ss := by
 rw [foldl_exts]
 simp [shiftsL]
theorem steps_snoc {ss : List Stn} {i : Nat} {x : Stn} (h : ss[i]? = some x) : ((ss.take (i + 1)).map (·.sh)).foldl stepX [[]] = stepX (((ss.take i).map (·.sh)).foldl stepX [[]]) x.sh := by
 rw [take_snoc2 h, List.map_append, List.foldl_append]
 rfl
theorem rngM_len {m : Int} (h0 : 0 ≤ m) (h3 : m ≤ 3) : (rngM m).length = (2 * m + 1).toNat := by simp [rngM]
theorem rngM_at {m : Int} {j : Nat} (h : j < (2 * m + 1).toNat) : (rngM m)[j]? = some ((j : Int) - m) := by simp [rngM, h]
theorem stepX_take {L : List (List Int)} {m : Int} {k : Nat} {b : List Int} (h : L[k]? = some b) : stepX (L.take (k + 1)) m = stepX (L.take k) m ++ (rngM m).map (fun n => b ++ [n]) := by
 unfold stepX
 rw [take_snoc2 h, List.flatMap_append]
 simp
/-- Rows of numbers, in memory. -/
structure MI (W : World) (base : Nat) (v : Value) (rows : List (SliceOf Int)) : Prop where
 o : Own W base 39 SliceOf.enc 1 v rows
 r : ∀ x ∈ rows, Own W base 3 ic 1 x.v x.l
theorem MI.ext {W W' : World} {base : Nat} {v : Value} {rows : List (SliceOf Int)} (h : MI W base v rows) (hb : Below W.heap.size W W') : MI W' base v rows :=
 ⟨h.o.ext hb, fun x hx => (h.r x hx).ext hb⟩
theorem MI.low {W : World} {base b2 : Nat} {v : Value} {rows : List (SliceOf Int)} (h : MI W base v rows) (hb : b2 ≤ base) : MI W b2 v rows :=
 ⟨h.o.low hb, fun x hx => (h.r x hx).low hb⟩
theorem MI.slc {W : World} {base : Nat} {A : Option Addr} {n c : Nat} {rows : List (SliceOf Int)} (h : MI W base (.slice A n c) rows) : Slc W SliceOf.enc 1 A rows := h.o.slc (fun _ => rfl) (by decide)
theorem own_ints {W : World} {base : Nat} {A : Option Addr} {n c : Nat} {l : List Int} (h : Own W base 3 ic 1 (.slice A n c) l) : Slc W ic 1 A l := h.slc (fun _ => rfl) (by decide)
theorem MI.add {W W' : World} {base : Nat} {v v' : Value} {rows : List (SliceOf Int)} {x : SliceOf Int} (h : MI W base v rows) (hx : Own W base 3 ic 1 x.v x.l) (ho : Own W' base 39 SliceOf.enc 1 v' (rows ++ [x])) (hg : W.grownBy W' v.ownBlock) : MI W' base v' (rows ++ [x]) := by
 refine ⟨ho, fun y hy => ?_⟩
 have h1 : Own W base 3 ic 1 y.v y.l := by
  rcases List.mem_append.1 hy with hy | hy
  ·exact h.r y hy
  ·obtain rfl := List.mem_singleton.1 hy; exact hx
 exact Own.far h1 hg (fun k e e' => h.o.ne h1 (by decide) k e' e)
set_option maxRecDepth 100000 in
set_option maxHeartbeats 16000000 in
theorem rshifts_at {A : Option Addr} {sn c : Nat} {ss : List Stn} {w : World} (hsn : sn = ss.length) (ha : Slc w Stn.cells 3 A ss) (hss : sn ≤ 4) (hsh : ∀ s ∈ ss, 0 ≤ s.sh ∧ s.sh ≤ 3) : Calls Tryz.prog 63 #[.slice A sn c] w (ShR w (shiftsL ss)) := by
 have HSN := Lib.hid hsn
 have HA := Lib.hid ha
 have HSH := Lib.hid hsh
 have h4 : ¬ (4 : Int) < (sn : Int) := by omega
 clear hsn ha hsh
 go_enter Tryz.func63, Tryz.ntmps63
 go_wp2_with fail
 have HM0 : Hid (MI ((w.alloc (.cells #[] 3)).alloc (.cells #[.slice (some ⟨w.heap.size, 0, none⟩) 0 0] 39)) w.heap.size (.slice (some ⟨w.heap.size + 1, 0, none⟩) 1 1) [⟨some ⟨w.heap.size, 0, none⟩, 0, []⟩]) := by
  refine ⟨own_litH (w.alloc (.cells #[] 3)) [(⟨some ⟨w.heap.size, 0, none⟩, 0, []⟩ : SliceOf Int)] _ 39 w.heap.size (by simp) (fun _ => rfl) (by simp [maxLen]) rfl (w.heap.size + 1) (by simp), fun x hx => ?_⟩
  obtain rfl := List.mem_singleton.1 hx
  exact (Own.made w w.heap.size 3 ic 1 (Nat.le_refl _)).alloc _
 go_loopw [4, 5] (fun a i wr => ∃ (k : Nat) (A4 : Option Addr) (n4 c4 : Nat) (rows : List (SliceOf Int)), k ≤ sn ∧ i = .int .i64 k ∧ a = .slice A4 n4 c4 ∧ Hid (n4 = rows.length) ∧ Hid (MI wr w.heap.size (.slice A4 n4 c4) rows) ∧ Hid (rows.map (·.l) = ((ss.take k).map (·.sh)).foldl stepX [[]]) ∧ Hid (rows.length ≤ 7 ^ k ∧ ∀ r ∈ rows, r.l.length = k) ∧ Hid (Below w.heap.size w wr)) (fun _ i _ => sn - (intOf i).toNat)
 case atStart => exact ⟨0, _, 1, 1, [⟨some ⟨w.heap.size, 0, none⟩, 0, []⟩], by omega, rfl, rfl, rfl, HM0, by simp [Hid], by simp [Hid], ext_alloc (ext_alloc (ext_refl w) _) _⟩
 case round =>
  obtain ⟨k, A4, n4, c4, rows, hk, rfl, rfl, HN4, HM4, HL4, HB4, EO⟩ := hrel
  obtain ⟨wo, rfl⟩ : ∃ wo, wo = wr := ⟨_, rfl⟩
  by_cases hlt : k < sn
  rotate_left
  ·obtain rfl : k = sn := by omega
   have hkn : ¬ (k : Int) < (k : Int) := by omega
   have HF : Hid (rows.map (·.l) = shiftsL ss) := by
    unfold Hid
    rw [HL4.out, List.take_of_length_le (by rw [HSN.out]; exact Nat.le_refl _), steps_all]
   clear HM0
   go_wp2_with fail
   go_ret2
   exact ⟨A4, n4, c4, rows, rfl, HN4.out, HM4.out.o, HM4.out.r, HF.out, EO.out⟩
  have hki : (k : Int) < (sn : Int) := by omega
  obtain ⟨x, xb, xo, hx, hxA, hxb, hxc⟩ := (HA.out.below (Nat.le_refl _) EO.out).at_ (k := k) (by rw [← HSN.out]; exact hlt)
  have d1 := hxc 1 _ rfl
  have HX := Lib.hid hx
  have hx3 := HSH.out x (List.mem_of_getElem? hx)
  obtain ⟨m, hm⟩ : ∃ m, x.sh = m := ⟨_, rfl⟩
  have HMM := Lib.hid hm
  rw [hm] at d1 hx3
  have D1 := Lib.hid d1
  have XL := Lib.hid hxb
  have hm0 : 0 ≤ m := hx3.1
  have hm3 : m ≤ 3 := hx3.2
  have g1 : ¬ m < 0 := by omega
  have g2 : ¬ 3 < m := by omega
  have hn4 : n4 ≤ 343 := by
   rw [HN4.out]
   exact Nat.le_trans HB4.out.1 (Nat.le_trans (Nat.pow_le_pow_right (by decide) (show k ≤ 3 by omega)) (by decide))
  subst hxA
  clear hx hxc hm hx3
  obtain ⟨wm, hwm⟩ : ∃ wm, wo.alloc (.cells #[] 39) = wm := ⟨_, rfl⟩
  have EM : Hid (Below wo.heap.size wo wm) := by rw [← hwm]; exact ext_alloc (ext_refl wo) _
  have EM0 := Lib.hid (ext_trans EO.out EM.out)
  have HMN : Hid (MI wm wo.heap.size (.slice (some ⟨wo.heap.size, 0, none⟩) 0 0) []) := by
   rw [← hwm]
   exact ⟨Own.made wo wo.heap.size 39 SliceOf.enc 1 (Nat.le_refl _), by simp⟩
  clear HM0
  go_wp2_with fail
  clear hwm d1 hxb g1 g2
  go_loopw [6, 7] (fun a i wr => ∃ (q : Nat) (A5 : Option Addr) (n5 c5 : Nat) (more : List (SliceOf Int)), q ≤ n4 ∧ i = .int .i64 q ∧ a = .slice A5 n5 c5 ∧ Hid (n5 = more.length) ∧ Hid (MI wr wo.heap.size (.slice A5 n5 c5) more) ∧ Hid (more.map (·.l) = stepX ((rows.map (·.l)).take q) m) ∧ n5 ≤ 7 * q ∧ Hid (∀ r ∈ more, r.l.length = k + 1) ∧ Hid (Below wo.heap.size wo wr)) (fun _ i _ => n4 - (intOf i).toNat)
  case atStart => exact ⟨0, _, 0, 0, [], by omega, rfl, rfl, rfl, HMN, by simp [Hid, stepX], by omega, by simp [Hid], EM⟩
  case round =>
   obtain ⟨q, A5, n5, c5, more, hq, rfl, rfl, HN5, HM6, HL6, hb6, HR6, EQ⟩ := hrel
   obtain ⟨wq, rfl⟩ : ∃ wq, wq = wr := ⟨_, rfl⟩
   have EQ0 := Lib.hid (ext_trans EO.out EQ.out)
   by_cases hqt : q < n4
   rotate_left
   ·obtain rfl : q = n4 := by omega
    have hqn : ¬ (q : Int) < (q : Int) := by omega
    have HL7 : Hid (more.map (·.l) = ((ss.take (k + 1)).map (·.sh)).foldl stepX [[]]) := by
     unfold Hid
     rw [HL6.out, List.take_of_length_le (by rw [List.length_map, HN4.out]; exact Nat.le_refl _), HL4.out, steps_snoc HX.out, HMM.out]
    have HB7 : Hid (more.length ≤ 7 ^ (k + 1) ∧ ∀ r ∈ more, r.l.length = k + 1) := by
     refine ⟨?_, HR6.out⟩
     have h1 := HB4.out.1
     rw [← HN4.out] at h1
     rw [← HN5.out, Nat.pow_succ]
     omega
    have HM7 := Lib.hid (HM6.out.low EO.out.size)
    clear HM6
    go_wp2_with fail
    go_roundw
    case rel => exact ⟨k + 1, A5, n5, c5, more, hlt, by go_num, rfl, HN5, HM7, HL7, HB7, EQ0⟩
    case measure => simp [intOf]; (try omega)
   have hqi : (q : Int) < (n4 : Int) := by omega
   obtain ⟨N, hN⟩ : ∃ N, (2 * m + 1).toNat = N := ⟨_, rfl⟩
   have hN7 : N ≤ 7 := by omega
   have hNI : (N : Int) = 2 * m + 1 := by omega
   have HNN := Lib.hid hN
   obtain ⟨y, yb, yo, hy, hyA, hyb, hyc⟩ := ((HM4.out.ext EQ.out).slc).at_ (k := q) (by rw [← HN4.out]; exact hqt)
   have HY := Lib.hid hy
   have HYK : Hid (y.l.length = k) := HB4.out.2 y (List.mem_of_getElem? hy)
   have HYC : Hid (wq.cell? ⟨yb, yo + q, none⟩ = some (.slice y.A k y.c)) := by
    have h := hyc 0 _ rfl
    rw [HYK.out] at h
    simpa [Hid] using h
   have HYB := Lib.hid hyb
   have HYO : Hid (Own wq w.heap.size 3 ic 1 (.slice y.A k y.c) y.l) := by
    have h := (HM4.out.ext EQ.out).r y (List.mem_of_getElem? hy)
    unfold SliceOf.v at h
    rw [HYK.out] at h
    exact h
   have x1 := (EQ.out.cell (p := ⟨xb, xo + k * 3 + 1, none⟩) XL.out).trans D1.out
   have xl : xb < wq.heap.size := Nat.lt_of_lt_of_le XL.out EQ.out.size
   have X1 := Lib.hid x1
   have XL1 := Lib.hid xl
   have hng : IntKind.i64.wrap (-m) = -m := IntWalk.i64_in _ (by omega)
   have hv0 : -m ≤ 4 := by omega
   have hv1 : -3 ≤ -m := by omega
   subst hyA
   clear hy hyb hyc hN
   go_wp2_with fail
   clear x1 xl hng
   go_loopw [6, 8] (fun a i wr => ∃ (j : Nat) (v : Int) (A6 : Option Addr) (n6 c6 : Nat) (mo : List (SliceOf Int)), j ≤ N ∧ i = .int .i64 v ∧ Hid (v = (j : Int) - m) ∧ -3 ≤ v ∧ v ≤ 4 ∧ a = .slice A6 n6 c6 ∧ Hid (n6 = mo.length) ∧ Hid (MI wr wo.heap.size (.slice A6 n6 c6) mo) ∧ Hid (mo.map (·.l) = stepX ((rows.map (·.l)).take q) m ++ ((rngM m).take j).map (fun n => y.l ++ [n])) ∧ n6 ≤ 7 * q + j ∧ Hid (∀ r ∈ mo, r.l.length = k + 1) ∧ Hid (Below wq.heap.size wq wr ∨ Below wo.heap.size wo wr) ∧ Hid (Below wo.heap.size wo wr)) (fun _ i _ => (m + 1 - intOf i).toNat)
   case atStart => exact ⟨0, -m, A5, n5, c5, more, by omega, rfl, by simp [Hid], hv1, hv0, rfl, HN5, HM6, by unfold Hid; rw [HL6.out]; simp, hb6, HR6, .inl (ext_refl _), EQ⟩
   case round =>
    obtain ⟨j, v, A6, n6, c6, mo, hj, rfl, HV, hvl, hvh, rfl, HN6, HM7, HL7, hb7, HR7, -, EJ⟩ := hrel
    obtain ⟨wj, rfl⟩ : ∃ wj, wj = wr := ⟨_, rfl⟩
    have x1 := (EJ.out.cell (p := ⟨xb, xo + k * 3 + 1, none⟩) XL.out).trans D1.out
    have xl : xb < wj.heap.size := Nat.lt_of_lt_of_le XL.out EJ.out.size
    have hv := HV.out
    by_cases hjt : j < N
    rotate_left
    ·obtain rfl : j = N := by omega
     have hvm : ¬ v ≤ m := by omega
     have HL8 : Hid (mo.map (·.l) = stepX ((rows.map (·.l)).take (q + 1)) m) := by
      have hb : (rows.map (·.l))[q]? = some y.l := by rw [List.getElem?_map, HY.out]; rfl
      unfold Hid
      rw [HL7.out, stepX_take hb, List.take_of_length_le (l := rngM m) (by rw [rngM_len hm0 hm3, HNN.out]; exact Nat.le_refl _)]
     clear hv
     go_wp2_with fail
     go_roundw
     case rel => exact ⟨q + 1, A6, n6, c6, mo, hqt, by go_num, rfl, HN6, HM7, HL8, by omega, HR7, EJ⟩
     case measure => simp [intOf]; (try omega)
    have hvm : v ≤ m := by omega
    have hvw : IntKind.i64.wrap (v + 1) = v + 1 := IntWalk.i64_in _ (by omega)
    have yc : wj.cell? ⟨yb, yo + q, none⟩ = some (.slice y.A k y.c) := by
     obtain ⟨y2, yb2, yo2, hy2, hyA2, hyb2, hyc2⟩ := ((HM4.out.ext EJ.out).slc).at_ (k := q) (by rw [← HN4.out]; exact hqt)
     injection hyA2 with hyA2
     injection hyA2 with e1 e2
     subst e1 e2
     obtain rfl : y2 = y := Option.some.inj (hy2.symm.trans HY.out)
     have h := hyc2 0 _ rfl
     rw [HYK.out] at h
     simpa using h
    have yl : yb < wj.heap.size := by
     obtain ⟨y2, yb2, yo2, hy2, hyA2, hyb2, hyc2⟩ := ((HM4.out.ext EJ.out).slc).at_ (k := q) (by rw [← HN4.out]; exact hqt)
     injection hyA2 with hyA2
     injection hyA2 with e1 e2
     subst e1 e2
     exact hyb2
    have HYJ : Own wj w.heap.size 3 ic 1 (.slice y.A k y.c) y.l := by
     have h := (HM4.out.ext EJ.out).r y (List.mem_of_getElem? HY.out)
     unfold SliceOf.v at h
     rw [HYK.out] at h
     exact h
    have ha := ext_alloc (ext_refl wj) (.cells #[] 3)
    obtain ⟨_, Wb, hrun1, A7, c7, rfl, hO1, hB1, -, -, -⟩ := Own.append_k (w0 := wj) intI 39 (Own.madeH (α := Int) wj wj.heap.size 3 ic 1 (Nat.le_refl _) wj.heap.size rfl) ha (ys := y.l) (m := k) HYK.out.symm y.c (own_ints (HYJ.ext ha)) y.l rfl k HYK.out (by omega) (by unfold maxLen; omega)
    have hc := ext_alloc (ext_refl Wb) (.cells #[.int .i64 v] 3)
    obtain ⟨_, Wd, hrun2, A8, c8, rfl, hO2, hB2, -, -, -⟩ := Own.append_k (w0 := wj) intI 39 (hO1.ext hc) (ext_trans hB1 hc) (ys := [v]) (m := 1) rfl 1 (slc_litH Wb [v] #[.int .i64 v] 3 (enc := ic) (sz := 1) (fun _ => rfl) rfl Wb.heap.size rfl) (y.l ++ [v]) rfl (k + 1) (by rw [List.length_append, HYK.out]; rfl) (by omega) (by unfold maxLen; omega)
    have he := ext_alloc (ext_refl Wd) (.cells #[.slice A8 (k + 1 : Nat) c8] 39)
    have hE5 := ext_trans hB2 he
    have hM5 := HM7.out.ext hE5
    have hB5 := ext_trans EJ.out hE5
    obtain ⟨_, Wf, hrun3, A9, c9, rfl, hO3, hB3, hg3, -, -⟩ := Own.append_k (w0 := wo) rowI 25 hM5.o hB5 (ys := [(⟨A8, c8, y.l ++ [v]⟩ : SliceOf Int)]) (m := 1) rfl 1 (slc_litH Wd [(⟨A8, c8, y.l ++ [v]⟩ : SliceOf Int)] #[.slice A8 (k + 1 : Nat) c8] 39 (enc := SliceOf.enc) (sz := 1) (fun _ => rfl) (by simp [SliceOf.enc, HYK.out]) Wd.heap.size rfl) (mo ++ [⟨A8, c8, y.l ++ [v]⟩]) rfl (n6 + 1) (by rw [List.length_append, ← HN6.out]; rfl) (by omega) (by unfold maxLen; omega)
    have hx5 : Own (Wd.alloc (.cells #[.slice A8 (k + 1 : Nat) c8] 39)) wo.heap.size 3 ic 1 (⟨A8, c8, y.l ++ [v]⟩ : SliceOf Int).v (y.l ++ [v]) := by
     show Own _ _ 3 ic 1 (.slice A8 (y.l ++ [v]).length c8) (y.l ++ [v])
     rw [show (y.l ++ [v]).length = k + 1 by rw [List.length_append, HYK.out]; rfl]
     exact (hO2.low EJ.out.size).ext he
    have HM9 := Lib.hid (hM5.add (x := ⟨A8, c8, y.l ++ [v]⟩) hx5 hO3 hg3)
    have HN9 : Hid (n6 + 1 = (mo ++ [(⟨A8, c8, y.l ++ [v]⟩ : SliceOf Int)]).length) := by unfold Hid; rw [List.length_append, ← HN6.out]; rfl
    have HR9 : Hid (∀ r ∈ mo ++ [(⟨A8, c8, y.l ++ [v]⟩ : SliceOf Int)], r.l.length = k + 1) := fun r hr => by
     rcases List.mem_append.1 hr with h | h
     ·exact HR7.out r h
     ·obtain rfl := List.mem_singleton.1 h
      show (y.l ++ [v]).length = _
      rw [List.length_append, HYK.out]; rfl
    have HL9 : Hid ((mo ++ [(⟨A8, c8, y.l ++ [v]⟩ : SliceOf Int)]).map (·.l) = stepX ((rows.map (·.l)).take q) m ++ ((rngM m).take (j + 1)).map (fun n => y.l ++ [n])) := by
     have hr := rngM_at (m := m) (j := j) (by rw [HNN.out]; exact hjt)
     unfold Hid
     rw [List.map_append, HL7.out, take_snoc2 hr, List.map_append, ← HV.out, List.append_assoc]
     rfl
    have HB9 := Lib.hid hB3
    have HV9 : Hid (v + 1 = ((j + 1 : Nat) : Int) - m) := by unfold Hid; omega
    have R1 := Lib.hid hrun1
    have R2 := Lib.hid hrun2
    have R3 := Lib.hid hrun3
    clear hrun1 hrun2 hrun3 hO1 hO2 hO3 hB1 hB2 hB3 hg3 hx5 hM5 hB5 hE5 ha hc he HYJ hv
    go_wp2_with (at_builtin; first | refine wpList_append_run rfl (.tmp 57) (.tmp 61) 39 rfl (.slice (some ⟨wj.heap.size, 0, none⟩) 0 0) (.slice y.A k y.c) rfl rfl R1.out ?_ | refine wpList_append_run rfl (.tmp 62) (.tmp 64) 39 rfl (.slice A7 k c7) (.slice (some ⟨Wb.heap.size, 0, none⟩) 1 1) rfl rfl R2.out ?_ | refine wpList_append_run rfl (.tmp 56) (.tmp 66) 25 rfl (.slice A6 n6 c6) (.slice (some ⟨Wd.heap.size, 0, none⟩) 1 1) rfl rfl R3.out ?_)
    go_roundw
    case rel => exact ⟨j + 1, v + 1, A9, n6 + 1, c9, _, hjt, by go_num, HV9, by omega, by omega, rfl, HN9, HM9, HL9, by omega, HR9, .inr HB9.out, HB9⟩
    case measure => simp [intOf]; (try omega)
end Go.Proofs.YtjiojpoiocdnmaaGreat
/- Are there shifts with which picks are a world: the reference's 'any'. -/
set_option linter.unusedSimpArgs false
set_option linter.unusedVariables false
namespace Go.Proofs.YtjiojpoiocdnmaaGreat
open Go.RowKit
theorem within_in : ∀ {ms x : List Int}, Within ms x → x.length = ms.length ∧ ((∀ m ∈ ms, 0 ≤ m ∧ m ≤ 3) → ∀ h ∈ x, -3 ≤ h ∧ h ≤ 3)
 | [], x, h => by
  have h : x = [] := h
  subst h
  exact ⟨rfl, fun _ h hh => by cases hh⟩
 | m :: ms, x, h => by
  obtain ⟨n, r, rfl, h1, h2, h3⟩ := h
  have ih := within_in h3
  refine ⟨by simp [ih.1], fun hm z hz => ?_⟩
  rcases List.mem_cons.1 hz with rfl | hz
  ·have := hm m List.mem_cons_self; omega
  ·exact ih.2 (fun x hx => hm x (List.mem_cons_of_mem _ hx)) z hz
def anyS (s : List Stn) (R : List Rep) (l : List Trk) (st : List (List (List Sty))) (picks : List Int) : Bool := (shiftsL s).any (fun h => worldS s R (rightAt st l picks h))
set_option maxRecDepth 100000 in
set_option maxHeartbeats 8000000 in
theorem rany_at {SA RA LA TA PA : Option Addr} {sn sc rn rc ln lc tn tc pn pc : Nat} {s : List Stn} {R : List Rep} {l : List Trk} {st : List (SliceOf (SliceOf Sty))} {picks : List Int} {w : World} (B : Bool) (hB : anyS s R l (stL st) picks = B)
  (hsn : sn = s.length) (hrn : rn = R.length) (hln : ln = l.length) (htn : tn = st.length) (hpn : pn = picks.length) (hs : StnS w SA sc s) (hR : Slc w Rep.cells 6 RA R) (hl : TrkS w LA lc l) (ht : STV w TA st) (hp : Slc w ic 1 PA picks)
  (htl : tn = ln) (hpl : pn = ln) (hpk : PickIn st picks) (hsh : ∀ y ∈ s, 0 ≤ y.sh ∧ y.sh ≤ 3) (hmi : ∀ r ∈ R, 0 ≤ r.mi ∧ r.mi ≤ 1439) (hsm : sn ≤ 4) (hrm : rn ≤ 1024) (hlm : ln ≤ 12) :
  Calls Tryz.prog 36 #[.slice SA sn sc, .slice RA rn rc, .slice LA ln lc, .slice TA tn tc, .slice PA pn pc] w (RetB w B) := by
 have HB := Lib.hid hB
 have HS := Lib.hid hs
 have HSN := Lib.hid hsn
 have HSH := Lib.hid hsh
 have HW := Lib.hid (show ∀ (u : World) (HA : Option Addr) (hc : Nat) (h : List Int), Below w.heap.size w u → h ∈ shiftsL s → Slc u ic 1 HA h → Calls Tryz.prog 64 #[.slice SA sn sc, .slice RA rn rc, .slice LA ln lc, .slice TA tn tc, .slice PA pn pc, .slice HA sn hc] u (RetB u (worldS s R (rightAt (stL st) l picks h))) from fun u HA hc h hu hh hA => by
  obtain ⟨h1, h2⟩ := within_in (mem_shifts.1 hh)
  rw [List.length_map] at h1
  exact rworld_at _ rfl hsn hrn hln htn hpn (by rw [h1]; exact hsn) (hs.ext hu) (hR.ext hu) (hl.ext hu) (ht.ext hu) (hp.ext hu) hA htl hpl rfl hpk (h2 (fun m hm => by obtain ⟨y, hy, rfl⟩ := List.mem_map.1 hm; exact hsh y hy)) hmi hsm hrm hlm)
 clear hB hs hsn hrn hln htn hpn hR hl ht hp htl hpl hpk hsh hmi hrm hlm
 go_enter Tryz.func36, Tryz.ntmps36
 go_wp2_with fail
 refine (rshifts_at HSN.out HS.out.slc hsm HSH.out).mono ?_
 rintro e w1 ⟨A, n, c, rows, rfl, hn, hO, hR, hM, B1⟩
 have HN := Lib.hid hn
 have HO := Lib.hid (show MI w1 w.heap.size (.slice A n c) rows from ⟨hO, hR⟩)
 have HM := Lib.hid hM
 have E1 := Lib.hid B1
 have hnm : n ≤ 2 ^ 63 - 1 := by rw [hn]; exact hO.lenMax
 clear hn hO hR hM B1
 go_wp2_with fail
 go_loopw [13] (fun i wr => ∃ k : Nat, k ≤ n ∧ i = .int .i64 k ∧ Hid (∀ h ∈ rows.take k, worldS s R (rightAt (stL st) l picks h.l) = false) ∧ Hid (Below w1.heap.size w1 wr)) (fun i _ => n - (intOf i).toNat)
 case atStart => exact ⟨0, by omega, rfl, by simp [Hid], ext_refl _⟩
 case round =>
  obtain ⟨k, hk, rfl, HF, EO⟩ := hrel
  obtain ⟨wo, rfl⟩ : ∃ wo, wo = wr := ⟨_, rfl⟩
  have EZ := Lib.hid (ext_trans E1.out EO.out)
  by_cases hlt : k < n
  rotate_left
  ·obtain rfl : k = n := by omega
   have hkn : ¬ (k : Int) < (k : Int) := by omega
   obtain rfl : B = false := by
    rw [← HB.out]
    unfold anyS
    rw [← HM.out, List.any_map, List.any_eq_false]
    intro h hh
    rw [Function.comp, HF.out h (by rw [List.take_of_length_le (by rw [HN.out]; exact Nat.le_refl _)]; exact hh)]
    simp
   clear HW
   go_wp2_with fail
   go_ret
   exact ⟨rfl, EZ.out⟩
  have hki : (k : Int) < (n : Int) := by omega
  obtain ⟨h, hb, ho, hh, hA, hhb, hhc⟩ := ((HO.out.ext EO.out).slc).at_ (k := k) (by rw [← HN.out]; exact hlt)
  have hmem : h.l ∈ shiftsL s := by rw [← HM.out]; exact List.mem_map.2 ⟨h, List.mem_of_getElem? hh, rfl⟩
  have hlen : h.l.length = sn := by
   have := (within_in (mem_shifts.1 hmem)).1
   rw [List.length_map] at this
   rw [this, HSN.out]
  have d0 : wo.cell? ⟨hb, ho + k, none⟩ = some (.slice h.A sn h.c) := by
   have q := hhc 0 _ rfl
   rw [hlen] at q
   simpa using q
  have HI := Lib.hid (own_ints (show Own wo w.heap.size 3 ic 1 (.slice h.A h.l.length h.c) h.l from (HO.out.ext EO.out).r h (List.mem_of_getElem? hh)))
  have HH := Lib.hid hh
  obtain ⟨b, hb2⟩ : ∃ b, worldS s R (rightAt (stL st) l picks h.l) = b := ⟨_, rfl⟩
  have HBB := Lib.hid hb2
  have HC := Lib.hid (HW.out wo h.A h.c h.l EZ.out hmem HI.out)
  rw [hb2] at HC
  subst hA
  clear hh hhc hmem hlen hb2
  go_wp2_with fail
  refine HC.out.mono ?_
  rintro e w3 ⟨rfl, B3⟩
  have E9 := Lib.hid (ext_trans EZ.out B3)
  have E8 := Lib.hid (ext_trans EO.out B3)
  clear B3 HC d0 hhb
  cases b with
  | true =>
   obtain rfl : B = true := by
    rw [← HB.out]
    unfold anyS
    rw [← HM.out, List.any_map, List.any_eq_true]
    exact ⟨h, List.mem_of_getElem? HH.out, HBB.out⟩
   clear HW
   go_wp2_with fail
   go_ret
   exact ⟨rfl, E9.out⟩
  | false =>
   have HF2 : Hid (∀ h ∈ rows.take (k + 1), worldS s R (rightAt (stL st) l picks h.l) = false) := fun z hz => by
    rw [take_snoc2 HH.out] at hz
    rcases List.mem_append.1 hz with h1 | h1
    ·exact HF.out z h1
    ·rw [List.mem_singleton] at h1
     subst h1
     exact HBB.out
   clear HW HBB HB HF
   go_wp2_with fail
   go_roundw
   case rel => exact ⟨k + 1, hlt, by go_num, HF2, E8⟩
   case measure => simp [intOf]; (try omega)
end Go.Proofs.YtjiojpoiocdnmaaGreat
/- The reference's World. -/
set_option linter.unusedSimpArgs false
set_option linter.unusedVariables false
namespace Go.Proofs.YtjiojpoiocdnmaaGreat
open Go.RowKit
theorem ask_parts {t : Tab} {s : List Stn} {R : List Rep} {l : List Trk} (h : askE t s R l = 0) : wchkE t l = 0 ∧ s.length ≤ 4 ∧ R.length ≤ 1024 ∧ (∀ y ∈ s, 0 ≤ y.sh ∧ y.sh ≤ 3) ∧ (∀ r ∈ R, 0 ≤ r.mi ∧ r.mi ≤ 1439) ∧ (∀ r ∈ R, 0 ≤ r.st ∧ r.st < (s.length : Int)) := by
 obtain ⟨h1, h2⟩ := ask0.1 h
 obtain ⟨a, b, c, d⟩ := askB_iff.1 h2
 refine ⟨h1, a, b, fun y hy => ?_, fun r hr => ?_, fun r hr => ?_⟩
 ·have := c y hy
  simp only [stnB, Bool.and_eq_true, inn_iff] at this
  omega
 ·have := d r hr
  simp only [repB, Bool.and_eq_true, inn_iff] at this
  omega
 ·have := d r hr
  simp only [repB, Bool.and_eq_true, inn_iff] at this
  omega
theorem anyS_eq {t : Tab} {s : List Stn} {R : List Rep} {l : List Trk} {picks : List Int} (h : askE t s R l = 0) : anyS s R l (stT t l) picks = worldP t s R l picks := by
 obtain ⟨_, h1, _, _, _, h2⟩ := ask_parts h
 unfold anyS worldP worldT wrongAll
 congr 1
 funext x
 exact worldS_eq _ h1 h2
theorem pick_in {t : Tab} {l : List Trk} {st : List (SliceOf (SliceOf Sty))} {picks : List Int} (hst : st.map (fun r => r.l.map (·.l)) = stT t l) (hp : pickOk l picks) : PickIn st picks := by
 intro n z hz
 have h1 : (stT t l)[n]? = some (z.l.map (·.l)) := by rw [← hst, List.getElem?_map, hz]; rfl
 unfold stT at h1
 rw [List.getElem?_map] at h1
 obtain ⟨y, hy, hyz⟩ := Option.map_eq_some_iff.1 h1
 have hlen : z.l.length = y.ps.l.length := by
  have := congrArg List.length hyz
  simpa using this.symm
 have hn : n < picks.length := by rw [hp.1]; exact (List.getElem?_eq_some_iff.1 hy).1
 have h2 := hp.2 n _ y (List.getElem?_eq_getElem hn) hy
 refine ⟨(picks[n]).toNat, ?_, by omega⟩
 rw [List.getElem?_eq_getElem hn, Int.toNat_of_nonneg h2.1]
end Go.Proofs.YtjiojpoiocdnmaaGreat
/- Are there too many combinations: the reference's 'tooMany'. -/
set_option linter.unusedSimpArgs false
set_option linter.unusedVariables false
namespace Go.Proofs.YtjiojpoiocdnmaaGreat
open Go.RowKit
def cntK (l : List Trk) (q : Nat) (c : ByteArray) : Nat := cnt ((idxs l q c).map (fun i => (msT l).getD i 0))
theorem msT_at {l : List Trk} {k : Nat} {x : Trk} (h : l[k]? = some x) : (msT l).getD k 0 = x.ps.l.length := by
 unfold msT
 rw [List.getD_eq_getElem?_getD, List.getElem?_map, h]; rfl
theorem cntK_yes {l : List Trk} {k : Nat} {x : Trk} {c : ByteArray} (h : l[k]? = some x) (e : x.fl.call = c) : cntK l (k + 1) c = cntK l k c * x.ps.l.length := by
 unfold cntK
 rw [idxs_succ h, if_pos e, List.map_append, List.map_cons, List.map_nil, cnt_snoc, msT_at h]
theorem cntK_no {l : List Trk} {k : Nat} {x : Trk} {c : ByteArray} (h : l[k]? = some x) (e : ¬ x.fl.call = c) : cntK l (k + 1) c = cntK l k c := by
 unfold cntK
 rw [idxs_succ h, if_neg e]
theorem cntK_mono {l : List Trk} (hp : ∀ y ∈ l, 1 ≤ y.ps.l.length) (c : ByteArray) {q : Nat} : ∀ d, q + d ≤ l.length → cntK l q c ≤ cntK l (q + d) c
 | 0, _ => Nat.le_refl _
 | d + 1, h => by
  have ih := cntK_mono hp c (q := q) d (by omega)
  have hx := List.getElem?_eq_getElem (show q + d < l.length by omega)
  refine Nat.le_trans ih ?_
  rw [← Nat.add_assoc]
  by_cases e : (l[q + d]'(by omega)).fl.call = c
  ·rw [cntK_yes hx e]
   exact Nat.le_mul_of_pos_right _ (hp _ (List.mem_of_getElem? hx))
  ·rw [cntK_no hx e]
   exact Nat.le_refl _
set_option maxRecDepth 100000 in
set_option maxHeartbeats 4000000 in
theorem rmany_at {LA : Option Addr} {ln lc : Nat} {l : List Trk} {w : World} (B : Bool) (hB : manyB l = B) (hln : ln = l.length) (hl : TrkS w LA lc l) (hlm : ln ≤ 12) (hps : ∀ y ∈ l, 1 ≤ y.ps.l.length ∧ y.ps.l.length ≤ 4096) : Calls Tryz.prog 41 #[.slice LA ln lc] w (RetB w B) := by
 have HB := Lib.hid hB
 have HLN := Lib.hid hln
 have HL := Lib.hid hl
 have HPS := Lib.hid hps
 clear hB hln hl hps
 go_enter Tryz.func41, Tryz.ntmps41
 go_wp2_with fail
 go_loopw [3] (fun i wr => ∃ k : Nat, k ≤ ln ∧ i = .int .i64 k ∧ Hid (∀ x ∈ l.take k, ¬ 4096 < cntC l x.fl.call) ∧ Hid (Below w.heap.size w wr)) (fun i _ => ln - (intOf i).toNat)
 case atStart => exact ⟨0, by omega, rfl, by simp [Hid], ext_refl _⟩
 case round =>
  obtain ⟨k, hk, rfl, HF, EO⟩ := hrel
  obtain ⟨wo, rfl⟩ : ∃ wo, wo = wr := ⟨_, rfl⟩
  by_cases hlt : k < ln
  rotate_left
  ·obtain rfl : k = ln := by omega
   have hkn : ¬ (k : Int) < (k : Int) := by omega
   obtain rfl : B = false := by
    rw [← HB.out]
    unfold manyB
    rw [List.any_eq_false]
    intro x hx
    rw [decide_eq_true_eq]
    exact HF.out x (by rw [List.take_of_length_le (by rw [HLN.out]; exact Nat.le_refl _)]; exact hx)
   go_wp2_with fail
   go_ret
   exact ⟨rfl, EO.out⟩
  have hki : (k : Int) < (ln : Int) := by omega
  obtain ⟨x, xb, xo, hx, hxA, hxb, hxc⟩ := (HL.out.slc.below (Nat.le_refl _) EO.out).at_ (k := k) (by rw [← HLN.out]; exact hlt)
  have HX := Lib.hid hx
  have X3 := Lib.hid (hxc 3 _ rfl)
  have XL := Lib.hid hxb
  subst hxA
  clear hx hxb hxc
  go_wp2_with fail
  go_loopw [4, 5] (fun a i wr => ∃ (q P : Nat), q ≤ ln ∧ i = .int .i64 q ∧ a = .int .i64 P ∧ Hid (cntK l q x.fl.call = P) ∧ P ≤ 4096 ∧ Hid (Below wo.heap.size wo wr)) (fun _ i _ => ln - (intOf i).toNat)
  case atStart => exact ⟨0, 1, by omega, rfl, rfl, rfl, by omega, ext_refl _⟩
  case round =>
   obtain ⟨q, P, hq, rfl, rfl, HP, hPm, EQ⟩ := hrel
   obtain ⟨wi, rfl⟩ : ∃ wi, wi = wr := ⟨_, rfl⟩
   have EI := Lib.hid (ext_trans EO.out EQ.out)
   by_cases hqt : q < ln
   rotate_left
   ·obtain rfl : q = ln := by omega
    have hqn : ¬ (q : Int) < (q : Int) := by omega
    have HF2 : Hid (∀ x ∈ l.take (k + 1), ¬ 4096 < cntC l x.fl.call) := fun z hz => by
     rw [take_snoc2 HX.out] at hz
     rcases List.mem_append.1 hz with h1 | h1
     ·exact HF.out z h1
     ·rw [List.mem_singleton] at h1
      subst h1
      have h := HP.out
      rw [HLN.out] at h
      have h2 : cntC l z.fl.call = P := h
      rw [h2]; omega
    go_wp2_with fail
    go_roundw
    case rel => exact ⟨k + 1, hlt, by go_num, HF2, EI⟩
    case measure => simp [intOf]; (try omega)
   have hqi : (q : Int) < (ln : Int) := by omega
   obtain ⟨y, yb, yo, hy, hyA, hyb, hyc⟩ := (HL.out.slc.below (Nat.le_refl _) EI.out).at_ (k := q) (by rw [← HLN.out]; exact hqt)
   injection hyA with hyA
   injection hyA with e1 e2
   subst e1 e2
   have x3 := (EQ.out.cell (p := ⟨xb, xo + k * 14 + 3, none⟩) XL.out).trans X3.out
   have y3 := hyc 3 _ rfl
   have y12 := hyc 12 _ rfl
   have xl := hyb
   have HY := Lib.hid hy
   obtain ⟨m, hm⟩ : ∃ m, y.ps.l.length = m := ⟨_, rfl⟩
   have HM := Lib.hid hm
   have hmb := HPS.out y (List.mem_of_getElem? hy)
   rw [hm] at y12 hmb
   have hmm : m ≤ 4096 := hmb.2
   have hPM : P * m ≤ 4096 * 4096 := Nat.mul_le_mul hPm hmm
   have hcw : IntKind.i64.wrap ((P : Int) * (m : Int)) = ((P * m : Nat) : Int) := by rw [← Int.natCast_mul]; exact IntWalk.i64_in _ (by omega)
   obtain ⟨p, hp⟩ : ∃ p, P * m = p := ⟨_, rfl⟩
   rw [hp] at hcw hPM
   have HPP := Lib.hid hp
   have Y12 := Lib.hid y12
   have XL2 := Lib.hid xl
   clear hy hyb hyc hm hmb hp y12
   cases hcc : (y.fl.call.toList == x.fl.call.toList) with
   | false =>
    have HP2 : Hid (cntK l (q + 1) x.fl.call = P) := by
     unfold Hid
     rw [cntK_no HY.out (fun e => by rw [e] at hcc; simp at hcc)]; exact HP.out
    clear hcw
    go_wp2_with fail
    have SS := Lib.hid (show ∀ w', Below wi.heap.size wi w' → (fun w' => Below wi.heap.size wi w' ∧ w'.cell? ⟨xb, xo + q * 14 + 3, none⟩ = some (.string y.fl.call) ∧ w'.cell? ⟨xb, xo + k * 14 + 3, none⟩ = some (.string x.fl.call)) w' from fun w' h => ⟨h, (h.cell (p := ⟨xb, xo + q * 14 + 3, none⟩) xl).trans y3, (h.cell (p := ⟨xb, xo + k * 14 + 3, none⟩) xl).trans x3⟩)
    refine rgB 13 SS (ext_drew (ext_refl _)) (fun Q7 hQ7 hN7 hHeld => ?_)
    refine rgT 0 (some 18) hQ7 hHeld ?_; refine rgT 1 (some 19) hQ7 hHeld ?_; refine rgT 2 (some 20) hQ7 hHeld ?_; refine rgT 3 (some 21) hQ7 hHeld ?_; refine rgT 4 (some 22) hQ7 hHeld ?_; refine rgT 5 (some 23) hQ7 hHeld ?_; refine rgT 6 (some 24) hQ7 hHeld ?_; refine rgT 7 (some 25) hQ7 hHeld ?_; refine rgT 8 (some 26) hQ7 hHeld ?_; refine rgT 9 (some 27) hQ7 hHeld ?_; refine rgT 10 (some 28) hQ7 hHeld ?_
    refine rgT 11 (some 29) hQ7 hHeld ?_; refine rgT 12 (some 30) hQ7 hHeld ?_
    refine rg_end (by kernel_rfl) (hN7 _ _ ?_) _
    clear hQ7 hN7 Q7
    have BX := hHeld.1
    clear SS
    have E9 := Lib.hid (ext_trans EQ.out BX)
    clear BX x3 y3 xl
    go_wp2_with fail
    go_roundw
    case rel => exact ⟨q + 1, P, hqt, by go_num, rfl, HP2, hPm, E9⟩
    case measure => simp [intOf]; (try omega)
   | true =>
    have HP2 : Hid (cntK l (q + 1) x.fl.call = p) := by
     unfold Hid
     rw [cntK_yes HY.out (str_inj (beq_iff_eq.1 hcc)), HP.out, HM.out]; exact HPP.out
    go_wp2_with fail
    have SS := Lib.hid (show ∀ w', Below wi.heap.size wi w' → (fun w' => Below wi.heap.size wi w' ∧ w'.cell? ⟨xb, xo + q * 14 + 3, none⟩ = some (.string y.fl.call) ∧ w'.cell? ⟨xb, xo + k * 14 + 3, none⟩ = some (.string x.fl.call)) w' from fun w' h => ⟨h, (h.cell (p := ⟨xb, xo + q * 14 + 3, none⟩) xl).trans y3, (h.cell (p := ⟨xb, xo + k * 14 + 3, none⟩) xl).trans x3⟩)
    refine rgB 13 SS (ext_drew (ext_refl _)) (fun Q7 hQ7 hN7 hHeld => ?_)
    refine rgT 0 (some 18) hQ7 hHeld ?_; refine rgT 1 (some 19) hQ7 hHeld ?_; refine rgT 2 (some 20) hQ7 hHeld ?_; refine rgT 3 (some 21) hQ7 hHeld ?_; refine rgT 4 (some 22) hQ7 hHeld ?_; refine rgT 5 (some 23) hQ7 hHeld ?_; refine rgT 6 (some 24) hQ7 hHeld ?_; refine rgT 7 (some 25) hQ7 hHeld ?_; refine rgT 8 (some 26) hQ7 hHeld ?_; refine rgT 9 (some 27) hQ7 hHeld ?_; refine rgT 10 (some 28) hQ7 hHeld ?_
    refine rgT 11 (some 29) hQ7 hHeld ?_; refine rgT 12 (some 30) hQ7 hHeld ?_
    refine rg_end (by kernel_rfl) (hN7 _ _ ?_) _
    clear hQ7 hN7 Q7
    have BX := hHeld.1
    clear SS
    obtain ⟨w5, hw5⟩ : ∃ w5, wi.drew = w5 := ⟨_, rfl⟩
    rw [hw5] at BX ⊢
    have y12 := (BX.cell (p := ⟨xb, xo + q * 14 + 12, none⟩) xl).trans Y12.out
    have xl5 : xb < w5.heap.size := Nat.lt_of_lt_of_le xl BX.size
    have E9 := Lib.hid (ext_trans EQ.out BX)
    have E8 := Lib.hid (ext_trans EI.out BX)
    clear BX x3 y3 xl hw5
    by_cases hbig : 4096 < p
    ·have hbig' : (4096 : Int) < (p : Int) := by omega
     obtain rfl : B = true := by
      rw [← HB.out]
      unfold manyB
      rw [List.any_eq_true]
      refine ⟨x, List.mem_of_getElem? HX.out, decide_eq_true ?_⟩
      have h1 := cntK_mono (fun y hy => (HPS.out y hy).1) x.fl.call (l := l) (q := q + 1) (ln - (q + 1)) (by rw [← HLN.out]; omega)
      rw [HP2.out, show q + 1 + (ln - (q + 1)) = ln by omega, HLN.out] at h1
      exact Nat.lt_of_lt_of_le hbig h1
     go_wp2_with fail
     go_ret
     exact ⟨rfl, E8.out⟩
    ·have hbig' : ¬ (4096 : Int) < (p : Int) := by omega
     go_wp2_with fail
     go_roundw
     case rel => exact ⟨q + 1, p, hqt, by go_num, by go_num, HP2, by omega, E9⟩
     case measure => simp [intOf]; (try omega)
end Go.Proofs.YtjiojpoiocdnmaaGreat
