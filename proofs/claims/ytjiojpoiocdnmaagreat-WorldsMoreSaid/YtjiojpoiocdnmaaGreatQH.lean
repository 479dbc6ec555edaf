/- Slices cut; stations changed; law 3. -/
import Derived.Test.YtjiojpoiocdnmaaGreatQG
set_option linter.unusedSimpArgs false
set_option linter.unusedVariables false
namespace Go.Proofs.YtjiojpoiocdnmaaGreat
open Go.RowKit Go.Shelf
def fromR (A : Option Addr) (c k : Nat) : Option Addr := if c = k then A else A.map (·.add (k * 6))
set_option maxRecDepth 100000 in
theorem slice_fromR (A : Option Addr) (len c k : Nat) (i : Int) (hi : i = k) (h1 : k ≤ len) (h2 : len ≤ c) (w : World) : (Instr.sliceAt 30 (.slice A len c) (some (.int .i64 i)) none none).run Tryz.prog w = .ok (.slice (fromR A c k) (len - k) (c - k)) w := by
  subst hi
  have hs : (sizeOf (Tryz.prog.elem 30)).run Tryz.prog w = .ok 6 w := by kernel_rfl
  rw [run_sliceAt_slice w 30 _ _ _ _ Tryz.underlying30, run_slice_l w 30 A len c Tryz.underlying30 _ _ (by omega) (by omega)]
  simp only [hs, Result.andThen, sliced, fromR]
  rfl
set_option maxRecDepth 100000 in
theorem slice_headR (A : Option Addr) (len c k : Nat) (i : Int) (hi : i = k) (h2 : k ≤ c) (w : World) : (Instr.sliceAt 30 (.slice A len c) none (some (.int .i64 i)) none).run Tryz.prog w = .ok (.slice A k c) w := by
  subst hi
  have hs : (sizeOf (Tryz.prog.elem 30)).run Tryz.prog w = .ok 6 w := by kernel_rfl
  rw [run_sliceAt_slice w 30 _ _ _ _ Tryz.underlying30, run_slice_h w 30 A len c Tryz.underlying30 _ _ (by omega) (by omega)]
  simp only [hs, Result.andThen, sliced]
  have : (fun x : Addr => x.add (0 * 6)) = id := by funext a; simp [Addr.add]
  rw [this]
  simp
theorem Slc.fromR {α : Type} {w : World} {enc : α → List Value} {A : Option Addr} {l : List α} (h : Slc w enc 6 A l) (k c : Nat) (hc : l.length ≤ c) : Slc w enc 6 (Go.Proofs.YtjiojpoiocdnmaaGreat.fromR A c k) (l.drop k) := by
  unfold Go.Proofs.YtjiojpoiocdnmaaGreat.fromR
  split
  · rename_i e
    subst e
    rw [List.drop_of_length_le hc]
    exact Slc.nil
  · exact h.drop k
theorem stnI : EInfo Tryz.prog 29 41 Stn.cells 3 40 := by
  obtain ⟨i, h1, h2, h3, h4⟩ := iparts (show (Tryz.prog.info? 41).map (fun i => (i.zero, i.size, i.bytes)) = some (some (.agg #[.slice none 0 0, .int .i64 0, .int .i64 0]), 3, 40) by kernel_rfl)
  exact ⟨Tryz.underlying29, ⟨i, _, h1, h2, h3, h4, rfl⟩, by decide, fun _ => rfl, fun x u hu => by simp [Stn.cells] at hu; rcases hu with rfl | rfl | rfl <;> rfl⟩
def StnS (W : World) (A : Option Addr) (c : Nat) (l : List Stn) : Prop := SliceOf.ok Stn.cells 3 Stn.ok W ⟨A, c, l⟩
theorem StnS.ext {W W' : World} {A : Option Addr} {c : Nat} {l : List Stn} (h : StnS W A c l) (hb : Below W.heap.size W W') : StnS W' A c l := SliceOf.ok.ext h hb (fun _ k => k.ext hb)
theorem light_at {t : Tab} {SA RA LA : Option Addr} {sn sc rn rc ln lc : Nat} {s : List Stn} {R : List Rep} {l : List Trk} {w : World} (most : Nat) (m : Int) (hm : m = most) (hm1 : 1 ≤ most) (hm2 : most ≤ 1000) (hsn : sn = s.length) (hrn : rn = R.length) (hln : ln = l.length) (hrm : rn ≤ maxLen) (ht : Tab.ok w t) (hs : StnS w SA sc s) (hl : TrkS w LA lc l) :
    Calls Tryz.prog 10 #[t.v, .slice SA sn sc, .slice RA rn rc, .slice LA ln lc, .int .i64 m] w (FewR w (LightP most s R l)) := by
  subst hm hsn hln
  exact light10 most hm1 hm2 t SA sc s RA rn rc LA lc l R w hrn hrm ht hs hl
theorem Own.addr {α : Type} {W : World} {base : Nat} {e : TypeId} {enc : α → List Value} {sz : Nat} {A : Option Addr} {n c : Nat} {l : List α} (h : Own W base e enc sz (.slice A n c) l) (hn : 0 < n) : ∃ g, A = some ⟨g, 0, none⟩ ∧ base ≤ g ∧ g < W.heap.size ∧ n = l.length := by
  rcases h.2 with ⟨hv, h0⟩ | ⟨g, cap, cur, hv, hb, hg, _⟩
  · injection hv with _ e1 _
    omega
  · injection hv with e1 e2 e3
    exact ⟨g, e1, hb, (Array.getElem?_eq_some_iff.1 hg).1, e2⟩
/-- A station in a row of the call's own: its cells, and what a store into one leaves. -/
theorem stn_cells {W : World} {base g c n : Nat} {l : List Stn} (h : Own W base 41 Stn.cells 3 (.slice (some ⟨g, 0, none⟩) n c) l) {j : Nat} {x : Stn} (hx : l[j]? = some x) : W.cell? ⟨g, j * 3 + 1, none⟩ = some (.int .i64 x.sh) ∧ W.cell? ⟨g, j * 3 + 2, none⟩ = some (.int .i64 x.fa) := by
  obtain ⟨y, b, o, hy, hA, _, hc⟩ := (show Slc W Stn.cells 3 (some ⟨g, 0, none⟩) l from h.slc (fun _ => rfl) (by decide)).at_ (List.getElem?_eq_some_iff.1 hx).1
  injection hA with hA
  injection hA with e1 e2
  subst e1 e2
  obtain rfl : y = x := Option.some.inj (hy.symm.trans hx)
  have h1 := hc 1 _ rfl
  have h2 := hc 2 _ rfl
  rw [Nat.zero_add] at h1 h2
  exact ⟨h1, h2⟩
theorem stn_setF {W : World} {base g c n : Nat} {l : List Stn} (h : Own W base 41 Stn.cells 3 (.slice (some ⟨g, 0, none⟩) n c) l) {j : Nat} {x : Stn} (hx : l[j]? = some x) : Own (W.setCell ⟨g, j * 3 + 2, none⟩ (.int .i64 (min (x.fa + 1) 3))) base 41 Stn.cells 3 (.slice (some ⟨g, 0, none⟩) n c) (l.set j (moreF x)) :=
  Own.set_ (sz := 3) (r := 2) (y := moreF x) (fun _ => rfl) h hx (by decide) rfl
theorem stn_setS {W : World} {base g c n : Nat} {l : List Stn} (h : Own W base 41 Stn.cells 3 (.slice (some ⟨g, 0, none⟩) n c) l) {j : Nat} {x : Stn} (hx : l[j]? = some x) : Own (W.setCell ⟨g, j * 3 + 1, none⟩ (.int .i64 (min (x.sh + 1) 3))) base 41 Stn.cells 3 (.slice (some ⟨g, 0, none⟩) n c) (l.set j (wideF x)) :=
  Own.set_ (sz := 3) (r := 1) (y := wideF x) (fun _ => rfl) h hx (by decide) rfl
theorem own_stn {W : World} {base c n : Nat} {A : Option Addr} {l : List Stn} (h : Own W base 41 Stn.cells 3 (.slice A n c) l) (hn : n = l.length) (hc : l.length ≤ c) (hm : c ≤ maxLen) (hA : A = none → c = 0) (ho : ∀ x ∈ l, Stn.ok W x) : StnS W A c l :=
  ⟨h.slc (fun _ => rfl) (by decide), hc, hm, hA, ho⟩
theorem mem_set_stn {W : World} {l : List Stn} {j : Nat} {y : Stn} (h : ∀ x ∈ l, Stn.ok W x) (hy : Stn.ok W y) : ∀ x ∈ l.set j y, Stn.ok W x := fun x hx => by
  rcases List.mem_or_eq_of_mem_set hx with h1 | rfl
  · exact h x h1
  · exact hy
theorem L_bounds {t : Tab} {s : List Stn} {R : List Rep} {l : List Trk} (hl : l.length ≤ 5) (hp : ∀ y ∈ l, y.ps.l.length ≤ 20) : (possV t s R l).length ≤ 100000 ∧ ∀ x ∈ possV t s R l, x.length ≤ 100000 := by
  unfold possV
  split
  · refine ⟨by rw [possL_len]; omega, fun x hx => ?_⟩
    obtain ⟨n, hn⟩ := List.mem_iff_getElem?.1 hx
    rw [(possL_at hn).1]
    unfold msT
    rw [List.getD_eq_getElem?_getD, List.getElem?_map]
    cases hy : l[n]? with
    | none => simp
    | some y => have := hp y (List.mem_of_getElem? hy); simp; omega
  · exact ⟨by simp, by simp⟩
set_option maxRecDepth 100000 in
set_option maxHeartbeats 64000000 in
theorem law3 (t : Tab) (SA : Option Addr) (sc : Nat) (s : List Stn) (RA : Option Addr) (rc : Nat) (R : List Rep) (LA : Option Addr) (lc : Nat) (l : List Trk) (ia ib : Int) (ha0 : 0 ≤ ia) (ha1 : ia ≤ 255) (hb0 : 0 ≤ ib) (hb1 : ib ≤ 255) (w : World) (ht : Tab.ok w t) (hs : StnS w SA sc s) (hR : SliceOf.ok Rep.cells 6 Rep.ok w ⟨RA, rc, R⟩) (hl : TrkS w LA lc l) :
    Calls Tryz.prog 3 #[t.v, .slice SA s.length sc, .slice RA R.length rc, .slice LA l.length lc, .int .u8 ia, .int .u8 ib] w (Tru w) := by
  obtain ⟨rn, hrn⟩ : ∃ rn, R.length = rn := ⟨_, rfl⟩
  obtain ⟨sn, hsn⟩ : ∃ sn, s.length = sn := ⟨_, rfl⟩
  have HRN := Lib.hid hrn
  have HSN := Lib.hid hsn
  have hrc : rn ≤ rc := by rw [← hrn]; exact hR.2.1
  have hrm : rc ≤ 2 ^ 63 - 1 := hR.2.2.1
  have hsc : sn ≤ 2 ^ 63 - 1 := by rw [← hsn]; exact hs.len
  rw [hrn, hsn]
  clear hrn hsn
  have HT := Lib.hid ht
  have HS := Lib.hid hs
  have HR := Lib.hid hR
  have HL := Lib.hid hl
  obtain ⟨W0, hW0⟩ : ∃ W0, w.alloc (.cells #[.int .i64 t.n, .slice t.ss.A t.ss.l.length t.ss.c, .slice t.cs.A t.cs.l.length t.cs.c, .slice t.ws.A t.ws.l.length t.ws.c, .slice t.ms.A t.ms.l.length t.ms.c, .slice t.ks.A t.ks.l.length t.ks.c] 28) = W0 := ⟨_, rfl⟩
  have E0 : Hid (Below w.heap.size w W0) := by rw [← hW0]; exact ext_alloc (ext_refl w) _
  have T0 : Hid (Blk W0 w.heap.size t.cells) := by rw [← hW0]; exact Blk.newH w t.cells 28 w.heap.size rfl
  clear ht hs hR hl
  go_enter Tryz.func3, Tryz.ntmps3
  go_wp2_with fail
  refine (sane_any W0).mono ?_
  rintro e w1 ⟨rfl, B⟩
  have E1 := Lib.hid (ext_trans E0.out B)
  have T1 := Lib.hid (T0.out.ext B)
  clear hW0 B E0 T0
  have b0 := T1.out.c 0 _ rfl
  have b1 := T1.out.c 1 _ rfl
  have b2 := T1.out.c 2 _ rfl
  have b3 := T1.out.c 3 _ rfl
  have b4 := T1.out.c 4 _ rfl
  have b5 := T1.out.c 5 _ rfl
  have b6 := T1.out.lt
  go_wp2_with fail
  clear b0 b1 b2 b3 b4 b5 b6
  refine (light_at (s := s) (R := R) (l := l) 400 400 rfl (by decide) (by decide) HSN.out.symm HRN.out.symm rfl (by unfold maxLen; omega) (HT.out.ext E1.out) (HS.out.ext E1.out) (HL.out.ext E1.out)).mono ?_
  rintro e w2 ⟨r, rfl, hLP, B⟩
  have E2 := Lib.hid (ext_trans E1.out B)
  have T2 := Lib.hid (T1.out.ext B)
  clear B E1 T1
  cases r
  · go_wp2_with fail
    go_ret
    exact ⟨rfl, E2.out⟩
  have HLP := Lib.hid (hLP rfl)
  clear hLP
  have hrn : rn ≤ 10 := by rw [← HRN.out]; exact HLP.out.hr
  have hsn : sn ≤ 6 := by rw [← HSN.out]; exact HLP.out.hs
  obtain ⟨EE, hE⟩ : ∃ EE, possErr t s R l = EE := ⟨_, rfl⟩
  obtain ⟨L, hL⟩ : ∃ L, possV t s R l = L := ⟨_, rfl⟩
  obtain ⟨n1, hn1⟩ : ∃ n1, L.length = n1 := ⟨_, rfl⟩
  have HE := Lib.hid hE
  have HLL := Lib.hid hL
  have HLB : Hid (L.length ≤ 100000 ∧ ∀ x ∈ L, x.length ≤ 100000) := by rw [← hL]; exact L_bounds HLP.out.hl HLP.out.hps
  have HP := Lib.hid (poss_lit (SA := SA) (sn := sn) (sc := sc) (RA := RA) (rn := rn) (rc := rc) (LA := LA) (ln := l.length) (lc := lc) EE n1 L hE hL hn1 HSN.out.symm HRN.out.symm rfl (HT.out.ext E2.out) (HS.out.ext E2.out) (HR.out.slc.ext E2.out) (HL.out.ext E2.out) (by rw [HSN.out]; omega) (by rw [HRN.out]; omega) (by have := HLP.out.hl; omega))
  clear hE hL hn1
  have b0 := T2.out.c 0 _ rfl
  have b1 := T2.out.c 1 _ rfl
  have b2 := T2.out.c 2 _ rfl
  have b3 := T2.out.c 3 _ rfl
  have b4 := T2.out.c 4 _ rfl
  have b5 := T2.out.c 5 _ rfl
  have b6 := T2.out.lt
  go_wp2_with fail
  clear b0 b1 b2 b3 b4 b5 b6
  refine HP.out.mono ?_
  rintro e wr ⟨A1, c1, rfl, hP, B⟩
  have E3 := Lib.hid (ext_trans E2.out B)
  have T3 := Lib.hid (T2.out.ext B)
  have P3 := Lib.hid hP.ra
  clear B hP HP E2 T2
  by_cases hz : EE = 0
  rotate_left
  · have hz' : ((EE : Int) == 0) = false := by rw [beq_eq_false_iff_ne]; exact hz
    clear hz
    go_wp2_with fail
    go_ret
    exact ⟨rfl, E3.out⟩
  subst hz
  have HRr := Lib.hid (HR.out.slc.ext E3.out)
  rcases Nat.eq_zero_or_pos rn with hr0 | hr0
  case' inl =>
    subst hr0
    obtain ⟨W5, hW5⟩ : ∃ W5, W5 = wr := ⟨_, rfl⟩
    rw [← hW5] at E3 T3 P3 ⊢
    have E5 := E3
    have T5 := T3
    have P5 := P3
    clear hW5 E3 T3 P3 HRr
  case' inr =>
    obtain ⟨i, hi⟩ : ∃ i : Nat, ia.tmod rn = (i : Int) := ⟨(ia.tmod rn).toNat, by rw [Int.toNat_of_nonneg (Int.tmod_nonneg _ ha0)]⟩
    have hirn : i < rn := by
      have := Int.tmod_lt_of_pos ia (show (0 : Int) < rn by omega)
      omega
    have hr0' : 0 < (rn : Int) := by omega
    have hs1 := fun w : World => slice_headR RA rn rc i (i : Int) rfl (by omega) w
    have hs2 := fun w : World => slice_fromR RA rn rc (i + 1) ((i : Int) + 1) (by omega) (by omega) hrc w
    have hs3 := fun w : World => slice_fromR RA rn rc i (i : Int) rfl (by omega) hrc w
    have HKT := Lib.hid (show (R.take i).length = i by rw [List.length_take, HRN.out]; omega)
    have HKD := Lib.hid (show (R.drop (i + 1)).length = rn - (i + 1) by rw [List.length_drop, HRN.out])
    have HKE := Lib.hid (show (R.drop i).length = rn - i by rw [List.length_drop, HRN.out])
    obtain ⟨AF, hAF⟩ : ∃ z, fromR RA rc (i + 1) = z := ⟨_, rfl⟩
    obtain ⟨AG, hAG⟩ : ∃ z, fromR RA rc i = z := ⟨_, rfl⟩
    have HD := Lib.hid (show Slc wr Rep.cells 6 AF (R.drop (i + 1)) by rw [← hAF]; exact HRr.out.fromR (i + 1) rc (by rw [HRN.out]; exact hrc))
    have HD3 := Lib.hid (show Slc wr Rep.cells 6 AG (R.drop i) by rw [← hAG]; exact HRr.out.fromR i rc (by rw [HRN.out]; exact hrc))
    rw [hAF] at hs2
    rw [hAG] at hs3
    have HAG := Lib.hid hAG
    clear hAF hAG
    have hw1 : IntKind.i64.wrap ((i : Int) + 1) = (i : Int) + 1 := IntWalk.i64_in _ (by omega)
    go_wp2_with fail
    have SS := Lib.hid (show ∀ w', Below wr.heap.size wr w' → (fun w' => Below wr.heap.size wr w') w' from fun w' h => h)
    refine rg_begin (S := (fun w' => Below wr.heap.size wr w')) 11 (by kernel_rfl) (by intro d; cases d <;> intro _ _ _ _ h <;> exact h) ?_ (fun Q7 hQ7 hN7 hHeld => ?_)
    · exact SS.out _ (ext_drew (ext_refl _))
    refine rg_take (i := 1) (some 58) (v := ?_) rfl rfl (by kernel_rfl) (by rfl) hQ7 hHeld ?_ ?_
    rotate_left
    · intro w7 hSw; (try dsimp only at hSw); go_simp; all_goals with_reducible rfl
    try simp only [Act.put, List.setIfInBounds_toArray, List.set_cons_zero, List.set_cons_succ]
    refine rg_take (i := 2) (some 59) (v := ?_) rfl rfl (by kernel_rfl) (by rfl) hQ7 hHeld ?_ ?_
    rotate_left
    · intro w7 hSw; (try dsimp only at hSw); go_simp; all_goals with_reducible rfl
    try simp only [Act.put, List.setIfInBounds_toArray, List.set_cons_zero, List.set_cons_succ]
    refine rg_take (i := 3) (some 60) (v := .slice RA i rc) rfl rfl (by kernel_rfl) (by rfl) hQ7 hHeld (fun w7 hSw => run_v (hs1 w7)) ?_
    try simp only [Act.put, List.setIfInBounds_toArray, List.set_cons_zero, List.set_cons_succ]
    refine rg_take (i := 5) (some 62) (v := ?_) rfl rfl (by kernel_rfl) (by rfl) hQ7 hHeld ?_ ?_
    rotate_left
    · intro w7 hSw; (try dsimp only at hSw); go_simp; all_goals with_reducible rfl
    try simp only [Act.put, List.setIfInBounds_toArray, List.set_cons_zero, List.set_cons_succ]
    refine rg_take (i := 6) (some 63) (v := ?_) rfl rfl (by kernel_rfl) (by rfl) hQ7 hHeld ?_ ?_
    rotate_left
    · intro w7 hSw; (try dsimp only at hSw); go_simp; all_goals with_reducible rfl
    try simp only [Act.put, List.setIfInBounds_toArray, List.set_cons_zero, List.set_cons_succ]
    refine rg_take (i := 7) (some 64) (v := ?_) rfl rfl (by kernel_rfl) (by rfl) hQ7 hHeld ?_ ?_
    rotate_left
    · intro w7 hSw; (try dsimp only at hSw); go_simp; all_goals with_reducible rfl
    try simp only [Act.put, List.setIfInBounds_toArray, List.set_cons_zero, List.set_cons_succ]
    refine rg_take (i := 8) (some 65) (v := .slice AF (rn - (i + 1)) (rc - (i + 1))) rfl rfl (by kernel_rfl) (by rfl) hQ7 hHeld (fun w7 hSw => run_v (hs2 w7)) ?_
    try simp only [Act.put, List.setIfInBounds_toArray, List.set_cons_zero, List.set_cons_succ]
    refine rg_one (i := 0) (by kernel_rfl) (rg_step rfl (by rfl) (fun K hK => ?_))
    go_simp
    refine hK.out _ _ ?_ (fun hHeld2 => ?_)
    · exact SS.out _ (ext_alloc hHeld _)
    clear hHeld
    have hHeld := hHeld2
    clear hHeld2
    clear hK K
    try simp only [Act.put, List.setIfInBounds_toArray, List.set_cons_zero, List.set_cons_succ]
    refine rg_one (i := 4) (by kernel_rfl) (rg_step rfl (by rfl) (fun K hK => ?_))
    refine rg_append (some 61) _ _ 30 30 rfl rfl rfl _ _ rfl rfl (Own.append_k (w0 := wr) repI 30 ((Own.madeH (α := Rep) wr wr.heap.size 55 Rep.cells 6 (by simp) wr.heap.size (by simp)).drew_) hHeld (ys := R.take i) (m := i) HKT.out.symm rc ((HRr.out.ext hHeld).take i) (R.take i) rfl i HKT.out (by omega) (by unfold maxLen; omega)) ?_
    rintro _ u1 ⟨A2, q2, rfl, hO1, B1, hg1, hq1, hm1⟩
    refine hK.out _ _ ?_ (fun hHeld2 => ?_)
    · exact SS.out _ B1
    clear hHeld
    have hHeld := hHeld2
    clear hHeld2
    clear hK K
    try simp only [Act.put, List.setIfInBounds_toArray, List.set_cons_zero, List.set_cons_succ]
    refine rg_one (i := 9) (by kernel_rfl) (rg_step rfl (by rfl) (fun K hK => ?_))
    refine rg_append (some 66) _ _ 30 30 rfl rfl rfl _ _ rfl rfl (Own.append_k (w0 := wr) repI 30 hO1 hHeld (ys := R.drop (i + 1)) (m := rn - (i + 1)) HKD.out.symm (rc - (i + 1)) (HD.out.ext hHeld) (R.take i ++ R.drop (i + 1)) rfl (i + (rn - (i + 1))) (by rw [List.length_append, HKT.out, HKD.out]) (by omega) (by unfold maxLen; omega)) ?_
    rintro _ u2 ⟨A2, q2, rfl, hO2, B2, hg2, hq2, hm2⟩
    refine hK.out _ _ ?_ (fun hHeld2 => ?_)
    · exact SS.out _ B2
    clear hHeld
    have hHeld := hHeld2
    clear hHeld2
    clear hK K
    try simp only [Act.put, List.setIfInBounds_toArray, List.set_cons_zero, List.set_cons_succ]
    refine rg_take (i := 10) (some 17) (v := ?_) rfl rfl (by kernel_rfl) (by rfl) hQ7 hHeld ?_ ?_
    rotate_left
    · intro w7 hSw; (try dsimp only at hSw); go_simp; all_goals with_reducible rfl
    try simp only [Act.put, List.setIfInBounds_toArray, List.set_cons_zero, List.set_cons_succ]
    refine rg_end (by kernel_rfl) (hN7 _ _ ?_) _
    clear hQ7 hN7 Q7
    have BX := hHeld
    clear SS
    have E4 := Lib.hid (ext_trans E3.out BX)
    have T4 := Lib.hid (T3.out.ext BX)
    have P4 := Lib.hid (P3.out.ext BX)
    have O4 := Lib.hid (show Slc u2 Rep.cells 6 A2 (R.take i ++ R.drop (i + 1)) from hO2.slc (fun _ => rfl) (by decide))
    have HLS := law_less HE.out (by rw [HRN.out]; omega) i
    obtain ⟨L2, hL2⟩ : ∃ L2, possV t s (R.take i ++ R.drop (i + 1)) l = L2 := ⟨_, rfl⟩
    obtain ⟨n2, hn2⟩ : ∃ n2, L2.length = n2 := ⟨_, rfl⟩
    have HQ := Lib.hid (poss_lit (SA := SA) (sn := sn) (sc := sc) (RA := A2) (rn := i + (rn - (i + 1))) (rc := q2) (LA := LA) (ln := l.length) (lc := lc) 0 n2 L2 HLS.1 hL2 hn2 HSN.out.symm (by rw [List.length_append, HKT.out, HKD.out]) rfl (HT.out.ext E4.out) (HS.out.ext E4.out) O4.out (HL.out.ext E4.out) (by rw [HSN.out]; omega) (by rw [List.length_append, HKT.out, HKD.out]; omega) (by have := HLP.out.hl; omega))
    have HLE : Hid (leL L L2 = true) := by rw [← hL2, ← HLL.out]; exact HLS.2
    clear HLS hL2 hn2 E3 T3 P3 BX B1 B2 hO1 hO2 hg1 hg2 hq1 hq2 hm1 hm2 O4 hs2 hw1
    have b0 := T4.out.c 0 _ rfl
    have b1 := T4.out.c 1 _ rfl
    have b2 := T4.out.c 2 _ rfl
    have b3 := T4.out.c 3 _ rfl
    have b4 := T4.out.c 4 _ rfl
    have b5 := T4.out.c 5 _ rfl
    have b6 := T4.out.lt
    go_wp2_with fail
    clear b0 b1 b2 b3 b4 b5 b6
    refine HQ.out.mono ?_
    rintro e wr ⟨A3, c3, rfl, hP, B⟩
    have E5 := Lib.hid (ext_trans E4.out B)
    have T5 := Lib.hid (T4.out.ext B)
    have P5 := Lib.hid (P4.out.ext B)
    have Q5 := Lib.hid hP.ra
    have HRr := Lib.hid (HR.out.slc.ext E5.out)
    have HD3 := Lib.hid (show Slc wr Rep.cells 6 AG (R.drop i) by rw [← HAG.out]; exact HRr.out.fromR i rc (by rw [HRN.out]; exact hrc))
    clear E4 T4 P4 B hP HQ HD
    go_wp2_with fail
    have SS := Lib.hid (show ∀ w', Below wr.heap.size wr w' → (fun w' => Below wr.heap.size wr w') w' from fun w' h => h)
    refine rg_begin (S := (fun w' => Below wr.heap.size wr w')) 10 (by kernel_rfl) (by intro d; cases d <;> intro _ _ _ _ h <;> exact h) ?_ (fun Q7 hQ7 hN7 hHeld => ?_)
    · exact SS.out _ (ext_drew (ext_refl _))
    refine rg_take (i := 1) (some 76) (v := ?_) rfl rfl (by kernel_rfl) (by rfl) hQ7 hHeld ?_ ?_
    rotate_left
    · intro w7 hSw; (try dsimp only at hSw); go_simp; all_goals with_reducible rfl
    try simp only [Act.put, List.setIfInBounds_toArray, List.set_cons_zero, List.set_cons_succ]
    refine rg_take (i := 2) (some 77) (v := ?_) rfl rfl (by kernel_rfl) (by rfl) hQ7 hHeld ?_ ?_
    rotate_left
    · intro w7 hSw; (try dsimp only at hSw); go_simp; all_goals with_reducible rfl
    try simp only [Act.put, List.setIfInBounds_toArray, List.set_cons_zero, List.set_cons_succ]
    refine rg_take (i := 3) (some 78) (v := .slice AG (rn - i) (rc - i)) rfl rfl (by kernel_rfl) (by rfl) hQ7 hHeld (fun w7 hSw => run_v (hs3 w7)) ?_
    try simp only [Act.put, List.setIfInBounds_toArray, List.set_cons_zero, List.set_cons_succ]
    refine rg_take (i := 5) (some 80) (v := ?_) rfl rfl (by kernel_rfl) (by rfl) hQ7 hHeld ?_ ?_
    rotate_left
    · intro w7 hSw; (try dsimp only at hSw); go_simp; all_goals with_reducible rfl
    try simp only [Act.put, List.setIfInBounds_toArray, List.set_cons_zero, List.set_cons_succ]
    refine rg_take (i := 6) (some 81) (v := ?_) rfl rfl (by kernel_rfl) (by rfl) hQ7 hHeld ?_ ?_
    rotate_left
    · intro w7 hSw; (try dsimp only at hSw); go_simp; all_goals with_reducible rfl
    try simp only [Act.put, List.setIfInBounds_toArray, List.set_cons_zero, List.set_cons_succ]
    refine rg_take (i := 7) (some 82) (v := .slice RA i rc) rfl rfl (by kernel_rfl) (by rfl) hQ7 hHeld (fun w7 hSw => run_v (hs1 w7)) ?_
    try simp only [Act.put, List.setIfInBounds_toArray, List.set_cons_zero, List.set_cons_succ]
    refine rg_one (i := 0) (by kernel_rfl) (rg_step rfl (by rfl) (fun K hK => ?_))
    go_simp
    refine hK.out _ _ ?_ (fun hHeld2 => ?_)
    · exact SS.out _ (ext_alloc hHeld _)
    clear hHeld
    have hHeld := hHeld2
    clear hHeld2
    clear hK K
    try simp only [Act.put, List.setIfInBounds_toArray, List.set_cons_zero, List.set_cons_succ]
    refine rg_one (i := 4) (by kernel_rfl) (rg_step rfl (by rfl) (fun K hK => ?_))
    refine rg_append (some 79) _ _ 30 30 rfl rfl rfl _ _ rfl rfl (Own.append_k (w0 := wr) repI 30 ((Own.madeH (α := Rep) wr wr.heap.size 55 Rep.cells 6 (by simp) wr.heap.size (by simp)).drew_) hHeld (ys := R.drop i) (m := rn - i) HKE.out.symm (rc - i) (HD3.out.ext hHeld) (R.drop i) rfl (rn - i) HKE.out (by omega) (by unfold maxLen; omega)) ?_
    rintro _ u1 ⟨A2, q2, rfl, hO1, B1, hg1, hq1, hm1⟩
    refine hK.out _ _ ?_ (fun hHeld2 => ?_)
    · exact SS.out _ B1
    clear hHeld
    have hHeld := hHeld2
    clear hHeld2
    clear hK K
    try simp only [Act.put, List.setIfInBounds_toArray, List.set_cons_zero, List.set_cons_succ]
    refine rg_one (i := 8) (by kernel_rfl) (rg_step rfl (by rfl) (fun K hK => ?_))
    refine rg_append (some 83) _ _ 30 30 rfl rfl rfl _ _ rfl rfl (Own.append_k (w0 := wr) repI 30 hO1 hHeld (ys := R.take i) (m := i) HKT.out.symm rc ((HRr.out.ext hHeld).take i) (R.drop i ++ R.take i) rfl (rn - i + i) (by rw [List.length_append, HKT.out, HKE.out]) (by omega) (by unfold maxLen; omega)) ?_
    rintro _ u2 ⟨A2, q2, rfl, hO2, B2, hg2, hq2, hm2⟩
    refine hK.out _ _ ?_ (fun hHeld2 => ?_)
    · exact SS.out _ B2
    clear hHeld
    have hHeld := hHeld2
    clear hHeld2
    clear hK K
    try simp only [Act.put, List.setIfInBounds_toArray, List.set_cons_zero, List.set_cons_succ]
    refine rg_take (i := 9) (some 20) (v := ?_) rfl rfl (by kernel_rfl) (by rfl) hQ7 hHeld ?_ ?_
    rotate_left
    · intro w7 hSw; (try dsimp only at hSw); go_simp; all_goals with_reducible rfl
    try simp only [Act.put, List.setIfInBounds_toArray, List.set_cons_zero, List.set_cons_succ]
    refine rg_end (by kernel_rfl) (hN7 _ _ ?_) _
    clear hQ7 hN7 Q7
    have BX := hHeld
    clear SS
    have E6 := Lib.hid (ext_trans E5.out BX)
    have T6 := Lib.hid (T5.out.ext BX)
    have P6 := Lib.hid (P5.out.ext BX)
    have Q6 := Lib.hid (Q5.out.ext BX)
    have O6 := Lib.hid (show Slc u2 Rep.cells 6 A2 (R.drop i ++ R.take i) from hO2.slc (fun _ => rfl) (by decide))
    have HLT := law_turn HE.out i
    obtain ⟨n3, hn3⟩ : ∃ n3, L.length = n3 := ⟨_, rfl⟩
    have HQ := Lib.hid (poss_lit (SA := SA) (sn := sn) (sc := sc) (RA := A2) (rn := rn - i + i) (rc := q2) (LA := LA) (ln := l.length) (lc := lc) 0 n3 L HLT.1 (HLT.2.symm.trans HLL.out) hn3 HSN.out.symm (by rw [List.length_append, HKT.out, HKE.out]) rfl (HT.out.ext E6.out) (HS.out.ext E6.out) O6.out (HL.out.ext E6.out) (by rw [HSN.out]; omega) (by rw [List.length_append, HKT.out, HKE.out]; omega) (by have := HLP.out.hl; omega))
    clear HLT hn3 E5 T5 P5 Q5 BX B1 B2 hO1 hO2 hg1 hg2 hq1 hq2 hm1 hm2 O6 hs1 hs3
    have b0 := T6.out.c 0 _ rfl
    have b1 := T6.out.c 1 _ rfl
    have b2 := T6.out.c 2 _ rfl
    have b3 := T6.out.c 3 _ rfl
    have b4 := T6.out.c 4 _ rfl
    have b5 := T6.out.c 5 _ rfl
    have b6 := T6.out.lt
    go_wp2_with fail
    clear b0 b1 b2 b3 b4 b5 b6
    refine HQ.out.mono ?_
    rintro e w7 ⟨A4, c4, rfl, hP, B⟩
    have E7 := Lib.hid (ext_trans E6.out B)
    have T7 := Lib.hid (T6.out.ext B)
    have P7 := Lib.hid (P6.out.ext B)
    have Q7 := Lib.hid (Q6.out.ext B)
    have S7 := Lib.hid hP.ra
    clear E6 T6 P6 Q6 B hP HQ
    go_wp2_with fail
    refine (within_ra true HLE.out P7.out Q7.out HLB.out.1 HLB.out.2).mono ?_
    rintro e w8 ⟨rfl, B⟩
    have E8 := Lib.hid (ext_trans E7.out B)
    have T8 := Lib.hid (T7.out.ext B)
    have P8 := Lib.hid (P7.out.ext B)
    have S8 := Lib.hid (S7.out.ext B)
    clear E7 T7 P7 Q7 S7 B
    go_wp2_with fail
    refine (same_ra true (by simp) P8.out S8.out HLB.out.1 HLB.out.2).mono ?_
    rintro e W5 ⟨rfl, B⟩
    have E5 := Lib.hid (ext_trans E8.out B)
    have T5 := Lib.hid (T8.out.ext B)
    have P5 := Lib.hid (P8.out.ext B)
    clear E8 T8 P8 S8 B
    clear HKT HKD HKE HD3 HRr HLE HAG
  all_goals
    obtain ⟨j, hj⟩ : ∃ j : Nat, ib.tmod sn = (j : Int) := ⟨(ib.tmod sn).toNat, by rw [Int.toNat_of_nonneg (Int.tmod_nonneg _ hb0)]⟩
    by_cases hsp : 0 < sn
    rotate_left
    · obtain rfl : sn = 0 := by omega
      clear hj
      go_wp2_with fail
      go_ret
      exact ⟨rfl, E5.out⟩
    have hjs : j < sn := by
      have := Int.tmod_lt_of_pos ib (show (0 : Int) < sn by omega)
      omega
    have hsp' : 0 < (sn : Int) := by omega
    have hji : (j : Int) < (sn : Int) := by omega
    have HSr := Lib.hid (HS.out.ext E5.out)
    have hO0 := Own.madeH (α := Stn) W5 W5.heap.size 41 Stn.cells 3 (by simp) W5.heap.size rfl
    obtain ⟨_, w6, hrun, A6, q6, rfl, hO6, B6, -, hq6, hm6⟩ := Own.append_k (w0 := W5) stnI 29 hO0 (ext_alloc (ext_refl W5) _) (ys := s) (m := sn) HSN.out.symm sc (HSr.out.slc.alloc _) s rfl sn HSN.out (by omega) (by unfold maxLen; omega)
    obtain ⟨g, rfl, hgb, hgl, -⟩ := hO6.addr hsp
    obtain ⟨x, hx⟩ : ∃ x, s[j]? = some x := ⟨_, List.getElem?_eq_getElem (by rw [HSN.out]; exact hjs)⟩
    have hcc := stn_cells hO6 hx
    have d2 := hcc.2
    have df := fun q => Own.frozen hO6 q
    obtain ⟨v, hv⟩ : ∃ v, min (x.fa + 1) 3 = v := ⟨_, rfl⟩
    have HO7 := Lib.hid (stn_setF hO6 hx)
    have B7 : Hid (Below W5.heap.size W5 (w6.setCell ⟨g, j * 3 + 2, none⟩ (.int .i64 v))) := below_set B6 _ _ hgb
    rw [hv] at HO7
    obtain ⟨w7, hw7⟩ : ∃ w7, w7 = w6.setCell ⟨g, j * 3 + 2, none⟩ (.int .i64 v) := ⟨_, rfl⟩
    rw [← hw7] at HO7 B7
    have HW7 := Lib.hid hw7
    clear hw7
    have HLM := Lib.hid (law_more HE.out hx)
    have HX := Lib.hid hx
    have HV := Lib.hid hv
    have HQM : Hid (q6 ≤ maxLen ∧ sn ≤ q6) := ⟨hm6, hq6⟩
    have hxr : 0 ≤ x.fa ∧ x.fa ≤ 3 := by
      have hb := (askB_iff.1 (ask0.1 (pErr0.1 HE.out).1).2).2.2.1 x (List.mem_of_getElem? hx)
      unfold stnB at hb
      simp only [Bool.and_eq_true, inn_iff] at hb
      exact hb.1.1.2
    have hxr0 := hxr.1
    have hxr1 := hxr.2
    have HRUN := Lib.hid hrun
    have T6 := T5.out.ext B6
    have hne : ¬ w.heap.size = g := by have := T5.out.lt; omega
    have hne2 : ¬ g = w.heap.size := fun e => hne e.symm
    have b0 := T6.c 0 _ rfl
    have b1 := T6.c 1 _ rfl
    have b2 := T6.c 2 _ rfl
    have b3 := T6.c 3 _ rfl
    have b4 := T6.c 4 _ rfl
    have b5 := T6.c 5 _ rfl
    have b6 := T6.lt
    clear hx hcc hxr hO0 hO6 B6 hrun hv T6
    rcases Int.lt_or_le 3 (x.fa + 1) with h9 | h9
    case' inl => obtain rfl : v = 3 := by have := HV.out; omega
    case' inr => obtain rfl : v = x.fa + 1 := by have := HV.out; omega
    all_goals
      go_wp2_with (at_builtin; refine wpList_append_run rfl (.tmp 118) (.tmp 119) 29 rfl (.slice (some ⟨W5.heap.size, 0, none⟩) 0 0) (.slice SA sn sc) rfl rfl HRUN.out ?_)
      clear b0 b1 b2 b3 b4 b5 b6 HRUN d2 df hne hne2 h9 hxr0 hxr1
      rw [← HW7.out]
      clear HW7
      have E7 := Lib.hid (E5.out.trans (B7.out.mono E5.out.size))
      have T7 := Lib.hid (T5.out.ext B7.out)
      have P7 := Lib.hid (P5.out.ext B7.out)
      have hSO : StnS w7 (some ⟨g, 0, none⟩) q6 (s.set j (moreF x)) := own_stn HO7.out (by rw [List.length_set, HSN.out]) (by rw [List.length_set, HSN.out]; exact HQM.out.2) HQM.out.1 (fun e => by cases e) (mem_set_stn (fun y hy => ((HS.out.ext E7.out).all hy)) (show Stn.ok w7 x from (HS.out.ext E7.out).all (List.mem_of_getElem? HX.out)))
      obtain ⟨L2, hL2⟩ : ∃ L2, possV t (s.set j (moreF x)) R l = L2 := ⟨_, rfl⟩
      obtain ⟨n2, hn2⟩ : ∃ n2, L2.length = n2 := ⟨_, rfl⟩
      have HQ := Lib.hid (poss_lit (SA := some ⟨g, 0, none⟩) (sn := sn) (sc := q6) (RA := RA) (rc := rc) (LA := LA) (ln := l.length) (lc := lc) 0 n2 L2 HLM.out.1 hL2 hn2 (by rw [List.length_set, HSN.out]) HRN.out.symm rfl (HT.out.ext E7.out) hSO (HR.out.slc.ext E7.out) (HL.out.ext E7.out) (by rw [List.length_set, HSN.out]; omega) (by rw [HRN.out]; omega) (by have := HLP.out.hl; omega))
      have HLE8 : Hid (leL L L2 = true) := by rw [← hL2, ← HLL.out]; exact HLM.out.2
      clear hL2 hn2 hSO HLM HX HV HQM HSr B7 HO7
      have yy := T7.out
      have b0 := yy.c 0 _ rfl
      have b1 := yy.c 1 _ rfl
      have b2 := yy.c 2 _ rfl
      have b3 := yy.c 3 _ rfl
      have b4 := yy.c 4 _ rfl
      have b5 := yy.c 5 _ rfl
      have b6 := yy.lt
      clear yy
      go_wp2_with fail
      try clear b0 b1 b2 b3 b4 b5 b6
      refine HQ.out.mono ?_
      rintro e W8 ⟨A8, c8, rfl, hP, B⟩
      have E8 := Lib.hid (ext_trans E7.out B)
      have T8 := Lib.hid (T7.out.ext B)
      have P8 := Lib.hid (P7.out.ext B)
      have Q8 := Lib.hid hP.ra
      clear E7 T7 P7 hP B HQ
      have HSr := Lib.hid (HS.out.ext E8.out)
      have hO0 := Own.madeH (α := Stn) W8 W8.heap.size 41 Stn.cells 3 (by simp) W8.heap.size rfl
      obtain ⟨_, w6, hrun, A6, q6, rfl, hO6, B6, -, hq6, hm6⟩ := Own.append_k (w0 := W8) stnI 29 hO0 (ext_alloc (ext_refl W8) _) (ys := s) (m := sn) HSN.out.symm sc (HSr.out.slc.alloc _) s rfl sn HSN.out (by omega) (by unfold maxLen; omega)
      obtain ⟨g, rfl, hgb, hgl, -⟩ := hO6.addr hsp
      obtain ⟨x, hx⟩ : ∃ x, s[j]? = some x := ⟨_, List.getElem?_eq_getElem (by rw [HSN.out]; exact hjs)⟩
      have hcc := stn_cells hO6 hx
      have d1 := hcc.1
      have df := fun q => Own.frozen hO6 q
      obtain ⟨v, hv⟩ : ∃ v, min (x.sh + 1) 3 = v := ⟨_, rfl⟩
      have HO7 := Lib.hid (stn_setS hO6 hx)
      have B7 : Hid (Below W8.heap.size W8 (w6.setCell ⟨g, j * 3 + 1, none⟩ (.int .i64 v))) := below_set B6 _ _ hgb
      rw [hv] at HO7
      obtain ⟨w7, hw7⟩ : ∃ w7, w7 = w6.setCell ⟨g, j * 3 + 1, none⟩ (.int .i64 v) := ⟨_, rfl⟩
      rw [← hw7] at HO7 B7
      have HW7 := Lib.hid hw7
      clear hw7
      have HLM := Lib.hid (law_wide HE.out hx)
      have HX := Lib.hid hx
      have HV := Lib.hid hv
      have HQM : Hid (q6 ≤ maxLen ∧ sn ≤ q6) := ⟨hm6, hq6⟩
      have hxr : 0 ≤ x.sh ∧ x.sh ≤ 3 := by
        have hb := (askB_iff.1 (ask0.1 (pErr0.1 HE.out).1).2).2.2.1 x (List.mem_of_getElem? hx)
        unfold stnB at hb
        simp only [Bool.and_eq_true, inn_iff] at hb
        exact hb.1.1.1.2
      have hxr0 := hxr.1
      have hxr1 := hxr.2
      have HRUN := Lib.hid hrun
      have T6 := T8.out.ext B6
      have hne : ¬ w.heap.size = g := by have := T8.out.lt; omega
      have hne2 : ¬ g = w.heap.size := fun e => hne e.symm
      have b0 := T6.c 0 _ rfl
      have b1 := T6.c 1 _ rfl
      have b2 := T6.c 2 _ rfl
      have b3 := T6.c 3 _ rfl
      have b4 := T6.c 4 _ rfl
      have b5 := T6.c 5 _ rfl
      have b6 := T6.lt
      clear hx hcc hxr hO0 hO6 B6 hrun hv T6
      rcases Int.lt_or_le 3 (x.sh + 1) with h9 | h9
      case' inl => obtain rfl : v = 3 := by have := HV.out; omega
      case' inr => obtain rfl : v = x.sh + 1 := by have := HV.out; omega
      all_goals
        go_wp2_with (at_builtin; refine wpList_append_run rfl (.tmp 140) (.tmp 141) 29 rfl (.slice (some ⟨W8.heap.size, 0, none⟩) 0 0) (.slice SA sn sc) rfl rfl HRUN.out ?_)
        clear b0 b1 b2 b3 b4 b5 b6 HRUN d1 df hne hne2 h9 hxr0 hxr1
        rw [← HW7.out]
        clear HW7
        have E7 := Lib.hid (E8.out.trans (B7.out.mono E8.out.size))
        have T7 := Lib.hid (T8.out.ext B7.out)
        have P7 := Lib.hid (P8.out.ext B7.out)
        have Q87 := Lib.hid (Q8.out.ext B7.out)
        have hSO : StnS w7 (some ⟨g, 0, none⟩) q6 (s.set j (wideF x)) := own_stn HO7.out (by rw [List.length_set, HSN.out]) (by rw [List.length_set, HSN.out]; exact HQM.out.2) HQM.out.1 (fun e => by cases e) (mem_set_stn (fun y hy => ((HS.out.ext E7.out).all hy)) (show Stn.ok w7 x from (HS.out.ext E7.out).all (List.mem_of_getElem? HX.out)))
        obtain ⟨L2, hL2⟩ : ∃ L2, possV t (s.set j (wideF x)) R l = L2 := ⟨_, rfl⟩
        obtain ⟨n2, hn2⟩ : ∃ n2, L2.length = n2 := ⟨_, rfl⟩
        have HQ := Lib.hid (poss_lit (SA := some ⟨g, 0, none⟩) (sn := sn) (sc := q6) (RA := RA) (rc := rc) (LA := LA) (ln := l.length) (lc := lc) 0 n2 L2 HLM.out.1 hL2 hn2 (by rw [List.length_set, HSN.out]) HRN.out.symm rfl (HT.out.ext E7.out) hSO (HR.out.slc.ext E7.out) (HL.out.ext E7.out) (by rw [List.length_set, HSN.out]; omega) (by rw [HRN.out]; omega) (by have := HLP.out.hl; omega))
        have HLE9 : Hid (leL L L2 = true) := by rw [← hL2, ← HLL.out]; exact HLM.out.2
        clear hL2 hn2 hSO HLM HX HV HQM HSr B7 HO7
        have yy := T7.out
        have b0 := yy.c 0 _ rfl
        have b1 := yy.c 1 _ rfl
        have b2 := yy.c 2 _ rfl
        have b3 := yy.c 3 _ rfl
        have b4 := yy.c 4 _ rfl
        have b5 := yy.c 5 _ rfl
        have b6 := yy.lt
        clear yy
        go_wp2_with fail
        try clear b0 b1 b2 b3 b4 b5 b6
        refine HQ.out.mono ?_
        rintro e W9 ⟨A9, c9, rfl, hP, B⟩
        have E9 := Lib.hid (ext_trans E7.out B)
        have T9 := Lib.hid (T7.out.ext B)
        have P9 := Lib.hid (P7.out.ext B)
        have Q9 := Lib.hid hP.ra
        have Q89 := Lib.hid (Q87.out.ext B)
        clear Q87
        clear E7 T7 P7 hP B HQ
        go_wp2_with fail
        refine (within_ra true HLE8.out P9.out Q89.out HLB.out.1 HLB.out.2).mono ?_
        rintro e w10 ⟨rfl, B⟩
        have P10 := P9.out.ext B
        have Q10 := Q9.out.ext B
        have E10 := Lib.hid (ext_trans E9.out B)
        clear B
        go_wp2_with fail
        refine (within_ra true HLE9.out P10 Q10 HLB.out.1 HLB.out.2).mono ?_
        rintro e w11 ⟨rfl, B⟩
        go_wp2_with fail
        go_ret
        exact ⟨rfl, ext_trans E10.out B⟩
end Go.Proofs.YtjiojpoiocdnmaaGreat
