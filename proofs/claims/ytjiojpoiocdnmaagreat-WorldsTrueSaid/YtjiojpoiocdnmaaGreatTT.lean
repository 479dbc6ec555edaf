/- What plots make: the reports, and how many are wrong. -/
import Derived.Test.YtjiojpoiocdnmaaGreatTS
set_option linter.unusedSimpArgs false
set_option linter.unusedVariables false
namespace Go.Proofs.YtjiojpoiocdnmaaGreat
open Go.RowKit Go.ChangeMaps
structure MadeM (w W : World) (t : Tab) (sn : Nat) (A : Option Addr) (n c : Nat) (Rl : List Rep) (O : List Nat) : Prop where
 e : Below w.heap.size w W
 tb : Blk W w.heap.size t.cells
 r : Own W (w.heap.size + 1 + 1) 55 Rep.cells 6 (.slice A n c) Rl
 o : Own W w.heap.size 3 ic 1 (.slice (some ⟨w.heap.size + 1, 0, none⟩) sn sn) (nums O)
theorem MadeM.ext {w W W' : World} {t : Tab} {sn : Nat} {A : Option Addr} {n c : Nat} {Rl : List Rep} {O : List Nat} (h : MadeM w W t sn A n c Rl O) (hb : Below W.heap.size W W') : MadeM w W' t sn A n c Rl O :=
 ⟨ext_trans h.e hb, h.tb.ext hb, h.r.ext hb, h.o.ext hb⟩
theorem MadeM.grown {w W W' : World} {t : Tab} {sn : Nat} {A A' : Option Addr} {n c n' c' : Nat} {Rl Rl' : List Rep} {O : List Nat} (h : MadeM w W t sn A n c Rl O) (hg : W.grownBy W' (Value.slice A n c).ownBlock) (hr : Own W' (w.heap.size + 1 + 1) 55 Rep.cells 6 (.slice A' n' c') Rl') : MadeM w W' t sn A' n' c' Rl' O :=
 ⟨h.e.grown hg h.e.size (fun k e => by have := (h.r.lt k e).2; omega), h.tb.grownB hg (fun e => by have := (h.r.lt _ e.symm).2; omega), hr, Own.far h.o hg (fun k e q => by
  have h1 : w.heap.size + 1 = k := Option.some.inj e
  have := (h.r.lt _ q).2
  omega)⟩
theorem MadeM.inc {w W : World} {t : Tab} {sn : Nat} {A : Option Addr} {n c : Nat} {Rl : List Rep} {O : List Nat} (h : MadeM w W t sn A n c Rl O) {k d : Nat} (hd : O[k]? = some d) : MadeM w (W.setCell ⟨w.heap.size + 1, k, none⟩ (.int .i64 ((d : Int) + 1))) t sn A n c Rl (O.set k (d + 1)) :=
 ⟨below_set h.e _ _ (by show w.heap.size ≤ w.heap.size + 1; omega), h.tb.grownB (grown_set _ _ _ _) (fun e => by have := Option.some.inj e; omega), Own.far h.r (grown_set _ _ _ _) (fun k e q => by
  have h1 : w.heap.size + 1 = k := Option.some.inj q
  have := (h.r.lt k e).2
  omega), own_setC h.o (d + 1) hd⟩
theorem made_push {w W : World} {t : Tab} {sn : Nat} {A : Option Addr} {n c : Nat} {Rl : List Rep} {O : List Nat} (h : MadeM w W t sn A n c Rl O) (r : Rep) (hn : n ≤ 100) :
  ∃ w' A' c', (Builtin.append_ #[30, 30] 30 #[.slice A n c, .slice (some ⟨W.heap.size, 0, none⟩) 1 1]).run Tryz.prog (W.alloc (.cells r.cells.toArray 55)) = .ok (.slice A' (n + 1) c') w' ∧ MadeM w w' t sn A' (n + 1) c' (Rl ++ [r]) O := by
 have hu := ext_alloc (ext_refl W) (.cells r.cells.toArray 55)
 have h2 := h.ext hu
 have hl : Rl.length = n := by
  obtain ⟨A', c', e, _⟩ := h.r.form
  cases e; rfl
 obtain ⟨v', w', hrun, hO, hg, _⟩ := h2.r.append repI 30 (ys := [r]) (m := 1) rfl 1 (slc_litH W [r] r.cells.toArray 55 (enc := Rep.cells) (sz := 6) (fun _ => rfl) (by simp) W.heap.size rfl) (by simp; omega) (by unfold maxLen; simp; omega) (by have : w.heap.size + 1 < (W.alloc (.cells r.cells.toArray 55)).heap.size := (h2.o.lt _ rfl).1; omega)
 obtain ⟨A', c', e, _⟩ := hO.form
 have e2 : v' = .slice A' (n + 1) c' := by rw [e, List.length_append, hl]; rfl
 subst e2
 exact ⟨w', A', c', hrun, h2.grown hg hO⟩
theorem stays_n (t : Tab) (p : Pth) (w : World) (L : List Sty) (n : Nat) (hL : staysL t p = L) (hn : L.length = n) (ht : Tab.ok w t) (hp : Pth.ok w p) (hc : chkT t = 0) (hb : pathB t p = true) : Calls Tryz.prog 43 #[t.v, p.v] w fun e w' => ∃ A c, e = .returned (.tuple #[.slice A n c, .int .i64 0]) ∧ Own w' w.heap.size 113 Sty.cells 4 (.slice A n c) L ∧ Below w.heap.size w w' := by
 subst hL hn
 exact stays_any t p w ht hp hc hb
def MadeR (w : World) (t : Tab) (sn : Nat) (p : Rep → Bool) (xn : Nat) (e : Ending) (w' : World) : Prop := ∃ (A : Option Addr) (n c : Nat) (Rl : List Rep) (O : List Nat), e = .returned (.tuple #[.slice A n c, .slice (some ⟨w.heap.size + 1, 0, none⟩) sn sn, .bool true]) ∧ n ≤ xn ∧ MadeM w w' t sn A n c Rl O ∧ O.length = sn ∧ MadeOk p Rl O xn
set_option maxRecDepth 100000 in
set_option maxHeartbeats 32000000 in
theorem made_at {t : Tab} {SA LA PA HA XA : Option Addr} {sn sc ln lc pc hc xn xc : Nat} {l : List Trk} {pk : List Nat} {shs : List Int} {xs : List Plt} {w : World} (hln : ln = l.length) (hxn : xn = xs.length) (hck : wchkE t l = 0) (hpk : Choice (msT l) pk) (hsl : shs.length = sn) (hsh : ∀ h ∈ shs, -3 ≤ h ∧ h ≤ 3) (hs0 : 0 < sn) (hl0 : 0 < ln) (hx8 : xn ≤ 8) (hsm : sn ≤ 6)
  (ht : Tab.ok w t) (hl : TrkS w LA lc l) (hp : Slc w ic 1 PA (nums pk)) (hh : Slc w ic 1 HA shs) (hx : SliceOf.ok Plt.cells 10 Plt.ok w ⟨XA, xc, xs⟩) :
  Calls Tryz.prog 20 #[t.v, .slice SA sn sc, .slice LA ln lc, .slice PA ln pc, .slice HA sn hc, .slice XA xn xc] w (MadeR w t sn (rightAt (stT t l) l (nums pk) shs) xn) := by
 obtain ⟨P, hP⟩ : ∃ P, rightAt (stT t l) l (nums pk) shs = P := ⟨_, rfl⟩
 rw [hP]
 have HPP := Lib.hid hP
 have HLN := Lib.hid hln
 have HXN := Lib.hid hxn
 have HCK := Lib.hid (wchk_ok hck)
 have HPK := Lib.hid hpk
 have HSL := Lib.hid hsl
 have HSH := Lib.hid hsh
 have HT := Lib.hid ht
 have HL := Lib.hid hl
 have HP := Lib.hid hp
 have HH := Lib.hid hh
 have HX := Lib.hid hx
 have hlm : ln ≤ 12 := by rw [hln]; exact HCK.out.2.1
 clear hP hln hxn hck hpk hsl hsh ht hl hp hh hx
 have hmk := fun w : World => mk39 sn (by omega) w
 obtain ⟨W0, hW0⟩ : ∃ W0, (w.alloc (.cells #[.int .i64 t.n, .slice t.ss.A t.ss.l.length t.ss.c, .slice t.cs.A t.cs.l.length t.cs.c, .slice t.ws.A t.ws.l.length t.ws.c, .slice t.ms.A t.ms.l.length t.ms.c, .slice t.ks.A t.ks.l.length t.ks.c] 28)).alloc (.cells (Array.replicate sn (.int .i64 0)) 3) = W0 := ⟨_, rfl⟩
 have HM0 : Hid (MadeM w W0 t sn none 0 0 [] (List.replicate sn 0)) := by
  rw [← hW0]
  refine ⟨ext_alloc (ext_alloc (ext_refl w) _) _, (Blk.newH w t.cells 28 w.heap.size rfl).alloc _, Own.nil _ _ _ _ _, ?_⟩
  have q := own_z0 sn (w.alloc (.cells #[.int .i64 t.n, .slice t.ss.A t.ss.l.length t.ss.c, .slice t.cs.A t.cs.l.length t.cs.c, .slice t.ws.A t.ws.l.length t.ws.c, .slice t.ms.A t.ms.l.length t.ms.c, .slice t.ks.A t.ks.l.length t.ks.c] 28)) (by omega)
  simp only [World.size_alloc] at q
  exact own_raise q (by omega)
 go_enter Tryz.func20, Tryz.ntmps20
 go_wp2_with fail
 clear hmk hW0
 go_loopw [12, 13, 14, 15] (fun a od ok i wr => ∃ (i' : Nat) (A : Option Addr) (n c : Nat) (Rl : List Rep) (O : List Nat), i' ≤ xn ∧ i = .int .i64 i' ∧ a = .slice A n c ∧ od = .slice (some ⟨w.heap.size + 1, 0, none⟩) sn sn ∧ ok = .bool false ∧ n ≤ i' ∧ Hid (MadeM w wr t sn A n c Rl O) ∧ Hid (O.length = sn) ∧ Hid (MadeOk P Rl O i')) (fun _ _ _ i _ => xn - (intOf i).toNat)
 case atStart => exact ⟨0, none, 0, 0, [], List.replicate sn 0, Nat.zero_le _, rfl, rfl, rfl, rfl, by omega, HM0.out, by simp [Hid], fun k => ⟨by simp [wrK], by rw [List.getD_eq_getElem?_getD, List.getElem?_replicate]; split <;> simp⟩⟩
 case round =>
  obtain ⟨i, A, n, c, Rl, O, hi, rfl, rfl, rfl, rfl, hni, HM, HO, HMD⟩ := hrel
  obtain ⟨wo, rfl⟩ : ∃ wo, wo = wr := ⟨_, rfl⟩
  clear HM0
  by_cases hlt : i < xn
  rotate_left
  ·obtain rfl : i = xn := by omega
   have hin : ¬ (i : Int) < (i : Int) := by omega
   go_wp2_with fail
   go_ret3
   exact ⟨A, n, c, Rl, O, rfl, hni, HM.out, HO.out, HMD.out⟩
  have hii : (i : Int) < (xn : Int) := by omega
  obtain ⟨x, qb, qo, hx, hxA, hqb, hqc⟩ := (HX.out.slc.below (Nat.le_refl _) HM.out.e).at_ (k := i) (by rw [← HXN.out]; exact hlt)
  have hxo : isB x.st ∧ isB x.tr ∧ isB x.mi := HX.out.all (List.mem_of_getElem? hx)
  have d0 := hqc 0 _ rfl
  have d1 := hqc 1 _ rfl
  have d2 := hqc 2 _ rfl
  have d3 := hqc 3 _ rfl
  have d4 := hqc 4 _ rfl
  have d5 := hqc 5 _ rfl
  have d6 := hqc 6 _ rfl
  have d7 := hqc 7 _ rfl
  have d8 := hqc 8 _ rfl
  have d9 := hqc 9 _ rfl
  simp only [Nat.add_zero] at d0
  have HXO := Lib.hid hxo
  have hxR := hx
  obtain ⟨k, hk⟩ : ∃ k : Nat, x.st.tmod (sn : Int) = (k : Int) := ⟨(x.st.tmod (sn : Int)).toNat, by rw [Int.toNat_of_nonneg (Int.tmod_nonneg _ hxo.1.1)]⟩
  have hks : k < sn := by
   have := Int.tmod_lt_of_pos x.st (show (0 : Int) < (sn : Int) by omega)
   omega
  obtain ⟨q, hq⟩ : ∃ q : Nat, x.tr.tmod (ln : Int) = (q : Int) := ⟨(x.tr.tmod (ln : Int)).toNat, by rw [Int.toNat_of_nonneg (Int.tmod_nonneg _ hxo.2.1.1)]⟩
  have hql : q < ln := by
   have := Int.tmod_lt_of_pos x.tr (show (0 : Int) < (ln : Int) by omega)
   omega
  have hw1 : IntKind.i64.wrap x.st = x.st := IntWalk.i64_in _ (by have := hxo.1; unfold isB at this; omega)
  have hw2 : IntKind.i64.wrap x.tr = x.tr := IntWalk.i64_in _ (by have := hxo.2.1; unfold isB at this; omega)
  have hsn0 : ¬ sn = 0 := by omega
  have hln0 : ¬ ln = 0 := by omega
  obtain ⟨W7, hW7⟩ : ∃ W7, wo.alloc (.cells #[.int .u8 x.st, .int .u8 x.tr, .int .u8 x.mi, .bool x.odd, .int .i64 x.r.st, .int .i64 x.r.no, .int .i64 x.r.mi, .int .i64 x.r.ar, .string x.r.call, .int .i64 x.r.vol] 111) = W7 := ⟨_, rfl⟩
  have E7 : Hid (Below wo.heap.size wo W7) := by rw [← hW7]; exact ext_alloc (ext_refl wo) _
  have PX : Hid (Blk W7 wo.heap.size x.cells) := by rw [← hW7]; exact Blk.newH wo x.cells 111 wo.heap.size rfl
  have HM7 := Lib.hid (HM.out.ext E7.out)
  subst hxA
  clear hx hqc hqb hxo
  go_wp2_with fail
  clear hW7 d0 d1 d2 d3 d4 d5 d6 d7 d8 d9
  have SS := Lib.hid (show ∀ w', Below W7.heap.size W7 w' → (fun w' => Below W7.heap.size W7 w' ∧ w'.cell? ⟨wo.heap.size, 0, none⟩ = some (.int .u8 x.st) ∧ w'.cell? ⟨wo.heap.size, 1, none⟩ = some (.int .u8 x.tr)) w' from fun w' h => ⟨h, (PX.out.ext h).c 0 _ rfl, (PX.out.ext h).c 1 _ rfl⟩)
  refine rgB 14 SS (ext_drew (ext_refl _)) (fun Q7 hQ7 hN7 hHeld => ?_)
  refine rgT 0 (some 36) hQ7 hHeld ?_; refine rgT 1 (some 37) hQ7 hHeld ?_; refine rgT 2 (some 38) hQ7 hHeld ?_; refine rgT 3 (some 39) hQ7 hHeld ?_; refine rgT 4 (some 40) hQ7 hHeld ?_; refine rgT 5 (some 41) hQ7 hHeld ?_; refine rgT 6 (some 42) hQ7 hHeld ?_; refine rgT 7 (some 43) hQ7 hHeld ?_; refine rgT 8 (some 44) hQ7 hHeld ?_; refine rgT 9 (some 45) hQ7 hHeld ?_; refine rgT 10 (some 46) hQ7 hHeld ?_
  refine rgT 11 (some 47) hQ7 hHeld ?_; refine rgT 12 (some 17) hQ7 hHeld ?_; refine rgT 13 (some 18) hQ7 hHeld ?_
  refine rg_end (by kernel_rfl) (hN7 _ _ ?_) _
  clear hQ7 hN7 Q7
  have BX := hHeld.1
  clear SS
  obtain ⟨u7, hu7⟩ : ∃ u7, W7.drew = u7 := ⟨_, rfl⟩
  rw [hu7] at BX ⊢
  have P7 := Lib.hid (PX.out.ext BX)
  have M7 := Lib.hid (HM7.out.ext BX)
  have HK := Lib.hid hk
  have HQ := Lib.hid hq
  obtain ⟨y, yb, yo, hy, hyA, hyb, hyc⟩ := (HL.out.slc.below (Nat.le_refl _) M7.out.e).at_ (k := q) (by rw [← HLN.out]; exact hql)
  have y3 := hyc 3 _ rfl
  have Y12 := Lib.hid (hyc 12 _ rfl)
  have YL := Lib.hid hyb
  have HY := Lib.hid hy
  have HR := Lib.hid hxR
  subst hyA
  clear BX hu7 PX HM7 HM E7 hk hq hw1 hw2 hsn0 hln0 hy hyc hxR
  have hqi : (q : Int) < (ln : Int) := by omega
  have hki : (k : Int) < (sn : Int) := by omega
  cases hodd : x.odd with
  | true =>
   have p3 := P7.out.c 3 _ rfl
   have p4 := P7.out.c 4 _ rfl
   have p5 := P7.out.c 5 _ rfl
   have p6 := P7.out.c 6 _ rfl
   have p7 := P7.out.c 7 _ rfl
   have p8 := P7.out.c 8 _ rfl
   have p9 := P7.out.c 9 _ rfl
   have pl := P7.out.lt
   rw [hodd] at p3
   obtain ⟨d, hd⟩ : ∃ d, O[k]? = some d := ⟨_, List.getElem?_eq_getElem (by rw [HO.out]; exact hks)⟩
   have hdi : d ≤ i := by
    have := (HMD.out k).2
    rw [List.getD_eq_getElem?_getD, hd] at this
    exact this
   obtain ⟨r, hr⟩ : ∃ r : Rep, r = ⟨(k : Int), (i : Int) + 1, x.r.mi, x.r.ar, x.r.call, x.r.vol⟩ := ⟨_, rfl⟩
   obtain ⟨U8, hU8⟩ : ∃ U8, u7.alloc (.cells #[.int .i64 (k : Int), .int .i64 ((i : Int) + 1), .int .i64 x.r.mi, .int .i64 x.r.ar, .string x.r.call, .int .i64 x.r.vol] 55) = U8 := ⟨_, rfl⟩
   have E8 : Below u7.heap.size u7 U8 := by rw [← hU8]; exact ext_alloc (ext_refl u7) _
   have RB8 : Blk U8 u7.heap.size r.cells := by rw [← hU8, hr]; exact Blk.newH u7 _ 55 u7.heap.size rfl
   have M8 := M7.out.ext E8
   have o8 := (own_getC M8.o hd).1
   have o8l := (own_getC M8.o hd).2
   have o8f := Own.frozen M8.o k
   obtain ⟨U9, hU9⟩ : ∃ U9, U8.setCell ⟨w.heap.size + 1, k, none⟩ (.int .i64 ((d : Int) + 1)) = U9 := ⟨_, rfl⟩
   have hol : w.heap.size + 1 < u7.heap.size := (M7.out.o.lt _ rfl).1
   have RB9 : Blk U9 u7.heap.size r.cells := by rw [← hU9]; exact RB8.other _ (by show w.heap.size + 1 ≠ u7.heap.size; omega)
   have M9 := M8.inc hd
   rw [hU9] at M9
   have hwd : IntKind.i64.wrap ((d : Int) + 1) = (d : Int) + 1 := IntWalk.i64_in _ (by omega)
   obtain ⟨W10, A9, c9, hrun, M10⟩ := made_push M9 r (by omega)
   have HMD9 := Lib.hid (HMD.out.odd (r := r) (k := k) (by rw [hr]) hd)
   have HO9 : Hid ((O.set k (d + 1)).length = sn) := by unfold Hid; rw [List.length_set]; exact HO.out
   have hrun' : (Builtin.append_ #[30, 30] 30 #[.slice A n c, .slice (some ⟨U9.heap.size, 0, none⟩) 1 1]).run Tryz.prog (U9.alloc (.cells #[.int .i64 (k : Int), .int .i64 ((i : Int) + 1), .int .i64 x.r.mi, .int .i64 x.r.ar, .string x.r.call, .int .i64 x.r.vol] 55)) = .ok (.slice A9 (n + 1) c9) W10 := by rw [hr] at hrun; exact hrun
   rw [hr] at RB9
   have r0 := RB9.c 0 _ rfl
   have r1 := RB9.c 1 _ rfl
   have r2 := RB9.c 2 _ rfl
   have r3 := RB9.c 3 _ rfl
   have r4 := RB9.c 4 _ rfl
   have r5 := RB9.c 5 _ rfl
   have rl := RB9.lt
   have HRUN := Lib.hid hrun'
   have HM10 := Lib.hid M10
   clear hd hdi E8 RB8 M8 RB9 M9 M10 hrun hrun' hr hol
   go_wp2_with (at_builtin; refine wpList_append_run rfl (.tmp 73) (.tmp 75) 30 rfl (.slice A n c) (.slice (some ⟨U9.heap.size, 0, none⟩) 1 1) rfl rfl HRUN.out ?_)
   go_roundw
   case rel => exact ⟨i + 1, A9, n + 1, c9, _, _, hlt, by go_num, rfl, rfl, rfl, by omega, HM10, HO9, HMD9⟩
   case measure => simp [intOf]; (try omega)
  | false =>
   obtain ⟨U8, hU8⟩ : ∃ U8, u7.alloc (.cells #[.int .i64 (k : Int), .int .i64 ((i : Int) + 1), .int .i64 0, .int .i64 0, .string y.fl.call, .int .i64 0] 55) = U8 := ⟨_, rfl⟩
   have E8 : Hid (Below u7.heap.size u7 U8) := by rw [← hU8]; exact ext_alloc (ext_refl u7) _
   have RB8 : Hid (Blk U8 u7.heap.size [.int .i64 (k : Int), .int .i64 ((i : Int) + 1), .int .i64 0, .int .i64 0, .string y.fl.call, .int .i64 0]) := by rw [← hU8]; exact Blk.newH u7 _ 55 u7.heap.size rfl
   have M8 := Lib.hid (M7.out.ext E8.out)
   have p3 := (P7.out.ext E8.out).c 3 _ rfl
   have pl := (P7.out.ext E8.out).lt
   rw [hodd] at p3
   have rz5 := RB8.out.c 5 _ rfl
   have rzf := RB8.out.f
   have rzl := RB8.out.lt
   have hself : U8.setCell ⟨u7.heap.size, 5, none⟩ (.int .i64 0) = U8 := setCell_self rz5
   have T8 := Lib.hid M8.out.tb
   have y12 := (E8.out.cell (p := ⟨yb, yo + q * 14 + 12, none⟩) YL.out).trans Y12.out
   have yl8 : yb < U8.heap.size := Nat.lt_of_lt_of_le YL.out E8.out.size
   have hyk : SliceOf.ok Pth.cells 2 Pth.ok U8 y.ps := (Trk.ok.ext (HL.out.all (List.mem_of_getElem? HY.out)) M8.out.e).2.2.1
   have hmq : (msT l)[q]? = some y.ps.l.length := by unfold msT; rw [List.getElem?_map, HY.out]; rfl
   have hpkl : pk.length = ln := by rw [HPK.out.1, HLN.out]; simp [msT]
   obtain ⟨d, hd⟩ : ∃ d, pk[q]? = some d := ⟨_, List.getElem?_eq_getElem (by rw [hpkl]; exact hql)⟩
   have hdm : d < y.ps.l.length := HPK.out.2 q _ d hmq hd
   obtain ⟨pv, pb, po, hpv, hpA, hpb, hpc⟩ := (HP.out.below (Nat.le_refl _) M8.out.e).at_ (k := q) (by rw [nums, List.length_map, hpkl]; exact hql)
   obtain rfl : pv = (d : Int) := by
    have h := hpv
    unfold nums at h
    rw [List.getElem?_map, hd] at h
    exact (Option.some.inj h).symm
   have pk8 : U8.cell? ⟨pb, po + q, none⟩ = some (.int .i64 (d : Int)) := by have := hpc 0 _ rfl; simpa using this
   have pl8 := hpb
   obtain ⟨p, eb, eo, hp, heA, heb, hec⟩ := hyk.slc.at_ (k := d) hdm
   have e0 := hec 0 _ rfl
   have e1 := hec 1 _ rfl
   simp only [Nat.add_zero] at e0
   have el8 := heb
   obtain ⟨m, hm⟩ : ∃ m, y.ps.l.length = m := ⟨_, rfl⟩
   rw [hm, heA] at y12
   have hdi : (d : Int) < (m : Int) := by omega
   have HPO : Hid (∀ u, Below U8.heap.size U8 u → Pth.ok u p) := fun u hu => ((hyk.all (List.mem_of_getElem? hp))).ext hu
   have HPB : Hid (pathB t p = true) := by
    have h := HCK.out.2.2 y (List.mem_of_getElem? HY.out)
    simp only [trkB, Bool.and_eq_true, List.all_eq_true] at h
    exact h.2 p (List.mem_of_getElem? hp)
   have HLEG := Lib.hid (leg_at HPB.out (legs_pos HCK.out.1))
   obtain ⟨L5, hL5⟩ : ∃ L5, staysL t p = L5 := ⟨_, rfl⟩
   obtain ⟨n5, hn5⟩ : ∃ n5, L5.length = n5 := ⟨_, rfl⟩
   have HL5 := Lib.hid hL5
   have HN5 := Lib.hid hn5
   have HD := Lib.hid hd
   have HPT := Lib.hid hp
   subst hpA
   clear hyk hmq hpkl hd hdm hpv hpb hpc hp heA heb hec hm hL5 hn5
   go_wp2_with fail
   clear hU8 p3 pl rz5 rzf rzl hself
   have SS := Lib.hid (show ∀ w', Below U8.heap.size U8 w' → (fun w' => Below U8.heap.size U8 w' ∧ w'.cell? ⟨w.heap.size, 0, none⟩ = some (.int .i64 t.n) ∧ w'.cell? ⟨w.heap.size, 1, none⟩ = some (.slice t.ss.A t.ss.l.length t.ss.c) ∧ w'.cell? ⟨w.heap.size, 2, none⟩ = some (.slice t.cs.A t.cs.l.length t.cs.c) ∧ w'.cell? ⟨w.heap.size, 3, none⟩ = some (.slice t.ws.A t.ws.l.length t.ws.c) ∧ w'.cell? ⟨w.heap.size, 4, none⟩ = some (.slice t.ms.A t.ms.l.length t.ms.c) ∧ w'.cell? ⟨w.heap.size, 5, none⟩ = some (.slice t.ks.A t.ks.l.length t.ks.c) ∧ w'.cell? ⟨yb, yo + q * 14 + 12, none⟩ = some (.slice (some ⟨eb, eo, none⟩) m y.ps.c) ∧ w'.cell? ⟨pb, po + q, none⟩ = some (.int .i64 (d : Int)) ∧ w'.cell? ⟨eb, eo + d * 2, none⟩ = some (.int .i64 p.way) ∧ w'.cell? ⟨eb, eo + d * 2 + 1, none⟩ = some (.slice p.ts.A p.ts.l.length p.ts.c)) w' from fun w' h => ⟨h, (T8.out.ext h).c 0 _ rfl, (T8.out.ext h).c 1 _ rfl, (T8.out.ext h).c 2 _ rfl, (T8.out.ext h).c 3 _ rfl, (T8.out.ext h).c 4 _ rfl, (T8.out.ext h).c 5 _ rfl, (h.cell (p := ⟨yb, yo + q * 14 + 12, none⟩) yl8).trans y12, (h.cell (p := ⟨pb, po + q, none⟩) pl8).trans pk8, (h.cell (p := ⟨eb, eo + d * 2, none⟩) el8).trans e0, (h.cell (p := ⟨eb, eo + d * 2 + 1, none⟩) el8).trans e1⟩)
   refine rgB 18 SS (ext_drew (ext_refl _)) (fun Q7 hQ7 hN7 hHeld => ?_)
   refine rgT 0 (some 78) hQ7 hHeld ?_; refine rgT 1 (some 79) hQ7 hHeld ?_; refine rgT 2 (some 80) hQ7 hHeld ?_; refine rgT 3 (some 81) hQ7 hHeld ?_; refine rgT 4 (some 82) hQ7 hHeld ?_; refine rgT 5 (some 83) hQ7 hHeld ?_; refine rgT 6 (some 84) hQ7 hHeld ?_; refine rgT 7 (some 85) hQ7 hHeld ?_; refine rgT 8 (some 86) hQ7 hHeld ?_; refine rgT 9 (some 87) hQ7 hHeld ?_; refine rgT 10 (some 88) hQ7 hHeld ?_
   refine rgT 11 (some 89) hQ7 hHeld ?_
   refine rg_one (i := 12) (by kernel_rfl) (rg_step rfl (by rfl) (fun K hK => ?_))
   go_simp
   refine (stays_n t p _ L5 n5 HL5.out HN5.out (HT.out.ext (ext_trans M8.out.e hHeld.1)) (HPO.out _ hHeld.1) HCK.out.1 HPB.out).mono ?_
   rintro e u9 ⟨A5, c5, rfl, hO5, B5⟩
   go_wp2_with fail
   refine hK.out _ _ ?_ (fun hHeld2 => ?_)
   ·exact SS.out _ (ext_trans hHeld.1 B5)
   clear hHeld
   have hHeld := hHeld2
   clear hHeld2
   clear hK K
   try simp only [Act.put, List.setIfInBounds_toArray, List.set_cons_zero, List.set_cons_succ]
   refine rgT 13 (some 77) hQ7 hHeld ?_; refine rgT 14 (some 91) hQ7 hHeld ?_; refine rgT 15 (some 92) hQ7 hHeld ?_; refine rgT 16 (some 20) hQ7 hHeld ?_; refine rgT 17 (some 21) hQ7 hHeld ?_
   refine rg_end (by kernel_rfl) (hN7 _ _ ?_) _
   clear hQ7 hN7 Q7
   have BX := hHeld.1
   clear SS
   clear pk8 pl8 e0 e1 el8 y12 yl8 hdi
   have R9 := Lib.hid (RB8.out.ext BX)
   have E9 := Lib.hid (ext_trans E8.out BX)
   have P9 := Lib.hid (P7.out.ext E9.out)
   have n53 : 3 ≤ n5 := by have := HLEG.out.1; rw [HL5.out, HN5.out] at this; exact this
   have n5m : n5 ≤ 1000 := by
    have h := HN5.out
    obtain ⟨xw, hxw⟩ := path_ok HPB.out
    rw [← HL5.out, stayX_len hxw] at h
    have := tab_legs HCK.out.1 xw (List.mem_of_getElem? hxw.at_)
    omega
   obtain ⟨n2, hn2⟩ : ∃ n2, n5 = n2 + 2 := ⟨n5 - 2, by omega⟩
   have hn2p : 0 < n2 := by omega
   have hm0 : 0 ≤ x.mi := HXO.out.2.2.1
   have hm1 : x.mi ≤ 255 := HXO.out.2.2.2
   obtain ⟨j, hj⟩ : ∃ j : Nat, x.mi.tmod (n2 : Int) = (j : Int) := ⟨(x.mi.tmod (n2 : Int)).toNat, by rw [Int.toNat_of_nonneg (Int.tmod_nonneg _ hm0)]⟩
   have hjn : j < n2 := by
    have := Int.tmod_lt_of_pos x.mi (show (0 : Int) < (n2 : Int) by omega)
    omega
   obtain ⟨g0, hg0⟩ := HLEG.out.2 j (by rw [HL5.out, HN5.out]; omega)
   obtain ⟨j1, hj1⟩ : ∃ j1, j + 1 = j1 := ⟨_, rfl⟩
   have hS5 : Slc u9 Sty.cells 4 A5 L5 := hO5.slc (fun _ => rfl) (by decide)
   obtain ⟨g, sb, so, hg, hsA, hsb, hsc⟩ := hS5.at_ (k := j1) (by rw [HN5.out]; omega)
   have HG : Hid (LegAt t p j g) := by
    have h1 := hg0.at_
    rw [HL5.out, hj1, hg] at h1
    cases h1
    exact hg0
   have g8a := hsc 0 _ rfl
   have g8b := hsc 1 _ rfl
   have g8c := hsc 2 _ rfl
   have g8d := hsc 3 _ rfl
   simp only [Nat.add_zero] at g8a
   have hw3 : IntKind.i64.wrap x.mi = x.mi := IntWalk.i64_in _ (by omega)
   have hwn : IntKind.i64.wrap ((n5 : Int) - 2) = (n2 : Int) := by
    rw [hn2, show (((n2 + 2 : Nat) : Int) - 2) = (n2 : Int) by omega]; exact IntWalk.i64_in _ (by omega)
   have hwj : IntKind.i64.wrap (1 + (j : Int)) = (j1 : Int) := by
    rw [← hj1, show (1 + (j : Int)) = ((j + 1 : Nat) : Int) by omega]; exact IntWalk.i64_in _ (by omega)
   have hn20 : ¬ n2 = 0 := by omega
   have hj1n : (j1 : Int) < (n5 : Int) := by omega
   have hn53 : ¬ (n5 : Int) < 3 := by omega
   have p2 := P9.out.c 2 _ rfl
   have pl9 := P9.out.lt
   obtain ⟨u10, hu10⟩ : ∃ u10, u9.alloc (.cells #[.bool g.air, .int .i64 g.ix, .int .i64 g.mi.f, .int .i64 g.mi.t] 113) = u10 := ⟨_, rfl⟩
   have E10 : Hid (Below u9.heap.size u9 u10) := by rw [← hu10]; exact ext_alloc (ext_refl u9) _
   have GB0 : Hid (Blk u10 u9.heap.size g.cells) := by rw [← hu10]; exact Blk.newH u9 g.cells 113 u9.heap.size rfl
   have R10 := Lib.hid (R9.out.ext E10.out)
   have r50 := R10.out.c 5 _ rfl
   have r5f := R10.out.f
   have r5l := R10.out.lt
   have gx := GB0.out.c 1 _ rfl
   have gxl := GB0.out.lt
   obtain ⟨U11, hU11⟩ : ∃ U11, u10.setCell ⟨u7.heap.size, 5, none⟩ (.int .i64 g.ix) = U11 := ⟨_, rfl⟩
   have hu9l : u7.heap.size < u9.heap.size := R9.out.lt
   have GB : Hid (Blk U11 u9.heap.size g.cells) := by rw [← hU11]; exact GB0.out.other _ (by show u7.heap.size ≠ u9.heap.size; omega)
   have R11 : Hid (Blk U11 u7.heap.size [.int .i64 (k : Int), .int .i64 ((i : Int) + 1), .int .i64 0, .int .i64 0, .string y.fl.call, .int .i64 g.ix]) := by rw [← hU11]; exact R10.out.set (j := 5) (by simp) _
   have E11 : Hid (Below u7.heap.size u7 U11) := by rw [← hU11]; exact below_set (ext_trans E9.out E10.out) _ _ (Nat.le_refl _)
   have P11 := Lib.hid (P7.out.ext E11.out)
   have M11 := Lib.hid (M7.out.ext E11.out)
   obtain ⟨sh, hb, ho, hsh, hhA, hhb, hhc⟩ := (HH.out.below (Nat.le_refl _) M11.out.e).at_ (k := k) (by rw [HSL.out]; exact hks)
   have sh11 : U11.cell? ⟨hb, ho + k, none⟩ = some (.int .i64 sh) := by have := hhc 0 _ rfl; simpa using this
   have hl11 := hhb
   have hshb := HSH.out sh (List.mem_of_getElem? hsh)
   have HSV : Hid (shs.getD k 0 = sh) := by unfold Hid; rw [List.getD_eq_getElem?_getD, hsh]; rfl
   obtain ⟨D, hD⟩ : ∃ D, g.mi.t - g.mi.f = D := ⟨_, rfl⟩
   have hg1 := HG.out.lt
   have hg2 := HG.out.lo
   have hg3 := HG.out.hi
   obtain ⟨m0, hm0'⟩ : ∃ m0, x.mi.tmod D = m0 := ⟨_, rfl⟩
   have hm01 : 0 ≤ m0 := by rw [← hm0']; exact Int.tmod_nonneg _ hm0
   have hm02 : m0 < D := by rw [← hm0']; exact Int.tmod_lt_of_pos _ (by omega)
   obtain ⟨mi2, hmi2⟩ : ∃ mi2, g.mi.f + m0 - sh = mi2 := ⟨_, rfl⟩
   have hwD : IntKind.i64.wrap (g.mi.t - g.mi.f) = D := by rw [hD]; exact IntWalk.i64_in _ (by omega)
   have hD1 : (if D < 1 then 1 else D) = D := if_neg (by omega)
   have hD0 : ¬ D = 0 := by omega
   have hwf : IntKind.i64.wrap (g.mi.f + m0) = g.mi.f + m0 := IntWalk.i64_in _ (by omega)
   have hws : IntKind.i64.wrap (g.mi.f + m0 - sh) = mi2 := by rw [hmi2]; exact IntWalk.i64_in _ (by omega)
   have HMI : Hid (g.mi.f ≤ mi2 + sh ∧ mi2 + sh < g.mi.t) := by unfold Hid; omega
   have hrd := R11.out.drew
   have s8 := hrd.c 2 _ rfl
   have s8f := hrd.f
   have s8l := hrd.lt
   have R12 : Hid (Blk (U11.setCell ⟨u7.heap.size, 2, none⟩ (.int .i64 mi2)).drew u7.heap.size [.int .i64 (k : Int), .int .i64 ((i : Int) + 1), .int .i64 mi2, .int .i64 0, .string y.fl.call, .int .i64 g.ix]) := (R11.out.set (j := 2) (by simp) (.int .i64 mi2)).drew
   have E12 : Hid (Below u7.heap.size u7 (U11.setCell ⟨u7.heap.size, 2, none⟩ (.int .i64 mi2)).drew) := ext_trans (below_set E11.out _ _ (Nat.le_refl _)) (ext_drew (ext_refl _))
   have GX := Lib.hid hg
   subst hsA hhA
   clear hn2 hm1 hg0 hg hsb hj1 hsh hhb hhc hshb hD hg1 hg2 hg3 hm01 hm02 hmi2 hrd hO5 hS5 BX hu9l hsc
   go_wp2_with fail
   clear hU11 hu10 g8a g8b g8c g8d gx gxl r50 r5f r5l p2 pl9 hwn hwj hn20 hj1n hn53
   have SS := Lib.hid (show ∀ w', Below U11.heap.size U11 w' → (fun w' => Below U11.heap.size U11 w' ∧ w'.cell? ⟨u9.heap.size, 2, none⟩ = some (.int .i64 g.mi.f) ∧ w'.cell? ⟨u9.heap.size, 3, none⟩ = some (.int .i64 g.mi.t) ∧ w'.cell? ⟨wo.heap.size, 2, none⟩ = some (.int .u8 x.mi) ∧ w'.cell? ⟨hb, ho + k, none⟩ = some (.int .i64 sh)) w' from fun w' h => ⟨h, (GB.out.ext h).c 2 _ rfl, (GB.out.ext h).c 3 _ rfl, (P11.out.ext h).c 2 _ rfl, (h.cell (p := ⟨hb, ho + k, none⟩) hl11).trans sh11⟩)
   refine rgB 22 SS (ext_drew (ext_refl _)) (fun Q7 hQ7 hN7 hHeld => ?_)
   refine rgT 0 (some 114) hQ7 hHeld ?_; refine rgT 1 (some 115) hQ7 hHeld ?_; refine rgT 2 (some 116) hQ7 hHeld ?_; refine rgT 3 (some 117) hQ7 hHeld ?_; refine rgT 4 (some 118) hQ7 hHeld ?_; refine rgT 5 (some 119) hQ7 hHeld ?_; refine rgT 6 (some 120) hQ7 hHeld ?_; refine rgT 7 (some 121) hQ7 hHeld ?_; refine rgT 8 (some 122) hQ7 hHeld ?_; refine rgT 9 (some 123) hQ7 hHeld ?_; refine rgT 10 (some 124) hQ7 hHeld ?_
   refine rgT 11 (some 125) hQ7 hHeld ?_; refine rgT 12 (some 126) hQ7 hHeld ?_; refine rgT 13 (some 127) hQ7 hHeld ?_; refine rgT 14 (some 128) hQ7 hHeld ?_; refine rgT 15 (some 129) hQ7 hHeld ?_; refine rgT 16 (some 130) hQ7 hHeld ?_; refine rgT 17 (some 131) hQ7 hHeld ?_; refine rgT 18 (some 132) hQ7 hHeld ?_; refine rgT 19 (some 133) hQ7 hHeld ?_; refine rgT 20 (some 134) hQ7 hHeld ?_; refine rgT 21 (some 135) hQ7 hHeld ?_
   refine rg_one (i := 22) (by kernel_rfl) (rg_late rfl (by rfl) (by kernel_rfl) (fun K hK => ?_))
   go_simp
   refine hK.out _ _ ?_
   clear hK K
   try simp only [Act.put, List.setIfInBounds_toArray, List.set_cons_zero, List.set_cons_succ]
   refine rg_end (by kernel_rfl) (hN7 _ _ ?_) _
   clear hQ7 hN7 Q7
   have BX := hHeld.1
   clear SS
   obtain ⟨U12, hU12⟩ : ∃ U12, (U11.setCell ⟨u7.heap.size, 2, none⟩ (.int .i64 mi2)).drew = U12 := ⟨_, rfl⟩
   rw [hU12] at R12 E12 ⊢
   have M12 := Lib.hid (M7.out.ext E12.out)
   clear BX hU12 s8 s8f s8l sh11 hl11 hwD hD1 hD0 hwf hws hw3
   have r0 := R12.out.c 0 _ rfl
   have r1 := R12.out.c 1 _ rfl
   have r2 := R12.out.c 2 _ rfl
   have r3 := R12.out.c 3 _ rfl
   have r4 := R12.out.c 4 _ rfl
   have r5 := R12.out.c 5 _ rfl
   have rl := R12.out.lt
   by_cases h0 : mi2 < 0
   ·go_wp2_with fail
    go_roundw
    case rel => exact ⟨i + 1, A, n, c, Rl, O, hlt, by go_num, rfl, rfl, rfl, by omega, M12, HO, HMD.out.skip⟩
    case measure => simp [intOf]; (try omega)
   by_cases h1 : 1440 ≤ mi2
   ·go_wp2_with fail
    go_roundw
    case rel => exact ⟨i + 1, A, n, c, Rl, O, hlt, by go_num, rfl, rfl, rfl, by omega, M12, HO, HMD.out.skip⟩
    case measure => simp [intOf]; (try omega)
   obtain ⟨r, hr⟩ : ∃ r : Rep, r = ⟨(k : Int), (i : Int) + 1, mi2, 0, y.fl.call, g.ix⟩ := ⟨_, rfl⟩
   have hPr : P r = true := by
    rw [← HPP.out]
    refine right_leg HY.out HD.out HPT.out HG.out (by rw [hr]) (by rw [hr]) ?_ ?_
    ·rw [hr]
     show g.mi.f ≤ mi2 + shs.getD (k : Int).toNat 0
     rw [show (k : Int).toNat = k by omega, HSV.out]
     exact HMI.out.1
    ·rw [hr]
     show mi2 + shs.getD (k : Int).toNat 0 < g.mi.t
     rw [show (k : Int).toNat = k by omega, HSV.out]
     exact HMI.out.2
   have HMD9 := Lib.hid (HMD.out.right hPr)
   obtain ⟨W13, A9, c9, hrun, M13⟩ := made_push M12.out r (by omega)
   have hrun' : (Builtin.append_ #[30, 30] 30 #[.slice A n c, .slice (some ⟨U12.heap.size, 0, none⟩) 1 1]).run Tryz.prog (U12.alloc (.cells #[.int .i64 (k : Int), .int .i64 ((i : Int) + 1), .int .i64 mi2, .int .i64 0, .string y.fl.call, .int .i64 g.ix] 55)) = .ok (.slice A9 (n + 1) c9) W13 := by rw [hr] at hrun; exact hrun
   have HRUN := Lib.hid hrun'
   have HM13 := Lib.hid M13
   clear hPr hrun hrun' M13 hr
   go_wp2_with (at_builtin; refine wpList_append_run rfl (.tmp 144) (.tmp 146) 30 rfl (.slice A n c) (.slice (some ⟨U12.heap.size, 0, none⟩) 1 1) rfl rfl HRUN.out ?_)
   go_roundw
   case rel => exact ⟨i + 1, A9, n + 1, c9, _, O, hlt, by go_num, rfl, rfl, rfl, by omega, HM13, HO, HMD9⟩
   case measure => simp [intOf]; (try omega)
end Go.Proofs.YtjiojpoiocdnmaaGreat
