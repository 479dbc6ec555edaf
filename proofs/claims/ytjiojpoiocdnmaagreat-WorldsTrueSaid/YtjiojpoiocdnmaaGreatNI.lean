/- The stays on a valid path. -/
import Derived.Test.YtjiojpoiocdnmaaGreatU10
import Derived.Deep.Cut
set_option linter.unusedSimpArgs false
set_option linter.unusedVariables false
namespace Go.Proofs.YtjiojpoiocdnmaaGreat
open Go.RowKit Go.Shelf
attribute [local go_sem] Oper.semAt_some
def toSty (e : Lg × Sp) : Sty := ⟨false, e.1.vol, e.2⟩
def legsE (x : Wy) (p : Pth) : List (Lg × Sp) := x.legs.l.zipIdx.map (fun e => (e.1, ⟨tim p e.2, tim p (e.2 + 1)⟩))
theorem legsE_len (x : Wy) (p : Pth) : (legsE x p).length = x.legs.l.length := by simp [legsE]
theorem legsE_at {x : Wy} {p : Pth} (i : Nat) (y : Lg) (h : x.legs.l[i]? = some y) : (legsE x p)[i]? = some (y, ⟨tim p i, tim p (i + 1)⟩) := by simp [legsE, h]
theorem legsE_stays (x : Wy) (p : Pth) : (legsE x p).map toSty = (List.range x.legs.l.length).map (legStay p x) := by
 refine List.ext_getElem? fun i => ?_
 simp only [List.getElem?_map]
 by_cases hi : i < x.legs.l.length
 ·obtain ⟨y, hy⟩ : ∃ y, x.legs.l[i]? = some y := ⟨_, List.getElem?_eq_getElem hi⟩
  rw [legsE_at i y hy, List.getElem?_range hi]
  simp [toSty, legStay, lvol, hy]
 ·rw [List.getElem?_eq_none (by rw [legsE_len]; omega), List.getElem?_eq_none (by simp; omega)]
  rfl
def stays1 (x : Wy) (v0 : Int) (pre : List (Lg × Sp)) : List Sty := ⟨true, x.f, ⟨v0, v0 + 1⟩⟩ :: pre.map toSty
theorem stays1_len (x : Wy) (v0 : Int) (pre : List (Lg × Sp)) : (stays1 x v0 pre).length = pre.length + 1 := by simp [stays1]
theorem stays1_snoc (x : Wy) (v0 : Int) (pre : List (Lg × Sp)) (e : Lg × Sp) : stays1 x v0 pre ++ [toSty e] = stays1 x v0 (pre ++ [e]) := by simp [stays1]
set_option maxRecDepth 100000 in
set_option maxHeartbeats 16000000 in
theorem osts_any (t : Tab) (p : Pth) (w : World) (ht : Tab.ok w t) (hp : Pth.ok w p) (hleg : ∀ x ∈ t.ws.l, x.legs.l.length ≤ 8) (hb : pathB t p = true) : Calls Tryz.prog 56 #[t.v, p.v] w (StaysR w (staysL t p)) := by
 obtain ⟨x, hok⟩ := path_ok hb
 have HL : Hid (staysL t p = staysX p x) := by unfold Hid staysL; rw [hok.at_]
 rw [HL.out]
 have hx8 := hleg x (List.mem_of_getElem? hok.at_)
 have hlen := hok.len
 have hw0 := hok.w0
 have hw1 := hok.w1
 have HOK := Lib.hid hok
 have hwl := ht.2.2.1.len
 clear HL hok hb
 obtain ⟨y, q1, o1, hy, hA, hb1, hc⟩ := ht.2.2.1.slc.at_ (k := p.way.toNat) (by omega)
 obtain rfl : x = y := Option.some.inj (HOK.out.at_.symm.trans hy)
 obtain ⟨v0, b3, o3, hv0, hP, hb3, hcv⟩ := (show Slc w ic 1 p.ts.A p.ts.l from hp.1).at_ (k := 0) (by omega)
 have t0 := hcv 0 _ rfl
 simp only [Nat.zero_mul, Nat.add_zero] at t0
 have d0 := hc 0 _ rfl
 have d1 := hc 1 _ rfl
 have d2 := hc 2 _ rfl
 simp only [Nat.add_zero] at d0
 have HXO := Lib.hid (show SliceOf.ok Lg.cells 4 Lg.ok w x.legs from ht.2.2.1.all (List.mem_of_getElem? HOK.out.at_))
 have HWS := Lib.hid (show Slc w Wy.cells 3 t.ws.A t.ws.l from ht.2.2.1.slc)
 have HPS := Lib.hid (show Slc w ic 1 p.ts.A p.ts.l from hp.1)
 have HV0 := Lib.hid (tim_at hv0)
 have hr0 := HOK.out.tim 0
 rw [HV0.out] at hr0
 have hs0 : 0 ≤ v0 := hr0.1
 have hs1 : v0 ≤ 65535 := hr0.2
 have HA := Lib.hid hA
 have HP := Lib.hid hP
 show Calls Tryz.prog 56 #[.agg #[.int .i64 t.n, .slice t.ss.A t.ss.l.length t.ss.c, .slice t.cs.A t.cs.l.length t.cs.c, .slice t.ws.A t.ws.l.length t.ws.c, .slice t.ms.A t.ms.l.length t.ms.c, .slice t.ks.A t.ks.l.length t.ks.c], .agg #[.int .i64 p.way, .slice p.ts.A p.ts.l.length p.ts.c]] w _
 rw [hA, hP]
 obtain ⟨W0, hW0⟩ : ∃ W0, ((w.alloc (.cells #[.int .i64 t.n, .slice t.ss.A t.ss.l.length t.ss.c, .slice t.cs.A t.cs.l.length t.cs.c, .slice (some ⟨q1, o1, none⟩) t.ws.l.length t.ws.c, .slice t.ms.A t.ms.l.length t.ms.c, .slice t.ks.A t.ks.l.length t.ks.c] 28)).alloc (.cells #[.int .i64 p.way, .slice (some ⟨b3, o3, none⟩) p.ts.l.length p.ts.c] 71)).alloc (.cells #[.slice none 0 0] 95) = W0 := ⟨_, rfl⟩
 have HT0 : Hid (Blk W0 w.heap.size [.int .i64 t.n, .slice t.ss.A t.ss.l.length t.ss.c, .slice t.cs.A t.cs.l.length t.cs.c, .slice (some ⟨q1, o1, none⟩) t.ws.l.length t.ws.c, .slice t.ms.A t.ms.l.length t.ms.c, .slice t.ks.A t.ks.l.length t.ks.c]) := by rw [← hW0]; exact ((Blk.newH w [.int .i64 t.n, .slice t.ss.A t.ss.l.length t.ss.c, .slice t.cs.A t.cs.l.length t.cs.c, .slice (some ⟨q1, o1, none⟩) t.ws.l.length t.ws.c, .slice t.ms.A t.ms.l.length t.ms.c, .slice t.ks.A t.ks.l.length t.ks.c] 28 w.heap.size rfl).alloc _).alloc _
 have HP0 : Hid (Blk W0 (w.heap.size + 1) [.int .i64 p.way, .slice (some ⟨b3, o3, none⟩) p.ts.l.length p.ts.c]) := by rw [← hW0]; exact (Blk.newH (w.alloc _) [.int .i64 p.way, .slice (some ⟨b3, o3, none⟩) p.ts.l.length p.ts.c] 71 (w.heap.size + 1) (by simp)).alloc _
 have HL0 : Hid (Blk W0 (w.heap.size + 1 + 1) [.slice none 0 0]) := by rw [← hW0]; exact Blk.newH ((w.alloc _).alloc _) [.slice none 0 0] 95 (w.heap.size + 1 + 1) (by simp)
 have HLX : Hid (Boxed W0 (w.heap.size + 1 + 1) 95 (.slice none 0 0)) := by
  rw [← hW0]
  have q := Boxed.new ((w.alloc (.cells #[.int .i64 t.n, .slice t.ss.A t.ss.l.length t.ss.c, .slice t.cs.A t.cs.l.length t.cs.c, .slice (some ⟨q1, o1, none⟩) t.ws.l.length t.ws.c, .slice t.ms.A t.ms.l.length t.ms.c, .slice t.ks.A t.ks.l.length t.ks.c] 28)).alloc (.cells #[.int .i64 p.way, .slice (some ⟨b3, o3, none⟩) p.ts.l.length p.ts.c] 71)) 95 (.slice none 0 0)
  rw [World.size_alloc, World.size_alloc] at q; exact q
 have hE0 : Below w.heap.size w W0 := by rw [← hW0]; exact ext_alloc (ext_alloc (ext_alloc (ext_refl w) _) _) _
 have hz0 : W0.heap.size = w.heap.size + 1 + 1 + 1 := by rw [← hW0]; simp
 obtain ⟨W, hW⟩ : ∃ W, W0.alloc (.cells #[.int .i64 x.f, .int .i64 x.t, .slice x.legs.A x.legs.l.length x.legs.c] 124) = W := ⟨_, rfl⟩
 have HTB : Hid (Blk W w.heap.size [.int .i64 t.n, .slice t.ss.A t.ss.l.length t.ss.c, .slice t.cs.A t.cs.l.length t.cs.c, .slice (some ⟨q1, o1, none⟩) t.ws.l.length t.ws.c, .slice t.ms.A t.ms.l.length t.ms.c, .slice t.ks.A t.ks.l.length t.ks.c]) := by rw [← hW]; exact HT0.out.alloc _
 have HPB : Hid (Blk W (w.heap.size + 1) [.int .i64 p.way, .slice (some ⟨b3, o3, none⟩) p.ts.l.length p.ts.c]) := by rw [← hW]; exact HP0.out.alloc _
 have HLB : Hid (Blk W (w.heap.size + 1 + 1) [.slice none 0 0]) := by rw [← hW]; exact HL0.out.alloc _
 have HLW : Hid (Boxed W (w.heap.size + 1 + 1) 95 (.slice none 0 0)) := by rw [← hW]; exact HLX.out.alloc _
 have HXB : Hid (Blk W (w.heap.size + 1 + 1 + 1) [.int .i64 x.f, .int .i64 x.t, .slice x.legs.A x.legs.l.length x.legs.c]) := by rw [← hW]; exact Blk.newH W0 [.int .i64 x.f, .int .i64 x.t, .slice x.legs.A x.legs.l.length x.legs.c] 124 (w.heap.size + 1 + 1 + 1) hz0
 have HW : Hid (Below w.heap.size w W) := by rw [← hW]; exact ext_alloc hE0 _
 have hz : W.heap.size = w.heap.size + 1 + 1 + 1 + 1 := by rw [← hW]; simp [hz0]
 have f0 := (hE0.cell (p := ⟨q1, o1 + p.way.toNat * 3, none⟩) hb1).trans d0
 have f1 := (hE0.cell (p := ⟨q1, o1 + p.way.toNat * 3 + 1, none⟩) hb1).trans d1
 have f2 := (hE0.cell (p := ⟨q1, o1 + p.way.toNat * 3 + 2, none⟩) hb1).trans d2
 have g0 := HT0.out.c 3 _ rfl
 have g1 := HP0.out.c 0 _ rfl
 have HTM := Lib.hid ((HW.out.cell (p := ⟨b3, o3, none⟩) hb3).trans t0)
 have hbw : b3 < W.heap.size := by omega
 have HE0 := Lib.hid hE0
 unfold maxLen at hwl
 have HLEN := Lib.hid hlen
 have hpos : 0 < p.ts.l.length := by omega
 clear hlen hc hy hA hP hcv hv0 d0 d1 d2 t0 ht hp hleg hr0 hE0
 refine (callsIn_wide (n := 5)).1 ?_
 refine callsIn_of_wp_marks Tryz.func56 rfl trivial ?_ rfl
 simp only [Tryz.ntmps56, List.size_toArray, List.length_cons, List.length_nil, Nat.reduceAdd, Nat.reduceSub, Array.replicate_succ, Array.replicate_zero, List.push_toArray, List.append_toArray, List.nil_append, List.cons_append]
 gi_wp2_with fail
 clear hW0 hW f0 f1 f2 g0 g1
 refine region_in ?_
 have SS := Lib.hid (show ∀ w', Below W.heap.size W w' → (fun w' => Below W.heap.size W w' ∧ w'.cell? ⟨w.heap.size + 1 + 1, 0, none⟩ = some (.slice none 0 0) ∧ w'.cell? ⟨w.heap.size + 1 + 1 + 1, 0, none⟩ = some (.int .i64 x.f) ∧ w'.cell? ⟨w.heap.size + 1, 1, none⟩ = some (.slice (some ⟨b3, o3, none⟩) p.ts.l.length p.ts.c) ∧ w'.cell? ⟨b3, o3, none⟩ = some (.int .i64 v0)) w' from fun w' h => ⟨h, (HLB.out.ext h).c 0 _ rfl, (HXB.out.ext h).c 0 _ rfl, (HPB.out.ext h).c 1 _ rfl, (h.cell (p := ⟨b3, o3, none⟩) hbw).trans HTM.out⟩)
 refine rgB 11 SS (ext_drew (ext_refl _)) (fun Q7 hQ7 hN7 hHeld => ?_)
 refine rgT 0 (some 15) hQ7 hHeld ?_; refine rgT 1 (some 16) hQ7 hHeld ?_; refine rgT 2 (some 17) hQ7 hHeld ?_; refine rgT 3 (some 18) hQ7 hHeld ?_; refine rgT 4 (some 19) hQ7 hHeld ?_; refine rgT 5 (some 20) hQ7 hHeld ?_; refine rgT 6 (some 21) hQ7 hHeld ?_; refine rgT 7 (some 22) hQ7 hHeld ?_
 refine rg_one (i := 8) (by kernel_rfl) (rg_step rfl (by rfl) (fun K hK => ?_))
 go_simp
 refine (air_at x.f v0 _ hs0 hs1).mono ?_
 rintro e u1 ⟨rfl, B1⟩
 go_wp2_with fail
 refine hK.out _ _ ?_ (fun hHeld2 => ?_)
 ·exact SS.out _ (ext_trans hHeld.1 B1)
 clear hHeld
 have hHeld := hHeld2
 clear hHeld2
 clear hK K
 try simp only [Act.put, List.setIfInBounds_toArray, List.set_cons_zero, List.set_cons_succ]
 refine rg_one (i := 9) (by kernel_rfl) (rg_step rfl (by rfl) (fun K hK => ?_))
 go_simp
 refine hK.out _ _ ?_ (fun hHeld2 => ?_)
 ·exact SS.out _ (ext_alloc hHeld.1 _)
 clear hHeld
 have hHeld := hHeld2
 clear hHeld2
 clear hK K
 try simp only [Act.put, List.setIfInBounds_toArray, List.set_cons_zero, List.set_cons_succ]
 refine rg_one (i := 10) (by kernel_rfl) (rg_step rfl (by rfl) (fun K hK => ?_))
 refine rg_append (some 25) _ _ 95 95 rfl rfl rfl _ _ rfl rfl (Own.append_k (w0 := W) styI 95 (Own.nil _ _ _ _ _) hHeld.1 (l := []) (ys := [⟨true, x.f, ⟨v0, v0 + 1⟩⟩]) (m := 1) rfl 1 (slc_litH _ [⟨true, x.f, ⟨v0, v0 + 1⟩⟩] #[.bool true, .int .i64 x.f, .int .i64 v0, .int .i64 (v0 + 1)] 113 (enc := Sty.cells) (sz := 4) (fun _ => rfl) rfl _ rfl) [⟨true, x.f, ⟨v0, v0 + 1⟩⟩] rfl 1 rfl (by omega) (by unfold maxLen; omega)) ?_
 rintro _ w9 ⟨A9, c9, rfl, hO9, hB9, hg9, hl9, hm9⟩
 refine hK.out _ _ ?_ (fun hHeld2 => ?_)
 ·exact SS.out _ hB9
 clear hHeld
 have hHeld := hHeld2
 clear hHeld2
 clear hK K
 try simp only [Act.put, List.setIfInBounds_toArray, List.set_cons_zero, List.set_cons_succ]
 have y9 := HLB.out.ext hHeld.1
 have y0 := y9.c 0 _ rfl
 have yf := y9.f
 have yl := y9.lt
 clear y9
 refine rg_one (i := 11) (by kernel_rfl) (rg_late rfl (by rfl) (by kernel_rfl) (fun K hK => ?_))
 go_simp
 refine hK.out _ _ ?_
 clear hK K
 try simp only [Act.put, List.setIfInBounds_toArray, List.set_cons_zero, List.set_cons_succ]
 refine rg_end (by kernel_rfl) (hN7 _ _ ?_) _
 clear hQ7 hN7 Q7
 have BX := hHeld.1
 clear SS
 refine onlyN ?_
 have BK := BX
 have HY4 := Lib.hid ((HLB.out.ext BK).set (j := 0) (by simp) (.slice A9 1 c9))
 have HYB := Lib.hid ((show Boxed w9 (w.heap.size + 1 + 1) 95 (.slice none 0 0) from (BK.block (w.heap.size + 1 + 1) (by omega)).trans HLW.out).set (.slice A9 1 c9))
 have HYt := Lib.hid ((HTB.out.ext BK).other (p := ⟨w.heap.size + 1 + 1, 0, none⟩) (.slice A9 1 c9) (by simp; omega))
 have HYp := Lib.hid ((HPB.out.ext BK).other (p := ⟨w.heap.size + 1 + 1, 0, none⟩) (.slice A9 1 c9) (by simp))
 have HYx := Lib.hid ((HXB.out.ext BK).other (p := ⟨w.heap.size + 1 + 1, 0, none⟩) (.slice A9 1 c9) (by simp))
 have HYO := Lib.hid (Own.far_set (u := .slice A9 1 c9) hO9 (p := ⟨w.heap.size + 1 + 1, 0, none⟩) (by show w.heap.size + 1 + 1 < _; omega))
 have HYE := Lib.hid (below_set (ext_trans HW.out BK) ⟨w.heap.size + 1 + 1, 0, none⟩ (.slice A9 1 c9) (by show w.heap.size ≤ w.heap.size + 1 + 1; omega))
 have hzw : W.heap.size ≤ (w9.setCell ⟨w.heap.size + 1 + 1, 0, none⟩ (.slice A9 1 c9)).heap.size := by have := BK.size; simpa [World.setCell] using this
 clear BX BK hHeld y0 yf yl hO9 hB9 hg9
 obtain ⟨w3, hw3⟩ : ∃ w3, w9.setCell ⟨w.heap.size + 1 + 1, 0, none⟩ (.slice A9 1 c9) = w3 := ⟨_, rfl⟩
 rw [hw3] at HYB HY4 HYt HYp HYx HYO HYE hzw ⊢
 clear hw3 B1
 have e0 := HYt.out.c 0 _ rfl
 have e1 := HYt.out.c 1 _ rfl
 have e2 := HYt.out.c 2 _ rfl
 have e3 := HYt.out.c 3 _ rfl
 have e4 := HYt.out.c 4 _ rfl
 have e5 := HYt.out.c 5 _ rfl
 have p0 := HYp.out.c 0 _ rfl
 have p1 := HYp.out.c 1 _ rfl
 clear HT0 HP0 HL0 HTB HPB HLB HXB hm9
 gi_wp2_with fail
 refine ⟨trivial, (callsIn_wide.2 (legs_at (.int .i64 t.n) (.slice t.ss.A t.ss.l.length t.ss.c) (.slice t.cs.A t.cs.l.length t.cs.c) (.slice (some ⟨q1, o1, none⟩) t.ws.l.length t.ws.c) (.slice t.ms.A t.ms.l.length t.ms.c) (.slice t.ks.A t.ks.l.length t.ks.c) (.int .i64 p.way) (.slice (some ⟨b3, o3, none⟩) p.ts.l.length p.ts.c) _)).mono ?_⟩
 rintro e w2 ⟨rfl, rfl⟩
 gi_wp2_with fail
 obtain ⟨w2, hw2⟩ : ∃ w2, (w3.alloc (.cells #[.int .i64 t.n, .slice t.ss.A t.ss.l.length t.ss.c, .slice t.cs.A t.cs.l.length t.cs.c, .slice (some ⟨q1, o1, none⟩) t.ws.l.length t.ws.c, .slice t.ms.A t.ms.l.length t.ms.c, .slice t.ks.A t.ks.l.length t.ks.c] 28)).alloc (.cells #[.int .i64 p.way, .slice (some ⟨b3, o3, none⟩) p.ts.l.length p.ts.c] 71) = w2 := ⟨_, rfl⟩
 have hz2 : w2.heap.size = w3.heap.size + 1 + 1 := by rw [← hw2]; simp
 have hb32 : Below w3.heap.size w3 w2 := by rw [← hw2]; exact ext_alloc (ext_alloc (ext_refl w3) _) _
 have hb2 := ext_trans HYE.out hb32
 have hC : LCap w2 w2.heap.size (fun b => b = w.heap.size + 1 + 1 ∨ (W.heap.size ≤ b ∧ b < w3.heap.size)) w3.heap.size (w3.heap.size + 1) t p x := by
  refine ⟨by omega, by omega, by omega, by omega, ?_, ?_, ?_, ⟨w, by omega, by omega, HWS.out, HXO.out.slc, HPS.out, Top.of hb2⟩⟩
  ·rw [HA.out, ← hw2]; exact ((Blk.newH w3 [.int .i64 t.n, .slice t.ss.A t.ss.l.length t.ss.c, .slice t.cs.A t.cs.l.length t.cs.c, .slice (some ⟨q1, o1, none⟩) t.ws.l.length t.ws.c, .slice t.ms.A t.ms.l.length t.ms.c, .slice t.ks.A t.ks.l.length t.ks.c] 28 w3.heap.size rfl).alloc _).c 3 _ rfl
  ·rw [← hw2]; exact (Blk.newH (w3.alloc _) [.int .i64 p.way, .slice (some ⟨b3, o3, none⟩) p.ts.l.length p.ts.c] 71 (w3.heap.size + 1) (by simp)).c 0 _ rfl
  ·rw [HP.out, ← hw2]; exact (Blk.newH (w3.alloc _) [.int .i64 p.way, .slice (some ⟨b3, o3, none⟩) p.ts.l.length p.ts.c] 71 (w3.heap.size + 1) (by simp)).c 1 _ rfl
 have HC := Lib.hid hC
 have HYBk := Lib.hid (show Boxed w2 (w.heap.size + 1 + 1) 95 (.slice A9 1 c9) from (hb32.block (w.heap.size + 1 + 1) (by omega)).trans HYB.out)
 have HY2 := Lib.hid (HYO.out.ext hb32)
 have HG9 := Lib.hid (show ∀ g, (Value.slice A9 1 c9).ownBlock = some g → g < w3.heap.size ∨ w2.heap.size ≤ g from fun g e => .inl (HYO.out.lt g e).1)
 have HBB2 := Lib.hid hb2
 have HYp2 := Lib.hid (HYp.out.ext hb32)
 have HYx2 := Lib.hid (HYx.out.ext hb32)
 rw [hw2]
 have HWL := Lib.hid (show t.ws.l.length ≤ maxLen by unfold maxLen; omega)
 clear hw2 hb32 hb2 hC HYB HYO HY4 HYt HYp HYx HYE e0 e1 e2 e3 e4 e5 p0 p1
 refine wpIn_rangeFunc_ownH (F := Fence.wide) rfl (by decide) (gf := 131) (lb := #[.pointer (some ⟨w3.heap.size, 0, none⟩), .pointer (some ⟨w3.heap.size + 1, 0, none⟩)]) rfl trivial (enters_of Tryz.func131 (by kernel_rfl) rfl)
  (legs_stops 4 (by decide) w2.heap.size (fun b => b = w.heap.size + 1 + 1 ∨ (W.heap.size ≤ b ∧ b < w3.heap.size)) w3.heap.size (w3.heap.size + 1) t p x (legsE x p) HOK.out legsE_at (legsE_len x p) HWL.out (by unfold maxLen; omega) w2 (Nat.le_refl _) HC.out) KpE.t (KpE.b (Nat.le_refl _)) (Below.refl _ _) (fun _ => rfl)
  (fun pre Wp => ∃ v, Boxed Wp (w.heap.size + 1 + 1) 95 v ∧ Own Wp W.heap.size 113 Sty.cells 4 v (stays1 x v0 pre) ∧ (∀ g, v.ownBlock = some g → g < w3.heap.size ∨ w2.heap.size ≤ g) ∧ Below w.heap.size w Wp ∧ w2.heap.size ≤ Wp.heap.size ∧ Kx w2.heap.size (fun b => b = w.heap.size + 1 + 1 ∨ (W.heap.size ≤ b ∧ b < w3.heap.size)) w2 Wp)
  (fun _ _ _ => False)
  (fun s X Y row hs hg hr => by
   obtain ⟨v, h1, h2, h3, h4, h5, h6⟩ := hs
   exact ⟨v, Boxed.turn h1 hg (fun r e => (hr r e).2), h2.turn hg (fun r e => (hr r e).2), h3, h4.grown hg (Nat.le_trans HBB2.out.size h5) (fun r e => Nat.le_trans HBB2.out.size (hr r e).1), Nat.le_trans h5 hg.size, h6.t (Kx.grown hg h5 (fun r e => .inl (hr r e).1))⟩)
  (fun _ _ _ _ _ hs _ _ => hs)
  ⟨_, HYBk.out, by simpa [stays1] using HY2.out, HG9.out, HBB2.out, Nat.le_refl _, Kx.refl _⟩
  (fun e a' Wp => ∃ Bx, Wp.heap[Bx]? = some (.cells #[.int .i64 e.1.seg, .int .i64 e.1.vol, .int .i64 e.1.len, .slice e.1.mi.A e.1.mi.l.length e.1.mi.c] 121 (0, 0)) ∧ Wp.heap[Bx + 1]? = some (.cells #[.int .i64 e.2.f, .int .i64 e.2.t] 44 (0, 0)) ∧ a' = { tmps := #[.agg #[.int .i64 t.n, .slice t.ss.A t.ss.l.length t.ss.c, .slice t.cs.A t.cs.l.length t.cs.c, .slice (some ⟨q1, o1, none⟩) t.ws.l.length t.ws.c, .slice t.ms.A t.ms.l.length t.ms.c, .slice t.ks.A t.ks.l.length t.ks.c], .agg #[.int .i64 p.way, .slice (some ⟨b3, o3, none⟩) p.ts.l.length p.ts.c], .pointer (some ⟨w.heap.size, 0, none⟩), .pointer (some ⟨w.heap.size + 1, 0, none⟩), .pointer (some ⟨w.heap.size + 1 + 1, 0, none⟩), .pointer (some ⟨w.heap.size + 1 + 1 + 1, 0, none⟩), .func (.func 102) #[] #[], .pointer (some ⟨Bx, 0, none⟩), .pointer (some ⟨Bx + 1, 0, none⟩), .pointer (some ⟨w.heap.size, 3, none⟩), .slice (some ⟨q1, o1, none⟩) t.ws.l.length t.ws.c, .pointer (some ⟨w.heap.size + 1, 0, none⟩), .int .i64 p.way, .pointer (some ⟨q1, o1 + p.way.toNat * 3, none⟩), .agg #[.int .i64 x.f, .int .i64 x.t, .slice x.legs.A x.legs.l.length x.legs.c], .slice none 0 0, .func (.func 102) #[] #[], .pointer (some ⟨w.heap.size + 1 + 1 + 1, 0, none⟩), .int .i64 x.f, .pointer (some ⟨w.heap.size + 1, 1, none⟩), .slice (some ⟨b3, o3, none⟩) p.ts.l.length p.ts.c, .pointer (some ⟨b3, o3, none⟩), .int .i64 v0, (⟨true, x.f, ⟨v0, v0 + 1⟩⟩ : Sty).v, .slice (some ⟨u1.heap.size, 0, none⟩) 1 1, .slice A9 1 c9, .agg #[.int .i64 t.n, .slice t.ss.A t.ss.l.length t.ss.c, .slice t.cs.A t.cs.l.length t.cs.c, .slice (some ⟨q1, o1, none⟩) t.ws.l.length t.ws.c, .slice t.ms.A t.ms.l.length t.ms.c, .slice t.ks.A t.ks.l.length t.ks.c], .agg #[.int .i64 p.way, .slice (some ⟨b3, o3, none⟩) p.ts.l.length p.ts.c], .func (.func 131) #[] #[.pointer (some ⟨w3.heap.size, 0, none⟩), .pointer (some ⟨w3.heap.size + 1, 0, none⟩)], e.1.v, e.2.v, undef, undef, undef, undef, undef, undef, undef, undef, undef, undef, undef, undef, undef, undef, undef, undef, undef, undef, undef, undef, undef, undef], defers := [] })
  (fun e a' _ X Y row hs hg hr => by
   obtain ⟨Bx, h1, h1', h2⟩ := hs
   exact ⟨Bx, (hg.block Bx (Array.getElem?_eq_some_iff.1 h1).1 (fun e' => by obtain ⟨ob, h3, h4⟩ := (hr Bx e'.symm).2; rw [h1] at h3; cases h3; cases h4)).trans h1, (hg.block (Bx + 1) (Array.getElem?_eq_some_iff.1 h1').1 (fun e' => by obtain ⟨ob, h3, h4⟩ := (hr (Bx + 1) e'.symm).2; rw [h1'] at h3; cases h3; cases h4)).trans h1', h2⟩) ?assign ?body ?done ?stop
 case assign =>
  rintro l pre e Wp K ⟨v, h1, h2, h3, h4, h5, h6⟩ hK
  simp only [encLS]
  gi_wp2
  exact hK _ _ (((KeepsOthers.alloc _ _).trans (KeepsOthers.alloc _ _)).from _) ⟨Kx.below (ext_alloc (ext_alloc (ext_refl Wp) _) _) h5, by simp; omega⟩ ⟨v, (h1.alloc _).alloc _, (h2.alloc _).alloc _, h3, ext_alloc (ext_alloc h4 _) _, by simp; omega, h6.t (Kx.below (ext_alloc (ext_alloc (ext_refl Wp) _) _) h5)⟩ ⟨Wp.heap.size, ((ext_alloc (ext_refl (Wp.alloc _)) _).block Wp.heap.size (by simp)).trans (World.alloc_heap_new Wp _), by have q := World.alloc_heap_new (Wp.alloc (.cells #[.int .i64 e.1.seg, .int .i64 e.1.vol, .int .i64 e.1.len, .slice e.1.mi.A e.1.mi.l.length e.1.mi.c] 121)) (.cells #[.int .i64 e.2.f, .int .i64 e.2.t] 44); rw [World.size_alloc] at q; exact q, rfl⟩
 case body =>
  rintro l pre e a' Wp _ _ ⟨v, h1, h2, h3, h4, h5, h6⟩ ⟨Bx, hx, hx', rfl⟩ hlt
  have c1 : Wp.cell? ⟨Bx, 1, none⟩ = some (.int .i64 e.1.vol) := by simp [World.cell?, hx]
  have c2 : Wp.cell? ⟨Bx + 1, 0, none⟩ = some (.int .i64 e.2.f) := by simp [World.cell?, hx']
  have c3 : Wp.cell? ⟨Bx + 1, 1, none⟩ = some (.int .i64 e.2.t) := by simp [World.cell?, hx']
  have cv := h1.cell
  have hpl : pre.length < 8 := by have := legsE_len x p; omega
  have hlen1 := stays1_len x v0 pre
  have hS := slc_litH Wp [toSty e] #[.bool false, .int .i64 e.1.vol, .int .i64 e.2.f, .int .i64 e.2.t] 113 (enc := Sty.cells) (sz := 4) (fun _ => rfl) rfl Wp.heap.size rfl
  obtain ⟨v', w5, hrun, hO5, hg5, hat5⟩ := (h2.alloc (.cells #[.bool false, .int .i64 e.1.vol, .int .i64 e.2.f, .int .i64 e.2.t] 113)).append styI 95 (ys := [toSty e]) (m := 1) rfl 1 hS (by simp [hlen1]; omega) (by unfold maxLen; simp [hlen1]; omega) (by simp; omega)
  rw [stays1_snoc] at hO5
  have hlen2 := stays1_len x v0 (pre ++ [e])
  obtain ⟨g5, c5, cur5, hv5, _, hbg5, _, _⟩ := hO5.some_ (by rw [hlen2]; simp)
  rw [show (stays1 x v0 (pre ++ [e])).length = pre.length + 2 by rw [hlen2]; simp] at hv5
  subst hv5
  have hw2 : w.heap.size ≤ W.heap.size := by omega
  obtain ⟨hv1, hv2, hr2, hk2, hb2⟩ := h1.appended (n₀ := w.heap.size) (by decide) (h2.low hw2) h4.size (by omega) (hO5.low hw2) hg5
  have hc1 := hv1.cell
  have hf1 := hv1.frozen
  have hO6 := hO5.block (w' := w5.setCell ⟨w.heap.size + 1 + 1, 0, none⟩ (.slice (some ⟨g5, 0, none⟩) (pre.length + 2) c5)) (fun kk q => by cases q; exact Below.heap_setCell _ _ _ _ (by show g5 ≠ w.heap.size + 1 + 1; omega))
  have hkx : KpE w2.heap.size (fun b => b = w.heap.size + 1 + 1 ∨ (W.heap.size ≤ b ∧ b < w3.heap.size)) Wp (w5.setCell ⟨w.heap.size + 1 + 1, 0, none⟩ (.slice (some ⟨g5, 0, none⟩) (pre.length + 2) c5)) := by
   refine ⟨((Kx.below (ext_alloc (ext_refl Wp) _) h5).t (Kx.grown hg5 (by simp; omega) (fun r q => by
    have q1 := (h2.lt r q).2
    rcases h3 r q with q2 | q2
    ·exact .inr (.inr ⟨q1, q2⟩)
    ·exact .inl q2))).t (Kx.set _ _ (.inr (.inl rfl))), ?_⟩
   have := hg5.size; simp at this; simp [World.setCell]; omega
  have hG6 : ∀ g, (Value.slice (some ⟨g5, 0, none⟩) (pre.length + 2) c5).ownBlock = some g → g < w3.heap.size ∨ w2.heap.size ≤ g := by
   intro g q
   rcases hat5 with q1 | q1
   ·exact h3 g (q1.symm.trans q)
   ·right; rw [q] at q1; injection q1 with q1; rw [q1]; simp; omega
  have HOUT : Hid (ownPostG w2.heap.size (KpE w2.heap.size (fun b => b = w.heap.size + 1 + 1 ∨ (W.heap.size ≤ b ∧ b < w3.heap.size))) (fun pre Wp => ∃ v, Boxed Wp (w.heap.size + 1 + 1) 95 v ∧ Own Wp W.heap.size 113 Sty.cells 4 v (stays1 x v0 pre) ∧ (∀ g, v.ownBlock = some g → g < w3.heap.size ∨ w2.heap.size ≤ g) ∧ Below w.heap.size w Wp ∧ w2.heap.size ≤ Wp.heap.size ∧ Kx w2.heap.size (fun b => b = w.heap.size + 1 + 1 ∨ (W.heap.size ≤ b ∧ b < w3.heap.size)) w2 Wp) (fun _ _ _ => False) (pre ++ [e]) Wp Exit.normal { tmps := #[], defers := [] } (w5.setCell ⟨w.heap.size + 1 + 1, 0, none⟩ (.slice (some ⟨g5, 0, none⟩) (pre.length + 2) c5))) :=
   ⟨hk2.from _, hkx, _, hv2, hO6, hG6, h4.trans hb2, Nat.le_trans h5 hkx.2, h6.t hkx.1⟩
  have HRUN := Lib.hid hrun
  clear hrun hk2 hkx hb2 hr2 hO6 hv2 hg5 hO5 hat5 hS hG6 h6 h3
  gi_wp2_with (gi_at_builtin; refine wpListIn_append_run rfl (.tmp 31) (.tmp 36) 95 rfl v (.slice (some ⟨Wp.heap.size, 0, none⟩) 1 1) rfl rfl HRUN.out ?_)
  exact HOUT.out
 case done =>
  rintro D ys Wd hD rfl ⟨v, h1, h2, h3, h4, h5, h6⟩ hK
  obtain ⟨vn, b4, o4, hvn, hP4, hb4, hcn⟩ := HPS.out.at_ (k := x.legs.l.length) (by have := HLEN.out; omega)
  obtain ⟨e1, e2⟩ : b3 = b4 ∧ o3 = o4 := by have q := HP.out.symm.trans hP4; simp at q; exact q
  subst e1 e2
  have HVN := Lib.hid (tim_at hvn)
  have hrn := HOK.out.tim x.legs.l.length
  rw [HVN.out] at hrn
  have hn0 : 0 ≤ vn := hrn.1
  have hn1 : vn ≤ 65535 := hrn.2
  have tn := hcn 0 _ rfl
  simp only [Nat.mul_one, Nat.add_zero] at tn
  have hnW : W.heap.size ≤ Wd.heap.size := by omega
  obtain ⟨Wc, hWc⟩ : ∃ Wc, cutW Wd W.heap.size = Wc := ⟨_, rfl⟩
  have HCS := Lib.hid (show Wc.heap.size = W.heap.size by rw [← hWc]; exact cut_size hnW)
  have HCB := Lib.hid (show Below Wc.heap.size Wc Wd by rw [← hWc]; exact cut_below hnW)
  have hget : ∀ b, b < W.heap.size → Wc.heap[b]? = Wd.heap[b]? := fun b hb => by rw [← hWc]; exact cut_get hnW hb
  obtain ⟨A5, c5, hv5, hc5, hA5, _⟩ := h2.form
  obtain ⟨L1, hL1⟩ : ∃ L, stays1 x v0 (legsE x p) = L := ⟨_, rfl⟩
  rw [hL1] at h2 hv5 hc5 hA5
  obtain ⟨m, hm⟩ : ∃ m, L1.length = m := ⟨_, rfl⟩
  rw [hm] at hv5 hc5
  have hm1 : m = x.legs.l.length + 1 := by rw [← hm, ← hL1, stays1_len, legsE_len]
  subst hv5
  have k4 : Wc.cell? ⟨w.heap.size + 1 + 1, 0, none⟩ = some (.slice A5 m c5) := (World.cell?_of_block (a := ⟨w.heap.size + 1 + 1, 0, none⟩) (hget (w.heap.size + 1 + 1) (by omega))).trans h1.cell
  have f4 : Wc.frozen? ⟨w.heap.size + 1 + 1, 0, none⟩ = false := (World.frozen?_of_block (a := ⟨w.heap.size + 1 + 1, 0, none⟩) (hget (w.heap.size + 1 + 1) (by omega))).trans h1.frozen
  have kx : Wc.cell? ⟨w.heap.size + 1 + 1 + 1, 1, none⟩ = some (.int .i64 x.t) := ((World.cell?_of_block (a := ⟨w.heap.size + 1 + 1 + 1, 1, none⟩) (hget (w.heap.size + 1 + 1 + 1) (by omega))).trans (h6.cell (by omega) (by omega))).trans (HYx2.out.c 1 _ rfl)
  have kp : Wc.cell? ⟨w.heap.size + 1, 1, none⟩ = some (.slice (some ⟨b3, o3, none⟩) p.ts.l.length p.ts.c) := ((World.cell?_of_block (a := ⟨w.heap.size + 1, 1, none⟩) (hget (w.heap.size + 1) (by omega))).trans (h6.cell (by omega) (by omega))).trans (HYp2.out.c 1 _ rfl)
  have kt : Wc.cell? ⟨b3, o3 + (p.ts.l.length - 1), none⟩ = some (.int .i64 vn) := by
   have q := HLEN.out
   rw [show p.ts.l.length - 1 = x.legs.l.length by omega]
   exact ((World.cell?_of_block (a := ⟨b3, o3 + x.legs.l.length, none⟩) (hget b3 (by omega))).trans (World.cell?_of_block (a := ⟨b3, o3 + x.legs.l.length, none⟩) (h4.block b3 hb3))).trans tn
  have hbc : b3 < Wc.heap.size := by rw [HCS.out]; omega
  have hb1c : w.heap.size + 1 < Wc.heap.size := by rw [HCS.out]; omega
  have hb2c : w.heap.size + 1 + 1 < Wc.heap.size := by rw [HCS.out]; omega
  have hb3c : w.heap.size + 1 + 1 + 1 < Wc.heap.size := by rw [HCS.out]; omega
  have kt' : Wc.cell? ⟨b3, o3 + ((p.ts.l.length : Int) - 1).toNat, none⟩ = some (.int .i64 vn) := by rw [show ((p.ts.l.length : Int) - 1).toNat = p.ts.l.length - 1 by omega]; exact kt
  have hwn : IntKind.i64.wrap ((p.ts.l.length : Int) - 1) = (p.ts.l.length : Int) - 1 := IntWalk.i64_in _ (by have := HLEN.out; omega)
  have hp1 : (0 : Int) ≤ (p.ts.l.length : Int) - 1 := by omega
  have hp3 : (1 : Int) ≤ (p.ts.l.length : Int) := by omega
  have hp2 : (p.ts.l.length : Int) - 1 < (p.ts.l.length : Int) := by omega
  have HO := Lib.hid (show Own Wd Wc.heap.size 113 Sty.cells 4 (.slice A5 m c5) L1 by rw [HCS.out]; exact h2)
  have HB1 := Lib.hid h1
  have HE4 := Lib.hid h4
  have HKD := Lib.hid hK
  have HG3 := Lib.hid h3
  have HL1 := Lib.hid hL1
  have HLM := Lib.hid hm
  have HM1 := Lib.hid hm1
  have K4 := Lib.hid k4
  have F4 := Lib.hid f4
  have KX := Lib.hid kx
  have KP := Lib.hid kp
  have KT := Lib.hid kt
  have KT' := Lib.hid kt'
  clear hm1 hWc hget h1 h2 h3 h4 h6 hK hcn hvn hP4 hrn tn k4 f4 kx kp kt kt' hL1 hm hA5
  gi_wp2_with fail
  refine region_in ?_
  have SS := Lib.hid (show ∀ w', Below Wc.heap.size Wc w' → (fun w' => Below Wc.heap.size Wc w' ∧ w'.cell? ⟨w.heap.size + 1 + 1, 0, none⟩ = some (.slice A5 m c5) ∧ w'.cell? ⟨w.heap.size + 1 + 1 + 1, 1, none⟩ = some (.int .i64 x.t) ∧ w'.cell? ⟨w.heap.size + 1, 1, none⟩ = some (.slice (some ⟨b3, o3, none⟩) p.ts.l.length p.ts.c) ∧ w'.cell? ⟨b3, o3 + (p.ts.l.length - 1), none⟩ = some (.int .i64 vn)) w' from fun w' h => ⟨h, (h.cell (p := ⟨w.heap.size + 1 + 1, 0, none⟩) hb2c).trans K4.out, (h.cell (p := ⟨w.heap.size + 1 + 1 + 1, 1, none⟩) hb3c).trans KX.out, (h.cell (p := ⟨w.heap.size + 1, 1, none⟩) hb1c).trans KP.out, (h.cell (p := ⟨b3, o3 + (p.ts.l.length - 1), none⟩) hbc).trans KT.out⟩)
  refine rgB 15 SS (ext_drew HCB.out) (fun Q7 hQ7 hN7 hHeld => ?_)
  refine rgT 0 (some 38) hQ7 hHeld ?_; refine rgT 1 (some 39) hQ7 hHeld ?_; refine rgT 2 (some 40) hQ7 hHeld ?_; refine rgT 3 (some 41) hQ7 hHeld ?_; refine rgT 4 (some 42) hQ7 hHeld ?_; refine rgT 5 (some 43) hQ7 hHeld ?_; refine rgT 6 (some 44) hQ7 hHeld ?_; refine rgT 7 (some 45) hQ7 hHeld ?_; refine rgT 8 (some 46) hQ7 hHeld ?_; refine rgT 9 (some 47) hQ7 hHeld ?_; refine rgT 10 (some 48) hQ7 hHeld ?_
  refine rgT 11 (some 49) hQ7 hHeld ?_
  refine rg_one (i := 12) (by kernel_rfl) (rg_step rfl (by rfl) (fun K hK => ?_))
  go_simp
  refine (air_at x.t vn _ hn0 hn1).mono ?_
  rintro e u2 ⟨rfl, B2⟩
  go_wp2_with fail
  refine hK.out _ _ ?_ (fun hHeld2 => ?_)
  ·exact SS.out _ (ext_trans hHeld.1 B2)
  clear hHeld
  have hHeld := hHeld2
  clear hHeld2
  clear hK K
  try simp only [Act.put, List.setIfInBounds_toArray, List.set_cons_zero, List.set_cons_succ]
  refine rg_one (i := 13) (by kernel_rfl) (rg_step rfl (by rfl) (fun K hK => ?_))
  go_simp
  refine hK.out _ _ ?_ (fun hHeld2 => ?_)
  ·exact SS.out _ (ext_alloc hHeld.1 _)
  clear hHeld
  have hHeld := hHeld2
  clear hHeld2
  clear hK K
  try simp only [Act.put, List.setIfInBounds_toArray, List.set_cons_zero, List.set_cons_succ]
  refine rg_one (i := 14) (by kernel_rfl) (rg_step rfl (by rfl) (fun K hK => ?_))
  refine rg_append (some 52) _ _ 95 95 rfl rfl rfl _ _ rfl rfl (Own.append_k (w0 := Wc) styI 95 ((HO.out.drew_.ext B2).alloc (.cells #[.bool true, .int .i64 x.t, .int .i64 vn, .int .i64 (vn + 1)] 113)) hHeld.1 (ys := [(⟨true, x.t, ⟨vn, vn + 1⟩⟩ : Sty)]) (m := 1) rfl 1 (slc_litH _ [(⟨true, x.t, ⟨vn, vn + 1⟩⟩ : Sty)] #[.bool true, .int .i64 x.t, .int .i64 vn, .int .i64 (vn + 1)] 113 (enc := Sty.cells) (sz := 4) (fun _ => rfl) rfl _ rfl) (L1 ++ [(⟨true, x.t, ⟨vn, vn + 1⟩⟩ : Sty)]) rfl (m + 1) (by have := HLM.out; simp; omega) (by have := HM1.out; omega) (by have := HM1.out; unfold maxLen; omega)) ?_
  rintro _ w8 ⟨A8, c8, rfl, hO8, hB8, hg8, hl8, hm8⟩
  refine hK.out _ _ ?_ (fun hHeld2 => ?_)
  ·exact SS.out _ hB8
  clear hHeld
  have hHeld := hHeld2
  clear hHeld2
  clear hK K
  try simp only [Act.put, List.setIfInBounds_toArray, List.set_cons_zero, List.set_cons_succ]
  have y0 := (hHeld.1.cell (p := ⟨w.heap.size + 1 + 1, 0, none⟩) hb2c).trans K4.out
  have yf := (hHeld.1.frozen (p := ⟨w.heap.size + 1 + 1, 0, none⟩) hb2c).trans F4.out
  have yl := Nat.lt_of_lt_of_le hb2c hHeld.1.size
  refine rg_one (i := 15) (by kernel_rfl) (rg_late rfl (by rfl) (by kernel_rfl) (fun K hK => ?_))
  go_simp
  refine hK.out _ _ ?_
  clear hK K
  try simp only [Act.put, List.setIfInBounds_toArray, List.set_cons_zero, List.set_cons_succ]
  refine rg_end (by kernel_rfl) (hN7 _ _ ?_) _
  clear hQ7 hN7 Q7
  have BX := hHeld.1
  clear SS
  refine onlyN ?_
  have BK := BX
  clear BX hHeld y0 yf yl
  have hDlt : D < Wd.heap.size := (Array.getElem?_eq_some_iff.1 HKD.out).1
  have hOB : ∀ g, (Value.slice A5 m c5).ownBlock = some g → W.heap.size ≤ g ∧ g < Wd.heap.size ∧ D ≠ g := by
   intro g q
   have q1 := HO.out.lt g q
   rw [HCS.out] at q1
   refine ⟨q1.2, q1.1, fun e => ?_⟩
   subst e
   rcases HO.out.2 with ⟨hv, _⟩ | ⟨g2, cap, cur, hv, _, hg, _⟩
   ·rw [hv] at q; cases q
   ·rw [hv] at q; cases q; have q2 := HKD.out; rw [hg] at q2; cases q2
  have hB2 : Below Wd.heap.size Wd (u2.alloc (.cells #[.bool true, .int .i64 x.t, .int .i64 vn, .int .i64 (vn + 1)] 113)) := ext_alloc (ext_trans (ext_drew (ext_refl Wd)) B2) _
  have hD8 : w8.heap[D]? = some (.deferred (some [])) := ((hg8.block D (Nat.lt_of_lt_of_le hDlt hB2.size) (fun e => (hOB D e.symm).2.2 rfl)).trans (hB2.block D hDlt)).trans HKD.out
  have hKs : (w8.setCell ⟨w.heap.size + 1 + 1, 0, none⟩ (.slice A8 (m + 1) c8)).heap[D]? = some (.deferred (some [])) := (Below.heap_setCell w8 ⟨w.heap.size + 1 + 1, 0, none⟩ _ D (by show D ≠ w.heap.size + 1 + 1; omega)).trans hD8
  have hbw8 : Boxed w8 (w.heap.size + 1 + 1) 95 (.slice A5 m c5) := ((hg8.block (w.heap.size + 1 + 1) (Nat.lt_of_lt_of_le (show w.heap.size + 1 + 1 < Wd.heap.size by omega) hB2.size) (fun e => by have := (hOB _ e.symm).1; omega)).trans (hB2.block (w.heap.size + 1 + 1) (by omega))).trans HB1.out
  have hbx := (hbw8.set (.slice A8 (m + 1) c8)).kept (grownBy_putObj' _ D (.deferred none)) (by simp; omega)
  have hcx := hbx.cell
  have hO7 : Own (w8.setCell ⟨w.heap.size + 1 + 1, 0, none⟩ (.slice A8 (m + 1) c8)) Wc.heap.size 113 Sty.cells 4 (.slice A8 (m + 1) c8) (L1 ++ [⟨true, x.t, ⟨vn, vn + 1⟩⟩]) := Own.far_set hO8 (by show w.heap.size + 1 + 1 < _; omega)
  have hO7' := hO7.turn (grownBy_putObj' _ D (.deferred none)) (fun r e => by cases e; exact ⟨_, hKs, rfl⟩)
  rw [HCS.out] at hO7'
  have hO9 := Lib.hid (hO7'.low (base' := w.heap.size) (by omega))
  have hEB : Below w.heap.size w w8 := ⟨BK.os.trans (HCB.out.os.symm.trans HE4.out.os), BK.tape.trans (HCB.out.tape.symm.trans HE4.out.tape), BK.output.trans (HCB.out.output.symm.trans HE4.out.output), by have := BK.size; rw [HCS.out] at this; omega, fun b hb => (BK.block b (by rw [HCS.out]; omega)).trans ((HCB.out.block b (by rw [HCS.out]; omega)).symm.trans (HE4.out.block b hb))⟩
  have hB5 := Lib.hid (show Below w.heap.size w ((w8.setCell ⟨w.heap.size + 1 + 1, 0, none⟩ (.slice A8 (m + 1) c8)).putObj D (.deferred none)) from (hEB.setCell (p := ⟨w.heap.size + 1 + 1, 0, none⟩) (by show w.heap.size ≤ w.heap.size + 1 + 1; omega) _).grown (grownBy_putObj' _ D _) (by simp [World.setCell]; exact hEB.size) (fun r e => by cases e; omega))
  have HLF := Lib.hid (show L1 ++ [⟨true, x.t, ⟨vn, vn + 1⟩⟩] = staysX p x by
   rw [← HL1.out]; unfold staysX staysN stays1; rw [legsE_stays, HV0.out, HVN.out])
  have HLN := Lib.hid (show m + 1 = (staysX p x).length by rw [← HLF.out, List.length_append, HLM.out]; rfl)
  clear hB2 hD8 hbw8 hbx hO7 hO7' hEB BK hO8 hB8 hg8
  gi_wp2_with fail
  refine ⟨by simp, .inl ⟨_, _, rfl, run_takeDeferred hKs, ?_⟩⟩
  refine ⟨.slice A8 (m + 1) c8, by simp [results, Tryz.results56, go_sem, hcx], ?_⟩
  refine ⟨A8, c8, by rw [← HLN.out], ?_, hB5.out⟩
  rw [← HLN.out, ← HLF.out]
  exact hO9.out
 case stop =>
  rintro D cc pre W _ _ h _
  exact h.elim
end Go.Proofs.YtjiojpoiocdnmaaGreat
