/- The scene of tables, stations, reports and tracks: set. -/
import Derived.Test.YtjiojpoiocdnmaaGreatU21
import Derived.Test.YtjiojpoiocdnmaaGreatNJ
set_option linter.unusedSimpArgs false
set_option linter.unusedVariables false
namespace Go.Proofs.YtjiojpoiocdnmaaGreat
open Go.RowKit Go.ChangeMaps
theorem rowsI : EInfo Tryz.prog 73 135 (SliceOf.enc (α := SliceOf Sty)) 1 24 := by
 obtain ⟨i, h1, h2, h3, h4⟩ := iparts (show (Tryz.prog.info? 135).map (fun i => (i.zero, i.size, i.bytes)) = some (some (.slice none 0 0), 1, 24) by kernel_rfl)
 exact ⟨Tryz.underlying73, ⟨i, _, h1, h2, h3, h4, rfl⟩, by decide, fun _ => rfl, fun x u hu => by simp [SliceOf.enc] at hu; subst hu; rfl⟩
theorem rowyI : EInfo Tryz.prog 135 95 (SliceOf.enc (α := Sty)) 1 24 := by
 obtain ⟨i, h1, h2, h3, h4⟩ := iparts (show (Tryz.prog.info? 95).map (fun i => (i.zero, i.size, i.bytes)) = some (some (.slice none 0 0), 1, 24) by kernel_rfl)
 exact ⟨Tryz.underlying135, ⟨i, _, h1, h2, h3, h4, rfl⟩, by decide, fun _ => rfl, fun x u hu => by simp [SliceOf.enc] at hu; subst hu; rfl⟩
theorem repI : EInfo Tryz.prog 30 55 Rep.cells 6 56 := by
 obtain ⟨i, h1, h2, h3, h4⟩ := iparts (show (Tryz.prog.info? 55).map (fun i => (i.zero, i.size, i.bytes)) = some (some (.agg #[.int .i64 0, .int .i64 0, .int .i64 0, .int .i64 0, .string ⟨#[]⟩, .int .i64 0]), 6, 56) by kernel_rfl)
 exact ⟨Tryz.underlying30, ⟨i, _, h1, h2, h3, h4, rfl⟩, by decide, fun _ => rfl, fun x u hu => by simp [Rep.cells] at hu; rcases hu with rfl | rfl | rfl | rfl | rfl | rfl <;> rfl⟩
theorem zv81 (w : World) : (zeroValue 81).run Tryz.prog w = .ok (.pointer none) w := by kernel_rfl
def zScn : Value := .agg #[.slice none 0 0, .map none, .int .i64 0, .int .i64 0, .int .i64 0, .int .i64 0, .int .i64 0, .int .i64 0, .int .i64 0, .int .i64 0, .slice none 0 0]
def SetR (w : World) (t : Tab) (s : List Stn) (R : List Rep) (l : List Trk) (e : Ending) (w' : World) : Prop :=
 Below w.heap.size w w' ∧ ((askE t s R l ≠ 0 ∧ e = .returned (.tuple #[zScn, .int .i64 (askE t s R l)])) ∨ (askE t s R l = 0 ∧ ∃ X : Scn, e = .returned (.tuple #[X.v, .int .i64 0]) ∧ SceneOk w' X ∧ SceneSpec t s R l X))
abbrev mkX (m : Nat) (sA : Option Addr) (sc : Nat) (st : List (SliceOf (SliceOf Sty))) (G : List Grp) (lost bud : V4) : Scn := ⟨sA, sc, st, m, G, lost, bud, none, 0, []⟩
theorem askE_w {t : Tab} {s : List Stn} {R : List Rep} {l : List Trk} {E : Int} (h : wchkE t l = E) (h0 : E ≠ 0) : askE t s R l = E := by unfold askE; rw [if_pos (by rw [h]; exact h0), h]
theorem askE_b {t : Tab} {s : List Stn} {R : List Rep} {l : List Trk} {b : Bool} (h : wchkE t l = 0) (hb : askB t s R = b) : askE t s R l = if b then 0 else 240 := by unfold askE; rw [if_neg (by rw [h]; simp), hb]
theorem wchk_ok {t : Tab} {l : List Trk} (h : wchkE t l = 0) : chkT t = 0 ∧ l.length ≤ 12 ∧ ∀ y ∈ l, trkB t y = true := by
 unfold wchkE at h
 split at h
 ·rename_i h0; exact absurd h h0
 ·rename_i h0
  simp only [ne_eq, Decidable.not_not] at h0
  split at h
  ·rename_i h1
   simp only [Bool.and_eq_true, decide_eq_true_eq, List.all_eq_true] at h1
   exact ⟨h0, h1.1, h1.2⟩
  ·cases h
theorem trk_paths {t : Tab} {y : Trk} (h : trkB t y = true) : ∀ p ∈ y.ps.l, pathB t p = true := by
 simp only [trkB, Bool.and_eq_true, List.all_eq_true] at h
 exact h.2
set_option maxRecDepth 100000 in
set_option maxHeartbeats 16000000 in
theorem set_of (t : Tab) (SA : Option Addr) (sc : Nat) (sl : List Stn) (RA : Option Addr) (rc : Nat) (R : List Rep) (LA : Option Addr) (lc : Nat) (ll : List Trk) (w : World) (ht : Tab.ok w t) (hs : SliceOf.ok Stn.cells 3 Stn.ok w ⟨SA, sc, sl⟩) (hr : Slc w Rep.cells 6 RA R) (hl : SliceOf.ok Trk.cells 14 Trk.ok w ⟨LA, lc, ll⟩)
  (hsn : sl.length ≤ 100) (hrn : R.length ≤ 1000) (hln : ll.length ≤ 100) : Calls Tryz.prog 23 #[t.v, .slice SA sl.length sc, .slice RA R.length rc, .slice LA ll.length lc] w (SetR w t sl R ll) := by
 obtain ⟨E, hE⟩ : ∃ E, askE t sl R ll = E := ⟨_, rfl⟩
 have HE := Lib.hid hE
 have HT := Lib.hid ht
 have HS := Lib.hid hs
 have HR := Lib.hid hr
 have HL := Lib.hid hl
 obtain ⟨bx, hbx⟩ : ∃ bx, w.heap.size + 1 + 1 = bx := ⟨_, rfl⟩
 obtain ⟨W0, hW0⟩ : ∃ W0, ((w.alloc (.cells #[.int .i64 t.n, .slice t.ss.A t.ss.l.length t.ss.c, .slice t.cs.A t.cs.l.length t.cs.c, .slice t.ws.A t.ws.l.length t.ws.c, .slice t.ms.A t.ms.l.length t.ms.c, .slice t.ks.A t.ks.l.length t.ks.c] 28)).alloc (.cells #[.slice SA sl.length sc] 29)).alloc (.cells #[.slice none 0 0, .map none, .int .i64 0, .int .i64 0, .int .i64 0, .int .i64 0, .int .i64 0, .int .i64 0, .int .i64 0, .int .i64 0, .slice none 0 0] 78) = W0 := ⟨_, rfl⟩
 have E0 : Hid (Below w.heap.size w W0) := by rw [← hW0]; exact ext_alloc (ext_alloc (ext_alloc (ext_refl w) _) _) _
 have BT : Hid (Blk W0 w.heap.size t.cells) := by rw [← hW0]; exact ((Blk.newH w t.cells 28 w.heap.size rfl).alloc _).alloc _
 have BS : Hid (Blk W0 (w.heap.size + 1) [.slice SA sl.length sc]) := by rw [← hW0]; exact (Blk.newH (w.alloc _) [.slice SA sl.length sc] 29 (w.heap.size + 1) (by simp)).alloc _
 have BX : Hid (Blk W0 bx [.slice none 0 0, .map none, .int .i64 0, .int .i64 0, .int .i64 0, .int .i64 0, .int .i64 0, .int .i64 0, .int .i64 0, .int .i64 0, .slice none 0 0]) := by rw [← hW0, ← hbx]; exact Blk.newH ((w.alloc _).alloc _) [.slice none 0 0, .map none, .int .i64 0, .int .i64 0, .int .i64 0, .int .i64 0, .int .i64 0, .int .i64 0, .int .i64 0, .int .i64 0, .slice none 0 0] 78 (w.heap.size + 1 + 1) (by simp)
 have hz0 : W0.heap.size = bx + 1 := by rw [← hW0, ← hbx]; simp
 have c0 := BT.out.c 0 _ rfl
 have c1 := BT.out.c 1 _ rfl
 have c2 := BT.out.c 2 _ rfl
 have c3 := BT.out.c 3 _ rfl
 have c4 := BT.out.c 4 _ rfl
 have c5 := BT.out.c 5 _ rfl
 have l0 := BT.out.lt
 clear hE ht hs hr hl
 go_enter Tryz.func23, Tryz.ntmps23
 go_wp2_with fail
 clear c0 c1 c2 c3 c4 c5
 refine (wchk_at _ rfl rfl (HT.out.ext E0.out) (SliceOf.ok.ext HL.out E0.out (fun _ k => k.ext E0.out))).mono ?_
 rintro e w1 ⟨rfl, B⟩
 have E1 := Lib.hid (ext_trans E0.out B)
 have BT1 := Lib.hid (BT.out.ext B)
 have BS1 := Lib.hid (BS.out.ext B)
 have BX1 := Lib.hid (BX.out.ext B)
 have hz1 : bx < w1.heap.size := by have := B.size; omega
 clear E0 BT BS BX B hW0 hz0 l0
 by_cases hw : wchkE t ll = 0
 rotate_left
 ·obtain ⟨E1', hE1⟩ : ∃ q, wchkE t ll = q := ⟨_, rfl⟩
  rw [hE1] at hw ⊢
  have HR1 : Hid (E1' = E) := (askE_w hE1 hw).symm.trans HE.out
  clear hE1
  have x0 := BX1.out.c 0 _ rfl
  have x1 := BX1.out.c 1 _ rfl
  have x2 := BX1.out.c 2 _ rfl
  have x3 := BX1.out.c 3 _ rfl
  have x4 := BX1.out.c 4 _ rfl
  have x5 := BX1.out.c 5 _ rfl
  have x6 := BX1.out.c 6 _ rfl
  have x7 := BX1.out.c 7 _ rfl
  have x8 := BX1.out.c 8 _ rfl
  have x9 := BX1.out.c 9 _ rfl
  have x10 := BX1.out.c 10 _ rfl
  have s0 := setCell_self x0
  have s1 := setCell_self x1
  have s2 := setCell_self x2
  have s3 := setCell_self x3
  have s4 := setCell_self x4
  have s5 := setCell_self x5
  have s6 := setCell_self x6
  have s7 := setCell_self x7
  have s8 := setCell_self x8
  have s9 := setCell_self x9
  have s10 := setCell_self x10
  have xl := BX1.out.lt
  have xf := BX1.out.f
  go_wp2_with fail
  refine bodyPost_ret (v := .tuple #[zScn, .int .i64 E1']) (by simp [results, Tryz.results23, go_sem, zScn, *]) rfl ?_
  exact ⟨E1.out, .inl ⟨by rw [HE.out, ← HR1.out]; exact hw, by rw [HE.out, HR1.out]⟩⟩
 have HW := Lib.hid hw
 rw [hw]
 clear hw
 have hs0 := BS1.out.c 0 _ rfl
 have hsl := BS1.out.lt
 have hr1024 : ¬ (1024 : Int) < R.length := by omega
 by_cases h4 : 4 < sl.length
 ·have HR1 : Hid (240 = E) := by
   have := askE_b HW.out (show askB t sl R = false by unfold askB; rw [decide_eq_false (show ¬ sl.length ≤ 4 by omega)]; rfl)
   exact this.symm.trans HE.out
  have h4' : (4 : Int) < sl.length := by omega
  have x0 := BX1.out.c 0 _ rfl
  have x1 := BX1.out.c 1 _ rfl
  have x2 := BX1.out.c 2 _ rfl
  have x3 := BX1.out.c 3 _ rfl
  have x4 := BX1.out.c 4 _ rfl
  have x5 := BX1.out.c 5 _ rfl
  have x6 := BX1.out.c 6 _ rfl
  have x7 := BX1.out.c 7 _ rfl
  have x8 := BX1.out.c 8 _ rfl
  have x9 := BX1.out.c 9 _ rfl
  have x10 := BX1.out.c 10 _ rfl
  have s0 := setCell_self x0
  have s1 := setCell_self x1
  have s2 := setCell_self x2
  have s3 := setCell_self x3
  have s4 := setCell_self x4
  have s5 := setCell_self x5
  have s6 := setCell_self x6
  have s7 := setCell_self x7
  have s8 := setCell_self x8
  have s9 := setCell_self x9
  have s10 := setCell_self x10
  have xl := BX1.out.lt
  have xf := BX1.out.f
  go_wp2_with fail
  refine bodyPost_ret (v := .tuple #[zScn, .int .i64 240]) (by simp [results, Tryz.results23, go_sem, zScn, *]) rfl ?_
  exact ⟨E1.out, .inl ⟨by rw [HE.out, ← HR1.out]; decide, by rw [HE.out, HR1.out]⟩⟩
 have h4' : ¬ (4 : Int) < sl.length := by omega
 have hd4 : decide ((4 : Int) < sl.length) = false := decide_eq_false h4'
 have hd5 : decide ((1024 : Int) < R.length) = false := decide_eq_false hr1024
 have HB1 : Hid (askB t sl R = (sl.all (stnB t.n) && R.all (repB sl.length))) := by
  unfold askB Hid; rw [decide_eq_true (show sl.length ≤ 4 by omega), decide_eq_true (show R.length ≤ 1024 by omega)]; rfl
 go_wp2_with fail
 refine (containsStnC 46 (.pointer (some ⟨w.heap.size, 0, none⟩)) (fun x => !stnB t.n x) SA sc sl w1 (HS.out.slc.below (Nat.le_refl _) E1.out) (by unfold maxLen; omega) entersS1 (fun x W hx hW => set1_any t w.heap.size x W ((HS.out.all hx).ext (ext_trans E1.out hW)) (BT1.out.ext hW))).mono ?_
 rintro e w2 ⟨rfl, B⟩
 have E2 := Lib.hid (ext_trans E1.out B)
 have BT2 := Lib.hid (BT1.out.ext B)
 have BS2 := Lib.hid (BS1.out.ext B)
 have BX2 := Lib.hid (BX1.out.ext B)
 have hz2 : bx < w2.heap.size := by have := B.size; omega
 have HAN : Hid (sl.any (fun x => !stnB t.n x) = !sl.all (stnB t.n)) := by unfold Hid; rw [← all_any (stnB t.n) sl, Bool.not_not]
 rw [HAN.out]
 clear E1 BT1 BS1 BX1 B hs0 hsl hz1 HAN
 cases hsa : sl.all (stnB t.n)
 ·have HR1 : Hid (240 = E) := by
   have := askE_b HW.out (show askB t sl R = false by rw [HB1.out, hsa]; rfl)
   exact this.symm.trans HE.out
  clear hsa
  have x0 := BX2.out.c 0 _ rfl
  have x1 := BX2.out.c 1 _ rfl
  have x2 := BX2.out.c 2 _ rfl
  have x3 := BX2.out.c 3 _ rfl
  have x4 := BX2.out.c 4 _ rfl
  have x5 := BX2.out.c 5 _ rfl
  have x6 := BX2.out.c 6 _ rfl
  have x7 := BX2.out.c 7 _ rfl
  have x8 := BX2.out.c 8 _ rfl
  have x9 := BX2.out.c 9 _ rfl
  have x10 := BX2.out.c 10 _ rfl
  have s0 := setCell_self x0
  have s1 := setCell_self x1
  have s2 := setCell_self x2
  have s3 := setCell_self x3
  have s4 := setCell_self x4
  have s5 := setCell_self x5
  have s6 := setCell_self x6
  have s7 := setCell_self x7
  have s8 := setCell_self x8
  have s9 := setCell_self x9
  have s10 := setCell_self x10
  have xl := BX2.out.lt
  have xf := BX2.out.f
  go_wp2_with fail
  refine bodyPost_ret (v := .tuple #[zScn, .int .i64 240]) (by simp [results, Tryz.results23, go_sem, zScn, *]) rfl ?_
  exact ⟨E2.out, .inl ⟨by rw [HE.out, ← HR1.out]; decide, by rw [HE.out, HR1.out]⟩⟩
 have HSA := Lib.hid hsa
 clear hsa
 go_wp2_with fail
 refine (containsRep 49 (.pointer (some ⟨w.heap.size + 1, 0, none⟩)) (fun x => !repB sl.length x) RA rc R w2 (HR.out.below (Nat.le_refl _) E2.out) (by unfold maxLen; omega) entersS2 (fun x W hx hW => set2_any SA sl.length sc (w.heap.size + 1) x W (by omega) (BS2.out.ext hW))).mono ?_
 rintro e w3 ⟨rfl, B⟩
 have E3 := Lib.hid (ext_trans E2.out B)
 have BT3 := Lib.hid (BT2.out.ext B)
 have BS3 := Lib.hid (BS2.out.ext B)
 have BX3 := Lib.hid (BX2.out.ext B)
 have hz3 : bx < w3.heap.size := by have := B.size; omega
 have HAN : Hid (R.any (fun x => !repB sl.length x) = !R.all (repB sl.length)) := by unfold Hid; rw [← all_any (repB sl.length) R, Bool.not_not]
 rw [HAN.out]
 clear E2 BT2 BS2 BX2 B hz2 HAN
 cases hra : R.all (repB sl.length)
 ·have HR1 : Hid (240 = E) := by
   have := askE_b HW.out (show askB t sl R = false by rw [HB1.out, HSA.out, hra]; rfl)
   exact this.symm.trans HE.out
  clear hra
  have x0 := BX3.out.c 0 _ rfl
  have x1 := BX3.out.c 1 _ rfl
  have x2 := BX3.out.c 2 _ rfl
  have x3 := BX3.out.c 3 _ rfl
  have x4 := BX3.out.c 4 _ rfl
  have x5 := BX3.out.c 5 _ rfl
  have x6 := BX3.out.c 6 _ rfl
  have x7 := BX3.out.c 7 _ rfl
  have x8 := BX3.out.c 8 _ rfl
  have x9 := BX3.out.c 9 _ rfl
  have x10 := BX3.out.c 10 _ rfl
  have s0 := setCell_self x0
  have s1 := setCell_self x1
  have s2 := setCell_self x2
  have s3 := setCell_self x3
  have s4 := setCell_self x4
  have s5 := setCell_self x5
  have s6 := setCell_self x6
  have s7 := setCell_self x7
  have s8 := setCell_self x8
  have s9 := setCell_self x9
  have s10 := setCell_self x10
  have xl := BX3.out.lt
  have xf := BX3.out.f
  go_wp2_with fail
  refine bodyPost_ret (v := .tuple #[zScn, .int .i64 240]) (by simp [results, Tryz.results23, go_sem, zScn, *]) rfl ?_
  exact ⟨E3.out, .inl ⟨by rw [HE.out, ← HR1.out]; decide, by rw [HE.out, HR1.out]⟩⟩
 have HRA := Lib.hid hra
 have HR0 : Hid (E = 0) := by
  have := askE_b HW.out (show askB t sl R = true by rw [HB1.out, HSA.out, hra]; rfl)
  exact HE.out.symm.trans this
 have H144 := Lib.hid (show sl.length ≤ 4 by omega)
 clear hra HB1 hr1024 h4 h4' hd4 hd5
 obtain ⟨m, hm⟩ : ∃ m, w3.heap.size = m := ⟨_, rfl⟩
 have hmk := mk74
 obtain ⟨W4, hW4⟩ : ∃ W4, (w3.alloc (.map #[] 0)).setCell ⟨bx, 1, none⟩ (.map (some m)) = W4 := ⟨_, rfl⟩
 have x1 := (BX3.out.alloc (.map #[] 0)).c 1 _ rfl
 have xl := (BX3.out.alloc (.map #[] 0)).lt
 have xf := (BX3.out.alloc (.map #[] 0)).f 1
 have HS4 : Hid (SetS w t.cells [.slice SA sl.length sc] bx (m + 1) (mkX m none 0 [] [] V4.zero V4.zero) W4) := by
  have hb : Below w3.heap.size w3 (w3.alloc (.map #[] 0)) := ext_alloc (ext_refl _) _
  rw [← hW4]
  refine ⟨below_set (ext_trans E3.out hb) _ _ (by show w.heap.size ≤ bx; omega), (BT3.out.ext hb).other (p := ⟨bx, 1, none⟩) _ (by show bx ≠ w.heap.size; omega), (BS3.out.ext hb).other (p := ⟨bx, 1, none⟩) _ (by show bx ≠ w.heap.size + 1; omega), (BX3.out.ext hb).set (j := 1) (by simp) _, by omega, ⟨by omega, by show m < m + 1; omega, by show w.heap.size + 1 < m; omega, by show bx ≠ m; omega⟩, by simp [World.setCell]; omega, Own.nil _ _ _ _ _, by simp, by simp, ?_, by simp, by simp⟩
  show GMap encC _ m []
  rw [← hm]
  exact (GMap.made w3).of_block (Below.heap_setCell _ _ _ _ (by show w3.heap.size ≠ bx; omega))
 clear E3 BT3 BS3 BX3 hz3
 go_wp2_with fail
 clear x1 xl xf hW4 hmk hm
 have HCK := Lib.hid (wchk_ok HW.out)
 go_loopw [51] (fun i wr => ∃ (k : Nat) (sA : Option Addr) (sc' : Nat) (st : List (SliceOf (SliceOf Sty))) (G : List Grp), k ≤ ll.length ∧ i = .int .i64 k ∧ Hid (SetS w t.cells [.slice SA sl.length sc] bx (m + 1) (mkX m sA sc' st G V4.zero V4.zero) wr) ∧ Hid (GSpec ll k G []) ∧ Hid (st.map (fun r => r.l.map (·.l)) = (ll.take k).map (fun y => y.ps.l.map (staysL t)))) (fun i _ => ll.length - (intOf i).toNat)
 case atStart => exact ⟨0, none, 0, [], [], by omega, rfl, HS4, GSpec.nil ll, rfl⟩
 case round =>
  obtain ⟨k, sA, sc', st, G, hk, rfl, HSS, HG, HST⟩ := hrel
  clear HS4
  obtain ⟨wo, rfl⟩ : ∃ wo, wo = wr := ⟨_, rfl⟩
  by_cases hlt : k < ll.length
  rotate_left
  ·obtain rfl : k = ll.length := by omega
   have hki : ¬ ((ll.length : Nat) : Int) < ll.length := by omega
   have hrn0 : ((0 : Nat) : Int) = 0 := rfl
   have h144 : sl.length ≤ 4 := H144.out
   have HSTF : Hid (st.map (fun r => r.l.map (·.l)) = ll.map (fun y => y.ps.l.map (staysL t))) := by
    have := HST.out
    rw [List.take_length] at this
    exact this
   clear HST
   go_wp2_with fail
   go_loopw [112] (fun i wr => ∃ (k2 : Nat) (G : List Grp) (lost : V4), k2 ≤ R.length ∧ i = .int .i64 k2 ∧ Hid (SetS w t.cells [.slice SA sl.length sc] bx (m + 1) (mkX m sA sc' st G lost V4.zero) wr) ∧ Hid (GSpec ll ll.length G (R.take k2)) ∧ Hid ((R.take k2).foldl (lostStep ll) V4.zero = lost)) (fun i _ => R.length - (intOf i).toNat)
   case atStart => exact ⟨0, G, V4.zero, by omega, rfl, HSS, HG, rfl⟩
   case round =>
    obtain ⟨k2, G2, lost, hk2, rfl, HSS2, HG2, HLO⟩ := hrel
    clear HSS HG
    obtain ⟨wp, rfl⟩ : ∃ wp, wp = wr := ⟨_, rfl⟩
    have hlin : lost.In (0 + (R.take k2).length) := by rw [← HLO.out]; exact lost_in ll _ _ 0 (by simp [V4.In, V4.zero])
    by_cases hlt2 : k2 < R.length
    rotate_left
    ·obtain rfl : k2 = R.length := by omega
     have hk2n : ¬ ((R.length : Nat) : Int) < R.length := by omega
     have hss := HSS2.out.S.c 0 _ rfl
     have hssl := HSS2.out.S.lt
     clear hlin
     go_wp2_with fail
     clear hss hssl
     go_loopw [144] (fun i wr => ∃ (k4 : Nat) (bud : V4), k4 ≤ sl.length ∧ i = .int .i64 k4 ∧ Hid (SetS w t.cells [.slice SA sl.length sc] bx (m + 1) (mkX m sA sc' st G2 lost bud) wr) ∧ Hid (bud = budV (sl.take k4))) (fun i _ => sl.length - (intOf i).toNat)
     case atStart => exact ⟨0, V4.zero, by omega, rfl, HSS2, by simp [Hid, budV, V4.zero]⟩
     case round =>
      obtain ⟨k4, bud, hk4, rfl, HSS3, HBU⟩ := hrel
      clear HSS2
      obtain ⟨wq, rfl⟩ : ∃ wq, wq = wr := ⟨_, rfl⟩
      by_cases hlt4 : k4 < sl.length
      ·obtain ⟨y, yb, yo, hy, rfl, hyb, hc⟩ := (show Slc wq Stn.cells 3 SA sl from (show Slc w Stn.cells 3 SA sl from HS.out.slc).below (Nat.le_refl _) HSS3.out.E).at_ hlt4
       have d0 := hc 0 _ rfl
       have d1 := hc 1 _ rfl
       have d2 := hc 2 _ rfl
       simp only [Nat.add_zero] at d0
       have hki4 : (k4 : Int) < sl.length := by omega
       have hkk : (k4 : Int) < 4 := by omega
       have HY := Lib.hid hy
       obtain ⟨W5, hW5⟩ : ∃ W5, wq.alloc (.cells #[.slice y.vs.A y.vs.l.length y.vs.c, .int .i64 y.sh, .int .i64 y.fa] 41) = W5 := ⟨_, rfl⟩
       have hb5 : Below wq.heap.size wq W5 := by rw [← hW5]; exact ext_alloc (ext_refl _) _
       have by5 : Blk W5 wq.heap.size y.cells := by rw [← hW5]; exact Blk.newH wq y.cells 41 wq.heap.size rfl
       have HS5 := HSS3.out.ext hb5
       have y2 := by5.c 2 _ rfl
       have yl := by5.lt
       have x6 : W5.cell? ⟨bx, 6 + k4, none⟩ = some (.int .i64 (bud.get k4)) := HS5.XB.c (6 + k4) _ (by
        match k4, (show k4 < 4 by omega) with
        | 0, _ => rfl
        | 1, _ => rfl
        | 2, _ => rfl
        | 3, _ => rfl)
       have xl := HS5.XB.lt
       have xf := HS5.XB.f (6 + k4)
       have HS6 := Lib.hid (HS5.num (6 + k4) (.int .i64 y.fa) (mkX m sA sc' st G2 lost (bud.set k4 y.fa)) (by
        match k4, (show k4 < 4 by omega) with
        | 0, _ => rfl
        | 1, _ => rfl
        | 2, _ => rfl
        | 3, _ => rfl) (by omega) rfl rfl rfl rfl)
       have HBU2 : Hid (bud.set k4 y.fa = budV (sl.take (k4 + 1))) := by unfold Hid; rw [HBU.out]; exact budV_step HY.out (by omega)
       clear hc hy HS5 by5 hb5 HSS3
       go_wp2_with fail
       clear hW5
       go_roundw
       case rel => exact ⟨k4 + 1, _, by omega, by go_num, HS6, HBU2⟩
       case measure => simp [intOf]; omega
      ·obtain rfl : k4 = sl.length := by omega
       have hkn4 : ¬ ((sl.length : Nat) : Int) < sl.length := by omega
       have hss := HSS3.out.S.c 0 _ rfl
       have hssl := HSS3.out.S.lt
       have HSTN := List.all_eq_true.1 HSA.out
       go_wp2_with fail
       refine (shifts_any SA sc sl wq ((show Slc w Stn.cells 3 SA sl from HS.out.slc).below (Nat.le_refl _) HSS3.out.E) h144 (fun s hs => by
        have := HSTN s hs
        simp only [stnB, Bool.and_eq_true, inn_iff] at this
        exact this.1.1.1.2)).mono ?_
       rintro e w5 ⟨A5, n5, c5, rows, rfl, hn5, hO5, hR5, hM5, B5⟩
       have HS5 := HSS3.out.ext B5
       have x10 : w5.cell? ⟨bx, 10, none⟩ = some (.slice none 0 0) := HS5.XB.c 10 _ rfl
       have xl := HS5.XB.lt
       have xf := HS5.XB.f 10
       subst hn5
       obtain ⟨X9, hX9⟩ : ∃ X9, (⟨sA, sc', st, m, G2, lost, bud, A5, c5, rows⟩ : Scn) = X9 := ⟨_, rfl⟩
       have hS6 := HS5.num 10 (.slice A5 rows.length c5) (⟨sA, sc', st, m, G2, lost, bud, A5, c5, rows⟩ : Scn) rfl (by omega) rfl rfl rfl rfl
       obtain ⟨W6, hW6⟩ : ∃ W6, w5.setCell ⟨bx, 10, none⟩ (.slice A5 rows.length c5) = W6 := ⟨_, rfl⟩
       have keep : ∀ {e : TypeId} {α : Type} {enc : α → List Value} {u : Value} {l : List α}, Own w5 wq.heap.size e enc 1 u l → Own W6 0 e enc 1 u l := fun ho => by
        rw [← hW6]
        exact (ho.far_set (by have := HSS3.out.XB.lt; show bx < _; exact this)).low (Nat.zero_le _)
       rw [hW6] at hS6
       have HSC : Hid (SceneOk W6 (⟨sA, sc', st, m, G2, lost, bud, A5, c5, rows⟩ : Scn)) := hS6.scene (keep hO5) (fun r hr => keep (hR5 r hr))
       have HSP : Hid (SceneSpec t sl R ll (⟨sA, sc', st, m, G2, lost, bud, A5, c5, rows⟩ : Scn)) := ⟨HSTF.out, by have := HG2.out; rw [List.take_length] at this; exact this, by have := HLO.out; rw [List.take_length] at this; exact this.symm, by have := HBU.out; rw [List.take_length] at this; exact this, hM5⟩
       have HE6 := Lib.hid hS6.E
       have HXB := Lib.hid hS6.XB
       clear hss hssl HSTN HSS3 HS5 hO5 hR5 hM5 B5 keep hS6 hX9
       have y0 : W6.cell? ⟨bx, 0, none⟩ = some (.slice sA st.length sc') := HXB.out.c 0 _ rfl
       have y10 : W6.cell? ⟨bx, 10, none⟩ = some (.slice A5 rows.length c5) := HXB.out.c 10 _ rfl
       have y1 := HXB.out.c 1 _ rfl
       have y2 := HXB.out.c 2 _ rfl
       have y3 := HXB.out.c 3 _ rfl
       have y4 := HXB.out.c 4 _ rfl
       have y5 := HXB.out.c 5 _ rfl
       have y6 := HXB.out.c 6 _ rfl
       have y7 := HXB.out.c 7 _ rfl
       have y8 := HXB.out.c 8 _ rfl
       have y9 := HXB.out.c 9 _ rfl
       have s0 := setCell_self y0
       have s1 := setCell_self y1
       have s2 := setCell_self y2
       have s3 := setCell_self y3
       have s4 := setCell_self y4
       have s5 := setCell_self y5
       have s6 := setCell_self y6
       have s7 := setCell_self y7
       have s8 := setCell_self y8
       have s9 := setCell_self y9
       have s10 := setCell_self y10
       have yl := HXB.out.lt
       have yf := HXB.out.f
       go_wp2_with fail
       refine bodyPost_ret (v := .tuple #[.agg #[.slice sA st.length sc', .map (some m), .int .i64 lost.a, .int .i64 lost.b, .int .i64 lost.c, .int .i64 lost.d, .int .i64 bud.a, .int .i64 bud.b, .int .i64 bud.c, .int .i64 bud.d, .slice A5 rows.length c5], .int .i64 0]) (by simp [results, Tryz.results23, go_sem, *]) rfl ?_
       exact ⟨HE6.out, .inr ⟨HE.out.trans HR0.out, _, rfl, HSC.out, HSP.out⟩⟩
    obtain ⟨r, rb, ro, hr, rfl, hrb, hc⟩ := (HR.out.below (Nat.le_refl _) HSS2.out.E).at_ hlt2
    have d0 := hc 0 _ rfl
    have d1 := hc 1 _ rfl
    have d2 := hc 2 _ rfl
    have d3 := hc 3 _ rfl
    have d4 := hc 4 _ rfl
    have d5 := hc 5 _ rfl
    simp only [Nat.add_zero] at d0
    have HRR := Lib.hid hr
    have hrok := List.all_eq_true.1 HRA.out r (List.mem_of_getElem? hr)
    simp only [repB, Bool.and_eq_true, inn_iff] at hrok
    obtain ⟨sk, hsk⟩ : ∃ sk : Nat, r.st = sk := ⟨r.st.toNat, by omega⟩
    have hsk4 : sk < 4 := by omega
    have hki2 : (k2 : Int) < R.length := by omega
    have HSK := Lib.hid hsk
    obtain ⟨W5, hW5⟩ : ∃ W5, wp.alloc (.cells #[.int .i64 r.st, .int .i64 r.no, .int .i64 r.mi, .int .i64 r.ar, .string r.call, .int .i64 r.vol] 55) = W5 := ⟨_, rfl⟩
    have hb5 : Below wp.heap.size wp W5 := by rw [← hW5]; exact ext_alloc (ext_refl _) _
    have BH5 : Hid (W5.heap[wp.heap.size]? = some (.cells #[.int .i64 r.st, .int .i64 r.no, .int .i64 r.mi, .int .i64 r.ar, .string r.call, .int .i64 r.vol] 55 (0, 0))) := by rw [← hW5]; exact World.alloc_heap_new wp _
    have HS5 := Lib.hid (HSS2.out.ext hb5)
    have hold := HSS2.out.g1
    have hcl := (heap_cell BH5.out).1 4 _ rfl
    have hyl := (heap_cell BH5.out).2.2
    have hxm : W5.cell? ⟨bx, 1, none⟩ = some (.map (some m)) := HS5.out.XB.c 1 _ rfl
    have hxl := HS5.out.XB.lt
    have hlk := HS5.out.g0.look (keyStr Tryz.underlying9) Tryz.underlying74 (zv81 W5) r.call false trivial (fun _ _ => trivial)
    simp only [Bool.false_eq_true, if_false] at hlk
    clear hb5 hc hr hrok hsk HSS2
    rcases HS5.out.grps_get r.call with ⟨hno, has⟩ | ⟨g, hg, hgc, has⟩
    ·rw [has] at hlk
     simp only [Option.getD_none] at hlk
     have h0 : W5.cell? ⟨wp.heap.size, 0, none⟩ = some (.int .i64 (sk : Int)) := by rw [← HSK.out]; exact (heap_cell BH5.out).1 0 _ rfl
     have hgv := hlin.get sk
     obtain ⟨a, ha⟩ : ∃ a, lost.get sk = a := ⟨_, rfl⟩
     have x2 : W5.cell? ⟨bx, 2 + sk, none⟩ = some (.int .i64 a) := by
      rw [← ha]
      exact HS5.out.XB.c (2 + sk) _ (by
       match sk, hsk4 with
       | 0, _ => rfl
       | 1, _ => rfl
       | 2, _ => rfl
       | 3, _ => rfl)
     have xf := HS5.out.XB.f (2 + sk)
     rw [ha] at hgv
     have hlk2 : (R.take k2).length ≤ 1000 := by rw [List.length_take]; omega
     have hwp : IntKind.i64.wrap (a + 1) = a + 1 := IntWalk.i64_in _ (by omega)
     have hs4 : (sk : Int) < 4 := by omega
     have HS6 := Lib.hid (HS5.out.num (2 + sk) (.int .i64 (a + 1)) (mkX m sA sc' st G2 (lost.inc sk) V4.zero) (by
       rw [← ha]
       match sk, hsk4 with
       | 0, _ => rfl
       | 1, _ => rfl
       | 2, _ => rfl
       | 3, _ => rfl) (by omega) rfl rfl rfl rfl)
     have HG3 : Hid (GSpec ll ll.length G2 (R.take (k2 + 1))) := by rw [take_snoc2 HRR.out]; exact HG2.out.norep hno
     have HLO2 : Hid ((R.take (k2 + 1)).foldl (lostStep ll) V4.zero = lost.inc sk) := by
      unfold Hid
      rw [take_snoc2 HRR.out, List.foldl_append, HLO.out]
      simp only [List.foldl_cons, List.foldl_nil, lostStep, HSK.out, Int.toNat_natCast]
      rw [if_neg]
      intro h; exact hno ((HG2.out.calls r.call).2 h)
     clear hgv ha hno has hlin hold
     go_wp2_with fail
     clear hW5
     go_roundw
     case rel => exact ⟨k2 + 1, G2, _, by omega, by go_num, HS6, HG3, HLO2⟩
     case measure => simp [intOf]; omega
    ·rw [has] at hlk
     simp only [Option.getD_some] at hlk
     have HGB := Lib.hid (HS5.out.g1 g hg)
     have hrow : ∀ kk, g.rv.ownBlock = some kk → kk < wp.heap.size := fun kk e => ((hold g hg).r.lt kk e).1
     have hgb1 : g.b < wp.heap.size := (hold g hg).lt
     have hgl := HGB.out.lt
     have hrv : W5.cell? ⟨g.b, 1, none⟩ = some (.slice g.rA g.rs.length g.rc) := (heap_cell HGB.out.b).1 1 _ rfl
     have HRL : Hid (g.rs.length ≤ 1000) := by
      unfold Hid; rw [HG2.out.rs g hg]
      refine Nat.le_trans (List.length_filter_le _ _) ?_
      rw [List.length_take]; omega
     have HBOX : Hid (∀ w' : World, w'.heap[wp.heap.size]? = W5.heap[wp.heap.size]? → w'.cell? ⟨wp.heap.size, 0, none⟩ = some (.int .i64 r.st) ∧ w'.cell? ⟨wp.heap.size, 1, none⟩ = some (.int .i64 r.no) ∧ w'.cell? ⟨wp.heap.size, 2, none⟩ = some (.int .i64 r.mi) ∧ w'.cell? ⟨wp.heap.size, 3, none⟩ = some (.int .i64 r.ar) ∧ w'.cell? ⟨wp.heap.size, 4, none⟩ = some (.string r.call) ∧ w'.cell? ⟨wp.heap.size, 5, none⟩ = some (.int .i64 r.vol)) := fun w' h => by
      have h1 := (heap_cell (h.trans BH5.out)).1
      exact ⟨h1 0 _ rfl, h1 1 _ rfl, h1 2 _ rfl, h1 3 _ rfl, h1 4 _ rfl, h1 5 _ rfl⟩
     have HGG := Lib.hid hg
     have HGC := Lib.hid hgc
     clear hg hgc has hlin hold
     go_wp2_with fail
     clear hW5 hlk hxm hcl
     refine rg_begin (S := (fun w' => w'.cell? ⟨g.b, 1, none⟩ = some (.slice g.rA g.rs.length g.rc) ∧ w'.cell? ⟨wp.heap.size, 0, none⟩ = some (.int .i64 r.st) ∧ w'.cell? ⟨wp.heap.size, 1, none⟩ = some (.int .i64 r.no) ∧ w'.cell? ⟨wp.heap.size, 2, none⟩ = some (.int .i64 r.mi) ∧ w'.cell? ⟨wp.heap.size, 3, none⟩ = some (.int .i64 r.ar) ∧ w'.cell? ⟨wp.heap.size, 4, none⟩ = some (.string r.call) ∧ w'.cell? ⟨wp.heap.size, 5, none⟩ = some (.int .i64 r.vol))) 10 (by kernel_rfl) (by intro d; cases d <;> intro _ _ _ _ h <;> exact h) ?_ (fun Q7 hQ7 hN7 hHeld => ?_)
     ·exact ⟨hrv, HBOX.out _ rfl⟩
     refine rgT 0 (some 123) hQ7 hHeld ?_; refine rgT 1 (some 124) hQ7 hHeld ?_; refine rgT 2 (some 125) hQ7 hHeld ?_; refine rgT 3 (some 126) hQ7 hHeld ?_; refine rgT 4 (some 127) hQ7 hHeld ?_; refine rgT 5 (some 128) hQ7 hHeld ?_
     have BE := Lib.hid (ext_alloc (ext_drew (ext_refl W5)) (.cells #[.int .i64 r.st, .int .i64 r.no, .int .i64 r.mi, .int .i64 r.ar, .string r.call, .int .i64 r.vol] 55))
     have hS1 : (fun w' => w'.cell? ⟨g.b, 1, none⟩ = some (.slice g.rA g.rs.length g.rc) ∧ w'.cell? ⟨wp.heap.size, 0, none⟩ = some (.int .i64 r.st) ∧ w'.cell? ⟨wp.heap.size, 1, none⟩ = some (.int .i64 r.no) ∧ w'.cell? ⟨wp.heap.size, 2, none⟩ = some (.int .i64 r.mi) ∧ w'.cell? ⟨wp.heap.size, 3, none⟩ = some (.int .i64 r.ar) ∧ w'.cell? ⟨wp.heap.size, 4, none⟩ = some (.string r.call) ∧ w'.cell? ⟨wp.heap.size, 5, none⟩ = some (.int .i64 r.vol)) (W5.drew.alloc (.cells #[.int .i64 r.st, .int .i64 r.no, .int .i64 r.mi, .int .i64 r.ar, .string r.call, .int .i64 r.vol] 55)) := ⟨(BE.out.cell (p := ⟨g.b, 1, none⟩) hgl).trans hrv, HBOX.out _ (BE.out.block _ hyl)⟩
     refine rg_one (i := 6) (by kernel_rfl) (rg_step rfl (by rfl) (fun K hK => ?_))
     go_simp
     refine hK.out _ _ hS1 (fun hHeld2 => ?_)
     clear hHeld2 hK K
     try simp only [Act.put, List.setIfInBounds_toArray, List.set_cons_zero, List.set_cons_succ]
     obtain ⟨v4, W7, hrun, hAP⟩ := Own.append_two (e := 55) (base := m + 1) repI 30 (HGB.out.r.ext BE.out) (ys := [r]) (m := 1) rfl (by simp) 1 (slc_litH W5.drew [r] #[.int .i64 r.st, .int .i64 r.no, .int .i64 r.mi, .int .i64 r.ar, .string r.call, .int .i64 r.vol] 55 (enc := Rep.cells) (sz := 6) (fun _ => rfl) rfl W5.drew.heap.size rfl) (by have := HRL.out; simp; omega) (by have := HRL.out; unfold maxLen; simp; omega) (by have := HS5.out.hi; have := BE.out.size; omega)
     obtain ⟨A4, n4, c4, rfl, hn4⟩ := hAP.fm
     obtain ⟨⟨a1, a2, a3⟩, hS8⟩ := HS5.out.addR HGG.out r BE.out hAP hn4
     have hS2 : (fun w' => w'.cell? ⟨g.b, 1, none⟩ = some (.slice g.rA g.rs.length g.rc) ∧ w'.cell? ⟨wp.heap.size, 0, none⟩ = some (.int .i64 r.st) ∧ w'.cell? ⟨wp.heap.size, 1, none⟩ = some (.int .i64 r.no) ∧ w'.cell? ⟨wp.heap.size, 2, none⟩ = some (.int .i64 r.mi) ∧ w'.cell? ⟨wp.heap.size, 3, none⟩ = some (.int .i64 r.ar) ∧ w'.cell? ⟨wp.heap.size, 4, none⟩ = some (.string r.call) ∧ w'.cell? ⟨wp.heap.size, 5, none⟩ = some (.int .i64 r.vol)) W7 := ⟨a1, HBOX.out _ ((hAP.g.block _ (Nat.lt_of_lt_of_le hyl BE.out.size) (fun e => by have := hrow _ e.symm; omega)).trans (BE.out.block _ hyl))⟩
     have A1 := Lib.hid a1
     obtain ⟨W8, hW8⟩ : ∃ W8, W7.setCell ⟨g.b, 1, none⟩ (.slice A4 n4 c4) = W8 := ⟨_, rfl⟩
     rw [hW8] at hS8
     have HS8 : Hid (SetS w t.cells [.slice SA sl.length sc] bx (m + 1) (mkX m sA sc' st (updG G2 { g with rA := A4, rc := c4, rs := g.rs ++ [r] }) lost V4.zero) W8) := hS8
     have HG8 : Hid (GSpec ll ll.length (updG G2 { g with rA := A4, rc := c4, rs := g.rs ++ [r] }) (R.take (k2 + 1))) := by rw [take_snoc2 HRR.out]; exact HG2.out.rep HGG.out HGC.out _ _
     have HLO2 : Hid ((R.take (k2 + 1)).foldl (lostStep ll) V4.zero = lost) := by
      unfold Hid
      rw [take_snoc2 HRR.out, List.foldl_append, HLO.out]
      simp only [List.foldl_cons, List.foldl_nil, lostStep]
      rw [if_pos]
      exact (HG2.out.calls r.call).1 (List.mem_map.2 ⟨g, HGG.out, HGC.out⟩)
     clear hAP a1 hS8 hn4 hS1 hHeld hrow
     have hHeld := hS2
     refine rg_one (i := 7) (by kernel_rfl) (rg_step rfl (by rfl) (fun K hK => ?_))
     refine rg_append (R := fun a b => a = .slice A4 n4 c4 ∧ W7 = b) (some 130) _ _ 30 30 rfl rfl rfl _ _ rfl rfl ⟨_, _, hrun, rfl, rfl⟩ ?_
     rintro _ _ ⟨rfl, rfl⟩
     refine hK.out _ _ hS2 (fun hHeld2 => ?_)
     clear hHeld2 hK K
     try simp only [Act.put, List.setIfInBounds_toArray, List.set_cons_zero, List.set_cons_succ]
     refine rgT 8 (some 131) hQ7 hHeld ?_; refine rgT 9 (some 132) hQ7 hHeld ?_
     have a1 := A1.out
     refine rg_one (i := 10) (by kernel_rfl) (rg_late rfl (by rfl) (by kernel_rfl) (fun K hK => ?_))
     go_simp
     refine hK.out _ _ ?_
     clear hK K
     try simp only [Act.put, List.setIfInBounds_toArray, List.set_cons_zero, List.set_cons_succ]
     refine rg_end (by kernel_rfl) (hN7 _ _ ?_) _
     clear hQ7 hN7 Q7 hHeld hS2 hW8 a1 a2 a3 hrun hrv hgl A1 HBOX HGB HRL HGC HGG BE
     go_wp2_with fail
     go_roundw
     case rel => exact ⟨k2 + 1, _, lost, by omega, by go_num, HS8, HG8, HLO2⟩
     case measure => simp [intOf]; omega
  obtain ⟨y, yb, yo, hy, rfl, hyb, hc⟩ := (show Slc wo Trk.cells 14 LA ll from (show Slc w Trk.cells 14 LA ll from HL.out.slc).below (Nat.le_refl _) HSS.out.E).at_ hlt
  have d0 := hc 0 _ rfl
  have d1 := hc 1 _ rfl
  have d2 := hc 2 _ rfl
  have d3 := hc 3 _ rfl
  have d4 := hc 4 _ rfl
  have d5 := hc 5 _ rfl
  have d6 := hc 6 _ rfl
  have d7 := hc 7 _ rfl
  have d8 := hc 8 _ rfl
  have d9 := hc 9 _ rfl
  have d10 := hc 10 _ rfl
  have d11 := hc 11 _ rfl
  have d12 := hc 12 _ rfl
  have d13 := hc 13 _ rfl
  simp only [Nat.add_zero] at d0
  have HY := Lib.hid hy
  have hki : (k : Int) < ll.length := by omega
  have HYO := Lib.hid (show Trk.ok w y from HL.out.all (List.mem_of_getElem? hy))
  have HYP := Lib.hid (trk_paths (HCK.out.2.2 y (List.mem_of_getElem? hy)))
  clear hc hy
  obtain ⟨W5, hW5⟩ : ∃ W5, wo.alloc (.cells #[.int .i64 y.fl.id, .int .i64 y.fl.al, .int .i64 y.fl.cl, .string y.fl.call, .slice y.fl.ws.A y.fl.ws.n y.fl.ws.c, .int .i64 y.fl.wi.f, .int .i64 y.fl.wi.t, .bool y.fl.cn, .int .i64 y.op.de, .int .i64 y.op.way, .int .i64 y.op.ho, .bool y.op.cn, .slice y.ps.A y.ps.l.length y.ps.c, .slice y.po.A y.po.n y.po.c] 52) = W5 := ⟨_, rfl⟩
  have hb5 : Below wo.heap.size wo W5 := by rw [← hW5]; exact ext_alloc (ext_refl _) _
  have BY5 : Hid (Blk W5 wo.heap.size y.cells) := by rw [← hW5]; exact Blk.newH wo y.cells 52 wo.heap.size rfl
  have BH5 : Hid (W5.heap[wo.heap.size]? = some (.cells #[.int .i64 y.fl.id, .int .i64 y.fl.al, .int .i64 y.fl.cl, .string y.fl.call, .slice y.fl.ws.A y.fl.ws.n y.fl.ws.c, .int .i64 y.fl.wi.f, .int .i64 y.fl.wi.t, .bool y.fl.cn, .int .i64 y.op.de, .int .i64 y.op.way, .int .i64 y.op.ho, .bool y.op.cn, .slice y.ps.A y.ps.l.length y.ps.c, .slice y.po.A y.po.n y.po.c] 52 (0, 0))) := by rw [← hW5]; exact World.alloc_heap_new wo _
  have HS5 := Lib.hid (HSS.out.ext hb5)
  have hwm : m + 1 ≤ wo.heap.size := HSS.out.hi
  clear hb5 HSS
  have hcl := BY5.out.c 3 _ rfl
  have hyl := BY5.out.lt
  have hxm : W5.cell? ⟨bx, 1, none⟩ = some (.map (some m)) := HS5.out.XB.c 1 _ rfl
  have hxl := HS5.out.XB.lt
  have hlk := HS5.out.g0.look (keyStr Tryz.underlying9) Tryz.underlying74 (zv81 W5) y.fl.call false trivial (fun _ _ => trivial)
  simp only [Bool.false_eq_true, if_false] at hlk
  rcases HS5.out.grps_get y.fl.call with hA | hA
  case' inl =>
   obtain ⟨hno, has⟩ := hA
   rw [has] at hlk
   simp only [Option.getD_none] at hlk
   obtain ⟨o, hup, hS6⟩ := HS5.out.new y.fl.call hno
   change (Instr.mapUpdate 74 (.map (some m)) (.string y.fl.call) (gptr W5.heap.size)).run Tryz.prog (W5.alloc (.cells #[.slice none 0 0, .slice none 0 0] 94)) = .ok () (setBlock (W5.alloc (.cells #[.slice none 0 0, .slice none 0 0] 94)) m o) at hup
   obtain ⟨W6, hW6⟩ : ∃ W6, setBlock (W5.alloc (.cells #[.slice none 0 0, .slice none 0 0] 94)) m o = W6 := ⟨_, rfl⟩
   have hS6' : SetS w t.cells [.slice SA sl.length sc] bx (m + 1) (mkX m sA sc' st (G ++ [newG y.fl.call W5.heap.size]) V4.zero V4.zero) W6 := by rw [← hW6]; exact hS6
   have HS6 := Lib.hid hS6'
   obtain ⟨G6, hG6⟩ : ∃ G6, G ++ [newG y.fl.call W5.heap.size] = G6 := ⟨_, rfl⟩
   have HG6 : Hid (GSpec ll k G6 []) := by rw [← hG6]; exact HG.out.new HY.out hno _
   obtain ⟨g, hg, hgc⟩ : ∃ g ∈ G6, g.call = y.fl.call := ⟨newG y.fl.call W5.heap.size, by rw [← hG6]; simp, rfl⟩
   have BH6 : Hid (W6.heap[wo.heap.size]? = some (.cells #[.int .i64 y.fl.id, .int .i64 y.fl.al, .int .i64 y.fl.cl, .string y.fl.call, .slice y.fl.ws.A y.fl.ws.n y.fl.ws.c, .int .i64 y.fl.wi.f, .int .i64 y.fl.wi.t, .bool y.fl.cn, .int .i64 y.op.de, .int .i64 y.op.way, .int .i64 y.op.ho, .bool y.op.cn, .slice y.ps.A y.ps.l.length y.ps.c, .slice y.po.A y.po.n y.po.c] 52 (0, 0))) := by rw [← hW6]; exact ((sb_other _ o (by omega)).trans ((ext_alloc (ext_refl W5) _).block _ hyl)).trans BH5.out
   rw [hG6] at HS6
   clear hS6 hS6' hG6 hno has
   go_wp2_with fail
   clear hW6 hlk hup
  case' inr =>
   obtain ⟨g, hg, hgc, has⟩ := hA
   rw [has] at hlk
   simp only [Option.getD_some] at hlk
   obtain ⟨W6, hW6⟩ : ∃ W6, W6 = W5 := ⟨_, rfl⟩
   subst hW6
   obtain ⟨G6, hG6⟩ : ∃ G6, G6 = G := ⟨_, rfl⟩
   subst hG6
   have HS6 := HS5
   have HG6 := HG
   have BH6 := BH5
   clear has
   go_wp2_with fail
   clear hlk
  all_goals
   have HGB := Lib.hid (HS6.out.g1 g hg)
   have HG := Lib.hid hg
   have HGC := Lib.hid hgc
   obtain ⟨L6, hL6⟩ : ∃ L6, (mkX m sA sc' st G6 V4.zero V4.zero).grps = L6 := ⟨_, rfl⟩
   have hm6 : GMap encC W6 m L6 := by rw [← hL6]; exact HS6.out.g0
   have HLK : Hid (∀ w', GMap encC w' m L6 → (Instr.lookup 74 (.map (some m)) (.string y.fl.call) false).run Tryz.prog w' = .ok (gptr g.b) w') := fun w' hw' => by
    have h1 := hw'.look (keyStr Tryz.underlying9) Tryz.underlying74 (zv81 w') y.fl.call false trivial (fun _ _ => trivial)
    have h2 : asc L6 y.fl.call = some (gptr g.b) := by
     rw [← hL6, ← hgc]
     exact asc_some (p := (g.call, gptr g.b)) (by rw [hL6]; exact hm6.nd_) (List.mem_map.2 ⟨g, hg, rfl⟩)
    rw [h2] at h1
    simpa using h1
   have HM6 := Lib.hid hm6
   have hx6 : W6.cell? ⟨bx, 1, none⟩ = some (.map (some m)) := HS6.out.XB.c 1 _ rfl
   have ht6 : W6.cell? ⟨g.b, 0, none⟩ = some (.slice g.tA g.ts.length g.tc) := (heap_cell HGB.out.b).1 0 _ rfl
   have HTL : Hid (g.ts.length ≤ 100) := by
    unfold Hid; rw [HG6.out.ts g hg]; unfold idxs
    refine Nat.le_trans (List.length_filter_le _ _) ?_
    rw [List.length_range]; omega
   have HL6 := Lib.hid hL6
   have hgl6 := HGB.out.lt
   clear hg hgc hL6 hm6 hxm hcl hyl hxl
   refine rg_begin (S := (fun w' => w'.cell? ⟨bx, 1, none⟩ = some (.map (some m)) ∧ GMap encC w' m L6 ∧ w'.cell? ⟨g.b, 0, none⟩ = some (.slice g.tA g.ts.length g.tc))) 16 (by kernel_rfl) (by intro d; cases d <;> intro _ _ _ _ h <;> exact h) ?_ (fun Q7 hQ7 hN7 hHeld => ?_)
   ·exact ⟨hx6, HM6.out, ht6⟩
   refine rgT 0 (some 69) hQ7 hHeld ?_; refine rgT 1 (some 70) hQ7 hHeld ?_; refine rgT 2 (some 71) hQ7 hHeld ?_
   refine rg_take (i := 3) (some 72) (v := gptr g.b) rfl rfl (by kernel_rfl) (by rfl) hQ7 hHeld (fun w7 hSw => run_v (HLK.out w7 hSw.2.1)) ?_
   try simp only [Act.put, List.setIfInBounds_toArray, List.set_cons_zero, List.set_cons_succ]
   refine rgT 4 (some 73) hQ7 hHeld ?_; refine rgT 5 (some 74) hQ7 hHeld ?_; refine rgT 6 (some 75) hQ7 hHeld ?_
   refine rg_take (i := 7) (some 76) (v := gptr g.b) rfl rfl (by kernel_rfl) (by rfl) hQ7 hHeld (fun w7 hSw => run_v (HLK.out w7 hSw.2.1)) ?_
   try simp only [Act.put, List.setIfInBounds_toArray, List.set_cons_zero, List.set_cons_succ]
   refine rgT 8 (some 77) hQ7 hHeld ?_; refine rgT 9 (some 78) hQ7 hHeld ?_; refine rgT 10 (some 79) hQ7 hHeld ?_; refine rgT 11 (some 80) hQ7 hHeld ?_
   have BE := Lib.hid (ext_alloc (ext_drew (ext_refl W6)) (.cells #[.int .i64 (k : Int)] 3))
   have hS1 : (fun w' => w'.cell? ⟨bx, 1, none⟩ = some (.map (some m)) ∧ GMap encC w' m L6 ∧ w'.cell? ⟨g.b, 0, none⟩ = some (.slice g.tA g.ts.length g.tc)) (W6.drew.alloc (.cells #[.int .i64 (k : Int)] 3)) := ⟨(BE.out.cell (p := ⟨bx, 1, none⟩) HS6.out.XB.lt).trans hx6, HM6.out.ext BE.out, (BE.out.cell (p := ⟨g.b, 0, none⟩) hgl6).trans ht6⟩
   refine rg_one (i := 12) (by kernel_rfl) (rg_step rfl (by rfl) (fun K hK => ?_))
   go_simp
   refine hK.out _ _ hS1 (fun hHeld2 => ?_)
   clear hHeld2 hK K
   try simp only [Act.put, List.setIfInBounds_toArray, List.set_cons_zero, List.set_cons_succ]
   obtain ⟨v4, W7, hrun, hAP⟩ := Own.append_two (e := 3) (base := m + 1) intI 39 (HGB.out.t.ext BE.out) (ys := [(k : Int)]) (m := 1) rfl (by simp) 1 (slc_litH W6.drew [(k : Int)] #[.int .i64 (k : Int)] 3 (enc := ic) (sz := 1) (fun _ => rfl) rfl W6.drew.heap.size rfl) (by have := HTL.out; simp [nums]; omega) (by have := HTL.out; unfold maxLen; simp [nums]; omega) (by have := HS6.out.hi; have := BE.out.size; omega)
   obtain ⟨A4, n4, c4, rfl, hn4⟩ := hAP.fm
   obtain ⟨⟨a1, a2, a3, a4, a5⟩, hS8⟩ := HS6.out.addT HG.out k BE.out hAP hn4
   have hS2 : (fun w' => w'.cell? ⟨bx, 1, none⟩ = some (.map (some m)) ∧ GMap encC w' m L6 ∧ w'.cell? ⟨g.b, 0, none⟩ = some (.slice g.tA g.ts.length g.tc)) W7 := ⟨a4, by rw [← HL6.out]; exact a5, a1⟩
   have A1 := Lib.hid a1
   obtain ⟨W8, hW8⟩ : ∃ W8, W7.setCell ⟨g.b, 0, none⟩ (.slice A4 n4 c4) = W8 := ⟨_, rfl⟩
   rw [hW8] at hS8
   obtain ⟨G8, hG8⟩ : ∃ G8, updG G6 { g with tA := A4, tc := c4, ts := g.ts ++ [k] } = G8 := ⟨_, rfl⟩
   have HS8 : Hid (SetS w t.cells [.slice SA sl.length sc] bx (m + 1) (mkX m sA sc' st G8 V4.zero V4.zero) W8) := by rw [← hG8]; exact hS8
   have HG8 : Hid (GSpec ll (k + 1) G8 []) := by rw [← hG8]; exact HG6.out.add HY.out HG.out HGC.out _ _
   have BH8 : Hid (W8.heap[wo.heap.size]? = some (.cells #[.int .i64 y.fl.id, .int .i64 y.fl.al, .int .i64 y.fl.cl, .string y.fl.call, .slice y.fl.ws.A y.fl.ws.n y.fl.ws.c, .int .i64 y.fl.wi.f, .int .i64 y.fl.wi.t, .bool y.fl.cn, .int .i64 y.op.de, .int .i64 y.op.way, .int .i64 y.op.ho, .bool y.op.cn, .slice y.ps.A y.ps.l.length y.ps.c, .slice y.po.A y.po.n y.po.c] 52 (0, 0))) := by
    have h1 : wo.heap.size ≠ g.b := fun e => by have := BH6.out; rw [e, HGB.out.b] at this; cases this
    have h2 : wo.heap.size < W6.heap.size := (Array.getElem?_eq_some_iff.1 BH6.out).1
    rw [← hW8]
    exact (Below.heap_setCell W7 ⟨g.b, 0, none⟩ _ _ h1).trans ((hAP.g.block _ (Nat.lt_of_lt_of_le h2 BE.out.size) (fun e => HGB.out.t.neB BH6.out (by decide) e.symm)).trans ((BE.out.block _ h2).trans BH6.out))
   clear hAP a1 a4 a5 hS8 hG8 hn4 hS1 hHeld
   have hHeld := hS2
   refine rg_one (i := 13) (by kernel_rfl) (rg_step rfl (by rfl) (fun K hK => ?_))
   refine rg_append (R := fun a b => a = .slice A4 n4 c4 ∧ W7 = b) (some 82) _ _ 39 39 rfl rfl rfl _ _ rfl rfl ⟨_, _, hrun, rfl, rfl⟩ ?_
   rintro _ _ ⟨rfl, rfl⟩
   refine hK.out _ _ hS2 (fun hHeld2 => ?_)
   clear hHeld2 hK K
   try simp only [Act.put, List.setIfInBounds_toArray, List.set_cons_zero, List.set_cons_succ]
   refine rgT 14 (some 83) hQ7 hHeld ?_; refine rgT 15 (some 84) hQ7 hHeld ?_
   have a1 := A1.out
   refine rg_one (i := 16) (by kernel_rfl) (rg_late rfl (by rfl) (by kernel_rfl) (fun K hK => ?_))
   go_simp
   refine hK.out _ _ ?_
   clear hK K
   try simp only [Act.put, List.setIfInBounds_toArray, List.set_cons_zero, List.set_cons_succ]
   refine rg_end (by kernel_rfl) (hN7 _ _ ?_) _
   clear hQ7 hN7 Q7 hHeld hS2 hW8 a1 a2 a3 hrun hx6 ht6 hgl6 A1 HLK HM6 HL6 HGB HTL HGC HG BH6 HS6 HG6 BE
   obtain ⟨PA, hPA⟩ : ∃ PA, y.ps.A = PA := ⟨_, rfl⟩
   have py : W8.cell? ⟨wo.heap.size, 12, none⟩ = some (.slice PA y.ps.l.length y.ps.c) := by rw [← hPA]; exact (heap_cell BH8.out).1 12 _ rfl
   have pyl := (heap_cell BH8.out).2.2
   have HPS := Lib.hid (show Slc w Pth.cells 2 PA y.ps.l by rw [← hPA]; exact HYO.out.2.2.1.slc)
   have HPO := Lib.hid (show ∀ p ∈ y.ps.l, Pth.ok w p from fun p hp => HYO.out.2.2.1.all hp)
   obtain ⟨pl, hpl⟩ : ∃ pl, y.ps.l = pl := ⟨_, rfl⟩
   rw [hpl] at py HPS HPO HYP
   have HPL := Lib.hid hpl
   have hpn : pl.length ≤ 4096 := by
    have := HCK.out.2.2 y (List.mem_of_getElem? HY.out)
    simp only [trkB, Bool.and_eq_true, decide_eq_true_eq] at this
    rw [← hpl]; exact this.1.2
   clear hPA hpl
   go_wp2_with fail
   clear py pyl
   go_loopw [13, 88] (fun a i wr => ∃ (j : Nat) (A4 : Option Addr) (n4 c4 : Nat) (rows : List (SliceOf Sty)), j ≤ pl.length ∧ i = .int .i64 j ∧ a = .slice A4 n4 c4 ∧ Hid (n4 = rows.length) ∧ Hid (Below W8.heap.size W8 wr) ∧ Hid (Own wr W8.heap.size 95 SliceOf.enc 1 (.slice A4 n4 c4) rows) ∧ Hid (∀ q ∈ rows, Own wr W8.heap.size 113 Sty.cells 4 q.v q.l) ∧ Hid (rows.map (·.l) = (pl.take j).map (staysL t))) (fun _ i _ => pl.length - (intOf i).toNat)
   case atStart => exact ⟨0, none, 0, 0, [], by omega, rfl, rfl, rfl, ext_refl W8, Own.nil _ _ _ _ _, by simp [Hid], rfl⟩
   case round =>
    obtain ⟨j, A5, n5, c5, rows, hj, rfl, rfl, HN5, HB9, HO9, HQ9, HRL⟩ := hrel
    obtain ⟨wi, rfl⟩ : ∃ wi, wi = wr := ⟨_, rfl⟩
    have HS9 := Lib.hid (HS8.out.ext HB9.out)
    by_cases hjl : j < pl.length
    rotate_left
    ·obtain rfl : j = pl.length := by omega
     have hx9 : wi.cell? ⟨bx, 0, none⟩ = some (.slice sA st.length sc') := HS9.out.XB.c 0 _ rfl
     have hx9l := HS9.out.XB.lt
     have hsl9 : st.length ≤ 100 := by
      have := congrArg List.length HST.out
      rw [List.length_map, List.length_map, List.length_take] at this; omega
     obtain ⟨v4, W9, hrun, hAP⟩ := Own.append_two (e := 135) (base := m + 1) rowsI 73 (HS9.out.s0.alloc (.cells #[.slice A5 n5 c5] 135)) (ys := [(⟨A5, c5, rows⟩ : SliceOf (SliceOf Sty))]) (m := 1) rfl (by simp) 1 (slc_litH wi [(⟨A5, c5, rows⟩ : SliceOf (SliceOf Sty))] #[.slice A5 n5 c5] 135 (enc := SliceOf.enc) (sz := 1) (fun _ => rfl) (by simp [SliceOf.enc, HN5.out]) wi.heap.size rfl) (by simp; omega) (by unfold maxLen; simp; omega) (by have := HS9.out.hi; simp; omega)
     obtain ⟨A6, n6, c6, rfl, hn6⟩ := hAP.fm
     have h8 : m + 1 ≤ W8.heap.size := HS8.out.hi
     obtain ⟨⟨a1, a2, a3⟩, hS10⟩ := HS9.out.addS (⟨A5, c5, rows⟩ : SliceOf (SliceOf Sty)) (by show Own wi (m + 1) 95 SliceOf.enc 1 (.slice A5 rows.length c5) rows; rw [← HN5.out]; exact HO9.out.low h8) (fun q hq => (HQ9.out q hq).low h8) (ext_alloc (ext_refl wi) (.cells #[.slice A5 n5 c5] 135)) hAP hn6
     have HS10 : Hid (SetS w t.cells [.slice SA sl.length sc] bx (m + 1) (mkX m A6 c6 (st ++ [(⟨A5, c5, rows⟩ : SliceOf (SliceOf Sty))]) G8 V4.zero V4.zero) (W9.setCell ⟨bx, 0, none⟩ (.slice A6 n6 c6))) := hS10
     have HRUN := Lib.hid hrun
     have HST2 : Hid ((st ++ [(⟨A5, c5, rows⟩ : SliceOf (SliceOf Sty))]).map (fun r => r.l.map (·.l)) = (ll.take (k + 1)).map (fun y => y.ps.l.map (staysL t))) := by
      unfold Hid
      rw [take_snoc2 HY.out, List.map_append, List.map_append, HST.out]
      have := HRL.out
      rw [List.take_length] at this
      simp [this, HPL.out]
     have hjn : ¬ ((pl.length : Nat) : Int) < pl.length := by omega
     have a1' : W9.cell? ⟨bx, 0, none⟩ = some (.slice sA st.length sc') := a1
     clear hrun hS10 hAP a1 hn6 HN5 HB9 HO9 HQ9 HRL
     go_wp2_with (at_builtin; refine wpList_append_run rfl (.tmp 104) (.tmp 106) 73 rfl (.slice sA st.length sc') (.slice (some ⟨wi.heap.size, 0, none⟩) 1 1) rfl rfl HRUN.out ?_)
     go_roundw
     case rel => exact ⟨k + 1, A6, c6, _, G8, by omega, by go_num, HS10, HG8, HST2⟩
     case measure => simp [intOf]; omega
    obtain ⟨p, pb, po, hp, hPA, hpb, hc⟩ := (show Slc wi Pth.cells 2 PA pl from (HPS.out.below (Nat.le_refl _) HS9.out.E)).at_ hjl
    subst hPA
    have d0 := hc 0 _ rfl
    have d1 := hc 1 _ rfl
    simp only [Nat.add_zero] at d0
    have hji : (j : Int) < pl.length := by omega
    have HPP := Lib.hid hp
    have HPB := Lib.hid (HYP.out p (List.mem_of_getElem? hp))
    have HP1 := Lib.hid (HPO.out p (List.mem_of_getElem? hp))
    obtain ⟨W9, hW9⟩ : ∃ W9, wi.alloc (.cells #[.int .i64 p.way, .slice p.ts.A p.ts.l.length p.ts.c] 71) = W9 := ⟨_, rfl⟩
    have hb9 : Below wi.heap.size wi W9 := by rw [← hW9]; exact ext_alloc (ext_refl _) _
    have bp : Blk W9 wi.heap.size p.cells := by rw [← hW9]; exact Blk.newH wi p.cells 71 wi.heap.size rfl
    have p0 := bp.c 0 _ rfl
    have p1 := bp.c 1 _ rfl
    have HS10 := Lib.hid (HS9.out.ext hb9)
    have t0 := HS10.out.T.c 0 _ rfl
    have t1 := HS10.out.T.c 1 _ rfl
    have t2 := HS10.out.T.c 2 _ rfl
    have t3 := HS10.out.T.c 3 _ rfl
    have t4 := HS10.out.T.c 4 _ rfl
    have t5 := HS10.out.T.c 5 _ rfl
    have HB10 := Lib.hid (ext_trans HB9.out hb9)
    have HO10 := Lib.hid (HO9.out.ext hb9)
    have HQ10 := Lib.hid (show ∀ q ∈ rows, Own W9 W8.heap.size 113 Sty.cells 4 q.v q.l from fun q hq => (HQ9.out q hq).ext hb9)
    have pbl := bp.lt
    have ttl := HS10.out.T.lt
    clear hc hp bp hb9 HB9 HO9 HQ9 HS9
    go_wp2_with fail
    clear hW9 d0 d1
    refine (stays_any t p W9 (HT.out.ext HS10.out.E) (HP1.out.ext HS10.out.E) HCK.out.1 HPB.out).mono ?_
    rintro e u1 ⟨A7, c7, rfl, hO7, B7⟩
    obtain ⟨L7, hL7⟩ : ∃ L7, staysL t p = L7 := ⟨_, rfl⟩
    rw [hL7] at hO7 ⊢
    obtain ⟨n7, hn7⟩ : ∃ n7, L7.length = n7 := ⟨_, rfl⟩
    rw [hn7] at hO7 ⊢
    have HL7 := Lib.hid hL7
    have HN7 := Lib.hid hn7
    have hb11 : Below u1.heap.size u1 (u1.alloc (.cells #[.slice A7 n7 c7] 95)) := ext_alloc (ext_refl u1) _
    have HB11 := Lib.hid (ext_trans (ext_trans HB10.out B7) hb11)
    have HO11 := (HO10.out.ext B7).ext hb11
    have HQ11 : ∀ q ∈ rows, Own (u1.alloc (.cells #[.slice A7 n7 c7] 95)) W8.heap.size 113 Sty.cells 4 q.v q.l := fun q hq => ((HQ10.out q hq).ext B7).ext hb11
    have hO8 := (hO7.ext hb11).low HB10.out.size
    have hrl : rows.length ≤ 4096 := by
     have := congrArg List.length HRL.out
     rw [List.length_map, List.length_map, List.length_take] at this; omega
    obtain ⟨v', W10, hrun, A8, c8, rfl, hO12, hB12, hg12, _, _⟩ := Own.append_to (w0 := W8) rowyI 135 HO11 HB11.out (ys := [(⟨A7, c7, L7⟩ : SliceOf Sty)]) (m := 1) rfl 1 (slc_litH u1 [(⟨A7, c7, L7⟩ : SliceOf Sty)] #[.slice A7 n7 c7] 95 (enc := SliceOf.enc) (sz := 1) (fun _ => rfl) (by simp [SliceOf.enc, hn7]) u1.heap.size rfl) (by simp; omega) (by unfold maxLen; simp; omega)
    obtain ⟨n8, hn8⟩ : ∃ n8, (rows ++ [(⟨A7, c7, L7⟩ : SliceOf Sty)]).length = n8 := ⟨_, rfl⟩
    rw [hn8] at hrun hO12
    have HN8 := Lib.hid hn8.symm
    have HO12 := Lib.hid hO12
    have HB12 := Lib.hid hB12
    have HQ12 : Hid (∀ q ∈ rows ++ [(⟨A7, c7, L7⟩ : SliceOf Sty)], Own W10 W8.heap.size 113 Sty.cells 4 q.v q.l) := by
     intro q hq
     have h1 : Own (u1.alloc (.cells #[.slice A7 n7 c7] 95)) W8.heap.size 113 Sty.cells 4 q.v q.l := by
      rcases List.mem_append.1 hq with hq | hq
      ·exact HQ11 q hq
      ·obtain rfl := List.mem_singleton.1 hq
       show Own _ _ _ _ _ (.slice A7 L7.length c7) L7
       rw [hn7]; exact hO8
     exact Own.far h1 hg12 (fun kk e e' => HO11.ne h1 (by decide) kk e' e)
    have HRL2 : Hid ((rows ++ [(⟨A7, c7, L7⟩ : SliceOf Sty)]).map (·.l) = (pl.take (j + 1)).map (staysL t)) := by
     unfold Hid
     rw [take_snoc2 HPP.out, List.map_append, List.map_append, HRL.out]
     simp [HL7.out]
    have HRUN := Lib.hid hrun
    clear hrun hO12 hB12 hg12 hO8 HQ11 HO11 hb11 hO7 B7 hL7 hn7 hn8 t0 t1 t2 t3 t4 t5 p0 p1 HB10 HO10 HQ10 HS10 pbl ttl HRL
    go_wp2_with (at_builtin; refine wpList_append_run rfl (.tmp 98) (.tmp 100) 135 rfl (.slice A5 n5 c5) (.slice (some ⟨u1.heap.size, 0, none⟩) 1 1) rfl rfl HRUN.out ?_)
    go_roundw
    case rel => exact ⟨j + 1, A8, n8, c8, _, by omega, by go_num, rfl, HN8, HB12, HO12, HQ12, HRL2⟩
    case measure => simp [intOf]; omega
end Go.Proofs.YtjiojpoiocdnmaaGreat
