/- The stays on a valid path: plain. -/
import Derived.Test.YtjiojpoiocdnmaaGreatNE
import Derived.Test.YtjiojpoiocdnmaaGreatU5
import Derived.Test.YtjiojpoiocdnmaaGreatU2
import Derived.Test.YtjiojpoiocdnmaaGreatU1
import Derived.RangeFuncNested
import Derived.RangeFuncBound
import Derived.RangeFuncCalls
import Derived.RangeFuncLeaves
import Derived.RangeFuncBox
import Derived.RangeFuncWrites
import Derived.Shelf.Abstract
import Derived.Shelf.RegionOpen
import Derived.WalkKit
import Derived.OwnWalkIn
import Derived.TacticsInMore
import Derived.LoopNIn
import Derived.LoopIn
import Derived.CallsIn
import Derived.TacticsIn
set_option linter.unusedSimpArgs false
set_option linter.unusedVariables false
namespace Go.Proofs.YtjiojpoiocdnmaaGreat
open Go.RowKit
/-- The i-th time on a path, the volume of a way's i-th leg. -/
def tim (p : Pth) (i : Nat) : Int := (p.ts.l[i]?).getD 0
def lvol (x : Wy) (i : Nat) : Int := ((x.legs.l[i]?).map (·.vol)).getD 0
def legStay (p : Pth) (x : Wy) (i : Nat) : Sty := ⟨false, lvol x i, ⟨tim p i, tim p (i + 1)⟩⟩
def staysN (p : Pth) (x : Wy) (k : Nat) : List Sty := ⟨true, x.f, ⟨tim p 0, tim p 0 + 1⟩⟩ :: (List.range k).map (legStay p x)
def staysX (p : Pth) (x : Wy) : List Sty := staysN p x x.legs.l.length ++ [⟨true, x.t, ⟨tim p x.legs.l.length, tim p x.legs.l.length + 1⟩⟩]
def staysL (t : Tab) (p : Pth) : List Sty := match t.ws.l[p.way.toNat]? with | some x => staysX p x | none => []
theorem staysN_len (p : Pth) (x : Wy) (k : Nat) : (staysN p x k).length = k + 1 := by simp [staysN]
theorem staysN_succ (p : Pth) (x : Wy) (k : Nat) : staysN p x k ++ [legStay p x k] = staysN p x (k + 1) := by
  simp [staysN, List.range_succ]
theorem styc_len (x : Sty) : x.cells.length = 4 := rfl
theorem sty_info : (Tryz.prog.info? 113).map (fun i => (i.zero, i.size, i.bytes)) = some (some (.agg #[.bool false, .int .i64 0, .int .i64 0, .int .i64 0]), 4, 32) := by kernel_rfl
theorem styI : EInfo Tryz.prog 95 113 Sty.cells 4 32 := by
  obtain ⟨i, h1, h2, h3, h4⟩ := iparts sty_info
  exact ⟨Tryz.underlying95, ⟨i, _, h1, h2, h3, h4, rfl⟩, by decide, fun _ => rfl, fun x u hu => by simp [Sty.cells] at hu; rcases hu with rfl | rfl | rfl | rfl <;> rfl⟩
theorem risB_rng {n : Int} : ∀ {l : List Int} {last : Int}, risB n last l = true → ∀ v ∈ l, last < v ∧ v < n
  | a :: r, last, h, v, hv => by
    simp only [risB, Bool.and_eq_true, decide_eq_true_eq] at h
    rcases List.mem_cons.1 hv with rfl | hv
    · exact h.1
    · have := risB_rng h.2 v hv
      omega
structure PathOk (t : Tab) (p : Pth) (x : Wy) : Prop where
  w0 : 0 ≤ p.way
  w1 : p.way < (t.ws.l.length : Int)
  at_ : t.ws.l[p.way.toNat]? = some x
  len : p.ts.l.length = x.legs.l.length + 1
  tm : ∀ v ∈ p.ts.l, 0 ≤ v ∧ v ≤ 65535
theorem path_ok {t : Tab} {p : Pth} (h : pathB t p = true) : ∃ x, PathOk t p x := by
  unfold pathB at h
  simp only [Bool.and_eq_true, decide_eq_true_eq] at h
  obtain ⟨⟨⟨h1, h2⟩, h3⟩, h4⟩ := h
  have hx := List.getElem?_eq_getElem (show p.way.toNat < t.ws.l.length by omega)
  rw [hx] at h3
  exact ⟨_, h1, h2, hx, h3, fun v hv => by have := risB_rng h4 v hv; omega⟩
theorem PathOk.tim {t : Tab} {p : Pth} {x : Wy} (h : PathOk t p x) (i : Nat) : 0 ≤ tim p i ∧ tim p i ≤ 65535 := by
  unfold Go.Proofs.YtjiojpoiocdnmaaGreat.tim
  cases hq : p.ts.l[i]? with
  | none => simp
  | some v => exact h.tm v (List.mem_of_getElem? hq)
theorem tim_at {p : Pth} {i : Nat} {v : Int} (h : p.ts.l[i]? = some v) : tim p i = v := by unfold tim; rw [h]; rfl
def StaysR (w : World) (L : List Sty) (e : Ending) (w' : World) : Prop := ∃ A c, e = .returned (.slice A L.length c) ∧ Own w' w.heap.size 113 Sty.cells 4 (.slice A L.length c) L ∧ Below w.heap.size w w'
end Go.Proofs.YtjiojpoiocdnmaaGreat
/- The stays on a valid path: the reference's. -/
set_option linter.unusedSimpArgs false
set_option linter.unusedVariables false
namespace Go.Proofs.YtjiojpoiocdnmaaGreat
open Go.RowKit
set_option maxRecDepth 100000 in
set_option maxHeartbeats 16000000 in
theorem rsts_any (t : Tab) (p : Pth) (w : World) (ht : Tab.ok w t) (hp : Pth.ok w p) (hleg : ∀ x ∈ t.ws.l, x.legs.l.length ≤ 8) (hb : pathB t p = true) : Calls Tryz.prog 74 #[t.v, p.v] w (StaysR w (staysL t p)) := by
 obtain ⟨x, hok⟩ := path_ok hb
 have HL : Hid (staysL t p = staysX p x) := by unfold Hid staysL; rw [hok.at_]
 rw [HL.out]
 have hx8 := hleg x (List.mem_of_getElem? hok.at_)
 have hlen := hok.len
 have hw0 := hok.w0
 have hw1 := hok.w1
 have HOK := Lib.hid hok
 clear HL hok hb
 obtain ⟨W0, hW0⟩ : ∃ W0, (w.alloc (.cells #[.int .i64 t.n, .slice t.ss.A t.ss.l.length t.ss.c, .slice t.cs.A t.cs.l.length t.cs.c, .slice t.ws.A t.ws.l.length t.ws.c, .slice t.ms.A t.ms.l.length t.ms.c, .slice t.ks.A t.ks.l.length t.ks.c] 28)).alloc (.cells #[.int .i64 p.way, .slice p.ts.A p.ts.l.length p.ts.c] 71) = W0 := ⟨_, rfl⟩
 have HB0 : Hid (Blk W0 w.heap.size t.cells) := by rw [← hW0]; exact (Blk.newH w t.cells 28 w.heap.size rfl).alloc _
 have HPB0 : Hid (Blk W0 (w.heap.size + 1) p.cells) := by rw [← hW0]; exact Blk.newH (w.alloc _) p.cells 71 (w.heap.size + 1) (by simp)
 have HW0 : Hid (Below w.heap.size w W0) := by rw [← hW0]; exact ext_alloc (ext_alloc (ext_refl w) _) _
 have hz0 : W0.heap.size = w.heap.size + 1 + 1 := by rw [← hW0]; simp
 obtain ⟨W, hW⟩ : ∃ W, W0.alloc (.cells #[.int .i64 x.f, .int .i64 x.t, .slice x.legs.A x.legs.l.length x.legs.c] 124) = W := ⟨_, rfl⟩
 have HB : Hid (Blk W w.heap.size t.cells) := by rw [← hW]; exact HB0.out.alloc _
 have HPB : Hid (Blk W (w.heap.size + 1) p.cells) := by rw [← hW]; exact HPB0.out.alloc _
 have HXB : Hid (Blk W (w.heap.size + 1 + 1) x.cells) := by rw [← hW]; exact Blk.newH W0 x.cells 124 (w.heap.size + 1 + 1) hz0
 have HW : Hid (Below w.heap.size w W) := by rw [← hW]; exact ext_alloc HW0.out _
 have HT := Lib.hid (ht.ext HW.out)
 have HPO : Hid (SliceOf.ok ic 1 (fun _ n => (Lit.int .i64 n).wf = true) W p.ts) := ints.ext (show SliceOf.ok ic 1 (fun _ n => (Lit.int .i64 n).wf = true) w p.ts from hp) HW.out
 have HXO := Lib.hid (HT.out.2.2.1.all (List.mem_of_getElem? HOK.out.at_))
 have hz : W.heap.size = w.heap.size + 1 + 1 + 1 := by rw [← hW]; simp [hz0]
 obtain ⟨y, q1, o1, hy, hA, hb1, hc⟩ := (ht.ext HW0.out).2.2.1.slc.at_ (k := p.way.toNat) (by omega)
 obtain rfl : y = x := Option.some.inj (hy.symm.trans HOK.out.at_)
 have d0 := hc 0 _ rfl
 have d1 := hc 1 _ rfl
 have d2 := hc 2 _ rfl
 simp only [Nat.add_zero] at d0
 have hwl := ht.2.2.1.len
 unfold maxLen at hwl
 have HA := Lib.hid hA
 show Calls Tryz.prog 74 #[.agg #[.int .i64 t.n, .slice t.ss.A t.ss.l.length t.ss.c, .slice t.cs.A t.cs.l.length t.cs.c, .slice t.ws.A t.ws.l.length t.ws.c, .slice t.ms.A t.ms.l.length t.ms.c, .slice t.ks.A t.ks.l.length t.ks.c], .agg #[.int .i64 p.way, .slice p.ts.A p.ts.l.length p.ts.c]] w _
 rw [hA] at hW0 ⊢
 have e0 := HB0.out.c 3 _ rfl
 rw [hA] at e0
 have el := HB0.out.lt
 have p0 := HPB0.out.c 0 _ rfl
 have pl := HPB0.out.lt
 have HLEN := Lib.hid hlen
 clear hc hy hA ht hp hleg hlen
 have x2 := HXB.out.c 2 _ rfl
 have xl := HXB.out.lt
 go_enter Tryz.func74, Tryz.ntmps74
 go_wp2_with fail
 clear hW0 hW d0 d1 d2 e0 el p0 pl x2 xl HB0 HPB0 HW0 HB HT hz0 hw0 hw1 hwl hb1 hz
 obtain ⟨n, hn⟩ : ∃ n, y.legs.l.length = n := ⟨_, rfl⟩
 have HN := Lib.hid hn
 have HXC : Hid (Blk W (w.heap.size + 1 + 1) [.int .i64 y.f, .int .i64 y.t, .slice y.legs.A n y.legs.c]) := by rw [← hn]; exact HXB.out
 rw [hn] at hx8 HLEN ⊢
 obtain ⟨v0, pb, po, -, hpA, hpb, -⟩ := HPO.out.slc.at_ (k := 0) (by rw [HLEN.out]; omega)
 have HP1 : Hid (∀ W', Below W.heap.size W W' → W'.cell? ⟨w.heap.size + 1, 1, none⟩ = some (.slice (some ⟨pb, po, none⟩) (n + 1) p.ts.c)) := fun W' h => by
  have q := (HPB.out.ext h).c 1 _ rfl
  rw [hpA, HLEN.out] at q; exact q
 have HTM : Hid (∀ i, i ≤ n → ∀ W', Below W.heap.size W W' → W'.cell? ⟨pb, po + i, none⟩ = some (.int .i64 (tim p i))) := fun i hi W' h => by
  obtain ⟨v, b3, o3, hv, hB, hb3, hcv⟩ := (HPO.out.slc.ext h).at_ (k := i) (by rw [HLEN.out]; omega)
  rw [hpA] at hB
  injection hB with hB
  injection hB with e1 e2
  subst e1 e2
  have := hcv 0 _ rfl
  rw [tim_at hv]
  simpa using this
 have HT0 : Hid (∀ W', Below W.heap.size W W' → W'.cell? ⟨pb, po, none⟩ = some (.int .i64 (tim p 0))) := HTM.out 0 (Nat.zero_le _)
 have hr0 := HOK.out.tim 0
 have hw0 : IntKind.i64.wrap (tim p 0 + 1) = tim p 0 + 1 := IntWalk.i64_in _ (by omega)
 clear hn hpA hpb hr0
 have SS := Lib.hid (show ∀ w', Below W.heap.size W w' → (fun w' => Below W.heap.size W w' ∧ w'.cell? ⟨w.heap.size + 1 + 1, 0, none⟩ = some (.int .i64 y.f) ∧ w'.cell? ⟨w.heap.size + 1, 1, none⟩ = some (.slice (some ⟨pb, po, none⟩) (n + 1) p.ts.c) ∧ w'.cell? ⟨pb, po, none⟩ = some (.int .i64 (tim p 0))) w' from fun w' h => ⟨h, (HXC.out.ext h).c 0 _ rfl, (HP1.out _ h), (HT0.out _ h)⟩)
 refine rgB 15 SS (ext_drew (ext_refl _)) (fun Q7 hQ7 hN7 hHeld => ?_)
 refine rgT 0 (some 18) hQ7 hHeld ?_; refine rgT 1 (some 19) hQ7 hHeld ?_; refine rgT 2 (some 20) hQ7 hHeld ?_; refine rgT 3 (some 21) hQ7 hHeld ?_; refine rgT 4 (some 22) hQ7 hHeld ?_; refine rgT 5 (some 23) hQ7 hHeld ?_; refine rgT 6 (some 24) hQ7 hHeld ?_; refine rgT 7 (some 25) hQ7 hHeld ?_; refine rgT 8 (some 26) hQ7 hHeld ?_; refine rgT 9 (some 27) hQ7 hHeld ?_; refine rgT 10 (some 28) hQ7 hHeld ?_
 refine rgT 11 (some 29) hQ7 hHeld ?_; refine rgT 12 (some 30) hQ7 hHeld ?_
 refine rg_one (i := 13) (by kernel_rfl) (rg_step rfl (by rfl) (fun K hK => ?_))
 go_simp
 refine hK.out _ _ ?_ (fun hHeld2 => ?_)
 ·exact SS.out _ (ext_alloc hHeld.1 _)
 clear hHeld
 have hHeld := hHeld2
 clear hHeld2
 clear hK K
 try simp only [Act.put, List.setIfInBounds_toArray, List.set_cons_zero, List.set_cons_succ]
 refine rgT 14 (some 7) hQ7 hHeld ?_
 refine rg_end (by kernel_rfl) (hN7 _ _ ?_) _
 clear hQ7 hN7 Q7
 have BX := hHeld.1
 clear SS
 have HO0 : Hid (Own ((W.alloc (.cells #[.bool true, .int .i64 y.f, .int .i64 (tim p 0), .int .i64 (tim p 0 + 1)] 113)).drew) W.heap.size 113 Sty.cells 4 (.slice (some ⟨W.heap.size, 0, none⟩) (0 + 1) 1) (staysN p y 0)) :=
  (own_litH W [⟨true, y.f, ⟨tim p 0, tim p 0 + 1⟩⟩] _ 113 W.heap.size (Nat.le_refl _) (fun _ => rfl) (by simp [maxLen]) rfl W.heap.size rfl).drew_
 clear hw0
 go_wp2_with fail
 go_loopw [7, 8] (fun v i wr => ∃ (k : Nat) (A : Option Addr) (q : Nat), k ≤ n ∧ i = .int .i64 k ∧ v = .slice A (k + 1 : Nat) q ∧ Hid (Own wr W.heap.size 113 Sty.cells 4 (.slice A (k + 1) q) (staysN p y k)) ∧ Hid (Below W.heap.size W wr)) (fun _ i _ => n - (intOf i).toNat)
 case atStart => exact ⟨0, _, _, Nat.zero_le _, rfl, rfl, HO0, BX⟩
 case round =>
  obtain ⟨k, A, q, hk, rfl, rfl, HO, EE⟩ := hrel
  obtain ⟨wd, rfl⟩ : ∃ wd, wd = wr := ⟨_, rfl⟩
  by_cases hlt : k < n
  rotate_left
  ·obtain rfl : k = n := by omega
   have hkn : ¬ (k : Int) < (k : Int) := by omega
   have HTN : Hid (∀ W', Below W.heap.size W W' → W'.cell? ⟨pb, po + k, none⟩ = some (.int .i64 (tim p k))) := HTM.out k (Nat.le_refl _)
   have hrk := HOK.out.tim k
   have hwk : IntKind.i64.wrap (tim p k + 1) = tim p k + 1 := IntWalk.i64_in _ (by omega)
   have HSX : Hid (staysN p y k ++ [⟨true, y.t, ⟨tim p k, tim p k + 1⟩⟩] = staysX p y) := by unfold Hid staysX; rw [HN.out]
   have HSL : Hid ((staysX p y).length = k + 1 + 1) := by unfold Hid; rw [← HSX.out, List.length_append, staysN_len]; rfl
   have HSL2 : Hid (k + 1 + 1 = (staysX p y).length) := HSL.out.symm
   have hkl : (k : Int) < (k : Int) + 1 := by omega
   clear hrk
   go_wp2_with fail
   have SS := Lib.hid (show ∀ w', Below W.heap.size W w' → (fun w' => Below W.heap.size W w' ∧ w'.cell? ⟨w.heap.size + 1 + 1, 1, none⟩ = some (.int .i64 y.t) ∧ w'.cell? ⟨w.heap.size + 1, 1, none⟩ = some (.slice (some ⟨pb, po, none⟩) (k + 1) p.ts.c) ∧ w'.cell? ⟨pb, po + k, none⟩ = some (.int .i64 (tim p k))) w' from fun w' h => ⟨h, (HXC.out.ext h).c 1 _ rfl, (HP1.out _ h), (HTN.out _ h)⟩)
   refine rgB 19 SS (ext_drew EE.out) (fun Q7 hQ7 hN7 hHeld => ?_)
   refine rgT 0 (some 59) hQ7 hHeld ?_; refine rgT 1 (some 60) hQ7 hHeld ?_; refine rgT 2 (some 61) hQ7 hHeld ?_; refine rgT 3 (some 62) hQ7 hHeld ?_; refine rgT 4 (some 63) hQ7 hHeld ?_; refine rgT 5 (some 64) hQ7 hHeld ?_; refine rgT 6 (some 65) hQ7 hHeld ?_; refine rgT 7 (some 66) hQ7 hHeld ?_; refine rgT 8 (some 67) hQ7 hHeld ?_; refine rgT 9 (some 68) hQ7 hHeld ?_; refine rgT 10 (some 69) hQ7 hHeld ?_
   refine rgT 11 (some 70) hQ7 hHeld ?_; refine rgT 12 (some 71) hQ7 hHeld ?_; refine rgT 13 (some 72) hQ7 hHeld ?_; refine rgT 14 (some 73) hQ7 hHeld ?_; refine rgT 15 (some 74) hQ7 hHeld ?_
   refine rg_one (i := 16) (by kernel_rfl) (rg_step rfl (by rfl) (fun K hK => ?_))
   go_simp
   refine hK.out _ _ ?_ (fun hHeld2 => ?_)
   ·exact SS.out _ (ext_alloc hHeld.1 _)
   clear hHeld
   have hHeld := hHeld2
   clear hHeld2
   clear hK K
   try simp only [Act.put, List.setIfInBounds_toArray, List.set_cons_zero, List.set_cons_succ]
   refine rg_one (i := 17) (by kernel_rfl) (rg_step rfl (by rfl) (fun K hK => ?_))
   refine rg_append (some 76) _ _ 95 95 rfl rfl rfl _ _ rfl rfl (Own.append_k (w0 := W) styI 95 (HO.out.alloc _).drew_ hHeld.1 (ys := [⟨true, y.t, ⟨tim p k, tim p k + 1⟩⟩]) (m := 1) rfl 1 ((slc_litH _ [⟨true, y.t, ⟨tim p k, tim p k + 1⟩⟩] _ 113 (enc := Sty.cells) (sz := 4) (fun _ => rfl) rfl wd.heap.size (by first | rfl | simp)).drew_) (staysX p y) HSX.out (k + 1 + 1) HSL.out (by omega) (by unfold maxLen; omega)) ?_
   rintro _ u1 ⟨A1, q1, rfl, hO1, B1, hg1, hq1, hm1⟩
   refine hK.out _ _ ?_ (fun hHeld2 => ?_)
   ·exact SS.out _ B1
   clear hHeld
   have hHeld := hHeld2
   clear hHeld2
   clear hK K
   try simp only [Act.put, List.setIfInBounds_toArray, List.set_cons_zero, List.set_cons_succ]
   refine rgT 18 (some 4) hQ7 hHeld ?_
   refine rg_end (by kernel_rfl) (hN7 _ _ ?_) _
   clear hQ7 hN7 Q7
   have BX := hHeld.1
   clear SS
   have E9 := Lib.hid (ext_trans HW.out BX)
   clear hwk BX
   go_wp2_with fail
   go_ret
   have hO9 := hO1.low HW.out.size
   rw [HSL2.out] at hO9 ⊢
   exact ⟨A1, q1, rfl, hO9, E9.out⟩
  ·have hki : (k : Int) < (n : Int) := by omega
   obtain ⟨g, lb, lo, hg, hlA, hlb, hlc⟩ := (HXO.out.slc.ext EE.out).at_ (k := k) (by rw [HN.out]; exact hlt)
   have HLV : Hid (∀ W', Below W.heap.size W W' → W'.cell? ⟨lb, lo + k * 4 + 1, none⟩ = some (.int .i64 (lvol y k))) := fun W' h => by
    obtain ⟨g2, b3, o3, hg2, hB, hb3, hcv⟩ := (HXO.out.slc.ext h).at_ (k := k) (by rw [HN.out]; exact hlt)
    rw [hlA] at hB
    injection hB with hB
    injection hB with e1 e2
    subst e1 e2
    have := hcv 1 _ rfl
    unfold lvol
    rw [hg2]
    exact this
   have HX2 : Hid (∀ W', Below W.heap.size W W' → W'.cell? ⟨w.heap.size + 1 + 1, 2, none⟩ = some (.slice (some ⟨lb, lo, none⟩) n y.legs.c)) := fun W' h => by
    have q := (HXC.out.ext h).c 2 _ rfl
    rw [hlA] at q; exact q
   have HTK : Hid (∀ W', Below W.heap.size W W' → W'.cell? ⟨pb, po + k, none⟩ = some (.int .i64 (tim p k))) := HTM.out k (by omega)
   obtain ⟨k1, hk1⟩ : ∃ k1, k + 1 = k1 := ⟨_, rfl⟩
   have HTK1 : Hid (∀ W', Below W.heap.size W W' → W'.cell? ⟨pb, po + k1, none⟩ = some (.int .i64 (tim p (k + 1)))) := by rw [← hk1]; exact HTM.out (k + 1) (by omega)
   have hkw : IntKind.i64.wrap ((k : Int) + 1) = (k1 : Int) := by rw [← hk1]; exact IntWalk.i64_in _ (by omega)
   have hk3 : (k : Int) < (n : Int) + 1 := by omega
   have hk2 : (k1 : Int) < (n : Int) + 1 := by omega
   have HK1 := Lib.hid hk1
   clear hk1
   clear hg hlA hlb hlc
   go_wp2_with fail
   have SS := Lib.hid (show ∀ w', Below W.heap.size W w' → (fun w' => Below W.heap.size W w' ∧ w'.cell? ⟨w.heap.size + 1 + 1, 2, none⟩ = some (.slice (some ⟨lb, lo, none⟩) n y.legs.c) ∧ w'.cell? ⟨w.heap.size + 1, 1, none⟩ = some (.slice (some ⟨pb, po, none⟩) (n + 1) p.ts.c) ∧ w'.cell? ⟨lb, lo + k * 4 + 1, none⟩ = some (.int .i64 (lvol y k)) ∧ w'.cell? ⟨pb, po + k, none⟩ = some (.int .i64 (tim p k)) ∧ w'.cell? ⟨pb, po + k1, none⟩ = some (.int .i64 (tim p (k + 1)))) w' from fun w' h => ⟨h, (HX2.out _ h), (HP1.out _ h), (HLV.out _ h), (HTK.out _ h), (HTK1.out _ h)⟩)
   refine rgB 23 SS (ext_drew EE.out) (fun Q7 hQ7 hN7 hHeld => ?_)
   refine rgT 0 (some 37) hQ7 hHeld ?_; refine rgT 1 (some 38) hQ7 hHeld ?_; refine rgT 2 (some 39) hQ7 hHeld ?_; refine rgT 3 (some 40) hQ7 hHeld ?_; refine rgT 4 (some 41) hQ7 hHeld ?_; refine rgT 5 (some 42) hQ7 hHeld ?_; refine rgT 6 (some 43) hQ7 hHeld ?_; refine rgT 7 (some 44) hQ7 hHeld ?_; refine rgT 8 (some 45) hQ7 hHeld ?_; refine rgT 9 (some 46) hQ7 hHeld ?_; refine rgT 10 (some 47) hQ7 hHeld ?_
   refine rgT 11 (some 48) hQ7 hHeld ?_; refine rgT 12 (some 49) hQ7 hHeld ?_; refine rgT 13 (some 50) hQ7 hHeld ?_; refine rgT 14 (some 51) hQ7 hHeld ?_; refine rgT 15 (some 52) hQ7 hHeld ?_; refine rgT 16 (some 53) hQ7 hHeld ?_; refine rgT 17 (some 54) hQ7 hHeld ?_; refine rgT 18 (some 55) hQ7 hHeld ?_; refine rgT 19 (some 56) hQ7 hHeld ?_
   refine rg_one (i := 20) (by kernel_rfl) (rg_step rfl (by rfl) (fun K hK => ?_))
   go_simp
   refine hK.out _ _ ?_ (fun hHeld2 => ?_)
   ·exact SS.out _ (ext_alloc hHeld.1 _)
   clear hHeld
   have hHeld := hHeld2
   clear hHeld2
   clear hK K
   try simp only [Act.put, List.setIfInBounds_toArray, List.set_cons_zero, List.set_cons_succ]
   refine rg_one (i := 21) (by kernel_rfl) (rg_step rfl (by rfl) (fun K hK => ?_))
   refine rg_append (some 58) _ _ 95 95 rfl rfl rfl _ _ rfl rfl (Own.append_k (w0 := W) styI 95 (HO.out.alloc _).drew_ hHeld.1 (ys := [legStay p y k]) (m := 1) rfl 1 ((slc_litH _ [legStay p y k] _ 113 (enc := Sty.cells) (sz := 4) (fun _ => rfl) rfl wd.heap.size (by first | rfl | simp)).drew_) (staysN p y (k + 1)) (staysN_succ p y k) (k + 1 + 1) (staysN_len p y (k + 1)) (by omega) (by unfold maxLen; omega)) ?_
   rintro _ u1 ⟨A1, q1, rfl, hO1, B1, hg1, hq1, hm1⟩
   refine hK.out _ _ ?_ (fun hHeld2 => ?_)
   ·exact SS.out _ B1
   clear hHeld
   have hHeld := hHeld2
   clear hHeld2
   clear hK K
   try simp only [Act.put, List.setIfInBounds_toArray, List.set_cons_zero, List.set_cons_succ]
   refine rgT 22 (some 7) hQ7 hHeld ?_
   refine rg_end (by kernel_rfl) (hN7 _ _ ?_) _
   clear hQ7 hN7 Q7
   have BX := hHeld.1
   clear SS
   have HO9 := Lib.hid hO1
   clear hO1 B1 hg1 hkw
   have hkw : IntKind.i64.wrap ((k : Int) + 1) = ((k + 1 : Nat) : Int) := IntWalk.i64_in _ (by omega)
   go_wp2_with fail
   go_roundw
   case rel => exact ⟨k + 1, A1, q1, hlt, by go_num, rfl, HO9, BX⟩
   case measure => simp [intOf]; (try omega)
end Go.Proofs.YtjiojpoiocdnmaaGreat
/- Words for a range over a function: what a round keeps; what abides the loop's own book-keeping. No program in sight. -/
set_option linter.unusedSimpArgs false
set_option linter.unusedVariables false
namespace Go.Proofs.YtjiojpoiocdnmaaGreat
open Go.RowKit Go.Shelf

/-- Below B, but for the blocks in ex, the world is as it was. -/
def Kx (B : Nat) (ex : Nat → Prop) (W W' : World) : Prop := ∀ k, k < B → ¬ ex k → W'.heap[k]? = W.heap[k]?
section
variable {B : Nat} {ex : Nat → Prop}
theorem Kx.refl (W : World) : Kx B ex W W := fun _ _ _ => rfl
theorem Kx.t {X Y Z : World} (h : Kx B ex X Y) (k : Kx B ex Y Z) : Kx B ex X Z := fun i hi hn => (k i hi hn).trans (h i hi hn)
theorem Kx.b {w : World} (hB : B ≤ w.heap.size) (W : World) (l : Nat) (o o' : Obj) (hl : w.heap.size ≤ l) (h : W.heap[l]? = some o) (_ : o.isCells = false) (_ : o.isWalk = false) : Kx B ex W (W.putObj l o') := by
  intro k hk _
  have hlt := (Array.getElem?_eq_some_iff.1 h).1
  exact (grownBy_putObj' W l o').block k (by omega) (fun e => by cases e; omega)
theorem Kx.grown {W W' : World} {row : Option Nat} (hg : W.grownBy W' row) (hB : B ≤ W.heap.size) (hr : ∀ r, row = some r → B ≤ r ∨ ex r) : Kx B ex W W' := by
  intro k hk hn
  refine hg.block k (by omega) (fun e => ?_)
  rcases hr k e.symm with h | h
  · omega
  · exact hn h
theorem Kx.below {n : Nat} {W W' : World} (h : Below n W W') (hB : B ≤ n) : Kx B ex W W' := fun k hk _ => h.block k (by omega)
theorem Kx.set {W : World} (p : Addr) (v : Value) (hr : B ≤ p.block ∨ ex p.block) : Kx B ex W (W.setCell p v) := by
  intro k hk hn
  exact Below.heap_setCell W p v k (by
    intro e
    rcases hr with h | h
    · omega
    · rw [← e] at h; exact hn h)
end
theorem grown_below {w w' : World} (h : Below w.heap.size w w') : w.grownBy w' none := ⟨h.os, h.tape, h.output, h.size, fun k hk _ => h.block k hk⟩
/-- A turn of a block that is no cells leaves a slice as it was. -/
theorem Slc.turn {α : Type} {w w' : World} {enc : α → List Value} {sz : Nat} {A : Option Addr} {l : List α} {row : Option Nat} (hs : ∀ x, (enc x).length = sz) (hz : 0 < sz) (h : Slc w enc sz A l) (hg : w.grownBy w' row) (hr : ∀ r, row = some r → ∃ o : Obj, w.heap[r]? = some o ∧ o.isCells = false) : Slc w' enc sz A l := fun i x hx => by
  obtain ⟨b, o, e, hlt, hc⟩ := h i x hx
  have hne : some b ≠ row := by
    intro e'
    obtain ⟨ob, h1, h2⟩ := hr b e'.symm
    have h3 := hc 0 _ (List.getElem?_eq_getElem (by rw [hs]; exact hz))
    simp only [World.cell?, h1] at h3
    cases ob <;> simp_all [Obj.isCells]
  exact ⟨b, o, e, Nat.lt_of_lt_of_le hlt hg.size, fun j v hj => (World.cell?_of_block (w := w) (a := ⟨b, o + i * sz + j, none⟩) (hg.block b hlt hne)).trans (hc j v hj)⟩
theorem Own.turn {α : Type} {w w' : World} {base : Nat} {e : TypeId} {enc : α → List Value} {sz : Nat} {v : Value} {l : List α} {row : Option Nat} (h : Own w base e enc sz v l) (hg : w.grownBy w' row) (hr : ∀ r, row = some r → ∃ o : Obj, w.heap[r]? = some o ∧ o.isCells = false) : Own w' base e enc sz v l := by
  obtain ⟨h1, h2⟩ := h
  refine ⟨h1, ?_⟩
  rcases h2 with h2 | ⟨g, cap, cur, hv, hbb, hgb, r⟩
  · exact .inl h2
  · refine .inr ⟨g, cap, cur, hv, hbb, ?_, r⟩
    rw [hg.block g (Array.getElem?_eq_some_iff.1 hgb).1 (fun e' => by obtain ⟨ob, h3, h4⟩ := hr g e'.symm; rw [hgb] at h3; cases h3; cases h4)]
    exact hgb
theorem Boxed.turn {w w' : World} {B : Nat} {t : TypeId} {v : Value} {row : Option Nat} (h : Boxed w B t v) (hg : w.grownBy w' row) (hr : ∀ r, row = some r → ∃ o : Obj, w.heap[r]? = some o ∧ o.isCells = false) : Boxed w' B t v :=
  h.kept hg (fun e' => by obtain ⟨ob, h3, h4⟩ := hr B e'.symm; rw [show w.heap[B]? = _ from h] at h3; cases h3; cases h4)
/-- append inside a fence, its run known. -/
theorem wpListIn_append_run {F : Fence} {n : Nat} {P : Program} {w : World} {ops : Array Oper} {rest : List Oper} {o : Oper} {a : Act} {Q : Exit → Act → World → Prop}
    (hg : o.guard = none) (s x : Operand) (t : TypeId) (hop : o.op = Op.call { callee := Callee.builtin Builtin.append, args := #[s, x], argTypes := #[t, t] }) (u v : Value) (hs : a.eval s = u) (hx : a.eval x = v)
    {v' : Value} {w' : World} (hrun : (Builtin.append_ #[t, t] o.type #[u, v]).run P w = .ok v' w') (h : wpListIn F n P ops Q rest (a.put o.dst v') w') : wpListIn F n P ops Q (o :: rest) a w := by
  refine wpListIn_plain hg fun K hK' => ?_
  unfold Oper.wpIn
  refine ⟨?_, ?_⟩
  · simp [Oper.about, hop, resolve, Target.leads, Sem.run_pure]
  · rw [Oper.semAt_plain F _ _ (by rw [hop]; intro c hc'; cases hc')]
    simp [execOp, hop, resolve, invoke, builtin, hs, hx, hrun, Result.andThen]
    exact hK' _ _ h
end Go.Proofs.YtjiojpoiocdnmaaGreat
/- A drawn region inside a fence, and in a round of a range over a function. No program in sight. -/
set_option linter.unusedSimpArgs false
set_option linter.unusedVariables false
namespace Go.Proofs.YtjiojpoiocdnmaaGreat
/-- A drawn region inside a fence: the post at its end alone. -/
def OnlyN (Q : Exit → Act → World → Prop) : Exit → Act → World → Prop
  | .normal, a, w => Q .normal a w
  | _, _, _ => False
theorem onlyN {Q : Exit → Act → World → Prop} {a : Act} {w : World} (h : Q .normal a w) : OnlyN Q .normal a w := h
theorem region_in {n : Nat} {P : Program} {id : Nat} {ops : Array Oper} {Q : Exit → Act → World → Prop} {a : Act} {w : World} (h : (Code.region id ops true).wp P (OnlyN Q) a w) : (Code.region id ops true).wpIn Fence.wide n P Q a w :=
  wpIn_wide.2 (wp_mono h (fun e a w h => by cases e <;> first | exact h | exact h.elim))
theorem op_round {l n : Nat} {P : Program} {o : Oper} {a : Act} {w : World} {K : Act → World → Prop} {Q : Exit → Act → World → Prop} (hd : ∀ c, o.op ≠ .defer c) (h : o.wp P a w K (OnlyN Q)) : o.wpIn (Fence.wide.inRound l) n P a w K Q := by
  refine ⟨fun _ _ => trivial, ?_⟩
  rw [show (Fence.wide.inRound l).round = some l from rfl, Oper.semAt_some l a.eval o hd]
  unfold Oper.wp at h
  cases hr : (execOp a.eval o).run P w with
  | ok nx w' =>
    rw [hr] at h
    cases nx with
    | value v => exact h
    | skip => exact h
    | defer d => exact h
    | enter f args =>
      refine ⟨(fun e => by cases e), CallsIn.inRound l (callsIn_wide.2 (Calls.mono h ?_))⟩
      intro e w'' g
      cases e with
      | returned v => exact g
      | panicked c => exact g.elim
      | outgrown => obtain ⟨_, _, g⟩ := g; exact g.elim
    | row row args =>
      refine ⟨(fun e => by cases e), fun c cs _ => ?_⟩
      obtain ⟨v, w'', r, s⟩ := h c cs
      exact ⟨v, w'', r, stepsIn_wide.2 s⟩
    | _ => exact h.elim
  | halt x w' =>
    rw [hr] at h
    cases x with
    | panic v => exact h.elim
    | _ => exact h.elim
theorem ops_round {l n : Nat} {P : Program} {ops : Array Oper} {Q : Exit → Act → World → Prop} (hd : ∀ (j : Nat) (o : Oper), ops[j]? = some o → ∀ c, o.op ≠ .defer c) :
    ∀ (s : List Nat) (a : Act) (w : World), wpOps P ops (OnlyN Q) s a w → wpOpsIn (Fence.wide.inRound l) n P ops Q s a w
  | [], _, _, h => h
  | i :: s, a, w, h => by
    unfold wpOps at h
    unfold wpOpsIn
    cases ho : ops[i]? with
    | none => rw [ho] at h; exact ops_round hd s a w h
    | some o =>
      rw [ho] at h
      simp only at h ⊢
      split at h
      · rename_i hw
        rw [if_pos hw]
        rcases h with h | ⟨-, _, _, h⟩
        · exact op_round (hd i o ho) (Oper.wp_mono (fun a w h => ops_round hd s a w h) h)
        · exact h.elim
      · rename_i hw
        rw [if_neg hw]
        exact ⟨fun _ _ => trivial, ops_round hd s _ w h⟩
def noDefer (ops : Array Oper) : Bool := ops.toList.all (fun o => match o.op with | .defer _ => false | _ => true)
theorem noDefer_of {ops : Array Oper} (h : noDefer ops = true) : ∀ (j : Nat) (o : Oper), ops[j]? = some o → ∀ c, o.op ≠ .defer c := by
  intro j o hj c e
  have h1 := List.all_eq_true.1 h o (by rw [Array.mem_toList_iff]; exact Array.mem_of_getElem? hj)
  rw [e] at h1
  cases h1
theorem rg_beginR {P : Program} {ops : Array Oper} {Q : Exit → Act → World → Prop} {S : World → Prop} {l n id : Nat} {a : Act} {w : World} (k : Nat) (hm : P.follows .mixedOrders = true) (hQ : Calm (OnlyN Q)) (hS : S w.drew)
    (h : ∀ Q' : Exit → Act → World → Prop, Calm Q' → (∀ a w, OnlyN Q .normal a w → Q' .normal a w) → S w.drew → WT P .any ops Q' k S ops.size (Array.replicate ops.size false) a w.drew)
    (hd : noDefer ops = true := by rfl) : (Code.region id ops true).wpIn (Fence.wide.inRound l) n P Q a w :=
  wpIn_region_draw fun t => ops_round (noDefer_of hd) _ _ _ (by
    simp only [Region.schedule, hm, Bool.true_or, if_true]
    exact wpAny_sound ops.size t _ a _ (WT.any _ _ _ _ (h (OnlyN Q) hQ (fun _ _ h => h) hS)))
end Go.Proofs.YtjiojpoiocdnmaaGreat
