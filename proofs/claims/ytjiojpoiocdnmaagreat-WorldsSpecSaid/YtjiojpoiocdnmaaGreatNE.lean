/- Paths: is one valid for tables? The program's check and the reference's. -/
import Derived.Test.YtjiojpoiocdnmaaGreatU11
import Derived.Test.YtjiojpoiocdnmaaGreatZD
set_option linter.unusedSimpArgs false
set_option linter.unusedVariables false
namespace Go.Proofs.YtjiojpoiocdnmaaGreat
open Go.RowKit
/-- A path that is valid for tables. -/
def pathB (t : Tab) (p : Pth) : Bool := decide (0 ≤ p.way) && decide (p.way < t.ws.l.length) && decide (p.ts.l.length = ((t.ws.l[p.way.toNat]?).map (fun x => x.legs.l.length + 1)).getD 0) && risB 65536 (-1) p.ts.l
def pathE (t : Tab) (p : Pth) : Int := if pathB t p then 0 else 160
theorem pathE_of {t : Tab} {p : Pth} {b : Bool} (h : pathB t p = b) : pathE t p = if b then 0 else 160 := by unfold pathE; rw [h]
set_option maxRecDepth 100000 in
set_option maxHeartbeats 16000000 in
theorem path_any (t : Tab) (p : Pth) (w : World) (ht : Tab.ok w t) (hp : Pth.ok w p) (hleg : ∀ x ∈ t.ws.l, x.legs.l.length ≤ 8) : Calls Tryz.prog 55 #[t.v, p.v] w (RetE w (pathE t p)) := by
 obtain ⟨E, hE⟩ : ∃ q, pathB t p = q := ⟨_, rfl⟩
 have HD : Hid (pathB t p = (decide (0 ≤ p.way) && decide (p.way < t.ws.l.length) && decide (p.ts.l.length = ((t.ws.l[p.way.toNat]?).map (fun x => x.legs.l.length + 1)).getD 0) && risB 65536 (-1) p.ts.l)) := rfl
 rw [pathE_of hE]
 obtain ⟨F, hF⟩ : ∃ q : Int, (if E then (0 : Int) else 160) = q := ⟨_, rfl⟩
 rw [hF]
 have HF := Lib.hid hF
 clear hF
 have HE := Lib.hid hE
 clear hE
 obtain ⟨W, hW⟩ : ∃ W, (w.alloc (.cells #[.int .i64 t.n, .slice t.ss.A t.ss.l.length t.ss.c, .slice t.cs.A t.cs.l.length t.cs.c, .slice t.ws.A t.ws.l.length t.ws.c, .slice t.ms.A t.ms.l.length t.ms.c, .slice t.ks.A t.ks.l.length t.ks.c] 28)).alloc (.cells #[.int .i64 p.way, .slice p.ts.A p.ts.l.length p.ts.c] 71) = W := ⟨_, rfl⟩
 have HB : Hid (Blk W w.heap.size t.cells) := by rw [← hW]; exact (Blk.newH w t.cells 28 w.heap.size rfl).alloc _
 have HPB : Hid (Blk W (w.heap.size + 1) p.cells) := by rw [← hW]; exact Blk.newH (w.alloc _) p.cells 71 (w.heap.size + 1) (by simp)
 have HW : Hid (Below w.heap.size w W) := by rw [← hW]; exact ext_alloc (ext_alloc (ext_refl w) _) _
 have HT := Lib.hid (ht.ext HW.out)
 have HPO : Hid (SliceOf.ok ic 1 (fun _ n => (Lit.int .i64 n).wf = true) W p.ts) := ints.ext (show SliceOf.ok ic 1 (fun _ n => (Lit.int .i64 n).wf = true) w p.ts from hp) HW.out
 have hpl := HPO.out.len
 have hwl := HT.out.2.2.1.len
 have HLEG := Lib.hid hleg
 unfold maxLen at hpl hwl
 have b0 := HB.out.c 0 _ rfl
 have bt := HB.out.lt
 have bl := HPB.out.lt
 clear ht hp hleg b0
 go_enter Tryz.func55, Tryz.ntmps55
 go_wp2_with fail
 clear hW
 by_cases h1 : p.way < 0
 ·have e1 : decide (p.way < 0) = true := decide_eq_true h1
  have HX : Hid (E = false) := by rw [← HE.out, HD.out, decide_eq_false (show ¬ 0 ≤ p.way by omega)]; rfl
  clear h1
  have SS := Lib.hid (show ∀ w', Below W.heap.size W w' → (fun w' => Below W.heap.size W w' ∧ w'.cell? ⟨w.heap.size + 1, 0, none⟩ = some (.int .i64 p.way)) w' from fun w' h => ⟨h, (HPB.out.ext h).c 0 _ rfl⟩)
  refine rgB 26 SS (ext_drew (ext_refl _)) (fun Q7 hQ7 hN7 hHeld => ?_)
  refine rgT 0 (some 7) hQ7 hHeld ?_; refine rgT 1 (some 8) hQ7 hHeld ?_; refine rgT 2 (some 9) hQ7 hHeld ?_; refine rgT 3 (some 10) hQ7 hHeld ?_; refine rgS 4 (some 11) hQ7 hHeld ?_; refine rgS 5 (some 12) hQ7 hHeld ?_; refine rgS 6 (some 13) hQ7 hHeld ?_; refine rgS 7 (some 14) hQ7 hHeld ?_; refine rgS 8 (some 15) hQ7 hHeld ?_; refine rgS 9 (some 16) hQ7 hHeld ?_; refine rgT 10 (some 17) hQ7 hHeld ?_
  refine rgT 11 (some 18) hQ7 hHeld ?_; refine rgS 12 (some 19) hQ7 hHeld ?_; refine rgS 13 (some 20) hQ7 hHeld ?_; refine rgS 14 (some 21) hQ7 hHeld ?_; refine rgS 15 (some 22) hQ7 hHeld ?_; refine rgS 16 (some 23) hQ7 hHeld ?_; refine rgS 17 (some 24) hQ7 hHeld ?_; refine rgS 18 (some 25) hQ7 hHeld ?_; refine rgS 19 (some 26) hQ7 hHeld ?_; refine rgS 20 (some 27) hQ7 hHeld ?_; refine rgS 21 (some 28) hQ7 hHeld ?_
  refine rgS 22 (some 29) hQ7 hHeld ?_; refine rgS 23 (some 30) hQ7 hHeld ?_; refine rgS 24 (some 31) hQ7 hHeld ?_; refine rgT 25 (some 32) hQ7 hHeld ?_
  refine rg_end (by kernel_rfl) (hN7 _ _ ?_) _
  clear hQ7 hN7 Q7
  have BX := hHeld.1
  clear SS
  go_wp2_with fail
  go_ret
  have hF := HF.out
  rw [HX.out] at hF
  rw [← hF]
  exact ⟨rfl, ext_trans HW.out BX⟩
 have e1 : decide (p.way < 0) = false := decide_eq_false h1
 by_cases h2 : (t.ws.l.length : Int) ≤ p.way
 ·have e2 : decide (p.way ≥ (t.ws.l.length : Int)) = true := decide_eq_true h2
  have HX : Hid (E = false) := by rw [← HE.out, HD.out, decide_eq_false (show ¬ p.way < (t.ws.l.length : Int) by omega), Bool.and_false]; rfl
  clear h1
  have SS := Lib.hid (show ∀ w', Below W.heap.size W w' → (fun w' => Below W.heap.size W w' ∧ w'.cell? ⟨w.heap.size, 3, none⟩ = some (.slice t.ws.A t.ws.l.length t.ws.c) ∧ w'.cell? ⟨w.heap.size + 1, 0, none⟩ = some (.int .i64 p.way)) w' from fun w' h => ⟨h, (HB.out.ext h).c 3 _ rfl, (HPB.out.ext h).c 0 _ rfl⟩)
  refine rgB 26 SS (ext_drew (ext_refl _)) (fun Q7 hQ7 hN7 hHeld => ?_)
  refine rgT 0 (some 7) hQ7 hHeld ?_; refine rgT 1 (some 8) hQ7 hHeld ?_; refine rgT 2 (some 9) hQ7 hHeld ?_; refine rgT 3 (some 10) hQ7 hHeld ?_; refine rgT 4 (some 11) hQ7 hHeld ?_; refine rgT 5 (some 12) hQ7 hHeld ?_; refine rgT 6 (some 13) hQ7 hHeld ?_; refine rgT 7 (some 14) hQ7 hHeld ?_; refine rgT 8 (some 15) hQ7 hHeld ?_; refine rgT 9 (some 16) hQ7 hHeld ?_; refine rgT 10 (some 17) hQ7 hHeld ?_
  refine rgT 11 (some 18) hQ7 hHeld ?_; refine rgS 12 (some 19) hQ7 hHeld ?_; refine rgS 13 (some 20) hQ7 hHeld ?_; refine rgS 14 (some 21) hQ7 hHeld ?_; refine rgS 15 (some 22) hQ7 hHeld ?_; refine rgS 16 (some 23) hQ7 hHeld ?_; refine rgS 17 (some 24) hQ7 hHeld ?_; refine rgS 18 (some 25) hQ7 hHeld ?_; refine rgS 19 (some 26) hQ7 hHeld ?_; refine rgS 20 (some 27) hQ7 hHeld ?_; refine rgS 21 (some 28) hQ7 hHeld ?_
  refine rgS 22 (some 29) hQ7 hHeld ?_; refine rgS 23 (some 30) hQ7 hHeld ?_; refine rgS 24 (some 31) hQ7 hHeld ?_; refine rgT 25 (some 32) hQ7 hHeld ?_
  refine rg_end (by kernel_rfl) (hN7 _ _ ?_) _
  clear hQ7 hN7 Q7
  have BX := hHeld.1
  clear SS
  go_wp2_with fail
  go_ret
  have hF := HF.out
  rw [HX.out] at hF
  rw [← hF]
  exact ⟨rfl, ext_trans HW.out BX⟩
 have e2 : decide (p.way ≥ (t.ws.l.length : Int)) = false := decide_eq_false h2
 have hw0 : 0 ≤ p.way := by omega
 have hw1 : p.way < (t.ws.l.length : Int) := by omega
 obtain ⟨x, q1, o1, hx, hA, hb1, hc⟩ := HT.out.2.2.1.slc.at_ (k := p.way.toNat) (by omega)
 have hx8 := HLEG.out x (List.mem_of_getElem? hx)
 have d2 := hc 2 _ rfl
 have HA := Lib.hid hA
 have HL : Hid (((t.ws.l[p.way.toNat]?).map (fun x => x.legs.l.length + 1)).getD 0 = x.legs.l.length + 1) := by rw [Hid, hx]; rfl
 clear hc hx hA h1 h2
 have hwx : IntKind.i64.wrap ((x.legs.l.length : Int) + 1) = (x.legs.l.length : Int) + 1 := IntWalk.i64_in _ (by omega)
 by_cases h3 : p.ts.l.length = x.legs.l.length + 1
 rotate_left
 ·have e3 : ((p.ts.l.length : Int) != (x.legs.l.length : Int) + 1) = true := bne_iff_ne.2 (by omega)
  have HX : Hid (E = false) := by rw [← HE.out, HD.out, HL.out, decide_eq_false h3, Bool.and_false]; rfl
  clear h3
  have SS := Lib.hid (show ∀ w', Below W.heap.size W w' → (fun w' => Below W.heap.size W w' ∧ w'.cell? ⟨w.heap.size, 3, none⟩ = some (.slice (some ⟨q1, o1, none⟩) t.ws.l.length t.ws.c) ∧ w'.cell? ⟨w.heap.size + 1, 0, none⟩ = some (.int .i64 p.way) ∧ w'.cell? ⟨w.heap.size + 1, 1, none⟩ = some (.slice p.ts.A p.ts.l.length p.ts.c) ∧ w'.cell? ⟨q1, o1 + p.way.toNat * 3 + 2, none⟩ = some (.slice x.legs.A x.legs.l.length x.legs.c)) w' from fun w' h => ⟨h, (by have q := (HB.out.ext h).c 3 _ rfl; rw [HA.out] at q; exact q), (HPB.out.ext h).c 0 _ rfl, (HPB.out.ext h).c 1 _ rfl, (h.cell (p := ⟨q1, o1 + p.way.toNat * 3 + 2, none⟩) hb1).trans d2⟩)
  refine rgB 26 SS (ext_drew (ext_refl _)) (fun Q7 hQ7 hN7 hHeld => ?_)
  refine rgT 0 (some 7) hQ7 hHeld ?_; refine rgT 1 (some 8) hQ7 hHeld ?_; refine rgT 2 (some 9) hQ7 hHeld ?_; refine rgT 3 (some 10) hQ7 hHeld ?_; refine rgT 4 (some 11) hQ7 hHeld ?_; refine rgT 5 (some 12) hQ7 hHeld ?_; refine rgT 6 (some 13) hQ7 hHeld ?_; refine rgT 7 (some 14) hQ7 hHeld ?_; refine rgT 8 (some 15) hQ7 hHeld ?_; refine rgT 9 (some 16) hQ7 hHeld ?_; refine rgT 10 (some 17) hQ7 hHeld ?_
  refine rgT 11 (some 18) hQ7 hHeld ?_; refine rgT 12 (some 19) hQ7 hHeld ?_; refine rgT 13 (some 20) hQ7 hHeld ?_; refine rgT 14 (some 21) hQ7 hHeld ?_; refine rgT 15 (some 22) hQ7 hHeld ?_; refine rgT 16 (some 23) hQ7 hHeld ?_; refine rgT 17 (some 24) hQ7 hHeld ?_; refine rgT 18 (some 25) hQ7 hHeld ?_; refine rgT 19 (some 26) hQ7 hHeld ?_; refine rgT 20 (some 27) hQ7 hHeld ?_; refine rgT 21 (some 28) hQ7 hHeld ?_
  refine rgT 22 (some 29) hQ7 hHeld ?_; refine rgT 23 (some 30) hQ7 hHeld ?_; refine rgT 24 (some 31) hQ7 hHeld ?_; refine rgT 25 (some 32) hQ7 hHeld ?_
  refine rg_end (by kernel_rfl) (hN7 _ _ ?_) _
  clear hQ7 hN7 Q7
  have BX := hHeld.1
  clear SS
  go_wp2_with fail
  go_ret
  have hF := HF.out
  rw [HX.out] at hF
  rw [← hF]
  exact ⟨rfl, ext_trans HW.out BX⟩
 have e3 : ((p.ts.l.length : Int) != (x.legs.l.length : Int) + 1) = false := bne_eq_false_iff_eq.2 (by omega)
 have HZ : Hid (E = risB 65536 (-1) p.ts.l) := by rw [← HE.out, HD.out, HL.out, decide_eq_true hw0, decide_eq_true hw1, decide_eq_true h3]; rfl
 have h3l : p.ts.l.length ≤ 9 := by omega
 clear h3 HD HL
 have SS := Lib.hid (show ∀ w', Below W.heap.size W w' → (fun w' => Below W.heap.size W w' ∧ w'.cell? ⟨w.heap.size, 3, none⟩ = some (.slice (some ⟨q1, o1, none⟩) t.ws.l.length t.ws.c) ∧ w'.cell? ⟨w.heap.size + 1, 0, none⟩ = some (.int .i64 p.way) ∧ w'.cell? ⟨w.heap.size + 1, 1, none⟩ = some (.slice p.ts.A p.ts.l.length p.ts.c) ∧ w'.cell? ⟨q1, o1 + p.way.toNat * 3 + 2, none⟩ = some (.slice x.legs.A x.legs.l.length x.legs.c)) w' from fun w' h => ⟨h, (by have q := (HB.out.ext h).c 3 _ rfl; rw [HA.out] at q; exact q), (HPB.out.ext h).c 0 _ rfl, (HPB.out.ext h).c 1 _ rfl, (h.cell (p := ⟨q1, o1 + p.way.toNat * 3 + 2, none⟩) hb1).trans d2⟩)
 refine rgB 26 SS (ext_drew (ext_refl _)) (fun Q7 hQ7 hN7 hHeld => ?_)
 refine rgT 0 (some 7) hQ7 hHeld ?_; refine rgT 1 (some 8) hQ7 hHeld ?_; refine rgT 2 (some 9) hQ7 hHeld ?_; refine rgT 3 (some 10) hQ7 hHeld ?_; refine rgT 4 (some 11) hQ7 hHeld ?_; refine rgT 5 (some 12) hQ7 hHeld ?_; refine rgT 6 (some 13) hQ7 hHeld ?_; refine rgT 7 (some 14) hQ7 hHeld ?_; refine rgT 8 (some 15) hQ7 hHeld ?_; refine rgT 9 (some 16) hQ7 hHeld ?_; refine rgT 10 (some 17) hQ7 hHeld ?_
 refine rgT 11 (some 18) hQ7 hHeld ?_; refine rgT 12 (some 19) hQ7 hHeld ?_; refine rgT 13 (some 20) hQ7 hHeld ?_; refine rgT 14 (some 21) hQ7 hHeld ?_; refine rgT 15 (some 22) hQ7 hHeld ?_; refine rgT 16 (some 23) hQ7 hHeld ?_; refine rgT 17 (some 24) hQ7 hHeld ?_; refine rgT 18 (some 25) hQ7 hHeld ?_; refine rgT 19 (some 26) hQ7 hHeld ?_; refine rgT 20 (some 27) hQ7 hHeld ?_; refine rgT 21 (some 28) hQ7 hHeld ?_
 refine rgT 22 (some 29) hQ7 hHeld ?_; refine rgT 23 (some 30) hQ7 hHeld ?_; refine rgT 24 (some 31) hQ7 hHeld ?_; refine rgT 25 (some 32) hQ7 hHeld ?_
 refine rg_end (by kernel_rfl) (hN7 _ _ ?_) _
 clear hQ7 hN7 Q7
 have BX := hHeld.1
 clear SS
 obtain ⟨u, hu⟩ : ∃ z, z = W.drew := ⟨_, rfl⟩
 rw [← hu] at BX ⊢
 clear hu
 have HU := Lib.hid BX
 have c1 := (HPB.out.ext HU.out).c 1 _ rfl
 have cl := (HPB.out.ext HU.out).lt
 clear BX d2 bt bl
 go_wp2_with fail
 clear c1 cl e1 e2 e3
 go_loopw [36] (fun i wr => ∃ (k : Nat) (last : Int), k ≤ p.ts.l.length ∧ i = .int .i64 k ∧ Hid (Prv p.ts.l k last) ∧ Hid (E = risB 65536 last (p.ts.l.drop k)) ∧ Hid (Below W.heap.size W wr)) (fun i _ => p.ts.l.length - (intOf i).toNat)
 case atStart => exact ⟨0, -1, Nat.zero_le _, rfl, ⟨by omega, fun _ => rfl, fun j h => by omega⟩, HZ.out, HU.out⟩
 case round =>
  obtain ⟨k, last, hk, rfl, HP, HQ, HR⟩ := hrel
  have c1 := (HPB.out.ext HR.out).c 1 _ rfl
  have cl := (HPB.out.ext HR.out).lt
  by_cases hlt : k < p.ts.l.length
  ·have hlt' : (k : Int) < p.ts.l.length := by omega
   obtain ⟨v, q2, o2, hv, hA2, hb2, hc2⟩ := (HPO.out.slc.ext HR.out).at_ hlt
   have HV := Lib.hid hv
   have f0 := hc2 0 _ rfl
   simp only [Nat.mul_one, Nat.add_zero] at f0
   rw [hA2]
   rw [hA2] at c1
   have HA2 := Lib.hid hA2
   have hlo := HP.out.lo
   clear hc2 hv hA2
   by_cases g1 : v < 0
   ·have e4 : decide (v < 0) = true := decide_eq_true g1
    have HX : Hid (E = false) := HQ.out.trans (risB_no HV.out (by simp; omega))
    clear g1
    go_wp2_with fail
    go_ret
    have hF := HF.out
    rw [HX.out] at hF
    rw [← hF]
    exact ⟨rfl, ext_trans HW.out HR.out⟩
   have e4 : decide (v < 0) = false := decide_eq_false g1
   by_cases g2 : 65535 < v
   ·have e5 : decide (v > 65535) = true := decide_eq_true g2
    have HX : Hid (E = false) := HQ.out.trans (risB_no HV.out (by simp; omega))
    clear g2
    go_wp2_with fail
    go_ret
    have hF := HF.out
    rw [HX.out] at hF
    rw [← hF]
    exact ⟨rfl, ext_trans HW.out HR.out⟩
   have e5 : decide (v > 65535) = false := decide_eq_false g2
   have v0 : 0 ≤ v := by omega
   by_cases hk0 : k = 0
   ·have hl0 := HP.out.zero hk0
    have HN := Lib.hid (HQ.out.trans (risB_step HV.out (by rw [hl0]; simp; omega)))
    have HP2 : Hid (Prv p.ts.l (k + 1) v) := Prv.next v0 HV.out
    subst hk0
    simp only [Nat.zero_add, Nat.add_zero] at f0
    clear hl0
    go_wp2_with fail
    try rw [← HA2.out]
    first | exact ⟨⟨0 + 1, v, by omega, by go_num, HP2.out, HN.out, HR.out⟩, by simp [intOf] <;> omega⟩ | (go_roundw; all_goals first | exact ⟨0 + 1, v, by omega, by go_num, HP2.out, HN.out, HR.out⟩ | (simp [intOf] <;> omega))
   ·have hk2 : 0 < k := by omega
    obtain ⟨j, hj⟩ : ∃ j, k = j + 1 := ⟨k - 1, by omega⟩
    have HPV := Lib.hid (HP.out.prev j hj)
    obtain ⟨y, q3, o3, hy, hA3, hb3, hc3⟩ := (HPO.out.slc.ext HR.out).at_ (k := j) (by omega)
    have hyl : y = last := Option.some.inj (hy.symm.trans HPV.out)
    subst hyl
    rw [HA2.out] at hA3
    cases hA3
    have g0 := hc3 0 _ rfl
    simp only [Nat.mul_one, Nat.add_zero] at g0
    have hw2 : IntKind.i64.wrap ((k : Int) - 1) = (j : Int) := by rw [IntWalk.i64_in _ (by omega)]; omega
    have hj1 : (j : Int) < p.ts.l.length := by omega
    clear hy hc3 hj hk0
    by_cases hg : y ≥ v
    ·have e6 : decide (v ≤ y) = true := decide_eq_true hg
     have HX : Hid (E = false) := HQ.out.trans (risB_no HV.out (by simp; omega))
     clear hg
     go_wp2_with fail
     go_ret
     have hF := HF.out
     rw [HX.out] at hF
     rw [← hF]
     exact ⟨rfl, ext_trans HW.out HR.out⟩
    ·have e6 : decide (v ≤ y) = false := decide_eq_false hg
     have HN := Lib.hid (HQ.out.trans (risB_step HV.out (by simp; omega)))
     have HP2 : Hid (Prv p.ts.l (k + 1) v) := Prv.next v0 HV.out
     clear hg
     go_wp2_with fail
     try rw [← HA2.out]
     first | exact ⟨⟨k + 1, v, by omega, by go_num, HP2.out, HN.out, HR.out⟩, by simp [intOf] <;> omega⟩ | (go_roundw; all_goals first | exact ⟨k + 1, v, by omega, by go_num, HP2.out, HN.out, HR.out⟩ | (simp [intOf] <;> omega))
  ·have hlt' : decide ((k : Int) < p.ts.l.length) = false := decide_eq_false (by omega)
   have hd : p.ts.l.drop k = [] := List.drop_eq_nil_of_le (by omega)
   rw [hd] at HQ
   have HX : Hid (E = true) := HQ.out
   clear hd
   go_wp2_with fail
   go_ret
   have hF := HF.out
   rw [HX.out] at hF
   rw [← hF]
   exact ⟨rfl, ext_trans HW.out HR.out⟩
theorem path_at {t : Tab} {p : Pth} {w : World} (r : Int) (hr : pathE t p = r) (ht : Tab.ok w t) (hp : Pth.ok w p) (hleg : ∀ x ∈ t.ws.l, x.legs.l.length ≤ 8) : Calls Tryz.prog 55 #[t.v, p.v] w (RetE w r) := by
 subst hr; exact path_any t p w ht hp hleg
set_option maxRecDepth 100000 in
set_option maxHeartbeats 16000000 in
theorem rpath_any (t : Tab) (p : Pth) (w : World) (ht : Tab.ok w t) (hp : Pth.ok w p) (hleg : ∀ x ∈ t.ws.l, x.legs.l.length ≤ 8) : Calls Tryz.prog 73 #[t.v, p.v] w (RetB w (pathB t p)) := by
 obtain ⟨E, hE⟩ : ∃ q, pathB t p = q := ⟨_, rfl⟩
 have HD : Hid (pathB t p = (decide (0 ≤ p.way) && decide (p.way < t.ws.l.length) && decide (p.ts.l.length = ((t.ws.l[p.way.toNat]?).map (fun x => x.legs.l.length + 1)).getD 0) && risB 65536 (-1) p.ts.l)) := rfl
 rw [hE]
 have HE := Lib.hid hE
 clear hE
 obtain ⟨W, hW⟩ : ∃ W, (w.alloc (.cells #[.int .i64 t.n, .slice t.ss.A t.ss.l.length t.ss.c, .slice t.cs.A t.cs.l.length t.cs.c, .slice t.ws.A t.ws.l.length t.ws.c, .slice t.ms.A t.ms.l.length t.ms.c, .slice t.ks.A t.ks.l.length t.ks.c] 28)).alloc (.cells #[.int .i64 p.way, .slice p.ts.A p.ts.l.length p.ts.c] 71) = W := ⟨_, rfl⟩
 have HB : Hid (Blk W w.heap.size t.cells) := by rw [← hW]; exact (Blk.newH w t.cells 28 w.heap.size rfl).alloc _
 have HPB : Hid (Blk W (w.heap.size + 1) p.cells) := by rw [← hW]; exact Blk.newH (w.alloc _) p.cells 71 (w.heap.size + 1) (by simp)
 have HW : Hid (Below w.heap.size w W) := by rw [← hW]; exact ext_alloc (ext_alloc (ext_refl w) _) _
 have HT := Lib.hid (ht.ext HW.out)
 have HPO : Hid (SliceOf.ok ic 1 (fun _ n => (Lit.int .i64 n).wf = true) W p.ts) := ints.ext (show SliceOf.ok ic 1 (fun _ n => (Lit.int .i64 n).wf = true) w p.ts from hp) HW.out
 have hpl := HPO.out.len
 have hwl := HT.out.2.2.1.len
 have HLEG := Lib.hid hleg
 unfold maxLen at hpl hwl
 have b0 := HB.out.c 0 _ rfl
 have bt := HB.out.lt
 have bl := HPB.out.lt
 clear ht hp hleg b0
 go_enter Tryz.func73, Tryz.ntmps73
 go_wp2_with fail
 clear hW
 by_cases h1 : p.way < 0
 ·have e1 : decide (p.way < 0) = true := decide_eq_true h1
  have HX : Hid (E = false) := by rw [← HE.out, HD.out, decide_eq_false (show ¬ 0 ≤ p.way by omega)]; rfl
  clear h1
  have SS := Lib.hid (show ∀ w', Below W.heap.size W w' → (fun w' => Below W.heap.size W w' ∧ w'.cell? ⟨w.heap.size + 1, 0, none⟩ = some (.int .i64 p.way)) w' from fun w' h => ⟨h, (HPB.out.ext h).c 0 _ rfl⟩)
  refine rgB 26 SS (ext_drew (ext_refl _)) (fun Q7 hQ7 hN7 hHeld => ?_)
  refine rgT 0 (some 6) hQ7 hHeld ?_; refine rgT 1 (some 7) hQ7 hHeld ?_; refine rgT 2 (some 8) hQ7 hHeld ?_; refine rgT 3 (some 9) hQ7 hHeld ?_; refine rgS 4 (some 10) hQ7 hHeld ?_; refine rgS 5 (some 11) hQ7 hHeld ?_; refine rgS 6 (some 12) hQ7 hHeld ?_; refine rgS 7 (some 13) hQ7 hHeld ?_; refine rgS 8 (some 14) hQ7 hHeld ?_; refine rgS 9 (some 15) hQ7 hHeld ?_; refine rgT 10 (some 16) hQ7 hHeld ?_
  refine rgT 11 (some 17) hQ7 hHeld ?_; refine rgS 12 (some 18) hQ7 hHeld ?_; refine rgS 13 (some 19) hQ7 hHeld ?_; refine rgS 14 (some 20) hQ7 hHeld ?_; refine rgS 15 (some 21) hQ7 hHeld ?_; refine rgS 16 (some 22) hQ7 hHeld ?_; refine rgS 17 (some 23) hQ7 hHeld ?_; refine rgS 18 (some 24) hQ7 hHeld ?_; refine rgS 19 (some 25) hQ7 hHeld ?_; refine rgS 20 (some 26) hQ7 hHeld ?_; refine rgS 21 (some 27) hQ7 hHeld ?_
  refine rgS 22 (some 28) hQ7 hHeld ?_; refine rgS 23 (some 29) hQ7 hHeld ?_; refine rgS 24 (some 30) hQ7 hHeld ?_; refine rgT 25 (some 31) hQ7 hHeld ?_
  refine rg_end (by kernel_rfl) (hN7 _ _ ?_) _
  clear hQ7 hN7 Q7
  have BX := hHeld.1
  clear SS
  go_wp2_with fail
  go_ret
  rw [HX.out]
  exact ⟨rfl, ext_trans HW.out BX⟩
 have e1 : decide (p.way < 0) = false := decide_eq_false h1
 by_cases h2 : (t.ws.l.length : Int) ≤ p.way
 ·have e2 : decide (p.way ≥ (t.ws.l.length : Int)) = true := decide_eq_true h2
  have HX : Hid (E = false) := by rw [← HE.out, HD.out, decide_eq_false (show ¬ p.way < (t.ws.l.length : Int) by omega), Bool.and_false]; rfl
  clear h1
  have SS := Lib.hid (show ∀ w', Below W.heap.size W w' → (fun w' => Below W.heap.size W w' ∧ w'.cell? ⟨w.heap.size, 3, none⟩ = some (.slice t.ws.A t.ws.l.length t.ws.c) ∧ w'.cell? ⟨w.heap.size + 1, 0, none⟩ = some (.int .i64 p.way)) w' from fun w' h => ⟨h, (HB.out.ext h).c 3 _ rfl, (HPB.out.ext h).c 0 _ rfl⟩)
  refine rgB 26 SS (ext_drew (ext_refl _)) (fun Q7 hQ7 hN7 hHeld => ?_)
  refine rgT 0 (some 6) hQ7 hHeld ?_; refine rgT 1 (some 7) hQ7 hHeld ?_; refine rgT 2 (some 8) hQ7 hHeld ?_; refine rgT 3 (some 9) hQ7 hHeld ?_; refine rgT 4 (some 10) hQ7 hHeld ?_; refine rgT 5 (some 11) hQ7 hHeld ?_; refine rgT 6 (some 12) hQ7 hHeld ?_; refine rgT 7 (some 13) hQ7 hHeld ?_; refine rgT 8 (some 14) hQ7 hHeld ?_; refine rgT 9 (some 15) hQ7 hHeld ?_; refine rgT 10 (some 16) hQ7 hHeld ?_
  refine rgT 11 (some 17) hQ7 hHeld ?_; refine rgS 12 (some 18) hQ7 hHeld ?_; refine rgS 13 (some 19) hQ7 hHeld ?_; refine rgS 14 (some 20) hQ7 hHeld ?_; refine rgS 15 (some 21) hQ7 hHeld ?_; refine rgS 16 (some 22) hQ7 hHeld ?_; refine rgS 17 (some 23) hQ7 hHeld ?_; refine rgS 18 (some 24) hQ7 hHeld ?_; refine rgS 19 (some 25) hQ7 hHeld ?_; refine rgS 20 (some 26) hQ7 hHeld ?_; refine rgS 21 (some 27) hQ7 hHeld ?_
  refine rgS 22 (some 28) hQ7 hHeld ?_; refine rgS 23 (some 29) hQ7 hHeld ?_; refine rgS 24 (some 30) hQ7 hHeld ?_; refine rgT 25 (some 31) hQ7 hHeld ?_
  refine rg_end (by kernel_rfl) (hN7 _ _ ?_) _
  clear hQ7 hN7 Q7
  have BX := hHeld.1
  clear SS
  go_wp2_with fail
  go_ret
  rw [HX.out]
  exact ⟨rfl, ext_trans HW.out BX⟩
 have e2 : decide (p.way ≥ (t.ws.l.length : Int)) = false := decide_eq_false h2
 have hw0 : 0 ≤ p.way := by omega
 have hw1 : p.way < (t.ws.l.length : Int) := by omega
 obtain ⟨x, q1, o1, hx, hA, hb1, hc⟩ := HT.out.2.2.1.slc.at_ (k := p.way.toNat) (by omega)
 have hx8 := HLEG.out x (List.mem_of_getElem? hx)
 have d2 := hc 2 _ rfl
 have HA := Lib.hid hA
 have HL : Hid (((t.ws.l[p.way.toNat]?).map (fun x => x.legs.l.length + 1)).getD 0 = x.legs.l.length + 1) := by rw [Hid, hx]; rfl
 clear hc hx hA h1 h2
 have hwx : IntKind.i64.wrap ((x.legs.l.length : Int) + 1) = (x.legs.l.length : Int) + 1 := IntWalk.i64_in _ (by omega)
 by_cases h3 : p.ts.l.length = x.legs.l.length + 1
 rotate_left
 ·have e3 : ((p.ts.l.length : Int) != (x.legs.l.length : Int) + 1) = true := bne_iff_ne.2 (by omega)
  have HX : Hid (E = false) := by rw [← HE.out, HD.out, HL.out, decide_eq_false h3, Bool.and_false]; rfl
  clear h3
  have SS := Lib.hid (show ∀ w', Below W.heap.size W w' → (fun w' => Below W.heap.size W w' ∧ w'.cell? ⟨w.heap.size, 3, none⟩ = some (.slice (some ⟨q1, o1, none⟩) t.ws.l.length t.ws.c) ∧ w'.cell? ⟨w.heap.size + 1, 0, none⟩ = some (.int .i64 p.way) ∧ w'.cell? ⟨w.heap.size + 1, 1, none⟩ = some (.slice p.ts.A p.ts.l.length p.ts.c) ∧ w'.cell? ⟨q1, o1 + p.way.toNat * 3 + 2, none⟩ = some (.slice x.legs.A x.legs.l.length x.legs.c)) w' from fun w' h => ⟨h, (by have q := (HB.out.ext h).c 3 _ rfl; rw [HA.out] at q; exact q), (HPB.out.ext h).c 0 _ rfl, (HPB.out.ext h).c 1 _ rfl, (h.cell (p := ⟨q1, o1 + p.way.toNat * 3 + 2, none⟩) hb1).trans d2⟩)
  refine rgB 26 SS (ext_drew (ext_refl _)) (fun Q7 hQ7 hN7 hHeld => ?_)
  refine rgT 0 (some 6) hQ7 hHeld ?_; refine rgT 1 (some 7) hQ7 hHeld ?_; refine rgT 2 (some 8) hQ7 hHeld ?_; refine rgT 3 (some 9) hQ7 hHeld ?_; refine rgT 4 (some 10) hQ7 hHeld ?_; refine rgT 5 (some 11) hQ7 hHeld ?_; refine rgT 6 (some 12) hQ7 hHeld ?_; refine rgT 7 (some 13) hQ7 hHeld ?_; refine rgT 8 (some 14) hQ7 hHeld ?_; refine rgT 9 (some 15) hQ7 hHeld ?_; refine rgT 10 (some 16) hQ7 hHeld ?_
  refine rgT 11 (some 17) hQ7 hHeld ?_; refine rgT 12 (some 18) hQ7 hHeld ?_; refine rgT 13 (some 19) hQ7 hHeld ?_; refine rgT 14 (some 20) hQ7 hHeld ?_; refine rgT 15 (some 21) hQ7 hHeld ?_; refine rgT 16 (some 22) hQ7 hHeld ?_; refine rgT 17 (some 23) hQ7 hHeld ?_; refine rgT 18 (some 24) hQ7 hHeld ?_; refine rgT 19 (some 25) hQ7 hHeld ?_; refine rgT 20 (some 26) hQ7 hHeld ?_; refine rgT 21 (some 27) hQ7 hHeld ?_
  refine rgT 22 (some 28) hQ7 hHeld ?_; refine rgT 23 (some 29) hQ7 hHeld ?_; refine rgT 24 (some 30) hQ7 hHeld ?_; refine rgT 25 (some 31) hQ7 hHeld ?_
  refine rg_end (by kernel_rfl) (hN7 _ _ ?_) _
  clear hQ7 hN7 Q7
  have BX := hHeld.1
  clear SS
  go_wp2_with fail
  go_ret
  rw [HX.out]
  exact ⟨rfl, ext_trans HW.out BX⟩
 have e3 : ((p.ts.l.length : Int) != (x.legs.l.length : Int) + 1) = false := bne_eq_false_iff_eq.2 (by omega)
 have HZ : Hid (E = risB 65536 (-1) p.ts.l) := by rw [← HE.out, HD.out, HL.out, decide_eq_true hw0, decide_eq_true hw1, decide_eq_true h3]; rfl
 have h3l : p.ts.l.length ≤ 9 := by omega
 clear h3 HD HL
 have SS := Lib.hid (show ∀ w', Below W.heap.size W w' → (fun w' => Below W.heap.size W w' ∧ w'.cell? ⟨w.heap.size, 3, none⟩ = some (.slice (some ⟨q1, o1, none⟩) t.ws.l.length t.ws.c) ∧ w'.cell? ⟨w.heap.size + 1, 0, none⟩ = some (.int .i64 p.way) ∧ w'.cell? ⟨w.heap.size + 1, 1, none⟩ = some (.slice p.ts.A p.ts.l.length p.ts.c) ∧ w'.cell? ⟨q1, o1 + p.way.toNat * 3 + 2, none⟩ = some (.slice x.legs.A x.legs.l.length x.legs.c)) w' from fun w' h => ⟨h, (by have q := (HB.out.ext h).c 3 _ rfl; rw [HA.out] at q; exact q), (HPB.out.ext h).c 0 _ rfl, (HPB.out.ext h).c 1 _ rfl, (h.cell (p := ⟨q1, o1 + p.way.toNat * 3 + 2, none⟩) hb1).trans d2⟩)
 refine rgB 26 SS (ext_drew (ext_refl _)) (fun Q7 hQ7 hN7 hHeld => ?_)
 refine rgT 0 (some 6) hQ7 hHeld ?_; refine rgT 1 (some 7) hQ7 hHeld ?_; refine rgT 2 (some 8) hQ7 hHeld ?_; refine rgT 3 (some 9) hQ7 hHeld ?_; refine rgT 4 (some 10) hQ7 hHeld ?_; refine rgT 5 (some 11) hQ7 hHeld ?_; refine rgT 6 (some 12) hQ7 hHeld ?_; refine rgT 7 (some 13) hQ7 hHeld ?_; refine rgT 8 (some 14) hQ7 hHeld ?_; refine rgT 9 (some 15) hQ7 hHeld ?_; refine rgT 10 (some 16) hQ7 hHeld ?_
 refine rgT 11 (some 17) hQ7 hHeld ?_; refine rgT 12 (some 18) hQ7 hHeld ?_; refine rgT 13 (some 19) hQ7 hHeld ?_; refine rgT 14 (some 20) hQ7 hHeld ?_; refine rgT 15 (some 21) hQ7 hHeld ?_; refine rgT 16 (some 22) hQ7 hHeld ?_; refine rgT 17 (some 23) hQ7 hHeld ?_; refine rgT 18 (some 24) hQ7 hHeld ?_; refine rgT 19 (some 25) hQ7 hHeld ?_; refine rgT 20 (some 26) hQ7 hHeld ?_; refine rgT 21 (some 27) hQ7 hHeld ?_
 refine rgT 22 (some 28) hQ7 hHeld ?_; refine rgT 23 (some 29) hQ7 hHeld ?_; refine rgT 24 (some 30) hQ7 hHeld ?_; refine rgT 25 (some 31) hQ7 hHeld ?_
 refine rg_end (by kernel_rfl) (hN7 _ _ ?_) _
 clear hQ7 hN7 Q7
 have BX := hHeld.1
 clear SS
 obtain ⟨u, hu⟩ : ∃ z, z = W.drew := ⟨_, rfl⟩
 rw [← hu] at BX ⊢
 clear hu
 have HU := Lib.hid BX
 have c1 := (HPB.out.ext HU.out).c 1 _ rfl
 have cl := (HPB.out.ext HU.out).lt
 clear BX d2 bt bl
 go_wp2_with fail
 clear c1 cl e1 e2 e3
 go_loopw [5] (fun i wr => ∃ (k : Nat) (last : Int), k ≤ p.ts.l.length ∧ i = .int .i64 k ∧ Hid (Prv p.ts.l k last) ∧ Hid (E = risB 65536 last (p.ts.l.drop k)) ∧ Hid (Below W.heap.size W wr)) (fun i _ => p.ts.l.length - (intOf i).toNat)
 case atStart => exact ⟨0, -1, Nat.zero_le _, rfl, ⟨by omega, fun _ => rfl, fun j h => by omega⟩, HZ.out, HU.out⟩
 case round =>
  obtain ⟨k, last, hk, rfl, HP, HQ, HR⟩ := hrel
  have c1 := (HPB.out.ext HR.out).c 1 _ rfl
  have cl := (HPB.out.ext HR.out).lt
  by_cases hlt : k < p.ts.l.length
  ·have hlt' : (k : Int) < p.ts.l.length := by omega
   obtain ⟨v, q2, o2, hv, hA2, hb2, hc2⟩ := (HPO.out.slc.ext HR.out).at_ hlt
   have HV := Lib.hid hv
   have f0 := hc2 0 _ rfl
   simp only [Nat.mul_one, Nat.add_zero] at f0
   rw [hA2] at c1
   have HA2 := Lib.hid hA2
   have hlo := HP.out.lo
   clear hc2 hv hA2
   by_cases g1 : v < 0
   ·have e4 : decide (v < 0) = true := decide_eq_true g1
    have HX : Hid (E = false) := HQ.out.trans (risB_no HV.out (by simp; omega))
    clear g1
    go_wp2_with fail
    have SS := Lib.hid (show ∀ w', Below wr.heap.size wr w' → (fun w' => Below wr.heap.size wr w' ∧ w'.cell? ⟨w.heap.size + 1, 1, none⟩ = some (.slice (some ⟨q2, o2, none⟩) p.ts.l.length p.ts.c) ∧ w'.cell? ⟨q2, o2 + k, none⟩ = some (.int .i64 v)) w' from fun w' h => ⟨h, (by have q := ((HPB.out.ext HR.out).ext h).c 1 _ rfl; rw [HA2.out] at q; exact q), (h.cell (p := ⟨q2, o2 + k, none⟩) hb2).trans f0⟩)
    refine rgB 32 SS (ext_drew (ext_refl _)) (fun Q7 hQ7 hN7 hHeld => ?_)
    refine rgT 0 (some 39) hQ7 hHeld ?_; refine rgT 1 (some 40) hQ7 hHeld ?_; refine rgT 2 (some 41) hQ7 hHeld ?_; refine rgT 3 (some 42) hQ7 hHeld ?_; refine rgT 4 (some 43) hQ7 hHeld ?_; refine rgT 5 (some 44) hQ7 hHeld ?_; refine rgT 6 (some 45) hQ7 hHeld ?_; refine rgS 7 (some 46) hQ7 hHeld ?_; refine rgS 8 (some 47) hQ7 hHeld ?_; refine rgS 9 (some 48) hQ7 hHeld ?_; refine rgS 10 (some 49) hQ7 hHeld ?_
    refine rgS 11 (some 50) hQ7 hHeld ?_; refine rgS 12 (some 51) hQ7 hHeld ?_; refine rgT 13 (some 52) hQ7 hHeld ?_; refine rgT 14 (some 53) hQ7 hHeld ?_; refine rgS 15 (some 54) hQ7 hHeld ?_; refine rgS 16 (some 55) hQ7 hHeld ?_; refine rgS 17 (some 56) hQ7 hHeld ?_; refine rgS 18 (some 57) hQ7 hHeld ?_; refine rgS 19 (some 58) hQ7 hHeld ?_; refine rgS 20 (some 59) hQ7 hHeld ?_; refine rgS 21 (some 60) hQ7 hHeld ?_
    refine rgS 22 (some 61) hQ7 hHeld ?_; refine rgS 23 (some 62) hQ7 hHeld ?_; refine rgS 24 (some 63) hQ7 hHeld ?_; refine rgS 25 (some 64) hQ7 hHeld ?_; refine rgS 26 (some 65) hQ7 hHeld ?_; refine rgS 27 (some 66) hQ7 hHeld ?_; refine rgS 28 (some 67) hQ7 hHeld ?_; refine rgS 29 (some 68) hQ7 hHeld ?_; refine rgS 30 (some 69) hQ7 hHeld ?_; refine rgT 31 (some 70) hQ7 hHeld ?_
    refine rg_end (by kernel_rfl) (hN7 _ _ ?_) _
    clear hQ7 hN7 Q7
    have BX := hHeld.1
    clear SS
    have HR1 := Lib.hid (ext_trans HR.out BX)
    clear BX
    go_wp2_with fail
    go_ret
    rw [HX.out]
    exact ⟨rfl, ext_trans HW.out HR1.out⟩
   have e4 : decide (v < 0) = false := decide_eq_false g1
   by_cases g2 : 65535 < v
   ·have e5 : decide (v > 65535) = true := decide_eq_true g2
    have HX : Hid (E = false) := HQ.out.trans (risB_no HV.out (by simp; omega))
    clear g2
    go_wp2_with fail
    have SS := Lib.hid (show ∀ w', Below wr.heap.size wr w' → (fun w' => Below wr.heap.size wr w' ∧ w'.cell? ⟨w.heap.size + 1, 1, none⟩ = some (.slice (some ⟨q2, o2, none⟩) p.ts.l.length p.ts.c) ∧ w'.cell? ⟨q2, o2 + k, none⟩ = some (.int .i64 v)) w' from fun w' h => ⟨h, (by have q := ((HPB.out.ext HR.out).ext h).c 1 _ rfl; rw [HA2.out] at q; exact q), (h.cell (p := ⟨q2, o2 + k, none⟩) hb2).trans f0⟩)
    refine rgB 32 SS (ext_drew (ext_refl _)) (fun Q7 hQ7 hN7 hHeld => ?_)
    refine rgT 0 (some 39) hQ7 hHeld ?_; refine rgT 1 (some 40) hQ7 hHeld ?_; refine rgT 2 (some 41) hQ7 hHeld ?_; refine rgT 3 (some 42) hQ7 hHeld ?_; refine rgT 4 (some 43) hQ7 hHeld ?_; refine rgT 5 (some 44) hQ7 hHeld ?_; refine rgT 6 (some 45) hQ7 hHeld ?_; refine rgT 7 (some 46) hQ7 hHeld ?_; refine rgT 8 (some 47) hQ7 hHeld ?_; refine rgT 9 (some 48) hQ7 hHeld ?_; refine rgT 10 (some 49) hQ7 hHeld ?_
    refine rgT 11 (some 50) hQ7 hHeld ?_; refine rgT 12 (some 51) hQ7 hHeld ?_; refine rgT 13 (some 52) hQ7 hHeld ?_; refine rgT 14 (some 53) hQ7 hHeld ?_; refine rgS 15 (some 54) hQ7 hHeld ?_; refine rgS 16 (some 55) hQ7 hHeld ?_; refine rgS 17 (some 56) hQ7 hHeld ?_; refine rgS 18 (some 57) hQ7 hHeld ?_; refine rgS 19 (some 58) hQ7 hHeld ?_; refine rgS 20 (some 59) hQ7 hHeld ?_; refine rgS 21 (some 60) hQ7 hHeld ?_
    refine rgS 22 (some 61) hQ7 hHeld ?_; refine rgS 23 (some 62) hQ7 hHeld ?_; refine rgS 24 (some 63) hQ7 hHeld ?_; refine rgS 25 (some 64) hQ7 hHeld ?_; refine rgS 26 (some 65) hQ7 hHeld ?_; refine rgS 27 (some 66) hQ7 hHeld ?_; refine rgS 28 (some 67) hQ7 hHeld ?_; refine rgS 29 (some 68) hQ7 hHeld ?_; refine rgS 30 (some 69) hQ7 hHeld ?_; refine rgT 31 (some 70) hQ7 hHeld ?_
    refine rg_end (by kernel_rfl) (hN7 _ _ ?_) _
    clear hQ7 hN7 Q7
    have BX := hHeld.1
    clear SS
    have HR1 := Lib.hid (ext_trans HR.out BX)
    clear BX
    go_wp2_with fail
    go_ret
    rw [HX.out]
    exact ⟨rfl, ext_trans HW.out HR1.out⟩
   have e5 : decide (v > 65535) = false := decide_eq_false g2
   have v0 : 0 ≤ v := by omega
   by_cases hk0 : k = 0
   ·have hl0 := HP.out.zero hk0
    have HN := Lib.hid (HQ.out.trans (risB_step HV.out (by rw [hl0]; simp; omega)))
    have HP2 : Hid (Prv p.ts.l (k + 1) v) := Prv.next v0 HV.out
    subst hk0
    simp only [Nat.zero_add, Nat.add_zero] at f0
    clear hl0
    go_wp2_with fail
    have SS := Lib.hid (show ∀ w', Below wr.heap.size wr w' → (fun w' => Below wr.heap.size wr w' ∧ w'.cell? ⟨w.heap.size + 1, 1, none⟩ = some (.slice (some ⟨q2, o2, none⟩) p.ts.l.length p.ts.c) ∧ w'.cell? ⟨q2, o2, none⟩ = some (.int .i64 v)) w' from fun w' h => ⟨h, (by have q := ((HPB.out.ext HR.out).ext h).c 1 _ rfl; rw [HA2.out] at q; exact q), (h.cell (p := ⟨q2, o2, none⟩) hb2).trans f0⟩)
    refine rgB 32 SS (ext_drew (ext_refl _)) (fun Q7 hQ7 hN7 hHeld => ?_)
    refine rgT 0 (some 39) hQ7 hHeld ?_; refine rgT 1 (some 40) hQ7 hHeld ?_; refine rgT 2 (some 41) hQ7 hHeld ?_; refine rgT 3 (some 42) hQ7 hHeld ?_; refine rgT 4 (some 43) hQ7 hHeld ?_; refine rgT 5 (some 44) hQ7 hHeld ?_; refine rgT 6 (some 45) hQ7 hHeld ?_; refine rgT 7 (some 46) hQ7 hHeld ?_; refine rgT 8 (some 47) hQ7 hHeld ?_; refine rgT 9 (some 48) hQ7 hHeld ?_; refine rgT 10 (some 49) hQ7 hHeld ?_
    refine rgT 11 (some 50) hQ7 hHeld ?_; refine rgT 12 (some 51) hQ7 hHeld ?_; refine rgT 13 (some 52) hQ7 hHeld ?_; refine rgT 14 (some 53) hQ7 hHeld ?_; refine rgT 15 (some 54) hQ7 hHeld ?_; refine rgT 16 (some 55) hQ7 hHeld ?_; refine rgT 17 (some 56) hQ7 hHeld ?_; refine rgS 18 (some 57) hQ7 hHeld ?_; refine rgS 19 (some 58) hQ7 hHeld ?_; refine rgS 20 (some 59) hQ7 hHeld ?_; refine rgS 21 (some 60) hQ7 hHeld ?_
    refine rgS 22 (some 61) hQ7 hHeld ?_; refine rgS 23 (some 62) hQ7 hHeld ?_; refine rgS 24 (some 63) hQ7 hHeld ?_; refine rgS 25 (some 64) hQ7 hHeld ?_; refine rgS 26 (some 65) hQ7 hHeld ?_; refine rgS 27 (some 66) hQ7 hHeld ?_; refine rgS 28 (some 67) hQ7 hHeld ?_; refine rgS 29 (some 68) hQ7 hHeld ?_; refine rgT 30 (some 69) hQ7 hHeld ?_; refine rgT 31 (some 70) hQ7 hHeld ?_
    refine rg_end (by kernel_rfl) (hN7 _ _ ?_) _
    clear hQ7 hN7 Q7
    have BX := hHeld.1
    clear SS
    have HR1 := Lib.hid (ext_trans HR.out BX)
    clear BX f0 c1 cl
    go_wp2_with fail
    first | exact ⟨⟨0 + 1, v, by omega, by go_num, HP2.out, HN.out, HR1.out⟩, by simp [intOf] <;> omega⟩ | (go_roundw; all_goals first | exact ⟨0 + 1, v, by omega, by go_num, HP2.out, HN.out, HR1.out⟩ | (simp [intOf] <;> omega))
   ·have hk2 : 0 < k := by omega
    obtain ⟨j, hj⟩ : ∃ j, k = j + 1 := ⟨k - 1, by omega⟩
    have HPV := Lib.hid (HP.out.prev j hj)
    obtain ⟨y, q3, o3, hy, hA3, hb3, hc3⟩ := (HPO.out.slc.ext HR.out).at_ (k := j) (by omega)
    have hyl : y = last := Option.some.inj (hy.symm.trans HPV.out)
    subst hyl
    rw [HA2.out] at hA3
    cases hA3
    have g0 := hc3 0 _ rfl
    simp only [Nat.mul_one, Nat.add_zero] at g0
    have hw2 : IntKind.i64.wrap ((k : Int) - 1) = (j : Int) := by rw [IntWalk.i64_in _ (by omega)]; omega
    have hj1 : (j : Int) < p.ts.l.length := by omega
    clear hy hc3 hj hk0
    by_cases hg : y ≥ v
    ·have e6 : decide (y ≥ v) = true := decide_eq_true hg
     have HX : Hid (E = false) := HQ.out.trans (risB_no HV.out (by simp; omega))
     clear hg
     go_wp2_with fail
     have SS := Lib.hid (show ∀ w', Below wr.heap.size wr w' → (fun w' => Below wr.heap.size wr w' ∧ w'.cell? ⟨w.heap.size + 1, 1, none⟩ = some (.slice (some ⟨q2, o2, none⟩) p.ts.l.length p.ts.c) ∧ w'.cell? ⟨q2, o2 + k, none⟩ = some (.int .i64 v) ∧ w'.cell? ⟨q2, o2 + j, none⟩ = some (.int .i64 y)) w' from fun w' h => ⟨h, (by have q := ((HPB.out.ext HR.out).ext h).c 1 _ rfl; rw [HA2.out] at q; exact q), (h.cell (p := ⟨q2, o2 + k, none⟩) hb2).trans f0, (h.cell (p := ⟨q2, o2 + j, none⟩) hb2).trans g0⟩)
     refine rgB 32 SS (ext_drew (ext_refl _)) (fun Q7 hQ7 hN7 hHeld => ?_)
     refine rgT 0 (some 39) hQ7 hHeld ?_; refine rgT 1 (some 40) hQ7 hHeld ?_; refine rgT 2 (some 41) hQ7 hHeld ?_; refine rgT 3 (some 42) hQ7 hHeld ?_; refine rgT 4 (some 43) hQ7 hHeld ?_; refine rgT 5 (some 44) hQ7 hHeld ?_; refine rgT 6 (some 45) hQ7 hHeld ?_; refine rgT 7 (some 46) hQ7 hHeld ?_; refine rgT 8 (some 47) hQ7 hHeld ?_; refine rgT 9 (some 48) hQ7 hHeld ?_; refine rgT 10 (some 49) hQ7 hHeld ?_
     refine rgT 11 (some 50) hQ7 hHeld ?_; refine rgT 12 (some 51) hQ7 hHeld ?_; refine rgT 13 (some 52) hQ7 hHeld ?_; refine rgT 14 (some 53) hQ7 hHeld ?_; refine rgT 15 (some 54) hQ7 hHeld ?_; refine rgT 16 (some 55) hQ7 hHeld ?_; refine rgT 17 (some 56) hQ7 hHeld ?_; refine rgT 18 (some 57) hQ7 hHeld ?_; refine rgT 19 (some 58) hQ7 hHeld ?_; refine rgT 20 (some 59) hQ7 hHeld ?_; refine rgT 21 (some 60) hQ7 hHeld ?_
     refine rgT 22 (some 61) hQ7 hHeld ?_; refine rgT 23 (some 62) hQ7 hHeld ?_; refine rgT 24 (some 63) hQ7 hHeld ?_; refine rgT 25 (some 64) hQ7 hHeld ?_; refine rgT 26 (some 65) hQ7 hHeld ?_; refine rgT 27 (some 66) hQ7 hHeld ?_; refine rgT 28 (some 67) hQ7 hHeld ?_; refine rgT 29 (some 68) hQ7 hHeld ?_; refine rgT 30 (some 69) hQ7 hHeld ?_; refine rgT 31 (some 70) hQ7 hHeld ?_
     refine rg_end (by kernel_rfl) (hN7 _ _ ?_) _
     clear hQ7 hN7 Q7
     have BX := hHeld.1
     clear SS
     have HR1 := Lib.hid (ext_trans HR.out BX)
     clear BX
     go_wp2_with fail
     go_ret
     rw [HX.out]
     exact ⟨rfl, ext_trans HW.out HR1.out⟩
    ·have e6 : decide (y ≥ v) = false := decide_eq_false hg
     have HN := Lib.hid (HQ.out.trans (risB_step HV.out (by simp; omega)))
     have HP2 : Hid (Prv p.ts.l (k + 1) v) := Prv.next v0 HV.out
     clear hg
     go_wp2_with fail
     have SS := Lib.hid (show ∀ w', Below wr.heap.size wr w' → (fun w' => Below wr.heap.size wr w' ∧ w'.cell? ⟨w.heap.size + 1, 1, none⟩ = some (.slice (some ⟨q2, o2, none⟩) p.ts.l.length p.ts.c) ∧ w'.cell? ⟨q2, o2 + k, none⟩ = some (.int .i64 v) ∧ w'.cell? ⟨q2, o2 + j, none⟩ = some (.int .i64 y)) w' from fun w' h => ⟨h, (by have q := ((HPB.out.ext HR.out).ext h).c 1 _ rfl; rw [HA2.out] at q; exact q), (h.cell (p := ⟨q2, o2 + k, none⟩) hb2).trans f0, (h.cell (p := ⟨q2, o2 + j, none⟩) hb2).trans g0⟩)
     refine rgB 32 SS (ext_drew (ext_refl _)) (fun Q7 hQ7 hN7 hHeld => ?_)
     refine rgT 0 (some 39) hQ7 hHeld ?_; refine rgT 1 (some 40) hQ7 hHeld ?_; refine rgT 2 (some 41) hQ7 hHeld ?_; refine rgT 3 (some 42) hQ7 hHeld ?_; refine rgT 4 (some 43) hQ7 hHeld ?_; refine rgT 5 (some 44) hQ7 hHeld ?_; refine rgT 6 (some 45) hQ7 hHeld ?_; refine rgT 7 (some 46) hQ7 hHeld ?_; refine rgT 8 (some 47) hQ7 hHeld ?_; refine rgT 9 (some 48) hQ7 hHeld ?_; refine rgT 10 (some 49) hQ7 hHeld ?_
     refine rgT 11 (some 50) hQ7 hHeld ?_; refine rgT 12 (some 51) hQ7 hHeld ?_; refine rgT 13 (some 52) hQ7 hHeld ?_; refine rgT 14 (some 53) hQ7 hHeld ?_; refine rgT 15 (some 54) hQ7 hHeld ?_; refine rgT 16 (some 55) hQ7 hHeld ?_; refine rgT 17 (some 56) hQ7 hHeld ?_; refine rgT 18 (some 57) hQ7 hHeld ?_; refine rgT 19 (some 58) hQ7 hHeld ?_; refine rgT 20 (some 59) hQ7 hHeld ?_; refine rgT 21 (some 60) hQ7 hHeld ?_
     refine rgT 22 (some 61) hQ7 hHeld ?_; refine rgT 23 (some 62) hQ7 hHeld ?_; refine rgT 24 (some 63) hQ7 hHeld ?_; refine rgT 25 (some 64) hQ7 hHeld ?_; refine rgT 26 (some 65) hQ7 hHeld ?_; refine rgT 27 (some 66) hQ7 hHeld ?_; refine rgT 28 (some 67) hQ7 hHeld ?_; refine rgT 29 (some 68) hQ7 hHeld ?_; refine rgT 30 (some 69) hQ7 hHeld ?_; refine rgT 31 (some 70) hQ7 hHeld ?_
     refine rg_end (by kernel_rfl) (hN7 _ _ ?_) _
     clear hQ7 hN7 Q7
     have BX := hHeld.1
     clear SS
     have HR1 := Lib.hid (ext_trans HR.out BX)
     clear BX f0 g0 c1 cl
     go_wp2_with fail
     first | exact ⟨⟨k + 1, v, by omega, by go_num, HP2.out, HN.out, HR1.out⟩, by simp [intOf] <;> omega⟩ | (go_roundw; all_goals first | exact ⟨k + 1, v, by omega, by go_num, HP2.out, HN.out, HR1.out⟩ | (simp [intOf] <;> omega))
  ·have hlt' : decide ((k : Int) < p.ts.l.length) = false := decide_eq_false (by omega)
   have hd : p.ts.l.drop k = [] := List.drop_eq_nil_of_le (by omega)
   rw [hd] at HQ
   have HX : Hid (E = true) := HQ.out
   clear hd
   go_wp2_with fail
   go_ret
   rw [HX.out]
   exact ⟨rfl, ext_trans HW.out HR.out⟩
theorem rpath_at {t : Tab} {p : Pth} {w : World} (r : Bool) (hr : pathB t p = r) (ht : Tab.ok w t) (hp : Pth.ok w p) (hleg : ∀ x ∈ t.ws.l, x.legs.l.length ≤ 8) : Calls Tryz.prog 73 #[t.v, p.v] w (RetB w r) := by
 subst hr; exact rpath_any t p w ht hp hleg
end Go.Proofs.YtjiojpoiocdnmaaGreat
