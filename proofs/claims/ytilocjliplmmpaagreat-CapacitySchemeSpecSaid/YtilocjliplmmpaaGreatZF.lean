/- The reference's Add. -/
import Derived.Test.YtilocjliplmmpaaGreatZE
import Derived.Test.YtilocjliplmmpaaGreatU
import Derived.Test.YtilocjliplmmpaaGreatPA
import Derived.Test.YtilocjliplmmpaaGreatLB
import Derived.Deep.Cut
set_option linter.unusedSimpArgs false
set_option linter.unusedVariables false
namespace Go.Proofs.YtilocjliplmmpaaGreat
open Go.RowKit
/-- The world's first n blocks. -/
def cutW (W : World) (n : Nat) : World := { W with heap := W.heap.extract 0 n }
theorem cut_size {W : World} {n : Nat} (h : n ≤ W.heap.size) : (cutW W n).heap.size = n := by simp [cutW]; omega
theorem cut_get {W : World} {n b : Nat} (h : n ≤ W.heap.size) (hb : b < n) : (cutW W n).heap[b]? = W.heap[b]? := by
  have h1 : b < (cutW W n).heap.size := by rw [cut_size h]; exact hb
  rw [Array.getElem?_eq_getElem h1, Array.getElem?_eq_getElem (show b < W.heap.size by omega)]
  simp [cutW]
theorem cut_below {W : World} {n : Nat} (h : n ≤ W.heap.size) : Below (cutW W n).heap.size (cutW W n) W := by
  rw [cut_size h]
  exact ⟨rfl, rfl, rfl, by rw [cut_size h]; exact h, fun b hb => (cut_get h hb).symm⟩
theorem cut_at {W1 wr : World} {cs : List Value} (hB : Below W1.heap.size W1 wr) (b : Blk wr W1.heap.size cs) :
    ∃ Wc : World, Wc.heap.size = W1.heap.size + 1 ∧ Below Wc.heap.size Wc wr ∧ Below W1.heap.size W1 Wc ∧ Blk Wc W1.heap.size cs := by
  have hn : W1.heap.size + 1 ≤ wr.heap.size := b.lt
  refine ⟨cutW wr (W1.heap.size + 1), cut_size hn, cut_below hn, ⟨hB.os, hB.tape, hB.output, by rw [cut_size hn]; omega, fun k hk => (cut_get hn (by omega)).trans (hB.block k hk)⟩, b.keepB (cut_get hn (by omega))⟩
set_option maxRecDepth 100000 in
set_option maxHeartbeats 32000000 in
theorem radd_any (t : Tab) (A : Option Addr) (c : Nat) (l : List Chg) (x : Chg) (n : Nat) (w : World) (hn : n = l.length) (ht : Tab.ok w t) (ha : Slc w Chg.cells 3 A l) (hl : l.length ≤ 1000) (hao : ∀ y ∈ l, Chg.ok w y) (hx : Chg.ok w x) :
    Calls Tryz.prog 9 #[t.v, .agg #[.slice A n c], x.v] w (AddR w t l x) := by
  obtain ⟨W, hW⟩ : ∃ W, (((w.alloc (.cells #[.int .i64 t.n, .slice t.ss.A t.ss.l.length t.ss.c, .slice t.cs.A t.cs.l.length t.cs.c, .slice t.ws.A t.ws.l.length t.ws.c, .slice t.ms.A t.ms.l.length t.ms.c, .slice t.ks.A t.ks.l.length t.ks.c] 28)).alloc (.cells #[.slice A n c] 31)).alloc (.cells #[.int .i64 x.f, .int .i64 x.cfg, .slice x.ms.A x.ms.l.length x.ms.c] 34)).alloc (.cells #[.slice none 0 0] 31) = W := ⟨_, rfl⟩
  have hz : W.heap.size = w.heap.size + 4 := by rw [← hW]; simp
  have HB : Hid (Blk W w.heap.size t.cells) := by rw [← hW]; exact (((Blk.newH w t.cells 28 w.heap.size rfl).alloc _).alloc _).alloc _
  have HS : Hid (Blk W (w.heap.size + 1) [.slice A n c]) := by rw [← hW]; exact ((Blk.newH (w.alloc _) [.slice A n c] 31 (w.heap.size + 1) (by simp)).alloc _).alloc _
  have HC : Hid (Blk W (w.heap.size + 1 + 1) x.cells) := by rw [← hW]; exact (Blk.newH ((w.alloc _).alloc _) x.cells 34 (w.heap.size + 1 + 1) (by simp)).alloc _
  have HZ : Hid (Blk W (w.heap.size + 1 + 1 + 1) [.slice none 0 0]) := by rw [← hW]; exact Blk.newH (((w.alloc _).alloc _).alloc _) [.slice none 0 0] 31 (w.heap.size + 1 + 1 + 1) (by simp)
  have HE : Hid (Below w.heap.size w W) := by rw [← hW]; exact ext_alloc (ext_alloc (ext_alloc (ext_alloc (ext_refl w) _) _) _) _
  have HT := Lib.hid (ht.ext HE.out)
  have HA := Lib.hid (ha.ext HE.out)
  have HAO : Hid (∀ y ∈ l, Chg.ok W y) := fun y hy => (hao y hy).ext HE.out
  have HXO := Lib.hid (hx.ext HE.out)
  have HD : Hid (addE t l x = if chkT t ≠ 0 then chkT t else if (l ≠ [] ∧ vldS t l = false) ∨ fitsB t x = false ∨ (l = [] ∧ x.f ≠ 0) then 190 else 0) := rfl
  have HNN := Lib.hid hn
  clear ht ha hao hx hn
  have b0 := HB.out.c 0 _ rfl
  have b1 := HB.out.c 1 _ rfl
  have b2 := HB.out.c 2 _ rfl
  have b3 := HB.out.c 3 _ rfl
  have b4 := HB.out.c 4 _ rfl
  have b5 := HB.out.c 5 _ rfl
  have s0 := HS.out.c 0 _ rfl
  have c0 := HC.out.c 0 _ rfl
  have c1 := HC.out.c 1 _ rfl
  have c2 := HC.out.c 2 _ rfl
  have z0 := HZ.out.c 0 _ rfl
  have zf := HZ.out.f
  have zl := HZ.out.lt
  go_enter Tryz.func9, Tryz.ntmps9
  go_wp2_with fail
  clear hW
  clear b0 b1 b2 b3 b4 b5 s0 c0 c1 c2 z0 zf zl
  obtain ⟨v, hv⟩ : ∃ v, chkT t = v := ⟨_, rfl⟩
  rw [hv] at HD
  refine (rchk_at v hv HT.out).mono ?_
  rintro e w1 ⟨rfl, B⟩
  have HE1 := Lib.hid (ext_trans HE.out B)
  have HB1 := Lib.hid (HB.out.ext B)
  have HS1 := Lib.hid (HS.out.ext B)
  have HC1 := Lib.hid (HC.out.ext B)
  have HZ1 := Lib.hid (HZ.out.ext B)
  have HT1 := Lib.hid (HT.out.ext B)
  have HA1 := Lib.hid (HA.out.ext B)
  have HAO1 : Hid (∀ y ∈ l, Chg.ok w1 y) := fun y hy => (HAO.out y hy).ext B
  have HXO1 := Lib.hid (HXO.out.ext B)
  have hz1 := B.size
  clear HE HB HS HC HZ HT HA HAO HXO B hv
  have b0 := HB1.out.c 0 _ rfl
  have b1 := HB1.out.c 1 _ rfl
  have b2 := HB1.out.c 2 _ rfl
  have b3 := HB1.out.c 3 _ rfl
  have b4 := HB1.out.c 4 _ rfl
  have b5 := HB1.out.c 5 _ rfl
  have s0 := HS1.out.c 0 _ rfl
  have c0 := HC1.out.c 0 _ rfl
  have c1 := HC1.out.c 1 _ rfl
  have c2 := HC1.out.c 2 _ rfl
  have z0 := HZ1.out.c 0 _ rfl
  have zf := HZ1.out.f
  have zl := HZ1.out.lt
  by_cases h1 : v = 0
  rotate_left
  · have e1 : (v != 0) = true := by simpa using h1
    rw [if_pos h1] at HD
    have HL := Lib.hid (addL_no HD.out h1)
    clear h1
    have ZP := HZ1.out.set (j := 0) (by simp) (.slice none 0 0)
    have ZE := Lib.hid (below_set HE1.out ⟨w.heap.size + 1 + 1 + 1, 0, none⟩ (.slice none 0 0) (by show _ ≤ w.heap.size + 1 + 1 + 1; omega))
    have p0 := ZP.c 0 _ rfl
    clear ZP
    go_wp2_with fail
    refine bodyPost_ret (v := .tuple #[.agg #[.slice none 0 0], .int .i64 v]) (by simp [results, Tryz.results9, go_sem, p0]) rfl ?_
    unfold AddR
    rw [HL.out, HD.out]
    exact ⟨none, 0, rfl, Own.nil _ _ _ _ _, ZE.out⟩
  subst h1
  rw [if_neg (by simp)] at HD
  obtain ⟨bad, hbad⟩ : ∃ b : Bool, decide ((l ≠ [] ∧ vldS t l = false) ∨ fitsB t x = false ∨ (l = [] ∧ x.f ≠ 0)) = b := ⟨_, rfl⟩
  have HBAD := Lib.hid hbad
  clear hbad
  go_upto_region 4 with (fail)
  go_cut [44] from 12 (fun s wc => s = .bool bad ∧ Hid (Below w1.heap.size w1 wc))
  case first =>
    by_cases h2 : n = 0
    · have H2 : Hid (l = []) := List.eq_nil_of_length_eq_zero (by have := HNN.out; omega)
      subst h2
      go_wp2_with fail
      cases hf : fitsB t x
      · refine (rfits_at false hf HT1.out HXO1.out).mono ?_
        rintro e w2 ⟨rfl, B⟩
        have HBB : Hid (bad = true) := by rw [← HBAD.out]; simp [Hid, hf]
        have HBX := Lib.hid B
        clear b0 b1 b2 b3 b4 b5 s0 c0 c1 c2 z0 zf zl hf B
        go_wp2_with fail
        go_meet
        exact ⟨by rw [HBB.out], HBX.out⟩
      refine (rfits_at true hf HT1.out HXO1.out).mono ?_
      rintro e w2 ⟨rfl, B⟩
      have HBX := Lib.hid B
      clear b0 b1 b2 b3 b4 b5 s0 c0 c1 c2 z0 zf zl B
      have s0 := (HS1.out.ext HBX.out).c 0 _ rfl
      have c0 := (HC1.out.ext HBX.out).c 0 _ rfl
      have cl := (HC1.out.ext HBX.out).lt
      by_cases h3 : x.f = 0
      · have e3 : (x.f != 0) = false := by simpa using h3
        have HBB : Hid (bad = false) := by rw [← HBAD.out]; simp [Hid, hf, h3, H2.out]
        clear h3 hf
        go_wp2_with fail
        go_meet
        exact ⟨by rw [HBB.out], HBX.out⟩
      · have e3 : (x.f != 0) = true := by simpa using h3
        have HBB : Hid (bad = true) := by rw [← HBAD.out]; simp [Hid, h3, H2.out]
        clear h3 hf
        go_wp2_with fail
        go_meet
        exact ⟨by rw [HBB.out], HBX.out⟩
    · have h2p : 0 < n := by omega
      have HNE : Hid (l ≠ []) := fun q => h2 (by rw [HNN.out, q]; rfl)
      have e2 : ((n : Int) == 0) = false := beq_eq_false_iff_ne.2 (by omega)
      clear h2
      go_wp2_with fail
      cases hr : vldS t l
      · refine (rvalid_at false hr HNN.out HT1.out HA1.out (by unfold maxLen; omega) HAO1.out).mono ?_
        rintro e w2 ⟨rfl, B⟩
        have HBB : Hid (bad = true) := by rw [← HBAD.out]; simp [Hid, hr, HNE.out]
        have HBX := Lib.hid B
        clear b0 b1 b2 b3 b4 b5 s0 c0 c1 c2 z0 zf zl hr B
        go_wp2_with fail
        go_meet
        exact ⟨by rw [HBB.out], HBX.out⟩
      refine (rvalid_at true hr HNN.out HT1.out HA1.out (by unfold maxLen; omega) HAO1.out).mono ?_
      rintro e w2 ⟨rfl, B⟩
      have HBX := Lib.hid B
      have HVV := Lib.hid hr
      clear b0 b1 b2 b3 b4 b5 s0 c0 c1 c2 z0 zf zl B hr
      have b0 := (HB1.out.ext HBX.out).c 0 _ rfl
      have b1 := (HB1.out.ext HBX.out).c 1 _ rfl
      have b2 := (HB1.out.ext HBX.out).c 2 _ rfl
      have b3 := (HB1.out.ext HBX.out).c 3 _ rfl
      have b4 := (HB1.out.ext HBX.out).c 4 _ rfl
      have b5 := (HB1.out.ext HBX.out).c 5 _ rfl
      have c0 := (HC1.out.ext HBX.out).c 0 _ rfl
      have c1 := (HC1.out.ext HBX.out).c 1 _ rfl
      have c2 := (HC1.out.ext HBX.out).c 2 _ rfl
      have cl := (HC1.out.ext HBX.out).lt
      go_wp2_with fail
      cases hf : fitsB t x
      · refine (rfits_at false hf (HT1.out.ext HBX.out) (HXO1.out.ext HBX.out)).mono ?_
        rintro e w3 ⟨rfl, B⟩
        have HBB : Hid (bad = true) := by rw [← HBAD.out]; simp [Hid, hf]
        have HBY := Lib.hid (ext_trans HBX.out B)
        clear b0 b1 b2 b3 b4 b5 c0 c1 c2 cl hf B
        go_wp2_with fail
        go_meet
        exact ⟨by rw [HBB.out], HBY.out⟩
      refine (rfits_at true hf (HT1.out.ext HBX.out) (HXO1.out.ext HBX.out)).mono ?_
      rintro e w3 ⟨rfl, B⟩
      have HBB : Hid (bad = false) := by rw [← HBAD.out]; simp [Hid, hf, HVV.out, HNE.out]
      have HBY := Lib.hid (ext_trans HBX.out B)
      clear b0 b1 b2 b3 b4 b5 c0 c1 c2 cl hf B
      have s0 := (HS1.out.ext HBY.out).c 0 _ rfl
      have sl := (HS1.out.ext HBY.out).lt
      go_wp2_with fail
      go_meet
      exact ⟨by rw [HBB.out], HBY.out⟩
  case rest =>
  obtain ⟨rfl, HWC⟩ := hcut
  clear b0 b1 b2 b3 b4 b5 s0 c0 c1 c2 z0 zf zl
  have HEc := Lib.hid (ext_trans HE1.out HWC.out)
  have HSc := Lib.hid (HS1.out.ext HWC.out)
  have HCc := Lib.hid (HC1.out.ext HWC.out)
  have HZc := Lib.hid (HZ1.out.ext HWC.out)
  have HAc := Lib.hid (HA1.out.ext HWC.out)
  have hzc := HWC.out.size
  clear HE1 HB1 HS1 HC1 HZ1 HT1 HA1 HAO1 HXO1 HWC
  have z0 := HZc.out.c 0 _ rfl
  have zf := HZc.out.f
  have zl := HZc.out.lt
  cases bad
  rotate_left
  · rw [if_pos (of_decide_eq_true HBAD.out)] at HD
    have HL := Lib.hid (addL_no HD.out (by decide))
    have ZP := HZc.out.set (j := 0) (by simp) (.slice none 0 0)
    have ZE := Lib.hid (below_set HEc.out ⟨w.heap.size + 1 + 1 + 1, 0, none⟩ (.slice none 0 0) (by show _ ≤ w.heap.size + 1 + 1 + 1; omega))
    have p0 := ZP.c 0 _ rfl
    clear ZP
    go_wp2_with fail
    refine bodyPost_ret (v := .tuple #[.agg #[.slice none 0 0], .int .i64 190]) (by simp [results, Tryz.results9, go_sem, p0]) rfl ?_
    unfold AddR
    rw [HL.out, HD.out]
    exact ⟨none, 0, rfl, Own.nil _ _ _ _ _, ZE.out⟩
  have hP := of_decide_eq_false HBAD.out
  rw [if_neg hP] at HD
  have HINC := Lib.hid (add_inc (t := t) (l := l) (by
    by_cases h : l = []
    · exact .inl h
    · right
      cases e : vldS t l
      · exact absurd (.inl ⟨h, e⟩) hP
      · rfl))
  clear hP
  have HL := Lib.hid (addL_yes HD.out)
  clear z0 zf zl
  go_wp2_with fail
  go_loopw [10, 11] (fun d i wr => ∃ (k m : Nat) (dn : Bool) (A2 : Option Addr) (c3 : Nat) (X : List Chg), k ≤ l.length ∧ d = .bool dn ∧ i = .int .i64 k ∧ Hid (foldX x l k = (dn, X)) ∧ Hid (m = X.length) ∧ Hid (Blk wr wc.heap.size [.slice A2 m c3]) ∧ Hid (Own wr (wc.heap.size + 1) 34 Chg.cells 3 (.slice A2 m c3) X) ∧ Hid (Below wc.heap.size wc wr)) (fun _ i _ => l.length - (intOf i).toNat)
  case atStart => exact ⟨0, 0, false, none, 0, [], Nat.zero_le _, rfl, rfl, rfl, rfl, Blk.newH wc [.slice none 0 0] 31 wc.heap.size rfl, Own.nil _ _ _ _ _, ext_alloc (ext_refl _) _⟩
  case round =>
    obtain ⟨k, m, dn, A2, c3, X, hk, rfl, rfl, HF, HM, HX, HO, HR⟩ := hrel
    have hm : m ≤ 2 * k := by
      have := foldX_len x l k
      rw [HF.out] at this
      have := HM.out
      simp at *; omega
    by_cases hlt : k < l.length
    · have hltn : k < n := by have := HNN.out; omega
      have hlt' : (k : Int) < n := by omega
      obtain ⟨y, q1, o1, hy, hA, hb1, hcy⟩ := HAc.out.at_ hlt
      have HSS := Lib.hid (foldX_succ (c := x) hy)
      rw [HF.out] at HSS
      have d0 := hcy 0 _ rfl
      have d1 := hcy 1 _ rfl
      have d2 := hcy 2 _ rfl
      simp only [Nat.add_zero] at d0
      have D0 := Lib.hid d0
      have D1 := Lib.hid d1
      have D2 := Lib.hid d2
      subst hA
      clear hcy hy d0 d1 d2
      have s0 := (HSc.out.ext HR.out).c 0 _ rfl
      have sl := (HSc.out.ext HR.out).lt
      cases dn
      · have v0 := (HR.out.cell (p := ⟨q1, o1 + k * 3, none⟩) hb1).trans D0.out
        have v1 := (HR.out.cell (p := ⟨q1, o1 + k * 3 + 1, none⟩) hb1).trans D1.out
        have v2 := (HR.out.cell (p := ⟨q1, o1 + k * 3 + 2, none⟩) hb1).trans D2.out
        have hbu : q1 < wr.heap.size := Nat.lt_of_lt_of_le hb1 HR.out.size
        have hcu : wc.heap.size ≤ wr.heap.size := HR.out.size
        by_cases hge : y.f ≥ x.f
        · have e4 : decide (y.f ≥ x.f) = true := decide_eq_true hge
          go_wp2_with fail
          clear s0 sl
          have SS := Lib.hid (show ∀ w', Below wr.heap.size wr w' → (fun w' => Below wr.heap.size wr w' ∧ w'.cell? ⟨w.heap.size + 1, 0, none⟩ = some (.slice (some ⟨q1, o1, none⟩) n c) ∧ w'.cell? ⟨w.heap.size + 1 + 1, 0, none⟩ = some (.int .i64 x.f) ∧ w'.cell? ⟨q1, o1 + k * 3, none⟩ = some (.int .i64 y.f)) w' from fun w' h => ⟨h, ((HSc.out.ext HR.out).ext h).c 0 _ rfl, ((HCc.out.ext HR.out).ext h).c 0 _ rfl, (h.cell (p := ⟨q1, o1 + k * 3, none⟩) hbu).trans v0⟩)
          refine rg_begin (S := (fun w' => Below wr.heap.size wr w' ∧ w'.cell? ⟨w.heap.size + 1, 0, none⟩ = some (.slice (some ⟨q1, o1, none⟩) n c) ∧ w'.cell? ⟨w.heap.size + 1 + 1, 0, none⟩ = some (.int .i64 x.f) ∧ w'.cell? ⟨q1, o1 + k * 3, none⟩ = some (.int .i64 y.f))) 13 (by kernel_rfl) (by intro d; cases d <;> intro _ _ _ _ h <;> exact h) ?_ (fun Q7 hQ7 hN7 hHeld => ?_)
          · exact SS.out _ (ext_drew (ext_refl _))
          refine rg_take (i := 0) (some 54) (v := ?_) rfl rfl (by kernel_rfl) (by rfl) hQ7 hHeld ?_ ?_
          rotate_left
          · intro w7 hSw; (try dsimp only at hSw); go_simp; all_goals with_reducible rfl
          try simp only [Act.put, List.setIfInBounds_toArray, List.set_cons_zero, List.set_cons_succ]
          refine rg_take (i := 1) (some 55) (v := ?_) rfl rfl (by kernel_rfl) (by rfl) hQ7 hHeld ?_ ?_
          rotate_left
          · intro w7 hSw; (try dsimp only at hSw); go_simp; all_goals with_reducible rfl
          try simp only [Act.put, List.setIfInBounds_toArray, List.set_cons_zero, List.set_cons_succ]
          refine rg_take (i := 2) (some 56) (v := ?_) rfl rfl (by kernel_rfl) (by rfl) hQ7 hHeld ?_ ?_
          rotate_left
          · intro w7 hSw; (try dsimp only at hSw); go_simp; all_goals with_reducible rfl
          try simp only [Act.put, List.setIfInBounds_toArray, List.set_cons_zero, List.set_cons_succ]
          refine rg_take (i := 3) (some 57) (v := ?_) rfl rfl (by kernel_rfl) (by rfl) hQ7 hHeld ?_ ?_
          rotate_left
          · intro w7 hSw; (try dsimp only at hSw); go_simp; all_goals with_reducible rfl
          try simp only [Act.put, List.setIfInBounds_toArray, List.set_cons_zero, List.set_cons_succ]
          refine rg_take (i := 4) (some 58) (v := ?_) rfl rfl (by kernel_rfl) (by rfl) hQ7 hHeld ?_ ?_
          rotate_left
          · intro w7 hSw; (try dsimp only at hSw); go_simp; all_goals with_reducible rfl
          try simp only [Act.put, List.setIfInBounds_toArray, List.set_cons_zero, List.set_cons_succ]
          refine rg_take (i := 5) (some 59) (v := ?_) rfl rfl (by kernel_rfl) (by rfl) hQ7 hHeld ?_ ?_
          rotate_left
          · intro w7 hSw; (try dsimp only at hSw); go_simp; all_goals with_reducible rfl
          try simp only [Act.put, List.setIfInBounds_toArray, List.set_cons_zero, List.set_cons_succ]
          refine rg_take (i := 6) (some 60) (v := ?_) rfl rfl (by kernel_rfl) (by rfl) hQ7 hHeld ?_ ?_
          rotate_left
          · intro w7 hSw; (try dsimp only at hSw); go_simp; all_goals with_reducible rfl
          try simp only [Act.put, List.setIfInBounds_toArray, List.set_cons_zero, List.set_cons_succ]
          refine rg_take (i := 7) (some 61) (v := ?_) rfl rfl (by kernel_rfl) (by rfl) hQ7 hHeld ?_ ?_
          rotate_left
          · intro w7 hSw; (try dsimp only at hSw); go_simp; all_goals with_reducible rfl
          try simp only [Act.put, List.setIfInBounds_toArray, List.set_cons_zero, List.set_cons_succ]
          refine rg_take (i := 8) (some 62) (v := ?_) rfl rfl (by kernel_rfl) (by rfl) hQ7 hHeld ?_ ?_
          rotate_left
          · intro w7 hSw; (try dsimp only at hSw); go_simp; all_goals with_reducible rfl
          try simp only [Act.put, List.setIfInBounds_toArray, List.set_cons_zero, List.set_cons_succ]
          refine rg_take (i := 9) (some 63) (v := ?_) rfl rfl (by kernel_rfl) (by rfl) hQ7 hHeld ?_ ?_
          rotate_left
          · intro w7 hSw; (try dsimp only at hSw); go_simp; all_goals with_reducible rfl
          try simp only [Act.put, List.setIfInBounds_toArray, List.set_cons_zero, List.set_cons_succ]
          refine rg_take (i := 10) (some 64) (v := ?_) rfl rfl (by kernel_rfl) (by rfl) hQ7 hHeld ?_ ?_
          rotate_left
          · intro w7 hSw; (try dsimp only at hSw); go_simp; all_goals with_reducible rfl
          try simp only [Act.put, List.setIfInBounds_toArray, List.set_cons_zero, List.set_cons_succ]
          refine rg_take (i := 11) (some 65) (v := ?_) rfl rfl (by kernel_rfl) (by rfl) hQ7 hHeld ?_ ?_
          rotate_left
          · intro w7 hSw; (try dsimp only at hSw); go_simp; all_goals with_reducible rfl
          try simp only [Act.put, List.setIfInBounds_toArray, List.set_cons_zero, List.set_cons_succ]
          refine rg_take (i := 12) (some 66) (v := ?_) rfl rfl (by kernel_rfl) (by rfl) hQ7 hHeld ?_ ?_
          rotate_left
          · intro w7 hSw; (try dsimp only at hSw); go_simp; all_goals with_reducible rfl
          try simp only [Act.put, List.setIfInBounds_toArray, List.set_cons_zero, List.set_cons_succ]
          refine rg_end (by kernel_rfl) (hN7 _ _ ?_) _
          clear hQ7 hN7 Q7
          have BX := hHeld.1
          clear SS
          obtain ⟨u6, hu6⟩ : ∃ z, z = wr.drew := ⟨_, rfl⟩
          rw [← hu6] at BX ⊢
          clear hu6
          have HXn := Lib.hid (HX.out.ext BX)
          have HOn := Lib.hid (HO.out.ext BX)
          have HRn := Lib.hid (ext_trans HR.out BX)
          clear BX v0 v1 v2 hbu hcu
          have x0 := HXn.out.c 0 _ rfl
          have xl := HXn.out.lt
          have c0 := (HCc.out.ext HRn.out).c 0 _ rfl
          have c1 := (HCc.out.ext HRn.out).c 1 _ rfl
          have c2 := (HCc.out.ext HRn.out).c 2 _ rfl
          have cl := (HCc.out.ext HRn.out).lt
          obtain ⟨Wk, hk1, hk2, hk3, hk4⟩ := cut_at HRn.out HXn.out
          obtain ⟨v5, w5, hrun, A5, cp5, rfl, hO3, hB3, hg3, hl3, hm3⟩ := Own.append_k (w0 := Wk) chI 29 (hk1.symm ▸ (HOn.out.alloc (.cells #[.int .i64 x.f, .int .i64 x.cfg, .slice x.ms.A x.ms.l.length x.ms.c] 34))) (ext_alloc hk2 _) (ys := [x]) (m := 1) rfl 1 (slc_litH u6 [x] #[.int .i64 x.f, .int .i64 x.cfg, .slice x.ms.A x.ms.l.length x.ms.c] 34 (enc := Chg.cells) (sz := 3) (fun _ => rfl) rfl _ rfl) (X ++ [x]) rfl (m + 1) (by have := HM.out; simp; omega) (by omega) (by unfold maxLen; omega)
          have HRUN := Lib.hid hrun
          have HX3 := Lib.hid (hk4.ext hB3)
          have hXo := hO3
          rw [hk1] at hXo
          have HO3 := Lib.hid hXo
          have HR3 := Lib.hid (ext_trans hk3 (hk1 ▸ hB3 : Below Wk.heap.size Wk w5))
          clear hrun hO3 hXo hB3 hg3 hl3 hm3 hk1 hk2 hk3 hk4
          have y0 := HX3.out.c 0 _ rfl
          have yf := HX3.out.f
          have yl := HX3.out.lt
          obtain ⟨u5, hu5⟩ : ∃ z, w5.setCell ⟨wc.heap.size, 0, none⟩ (.slice A5 (m + 1) cp5) = z := ⟨_, rfl⟩
          have HX4 : Hid (Blk u5 wc.heap.size [.slice A5 (m + 1) cp5]) := by rw [← hu5]; exact HX3.out.set (j := 0) (by simp) _
          have HO4 : Hid (Own u5 (wc.heap.size + 1) 34 Chg.cells 3 (.slice A5 (m + 1) cp5) (X ++ [x])) := by rw [← hu5]; exact Own.far_set HO3.out (by show wc.heap.size < _; omega)
          have HR4 : Hid (Below wc.heap.size wc u5) := by rw [← hu5]; exact below_set HR3.out _ _ (Nat.le_refl _)
          go_wp2_with (first | (at_builtin; refine wpList_append_run rfl (.tmp 68) (.tmp 70) 29 rfl (.slice A2 m c3) (.slice (some ⟨u6.heap.size, 0, none⟩) 1 1) rfl rfl HRUN.out ?_) | fail)
          clear hu5 x0 xl c0 c1 c2 cl y0 yf yl HRUN HX3 HO3 HR3
          clear HX HO HR HXn HOn HRn
          have v0 := (HR4.out.cell (p := ⟨q1, o1 + k * 3, none⟩) hb1).trans D0.out
          have v1 := (HR4.out.cell (p := ⟨q1, o1 + k * 3 + 1, none⟩) hb1).trans D1.out
          have v2 := (HR4.out.cell (p := ⟨q1, o1 + k * 3 + 2, none⟩) hb1).trans D2.out
          have hbu : q1 < u5.heap.size := Nat.lt_of_lt_of_le hb1 HR4.out.size
          have hcu : wc.heap.size ≤ u5.heap.size := HR4.out.size
          by_cases he : y.f = x.f
          · have e5 : (y.f != x.f) = false := by simpa using he
            have HNX : Hid (foldX x l (k + 1) = (true, X ++ [x])) := by rw [HSS.out]; exact (stepX_push (X := X) hge).trans (by rw [if_pos he])
            clear he
            have SS := Lib.hid (show ∀ w', Below u5.heap.size u5 w' → (fun w' => Below u5.heap.size u5 w' ∧ w'.cell? ⟨w.heap.size + 1, 0, none⟩ = some (.slice (some ⟨q1, o1, none⟩) n c) ∧ w'.cell? ⟨w.heap.size + 1 + 1, 0, none⟩ = some (.int .i64 x.f) ∧ w'.cell? ⟨q1, o1 + k * 3, none⟩ = some (.int .i64 y.f)) w' from fun w' h => ⟨h, ((HSc.out.ext HR4.out).ext h).c 0 _ rfl, ((HCc.out.ext HR4.out).ext h).c 0 _ rfl, (h.cell (p := ⟨q1, o1 + k * 3, none⟩) hbu).trans v0⟩)
            refine rg_begin (S := (fun w' => Below u5.heap.size u5 w' ∧ w'.cell? ⟨w.heap.size + 1, 0, none⟩ = some (.slice (some ⟨q1, o1, none⟩) n c) ∧ w'.cell? ⟨w.heap.size + 1 + 1, 0, none⟩ = some (.int .i64 x.f) ∧ w'.cell? ⟨q1, o1 + k * 3, none⟩ = some (.int .i64 y.f))) 9 (by kernel_rfl) (by intro d; cases d <;> intro _ _ _ _ h <;> exact h) ?_ (fun Q7 hQ7 hN7 hHeld => ?_)
            · exact SS.out _ (ext_drew (ext_refl _))
            refine rg_take (i := 0) (some 73) (v := ?_) rfl rfl (by kernel_rfl) (by rfl) hQ7 hHeld ?_ ?_
            rotate_left
            · intro w7 hSw; (try dsimp only at hSw); go_simp; all_goals with_reducible rfl
            try simp only [Act.put, List.setIfInBounds_toArray, List.set_cons_zero, List.set_cons_succ]
            refine rg_take (i := 1) (some 74) (v := ?_) rfl rfl (by kernel_rfl) (by rfl) hQ7 hHeld ?_ ?_
            rotate_left
            · intro w7 hSw; (try dsimp only at hSw); go_simp; all_goals with_reducible rfl
            try simp only [Act.put, List.setIfInBounds_toArray, List.set_cons_zero, List.set_cons_succ]
            refine rg_take (i := 2) (some 75) (v := ?_) rfl rfl (by kernel_rfl) (by rfl) hQ7 hHeld ?_ ?_
            rotate_left
            · intro w7 hSw; (try dsimp only at hSw); go_simp; all_goals with_reducible rfl
            try simp only [Act.put, List.setIfInBounds_toArray, List.set_cons_zero, List.set_cons_succ]
            refine rg_take (i := 3) (some 76) (v := ?_) rfl rfl (by kernel_rfl) (by rfl) hQ7 hHeld ?_ ?_
            rotate_left
            · intro w7 hSw; (try dsimp only at hSw); go_simp; all_goals with_reducible rfl
            try simp only [Act.put, List.setIfInBounds_toArray, List.set_cons_zero, List.set_cons_succ]
            refine rg_take (i := 4) (some 77) (v := ?_) rfl rfl (by kernel_rfl) (by rfl) hQ7 hHeld ?_ ?_
            rotate_left
            · intro w7 hSw; (try dsimp only at hSw); go_simp; all_goals with_reducible rfl
            try simp only [Act.put, List.setIfInBounds_toArray, List.set_cons_zero, List.set_cons_succ]
            refine rg_take (i := 5) (some 78) (v := ?_) rfl rfl (by kernel_rfl) (by rfl) hQ7 hHeld ?_ ?_
            rotate_left
            · intro w7 hSw; (try dsimp only at hSw); go_simp; all_goals with_reducible rfl
            try simp only [Act.put, List.setIfInBounds_toArray, List.set_cons_zero, List.set_cons_succ]
            refine rg_take (i := 6) (some 79) (v := ?_) rfl rfl (by kernel_rfl) (by rfl) hQ7 hHeld ?_ ?_
            rotate_left
            · intro w7 hSw; (try dsimp only at hSw); go_simp; all_goals with_reducible rfl
            try simp only [Act.put, List.setIfInBounds_toArray, List.set_cons_zero, List.set_cons_succ]
            refine rg_take (i := 7) (some 80) (v := ?_) rfl rfl (by kernel_rfl) (by rfl) hQ7 hHeld ?_ ?_
            rotate_left
            · intro w7 hSw; (try dsimp only at hSw); go_simp; all_goals with_reducible rfl
            try simp only [Act.put, List.setIfInBounds_toArray, List.set_cons_zero, List.set_cons_succ]
            refine rg_take (i := 8) (some 81) (v := ?_) rfl rfl (by kernel_rfl) (by rfl) hQ7 hHeld ?_ ?_
            rotate_left
            · intro w7 hSw; (try dsimp only at hSw); go_simp; all_goals with_reducible rfl
            try simp only [Act.put, List.setIfInBounds_toArray, List.set_cons_zero, List.set_cons_succ]
            refine rg_end (by kernel_rfl) (hN7 _ _ ?_) _
            clear hQ7 hN7 Q7
            have BX := hHeld.1
            clear SS
            obtain ⟨u57, hu57⟩ : ∃ z, z = u5.drew := ⟨_, rfl⟩
            rw [← hu57] at BX ⊢
            clear hu57
            have HXn := Lib.hid (HX4.out.ext BX)
            have HOn := Lib.hid (HO4.out.ext BX)
            have HRn := Lib.hid (ext_trans HR4.out BX)
            clear BX v0 v1 v2 hbu hcu
            go_wp2_with fail
            first | exact ⟨⟨k + 1, m + 1, true, _, _, _, by omega, rfl, by go_num, HNX.out, by have q9 := HM.out; first | omega | (simp; omega), HXn.out, HOn.out, HRn.out⟩, by simp [intOf] <;> omega⟩ | (go_roundw; all_goals first | exact ⟨k + 1, m + 1, true, _, _, _, by omega, rfl, by go_num, HNX.out, by have q9 := HM.out; first | omega | (simp; omega), HXn.out, HOn.out, HRn.out⟩ | (simp [intOf] <;> omega))
          · have e5 : (y.f != x.f) = true := by simpa using he
            have HNX : Hid (foldX x l (k + 1) = (true, X ++ [x] ++ [y])) := by rw [HSS.out]; exact (stepX_push (X := X) hge).trans (by rw [if_neg he])
            clear he
            have SS := Lib.hid (show ∀ w', Below u5.heap.size u5 w' → (fun w' => Below u5.heap.size u5 w' ∧ w'.cell? ⟨w.heap.size + 1, 0, none⟩ = some (.slice (some ⟨q1, o1, none⟩) n c) ∧ w'.cell? ⟨w.heap.size + 1 + 1, 0, none⟩ = some (.int .i64 x.f) ∧ w'.cell? ⟨q1, o1 + k * 3, none⟩ = some (.int .i64 y.f)) w' from fun w' h => ⟨h, ((HSc.out.ext HR4.out).ext h).c 0 _ rfl, ((HCc.out.ext HR4.out).ext h).c 0 _ rfl, (h.cell (p := ⟨q1, o1 + k * 3, none⟩) hbu).trans v0⟩)
            refine rg_begin (S := (fun w' => Below u5.heap.size u5 w' ∧ w'.cell? ⟨w.heap.size + 1, 0, none⟩ = some (.slice (some ⟨q1, o1, none⟩) n c) ∧ w'.cell? ⟨w.heap.size + 1 + 1, 0, none⟩ = some (.int .i64 x.f) ∧ w'.cell? ⟨q1, o1 + k * 3, none⟩ = some (.int .i64 y.f))) 9 (by kernel_rfl) (by intro d; cases d <;> intro _ _ _ _ h <;> exact h) ?_ (fun Q7 hQ7 hN7 hHeld => ?_)
            · exact SS.out _ (ext_drew (ext_refl _))
            refine rg_take (i := 0) (some 73) (v := ?_) rfl rfl (by kernel_rfl) (by rfl) hQ7 hHeld ?_ ?_
            rotate_left
            · intro w7 hSw; (try dsimp only at hSw); go_simp; all_goals with_reducible rfl
            try simp only [Act.put, List.setIfInBounds_toArray, List.set_cons_zero, List.set_cons_succ]
            refine rg_take (i := 1) (some 74) (v := ?_) rfl rfl (by kernel_rfl) (by rfl) hQ7 hHeld ?_ ?_
            rotate_left
            · intro w7 hSw; (try dsimp only at hSw); go_simp; all_goals with_reducible rfl
            try simp only [Act.put, List.setIfInBounds_toArray, List.set_cons_zero, List.set_cons_succ]
            refine rg_take (i := 2) (some 75) (v := ?_) rfl rfl (by kernel_rfl) (by rfl) hQ7 hHeld ?_ ?_
            rotate_left
            · intro w7 hSw; (try dsimp only at hSw); go_simp; all_goals with_reducible rfl
            try simp only [Act.put, List.setIfInBounds_toArray, List.set_cons_zero, List.set_cons_succ]
            refine rg_take (i := 3) (some 76) (v := ?_) rfl rfl (by kernel_rfl) (by rfl) hQ7 hHeld ?_ ?_
            rotate_left
            · intro w7 hSw; (try dsimp only at hSw); go_simp; all_goals with_reducible rfl
            try simp only [Act.put, List.setIfInBounds_toArray, List.set_cons_zero, List.set_cons_succ]
            refine rg_take (i := 4) (some 77) (v := ?_) rfl rfl (by kernel_rfl) (by rfl) hQ7 hHeld ?_ ?_
            rotate_left
            · intro w7 hSw; (try dsimp only at hSw); go_simp; all_goals with_reducible rfl
            try simp only [Act.put, List.setIfInBounds_toArray, List.set_cons_zero, List.set_cons_succ]
            refine rg_take (i := 5) (some 78) (v := ?_) rfl rfl (by kernel_rfl) (by rfl) hQ7 hHeld ?_ ?_
            rotate_left
            · intro w7 hSw; (try dsimp only at hSw); go_simp; all_goals with_reducible rfl
            try simp only [Act.put, List.setIfInBounds_toArray, List.set_cons_zero, List.set_cons_succ]
            refine rg_take (i := 6) (some 79) (v := ?_) rfl rfl (by kernel_rfl) (by rfl) hQ7 hHeld ?_ ?_
            rotate_left
            · intro w7 hSw; (try dsimp only at hSw); go_simp; all_goals with_reducible rfl
            try simp only [Act.put, List.setIfInBounds_toArray, List.set_cons_zero, List.set_cons_succ]
            refine rg_take (i := 7) (some 80) (v := ?_) rfl rfl (by kernel_rfl) (by rfl) hQ7 hHeld ?_ ?_
            rotate_left
            · intro w7 hSw; (try dsimp only at hSw); go_simp; all_goals with_reducible rfl
            try simp only [Act.put, List.setIfInBounds_toArray, List.set_cons_zero, List.set_cons_succ]
            refine rg_take (i := 8) (some 81) (v := ?_) rfl rfl (by kernel_rfl) (by rfl) hQ7 hHeld ?_ ?_
            rotate_left
            · intro w7 hSw; (try dsimp only at hSw); go_simp; all_goals with_reducible rfl
            try simp only [Act.put, List.setIfInBounds_toArray, List.set_cons_zero, List.set_cons_succ]
            refine rg_end (by kernel_rfl) (hN7 _ _ ?_) _
            clear hQ7 hN7 Q7
            have BX := hHeld.1
            clear SS
            obtain ⟨u58, hu58⟩ : ∃ z, z = u5.drew := ⟨_, rfl⟩
            rw [← hu58] at BX ⊢
            clear hu58
            have HXn := Lib.hid (HX4.out.ext BX)
            have HOn := Lib.hid (HO4.out.ext BX)
            have HRn := Lib.hid (ext_trans HR4.out BX)
            clear BX v0 v1 v2 hbu hcu
            go_wp2_with fail
            have v0 := (HRn.out.cell (p := ⟨q1, o1 + k * 3, none⟩) hb1).trans D0.out
            have v1 := (HRn.out.cell (p := ⟨q1, o1 + k * 3 + 1, none⟩) hb1).trans D1.out
            have v2 := (HRn.out.cell (p := ⟨q1, o1 + k * 3 + 2, none⟩) hb1).trans D2.out
            have hbu : q1 < u58.heap.size := Nat.lt_of_lt_of_le hb1 HRn.out.size
            have hcu : wc.heap.size ≤ u58.heap.size := HRn.out.size
            obtain ⟨Wk, hk1, hk2, hk3, hk4⟩ := cut_at HRn.out HXn.out
            have HK2 := Lib.hid hk2
            have HK3 := Lib.hid hk3
            have HK4 := Lib.hid hk4
            have HK1 := Lib.hid hk1
            clear hk1 hk2 hk3 hk4
            have HSk := Lib.hid (HSc.out.ext HK3.out)
            have V0 := Lib.hid ((HK3.out.cell (p := ⟨q1, o1 + k * 3, none⟩) hb1).trans D0.out)
            have V1 := Lib.hid ((HK3.out.cell (p := ⟨q1, o1 + k * 3 + 1, none⟩) hb1).trans D1.out)
            have V2 := Lib.hid ((HK3.out.cell (p := ⟨q1, o1 + k * 3 + 2, none⟩) hb1).trans D2.out)
            have hbk : q1 < Wk.heap.size := Nat.lt_of_lt_of_le hb1 HK3.out.size
            clear v0 v1 v2 hbu hcu
            have SS := Lib.hid (show ∀ w', Below Wk.heap.size Wk w' → (fun w' => Below Wk.heap.size Wk w' ∧ w'.cell? ⟨wc.heap.size, 0, none⟩ = some (.slice A5 (m + 1) cp5) ∧ w'.cell? ⟨w.heap.size + 1, 0, none⟩ = some (.slice (some ⟨q1, o1, none⟩) n c) ∧ w'.cell? ⟨q1, o1 + k * 3, none⟩ = some (.int .i64 y.f) ∧ w'.cell? ⟨q1, o1 + k * 3 + 1, none⟩ = some (.int .i64 y.cfg) ∧ w'.cell? ⟨q1, o1 + k * 3 + 2, none⟩ = some (.slice y.ms.A y.ms.l.length y.ms.c)) w' from fun w' h => ⟨h, (HK4.out.ext h).c 0 _ rfl, (HSk.out.ext h).c 0 _ rfl, (h.cell (p := ⟨q1, o1 + k * 3, none⟩) hbk).trans V0.out, (h.cell (p := ⟨q1, o1 + k * 3 + 1, none⟩) hbk).trans V1.out, (h.cell (p := ⟨q1, o1 + k * 3 + 2, none⟩) hbk).trans V2.out⟩)
            refine rg_begin (S := (fun w' => Below Wk.heap.size Wk w' ∧ w'.cell? ⟨wc.heap.size, 0, none⟩ = some (.slice A5 (m + 1) cp5) ∧ w'.cell? ⟨w.heap.size + 1, 0, none⟩ = some (.slice (some ⟨q1, o1, none⟩) n c) ∧ w'.cell? ⟨q1, o1 + k * 3, none⟩ = some (.int .i64 y.f) ∧ w'.cell? ⟨q1, o1 + k * 3 + 1, none⟩ = some (.int .i64 y.cfg) ∧ w'.cell? ⟨q1, o1 + k * 3 + 2, none⟩ = some (.slice y.ms.A y.ms.l.length y.ms.c))) 10 (by kernel_rfl) (by intro d; cases d <;> intro _ _ _ _ h <;> exact h) ?_ (fun Q7 hQ7 hN7 hHeld => ?_)
            · exact SS.out _ (ext_drew HK2.out)
            refine rg_take (i := 0) (some 82) (v := ?_) rfl rfl (by kernel_rfl) (by rfl) hQ7 hHeld ?_ ?_
            rotate_left
            · intro w7 hSw; (try dsimp only at hSw); go_simp; all_goals with_reducible rfl
            try simp only [Act.put, List.setIfInBounds_toArray, List.set_cons_zero, List.set_cons_succ]
            refine rg_take (i := 1) (some 83) (v := ?_) rfl rfl (by kernel_rfl) (by rfl) hQ7 hHeld ?_ ?_
            rotate_left
            · intro w7 hSw; (try dsimp only at hSw); go_simp; all_goals with_reducible rfl
            try simp only [Act.put, List.setIfInBounds_toArray, List.set_cons_zero, List.set_cons_succ]
            refine rg_take (i := 2) (some 84) (v := ?_) rfl rfl (by kernel_rfl) (by rfl) hQ7 hHeld ?_ ?_
            rotate_left
            · intro w7 hSw; (try dsimp only at hSw); go_simp; all_goals with_reducible rfl
            try simp only [Act.put, List.setIfInBounds_toArray, List.set_cons_zero, List.set_cons_succ]
            refine rg_take (i := 3) (some 85) (v := ?_) rfl rfl (by kernel_rfl) (by rfl) hQ7 hHeld ?_ ?_
            rotate_left
            · intro w7 hSw; (try dsimp only at hSw); go_simp; all_goals with_reducible rfl
            try simp only [Act.put, List.setIfInBounds_toArray, List.set_cons_zero, List.set_cons_succ]
            refine rg_take (i := 4) (some 86) (v := ?_) rfl rfl (by kernel_rfl) (by rfl) hQ7 hHeld ?_ ?_
            rotate_left
            · intro w7 hSw; (try dsimp only at hSw); go_simp; all_goals with_reducible rfl
            try simp only [Act.put, List.setIfInBounds_toArray, List.set_cons_zero, List.set_cons_succ]
            refine rg_take (i := 5) (some 87) (v := ?_) rfl rfl (by kernel_rfl) (by rfl) hQ7 hHeld ?_ ?_
            rotate_left
            · intro w7 hSw; (try dsimp only at hSw); go_simp; all_goals with_reducible rfl
            try simp only [Act.put, List.setIfInBounds_toArray, List.set_cons_zero, List.set_cons_succ]
            refine rg_take (i := 6) (some 88) (v := ?_) rfl rfl (by kernel_rfl) (by rfl) hQ7 hHeld ?_ ?_
            rotate_left
            · intro w7 hSw; (try dsimp only at hSw); go_simp; all_goals with_reducible rfl
            try simp only [Act.put, List.setIfInBounds_toArray, List.set_cons_zero, List.set_cons_succ]
            refine rg_one (i := 7) (by kernel_rfl) (rg_step rfl (by rfl) (fun K hK => ?_))
            go_simp
            refine hK.out _ _ ?_ (fun hHeld2 => ?_)
            · exact SS.out _ (ext_alloc hHeld.1 _)
            clear hHeld
            have hHeld := hHeld2
            clear hHeld2
            clear hK K
            try simp only [Act.put, List.setIfInBounds_toArray, List.set_cons_zero, List.set_cons_succ]
            refine rg_one (i := 8) (by kernel_rfl) (rg_step rfl (by rfl) (fun K hK => ?_))
            refine rg_append (some 90) _ _ 29 29 rfl rfl rfl _ _ rfl rfl (Own.append_k (w0 := Wk) chI 29 (HK1.out.symm ▸ (HOn.out.drew_.alloc (.cells #[.int .i64 y.f, .int .i64 y.cfg, .slice y.ms.A y.ms.l.length y.ms.c] 34))) hHeld.1 (ys := [y]) (m := 1) rfl 1 (slc_litH _ [y] #[.int .i64 y.f, .int .i64 y.cfg, .slice y.ms.A y.ms.l.length y.ms.c] 34 (enc := Chg.cells) (sz := 3) (fun _ => rfl) rfl _ rfl) (X ++ [x] ++ [y]) rfl (m + 1 + 1) (by have q9 := HM.out; first | omega | (simp; omega)) (by omega) (by unfold maxLen; omega)) ?_
            rintro _ w9 ⟨A9, c9, rfl, hO9, hB9, hg9, hl9, hm9⟩
            refine hK.out _ _ ?_ (fun hHeld2 => ?_)
            · exact SS.out _ hB9
            clear hHeld
            have hHeld := hHeld2
            clear hHeld2
            clear hK K
            try simp only [Act.put, List.setIfInBounds_toArray, List.set_cons_zero, List.set_cons_succ]
            refine rg_take (i := 9) (some 91) (v := ?_) rfl rfl (by kernel_rfl) (by rfl) hQ7 hHeld ?_ ?_
            rotate_left
            · intro w7 hSw; (try dsimp only at hSw); go_simp; all_goals with_reducible rfl
            try simp only [Act.put, List.setIfInBounds_toArray, List.set_cons_zero, List.set_cons_succ]
            have y9 := HK4.out.ext hHeld.1
            have y0 := y9.c 0 _ rfl
            have yf := y9.f
            have yl := y9.lt
            clear y9
            refine rg_one (i := 10) (by kernel_rfl) (rg_late rfl (by rfl) (by kernel_rfl) (fun K hK => ?_))
            go_simp
            refine hK.out _ _ ?_
            clear hK K
            try simp only [Act.put, List.setIfInBounds_toArray, List.set_cons_zero, List.set_cons_succ]
            refine rg_end (by kernel_rfl) (hN7 _ _ ?_) _
            clear hQ7 hN7 Q7
            have BX := hHeld.1
            clear SS
            have BK := BX
            have HXs := Lib.hid ((HK4.out.ext BK).set (j := 0) (by simp) (.slice A9 (m + 1 + 1) c9))
            have HOs := Lib.hid (Own.far_set (u := .slice A9 (m + 1 + 1) c9) (HK1.out ▸ hO9) (p := ⟨wc.heap.size, 0, none⟩) (by show wc.heap.size < _; omega))
            have HRs := Lib.hid (below_set (ext_trans HK3.out BK) ⟨wc.heap.size, 0, none⟩ (.slice A9 (m + 1 + 1) c9) (Nat.le_refl _))
            clear BX BK hHeld y0 yf yl
            go_wp2_with fail
            first | exact ⟨⟨k + 1, m + 1 + 1, true, _, _, _, by omega, rfl, by go_num, HNX.out, by have q9 := HM.out; first | omega | (simp; omega), HXs.out, HOs.out, HRs.out⟩, by simp [intOf] <;> omega⟩ | (go_roundw; all_goals first | exact ⟨k + 1, m + 1 + 1, true, _, _, _, by omega, rfl, by go_num, HNX.out, by have q9 := HM.out; first | omega | (simp; omega), HXs.out, HOs.out, HRs.out⟩ | (simp [intOf] <;> omega))
        · have e4 : decide (y.f ≥ x.f) = false := decide_eq_false hge
          go_wp2_with fail
          clear s0 sl
          have SS := Lib.hid (show ∀ w', Below wr.heap.size wr w' → (fun w' => Below wr.heap.size wr w' ∧ w'.cell? ⟨w.heap.size + 1, 0, none⟩ = some (.slice (some ⟨q1, o1, none⟩) n c) ∧ w'.cell? ⟨w.heap.size + 1 + 1, 0, none⟩ = some (.int .i64 x.f) ∧ w'.cell? ⟨q1, o1 + k * 3, none⟩ = some (.int .i64 y.f)) w' from fun w' h => ⟨h, ((HSc.out.ext HR.out).ext h).c 0 _ rfl, ((HCc.out.ext HR.out).ext h).c 0 _ rfl, (h.cell (p := ⟨q1, o1 + k * 3, none⟩) hbu).trans v0⟩)
          refine rg_begin (S := (fun w' => Below wr.heap.size wr w' ∧ w'.cell? ⟨w.heap.size + 1, 0, none⟩ = some (.slice (some ⟨q1, o1, none⟩) n c) ∧ w'.cell? ⟨w.heap.size + 1 + 1, 0, none⟩ = some (.int .i64 x.f) ∧ w'.cell? ⟨q1, o1 + k * 3, none⟩ = some (.int .i64 y.f))) 13 (by kernel_rfl) (by intro d; cases d <;> intro _ _ _ _ h <;> exact h) ?_ (fun Q7 hQ7 hN7 hHeld => ?_)
          · exact SS.out _ (ext_drew (ext_refl _))
          refine rg_take (i := 0) (some 54) (v := ?_) rfl rfl (by kernel_rfl) (by rfl) hQ7 hHeld ?_ ?_
          rotate_left
          · intro w7 hSw; (try dsimp only at hSw); go_simp; all_goals with_reducible rfl
          try simp only [Act.put, List.setIfInBounds_toArray, List.set_cons_zero, List.set_cons_succ]
          refine rg_take (i := 1) (some 55) (v := ?_) rfl rfl (by kernel_rfl) (by rfl) hQ7 hHeld ?_ ?_
          rotate_left
          · intro w7 hSw; (try dsimp only at hSw); go_simp; all_goals with_reducible rfl
          try simp only [Act.put, List.setIfInBounds_toArray, List.set_cons_zero, List.set_cons_succ]
          refine rg_take (i := 2) (some 56) (v := ?_) rfl rfl (by kernel_rfl) (by rfl) hQ7 hHeld ?_ ?_
          rotate_left
          · intro w7 hSw; (try dsimp only at hSw); go_simp; all_goals with_reducible rfl
          try simp only [Act.put, List.setIfInBounds_toArray, List.set_cons_zero, List.set_cons_succ]
          refine rg_take (i := 3) (some 57) (v := ?_) rfl rfl (by kernel_rfl) (by rfl) hQ7 hHeld ?_ ?_
          rotate_left
          · intro w7 hSw; (try dsimp only at hSw); go_simp; all_goals with_reducible rfl
          try simp only [Act.put, List.setIfInBounds_toArray, List.set_cons_zero, List.set_cons_succ]
          refine rg_take (i := 4) (some 58) (v := ?_) rfl rfl (by kernel_rfl) (by rfl) hQ7 hHeld ?_ ?_
          rotate_left
          · intro w7 hSw; (try dsimp only at hSw); go_simp; all_goals with_reducible rfl
          try simp only [Act.put, List.setIfInBounds_toArray, List.set_cons_zero, List.set_cons_succ]
          refine rg_take (i := 5) (some 59) (v := ?_) rfl rfl (by kernel_rfl) (by rfl) hQ7 hHeld ?_ ?_
          rotate_left
          · intro w7 hSw; (try dsimp only at hSw); go_simp; all_goals with_reducible rfl
          try simp only [Act.put, List.setIfInBounds_toArray, List.set_cons_zero, List.set_cons_succ]
          refine rg_take (i := 6) (some 60) (v := ?_) rfl rfl (by kernel_rfl) (by rfl) hQ7 hHeld ?_ ?_
          rotate_left
          · intro w7 hSw; (try dsimp only at hSw); go_simp; all_goals with_reducible rfl
          try simp only [Act.put, List.setIfInBounds_toArray, List.set_cons_zero, List.set_cons_succ]
          refine rg_take (i := 7) (some 61) (v := ?_) rfl rfl (by kernel_rfl) (by rfl) hQ7 hHeld ?_ ?_
          rotate_left
          · intro w7 hSw; (try dsimp only at hSw); go_simp; all_goals with_reducible rfl
          try simp only [Act.put, List.setIfInBounds_toArray, List.set_cons_zero, List.set_cons_succ]
          refine rg_take (i := 8) (some 62) (v := ?_) rfl rfl (by kernel_rfl) (by rfl) hQ7 hHeld ?_ ?_
          rotate_left
          · intro w7 hSw; (try dsimp only at hSw); go_simp; all_goals with_reducible rfl
          try simp only [Act.put, List.setIfInBounds_toArray, List.set_cons_zero, List.set_cons_succ]
          refine rg_take (i := 9) (some 63) (v := ?_) rfl rfl (by kernel_rfl) (by rfl) hQ7 hHeld ?_ ?_
          rotate_left
          · intro w7 hSw; (try dsimp only at hSw); go_simp; all_goals with_reducible rfl
          try simp only [Act.put, List.setIfInBounds_toArray, List.set_cons_zero, List.set_cons_succ]
          refine rg_take (i := 10) (some 64) (v := ?_) rfl rfl (by kernel_rfl) (by rfl) hQ7 hHeld ?_ ?_
          rotate_left
          · intro w7 hSw; (try dsimp only at hSw); go_simp; all_goals with_reducible rfl
          try simp only [Act.put, List.setIfInBounds_toArray, List.set_cons_zero, List.set_cons_succ]
          refine rg_take (i := 11) (some 65) (v := ?_) rfl rfl (by kernel_rfl) (by rfl) hQ7 hHeld ?_ ?_
          rotate_left
          · intro w7 hSw; (try dsimp only at hSw); go_simp; all_goals with_reducible rfl
          try simp only [Act.put, List.setIfInBounds_toArray, List.set_cons_zero, List.set_cons_succ]
          refine rg_take (i := 12) (some 66) (v := ?_) rfl rfl (by kernel_rfl) (by rfl) hQ7 hHeld ?_ ?_
          rotate_left
          · intro w7 hSw; (try dsimp only at hSw); go_simp; all_goals with_reducible rfl
          try simp only [Act.put, List.setIfInBounds_toArray, List.set_cons_zero, List.set_cons_succ]
          refine rg_end (by kernel_rfl) (hN7 _ _ ?_) _
          clear hQ7 hN7 Q7
          have BX := hHeld.1
          clear SS
          obtain ⟨u6, hu6⟩ : ∃ z, z = wr.drew := ⟨_, rfl⟩
          rw [← hu6] at BX ⊢
          clear hu6
          have HXn := Lib.hid (HX.out.ext BX)
          have HOn := Lib.hid (HO.out.ext BX)
          have HRn := Lib.hid (ext_trans HR.out BX)
          clear BX v0 v1 v2 hbu hcu
          go_wp2_with fail
          clear HX HO HR
          obtain ⟨HX, HO, HR⟩ : _ ∧ _ ∧ _ := ⟨HXn, HOn, HRn⟩
          clear HXn HOn HRn
          have v0 := (HR.out.cell (p := ⟨q1, o1 + k * 3, none⟩) hb1).trans D0.out
          have v1 := (HR.out.cell (p := ⟨q1, o1 + k * 3 + 1, none⟩) hb1).trans D1.out
          have v2 := (HR.out.cell (p := ⟨q1, o1 + k * 3 + 2, none⟩) hb1).trans D2.out
          have hbu : q1 < u6.heap.size := Nat.lt_of_lt_of_le hb1 HR.out.size
          have hcu : wc.heap.size ≤ u6.heap.size := HR.out.size
          by_cases he : y.f = x.f
          · have e5 : (y.f != x.f) = false := by simpa using he
            have HNX : Hid (foldX x l (k + 1) = (false, X)) := by rw [HSS.out]; exact (stepX_no (X := X) (.inr (by omega))).trans (by rw [if_pos he])
            clear he
            have SS := Lib.hid (show ∀ w', Below u6.heap.size u6 w' → (fun w' => Below u6.heap.size u6 w' ∧ w'.cell? ⟨w.heap.size + 1, 0, none⟩ = some (.slice (some ⟨q1, o1, none⟩) n c) ∧ w'.cell? ⟨w.heap.size + 1 + 1, 0, none⟩ = some (.int .i64 x.f) ∧ w'.cell? ⟨q1, o1 + k * 3, none⟩ = some (.int .i64 y.f)) w' from fun w' h => ⟨h, ((HSc.out.ext HR.out).ext h).c 0 _ rfl, ((HCc.out.ext HR.out).ext h).c 0 _ rfl, (h.cell (p := ⟨q1, o1 + k * 3, none⟩) hbu).trans v0⟩)
            refine rg_begin (S := (fun w' => Below u6.heap.size u6 w' ∧ w'.cell? ⟨w.heap.size + 1, 0, none⟩ = some (.slice (some ⟨q1, o1, none⟩) n c) ∧ w'.cell? ⟨w.heap.size + 1 + 1, 0, none⟩ = some (.int .i64 x.f) ∧ w'.cell? ⟨q1, o1 + k * 3, none⟩ = some (.int .i64 y.f))) 9 (by kernel_rfl) (by intro d; cases d <;> intro _ _ _ _ h <;> exact h) ?_ (fun Q7 hQ7 hN7 hHeld => ?_)
            · exact SS.out _ (ext_drew (ext_refl _))
            refine rg_take (i := 0) (some 73) (v := ?_) rfl rfl (by kernel_rfl) (by rfl) hQ7 hHeld ?_ ?_
            rotate_left
            · intro w7 hSw; (try dsimp only at hSw); go_simp; all_goals with_reducible rfl
            try simp only [Act.put, List.setIfInBounds_toArray, List.set_cons_zero, List.set_cons_succ]
            refine rg_take (i := 1) (some 74) (v := ?_) rfl rfl (by kernel_rfl) (by rfl) hQ7 hHeld ?_ ?_
            rotate_left
            · intro w7 hSw; (try dsimp only at hSw); go_simp; all_goals with_reducible rfl
            try simp only [Act.put, List.setIfInBounds_toArray, List.set_cons_zero, List.set_cons_succ]
            refine rg_take (i := 2) (some 75) (v := ?_) rfl rfl (by kernel_rfl) (by rfl) hQ7 hHeld ?_ ?_
            rotate_left
            · intro w7 hSw; (try dsimp only at hSw); go_simp; all_goals with_reducible rfl
            try simp only [Act.put, List.setIfInBounds_toArray, List.set_cons_zero, List.set_cons_succ]
            refine rg_take (i := 3) (some 76) (v := ?_) rfl rfl (by kernel_rfl) (by rfl) hQ7 hHeld ?_ ?_
            rotate_left
            · intro w7 hSw; (try dsimp only at hSw); go_simp; all_goals with_reducible rfl
            try simp only [Act.put, List.setIfInBounds_toArray, List.set_cons_zero, List.set_cons_succ]
            refine rg_take (i := 4) (some 77) (v := ?_) rfl rfl (by kernel_rfl) (by rfl) hQ7 hHeld ?_ ?_
            rotate_left
            · intro w7 hSw; (try dsimp only at hSw); go_simp; all_goals with_reducible rfl
            try simp only [Act.put, List.setIfInBounds_toArray, List.set_cons_zero, List.set_cons_succ]
            refine rg_take (i := 5) (some 78) (v := ?_) rfl rfl (by kernel_rfl) (by rfl) hQ7 hHeld ?_ ?_
            rotate_left
            · intro w7 hSw; (try dsimp only at hSw); go_simp; all_goals with_reducible rfl
            try simp only [Act.put, List.setIfInBounds_toArray, List.set_cons_zero, List.set_cons_succ]
            refine rg_take (i := 6) (some 79) (v := ?_) rfl rfl (by kernel_rfl) (by rfl) hQ7 hHeld ?_ ?_
            rotate_left
            · intro w7 hSw; (try dsimp only at hSw); go_simp; all_goals with_reducible rfl
            try simp only [Act.put, List.setIfInBounds_toArray, List.set_cons_zero, List.set_cons_succ]
            refine rg_take (i := 7) (some 80) (v := ?_) rfl rfl (by kernel_rfl) (by rfl) hQ7 hHeld ?_ ?_
            rotate_left
            · intro w7 hSw; (try dsimp only at hSw); go_simp; all_goals with_reducible rfl
            try simp only [Act.put, List.setIfInBounds_toArray, List.set_cons_zero, List.set_cons_succ]
            refine rg_take (i := 8) (some 81) (v := ?_) rfl rfl (by kernel_rfl) (by rfl) hQ7 hHeld ?_ ?_
            rotate_left
            · intro w7 hSw; (try dsimp only at hSw); go_simp; all_goals with_reducible rfl
            try simp only [Act.put, List.setIfInBounds_toArray, List.set_cons_zero, List.set_cons_succ]
            refine rg_end (by kernel_rfl) (hN7 _ _ ?_) _
            clear hQ7 hN7 Q7
            have BX := hHeld.1
            clear SS
            obtain ⟨u67, hu67⟩ : ∃ z, z = u6.drew := ⟨_, rfl⟩
            rw [← hu67] at BX ⊢
            clear hu67
            have HXn := Lib.hid (HX.out.ext BX)
            have HOn := Lib.hid (HO.out.ext BX)
            have HRn := Lib.hid (ext_trans HR.out BX)
            clear BX v0 v1 v2 hbu hcu
            go_wp2_with fail
            first | exact ⟨⟨k + 1, m, false, _, _, _, by omega, rfl, by go_num, HNX.out, by have q9 := HM.out; first | omega | (simp; omega), HXn.out, HOn.out, HRn.out⟩, by simp [intOf] <;> omega⟩ | (go_roundw; all_goals first | exact ⟨k + 1, m, false, _, _, _, by omega, rfl, by go_num, HNX.out, by have q9 := HM.out; first | omega | (simp; omega), HXn.out, HOn.out, HRn.out⟩ | (simp [intOf] <;> omega))
          · have e5 : (y.f != x.f) = true := by simpa using he
            have HNX : Hid (foldX x l (k + 1) = (false, X ++ [y])) := by rw [HSS.out]; exact (stepX_no (X := X) (.inr (by omega))).trans (by rw [if_neg he])
            clear he
            have SS := Lib.hid (show ∀ w', Below u6.heap.size u6 w' → (fun w' => Below u6.heap.size u6 w' ∧ w'.cell? ⟨w.heap.size + 1, 0, none⟩ = some (.slice (some ⟨q1, o1, none⟩) n c) ∧ w'.cell? ⟨w.heap.size + 1 + 1, 0, none⟩ = some (.int .i64 x.f) ∧ w'.cell? ⟨q1, o1 + k * 3, none⟩ = some (.int .i64 y.f)) w' from fun w' h => ⟨h, ((HSc.out.ext HR.out).ext h).c 0 _ rfl, ((HCc.out.ext HR.out).ext h).c 0 _ rfl, (h.cell (p := ⟨q1, o1 + k * 3, none⟩) hbu).trans v0⟩)
            refine rg_begin (S := (fun w' => Below u6.heap.size u6 w' ∧ w'.cell? ⟨w.heap.size + 1, 0, none⟩ = some (.slice (some ⟨q1, o1, none⟩) n c) ∧ w'.cell? ⟨w.heap.size + 1 + 1, 0, none⟩ = some (.int .i64 x.f) ∧ w'.cell? ⟨q1, o1 + k * 3, none⟩ = some (.int .i64 y.f))) 9 (by kernel_rfl) (by intro d; cases d <;> intro _ _ _ _ h <;> exact h) ?_ (fun Q7 hQ7 hN7 hHeld => ?_)
            · exact SS.out _ (ext_drew (ext_refl _))
            refine rg_take (i := 0) (some 73) (v := ?_) rfl rfl (by kernel_rfl) (by rfl) hQ7 hHeld ?_ ?_
            rotate_left
            · intro w7 hSw; (try dsimp only at hSw); go_simp; all_goals with_reducible rfl
            try simp only [Act.put, List.setIfInBounds_toArray, List.set_cons_zero, List.set_cons_succ]
            refine rg_take (i := 1) (some 74) (v := ?_) rfl rfl (by kernel_rfl) (by rfl) hQ7 hHeld ?_ ?_
            rotate_left
            · intro w7 hSw; (try dsimp only at hSw); go_simp; all_goals with_reducible rfl
            try simp only [Act.put, List.setIfInBounds_toArray, List.set_cons_zero, List.set_cons_succ]
            refine rg_take (i := 2) (some 75) (v := ?_) rfl rfl (by kernel_rfl) (by rfl) hQ7 hHeld ?_ ?_
            rotate_left
            · intro w7 hSw; (try dsimp only at hSw); go_simp; all_goals with_reducible rfl
            try simp only [Act.put, List.setIfInBounds_toArray, List.set_cons_zero, List.set_cons_succ]
            refine rg_take (i := 3) (some 76) (v := ?_) rfl rfl (by kernel_rfl) (by rfl) hQ7 hHeld ?_ ?_
            rotate_left
            · intro w7 hSw; (try dsimp only at hSw); go_simp; all_goals with_reducible rfl
            try simp only [Act.put, List.setIfInBounds_toArray, List.set_cons_zero, List.set_cons_succ]
            refine rg_take (i := 4) (some 77) (v := ?_) rfl rfl (by kernel_rfl) (by rfl) hQ7 hHeld ?_ ?_
            rotate_left
            · intro w7 hSw; (try dsimp only at hSw); go_simp; all_goals with_reducible rfl
            try simp only [Act.put, List.setIfInBounds_toArray, List.set_cons_zero, List.set_cons_succ]
            refine rg_take (i := 5) (some 78) (v := ?_) rfl rfl (by kernel_rfl) (by rfl) hQ7 hHeld ?_ ?_
            rotate_left
            · intro w7 hSw; (try dsimp only at hSw); go_simp; all_goals with_reducible rfl
            try simp only [Act.put, List.setIfInBounds_toArray, List.set_cons_zero, List.set_cons_succ]
            refine rg_take (i := 6) (some 79) (v := ?_) rfl rfl (by kernel_rfl) (by rfl) hQ7 hHeld ?_ ?_
            rotate_left
            · intro w7 hSw; (try dsimp only at hSw); go_simp; all_goals with_reducible rfl
            try simp only [Act.put, List.setIfInBounds_toArray, List.set_cons_zero, List.set_cons_succ]
            refine rg_take (i := 7) (some 80) (v := ?_) rfl rfl (by kernel_rfl) (by rfl) hQ7 hHeld ?_ ?_
            rotate_left
            · intro w7 hSw; (try dsimp only at hSw); go_simp; all_goals with_reducible rfl
            try simp only [Act.put, List.setIfInBounds_toArray, List.set_cons_zero, List.set_cons_succ]
            refine rg_take (i := 8) (some 81) (v := ?_) rfl rfl (by kernel_rfl) (by rfl) hQ7 hHeld ?_ ?_
            rotate_left
            · intro w7 hSw; (try dsimp only at hSw); go_simp; all_goals with_reducible rfl
            try simp only [Act.put, List.setIfInBounds_toArray, List.set_cons_zero, List.set_cons_succ]
            refine rg_end (by kernel_rfl) (hN7 _ _ ?_) _
            clear hQ7 hN7 Q7
            have BX := hHeld.1
            clear SS
            obtain ⟨u68, hu68⟩ : ∃ z, z = u6.drew := ⟨_, rfl⟩
            rw [← hu68] at BX ⊢
            clear hu68
            have HXn := Lib.hid (HX.out.ext BX)
            have HOn := Lib.hid (HO.out.ext BX)
            have HRn := Lib.hid (ext_trans HR.out BX)
            clear BX v0 v1 v2 hbu hcu
            go_wp2_with fail
            have v0 := (HRn.out.cell (p := ⟨q1, o1 + k * 3, none⟩) hb1).trans D0.out
            have v1 := (HRn.out.cell (p := ⟨q1, o1 + k * 3 + 1, none⟩) hb1).trans D1.out
            have v2 := (HRn.out.cell (p := ⟨q1, o1 + k * 3 + 2, none⟩) hb1).trans D2.out
            have hbu : q1 < u68.heap.size := Nat.lt_of_lt_of_le hb1 HRn.out.size
            have hcu : wc.heap.size ≤ u68.heap.size := HRn.out.size
            obtain ⟨Wk, hk1, hk2, hk3, hk4⟩ := cut_at HRn.out HXn.out
            have HK2 := Lib.hid hk2
            have HK3 := Lib.hid hk3
            have HK4 := Lib.hid hk4
            have HK1 := Lib.hid hk1
            clear hk1 hk2 hk3 hk4
            have HSk := Lib.hid (HSc.out.ext HK3.out)
            have V0 := Lib.hid ((HK3.out.cell (p := ⟨q1, o1 + k * 3, none⟩) hb1).trans D0.out)
            have V1 := Lib.hid ((HK3.out.cell (p := ⟨q1, o1 + k * 3 + 1, none⟩) hb1).trans D1.out)
            have V2 := Lib.hid ((HK3.out.cell (p := ⟨q1, o1 + k * 3 + 2, none⟩) hb1).trans D2.out)
            have hbk : q1 < Wk.heap.size := Nat.lt_of_lt_of_le hb1 HK3.out.size
            clear v0 v1 v2 hbu hcu
            have SS := Lib.hid (show ∀ w', Below Wk.heap.size Wk w' → (fun w' => Below Wk.heap.size Wk w' ∧ w'.cell? ⟨wc.heap.size, 0, none⟩ = some (.slice A2 (m) c3) ∧ w'.cell? ⟨w.heap.size + 1, 0, none⟩ = some (.slice (some ⟨q1, o1, none⟩) n c) ∧ w'.cell? ⟨q1, o1 + k * 3, none⟩ = some (.int .i64 y.f) ∧ w'.cell? ⟨q1, o1 + k * 3 + 1, none⟩ = some (.int .i64 y.cfg) ∧ w'.cell? ⟨q1, o1 + k * 3 + 2, none⟩ = some (.slice y.ms.A y.ms.l.length y.ms.c)) w' from fun w' h => ⟨h, (HK4.out.ext h).c 0 _ rfl, (HSk.out.ext h).c 0 _ rfl, (h.cell (p := ⟨q1, o1 + k * 3, none⟩) hbk).trans V0.out, (h.cell (p := ⟨q1, o1 + k * 3 + 1, none⟩) hbk).trans V1.out, (h.cell (p := ⟨q1, o1 + k * 3 + 2, none⟩) hbk).trans V2.out⟩)
            refine rg_begin (S := (fun w' => Below Wk.heap.size Wk w' ∧ w'.cell? ⟨wc.heap.size, 0, none⟩ = some (.slice A2 (m) c3) ∧ w'.cell? ⟨w.heap.size + 1, 0, none⟩ = some (.slice (some ⟨q1, o1, none⟩) n c) ∧ w'.cell? ⟨q1, o1 + k * 3, none⟩ = some (.int .i64 y.f) ∧ w'.cell? ⟨q1, o1 + k * 3 + 1, none⟩ = some (.int .i64 y.cfg) ∧ w'.cell? ⟨q1, o1 + k * 3 + 2, none⟩ = some (.slice y.ms.A y.ms.l.length y.ms.c))) 10 (by kernel_rfl) (by intro d; cases d <;> intro _ _ _ _ h <;> exact h) ?_ (fun Q7 hQ7 hN7 hHeld => ?_)
            · exact SS.out _ (ext_drew HK2.out)
            refine rg_take (i := 0) (some 82) (v := ?_) rfl rfl (by kernel_rfl) (by rfl) hQ7 hHeld ?_ ?_
            rotate_left
            · intro w7 hSw; (try dsimp only at hSw); go_simp; all_goals with_reducible rfl
            try simp only [Act.put, List.setIfInBounds_toArray, List.set_cons_zero, List.set_cons_succ]
            refine rg_take (i := 1) (some 83) (v := ?_) rfl rfl (by kernel_rfl) (by rfl) hQ7 hHeld ?_ ?_
            rotate_left
            · intro w7 hSw; (try dsimp only at hSw); go_simp; all_goals with_reducible rfl
            try simp only [Act.put, List.setIfInBounds_toArray, List.set_cons_zero, List.set_cons_succ]
            refine rg_take (i := 2) (some 84) (v := ?_) rfl rfl (by kernel_rfl) (by rfl) hQ7 hHeld ?_ ?_
            rotate_left
            · intro w7 hSw; (try dsimp only at hSw); go_simp; all_goals with_reducible rfl
            try simp only [Act.put, List.setIfInBounds_toArray, List.set_cons_zero, List.set_cons_succ]
            refine rg_take (i := 3) (some 85) (v := ?_) rfl rfl (by kernel_rfl) (by rfl) hQ7 hHeld ?_ ?_
            rotate_left
            · intro w7 hSw; (try dsimp only at hSw); go_simp; all_goals with_reducible rfl
            try simp only [Act.put, List.setIfInBounds_toArray, List.set_cons_zero, List.set_cons_succ]
            refine rg_take (i := 4) (some 86) (v := ?_) rfl rfl (by kernel_rfl) (by rfl) hQ7 hHeld ?_ ?_
            rotate_left
            · intro w7 hSw; (try dsimp only at hSw); go_simp; all_goals with_reducible rfl
            try simp only [Act.put, List.setIfInBounds_toArray, List.set_cons_zero, List.set_cons_succ]
            refine rg_take (i := 5) (some 87) (v := ?_) rfl rfl (by kernel_rfl) (by rfl) hQ7 hHeld ?_ ?_
            rotate_left
            · intro w7 hSw; (try dsimp only at hSw); go_simp; all_goals with_reducible rfl
            try simp only [Act.put, List.setIfInBounds_toArray, List.set_cons_zero, List.set_cons_succ]
            refine rg_take (i := 6) (some 88) (v := ?_) rfl rfl (by kernel_rfl) (by rfl) hQ7 hHeld ?_ ?_
            rotate_left
            · intro w7 hSw; (try dsimp only at hSw); go_simp; all_goals with_reducible rfl
            try simp only [Act.put, List.setIfInBounds_toArray, List.set_cons_zero, List.set_cons_succ]
            refine rg_one (i := 7) (by kernel_rfl) (rg_step rfl (by rfl) (fun K hK => ?_))
            go_simp
            refine hK.out _ _ ?_ (fun hHeld2 => ?_)
            · exact SS.out _ (ext_alloc hHeld.1 _)
            clear hHeld
            have hHeld := hHeld2
            clear hHeld2
            clear hK K
            try simp only [Act.put, List.setIfInBounds_toArray, List.set_cons_zero, List.set_cons_succ]
            refine rg_one (i := 8) (by kernel_rfl) (rg_step rfl (by rfl) (fun K hK => ?_))
            refine rg_append (some 90) _ _ 29 29 rfl rfl rfl _ _ rfl rfl (Own.append_k (w0 := Wk) chI 29 (HK1.out.symm ▸ (HOn.out.drew_.alloc (.cells #[.int .i64 y.f, .int .i64 y.cfg, .slice y.ms.A y.ms.l.length y.ms.c] 34))) hHeld.1 (ys := [y]) (m := 1) rfl 1 (slc_litH _ [y] #[.int .i64 y.f, .int .i64 y.cfg, .slice y.ms.A y.ms.l.length y.ms.c] 34 (enc := Chg.cells) (sz := 3) (fun _ => rfl) rfl _ rfl) (X ++ [y]) rfl (m + 1) (by have q9 := HM.out; first | omega | (simp; omega)) (by omega) (by unfold maxLen; omega)) ?_
            rintro _ w9 ⟨A9, c9, rfl, hO9, hB9, hg9, hl9, hm9⟩
            refine hK.out _ _ ?_ (fun hHeld2 => ?_)
            · exact SS.out _ hB9
            clear hHeld
            have hHeld := hHeld2
            clear hHeld2
            clear hK K
            try simp only [Act.put, List.setIfInBounds_toArray, List.set_cons_zero, List.set_cons_succ]
            refine rg_take (i := 9) (some 91) (v := ?_) rfl rfl (by kernel_rfl) (by rfl) hQ7 hHeld ?_ ?_
            rotate_left
            · intro w7 hSw; (try dsimp only at hSw); go_simp; all_goals with_reducible rfl
            try simp only [Act.put, List.setIfInBounds_toArray, List.set_cons_zero, List.set_cons_succ]
            have y9 := HK4.out.ext hHeld.1
            have y0 := y9.c 0 _ rfl
            have yf := y9.f
            have yl := y9.lt
            clear y9
            refine rg_one (i := 10) (by kernel_rfl) (rg_late rfl (by rfl) (by kernel_rfl) (fun K hK => ?_))
            go_simp
            refine hK.out _ _ ?_
            clear hK K
            try simp only [Act.put, List.setIfInBounds_toArray, List.set_cons_zero, List.set_cons_succ]
            refine rg_end (by kernel_rfl) (hN7 _ _ ?_) _
            clear hQ7 hN7 Q7
            have BX := hHeld.1
            clear SS
            have BK := BX
            have HXs := Lib.hid ((HK4.out.ext BK).set (j := 0) (by simp) (.slice A9 (m + 1) c9))
            have HOs := Lib.hid (Own.far_set (u := .slice A9 (m + 1) c9) (HK1.out ▸ hO9) (p := ⟨wc.heap.size, 0, none⟩) (by show wc.heap.size < _; omega))
            have HRs := Lib.hid (below_set (ext_trans HK3.out BK) ⟨wc.heap.size, 0, none⟩ (.slice A9 (m + 1) c9) (Nat.le_refl _))
            clear BX BK hHeld y0 yf yl
            go_wp2_with fail
            first | exact ⟨⟨k + 1, m + 1, false, _, _, _, by omega, rfl, by go_num, HNX.out, by have q9 := HM.out; first | omega | (simp; omega), HXs.out, HOs.out, HRs.out⟩, by simp [intOf] <;> omega⟩ | (go_roundw; all_goals first | exact ⟨k + 1, m + 1, false, _, _, _, by omega, rfl, by go_num, HNX.out, by have q9 := HM.out; first | omega | (simp; omega), HXs.out, HOs.out, HRs.out⟩ | (simp [intOf] <;> omega))
      · have v0 := (HR.out.cell (p := ⟨q1, o1 + k * 3, none⟩) hb1).trans D0.out
        have v1 := (HR.out.cell (p := ⟨q1, o1 + k * 3 + 1, none⟩) hb1).trans D1.out
        have v2 := (HR.out.cell (p := ⟨q1, o1 + k * 3 + 2, none⟩) hb1).trans D2.out
        have hbu : q1 < wr.heap.size := Nat.lt_of_lt_of_le hb1 HR.out.size
        have hcu : wc.heap.size ≤ wr.heap.size := HR.out.size
        go_wp2_with fail
        clear s0 sl
        have SS := Lib.hid (show ∀ w', Below wr.heap.size wr w' → (fun w' => Below wr.heap.size wr w' ∧ w'.cell? ⟨w.heap.size + 1, 0, none⟩ = some (.slice (some ⟨q1, o1, none⟩) n c) ∧ w'.cell? ⟨w.heap.size + 1 + 1, 0, none⟩ = some (.int .i64 x.f) ∧ w'.cell? ⟨q1, o1 + k * 3, none⟩ = some (.int .i64 y.f)) w' from fun w' h => ⟨h, ((HSc.out.ext HR.out).ext h).c 0 _ rfl, ((HCc.out.ext HR.out).ext h).c 0 _ rfl, (h.cell (p := ⟨q1, o1 + k * 3, none⟩) hbu).trans v0⟩)
        refine rg_begin (S := (fun w' => Below wr.heap.size wr w' ∧ w'.cell? ⟨w.heap.size + 1, 0, none⟩ = some (.slice (some ⟨q1, o1, none⟩) n c) ∧ w'.cell? ⟨w.heap.size + 1 + 1, 0, none⟩ = some (.int .i64 x.f) ∧ w'.cell? ⟨q1, o1 + k * 3, none⟩ = some (.int .i64 y.f))) 13 (by kernel_rfl) (by intro d; cases d <;> intro _ _ _ _ h <;> exact h) ?_ (fun Q7 hQ7 hN7 hHeld => ?_)
        · exact SS.out _ (ext_drew (ext_refl _))
        refine rg_take (i := 0) (some 54) (v := ?_) rfl rfl (by kernel_rfl) (by rfl) hQ7 hHeld ?_ ?_
        rotate_left
        · intro w7 hSw; (try dsimp only at hSw); go_simp; all_goals with_reducible rfl
        try simp only [Act.put, List.setIfInBounds_toArray, List.set_cons_zero, List.set_cons_succ]
        refine rg_take (i := 1) (some 55) (v := ?_) rfl rfl (by kernel_rfl) (by rfl) hQ7 hHeld ?_ ?_
        rotate_left
        · intro w7 hSw; (try dsimp only at hSw); go_simp; all_goals with_reducible rfl
        try simp only [Act.put, List.setIfInBounds_toArray, List.set_cons_zero, List.set_cons_succ]
        refine rg_take (i := 2) (some 56) (v := ?_) rfl rfl (by kernel_rfl) (by rfl) hQ7 hHeld ?_ ?_
        rotate_left
        · intro w7 hSw; (try dsimp only at hSw); go_simp; all_goals with_reducible rfl
        try simp only [Act.put, List.setIfInBounds_toArray, List.set_cons_zero, List.set_cons_succ]
        refine rg_skip (i := 3) (some 57) rfl rfl (by kernel_rfl) (by rfl) hQ7 hHeld ?_
        try simp only [Act.put, List.setIfInBounds_toArray, List.set_cons_zero, List.set_cons_succ]
        refine rg_skip (i := 4) (some 58) rfl rfl (by kernel_rfl) (by rfl) hQ7 hHeld ?_
        try simp only [Act.put, List.setIfInBounds_toArray, List.set_cons_zero, List.set_cons_succ]
        refine rg_skip (i := 5) (some 59) rfl rfl (by kernel_rfl) (by rfl) hQ7 hHeld ?_
        try simp only [Act.put, List.setIfInBounds_toArray, List.set_cons_zero, List.set_cons_succ]
        refine rg_skip (i := 6) (some 60) rfl rfl (by kernel_rfl) (by rfl) hQ7 hHeld ?_
        try simp only [Act.put, List.setIfInBounds_toArray, List.set_cons_zero, List.set_cons_succ]
        refine rg_skip (i := 7) (some 61) rfl rfl (by kernel_rfl) (by rfl) hQ7 hHeld ?_
        try simp only [Act.put, List.setIfInBounds_toArray, List.set_cons_zero, List.set_cons_succ]
        refine rg_skip (i := 8) (some 62) rfl rfl (by kernel_rfl) (by rfl) hQ7 hHeld ?_
        try simp only [Act.put, List.setIfInBounds_toArray, List.set_cons_zero, List.set_cons_succ]
        refine rg_skip (i := 9) (some 63) rfl rfl (by kernel_rfl) (by rfl) hQ7 hHeld ?_
        try simp only [Act.put, List.setIfInBounds_toArray, List.set_cons_zero, List.set_cons_succ]
        refine rg_skip (i := 10) (some 64) rfl rfl (by kernel_rfl) (by rfl) hQ7 hHeld ?_
        try simp only [Act.put, List.setIfInBounds_toArray, List.set_cons_zero, List.set_cons_succ]
        refine rg_skip (i := 11) (some 65) rfl rfl (by kernel_rfl) (by rfl) hQ7 hHeld ?_
        try simp only [Act.put, List.setIfInBounds_toArray, List.set_cons_zero, List.set_cons_succ]
        refine rg_take (i := 12) (some 66) (v := ?_) rfl rfl (by kernel_rfl) (by rfl) hQ7 hHeld ?_ ?_
        rotate_left
        · intro w7 hSw; (try dsimp only at hSw); go_simp; all_goals with_reducible rfl
        try simp only [Act.put, List.setIfInBounds_toArray, List.set_cons_zero, List.set_cons_succ]
        refine rg_end (by kernel_rfl) (hN7 _ _ ?_) _
        clear hQ7 hN7 Q7
        have BX := hHeld.1
        clear SS
        obtain ⟨u6, hu6⟩ : ∃ z, z = wr.drew := ⟨_, rfl⟩
        rw [← hu6] at BX ⊢
        clear hu6
        have HXn := Lib.hid (HX.out.ext BX)
        have HOn := Lib.hid (HO.out.ext BX)
        have HRn := Lib.hid (ext_trans HR.out BX)
        clear BX v0 v1 v2 hbu hcu
        go_wp2_with fail
        clear HX HO HR
        obtain ⟨HX, HO, HR⟩ : _ ∧ _ ∧ _ := ⟨HXn, HOn, HRn⟩
        clear HXn HOn HRn
        have v0 := (HR.out.cell (p := ⟨q1, o1 + k * 3, none⟩) hb1).trans D0.out
        have v1 := (HR.out.cell (p := ⟨q1, o1 + k * 3 + 1, none⟩) hb1).trans D1.out
        have v2 := (HR.out.cell (p := ⟨q1, o1 + k * 3 + 2, none⟩) hb1).trans D2.out
        have hbu : q1 < u6.heap.size := Nat.lt_of_lt_of_le hb1 HR.out.size
        have hcu : wc.heap.size ≤ u6.heap.size := HR.out.size
        by_cases he : y.f = x.f
        · have e5 : (y.f != x.f) = false := by simpa using he
          have HNX : Hid (foldX x l (k + 1) = (true, X)) := by rw [HSS.out]; exact (stepX_no (d := true) (X := X) (.inl rfl)).trans (by rw [if_pos he])
          clear he
          have SS := Lib.hid (show ∀ w', Below u6.heap.size u6 w' → (fun w' => Below u6.heap.size u6 w' ∧ w'.cell? ⟨w.heap.size + 1, 0, none⟩ = some (.slice (some ⟨q1, o1, none⟩) n c) ∧ w'.cell? ⟨w.heap.size + 1 + 1, 0, none⟩ = some (.int .i64 x.f) ∧ w'.cell? ⟨q1, o1 + k * 3, none⟩ = some (.int .i64 y.f)) w' from fun w' h => ⟨h, ((HSc.out.ext HR.out).ext h).c 0 _ rfl, ((HCc.out.ext HR.out).ext h).c 0 _ rfl, (h.cell (p := ⟨q1, o1 + k * 3, none⟩) hbu).trans v0⟩)
          refine rg_begin (S := (fun w' => Below u6.heap.size u6 w' ∧ w'.cell? ⟨w.heap.size + 1, 0, none⟩ = some (.slice (some ⟨q1, o1, none⟩) n c) ∧ w'.cell? ⟨w.heap.size + 1 + 1, 0, none⟩ = some (.int .i64 x.f) ∧ w'.cell? ⟨q1, o1 + k * 3, none⟩ = some (.int .i64 y.f))) 9 (by kernel_rfl) (by intro d; cases d <;> intro _ _ _ _ h <;> exact h) ?_ (fun Q7 hQ7 hN7 hHeld => ?_)
          · exact SS.out _ (ext_drew (ext_refl _))
          refine rg_take (i := 0) (some 73) (v := ?_) rfl rfl (by kernel_rfl) (by rfl) hQ7 hHeld ?_ ?_
          rotate_left
          · intro w7 hSw; (try dsimp only at hSw); go_simp; all_goals with_reducible rfl
          try simp only [Act.put, List.setIfInBounds_toArray, List.set_cons_zero, List.set_cons_succ]
          refine rg_take (i := 1) (some 74) (v := ?_) rfl rfl (by kernel_rfl) (by rfl) hQ7 hHeld ?_ ?_
          rotate_left
          · intro w7 hSw; (try dsimp only at hSw); go_simp; all_goals with_reducible rfl
          try simp only [Act.put, List.setIfInBounds_toArray, List.set_cons_zero, List.set_cons_succ]
          refine rg_take (i := 2) (some 75) (v := ?_) rfl rfl (by kernel_rfl) (by rfl) hQ7 hHeld ?_ ?_
          rotate_left
          · intro w7 hSw; (try dsimp only at hSw); go_simp; all_goals with_reducible rfl
          try simp only [Act.put, List.setIfInBounds_toArray, List.set_cons_zero, List.set_cons_succ]
          refine rg_take (i := 3) (some 76) (v := ?_) rfl rfl (by kernel_rfl) (by rfl) hQ7 hHeld ?_ ?_
          rotate_left
          · intro w7 hSw; (try dsimp only at hSw); go_simp; all_goals with_reducible rfl
          try simp only [Act.put, List.setIfInBounds_toArray, List.set_cons_zero, List.set_cons_succ]
          refine rg_take (i := 4) (some 77) (v := ?_) rfl rfl (by kernel_rfl) (by rfl) hQ7 hHeld ?_ ?_
          rotate_left
          · intro w7 hSw; (try dsimp only at hSw); go_simp; all_goals with_reducible rfl
          try simp only [Act.put, List.setIfInBounds_toArray, List.set_cons_zero, List.set_cons_succ]
          refine rg_take (i := 5) (some 78) (v := ?_) rfl rfl (by kernel_rfl) (by rfl) hQ7 hHeld ?_ ?_
          rotate_left
          · intro w7 hSw; (try dsimp only at hSw); go_simp; all_goals with_reducible rfl
          try simp only [Act.put, List.setIfInBounds_toArray, List.set_cons_zero, List.set_cons_succ]
          refine rg_take (i := 6) (some 79) (v := ?_) rfl rfl (by kernel_rfl) (by rfl) hQ7 hHeld ?_ ?_
          rotate_left
          · intro w7 hSw; (try dsimp only at hSw); go_simp; all_goals with_reducible rfl
          try simp only [Act.put, List.setIfInBounds_toArray, List.set_cons_zero, List.set_cons_succ]
          refine rg_take (i := 7) (some 80) (v := ?_) rfl rfl (by kernel_rfl) (by rfl) hQ7 hHeld ?_ ?_
          rotate_left
          · intro w7 hSw; (try dsimp only at hSw); go_simp; all_goals with_reducible rfl
          try simp only [Act.put, List.setIfInBounds_toArray, List.set_cons_zero, List.set_cons_succ]
          refine rg_take (i := 8) (some 81) (v := ?_) rfl rfl (by kernel_rfl) (by rfl) hQ7 hHeld ?_ ?_
          rotate_left
          · intro w7 hSw; (try dsimp only at hSw); go_simp; all_goals with_reducible rfl
          try simp only [Act.put, List.setIfInBounds_toArray, List.set_cons_zero, List.set_cons_succ]
          refine rg_end (by kernel_rfl) (hN7 _ _ ?_) _
          clear hQ7 hN7 Q7
          have BX := hHeld.1
          clear SS
          obtain ⟨u77, hu77⟩ : ∃ z, z = u6.drew := ⟨_, rfl⟩
          rw [← hu77] at BX ⊢
          clear hu77
          have HXn := Lib.hid (HX.out.ext BX)
          have HOn := Lib.hid (HO.out.ext BX)
          have HRn := Lib.hid (ext_trans HR.out BX)
          clear BX v0 v1 v2 hbu hcu
          go_wp2_with fail
          first | exact ⟨⟨k + 1, m, true, _, _, _, by omega, rfl, by go_num, HNX.out, by have q9 := HM.out; first | omega | (simp; omega), HXn.out, HOn.out, HRn.out⟩, by simp [intOf] <;> omega⟩ | (go_roundw; all_goals first | exact ⟨k + 1, m, true, _, _, _, by omega, rfl, by go_num, HNX.out, by have q9 := HM.out; first | omega | (simp; omega), HXn.out, HOn.out, HRn.out⟩ | (simp [intOf] <;> omega))
        · have e5 : (y.f != x.f) = true := by simpa using he
          have HNX : Hid (foldX x l (k + 1) = (true, X ++ [y])) := by rw [HSS.out]; exact (stepX_no (d := true) (X := X) (.inl rfl)).trans (by rw [if_neg he])
          clear he
          have SS := Lib.hid (show ∀ w', Below u6.heap.size u6 w' → (fun w' => Below u6.heap.size u6 w' ∧ w'.cell? ⟨w.heap.size + 1, 0, none⟩ = some (.slice (some ⟨q1, o1, none⟩) n c) ∧ w'.cell? ⟨w.heap.size + 1 + 1, 0, none⟩ = some (.int .i64 x.f) ∧ w'.cell? ⟨q1, o1 + k * 3, none⟩ = some (.int .i64 y.f)) w' from fun w' h => ⟨h, ((HSc.out.ext HR.out).ext h).c 0 _ rfl, ((HCc.out.ext HR.out).ext h).c 0 _ rfl, (h.cell (p := ⟨q1, o1 + k * 3, none⟩) hbu).trans v0⟩)
          refine rg_begin (S := (fun w' => Below u6.heap.size u6 w' ∧ w'.cell? ⟨w.heap.size + 1, 0, none⟩ = some (.slice (some ⟨q1, o1, none⟩) n c) ∧ w'.cell? ⟨w.heap.size + 1 + 1, 0, none⟩ = some (.int .i64 x.f) ∧ w'.cell? ⟨q1, o1 + k * 3, none⟩ = some (.int .i64 y.f))) 9 (by kernel_rfl) (by intro d; cases d <;> intro _ _ _ _ h <;> exact h) ?_ (fun Q7 hQ7 hN7 hHeld => ?_)
          · exact SS.out _ (ext_drew (ext_refl _))
          refine rg_take (i := 0) (some 73) (v := ?_) rfl rfl (by kernel_rfl) (by rfl) hQ7 hHeld ?_ ?_
          rotate_left
          · intro w7 hSw; (try dsimp only at hSw); go_simp; all_goals with_reducible rfl
          try simp only [Act.put, List.setIfInBounds_toArray, List.set_cons_zero, List.set_cons_succ]
          refine rg_take (i := 1) (some 74) (v := ?_) rfl rfl (by kernel_rfl) (by rfl) hQ7 hHeld ?_ ?_
          rotate_left
          · intro w7 hSw; (try dsimp only at hSw); go_simp; all_goals with_reducible rfl
          try simp only [Act.put, List.setIfInBounds_toArray, List.set_cons_zero, List.set_cons_succ]
          refine rg_take (i := 2) (some 75) (v := ?_) rfl rfl (by kernel_rfl) (by rfl) hQ7 hHeld ?_ ?_
          rotate_left
          · intro w7 hSw; (try dsimp only at hSw); go_simp; all_goals with_reducible rfl
          try simp only [Act.put, List.setIfInBounds_toArray, List.set_cons_zero, List.set_cons_succ]
          refine rg_take (i := 3) (some 76) (v := ?_) rfl rfl (by kernel_rfl) (by rfl) hQ7 hHeld ?_ ?_
          rotate_left
          · intro w7 hSw; (try dsimp only at hSw); go_simp; all_goals with_reducible rfl
          try simp only [Act.put, List.setIfInBounds_toArray, List.set_cons_zero, List.set_cons_succ]
          refine rg_take (i := 4) (some 77) (v := ?_) rfl rfl (by kernel_rfl) (by rfl) hQ7 hHeld ?_ ?_
          rotate_left
          · intro w7 hSw; (try dsimp only at hSw); go_simp; all_goals with_reducible rfl
          try simp only [Act.put, List.setIfInBounds_toArray, List.set_cons_zero, List.set_cons_succ]
          refine rg_take (i := 5) (some 78) (v := ?_) rfl rfl (by kernel_rfl) (by rfl) hQ7 hHeld ?_ ?_
          rotate_left
          · intro w7 hSw; (try dsimp only at hSw); go_simp; all_goals with_reducible rfl
          try simp only [Act.put, List.setIfInBounds_toArray, List.set_cons_zero, List.set_cons_succ]
          refine rg_take (i := 6) (some 79) (v := ?_) rfl rfl (by kernel_rfl) (by rfl) hQ7 hHeld ?_ ?_
          rotate_left
          · intro w7 hSw; (try dsimp only at hSw); go_simp; all_goals with_reducible rfl
          try simp only [Act.put, List.setIfInBounds_toArray, List.set_cons_zero, List.set_cons_succ]
          refine rg_take (i := 7) (some 80) (v := ?_) rfl rfl (by kernel_rfl) (by rfl) hQ7 hHeld ?_ ?_
          rotate_left
          · intro w7 hSw; (try dsimp only at hSw); go_simp; all_goals with_reducible rfl
          try simp only [Act.put, List.setIfInBounds_toArray, List.set_cons_zero, List.set_cons_succ]
          refine rg_take (i := 8) (some 81) (v := ?_) rfl rfl (by kernel_rfl) (by rfl) hQ7 hHeld ?_ ?_
          rotate_left
          · intro w7 hSw; (try dsimp only at hSw); go_simp; all_goals with_reducible rfl
          try simp only [Act.put, List.setIfInBounds_toArray, List.set_cons_zero, List.set_cons_succ]
          refine rg_end (by kernel_rfl) (hN7 _ _ ?_) _
          clear hQ7 hN7 Q7
          have BX := hHeld.1
          clear SS
          obtain ⟨u78, hu78⟩ : ∃ z, z = u6.drew := ⟨_, rfl⟩
          rw [← hu78] at BX ⊢
          clear hu78
          have HXn := Lib.hid (HX.out.ext BX)
          have HOn := Lib.hid (HO.out.ext BX)
          have HRn := Lib.hid (ext_trans HR.out BX)
          clear BX v0 v1 v2 hbu hcu
          go_wp2_with fail
          have v0 := (HRn.out.cell (p := ⟨q1, o1 + k * 3, none⟩) hb1).trans D0.out
          have v1 := (HRn.out.cell (p := ⟨q1, o1 + k * 3 + 1, none⟩) hb1).trans D1.out
          have v2 := (HRn.out.cell (p := ⟨q1, o1 + k * 3 + 2, none⟩) hb1).trans D2.out
          have hbu : q1 < u78.heap.size := Nat.lt_of_lt_of_le hb1 HRn.out.size
          have hcu : wc.heap.size ≤ u78.heap.size := HRn.out.size
          obtain ⟨Wk, hk1, hk2, hk3, hk4⟩ := cut_at HRn.out HXn.out
          have HK2 := Lib.hid hk2
          have HK3 := Lib.hid hk3
          have HK4 := Lib.hid hk4
          have HK1 := Lib.hid hk1
          clear hk1 hk2 hk3 hk4
          have HSk := Lib.hid (HSc.out.ext HK3.out)
          have V0 := Lib.hid ((HK3.out.cell (p := ⟨q1, o1 + k * 3, none⟩) hb1).trans D0.out)
          have V1 := Lib.hid ((HK3.out.cell (p := ⟨q1, o1 + k * 3 + 1, none⟩) hb1).trans D1.out)
          have V2 := Lib.hid ((HK3.out.cell (p := ⟨q1, o1 + k * 3 + 2, none⟩) hb1).trans D2.out)
          have hbk : q1 < Wk.heap.size := Nat.lt_of_lt_of_le hb1 HK3.out.size
          clear v0 v1 v2 hbu hcu
          have SS := Lib.hid (show ∀ w', Below Wk.heap.size Wk w' → (fun w' => Below Wk.heap.size Wk w' ∧ w'.cell? ⟨wc.heap.size, 0, none⟩ = some (.slice A2 (m) c3) ∧ w'.cell? ⟨w.heap.size + 1, 0, none⟩ = some (.slice (some ⟨q1, o1, none⟩) n c) ∧ w'.cell? ⟨q1, o1 + k * 3, none⟩ = some (.int .i64 y.f) ∧ w'.cell? ⟨q1, o1 + k * 3 + 1, none⟩ = some (.int .i64 y.cfg) ∧ w'.cell? ⟨q1, o1 + k * 3 + 2, none⟩ = some (.slice y.ms.A y.ms.l.length y.ms.c)) w' from fun w' h => ⟨h, (HK4.out.ext h).c 0 _ rfl, (HSk.out.ext h).c 0 _ rfl, (h.cell (p := ⟨q1, o1 + k * 3, none⟩) hbk).trans V0.out, (h.cell (p := ⟨q1, o1 + k * 3 + 1, none⟩) hbk).trans V1.out, (h.cell (p := ⟨q1, o1 + k * 3 + 2, none⟩) hbk).trans V2.out⟩)
          refine rg_begin (S := (fun w' => Below Wk.heap.size Wk w' ∧ w'.cell? ⟨wc.heap.size, 0, none⟩ = some (.slice A2 (m) c3) ∧ w'.cell? ⟨w.heap.size + 1, 0, none⟩ = some (.slice (some ⟨q1, o1, none⟩) n c) ∧ w'.cell? ⟨q1, o1 + k * 3, none⟩ = some (.int .i64 y.f) ∧ w'.cell? ⟨q1, o1 + k * 3 + 1, none⟩ = some (.int .i64 y.cfg) ∧ w'.cell? ⟨q1, o1 + k * 3 + 2, none⟩ = some (.slice y.ms.A y.ms.l.length y.ms.c))) 10 (by kernel_rfl) (by intro d; cases d <;> intro _ _ _ _ h <;> exact h) ?_ (fun Q7 hQ7 hN7 hHeld => ?_)
          · exact SS.out _ (ext_drew HK2.out)
          refine rg_take (i := 0) (some 82) (v := ?_) rfl rfl (by kernel_rfl) (by rfl) hQ7 hHeld ?_ ?_
          rotate_left
          · intro w7 hSw; (try dsimp only at hSw); go_simp; all_goals with_reducible rfl
          try simp only [Act.put, List.setIfInBounds_toArray, List.set_cons_zero, List.set_cons_succ]
          refine rg_take (i := 1) (some 83) (v := ?_) rfl rfl (by kernel_rfl) (by rfl) hQ7 hHeld ?_ ?_
          rotate_left
          · intro w7 hSw; (try dsimp only at hSw); go_simp; all_goals with_reducible rfl
          try simp only [Act.put, List.setIfInBounds_toArray, List.set_cons_zero, List.set_cons_succ]
          refine rg_take (i := 2) (some 84) (v := ?_) rfl rfl (by kernel_rfl) (by rfl) hQ7 hHeld ?_ ?_
          rotate_left
          · intro w7 hSw; (try dsimp only at hSw); go_simp; all_goals with_reducible rfl
          try simp only [Act.put, List.setIfInBounds_toArray, List.set_cons_zero, List.set_cons_succ]
          refine rg_take (i := 3) (some 85) (v := ?_) rfl rfl (by kernel_rfl) (by rfl) hQ7 hHeld ?_ ?_
          rotate_left
          · intro w7 hSw; (try dsimp only at hSw); go_simp; all_goals with_reducible rfl
          try simp only [Act.put, List.setIfInBounds_toArray, List.set_cons_zero, List.set_cons_succ]
          refine rg_take (i := 4) (some 86) (v := ?_) rfl rfl (by kernel_rfl) (by rfl) hQ7 hHeld ?_ ?_
          rotate_left
          · intro w7 hSw; (try dsimp only at hSw); go_simp; all_goals with_reducible rfl
          try simp only [Act.put, List.setIfInBounds_toArray, List.set_cons_zero, List.set_cons_succ]
          refine rg_take (i := 5) (some 87) (v := ?_) rfl rfl (by kernel_rfl) (by rfl) hQ7 hHeld ?_ ?_
          rotate_left
          · intro w7 hSw; (try dsimp only at hSw); go_simp; all_goals with_reducible rfl
          try simp only [Act.put, List.setIfInBounds_toArray, List.set_cons_zero, List.set_cons_succ]
          refine rg_take (i := 6) (some 88) (v := ?_) rfl rfl (by kernel_rfl) (by rfl) hQ7 hHeld ?_ ?_
          rotate_left
          · intro w7 hSw; (try dsimp only at hSw); go_simp; all_goals with_reducible rfl
          try simp only [Act.put, List.setIfInBounds_toArray, List.set_cons_zero, List.set_cons_succ]
          refine rg_one (i := 7) (by kernel_rfl) (rg_step rfl (by rfl) (fun K hK => ?_))
          go_simp
          refine hK.out _ _ ?_ (fun hHeld2 => ?_)
          · exact SS.out _ (ext_alloc hHeld.1 _)
          clear hHeld
          have hHeld := hHeld2
          clear hHeld2
          clear hK K
          try simp only [Act.put, List.setIfInBounds_toArray, List.set_cons_zero, List.set_cons_succ]
          refine rg_one (i := 8) (by kernel_rfl) (rg_step rfl (by rfl) (fun K hK => ?_))
          refine rg_append (some 90) _ _ 29 29 rfl rfl rfl _ _ rfl rfl (Own.append_k (w0 := Wk) chI 29 (HK1.out.symm ▸ (HOn.out.drew_.alloc (.cells #[.int .i64 y.f, .int .i64 y.cfg, .slice y.ms.A y.ms.l.length y.ms.c] 34))) hHeld.1 (ys := [y]) (m := 1) rfl 1 (slc_litH _ [y] #[.int .i64 y.f, .int .i64 y.cfg, .slice y.ms.A y.ms.l.length y.ms.c] 34 (enc := Chg.cells) (sz := 3) (fun _ => rfl) rfl _ rfl) (X ++ [y]) rfl (m + 1) (by have q9 := HM.out; first | omega | (simp; omega)) (by omega) (by unfold maxLen; omega)) ?_
          rintro _ w9 ⟨A9, c9, rfl, hO9, hB9, hg9, hl9, hm9⟩
          refine hK.out _ _ ?_ (fun hHeld2 => ?_)
          · exact SS.out _ hB9
          clear hHeld
          have hHeld := hHeld2
          clear hHeld2
          clear hK K
          try simp only [Act.put, List.setIfInBounds_toArray, List.set_cons_zero, List.set_cons_succ]
          refine rg_take (i := 9) (some 91) (v := ?_) rfl rfl (by kernel_rfl) (by rfl) hQ7 hHeld ?_ ?_
          rotate_left
          · intro w7 hSw; (try dsimp only at hSw); go_simp; all_goals with_reducible rfl
          try simp only [Act.put, List.setIfInBounds_toArray, List.set_cons_zero, List.set_cons_succ]
          have y9 := HK4.out.ext hHeld.1
          have y0 := y9.c 0 _ rfl
          have yf := y9.f
          have yl := y9.lt
          clear y9
          refine rg_one (i := 10) (by kernel_rfl) (rg_late rfl (by rfl) (by kernel_rfl) (fun K hK => ?_))
          go_simp
          refine hK.out _ _ ?_
          clear hK K
          try simp only [Act.put, List.setIfInBounds_toArray, List.set_cons_zero, List.set_cons_succ]
          refine rg_end (by kernel_rfl) (hN7 _ _ ?_) _
          clear hQ7 hN7 Q7
          have BX := hHeld.1
          clear SS
          have BK := BX
          have HXs := Lib.hid ((HK4.out.ext BK).set (j := 0) (by simp) (.slice A9 (m + 1) c9))
          have HOs := Lib.hid (Own.far_set (u := .slice A9 (m + 1) c9) (HK1.out ▸ hO9) (p := ⟨wc.heap.size, 0, none⟩) (by show wc.heap.size < _; omega))
          have HRs := Lib.hid (below_set (ext_trans HK3.out BK) ⟨wc.heap.size, 0, none⟩ (.slice A9 (m + 1) c9) (Nat.le_refl _))
          clear BX BK hHeld y0 yf yl
          go_wp2_with fail
          first | exact ⟨⟨k + 1, m + 1, true, _, _, _, by omega, rfl, by go_num, HNX.out, by have q9 := HM.out; first | omega | (simp; omega), HXs.out, HOs.out, HRs.out⟩, by simp [intOf] <;> omega⟩ | (go_roundw; all_goals first | exact ⟨k + 1, m + 1, true, _, _, _, by omega, rfl, by go_num, HNX.out, by have q9 := HM.out; first | omega | (simp; omega), HXs.out, HOs.out, HRs.out⟩ | (simp [intOf] <;> omega))
    · have hltn : ¬ k < n := by have := HNN.out; omega
      have hlt' : decide ((k : Int) < n) = false := decide_eq_false (by omega)
      have HPUT := Lib.hid (foldX_put (c := x) HINC.out (show k = l.length by omega) HF.out)
      have s0 := (HSc.out.ext HR.out).c 0 _ rfl
      have sl := (HSc.out.ext HR.out).lt
      cases dn
      · have HP2 : Hid (X ++ [x] = putC l x) := HPUT.out
        have x0 := HX.out.c 0 _ rfl
        have xl := HX.out.lt
        have c0 := (HCc.out.ext HR.out).c 0 _ rfl
        have c1 := (HCc.out.ext HR.out).c 1 _ rfl
        have c2 := (HCc.out.ext HR.out).c 2 _ rfl
        have cl := (HCc.out.ext HR.out).lt
        obtain ⟨Wk, hk1, hk2, hk3, hk4⟩ := cut_at HR.out HX.out
        obtain ⟨v5, w5, hrun, A5, cp5, rfl, hO3, hB3, hg3, hl3, hm3⟩ := Own.append_k (w0 := Wk) chI 29 (hk1.symm ▸ (HO.out.alloc (.cells #[.int .i64 x.f, .int .i64 x.cfg, .slice x.ms.A x.ms.l.length x.ms.c] 34))) (ext_alloc hk2 _) (ys := [x]) (m := 1) rfl 1 (slc_litH wr [x] #[.int .i64 x.f, .int .i64 x.cfg, .slice x.ms.A x.ms.l.length x.ms.c] 34 (enc := Chg.cells) (sz := 3) (fun _ => rfl) rfl _ rfl) (X ++ [x]) rfl (m + 1) (by have := HM.out; simp; omega) (by omega) (by unfold maxLen; omega)
        have HRUN := Lib.hid hrun
        have HX3 := Lib.hid (hk4.ext hB3)
        have hXo := hO3
        rw [hk1] at hXo
        have HO3 := Lib.hid hXo
        have HR3 := Lib.hid (ext_trans hk3 (hk1 ▸ hB3 : Below Wk.heap.size Wk w5))
        clear hrun hO3 hXo hB3 hg3 hl3 hm3 hk1 hk2 hk3 hk4
        have y0 := HX3.out.c 0 _ rfl
        have yf := HX3.out.f
        have yl := HX3.out.lt
        obtain ⟨u5, hu5⟩ : ∃ z, w5.setCell ⟨wc.heap.size, 0, none⟩ (.slice A5 (m + 1) cp5) = z := ⟨_, rfl⟩
        have HX4 : Hid (Blk u5 wc.heap.size [.slice A5 (m + 1) cp5]) := by rw [← hu5]; exact HX3.out.set (j := 0) (by simp) _
        have HO4 : Hid (Own u5 (wc.heap.size + 1) 34 Chg.cells 3 (.slice A5 (m + 1) cp5) (X ++ [x])) := by rw [← hu5]; exact Own.far_set HO3.out (by show wc.heap.size < _; omega)
        have HR4 : Hid (Below wc.heap.size wc u5) := by rw [← hu5]; exact below_set HR3.out _ _ (Nat.le_refl _)
        have X0 := HX4.out.c 0 _ rfl
        have XL := HX4.out.lt
        have z0 := (HZc.out.ext HR4.out).c 0 _ rfl
        have zf := (HZc.out.ext HR4.out).f
        have zl := (HZc.out.ext HR4.out).lt
        have ZP := (HZc.out.ext HR4.out).set (j := 0) (by simp) (.slice A5 (m + 1) cp5)
        have ZE := Lib.hid (below_set (ext_trans HEc.out HR4.out) ⟨w.heap.size + 1 + 1 + 1, 0, none⟩ (.slice A5 (m + 1) cp5) (by show _ ≤ w.heap.size + 1 + 1 + 1; omega))
        have p0 := ZP.c 0 _ rfl
        have OZ := Lib.hid (Own.far_set (u := .slice A5 (m + 1) cp5) HO4.out (p := ⟨w.heap.size + 1 + 1 + 1, 0, none⟩) (by show w.heap.size + 1 + 1 + 1 < wc.heap.size + 1; omega))
        clear ZP
        go_wp2_with (first | (at_builtin; refine wpList_append_run rfl (.tmp 95) (.tmp 97) 29 rfl (.slice A2 m c3) (.slice (some ⟨wr.heap.size, 0, none⟩) 1 1) rfl rfl HRUN.out ?_) | fail)
        clear hu5 x0 xl c0 c1 c2 cl y0 yf yl HRUN HX3 HO3 HR3
        refine bodyPost_ret (v := .tuple #[.agg #[.slice A5 (m + 1) cp5], .int .i64 0]) (by simp [results, Tryz.results9, go_sem, p0]) rfl ?_
        unfold AddR
        rw [HL.out, HD.out, ← HP2.out]
        have hmx : m + 1 = (X ++ [x]).length := by have := HM.out; first | omega | (simp; omega)
        rw [hmx] at OZ ZE ⊢
        exact ⟨_, _, rfl, OZ.out.low (by omega), ZE.out⟩
      · have HP2 : Hid (X = putC l x) := HPUT.out
        have x0 := HX.out.c 0 _ rfl
        have xl := HX.out.lt
        have HZr := Lib.hid (HZc.out.ext HR.out)
        have z0 := HZr.out.c 0 _ rfl
        have zf := HZr.out.f
        have zl := HZr.out.lt
        have ZP := (HZc.out.ext HR.out).set (j := 0) (by simp) (.slice A2 m c3)
        have ZE := Lib.hid (below_set (ext_trans HEc.out HR.out) ⟨w.heap.size + 1 + 1 + 1, 0, none⟩ (.slice A2 m c3) (by show _ ≤ w.heap.size + 1 + 1 + 1; omega))
        have p0 := ZP.c 0 _ rfl
        have OZ := Lib.hid (Own.far_set (u := .slice A2 m c3) HO.out (p := ⟨w.heap.size + 1 + 1 + 1, 0, none⟩) (by show w.heap.size + 1 + 1 + 1 < wc.heap.size + 1; omega))
        clear ZP
        go_wp2_with fail
        refine bodyPost_ret (v := .tuple #[.agg #[.slice A2 m c3], .int .i64 0]) (by simp [results, Tryz.results9, go_sem, p0]) rfl ?_
        unfold AddR
        rw [HL.out, HD.out, ← HP2.out]
        have hmx : m = X.length := by have := HM.out; first | omega | (simp; omega)
        rw [hmx] at OZ ZE ⊢
        exact ⟨_, _, rfl, OZ.out.low (by omega), ZE.out⟩
theorem radd_at {t : Tab} {A : Option Addr} {n c : Nat} {l : List Chg} {x : Chg} {w : World} (hn : n = l.length) (ht : Tab.ok w t) (ha : Slc w Chg.cells 3 A l) (hl : l.length ≤ 1000) (hao : ∀ y ∈ l, Chg.ok w y) (hx : Chg.ok w x) :
    Calls Tryz.prog 9 #[t.v, .agg #[.slice A n c], x.v] w (AddR w t l x) := radd_any t A c l x n w hn ht ha hl hao hx
end Go.Proofs.YtilocjliplmmpaaGreat
