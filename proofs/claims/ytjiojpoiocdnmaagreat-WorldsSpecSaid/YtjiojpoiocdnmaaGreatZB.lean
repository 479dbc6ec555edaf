/- The reference's divisions: divided, divides. -/
import Derived.Test.YtjiojpoiocdnmaaGreatZA
import Derived.Test.YtjiojpoiocdnmaaGreatU11
set_option linter.unusedSimpArgs false
set_option linter.unusedVariables false
namespace Go.Proofs.YtjiojpoiocdnmaaGreat
open Go.RowKit
set_option maxRecDepth 100000 in
set_option maxHeartbeats 4000000 in
theorem rdiv_any (t : Tab) (w : World) (h0 : 1 ≤ t.n) (h1 : t.n ≤ 64) : Calls Tryz.prog 65 #[t.v] w fun e w' => ∃ b, e = .returned (.tuple #[aspV (some ⟨b, 0, none⟩) t.n.toNat t.n.toNat t.ss.A t.ss.l.length t.ss.c t.cs.A t.cs.l.length t.cs.c, .bool true]) ∧ Below w.heap.size w w' := by
 obtain ⟨f, hmk⟩ := mk86 t.n (by omega) h1
 have HX := Lib.hid ((Blk.newH w t.cells 28 w.heap.size rfl).alloc (.cells #[.slice none 0 0, .slice none 0 0, .slice none 0 0, .slice none 0 0, .slice none 0 0, .slice none 0 0, .slice none 0 0, .slice none 0 0] 156))
 have HE := Lib.hid (ext_alloc (ext_alloc (ext_refl w) (.cells #[.int .i64 t.n, .slice t.ss.A t.ss.l.length t.ss.c, .slice t.cs.A t.cs.l.length t.cs.c, .slice t.ws.A t.ws.l.length t.ws.c, .slice t.ms.A t.ms.l.length t.ms.c, .slice t.ks.A t.ks.l.length t.ks.c] 28)) (.cells #[.slice none 0 0, .slice none 0 0, .slice none 0 0, .slice none 0 0, .slice none 0 0, .slice none 0 0, .slice none 0 0, .slice none 0 0] 156))
 have HY := Lib.hid (Blk.newH (w.alloc (.cells #[.int .i64 t.n, .slice t.ss.A t.ss.l.length t.ss.c, .slice t.cs.A t.cs.l.length t.cs.c, .slice t.ws.A t.ws.l.length t.ws.c, .slice t.ms.A t.ms.l.length t.ms.c, .slice t.ks.A t.ks.l.length t.ks.c] 28)) [.slice none 0 0, .slice none 0 0, .slice none 0 0, .slice none 0 0, .slice none 0 0, .slice none 0 0, .slice none 0 0, .slice none 0 0] 156 (w.heap.size + 1) (by simp))
 obtain ⟨W, hW⟩ : ∃ W, (w.alloc (.cells #[.int .i64 t.n, .slice t.ss.A t.ss.l.length t.ss.c, .slice t.cs.A t.cs.l.length t.cs.c, .slice t.ws.A t.ws.l.length t.ws.c, .slice t.ms.A t.ms.l.length t.ms.c, .slice t.ks.A t.ks.l.length t.ks.c] 28)).alloc (.cells #[.slice none 0 0, .slice none 0 0, .slice none 0 0, .slice none 0 0, .slice none 0 0, .slice none 0 0, .slice none 0 0, .slice none 0 0] 156) = W := ⟨_, rfl⟩
 have hz : W.heap.size = w.heap.size + 2 := by rw [← hW]; simp
 rw [show (w.alloc (.cells t.cells.toArray 28)) = (w.alloc (.cells #[.int .i64 t.n, .slice t.ss.A t.ss.l.length t.ss.c, .slice t.cs.A t.cs.l.length t.cs.c, .slice t.ws.A t.ws.l.length t.ws.c, .slice t.ms.A t.ms.l.length t.ms.c, .slice t.ks.A t.ks.l.length t.ks.c] 28)) from rfl] at HX
 rw [hW] at HX HE HY
 have b0 := HX.out.c 0 _ rfl
 have bl := HX.out.lt
 have hin : inn t.n 1 64 = true := by simp [inn]; omega
 have HIN := Lib.hid hin
 clear hin
 go_enter Tryz.func65, Tryz.ntmps65
 go_wp2_with fail
 refine (inr_at true HIN.out).mono ?_
 rintro e w1 ⟨rfl, rfl⟩
 clear b0 bl
 go_wp2_with fail
 clear hW
 have SS := Lib.hid (show ∀ w', Below W.heap.size W w' → (fun w' => Below W.heap.size W w' ∧ w'.cell? ⟨w.heap.size, 0, none⟩ = some (.int .i64 t.n) ∧ w'.cell? ⟨w.heap.size, 1, none⟩ = some (.slice t.ss.A t.ss.l.length t.ss.c) ∧ w'.cell? ⟨w.heap.size, 2, none⟩ = some (.slice t.cs.A t.cs.l.length t.cs.c)) w' from fun w' h => ⟨h, (HX.out.ext h).c 0 _ rfl, (HX.out.ext h).c 1 _ rfl, (HX.out.ext h).c 2 _ rfl⟩)
 refine rgB 8 SS (ext_drew (ext_refl _)) (fun Q7 hQ7 hN7 hHeld => ?_)
 refine rgT 0 (some 9) hQ7 hHeld ?_; refine rgT 1 (some 10) hQ7 hHeld ?_; refine rgT 3 (some 12) hQ7 hHeld ?_; refine rgT 4 (some 13) hQ7 hHeld ?_; refine rgT 5 (some 14) hQ7 hHeld ?_; refine rgT 6 (some 15) hQ7 hHeld ?_
 refine rg_one (i := 2) (by kernel_rfl) (rg_step rfl (by rfl) (fun K hK => ?_))
 go_simp
 refine hK.out _ _ ?_ (fun hHeld2 => ?_)
 ·exact SS.out _ (ext_alloc hHeld.1 _)
 clear hHeld
 have hHeld := hHeld2
 clear hHeld2
 clear hK K
 try simp only [Act.put, List.setIfInBounds_toArray, List.set_cons_zero, List.set_cons_succ]
 refine rgT 7 (some 16) hQ7 hHeld ?_
 have y9 := HY.out
 have y0 := y9.c 0 _ rfl
 have y1 := y9.c 1 _ rfl
 have y2 := y9.c 2 _ rfl
 have y3 := y9.c 3 _ rfl
 have y4 := y9.c 4 _ rfl
 have y5 := y9.c 5 _ rfl
 have y6 := y9.c 6 _ rfl
 have y7 := y9.c 7 _ rfl
 have yf := y9.f
 have yl := y9.lt
 clear y9
 refine rg_one (i := 8) (by kernel_rfl) (rg_late rfl (by rfl) (by kernel_rfl) (fun K hK => ?_))
 go_simp
 refine hK.out _ _ ?_
 clear hK K
 try simp only [Act.put, List.setIfInBounds_toArray, List.set_cons_zero, List.set_cons_succ]
 refine rg_pure (i := 9) (some 3) (v := ?_) rfl rfl (by kernel_rfl) (by rfl) hQ7 (.inl (by kernel_rfl)) ?_ ?_
 rotate_left
 ·intro w7; go_simp; all_goals with_reducible rfl
 try simp only [Act.put, List.setIfInBounds_toArray, List.set_cons_zero, List.set_cons_succ]
 refine rg_end (by kernel_rfl) (hN7 _ _ ?_) _
 clear hQ7 hN7 Q7
 have BX := hHeld.1
 clear SS
 have BP := HY.out.put8 (.slice (some ⟨w.heap.size + 2, 0, none⟩) t.n.toNat t.n.toNat) (.slice t.ss.A t.ss.l.length t.ss.c) (.slice t.cs.A t.cs.l.length t.cs.c) (.slice none 0 0) (.slice none 0 0) (.slice none 0 0) (.slice none 0 0) (.slice none 0 0)
 have BE := ext_set8 HE.out (w.heap.size + 1) (.slice (some ⟨w.heap.size + 2, 0, none⟩) t.n.toNat t.n.toNat) (.slice t.ss.A t.ss.l.length t.ss.c) (.slice t.cs.A t.cs.l.length t.cs.c) (.slice none 0 0) (.slice none 0 0) (.slice none 0 0) (.slice none 0 0) (.slice none 0 0) (by omega)
 replace BP := (BP.alloc (f W.drew)).drew
 replace BE := ext_drew (ext_alloc BE (f W.drew))
 unfold set8 at BP BE
 have p0 := BP.c 0 _ rfl
 have p1 := BP.c 1 _ rfl
 have p2 := BP.c 2 _ rfl
 have p3 := BP.c 3 _ rfl
 have p4 := BP.c 4 _ rfl
 have p5 := BP.c 5 _ rfl
 have p6 := BP.c 6 _ rfl
 have p7 := BP.c 7 _ rfl
 have HBE := Lib.hid BE
 clear BP BE hmk y0 y1 y2 y3 y4 y5 y6 y7 yf yl BX hHeld
 go_wp2_with fail
 refine bodyPost_ret (v := .tuple #[aspV (some ⟨w.heap.size + 2, 0, none⟩) t.n.toNat t.n.toNat t.ss.A t.ss.l.length t.ss.c t.cs.A t.cs.l.length t.cs.c, .bool true]) (by simp [results, Tryz.results65, go_sem, p0, p1, p2, p3, p4, p5, p6, p7]) rfl ⟨_, rfl, HBE.out⟩
theorem rdiv_no (t : Tab) (w : World) (h : inn t.n 1 64 = false) : Calls Tryz.prog 65 #[t.v] w fun e w' => e = .returned (.tuple #[aspV none 0 0 none 0 0 none 0 0, .bool false]) ∧ Below w.heap.size w w' := by
 have HX := Lib.hid ((Blk.newH w t.cells 28 w.heap.size rfl).alloc (.cells #[.slice none 0 0, .slice none 0 0, .slice none 0 0, .slice none 0 0, .slice none 0 0, .slice none 0 0, .slice none 0 0, .slice none 0 0] 156))
 have HE := Lib.hid (ext_alloc (ext_alloc (ext_refl w) (.cells #[.int .i64 t.n, .slice t.ss.A t.ss.l.length t.ss.c, .slice t.cs.A t.cs.l.length t.cs.c, .slice t.ws.A t.ws.l.length t.ws.c, .slice t.ms.A t.ms.l.length t.ms.c, .slice t.ks.A t.ks.l.length t.ks.c] 28)) (.cells #[.slice none 0 0, .slice none 0 0, .slice none 0 0, .slice none 0 0, .slice none 0 0, .slice none 0 0, .slice none 0 0, .slice none 0 0] 156))
 have HY := Lib.hid (Blk.newH (w.alloc (.cells #[.int .i64 t.n, .slice t.ss.A t.ss.l.length t.ss.c, .slice t.cs.A t.cs.l.length t.cs.c, .slice t.ws.A t.ws.l.length t.ws.c, .slice t.ms.A t.ms.l.length t.ms.c, .slice t.ks.A t.ks.l.length t.ks.c] 28)) [.slice none 0 0, .slice none 0 0, .slice none 0 0, .slice none 0 0, .slice none 0 0, .slice none 0 0, .slice none 0 0, .slice none 0 0] 156 (w.heap.size + 1) (by simp))
 obtain ⟨W, hW⟩ : ∃ W, (w.alloc (.cells #[.int .i64 t.n, .slice t.ss.A t.ss.l.length t.ss.c, .slice t.cs.A t.cs.l.length t.cs.c, .slice t.ws.A t.ws.l.length t.ws.c, .slice t.ms.A t.ms.l.length t.ms.c, .slice t.ks.A t.ks.l.length t.ks.c] 28)).alloc (.cells #[.slice none 0 0, .slice none 0 0, .slice none 0 0, .slice none 0 0, .slice none 0 0, .slice none 0 0, .slice none 0 0, .slice none 0 0] 156) = W := ⟨_, rfl⟩
 rw [show (w.alloc (.cells t.cells.toArray 28)) = (w.alloc (.cells #[.int .i64 t.n, .slice t.ss.A t.ss.l.length t.ss.c, .slice t.cs.A t.cs.l.length t.cs.c, .slice t.ws.A t.ws.l.length t.ws.c, .slice t.ms.A t.ms.l.length t.ms.c, .slice t.ks.A t.ks.l.length t.ks.c] 28)) from rfl] at HX
 rw [hW] at HX HE HY
 have b0 := HX.out.c 0 _ rfl
 have bl := HX.out.lt
 have HIN := Lib.hid h
 clear h
 go_enter Tryz.func65, Tryz.ntmps65
 go_wp2_with fail
 refine (inr_at false HIN.out).mono ?_
 rintro e w1 ⟨rfl, rfl⟩
 have hz : w.heap.size + 1 < W.heap.size := by rw [← hW]; simp
 clear hW b0 bl
 have y9 := HY.out
 have y0 := y9.c 0 _ rfl
 have y1 := y9.c 1 _ rfl
 have y2 := y9.c 2 _ rfl
 have y3 := y9.c 3 _ rfl
 have y4 := y9.c 4 _ rfl
 have y5 := y9.c 5 _ rfl
 have y6 := y9.c 6 _ rfl
 have y7 := y9.c 7 _ rfl
 have yf := y9.f
 have yl := y9.lt
 clear y9
 go_wp2_with fail
 have BP := HY.out.put8 (.slice none 0 0) (.slice none 0 0) (.slice none 0 0) (.slice none 0 0) (.slice none 0 0) (.slice none 0 0) (.slice none 0 0) (.slice none 0 0)
 have BE := ext_set8 HE.out (w.heap.size + 1) (.slice none 0 0) (.slice none 0 0) (.slice none 0 0) (.slice none 0 0) (.slice none 0 0) (.slice none 0 0) (.slice none 0 0) (.slice none 0 0) (by omega)
 unfold set8 at BP BE
 have p0 := BP.c 0 _ rfl
 have p1 := BP.c 1 _ rfl
 have p2 := BP.c 2 _ rfl
 have p3 := BP.c 3 _ rfl
 have p4 := BP.c 4 _ rfl
 have p5 := BP.c 5 _ rfl
 have p6 := BP.c 6 _ rfl
 have p7 := BP.c 7 _ rfl
 refine bodyPost_ret (v := .tuple #[aspV none 0 0 none 0 0 none 0 0, .bool false]) (by simp [results, Tryz.results65, go_sem, p0, p1, p2, p3, p4, p5, p6, p7]) rfl ⟨rfl, BE⟩
theorem cntS_take {ss : List Sec} {v : Int} {l : List Int} {j : Nat} {s : Int} {r : Bool} (hs : l[j]? = some s) (hr : (volsAt ss s).any (· == v) = r) : cntS ss v (l.take (j + 1)) = cntS ss v (l.take j) + r.toNat := by
 unfold cntS
 rw [List.take_add_one, hs, Option.toList_some, List.countP_append, List.countP_singleton, hr]
 cases r <;> rfl
theorem cntS_le {ss : List Sec} {v : Int} {l : List Int} {j : Nat} (hj : j ≤ l.length) : cntS ss v (l.take j) ≤ j := by
 unfold cntS
 refine Nat.le_trans List.countP_le_length ?_
 rw [List.length_take]; omega
theorem dvd_no {n : Nat} {l : List Sec} {g : Cfg} {v : Nat} (hv : v < n) (h : (cntS l v g.ss.l == 1) = false) : dvdB n l g = false := by
 cases e : dvdB n l g
 ·rfl
 ·simp only [dvdB, Bool.and_eq_true, List.all_eq_true, List.mem_range] at e
  rw [e.2 v hv] at h; cases h
theorem dvd_yes {n : Nat} {l : List Sec} {g : Cfg} (hi : idxB l.length g.ss.l = true) (h : ∀ u < n, (cntS l u g.ss.l == 1) = true) : dvdB n l g = true := by
 simp only [dvdB, hi, Bool.true_and, List.all_eq_true, List.mem_range]
 exact h
set_option maxRecDepth 100000 in
set_option maxHeartbeats 16000000 in
theorem rdvd_any (vA : Option Addr) (n vc : Nat) (sA : Option Addr) (sc : Nat) (l : List Sec) (cA : Option Addr) (cn cc : Nat) (g : Cfg) (w : World) (hn : n ≤ 64) (hs : Slc w Sec.cells 5 sA l) (hsl : l.length ≤ maxLen) (hk : ∀ x ∈ l, Sec.ok w x) (hg : Cfg.ok w g) :
  Calls Tryz.prog 109 #[aspV vA n vc sA l.length sc cA cn cc, g.v] w (RetB w (dvdB n l g)) := by
 obtain ⟨W, hW⟩ : ∃ W, (w.alloc (.cells #[.slice vA n vc, .slice sA l.length sc, .slice cA cn cc, .slice none 0 0, .slice none 0 0, .slice none 0 0, .slice none 0 0, .slice none 0 0] 156)).alloc (.cells #[.string g.nm, .slice g.ns.A g.ns.n g.ns.c, .slice g.ss.A g.ss.l.length g.ss.c] 119) = W := ⟨_, rfl⟩
 have HB : Hid (Blk W w.heap.size [.slice vA n vc, .slice sA l.length sc, .slice cA cn cc, .slice none 0 0, .slice none 0 0, .slice none 0 0, .slice none 0 0, .slice none 0 0]) := by rw [← hW]; exact (Blk.newH w [.slice vA n vc, .slice sA l.length sc, .slice cA cn cc, .slice none 0 0, .slice none 0 0, .slice none 0 0, .slice none 0 0, .slice none 0 0] 156 w.heap.size rfl).alloc _
 have HG : Hid (Blk W (w.heap.size + 1) g.cells) := by rw [← hW]; exact Blk.newH (w.alloc _) g.cells 119 (w.heap.size + 1) (by simp)
 have HE : Hid (Below w.heap.size w W) := by rw [← hW]; exact ext_alloc (ext_alloc (ext_refl w) _) _
 have HS := Lib.hid (hs.ext HE.out)
 have HSO : Hid (∀ x ∈ l, Sec.ok W x) := fun x hx => (hk x hx).ext HE.out
 have HGO := Lib.hid (hg.ext HE.out).2.2
 have b0 := HB.out.c 0 _ rfl
 have b1 := HB.out.c 1 _ rfl
 have g2 := HG.out.c 2 _ rfl
 have bl := HB.out.lt
 have gl := HG.out.lt
 have hgl := HGO.out.len
 unfold maxLen at hsl hgl
 clear hs hk hg
 go_enter Tryz.func109, Tryz.ntmps109
 go_wp2_with fail
 clear hW
 cases hi : idxB l.length g.ss.l
 ·refine (idxr_at false hi rfl HGO.out.slc HGO.out.2.1 HGO.out.2.2.1).mono ?_
  rintro e w1 ⟨rfl, B⟩
  have HR : Hid (dvdB n l g = false) := by simp [Hid, dvdB, hi]
  clear b0 b1 g2 bl gl hi
  go_wp2_with fail
  go_ret
  exact ⟨ret_bool HR.out.symm, ext_trans HE.out B⟩
 refine (idxr_at true hi rfl HGO.out.slc HGO.out.2.1 HGO.out.2.2.1).mono ?_
 rintro e w1 ⟨rfl, B⟩
 have HI := Lib.hid hi
 have HIX : Hid (∀ s ∈ g.ss.l, 0 ≤ s ∧ s < l.length) := (idxB_iff.1 hi).1
 have HB1 := Lib.hid B
 clear b0 b1 g2 bl gl hi B
 go_wp2_with fail
 go_loopw [5] (fun i wr => ∃ v : Nat, v ≤ n ∧ i = .int .i64 v ∧ Hid (∀ u < v, (cntS l u g.ss.l == 1) = true) ∧ Hid (Below W.heap.size W wr)) (fun i _ => n - (intOf i).toNat)
 case atStart => exact ⟨0, Nat.zero_le _, rfl, fun u hu => by omega, HB1.out⟩
 case round =>
  obtain ⟨v, hv, rfl, HQ, HR⟩ := hrel
  obtain ⟨wo, rfl⟩ : ∃ wo, wo = wr := ⟨_, rfl⟩
  have b0 := (HB.out.ext HR.out).c 0 _ rfl
  have bl := (HB.out.ext HR.out).lt
  by_cases hvt : v < n
  ·have hvt' : (v : Int) < n := by omega
   go_wp2_with fail
   clear b0 bl
   go_loopw [6, 7] (fun k i wr2 => ∃ j : Nat, j ≤ g.ss.l.length ∧ k = .int .i64 (cntS l v (g.ss.l.take j)) ∧ i = .int .i64 j ∧ Hid (Below W.heap.size W wr2)) (fun _ i _ => g.ss.l.length - (intOf i).toNat)
   case atStart => exact ⟨0, Nat.zero_le _, rfl, rfl, HR.out⟩
   case round =>
    obtain ⟨j, hj, rfl, rfl, HR2⟩ := hrel
    have b1 := (HB.out.ext HR2.out).c 1 _ rfl
    have g2 := (HG.out.ext HR2.out).c 2 _ rfl
    have bl := (HB.out.ext HR2.out).lt
    have gl := (HG.out.ext HR2.out).lt
    have hcl := cntS_le (ss := l) (v := (v : Int)) hj
    by_cases hlt : j < g.ss.l.length
    ·have hlt' : (j : Int) < g.ss.l.length := by omega
     obtain ⟨s, q1, o1, hx, hA2, hb1, hcx⟩ := (HGO.out.slc.ext HR2.out).at_ hlt
     have d0 := hcx 0 _ rfl
     simp only [Nat.mul_one, Nat.add_zero] at d0
     obtain ⟨s0, s1⟩ := HIX.out s (List.mem_of_getElem? hx)
     obtain ⟨x, q2, o2, hx2, hA3, hb2, hcx2⟩ := (HS.out.ext HR2.out).at_ (k := s.toNat) (by omega)
     have x2 := hcx2 2 _ rfl
     have HXO := Lib.hid ((HSO.out x (List.mem_of_getElem? hx2)).ext HR2.out)
     obtain ⟨r, hr⟩ : ∃ r, x.vs.l.any (· == (v : Int)) = r := ⟨_, rfl⟩
     have HC := Lib.hid hr
     have HN : Hid (cntS l v (g.ss.l.take (j + 1)) = cntS l v (g.ss.l.take j) + r.toNat) := cntS_take hx (by rw [volsAt_of hx2]; exact hr)
     subst hA3
     rw [hA2] at g2
     clear hcx hx hcx2 hx2 hr
     obtain ⟨m, hm⟩ : ∃ m, cntS l v (g.ss.l.take j) = m := ⟨_, rfl⟩
     rw [hm] at hcl HN ⊢
     clear hm
     go_wp2_with fail
     have SS := Lib.hid (show ∀ w', Below wr.heap.size wr w' → (fun w' => Below wr.heap.size wr w' ∧ w'.cell? ⟨w.heap.size, 1, none⟩ = some (.slice (some ⟨q2, o2, none⟩) l.length sc) ∧ w'.cell? ⟨w.heap.size + 1, 2, none⟩ = some (.slice (some ⟨q1, o1, none⟩) g.ss.l.length g.ss.c) ∧ w'.cell? ⟨q1, o1 + j, none⟩ = some (.int .i64 s) ∧ w'.cell? ⟨q2, o2 + s.toNat * 5 + 2, none⟩ = some (.slice x.vs.A x.vs.l.length x.vs.c)) w' from fun w' h => ⟨h, ((HB.out.ext HR2.out).ext h).c 1 _ rfl, ((HG.out.ext HR2.out).ext h).c 2 _ (by rw [← hA2]; rfl), (h.cell (p := ⟨q1, o1 + j, none⟩) hb1).trans d0, (h.cell (p := ⟨q2, o2 + s.toNat * 5 + 2, none⟩) hb2).trans x2⟩)
     refine rgB 12 SS (ext_drew (ext_refl _)) (fun Q7 hQ7 hN7 hHeld => ?_)
     refine rgT 0 (some 29) hQ7 hHeld ?_; refine rgT 1 (some 30) hQ7 hHeld ?_; refine rgT 2 (some 31) hQ7 hHeld ?_; refine rgT 3 (some 32) hQ7 hHeld ?_; refine rgT 4 (some 33) hQ7 hHeld ?_; refine rgT 5 (some 34) hQ7 hHeld ?_; refine rgT 6 (some 35) hQ7 hHeld ?_; refine rgT 7 (some 36) hQ7 hHeld ?_; refine rgT 8 (some 37) hQ7 hHeld ?_; refine rgT 9 (some 38) hQ7 hHeld ?_; refine rgT 10 (some 39) hQ7 hHeld ?_
     refine rg_one (i := 11) (by kernel_rfl) (rg_step rfl (by rfl) (fun K hK => ?_))
     go_simp
     refine (has_at r HC.out rfl (HXO.out.2.2.slc.ext hHeld.1) HXO.out.2.2.len).mono ?_
     rintro e u1 ⟨rfl, B1⟩
     go_wp2_with fail
     refine hK.out _ _ ?_ (fun hHeld2 => ?_)
     ·exact SS.out _ (ext_trans hHeld.1 B1)
     clear hHeld
     have hHeld := hHeld2
     clear hHeld2
     clear hK K
     try simp only [Act.put, List.setIfInBounds_toArray, List.set_cons_zero, List.set_cons_succ]
     refine rg_end (by kernel_rfl) (hN7 _ _ ?_) _
     clear hQ7 hN7 Q7
     have BX := hHeld.1
     clear SS
     have HR3 := Lib.hid (ext_trans HR2.out BX)
     clear b1 g2 bl gl d0 x2 BX
     try rw [← hA2]
     clear hA2
     cases r
     ·have HN2 : Hid (m = cntS l v (g.ss.l.take (j + 1))) := by simpa [Hid] using HN.out.symm
      have HS1 : Value.int .i64 (m : Int) = Value.int .i64 ((cntS l v (g.ss.l.take (j + 1)) : Nat) : Int) := by rw [← HN2.out]
      have HS2 := Lib.hid HS1
      clear HN HS1
      go_wp2_with fail
      first | exact ⟨⟨j + 1, by omega, HS2.out, by go_num, HR3.out⟩, by simp [intOf] <;> omega⟩ | (go_roundw; all_goals first | exact ⟨j + 1, by omega, HS2.out, by go_num, HR3.out⟩ | (simp [intOf] <;> omega))
     ·have HN2 : Hid (((m : Int) + 1) = (cntS l v (g.ss.l.take (j + 1)) : Nat)) := by rw [HN.out]; simp [Hid]
      have HS1 : Value.int .i64 ((m : Int) + 1) = Value.int .i64 ((cntS l v (g.ss.l.take (j + 1)) : Nat) : Int) := by rw [HN2.out]
      have HS2 := Lib.hid HS1
      clear HN HS1
      go_wp2_with fail
      first | exact ⟨⟨j + 1, by omega, HS2.out, by go_num, HR3.out⟩, by simp [intOf] <;> omega⟩ | (go_roundw; all_goals first | exact ⟨j + 1, by omega, HS2.out, by go_num, HR3.out⟩ | (simp [intOf] <;> omega))
    ·have hlt' : decide ((j : Int) < g.ss.l.length) = false := decide_eq_false (by omega)
     have hd : g.ss.l.take j = g.ss.l := List.take_of_length_le (by omega)
     rw [hd] at hcl ⊢
     obtain ⟨m, hm⟩ : ∃ m, cntS l v g.ss.l = m := ⟨_, rfl⟩
     rw [hm] at hcl ⊢
     have HM := Lib.hid hm
     clear hd b1 bl gl hm
     by_cases h1 : m = 1
     ·have e1 : ((m : Int) != 1) = false := by simp; omega
      have HN : Hid (∀ u < v + 1, (cntS l u g.ss.l == 1) = true) := fun u hu => by
       by_cases e : u = v
       ·subst e; rw [HM.out]; simpa using h1
       ·exact HQ.out u (by omega)
      clear h1
      go_wp2_with fail
      first | exact ⟨⟨v + 1, by omega, by go_num, HN.out, HR2.out⟩, by simp [intOf] <;> omega⟩ | (go_roundw; all_goals first | exact ⟨v + 1, by omega, by go_num, HN.out, HR2.out⟩ | (simp [intOf] <;> omega))
     ·have e1 : ((m : Int) != 1) = true := by simp; omega
      have HN : Hid (dvdB n l g = false) := dvd_no hvt (by rw [HM.out]; simpa using h1)
      clear h1
      go_wp2_with fail
      go_ret
      exact ⟨ret_bool HN.out.symm, ext_trans HE.out HR2.out⟩
  ·have hvt' : decide ((v : Int) < n) = false := decide_eq_false (by omega)
   have HN : Hid (dvdB n l g = true) := dvd_yes HI.out fun u hu => HQ.out u (by omega)
   go_wp2_with fail
   go_ret
   exact ⟨ret_bool HN.out.symm, ext_trans HE.out HR.out⟩
theorem rdvd_at {vA : Option Addr} {n vc : Nat} {sA : Option Addr} {sn sc : Nat} {l : List Sec} {cA : Option Addr} {cn cc : Nat} {g : Cfg} {w : World} (r : Bool) (hr : dvdB n l g = r) (hsn : sn = l.length) (hn : n ≤ 64) (hs : Slc w Sec.cells 5 sA l) (hsl : l.length ≤ maxLen) (hk : ∀ x ∈ l, Sec.ok w x) (hg : Cfg.ok w g) :
  Calls Tryz.prog 109 #[aspV vA n vc sA sn sc cA cn cc, g.v] w (RetB w r) := by
 subst hr hsn; exact rdvd_any vA n vc sA sc l cA cn cc g w hn hs hsl hk hg
end Go.Proofs.YtjiojpoiocdnmaaGreat
