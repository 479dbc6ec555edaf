/- Where a flight may be: the closure that adds stays. -/
import Derived.Test.YtjiojpoiocdnmaaGreatU15
set_option linter.unusedSimpArgs false
set_option linter.unusedVariables false
namespace Go.Proofs.YtjiojpoiocdnmaaGreat
open Go.RowKit Go.Shelf Go.ChangeMaps
/-- A stay is added to the answer. -/
theorem PSt.push {w W : World} {t : Tab} {m N K : Nat} (h : PSt w t m N K W) (y : Sty) (hK : K < 1000000) :
    ∃ v A5 n5 c5 W4, W.cell? ⟨w.heap.size + 1, 0, none⟩ = some v ∧ W.frozen? ⟨w.heap.size + 1, 0, none⟩ = false ∧ w.heap.size + 1 < W.heap.size ∧
      (Builtin.append_ #[95, 95] 95 #[v, .slice (some ⟨W.heap.size, 0, none⟩) 1 1]).run Tryz.prog (W.alloc (.cells #[.bool y.air, .int .i64 y.ix, .int .i64 y.mi.f, .int .i64 y.mi.t] 113)) = .ok (.slice A5 n5 c5) W4 ∧
      W4.frozen? ⟨w.heap.size + 1, 0, none⟩ = false ∧ W4.cell? ⟨w.heap.size + 1, 0, none⟩ = some v ∧ w.heap.size + 1 < W4.heap.size ∧ PSt w t m N (K + 1) (W4.setCell ⟨w.heap.size + 1, 0, none⟩ (.slice A5 n5 c5)) ∧
      (∀ {e : TypeId} {b : Nat} {u : Value} {l : List Sp}, Own W b 44 Sp.cells 2 u l → m + 2 ≤ b → Own (W4.setCell ⟨w.heap.size + 1, 0, none⟩ (.slice A5 n5 c5)) b 44 Sp.cells 2 u l) := by
  obtain ⟨v, l, hX, hO, hl⟩ := h.X
  obtain ⟨W2, hW2⟩ : ∃ W2, W.alloc (.cells #[.bool y.air, .int .i64 y.ix, .int .i64 y.mi.f, .int .i64 y.mi.t] 113) = W2 := ⟨_, rfl⟩
  have hb2 : Below W.heap.size W W2 := by rw [← hW2]; exact ext_alloc (ext_refl _) _
  have h2 := h.ext hb2
  have hS : Slc W2 Sty.cells 4 (some ⟨W.heap.size, 0, none⟩) [y] := by rw [← hW2]; exact slc_litH W [y] #[.bool y.air, .int .i64 y.ix, .int .i64 y.mi.f, .int .i64 y.mi.t] 113 (enc := Sty.cells) (sz := 4) (fun _ => rfl) rfl W.heap.size rfl
  have hO2 := hO.ext hb2
  have hX2 := hX.ext hb2
  obtain ⟨v', W4, e2, hO', hg, hat⟩ := hO2.append styI 95 (ys := [y]) (m := 1) rfl 1 hS (by simp; omega) (by unfold maxLen; simp; omega) h2.hi
  obtain ⟨A5, c5, hv5, -⟩ := hO'.form
  subst hv5
  have hlo := h.lo
  have hrow : ∀ r, v.ownBlock = some r → m + 2 ≤ r := fun r e => (hO.lt r e).2
  have hrow' : ∀ r, (Value.slice A5 (l ++ [y]).length c5).ownBlock = some r → m + 2 ≤ r := fun r e => (hO'.lt r e).2
  have hk : ∀ b, b < W2.heap.size → (∀ r, v.ownBlock = some r → b ≠ r) → W4.heap[b]? = W2.heap[b]? := fun b hb hbr => hg.block b hb (fun e => hbr b e.symm rfl)
  have hk' : ∀ b, b < W2.heap.size → (∀ r, v.ownBlock = some r → b ≠ r) → b ≠ w.heap.size + 1 → (W4.setCell ⟨w.heap.size + 1, 0, none⟩ (.slice A5 (l ++ [y]).length c5)).heap[b]? = W2.heap[b]? := fun b hb hbr hb1 => (Below.heap_setCell W4 ⟨w.heap.size + 1, 0, none⟩ (.slice A5 (l ++ [y]).length c5) b hb1).trans (hk b hb hbr)
  have hX4 : Blk W4 (w.heap.size + 1) [v] := hX2.keepB (hk _ hX2.lt (fun r e => by have := hrow r e; omega))
  obtain ⟨L, hM, hR⟩ := h2.M
  have hsz : W2.heap.size ≤ (W4.setCell ⟨w.heap.size + 1, 0, none⟩ (.slice A5 (l ++ [y]).length c5)).heap.size := by simpa [World.setCell] using hg.size
  have hw2 := h2.E
  have hmp : ∀ {b : Nat} {u : Value} {q : List Sp}, Own W2 b 44 Sp.cells 2 u q → m + 2 ≤ b → Own (W4.setCell ⟨w.heap.size + 1, 0, none⟩ (.slice A5 (l ++ [y]).length c5)) b 44 Sp.cells 2 u q := fun {b u q} ho hb => ho.block fun k e => hk' k (ho.lt k e).1 (fun r e' q => by
    subst q
    exact ho.ne hO2 (by decide) k e e') (by have := (ho.lt k e).2; omega)
  rw [hW2]
  refine ⟨v, A5, _, c5, W4, hX.c 0 _ rfl, hX.f 0, hX.lt, e2, hX4.f 0, hX4.c 0 _ rfl, hX4.lt, ⟨⟨?_, ?_, ?_, Nat.le_trans hw2.size hsz, fun b hb => ?_⟩, h2.T.keepB (hk' _ h2.T.lt (fun r e => by have := hrow r e; omega) (by omega)), ⟨_, l ++ [y], hX4.set (j := 0) (by simp) (.slice A5 (l ++ [y]).length c5), ?_, by simp; omega⟩, h2.B.keepB (hk' _ h2.B.lt (fun r e => by have := hrow r e; omega) (by omega)), hlo, Nat.le_trans h2.hi hsz, L, hM.of_block (hk' _ hM.lt (fun r e => by have := hrow r e; omega) (by omega)), ⟨fun p hp => ?_, hR.dis⟩⟩, fun {_ b u q} ho hb => hmp (ho.ext hb2) hb⟩
  · exact hg.os.trans hw2.os
  · exact hg.tape.trans hw2.tape
  · exact hg.output.trans hw2.output
  · exact (hk' b (Nat.lt_of_lt_of_le hb hw2.size) (fun r e => by have := hrow r e; omega) (by omega)).trans (hw2.block b hb)
  · exact hO'.block fun k e => Below.heap_setCell W4 ⟨w.heap.size + 1, 0, none⟩ (.slice A5 (l ++ [y]).length c5) k (by have := hrow' k e; show k ≠ w.heap.size + 1; omega)
  · obtain ⟨lp, hOp, hlp⟩ := hR.row p hp
    exact ⟨lp, hmp hOp (Nat.le_refl _), hlp⟩
set_option maxRecDepth 100000 in
set_option maxHeartbeats 4000000 in
theorem add_any {w : World} {t : Tab} {m N K : Nat} (air : Bool) (n : Nat) (hn : n ≤ 64) (hN : N < 1000000) (hK : K ≤ 100000) (W : World) (h : PSt w t m N K W) :
    Calls Tryz.prog 57 #[.bool air, .int .i64 n, .pointer (some ⟨m + 1, 0, none⟩), .pointer (some ⟨w.heap.size + 1, 0, none⟩)] W fun e W' => (∃ v, e = .returned v) ∧ PSt w t m N (K + n * 1440) W' := by
  have HP := Lib.hid h
  clear h
  have hz := zv114
  go_enter Tryz.func57, Tryz.ntmps57
  go_wp2_with fail
  go_loopw [10] (fun i wr => ∃ k : Nat, k ≤ n ∧ i = .int .i64 k ∧ Hid (PSt w t m N (K + k * 1440) wr)) (fun i _ => n - (intOf i).toNat)
  case atStart => exact ⟨0, Nat.zero_le _, rfl, by rw [Nat.zero_mul, Nat.add_zero]; exact HP⟩
  case round =>
    obtain ⟨k, hk, rfl, HS⟩ := hrel
    clear HP
    obtain ⟨wo, rfl⟩ : ∃ wo, wo = wr := ⟨_, rfl⟩
    by_cases hlt : k < n
    rotate_left
    · obtain rfl : k = n := by omega
      go_wp2_with fail
      go_end0
      exact ⟨⟨_, rfl⟩, HS.out⟩
    obtain ⟨L, hM, hR⟩ := HS.out.M
    obtain ⟨l0, hO0, hl0, -⟩ := hR.get ⟨air, k⟩
    have hlk := hM.look key144 Tryz.underlying140 (zv114 wo) ⟨air, k⟩ false trivial (fun _ _ => trivial)
    simp only [Bool.false_eq_true, if_false] at hlk
    obtain ⟨A0, c0, hv0, -⟩ := hO0.form
    rw [hv0] at hlk hO0
    have bm := HS.out.B.c 0 _ rfl
    have HO0 := Lib.hid (show Slc wo Sp.cells 2 A0 l0 from hO0.slc Sp.cells_len (by decide))
    have hl1 : l0.length < 1000000 := by omega
    clear hO0 hv0 hM hR hl0
    go_wp2_with fail
    refine (normal_any A0 c0 l0 wo HO0.out hl1).mono ?_
    rintro e w1 ⟨A, c, rfl, hO1, hB1⟩
    have HS1 := Lib.hid (HS.out.ext hB1)
    have HO1 := Lib.hid hO1
    have hl2 : (nor l0).length ≤ 1440 := runs_len _ _
    obtain ⟨l1, hl1⟩ : ∃ l1, nor l0 = l1 := ⟨_, rfl⟩
    rw [hl1] at HO1 hl2
    rw [hl1]
    obtain ⟨n1, hn1⟩ : ∃ n1, l1.length = n1 := ⟨_, rfl⟩
    have hbase : m + 2 ≤ wo.heap.size := HS.out.hi
    clear bm hlk HO0 HS hB1 hO1
    rw [hn1] at HO1 hl2
    rw [hn1]
    have HN1 := Lib.hid hn1
    clear hn1
    go_wp2_with fail
    go_loopw [20] (fun i wr => ∃ j : Nat, j ≤ n1 ∧ i = .int .i64 j ∧ Hid (PSt w t m N (K + k * 1440 + j) wr) ∧ Hid (Own wr wo.heap.size 44 Sp.cells 2 (.slice A n1 c) l1)) (fun i _ => n1 - (intOf i).toNat)
    case atStart => exact ⟨0, Nat.zero_le _, rfl, HS1, HO1⟩
    case round =>
      obtain ⟨j, hj, rfl, HS2, HO2⟩ := hrel
      clear HS1 HO1
      obtain ⟨wi, rfl⟩ : ∃ wi, wi = wr := ⟨_, rfl⟩
      by_cases hjl : j < n1
      rotate_left
      · go_wp2_with fail
        go_roundw
        case rel => exact ⟨k + 1, by omega, by go_num, by
          have := HS2.out
          rw [show K + k * 1440 + j = K + (k * 1440 + j) by omega] at this
          obtain ⟨v, l, h1, h2, h3⟩ := this.X
          exact ⟨this.E, this.T, ⟨v, l, h1, h2, by omega⟩, this.B, this.lo, this.hi, this.M⟩⟩
        case measure => simp [intOf]; omega
      obtain ⟨s, b1, o1, hs, hA, hb1, hc⟩ := (HO2.out.slc Sp.cells_len (by decide)).at_ (k := j) (by rw [HN1.out]; exact hjl)
      subst hA
      have d0 := hc 0 _ rfl
      have d1 := hc 1 _ rfl
      simp only [Nat.add_zero] at d0
      have HS3 := Lib.hid (HS2.out.ext (ext_alloc (ext_refl wi) (.cells #[.int .i64 s.f, .int .i64 s.t] 44)))
      have HO3 := Lib.hid (HO2.out.alloc (.cells #[.int .i64 s.f, .int .i64 s.t] 44))
      obtain ⟨v, A5, n5, c5, W4, x0, xf, xl, hrun, yf, ys, yl, hP, hOw⟩ := HS3.out.push ⟨air, k, s⟩ (by have : k * 1440 ≤ 64 * 1440 := Nat.mul_le_mul_right _ (by omega); omega)
      have HO4 := Lib.hid (hOw (e := 44) HO3.out hbase)
      have HP4 := Lib.hid hP
      have HRUN := Lib.hid hrun
      rw [World.size_alloc] at HRUN
      have hjn : (j : Int) < n1 := by omega
      clear hP hOw hrun hc HS2 HO2 HS3 HO3
      go_wp2_with (at_builtin; refine wpList_append_run rfl (.tmp 24) (.tmp 29) 95 rfl v (.slice (some ⟨wi.heap.size + 1, 0, none⟩) 1 1) rfl rfl HRUN.out ?_)
      go_roundw
      case rel => exact ⟨j + 1, hjl, by go_num, HP4, HO4⟩
      case measure => simp [intOf]; omega
end Go.Proofs.YtjiojpoiocdnmaaGreat
/- Where a flight may be: occupancy.Possible. -/
set_option linter.unusedSimpArgs false
set_option linter.unusedVariables false
namespace Go.Proofs.YtjiojpoiocdnmaaGreat
open Go.RowKit Go.Shelf Go.ChangeMaps
theorem tab_modes {t : Tab} (h : chkT t = 0) : t.ms.l.length ≤ 16 := by
  unfold chkT at h
  split at h
  · rename_i q
    simp only [Bool.and_eq_true, decide_eq_true_eq] at q
    exact q.1.1.1.1.1.2
  · cases h
theorem staysX_len {p : Pth} {x : Wy} (h : x.legs.l.length ≤ 8) : (staysX p x).length ≤ 10 := by simp [staysX, staysN_len]; omega
theorem staysL_len {t : Tab} {p : Pth} (h : ∀ x ∈ t.ws.l, x.legs.l.length ≤ 8) : (staysL t p).length ≤ 10 := by
  unfold staysL
  split
  · rename_i x hx
    exact staysX_len (h x (List.mem_of_getElem? hx))
  · simp
theorem possE_bad {t : Tab} {l : List Pth} {E : Int} (h : chkT t = E) (h0 : E ≠ 0) : possE t l = E := by unfold possE; rw [if_pos (by rw [h]; exact h0), h]
theorem possE_no {t : Tab} {l : List Pth} {k : Nat} {p : Pth} (h : chkT t = 0) (hp : l[k]? = some p) (hb : pathB t p = false) : possE t l = 160 := by
  unfold possE
  rw [if_neg (by rw [h]; simp), if_neg]
  intro q
  have := List.all_eq_true.1 q p (List.mem_of_getElem? hp)
  rw [hb] at this; cases this
theorem possE_ok {t : Tab} {l : List Pth} (h : chkT t = 0) (hb : (l.take l.length).all (pathB t) = true) : possE t l = 0 := by
  unfold possE
  rw [List.take_length] at hb
  rw [if_neg (by rw [h]; simp), if_pos hb]
theorem all_take_succ {α : Type} {q : α → Bool} {l : List α} {k : Nat} {p : α} (h : (l.take k).all q = true) (hp : l[k]? = some p) (hb : q p = true) : (l.take (k + 1)).all q = true := by
  rw [take_snoc hp, List.all_append, h]; simp [hb]
def PosR (w : World) (E : Int) (e : Ending) (w' : World) : Prop := (∃ v, e = .returned (.tuple #[v, .int .i64 E])) ∧ Below w.heap.size w w'
set_option maxRecDepth 100000 in
set_option maxHeartbeats 4000000 in
theorem poss_of (t : Tab) (PA : Option Addr) (pc : Nat) (pl : List Pth) (w : World) (ht : Tab.ok w t) (hp : SliceOf.ok Pth.cells 2 Pth.ok w ⟨PA, pc, pl⟩) (hn : pl.length ≤ 4096) :
    Calls Tryz.prog 31 #[t.v, .slice PA pl.length pc] w (PosR w (possE t pl)) := by
  obtain ⟨E, hE⟩ : ∃ E, possE t pl = E := ⟨_, rfl⟩
  rw [hE]
  have HE := Lib.hid hE
  have HT := Lib.hid ht
  have HP := Lib.hid hp
  have E0 := Lib.hid (ext_alloc (ext_alloc (ext_refl w) (.cells #[.int .i64 t.n, .slice t.ss.A t.ss.l.length t.ss.c, .slice t.cs.A t.cs.l.length t.cs.c, .slice t.ws.A t.ws.l.length t.ws.c, .slice t.ms.A t.ms.l.length t.ms.c, .slice t.ks.A t.ks.l.length t.ks.c] 28)) (.cells #[.slice none 0 0] 95))
  have BT : Hid (Blk ((w.alloc (.cells #[.int .i64 t.n, .slice t.ss.A t.ss.l.length t.ss.c, .slice t.cs.A t.cs.l.length t.cs.c, .slice t.ws.A t.ws.l.length t.ws.c, .slice t.ms.A t.ms.l.length t.ms.c, .slice t.ks.A t.ks.l.length t.ks.c] 28)).alloc (.cells #[.slice none 0 0] 95)) w.heap.size t.cells) := (Blk.newH w t.cells 28 w.heap.size rfl).alloc _
  have BX : Hid (Blk ((w.alloc (.cells #[.int .i64 t.n, .slice t.ss.A t.ss.l.length t.ss.c, .slice t.cs.A t.cs.l.length t.cs.c, .slice t.ws.A t.ws.l.length t.ws.c, .slice t.ms.A t.ms.l.length t.ms.c, .slice t.ks.A t.ks.l.length t.ks.c] 28)).alloc (.cells #[.slice none 0 0] 95)) (w.heap.size + 1) [.slice none 0 0]) := Blk.newH (w.alloc _) [.slice none 0 0] 95 (w.heap.size + 1) (by simp)
  clear hE ht hp
  go_enter Tryz.func31, Tryz.ntmps31
  go_wp2_with fail
  by_cases hc : chkT t = 0
  rotate_left
  · obtain ⟨E1, hE1⟩ : ∃ E1, chkT t = E1 := ⟨_, rfl⟩
    refine (achk_at E1 hE1 (HT.out.ext E0.out)).mono ?_
    rintro e w1 ⟨rfl, B⟩
    rw [hE1] at hc
    have HR : Hid (E1 = E) := (possE_bad hE1 hc).symm.trans HE.out
    have x1 := (BX.out.ext B).set (j := 0) (by simp) (.slice none 0 0)
    have x0 := (BX.out.ext B).c 0 _ rfl
    have xf := (BX.out.ext B).f 0
    have xl := (BX.out.ext B).lt
    have x2 := x1.c 0 _ rfl
    have HB := Lib.hid (ext_set (ext_trans E0.out B) ⟨w.heap.size + 1, 0, none⟩ (.slice none 0 0) (by show w.heap.size ≤ w.heap.size + 1; omega))
    clear hE1 x1 B
    go_wp2_with fail
    refine bodyPost_ret (v := .tuple #[.slice none 0 0, .int .i64 E1]) (by simp [results, Tryz.results31, go_sem, *]) rfl ?_
    rw [HR.out]
    exact ⟨⟨_, rfl⟩, HB.out⟩
  have HLG := Lib.hid (tab_legs hc)
  have HMD := Lib.hid (tab_modes hc)
  have HTO := Lib.hid (tab_ok hc)
  refine (achk_at 0 hc (HT.out.ext E0.out)).mono ?_
  rintro e w1 ⟨rfl, B⟩
  have HC := Lib.hid hc
  have E1 := Lib.hid (ext_trans E0.out B)
  have BT1 := Lib.hid (BT.out.ext B)
  have BX1 := Lib.hid (BX.out.ext B)
  have hm1 : w.heap.size + 1 < w1.heap.size := BX1.out.lt
  have HS : Hid (PSt w t w1.heap.size 0 0 ((w1.alloc (.map #[] 0)).alloc (.cells #[.map (some w1.heap.size)] 140))) := by
    have hb : Below w1.heap.size w1 ((w1.alloc (.map #[] 0)).alloc (.cells #[.map (some w1.heap.size)] 140)) := ext_alloc (ext_alloc (ext_refl _) _) _
    exact ⟨ext_trans E1.out hb, BT1.out.ext hb, ⟨_, [], BX1.out.ext hb, Own.nil _ _ _ _ _, by simp⟩, Blk.newH (w1.alloc _) [.map (some w1.heap.size)] 140 (w1.heap.size + 1) (by simp), hm1, by simp, [], (GMap.made w1).ext (ext_alloc (ext_refl _) _), ⟨by simp, by simp⟩⟩
  obtain ⟨m, hm⟩ : ∃ m, w1.heap.size = m := ⟨_, rfl⟩
  rw [hm] at HS
  have hmk := mk140
  clear hc B E0 BT BX E1 BT1 BX1
  go_wp2_with fail
  obtain ⟨w2, hw2⟩ : ∃ w2, (w1.alloc (.map #[] 0)).alloc (.cells #[.map (some m)] 140) = w2 := ⟨_, rfl⟩
  rw [hw2] at HS ⊢
  clear hw2 hm hm1
  go_loopw [23] (fun i wr => ∃ k : Nat, k ≤ pl.length ∧ i = .int .i64 k ∧ Hid (PSt w t m (k * 10) 0 wr) ∧ Hid ((pl.take k).all (pathB t) = true)) (fun i _ => pl.length - (intOf i).toNat)
  case atStart => exact ⟨0, Nat.zero_le _, rfl, by rw [Nat.zero_mul]; exact HS, by simp [Hid]⟩
  case round =>
    obtain ⟨k, hk, rfl, HS1, HA⟩ := hrel
    clear HS
    obtain ⟨wo, rfl⟩ : ∃ wo, wo = wr := ⟨_, rfl⟩
    by_cases hlt : k < pl.length
    rotate_left
    · obtain rfl : k = pl.length := by omega
      have HR : Hid (0 = E) := (possE_ok HC.out HA.out).symm.trans HE.out
      obtain ⟨n, hn'⟩ : ∃ n : Nat, t.n = n := ⟨t.n.toNat, by have := HTO.out.n0; omega⟩
      have hn64 : n ≤ 64 := by have := HTO.out.n1; omega
      have t0 := HS1.out.T.c 0 _ rfl
      rw [hn'] at t0
      clear hn'
      go_wp2_with fail
      refine (add_any (w := w) (t := t) (K := 0) false n hn64 (by omega) (by omega) wo HS1.out).mono ?_
      rintro e w3 ⟨⟨v, rfl⟩, hP3⟩
      have HP3 := Lib.hid hP3
      have t4 := hP3.T.c 4 _ rfl
      clear t0 hP3
      go_wp2_with fail
      refine (add_any (w := w) (t := t) true t.ms.l.length (by have := HMD.out; omega) (by omega) (by omega) w3 HP3.out).mono ?_
      rintro e w4 ⟨⟨v, rfl⟩, hP4⟩
      obtain ⟨vx, lx, hX, -, -⟩ := hP4.X
      have x0 := hX.c 0 _ rfl
      have xf := hX.f 0
      have xl := hX.lt
      have x1 := hX.set (j := 0) (by simp) vx
      have x2 := x1.c 0 _ rfl
      have HB := Lib.hid (ext_set hP4.E ⟨w.heap.size + 1, 0, none⟩ vx (by show w.heap.size ≤ w.heap.size + 1; omega))
      obtain ⟨Ax, nx, cx, rfl⟩ : ∃ A n c, vx = .slice A n c := by
        obtain ⟨v, l, h1, h2, -⟩ := hP4.X
        obtain ⟨A, c, hv, -⟩ := h2.form
        have := h1.c 0 _ rfl
        rw [x0] at this; cases this
        exact ⟨A, _, c, hv⟩
      clear t4 hP4 hX x1 HP3
      go_wp2_with fail
      refine bodyPost_ret (v := .tuple #[.slice Ax nx cx, .int .i64 0]) (by simp [results, Tryz.results31, go_sem, *]) rfl ?_
      rw [← HR.out]
      exact ⟨⟨_, rfl⟩, HB.out⟩
    have hE1 := HS1.out.E
    obtain ⟨p, b1, o1, hp, hA, hb1, hc⟩ := (show Slc wo Pth.cells 2 PA pl from (show Slc w Pth.cells 2 PA pl from HP.out.slc).below (Nat.le_refl _) hE1).at_ hlt
    have d0 := hc 0 _ rfl
    have d1 := hc 1 _ rfl
    simp only [Nat.add_zero] at d0
    have HPO := Lib.hid (show Pth.ok w p from HP.out.all (List.mem_of_getElem? hp))
    have hl1 : (k : Int) < pl.length := by omega
    obtain ⟨W1, hW1⟩ : ∃ W1, wo.alloc (.cells #[.int .i64 p.way, .slice p.ts.A p.ts.l.length p.ts.c] 71) = W1 := ⟨_, rfl⟩
    have bp : Blk W1 wo.heap.size p.cells := by rw [← hW1]; exact Blk.newH wo p.cells 71 wo.heap.size rfl
    have HS2 : Hid (PSt w t m (k * 10) 0 W1) := by rw [← hW1]; exact HS1.out.ext (ext_alloc (ext_refl _) _)
    have t0 := HS2.out.T.c 0 _ rfl
    have t1 := HS2.out.T.c 1 _ rfl
    have t2 := HS2.out.T.c 2 _ rfl
    have t3 := HS2.out.T.c 3 _ rfl
    have t4 := HS2.out.T.c 4 _ rfl
    have t5 := HS2.out.T.c 5 _ rfl
    have p0 := bp.c 0 _ rfl
    have p1 := bp.c 1 _ rfl
    have BP := Lib.hid bp
    have HPS := Lib.hid hp
    clear hc hp bp hE1 HS1
    subst hA
    go_wp2_with fail
    clear hW1
    cases hpb : pathB t p
    · refine (path_at 160 (by unfold pathE; rw [hpb]; rfl) (HT.out.ext HS2.out.E) (HPO.out.ext HS2.out.E) HLG.out).mono ?_
      rintro e w3 ⟨rfl, B⟩
      have HR : Hid (160 = E) := (possE_no HC.out HPS.out hpb).symm.trans HE.out
      have HS3 := Lib.hid (HS2.out.ext B)
      obtain ⟨vx, lx, hX, -, -⟩ := HS3.out.X
      have x0 := hX.c 0 _ rfl
      have xf := hX.f 0
      have xl := hX.lt
      have x1 := hX.set (j := 0) (by simp) (.slice none 0 0)
      have x2 := x1.c 0 _ rfl
      have HB := Lib.hid (ext_set HS3.out.E ⟨w.heap.size + 1, 0, none⟩ (.slice none 0 0) (by show w.heap.size ≤ w.heap.size + 1; omega))
      clear t0 t1 t2 t3 t4 t5 p0 p1 hpb x1 hX B d0 d1
      go_wp2_with fail
      refine bodyPost_ret (v := .tuple #[.slice none 0 0, .int .i64 160]) (by simp [results, Tryz.results31, go_sem, *]) rfl ?_
      rw [← HR.out]
      exact ⟨⟨_, rfl⟩, HB.out⟩
    refine (path_at 0 (by unfold pathE; rw [hpb]; rfl) (HT.out.ext HS2.out.E) (HPO.out.ext HS2.out.E) HLG.out).mono ?_
    rintro e w3 ⟨rfl, B⟩
    have HPB := Lib.hid hpb
    have HS3 := Lib.hid (HS2.out.ext B)
    have BP3 := Lib.hid (BP.out.ext B)
    clear t0 t1 t2 t3 t4 t5 p0 p1 hpb B d0 d1 HS2 BP
    have t0 := HS3.out.T.c 0 _ rfl
    have t1 := HS3.out.T.c 1 _ rfl
    have t2 := HS3.out.T.c 2 _ rfl
    have t3 := HS3.out.T.c 3 _ rfl
    have t4 := HS3.out.T.c 4 _ rfl
    have t5 := HS3.out.T.c 5 _ rfl
    have p0 := BP3.out.c 0 _ rfl
    have p1 := BP3.out.c 1 _ rfl
    go_wp2_with fail
    refine (osts_any t p w3 (HT.out.ext HS3.out.E) (HPO.out.ext HS3.out.E) HLG.out HPB.out).mono ?_
    rintro e w4 ⟨A4, c4, rfl, hO4, B⟩
    have HLN := Lib.hid (staysL_len (p := p) HLG.out)
    obtain ⟨L4, hL4⟩ : ∃ L4, staysL t p = L4 := ⟨_, rfl⟩
    rw [hL4] at hO4 HLN ⊢
    obtain ⟨n4, hn4⟩ : ∃ n4, L4.length = n4 := ⟨_, rfl⟩
    rw [hn4] at hO4 HLN ⊢
    have HN4 := Lib.hid hn4
    have HS4 := Lib.hid (HS3.out.ext B)
    have HO4 := Lib.hid (hO4.low (base' := m + 2) HS3.out.hi)
    have hn4' : n4 ≤ 10 := HLN.out
    clear t0 t1 t2 t3 t4 t5 p0 p1 B hL4 hn4 hO4 HS3 BP3 HLN
    have HA' : Hid ((pl.take (k + 1)).all (pathB t) = true) := all_take_succ HA.out HPS.out HPB.out
    clear HA
    go_wp2_with fail
    go_loopw [37] (fun i wr => ∃ j : Nat, j ≤ n4 ∧ i = .int .i64 j ∧ Hid (PSt w t m (k * 10 + j) 0 wr) ∧ Hid (Own wr (m + 2) 113 Sty.cells 4 (.slice A4 n4 c4) L4)) (fun i _ => n4 - (intOf i).toNat)
    case atStart => exact ⟨0, Nat.zero_le _, rfl, HS4, HO4⟩
    case round =>
      obtain ⟨j, hj, rfl, HS5, HO5⟩ := hrel
      clear HS4 HO4
      obtain ⟨wi, rfl⟩ : ∃ wi, wi = wr := ⟨_, rfl⟩
      by_cases hjl : j < n4
      rotate_left
      · go_wp2_with fail
        go_roundw
        case rel => exact ⟨k + 1, by omega, by go_num, by
          have h5 := HS5.out
          obtain ⟨L, h1, h2⟩ := h5.M
          exact ⟨h5.E, h5.T, h5.X, h5.B, h5.lo, h5.hi, L, h1, ⟨fun q hq => let ⟨l, a, b⟩ := h2.row q hq; ⟨l, a, by omega⟩, h2.dis⟩⟩, HA'⟩
        case measure => simp [intOf]; omega
      obtain ⟨y, b2, o2, hy, hA4, hb2, hc⟩ := (show Slc wi Sty.cells 4 A4 L4 from HO5.out.slc styc_len (by decide)).at_ (k := j) (by rw [HN4.out]; exact hjl)
      subst hA4
      have d0 := hc 0 _ rfl
      have d1 := hc 1 _ rfl
      have d2 := hc 2 _ rfl
      have d3 := hc 3 _ rfl
      simp only [Nat.add_zero] at d0
      have e5 := ext_alloc (ext_alloc (ext_refl wi) (.cells #[.bool y.air, .int .i64 y.ix, .int .i64 y.mi.f, .int .i64 y.mi.t] 113)) (.cells #[.bool y.air, .int .i64 y.ix] 144)
      have HS6 := Lib.hid (HS5.out.ext e5)
      have HO6 := Lib.hid (HO5.out.ext e5)
      have bm := HS6.out.B.c 0 _ rfl
      obtain ⟨v0, st, q1, v', W4, q2, hr1, hr2, hr3, hP, hOw⟩ := HS6.out.app ⟨y.air, y.ix⟩ y.mi (by omega)
      have HO7 := Lib.hid (hOw HO6.out (Nat.le_refl _))
      have HP7 := Lib.hid hP
      have HRUN := Lib.hid hr2
      have hjn : (j : Int) < n4 := by omega
      clear hP hOw hr2 hc HS5 HO5 HS6 HO6 e5
      rw [World.size_alloc, World.size_alloc] at HRUN
      go_wp2_with (at_builtin; refine wpList_append_run rfl (.tmp 48) (.tmp 51) 114 rfl v0 (.slice (some ⟨wi.heap.size + 1 + 1, 0, none⟩) 1 1) rfl rfl HRUN.out ?_)
      go_roundw
      case rel => exact ⟨j + 1, hjl, by go_num, HP7, HO7⟩
      case measure => simp [intOf]; omega
theorem poss_any (t : Tab) (ps : SliceOf Pth) (w : World) (ht : Tab.ok w t) (hp : SliceOf.ok Pth.cells 2 Pth.ok w ps) (hn : ps.l.length ≤ 4096) :
    Calls Tryz.prog 31 #[t.v, .slice ps.A ps.l.length ps.c] w (PosR w (possE t ps.l)) := poss_of t ps.A ps.c ps.l w ht hp hn
end Go.Proofs.YtjiojpoiocdnmaaGreat
