/- Where a flight may be: occupancy.Possible. -/
import Derived.Test.YtjiojpoiocdnmaaGreatU23
set_option linter.unusedSimpArgs false
set_option linter.unusedVariables false
namespace Go.Proofs.YtjiojpoiocdnmaaGreat
open Go.RowKit Go.Shelf Go.ChangeMaps
theorem tab_modes {t : Tab} (h : chkT t = 0) : t.ms.l.length ≤ 16 := by
  unfold chkT at h
  split at h
  · rename_i q
    simp only [Bool.and_eq_true, decide_eq_true_eq] at q
    exact q.1.1.1.1.1.2
  · cases h
theorem staysX_len {p : Pth} {x : Wy} (h : x.legs.l.length ≤ 8) : (staysX p x).length ≤ 10 := by simp [staysX, staysN_len]; omega
theorem staysL_len {t : Tab} {p : Pth} (h : ∀ x ∈ t.ws.l, x.legs.l.length ≤ 8) : (staysL t p).length ≤ 10 := by
  unfold staysL
  split
  · rename_i x hx
    exact staysX_len (h x (List.mem_of_getElem? hx))
  · simp
theorem possE_bad {t : Tab} {l : List Pth} {E : Int} (h : chkT t = E) (h0 : E ≠ 0) : possE t l = E := by unfold possE; rw [if_pos (by rw [h]; exact h0), h]
theorem possE_no {t : Tab} {l : List Pth} {k : Nat} {p : Pth} (h : chkT t = 0) (hp : l[k]? = some p) (hb : pathB t p = false) : possE t l = 160 := by
  unfold possE
  rw [if_neg (by rw [h]; simp), if_neg]
  intro q
  have := List.all_eq_true.1 q p (List.mem_of_getElem? hp)
  rw [hb] at this; cases this
theorem possE_ok {t : Tab} {l : List Pth} (h : chkT t = 0) (hb : (l.take l.length).all (pathB t) = true) : possE t l = 0 := by
  unfold possE
  rw [List.take_length] at hb
  rw [if_neg (by rw [h]; simp), if_pos hb]
theorem all_take_succ {α : Type} {q : α → Bool} {l : List α} {k : Nat} {p : α} (h : (l.take k).all q = true) (hp : l[k]? = some p) (hb : q p = true) : (l.take (k + 1)).all q = true := by
  rw [take_snoc hp, List.all_append, h]; simp [hb]
def PosR (w : World) (E : Int) (e : Ending) (w' : World) : Prop := (∃ v, e = .returned (.tuple #[v, .int .i64 E])) ∧ Below w.heap.size w w'
set_option maxRecDepth 100000 in
set_option maxHeartbeats 4000000 in
theorem poss_of (t : Tab) (PA : Option Addr) (pc : Nat) (pl : List Pth) (w : World) (ht : Tab.ok w t) (hp : SliceOf.ok Pth.cells 2 Pth.ok w ⟨PA, pc, pl⟩) (hn : pl.length ≤ 4096) :
    Calls Tryz.prog 31 #[t.v, .slice PA pl.length pc] w (PosR w (possE t pl)) := by
  obtain ⟨E, hE⟩ : ∃ E, possE t pl = E := ⟨_, rfl⟩
  rw [hE]
  have HE := Lib.hid hE
  have HT := Lib.hid ht
  have HP := Lib.hid hp
  have E0 := Lib.hid (ext_alloc (ext_alloc (ext_refl w) (.cells #[.int .i64 t.n, .slice t.ss.A t.ss.l.length t.ss.c, .slice t.cs.A t.cs.l.length t.cs.c, .slice t.ws.A t.ws.l.length t.ws.c, .slice t.ms.A t.ms.l.length t.ms.c, .slice t.ks.A t.ks.l.length t.ks.c] 28)) (.cells #[.slice none 0 0] 95))
  have BT : Hid (Blk ((w.alloc (.cells #[.int .i64 t.n, .slice t.ss.A t.ss.l.length t.ss.c, .slice t.cs.A t.cs.l.length t.cs.c, .slice t.ws.A t.ws.l.length t.ws.c, .slice t.ms.A t.ms.l.length t.ms.c, .slice t.ks.A t.ks.l.length t.ks.c] 28)).alloc (.cells #[.slice none 0 0] 95)) w.heap.size t.cells) := (Blk.newH w t.cells 28 w.heap.size rfl).alloc _
  have BX : Hid (Blk ((w.alloc (.cells #[.int .i64 t.n, .slice t.ss.A t.ss.l.length t.ss.c, .slice t.cs.A t.cs.l.length t.cs.c, .slice t.ws.A t.ws.l.length t.ws.c, .slice t.ms.A t.ms.l.length t.ms.c, .slice t.ks.A t.ks.l.length t.ks.c] 28)).alloc (.cells #[.slice none 0 0] 95)) (w.heap.size + 1) [.slice none 0 0]) := Blk.newH (w.alloc _) [.slice none 0 0] 95 (w.heap.size + 1) (by simp)
  clear hE ht hp
  go_enter Tryz.func31, Tryz.ntmps31
  go_wp2_with fail
  by_cases hc : chkT t = 0
  rotate_left
  · obtain ⟨E1, hE1⟩ : ∃ E1, chkT t = E1 := ⟨_, rfl⟩
    refine (achk_at E1 hE1 (HT.out.ext E0.out)).mono ?_
    rintro e w1 ⟨rfl, B⟩
    rw [hE1] at hc
    have HR : Hid (E1 = E) := (possE_bad hE1 hc).symm.trans HE.out
    have x1 := (BX.out.ext B).set (j := 0) (by simp) (.slice none 0 0)
    have x0 := (BX.out.ext B).c 0 _ rfl
    have xf := (BX.out.ext B).f 0
    have xl := (BX.out.ext B).lt
    have x2 := x1.c 0 _ rfl
    have HB := Lib.hid (ext_set (ext_trans E0.out B) ⟨w.heap.size + 1, 0, none⟩ (.slice none 0 0) (by show w.heap.size ≤ w.heap.size + 1; omega))
    clear hE1 x1 B
    go_wp2_with fail
    refine bodyPost_ret (v := .tuple #[.slice none 0 0, .int .i64 E1]) (by simp [results, Tryz.results31, go_sem, *]) rfl ?_
    rw [HR.out]
    exact ⟨⟨_, rfl⟩, HB.out⟩
  have HLG := Lib.hid (tab_legs hc)
  have HMD := Lib.hid (tab_modes hc)
  have HTO := Lib.hid (tab_ok hc)
  refine (achk_at 0 hc (HT.out.ext E0.out)).mono ?_
  rintro e w1 ⟨rfl, B⟩
  have HC := Lib.hid hc
  have E1 := Lib.hid (ext_trans E0.out B)
  have BT1 := Lib.hid (BT.out.ext B)
  have BX1 := Lib.hid (BX.out.ext B)
  have hm1 : w.heap.size + 1 < w1.heap.size := BX1.out.lt
  have HS : Hid (PSt w t w1.heap.size 0 0 ((w1.alloc (.map #[] 0)).alloc (.cells #[.map (some w1.heap.size)] 140))) := by
    have hb : Below w1.heap.size w1 ((w1.alloc (.map #[] 0)).alloc (.cells #[.map (some w1.heap.size)] 140)) := ext_alloc (ext_alloc (ext_refl _) _) _
    exact ⟨ext_trans E1.out hb, BT1.out.ext hb, ⟨_, [], BX1.out.ext hb, Own.nil _ _ _ _ _, by simp⟩, Blk.newH (w1.alloc _) [.map (some w1.heap.size)] 140 (w1.heap.size + 1) (by simp), hm1, by simp, [], (GMap.made w1).ext (ext_alloc (ext_refl _) _), ⟨by simp, by simp⟩⟩
  obtain ⟨m, hm⟩ : ∃ m, w1.heap.size = m := ⟨_, rfl⟩
  rw [hm] at HS
  have hmk := mk140
  clear hc B E0 BT BX E1 BT1 BX1
  go_wp2_with fail
  obtain ⟨w2, hw2⟩ : ∃ w2, (w1.alloc (.map #[] 0)).alloc (.cells #[.map (some m)] 140) = w2 := ⟨_, rfl⟩
  rw [hw2] at HS ⊢
  clear hw2 hm hm1
  go_loopw [23] (fun i wr => ∃ k : Nat, k ≤ pl.length ∧ i = .int .i64 k ∧ Hid (PSt w t m (k * 10) 0 wr) ∧ Hid ((pl.take k).all (pathB t) = true)) (fun i _ => pl.length - (intOf i).toNat)
  case atStart => exact ⟨0, Nat.zero_le _, rfl, by rw [Nat.zero_mul]; exact HS, by simp [Hid]⟩
  case round =>
    obtain ⟨k, hk, rfl, HS1, HA⟩ := hrel
    clear HS
    obtain ⟨wo, rfl⟩ : ∃ wo, wo = wr := ⟨_, rfl⟩
    by_cases hlt : k < pl.length
    rotate_left
    · obtain rfl : k = pl.length := by omega
      have HR : Hid (0 = E) := (possE_ok HC.out HA.out).symm.trans HE.out
      obtain ⟨n, hn'⟩ : ∃ n : Nat, t.n = n := ⟨t.n.toNat, by have := HTO.out.n0; omega⟩
      have hn64 : n ≤ 64 := by have := HTO.out.n1; omega
      have t0 := HS1.out.T.c 0 _ rfl
      rw [hn'] at t0
      clear hn'
      go_wp2_with fail
      refine (add_any (w := w) (t := t) (K := 0) false n hn64 (by omega) (by omega) wo HS1.out).mono ?_
      rintro e w3 ⟨⟨v, rfl⟩, hP3⟩
      have HP3 := Lib.hid hP3
      have t4 := hP3.T.c 4 _ rfl
      clear t0 hP3
      go_wp2_with fail
      refine (add_any (w := w) (t := t) true t.ms.l.length (by have := HMD.out; omega) (by omega) (by omega) w3 HP3.out).mono ?_
      rintro e w4 ⟨⟨v, rfl⟩, hP4⟩
      obtain ⟨vx, lx, hX, -, -⟩ := hP4.X
      have x0 := hX.c 0 _ rfl
      have xf := hX.f 0
      have xl := hX.lt
      have x1 := hX.set (j := 0) (by simp) vx
      have x2 := x1.c 0 _ rfl
      have HB := Lib.hid (ext_set hP4.E ⟨w.heap.size + 1, 0, none⟩ vx (by show w.heap.size ≤ w.heap.size + 1; omega))
      obtain ⟨Ax, nx, cx, rfl⟩ : ∃ A n c, vx = .slice A n c := by
        obtain ⟨v, l, h1, h2, -⟩ := hP4.X
        obtain ⟨A, c, hv, -⟩ := h2.form
        have := h1.c 0 _ rfl
        rw [x0] at this; cases this
        exact ⟨A, _, c, hv⟩
      clear t4 hP4 hX x1 HP3
      go_wp2_with fail
      refine bodyPost_ret (v := .tuple #[.slice Ax nx cx, .int .i64 0]) (by simp [results, Tryz.results31, go_sem, *]) rfl ?_
      rw [← HR.out]
      exact ⟨⟨_, rfl⟩, HB.out⟩
    have hE1 := HS1.out.E
    obtain ⟨p, b1, o1, hp, hA, hb1, hc⟩ := (show Slc wo Pth.cells 2 PA pl from (show Slc w Pth.cells 2 PA pl from HP.out.slc).below (Nat.le_refl _) hE1).at_ hlt
    have d0 := hc 0 _ rfl
    have d1 := hc 1 _ rfl
    simp only [Nat.add_zero] at d0
    have HPO := Lib.hid (show Pth.ok w p from HP.out.all (List.mem_of_getElem? hp))
    have hl1 : (k : Int) < pl.length := by omega
    obtain ⟨W1, hW1⟩ : ∃ W1, wo.alloc (.cells #[.int .i64 p.way, .slice p.ts.A p.ts.l.length p.ts.c] 71) = W1 := ⟨_, rfl⟩
    have bp : Blk W1 wo.heap.size p.cells := by rw [← hW1]; exact Blk.newH wo p.cells 71 wo.heap.size rfl
    have HS2 : Hid (PSt w t m (k * 10) 0 W1) := by rw [← hW1]; exact HS1.out.ext (ext_alloc (ext_refl _) _)
    have t0 := HS2.out.T.c 0 _ rfl
    have t1 := HS2.out.T.c 1 _ rfl
    have t2 := HS2.out.T.c 2 _ rfl
    have t3 := HS2.out.T.c 3 _ rfl
    have t4 := HS2.out.T.c 4 _ rfl
    have t5 := HS2.out.T.c 5 _ rfl
    have p0 := bp.c 0 _ rfl
    have p1 := bp.c 1 _ rfl
    have BP := Lib.hid bp
    have HPS := Lib.hid hp
    clear hc hp bp hE1 HS1
    subst hA
    go_wp2_with fail
    clear hW1
    cases hpb : pathB t p
    · refine (path_at 160 (by unfold pathE; rw [hpb]; rfl) (HT.out.ext HS2.out.E) (HPO.out.ext HS2.out.E) HLG.out).mono ?_
      rintro e w3 ⟨rfl, B⟩
      have HR : Hid (160 = E) := (possE_no HC.out HPS.out hpb).symm.trans HE.out
      have HS3 := Lib.hid (HS2.out.ext B)
      obtain ⟨vx, lx, hX, -, -⟩ := HS3.out.X
      have x0 := hX.c 0 _ rfl
      have xf := hX.f 0
      have xl := hX.lt
      have x1 := hX.set (j := 0) (by simp) (.slice none 0 0)
      have x2 := x1.c 0 _ rfl
      have HB := Lib.hid (ext_set HS3.out.E ⟨w.heap.size + 1, 0, none⟩ (.slice none 0 0) (by show w.heap.size ≤ w.heap.size + 1; omega))
      clear t0 t1 t2 t3 t4 t5 p0 p1 hpb x1 hX B d0 d1
      go_wp2_with fail
      refine bodyPost_ret (v := .tuple #[.slice none 0 0, .int .i64 160]) (by simp [results, Tryz.results31, go_sem, *]) rfl ?_
      rw [← HR.out]
      exact ⟨⟨_, rfl⟩, HB.out⟩
    refine (path_at 0 (by unfold pathE; rw [hpb]; rfl) (HT.out.ext HS2.out.E) (HPO.out.ext HS2.out.E) HLG.out).mono ?_
    rintro e w3 ⟨rfl, B⟩
    have HPB := Lib.hid hpb
    have HS3 := Lib.hid (HS2.out.ext B)
    have BP3 := Lib.hid (BP.out.ext B)
    clear t0 t1 t2 t3 t4 t5 p0 p1 hpb B d0 d1 HS2 BP
    have t0 := HS3.out.T.c 0 _ rfl
    have t1 := HS3.out.T.c 1 _ rfl
    have t2 := HS3.out.T.c 2 _ rfl
    have t3 := HS3.out.T.c 3 _ rfl
    have t4 := HS3.out.T.c 4 _ rfl
    have t5 := HS3.out.T.c 5 _ rfl
    have p0 := BP3.out.c 0 _ rfl
    have p1 := BP3.out.c 1 _ rfl
    go_wp2_with fail
    refine (osts_any t p w3 (HT.out.ext HS3.out.E) (HPO.out.ext HS3.out.E) HLG.out HPB.out).mono ?_
    rintro e w4 ⟨A4, c4, rfl, hO4, B⟩
    have HLN := Lib.hid (staysL_len (p := p) HLG.out)
    obtain ⟨L4, hL4⟩ : ∃ L4, staysL t p = L4 := ⟨_, rfl⟩
    rw [hL4] at hO4 HLN ⊢
    obtain ⟨n4, hn4⟩ : ∃ n4, L4.length = n4 := ⟨_, rfl⟩
    rw [hn4] at hO4 HLN ⊢
    have HN4 := Lib.hid hn4
    have HS4 := Lib.hid (HS3.out.ext B)
    have HO4 := Lib.hid (hO4.low (base' := m + 2) HS3.out.hi)
    have hn4' : n4 ≤ 10 := HLN.out
    clear t0 t1 t2 t3 t4 t5 p0 p1 B hL4 hn4 hO4 HS3 BP3 HLN
    have HA' : Hid ((pl.take (k + 1)).all (pathB t) = true) := all_take_succ HA.out HPS.out HPB.out
    clear HA
    go_wp2_with fail
    go_loopw [37] (fun i wr => ∃ j : Nat, j ≤ n4 ∧ i = .int .i64 j ∧ Hid (PSt w t m (k * 10 + j) 0 wr) ∧ Hid (Own wr (m + 2) 113 Sty.cells 4 (.slice A4 n4 c4) L4)) (fun i _ => n4 - (intOf i).toNat)
    case atStart => exact ⟨0, Nat.zero_le _, rfl, HS4, HO4⟩
    case round =>
      obtain ⟨j, hj, rfl, HS5, HO5⟩ := hrel
      clear HS4 HO4
      obtain ⟨wi, rfl⟩ : ∃ wi, wi = wr := ⟨_, rfl⟩
      by_cases hjl : j < n4
      rotate_left
      · go_wp2_with fail
        go_roundw
        case rel => exact ⟨k + 1, by omega, by go_num, by
          have h5 := HS5.out
          obtain ⟨L, h1, h2⟩ := h5.M
          exact ⟨h5.E, h5.T, h5.X, h5.B, h5.lo, h5.hi, L, h1, ⟨fun q hq => let ⟨l, a, b⟩ := h2.row q hq; ⟨l, a, by omega⟩, h2.dis⟩⟩, HA'⟩
        case measure => simp [intOf]; omega
      obtain ⟨y, b2, o2, hy, hA4, hb2, hc⟩ := (show Slc wi Sty.cells 4 A4 L4 from HO5.out.slc styc_len (by decide)).at_ (k := j) (by rw [HN4.out]; exact hjl)
      subst hA4
      have d0 := hc 0 _ rfl
      have d1 := hc 1 _ rfl
      have d2 := hc 2 _ rfl
      have d3 := hc 3 _ rfl
      simp only [Nat.add_zero] at d0
      have e5 := ext_alloc (ext_alloc (ext_refl wi) (.cells #[.bool y.air, .int .i64 y.ix, .int .i64 y.mi.f, .int .i64 y.mi.t] 113)) (.cells #[.bool y.air, .int .i64 y.ix] 144)
      have HS6 := Lib.hid (HS5.out.ext e5)
      have HO6 := Lib.hid (HO5.out.ext e5)
      have bm := HS6.out.B.c 0 _ rfl
      obtain ⟨v0, st, q1, v', W4, q2, hr1, hr2, hr3, hP, hOw⟩ := HS6.out.app ⟨y.air, y.ix⟩ y.mi (by omega)
      have HO7 := Lib.hid (hOw HO6.out (Nat.le_refl _))
      have HP7 := Lib.hid hP
      have HRUN := Lib.hid hr2
      have hjn : (j : Int) < n4 := by omega
      clear hP hOw hr2 hc HS5 HO5 HS6 HO6 e5
      rw [World.size_alloc, World.size_alloc] at HRUN
      go_wp2_with (at_builtin; refine wpList_append_run rfl (.tmp 48) (.tmp 51) 114 rfl v0 (.slice (some ⟨wi.heap.size + 1 + 1, 0, none⟩) 1 1) rfl rfl HRUN.out ?_)
      go_roundw
      case rel => exact ⟨j + 1, hjl, by go_num, HP7, HO7⟩
      case measure => simp [intOf]; omega
theorem poss_any (t : Tab) (ps : SliceOf Pth) (w : World) (ht : Tab.ok w t) (hp : SliceOf.ok Pth.cells 2 Pth.ok w ps) (hn : ps.l.length ≤ 4096) :
    Calls Tryz.prog 31 #[t.v, .slice ps.A ps.l.length ps.c] w (PosR w (possE t ps.l)) := poss_of t ps.A ps.c ps.l w ht hp hn
end Go.Proofs.YtjiojpoiocdnmaaGreat
/- Tracks: is one valid? Check. -/
set_option linter.unusedSimpArgs false
set_option linter.unusedVariables false
namespace Go.Proofs.YtjiojpoiocdnmaaGreat
open Go.RowKit Go.Shelf
def trkB (t : Tab) (x : Trk) : Bool := nameB x.fl.call && decide (1 ≤ x.ps.l.length) && decide (x.ps.l.length ≤ 4096) && x.ps.l.all (pathB t)
def wchkE (t : Tab) (l : List Trk) : Int := if chkT t ≠ 0 then chkT t else if decide (l.length ≤ 12) && l.all (trkB t) then 0 else 240
theorem possE_nil (t : Tab) : possE t [] = chkT t := by unfold possE; split <;> rename_i h <;> simp_all
theorem possE_eq {t : Tab} {l : List Pth} {b : Bool} (h : chkT t = 0) (hb : l.all (pathB t) = b) : possE t l = if b then 0 else 160 := by unfold possE; rw [if_neg (by rw [h]; simp), hb]
set_option maxHeartbeats 400000 in
theorem indexTrk (g : Nat) (cap1 : Value) (p : Trk → Bool) (A : Option Addr) (c : Nat) (l : List (Trk)) (w : World) (ha : Slc w Trk.cells 14 A l) (hn : l.length ≤ maxLen) (hE : Enters Tryz.prog g)
    (hp : ∀ (x : Trk) (W : World), x ∈ l → Below w.heap.size w W → Calls Tryz.prog g #[x.v, cap1] W fun e W' => e = .returned (.bool (p x)) ∧ Below W.heap.size W W') :
    Calls Tryz.prog 59 #[.slice A l.length c, .func (.func g) #[] #[cap1]] w fun e w' => e = .returned (.int .i64 (idxGo p 0 l)) ∧ Below w.heap.size w w' := by
  have HP := Lib.hid hp
  have HE := Lib.hid hE
  clear hp hE
  unfold maxLen at hn
  go_enter Tryz.func59, Tryz.ntmps59
  go_wp2
  go_loopw [8] (fun i wr => ∃ k : Nat, k ≤ l.length ∧ i = .int .i64 k ∧ idxGo p 0 l = idxGo p k (l.drop k) ∧ Below w.heap.size w wr) (fun i _ => l.length - (intOf i).toNat)
  case atStart => exact ⟨0, Nat.zero_le _, rfl, rfl, ext_refl _⟩
  case round =>
    obtain ⟨k, hk, rfl, heq, hB⟩ := hrel
    have HQ := Lib.hid heq
    clear heq
    by_cases hlt : k < l.length
    · obtain ⟨x, b1, o1, hx, rfl, hb1, hc⟩ := (ha.ext hB).at_ hlt
      have HX := Lib.hid hx
      clear hx
      have c0 := hc 0 _ rfl
      have c1 := hc 1 _ rfl
      have c2 := hc 2 _ rfl
      have c3 := hc 3 _ rfl
      have c4 := hc 4 _ rfl
      have c5 := hc 5 _ rfl
      have c6 := hc 6 _ rfl
      have c7 := hc 7 _ rfl
      have c8 := hc 8 _ rfl
      have c9 := hc 9 _ rfl
      have c10 := hc 10 _ rfl
      have c11 := hc 11 _ rfl
      have c12 := hc 12 _ rfl
      have c13 := hc 13 _ rfl
      simp only [Nat.mul_one, Nat.add_zero] at c0 c1 c2 c3 c4 c5 c6 c7 c8 c9 c10 c11 c12 c13
      clear hc
      have hlt' : (k : Int) < l.length := by omega
      have hE2 := HE.out #[x.v, cap1] wr
      cases hpx : p x
      · go_wp2_with fail
        refine (HP.out x wr (List.mem_of_getElem? HX.out) hB).mono ?_
        rintro e w1 ⟨rfl, hB1⟩
        clear hE2
        go_wp2_with fail
        go_roundw
        case rel => exact ⟨k + 1, hlt, by go_num, idx_step HX.out hpx HQ.out, ext_trans hB hB1⟩
        case measure => simp [intOf]; omega
      · go_wp2_with fail
        refine (HP.out x wr (List.mem_of_getElem? HX.out) hB).mono ?_
        rintro e w1 ⟨rfl, hB1⟩
        clear hE2
        go_wp2_with fail
        go_ret
        exact ⟨ret_int (idx_hit HX.out hpx HQ.out).symm, ext_trans hB hB1⟩
    · go_wp2_with fail
      go_ret
      exact ⟨ret_int (idx_end (by omega) HQ.out).symm, hB⟩
theorem containsTrk (g : Nat) (cap1 : Value) (p : Trk → Bool) (A : Option Addr) (c : Nat) (l : List (Trk)) (w : World) (ha : Slc w Trk.cells 14 A l) (hn : l.length ≤ maxLen) (hE : Enters Tryz.prog g)
    (hp : ∀ (x : Trk) (W : World), x ∈ l → Below w.heap.size w W → Calls Tryz.prog g #[x.v, cap1] W fun e W' => e = .returned (.bool (p x)) ∧ Below W.heap.size W W') :
    Calls Tryz.prog 32 #[.slice A l.length c, .func (.func g) #[] #[cap1]] w fun e w' => e = .returned (.bool (l.any p)) ∧ Below w.heap.size w w' := by
  have HP := Lib.hid hp
  have HE := Lib.hid hE
  clear hp hE
  go_enter Tryz.func32, Tryz.ntmps32
  go_wp2_with fail
  refine (indexTrk g cap1 p A c l _ ha hn HE.out HP.out).mono ?_
  rintro e w1 ⟨rfl, hB1⟩
  go_wp2_with fail
  go_ret
  exact ⟨ret_bool (idx_any p l), hB1⟩

set_option maxRecDepth 100000 in
set_option maxHeartbeats 4000000 in
theorem valid_of (t : Tab) (x : Trk) (w : World) (ht : Tab.ok w t) (hx : Trk.ok w x) (hc : chkT t = 0) : Calls Tryz.prog 34 #[t.v, x.v] w (RetB w (trkB t x)) := by
  obtain ⟨R, hR⟩ : ∃ R, trkB t x = R := ⟨_, rfl⟩
  rw [hR]
  have HD : Hid ((nameB x.fl.call && decide (1 ≤ x.ps.l.length) && decide (x.ps.l.length ≤ 4096) && x.ps.l.all (pathB t)) = R) := hR
  have HC := Lib.hid hc
  have HT := Lib.hid ht
  have HX := Lib.hid hx
  have HE := Lib.hid (ext_alloc (ext_alloc (ext_refl w) (.cells #[.int .i64 t.n, .slice t.ss.A t.ss.l.length t.ss.c, .slice t.cs.A t.cs.l.length t.cs.c, .slice t.ws.A t.ws.l.length t.ws.c, .slice t.ms.A t.ms.l.length t.ms.c, .slice t.ks.A t.ks.l.length t.ks.c] 28)) (.cells #[.int .i64 x.fl.id, .int .i64 x.fl.al, .int .i64 x.fl.cl, .string x.fl.call, .slice x.fl.ws.A x.fl.ws.n x.fl.ws.c, .int .i64 x.fl.wi.f, .int .i64 x.fl.wi.t, .bool x.fl.cn, .int .i64 x.op.de, .int .i64 x.op.way, .int .i64 x.op.ho, .bool x.op.cn, .slice x.ps.A x.ps.l.length x.ps.c, .slice x.po.A x.po.n x.po.c] 52))
  have BT : Hid (Blk ((w.alloc (.cells #[.int .i64 t.n, .slice t.ss.A t.ss.l.length t.ss.c, .slice t.cs.A t.cs.l.length t.cs.c, .slice t.ws.A t.ws.l.length t.ws.c, .slice t.ms.A t.ms.l.length t.ms.c, .slice t.ks.A t.ks.l.length t.ks.c] 28)).alloc (.cells #[.int .i64 x.fl.id, .int .i64 x.fl.al, .int .i64 x.fl.cl, .string x.fl.call, .slice x.fl.ws.A x.fl.ws.n x.fl.ws.c, .int .i64 x.fl.wi.f, .int .i64 x.fl.wi.t, .bool x.fl.cn, .int .i64 x.op.de, .int .i64 x.op.way, .int .i64 x.op.ho, .bool x.op.cn, .slice x.ps.A x.ps.l.length x.ps.c, .slice x.po.A x.po.n x.po.c] 52)) w.heap.size t.cells) := (Blk.newH w t.cells 28 w.heap.size rfl).alloc _
  have BX : Hid (Blk ((w.alloc (.cells #[.int .i64 t.n, .slice t.ss.A t.ss.l.length t.ss.c, .slice t.cs.A t.cs.l.length t.cs.c, .slice t.ws.A t.ws.l.length t.ws.c, .slice t.ms.A t.ms.l.length t.ms.c, .slice t.ks.A t.ks.l.length t.ks.c] 28)).alloc (.cells #[.int .i64 x.fl.id, .int .i64 x.fl.al, .int .i64 x.fl.cl, .string x.fl.call, .slice x.fl.ws.A x.fl.ws.n x.fl.ws.c, .int .i64 x.fl.wi.f, .int .i64 x.fl.wi.t, .bool x.fl.cn, .int .i64 x.op.de, .int .i64 x.op.way, .int .i64 x.op.ho, .bool x.op.cn, .slice x.ps.A x.ps.l.length x.ps.c, .slice x.po.A x.po.n x.po.c] 52)) (w.heap.size + 1) x.cells) := Blk.newH (w.alloc (.cells #[.int .i64 t.n, .slice t.ss.A t.ss.l.length t.ss.c, .slice t.cs.A t.cs.l.length t.cs.c, .slice t.ws.A t.ws.l.length t.ws.c, .slice t.ms.A t.ms.l.length t.ms.c, .slice t.ks.A t.ks.l.length t.ks.c] 28)) x.cells 52 (w.heap.size + 1) (by simp)
  have hlen : x.ps.l.length ≤ maxLen := hx.2.2.1.len
  unfold maxLen at hlen
  clear hR hc ht hx
  go_enter Tryz.func34, Tryz.ntmps34
  go_wp2_with fail
  refine (name_any x.fl.call _).mono ?_
  rintro e w2 ⟨rfl, rfl⟩
  cases hn : nameB x.fl.call
  · have HR : Hid (R = false) := by unfold Hid; rw [← HD.out, hn]; rfl
    go_wp2_with fail
    go_ret
    rw [HR.out]
    exact ⟨rfl, HE.out⟩
  have HN := Lib.hid hn
  clear hn
  by_cases h1 : x.ps.l.length < 1
  · have HR : Hid (R = false) := by unfold Hid; rw [← HD.out, decide_eq_false (show ¬ 1 ≤ x.ps.l.length by omega)]; simp
    have h1' : (x.ps.l.length : Int) < 1 := by omega
    go_wp2_with fail
    all_goals
      go_ret
      rw [HR.out]
      exact ⟨rfl, HE.out⟩
  have h1' : ¬ (x.ps.l.length : Int) < 1 := by omega
  by_cases h2 : 4096 < x.ps.l.length
  · have HR : Hid (R = false) := by unfold Hid; rw [← HD.out, decide_eq_false (show ¬ x.ps.l.length ≤ 4096 by omega)]; simp
    have h2' : (4096 : Int) < x.ps.l.length := by omega
    go_wp2_with fail
    all_goals
      go_ret
      rw [HR.out]
      exact ⟨rfl, HE.out⟩
  have h2' : ¬ (4096 : Int) < x.ps.l.length := by omega
  have HR : Hid (x.ps.l.all (pathB t) = R) := by
    unfold Hid
    have := HD.out
    rw [HN.out, decide_eq_true (show 1 ≤ x.ps.l.length by omega), decide_eq_true (show x.ps.l.length ≤ 4096 by omega)] at this
    simpa using this
  go_wp2_with fail
  refine (poss_any t x.ps _ (HT.out.ext HE.out) (pths.ext HX.out.2.2.1 HE.out) (by omega)).mono ?_
  rintro e w2 ⟨⟨v, rfl⟩, B⟩
  rw [possE_eq HC.out HR.out]
  have HB := Lib.hid (ext_trans HE.out B)
  clear B
  cases R
  all_goals
    simp only [Bool.false_eq_true, if_false, if_true]
    go_wp2_with fail
    go_ret
    exact ⟨rfl, HB.out⟩
theorem valid_at {t : Tab} {x : Trk} {w : World} (V : Value) (hV : V = t.v) (r : Bool) (hr : trkB t x = r) (ht : Tab.ok w t) (hx : Trk.ok w x) (hc : chkT t = 0) : Calls Tryz.prog 34 #[V, x.v] w (RetB w r) := by
  subst hV hr; exact valid_of t x w ht hx hc
theorem enters33 : Enters Tryz.prog 33 := fun args w => by kernel_rfl
theorem chk1_any (t : Tab) (b : Nat) (x : Trk) (w : World) (ht : Tab.ok w t) (hx : Trk.ok w x) (hc : chkT t = 0) (hb : Blk w b t.cells) : Calls Tryz.prog 33 #[x.v, .pointer (some ⟨b, 0, none⟩)] w fun e w' => e = .returned (.bool (!trkB t x)) ∧ Below w.heap.size w w' := by
  have HE := Lib.hid (ext_alloc (ext_refl w) (.cells #[.int .i64 x.fl.id, .int .i64 x.fl.al, .int .i64 x.fl.cl, .string x.fl.call, .slice x.fl.ws.A x.fl.ws.n x.fl.ws.c, .int .i64 x.fl.wi.f, .int .i64 x.fl.wi.t, .bool x.fl.cn, .int .i64 x.op.de, .int .i64 x.op.way, .int .i64 x.op.ho, .bool x.op.cn, .slice x.ps.A x.ps.l.length x.ps.c, .slice x.po.A x.po.n x.po.c] 52))
  have HB := Lib.hid (hb.alloc (.cells #[.int .i64 x.fl.id, .int .i64 x.fl.al, .int .i64 x.fl.cl, .string x.fl.call, .slice x.fl.ws.A x.fl.ws.n x.fl.ws.c, .int .i64 x.fl.wi.f, .int .i64 x.fl.wi.t, .bool x.fl.cn, .int .i64 x.op.de, .int .i64 x.op.way, .int .i64 x.op.ho, .bool x.op.cn, .slice x.ps.A x.ps.l.length x.ps.c, .slice x.po.A x.po.n x.po.c] 52))
  have HT := Lib.hid ht
  have HX := Lib.hid hx
  have c0 := HB.out.c 0 _ rfl
  have c1 := HB.out.c 1 _ rfl
  have c2 := HB.out.c 2 _ rfl
  have c3 := HB.out.c 3 _ rfl
  have c4 := HB.out.c 4 _ rfl
  have c5 := HB.out.c 5 _ rfl
  have bl := HB.out.lt
  clear ht hx hb
  go_enter Tryz.func33, Tryz.ntmps33
  go_wp2_with fail
  refine (valid_at _ rfl (trkB t x) rfl (HT.out.ext HE.out) (HX.out.ext HE.out) hc).mono ?_
  rintro e w2 ⟨rfl, B⟩
  go_wp2_with fail
  go_ret
  exact ⟨rfl, ext_trans HE.out B⟩
set_option maxRecDepth 100000 in
set_option maxHeartbeats 4000000 in
theorem wchk_any (t : Tab) (l : SliceOf Trk) (w : World) (ht : Tab.ok w t) (hl : SliceOf.ok Trk.cells 14 Trk.ok w l) : Calls Tryz.prog 14 #[t.v, .slice l.A l.l.length l.c] w (RetE w (wchkE t l.l)) := by
  obtain ⟨R, hR⟩ : ∃ R, wchkE t l.l = R := ⟨_, rfl⟩
  rw [hR]
  have HD : Hid ((if chkT t ≠ 0 then chkT t else if decide (l.l.length ≤ 12) && l.l.all (trkB t) then 0 else 240) = R) := hR
  have HT := Lib.hid ht
  have HX := Lib.hid hl
  have HE := Lib.hid (ext_alloc (ext_refl w) (.cells #[.int .i64 t.n, .slice t.ss.A t.ss.l.length t.ss.c, .slice t.cs.A t.cs.l.length t.cs.c, .slice t.ws.A t.ws.l.length t.ws.c, .slice t.ms.A t.ms.l.length t.ms.c, .slice t.ks.A t.ks.l.length t.ks.c] 28))
  have BT : Hid (Blk (w.alloc (.cells #[.int .i64 t.n, .slice t.ss.A t.ss.l.length t.ss.c, .slice t.cs.A t.cs.l.length t.cs.c, .slice t.ws.A t.ws.l.length t.ws.c, .slice t.ms.A t.ms.l.length t.ms.c, .slice t.ks.A t.ks.l.length t.ks.c] 28)) w.heap.size t.cells) := Blk.newH w t.cells 28 w.heap.size rfl
  have hlen : l.l.length ≤ maxLen := hl.len
  unfold maxLen at hlen
  clear hR ht hl
  go_enter Tryz.func14, Tryz.ntmps14
  go_wp2_with fail
  refine (poss_of t none 0 [] _ (HT.out.ext HE.out) ⟨Slc.nil, Nat.le_refl _, by simp, fun _ => rfl, by simp⟩ (by simp)).mono ?_
  rintro e w2 ⟨⟨v, rfl⟩, B⟩
  rw [possE_nil]
  have HB := Lib.hid (ext_trans HE.out B)
  have BT2 := Lib.hid (BT.out.ext B)
  clear B HE BT
  by_cases hc : chkT t = 0
  rotate_left
  · obtain ⟨E1, hE1⟩ : ∃ E1, chkT t = E1 := ⟨_, rfl⟩
    have HR : Hid (R = E1) := by unfold Hid; rw [← HD.out, if_pos hc, hE1]
    rw [hE1] at hc ⊢
    clear hE1
    go_wp2_with fail
    go_ret
    rw [HR.out]
    exact ⟨rfl, HB.out⟩
  have HC := Lib.hid hc
  rw [hc]
  clear hc
  by_cases h1 : 12 < l.l.length
  · have HR : Hid (R = 240) := by unfold Hid; rw [← HD.out, if_neg (by rw [HC.out]; simp), decide_eq_false (show ¬ l.l.length ≤ 12 by omega)]; rfl
    have h1' : (12 : Int) < l.l.length := by omega
    go_wp2_with fail
    all_goals
      go_ret
      rw [HR.out]
      exact ⟨rfl, HB.out⟩
  have h1' : ¬ (12 : Int) < l.l.length := by omega
  have HR : Hid (R = if l.l.all (trkB t) then 0 else 240) := by unfold Hid; rw [← HD.out, if_neg (by rw [HC.out]; simp), decide_eq_true (show l.l.length ≤ 12 by omega), Bool.true_and]
  go_wp2_with fail
  refine (containsTrk 33 (.pointer (some ⟨w.heap.size, 0, none⟩)) (fun x => !trkB t x) l.A l.c l.l w2 (HX.out.slc.below (Nat.le_refl _) HB.out) (by unfold maxLen; omega) enters33 (fun x W hx hW => chk1_any t w.heap.size x W (HT.out.ext (ext_trans HB.out hW)) ((HX.out.all hx).ext (ext_trans HB.out hW)) HC.out (BT2.out.ext hW))).mono ?_
  rintro e w3 ⟨rfl, B⟩
  rw [show l.l.any (fun x => !trkB t x) = !l.l.all (trkB t) by rw [← all_any (trkB t) l.l, Bool.not_not]]
  have HB2 := Lib.hid (ext_trans HB.out B)
  clear B
  cases hq : l.l.all (trkB t)
  all_goals
    rw [hq] at HR
    clear hq
    go_wp2_with fail
    go_ret
    rw [HR.out]
    exact ⟨rfl, HB2.out⟩
theorem wchk_at {t : Tab} {A : Option Addr} {n c : Nat} {l : List Trk} {w : World} (r : Int) (hr : wchkE t l = r) (hn : n = l.length) (ht : Tab.ok w t) (hl : SliceOf.ok Trk.cells 14 Trk.ok w ⟨A, c, l⟩) : Calls Tryz.prog 14 #[t.v, .slice A n c] w (RetE w r) := by
  subst hr hn; exact wchk_any t ⟨A, c, l⟩ w ht hl
end Go.Proofs.YtjiojpoiocdnmaaGreat
