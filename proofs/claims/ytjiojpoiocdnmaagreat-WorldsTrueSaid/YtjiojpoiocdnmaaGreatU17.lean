/- Tracks: is one valid? Check. -/
import Derived.Test.YtjiojpoiocdnmaaGreatU16
import Derived.Test.YtjiojpoiocdnmaaGreatU15
import Derived.Test.YtjiojpoiocdnmaaGreatA
set_option linter.unusedSimpArgs false
set_option linter.unusedVariables false
namespace Go.Proofs.YtjiojpoiocdnmaaGreat
open Go.RowKit Go.Shelf
def trkB (t : Tab) (x : Trk) : Bool := nameB x.fl.call && decide (1 ≤ x.ps.l.length) && decide (x.ps.l.length ≤ 4096) && x.ps.l.all (pathB t)
def wchkE (t : Tab) (l : List Trk) : Int := if chkT t ≠ 0 then chkT t else if decide (l.length ≤ 12) && l.all (trkB t) then 0 else 240
theorem possE_nil (t : Tab) : possE t [] = chkT t := by unfold possE; split <;> rename_i h <;> simp_all
theorem possE_eq {t : Tab} {l : List Pth} {b : Bool} (h : chkT t = 0) (hb : l.all (pathB t) = b) : possE t l = if b then 0 else 160 := by unfold possE; rw [if_neg (by rw [h]; simp), hb]
set_option maxHeartbeats 400000 in
theorem indexTrk (g : Nat) (cap1 : Value) (p : Trk → Bool) (A : Option Addr) (c : Nat) (l : List (Trk)) (w : World) (ha : Slc w Trk.cells 14 A l) (hn : l.length ≤ maxLen) (hE : Enters Tryz.prog g)
    (hp : ∀ (x : Trk) (W : World), x ∈ l → Below w.heap.size w W → Calls Tryz.prog g #[x.v, cap1] W fun e W' => e = .returned (.bool (p x)) ∧ Below W.heap.size W W') :
    Calls Tryz.prog 59 #[.slice A l.length c, .func (.func g) #[] #[cap1]] w fun e w' => e = .returned (.int .i64 (idxGo p 0 l)) ∧ Below w.heap.size w w' := by
  have HP := Lib.hid hp
  have HE := Lib.hid hE
  clear hp hE
  unfold maxLen at hn
  go_enter Tryz.func59, Tryz.ntmps59
  go_wp2
  go_loopw [8] (fun i wr => ∃ k : Nat, k ≤ l.length ∧ i = .int .i64 k ∧ idxGo p 0 l = idxGo p k (l.drop k) ∧ Below w.heap.size w wr) (fun i _ => l.length - (intOf i).toNat)
  case atStart => exact ⟨0, Nat.zero_le _, rfl, rfl, ext_refl _⟩
  case round =>
    obtain ⟨k, hk, rfl, heq, hB⟩ := hrel
    have HQ := Lib.hid heq
    clear heq
    by_cases hlt : k < l.length
    · obtain ⟨x, b1, o1, hx, rfl, hb1, hc⟩ := (ha.ext hB).at_ hlt
      have HX := Lib.hid hx
      clear hx
      have c0 := hc 0 _ rfl
      have c1 := hc 1 _ rfl
      have c2 := hc 2 _ rfl
      have c3 := hc 3 _ rfl
      have c4 := hc 4 _ rfl
      have c5 := hc 5 _ rfl
      have c6 := hc 6 _ rfl
      have c7 := hc 7 _ rfl
      have c8 := hc 8 _ rfl
      have c9 := hc 9 _ rfl
      have c10 := hc 10 _ rfl
      have c11 := hc 11 _ rfl
      have c12 := hc 12 _ rfl
      have c13 := hc 13 _ rfl
      simp only [Nat.mul_one, Nat.add_zero] at c0 c1 c2 c3 c4 c5 c6 c7 c8 c9 c10 c11 c12 c13
      clear hc
      have hlt' : (k : Int) < l.length := by omega
      have hE2 := HE.out #[x.v, cap1] wr
      cases hpx : p x
      · go_wp2_with fail
        refine (HP.out x wr (List.mem_of_getElem? HX.out) hB).mono ?_
        rintro e w1 ⟨rfl, hB1⟩
        clear hE2
        go_wp2_with fail
        go_roundw
        case rel => exact ⟨k + 1, hlt, by go_num, idx_step HX.out hpx HQ.out, ext_trans hB hB1⟩
        case measure => simp [intOf]; omega
      · go_wp2_with fail
        refine (HP.out x wr (List.mem_of_getElem? HX.out) hB).mono ?_
        rintro e w1 ⟨rfl, hB1⟩
        clear hE2
        go_wp2_with fail
        go_ret
        exact ⟨ret_int (idx_hit HX.out hpx HQ.out).symm, ext_trans hB hB1⟩
    · go_wp2_with fail
      go_ret
      exact ⟨ret_int (idx_end (by omega) HQ.out).symm, hB⟩
theorem containsTrk (g : Nat) (cap1 : Value) (p : Trk → Bool) (A : Option Addr) (c : Nat) (l : List (Trk)) (w : World) (ha : Slc w Trk.cells 14 A l) (hn : l.length ≤ maxLen) (hE : Enters Tryz.prog g)
    (hp : ∀ (x : Trk) (W : World), x ∈ l → Below w.heap.size w W → Calls Tryz.prog g #[x.v, cap1] W fun e W' => e = .returned (.bool (p x)) ∧ Below W.heap.size W W') :
    Calls Tryz.prog 32 #[.slice A l.length c, .func (.func g) #[] #[cap1]] w fun e w' => e = .returned (.bool (l.any p)) ∧ Below w.heap.size w w' := by
  have HP := Lib.hid hp
  have HE := Lib.hid hE
  clear hp hE
  go_enter Tryz.func32, Tryz.ntmps32
  go_wp2_with fail
  refine (indexTrk g cap1 p A c l _ ha hn HE.out HP.out).mono ?_
  rintro e w1 ⟨rfl, hB1⟩
  go_wp2_with fail
  go_ret
  exact ⟨ret_bool (idx_any p l), hB1⟩

set_option maxRecDepth 100000 in
set_option maxHeartbeats 4000000 in
theorem valid_of (t : Tab) (x : Trk) (w : World) (ht : Tab.ok w t) (hx : Trk.ok w x) (hc : chkT t = 0) : Calls Tryz.prog 34 #[t.v, x.v] w (RetB w (trkB t x)) := by
  obtain ⟨R, hR⟩ : ∃ R, trkB t x = R := ⟨_, rfl⟩
  rw [hR]
  have HD : Hid ((nameB x.fl.call && decide (1 ≤ x.ps.l.length) && decide (x.ps.l.length ≤ 4096) && x.ps.l.all (pathB t)) = R) := hR
  have HC := Lib.hid hc
  have HT := Lib.hid ht
  have HX := Lib.hid hx
  have HE := Lib.hid (ext_alloc (ext_alloc (ext_refl w) (.cells #[.int .i64 t.n, .slice t.ss.A t.ss.l.length t.ss.c, .slice t.cs.A t.cs.l.length t.cs.c, .slice t.ws.A t.ws.l.length t.ws.c, .slice t.ms.A t.ms.l.length t.ms.c, .slice t.ks.A t.ks.l.length t.ks.c] 28)) (.cells #[.int .i64 x.fl.id, .int .i64 x.fl.al, .int .i64 x.fl.cl, .string x.fl.call, .slice x.fl.ws.A x.fl.ws.n x.fl.ws.c, .int .i64 x.fl.wi.f, .int .i64 x.fl.wi.t, .bool x.fl.cn, .int .i64 x.op.de, .int .i64 x.op.way, .int .i64 x.op.ho, .bool x.op.cn, .slice x.ps.A x.ps.l.length x.ps.c, .slice x.po.A x.po.n x.po.c] 52))
  have BT : Hid (Blk ((w.alloc (.cells #[.int .i64 t.n, .slice t.ss.A t.ss.l.length t.ss.c, .slice t.cs.A t.cs.l.length t.cs.c, .slice t.ws.A t.ws.l.length t.ws.c, .slice t.ms.A t.ms.l.length t.ms.c, .slice t.ks.A t.ks.l.length t.ks.c] 28)).alloc (.cells #[.int .i64 x.fl.id, .int .i64 x.fl.al, .int .i64 x.fl.cl, .string x.fl.call, .slice x.fl.ws.A x.fl.ws.n x.fl.ws.c, .int .i64 x.fl.wi.f, .int .i64 x.fl.wi.t, .bool x.fl.cn, .int .i64 x.op.de, .int .i64 x.op.way, .int .i64 x.op.ho, .bool x.op.cn, .slice x.ps.A x.ps.l.length x.ps.c, .slice x.po.A x.po.n x.po.c] 52)) w.heap.size t.cells) := (Blk.newH w t.cells 28 w.heap.size rfl).alloc _
  have BX : Hid (Blk ((w.alloc (.cells #[.int .i64 t.n, .slice t.ss.A t.ss.l.length t.ss.c, .slice t.cs.A t.cs.l.length t.cs.c, .slice t.ws.A t.ws.l.length t.ws.c, .slice t.ms.A t.ms.l.length t.ms.c, .slice t.ks.A t.ks.l.length t.ks.c] 28)).alloc (.cells #[.int .i64 x.fl.id, .int .i64 x.fl.al, .int .i64 x.fl.cl, .string x.fl.call, .slice x.fl.ws.A x.fl.ws.n x.fl.ws.c, .int .i64 x.fl.wi.f, .int .i64 x.fl.wi.t, .bool x.fl.cn, .int .i64 x.op.de, .int .i64 x.op.way, .int .i64 x.op.ho, .bool x.op.cn, .slice x.ps.A x.ps.l.length x.ps.c, .slice x.po.A x.po.n x.po.c] 52)) (w.heap.size + 1) x.cells) := Blk.newH (w.alloc (.cells #[.int .i64 t.n, .slice t.ss.A t.ss.l.length t.ss.c, .slice t.cs.A t.cs.l.length t.cs.c, .slice t.ws.A t.ws.l.length t.ws.c, .slice t.ms.A t.ms.l.length t.ms.c, .slice t.ks.A t.ks.l.length t.ks.c] 28)) x.cells 52 (w.heap.size + 1) (by simp)
  have hlen : x.ps.l.length ≤ maxLen := hx.2.2.1.len
  unfold maxLen at hlen
  clear hR hc ht hx
  go_enter Tryz.func34, Tryz.ntmps34
  go_wp2_with fail
  refine (name_any x.fl.call _).mono ?_
  rintro e w2 ⟨rfl, rfl⟩
  cases hn : nameB x.fl.call
  · have HR : Hid (R = false) := by unfold Hid; rw [← HD.out, hn]; rfl
    go_wp2_with fail
    go_ret
    rw [HR.out]
    exact ⟨rfl, HE.out⟩
  have HN := Lib.hid hn
  clear hn
  by_cases h1 : x.ps.l.length < 1
  · have HR : Hid (R = false) := by unfold Hid; rw [← HD.out, decide_eq_false (show ¬ 1 ≤ x.ps.l.length by omega)]; simp
    have h1' : (x.ps.l.length : Int) < 1 := by omega
    go_wp2_with fail
    all_goals
      go_ret
      rw [HR.out]
      exact ⟨rfl, HE.out⟩
  have h1' : ¬ (x.ps.l.length : Int) < 1 := by omega
  by_cases h2 : 4096 < x.ps.l.length
  · have HR : Hid (R = false) := by unfold Hid; rw [← HD.out, decide_eq_false (show ¬ x.ps.l.length ≤ 4096 by omega)]; simp
    have h2' : (4096 : Int) < x.ps.l.length := by omega
    go_wp2_with fail
    all_goals
      go_ret
      rw [HR.out]
      exact ⟨rfl, HE.out⟩
  have h2' : ¬ (4096 : Int) < x.ps.l.length := by omega
  have HR : Hid (x.ps.l.all (pathB t) = R) := by
    unfold Hid
    have := HD.out
    rw [HN.out, decide_eq_true (show 1 ≤ x.ps.l.length by omega), decide_eq_true (show x.ps.l.length ≤ 4096 by omega)] at this
    simpa using this
  go_wp2_with fail
  refine (poss_any t x.ps _ (HT.out.ext HE.out) (pths.ext HX.out.2.2.1 HE.out) (by omega)).mono ?_
  rintro e w2 ⟨⟨v, rfl⟩, B⟩
  rw [possE_eq HC.out HR.out]
  have HB := Lib.hid (ext_trans HE.out B)
  clear B
  cases R
  all_goals
    simp only [Bool.false_eq_true, if_false, if_true]
    go_wp2_with fail
    go_ret
    exact ⟨rfl, HB.out⟩
theorem valid_at {t : Tab} {x : Trk} {w : World} (V : Value) (hV : V = t.v) (r : Bool) (hr : trkB t x = r) (ht : Tab.ok w t) (hx : Trk.ok w x) (hc : chkT t = 0) : Calls Tryz.prog 34 #[V, x.v] w (RetB w r) := by
  subst hV hr; exact valid_of t x w ht hx hc
theorem enters33 : Enters Tryz.prog 33 := fun args w => by kernel_rfl
theorem chk1_any (t : Tab) (b : Nat) (x : Trk) (w : World) (ht : Tab.ok w t) (hx : Trk.ok w x) (hc : chkT t = 0) (hb : Blk w b t.cells) : Calls Tryz.prog 33 #[x.v, .pointer (some ⟨b, 0, none⟩)] w fun e w' => e = .returned (.bool (!trkB t x)) ∧ Below w.heap.size w w' := by
  have HE := Lib.hid (ext_alloc (ext_refl w) (.cells #[.int .i64 x.fl.id, .int .i64 x.fl.al, .int .i64 x.fl.cl, .string x.fl.call, .slice x.fl.ws.A x.fl.ws.n x.fl.ws.c, .int .i64 x.fl.wi.f, .int .i64 x.fl.wi.t, .bool x.fl.cn, .int .i64 x.op.de, .int .i64 x.op.way, .int .i64 x.op.ho, .bool x.op.cn, .slice x.ps.A x.ps.l.length x.ps.c, .slice x.po.A x.po.n x.po.c] 52))
  have HB := Lib.hid (hb.alloc (.cells #[.int .i64 x.fl.id, .int .i64 x.fl.al, .int .i64 x.fl.cl, .string x.fl.call, .slice x.fl.ws.A x.fl.ws.n x.fl.ws.c, .int .i64 x.fl.wi.f, .int .i64 x.fl.wi.t, .bool x.fl.cn, .int .i64 x.op.de, .int .i64 x.op.way, .int .i64 x.op.ho, .bool x.op.cn, .slice x.ps.A x.ps.l.length x.ps.c, .slice x.po.A x.po.n x.po.c] 52))
  have HT := Lib.hid ht
  have HX := Lib.hid hx
  have c0 := HB.out.c 0 _ rfl
  have c1 := HB.out.c 1 _ rfl
  have c2 := HB.out.c 2 _ rfl
  have c3 := HB.out.c 3 _ rfl
  have c4 := HB.out.c 4 _ rfl
  have c5 := HB.out.c 5 _ rfl
  have bl := HB.out.lt
  clear ht hx hb
  go_enter Tryz.func33, Tryz.ntmps33
  go_wp2_with fail
  refine (valid_at _ rfl (trkB t x) rfl (HT.out.ext HE.out) (HX.out.ext HE.out) hc).mono ?_
  rintro e w2 ⟨rfl, B⟩
  go_wp2_with fail
  go_ret
  exact ⟨rfl, ext_trans HE.out B⟩
set_option maxRecDepth 100000 in
set_option maxHeartbeats 4000000 in
theorem wchk_any (t : Tab) (l : SliceOf Trk) (w : World) (ht : Tab.ok w t) (hl : SliceOf.ok Trk.cells 14 Trk.ok w l) : Calls Tryz.prog 14 #[t.v, .slice l.A l.l.length l.c] w (RetE w (wchkE t l.l)) := by
  obtain ⟨R, hR⟩ : ∃ R, wchkE t l.l = R := ⟨_, rfl⟩
  rw [hR]
  have HD : Hid ((if chkT t ≠ 0 then chkT t else if decide (l.l.length ≤ 12) && l.l.all (trkB t) then 0 else 240) = R) := hR
  have HT := Lib.hid ht
  have HX := Lib.hid hl
  have HE := Lib.hid (ext_alloc (ext_refl w) (.cells #[.int .i64 t.n, .slice t.ss.A t.ss.l.length t.ss.c, .slice t.cs.A t.cs.l.length t.cs.c, .slice t.ws.A t.ws.l.length t.ws.c, .slice t.ms.A t.ms.l.length t.ms.c, .slice t.ks.A t.ks.l.length t.ks.c] 28))
  have BT : Hid (Blk (w.alloc (.cells #[.int .i64 t.n, .slice t.ss.A t.ss.l.length t.ss.c, .slice t.cs.A t.cs.l.length t.cs.c, .slice t.ws.A t.ws.l.length t.ws.c, .slice t.ms.A t.ms.l.length t.ms.c, .slice t.ks.A t.ks.l.length t.ks.c] 28)) w.heap.size t.cells) := Blk.newH w t.cells 28 w.heap.size rfl
  have hlen : l.l.length ≤ maxLen := hl.len
  unfold maxLen at hlen
  clear hR ht hl
  go_enter Tryz.func14, Tryz.ntmps14
  go_wp2_with fail
  refine (poss_of t none 0 [] _ (HT.out.ext HE.out) ⟨Slc.nil, Nat.le_refl _, by simp, fun _ => rfl, by simp⟩ (by simp)).mono ?_
  rintro e w2 ⟨⟨v, rfl⟩, B⟩
  rw [possE_nil]
  have HB := Lib.hid (ext_trans HE.out B)
  have BT2 := Lib.hid (BT.out.ext B)
  clear B HE BT
  by_cases hc : chkT t = 0
  rotate_left
  · obtain ⟨E1, hE1⟩ : ∃ E1, chkT t = E1 := ⟨_, rfl⟩
    have HR : Hid (R = E1) := by unfold Hid; rw [← HD.out, if_pos hc, hE1]
    rw [hE1] at hc ⊢
    clear hE1
    go_wp2_with fail
    go_ret
    rw [HR.out]
    exact ⟨rfl, HB.out⟩
  have HC := Lib.hid hc
  rw [hc]
  clear hc
  by_cases h1 : 12 < l.l.length
  · have HR : Hid (R = 240) := by unfold Hid; rw [← HD.out, if_neg (by rw [HC.out]; simp), decide_eq_false (show ¬ l.l.length ≤ 12 by omega)]; rfl
    have h1' : (12 : Int) < l.l.length := by omega
    go_wp2_with fail
    all_goals
      go_ret
      rw [HR.out]
      exact ⟨rfl, HB.out⟩
  have h1' : ¬ (12 : Int) < l.l.length := by omega
  have HR : Hid (R = if l.l.all (trkB t) then 0 else 240) := by unfold Hid; rw [← HD.out, if_neg (by rw [HC.out]; simp), decide_eq_true (show l.l.length ≤ 12 by omega), Bool.true_and]
  go_wp2_with fail
  refine (containsTrk 33 (.pointer (some ⟨w.heap.size, 0, none⟩)) (fun x => !trkB t x) l.A l.c l.l w2 (HX.out.slc.below (Nat.le_refl _) HB.out) (by unfold maxLen; omega) enters33 (fun x W hx hW => chk1_any t w.heap.size x W (HT.out.ext (ext_trans HB.out hW)) ((HX.out.all hx).ext (ext_trans HB.out hW)) HC.out (BT2.out.ext hW))).mono ?_
  rintro e w3 ⟨rfl, B⟩
  rw [show l.l.any (fun x => !trkB t x) = !l.l.all (trkB t) by rw [← all_any (trkB t) l.l, Bool.not_not]]
  have HB2 := Lib.hid (ext_trans HB.out B)
  clear B
  cases hq : l.l.all (trkB t)
  all_goals
    rw [hq] at HR
    clear hq
    go_wp2_with fail
    go_ret
    rw [HR.out]
    exact ⟨rfl, HB2.out⟩
theorem wchk_at {t : Tab} {A : Option Addr} {n c : Nat} {l : List Trk} {w : World} (r : Int) (hr : wchkE t l = r) (hn : n = l.length) (ht : Tab.ok w t) (hl : SliceOf.ok Trk.cells 14 Trk.ok w ⟨A, c, l⟩) : Calls Tryz.prog 14 #[t.v, .slice A n c] w (RetE w r) := by
  subst hr hn; exact wchk_any t ⟨A, c, l⟩ w ht hl
end Go.Proofs.YtjiojpoiocdnmaaGreat
/- Vectors: sums, budgets. -/
set_option linter.unusedSimpArgs false
set_option linter.unusedVariables false
namespace Go.Proofs.YtjiojpoiocdnmaaGreat
open Go.RowKit
def V4.cells (x : V4) : List Value := [.int .i64 x.a, .int .i64 x.b, .int .i64 x.c, .int .i64 x.d]
def V4.get (x : V4) : Nat → Int
  | 0 => x.a
  | 1 => x.b
  | 2 => x.c
  | _ => x.d
def V4.set (x : V4) (k : Nat) (v : Int) : V4 := match k with
  | 0 => { x with a := v }
  | 1 => { x with b := v }
  | 2 => { x with c := v }
  | _ => { x with d := v }
theorem V4.at_ (x : V4) {k : Nat} (h : k < 4) : x.cells[k]? = some (.int .i64 (x.get k)) := by
  match k, h with
  | 0, _ => rfl
  | 1, _ => rfl
  | 2, _ => rfl
  | 3, _ => rfl
theorem V4.set_ (x : V4) {k : Nat} (v : Int) (h : k < 4) : x.cells.set k (.int .i64 v) = (x.set k v).cells := by
  match k, h with
  | 0, _ => rfl
  | 1, _ => rfl
  | 2, _ => rfl
  | 3, _ => rfl
def V4.plus (x y : V4) : V4 := ⟨x.a + y.a, x.b + y.b, x.c + y.c, x.d + y.d⟩
def V4.leB (x y : V4) : Bool := decide (x.a ≤ y.a) && decide (x.b ≤ y.b) && decide (x.c ≤ y.c) && decide (x.d ≤ y.d)
/-- All numbers lie between 0 and N. -/
def V4.In (N : Int) (x : V4) : Prop := 0 ≤ x.a ∧ x.a ≤ N ∧ 0 ≤ x.b ∧ x.b ≤ N ∧ 0 ≤ x.c ∧ x.c ≤ N ∧ 0 ≤ x.d ∧ x.d ≤ N
theorem V4.In.get {N : Int} {x : V4} (h : x.In N) (k : Nat) : 0 ≤ x.get k ∧ x.get k ≤ N := by
  obtain ⟨h0, h1, h2, h3, h4, h5, h6, h7⟩ := h
  match k with
  | 0 => exact ⟨h0, h1⟩
  | 1 => exact ⟨h2, h3⟩
  | 2 => exact ⟨h4, h5⟩
  | _ + 3 => exact ⟨h6, h7⟩
theorem V4.In.mono {N M : Int} {x : V4} (h : x.In N) (hm : N ≤ M) : x.In M := by unfold V4.In at h ⊢; omega
theorem V4.In.plus {N M : Int} {x y : V4} (h : x.In N) (k : y.In M) : (x.plus y).In (N + M) := by unfold V4.In V4.plus at *; simp only; omega
/-- The first k of a sum are done. -/
def V4.mix (x y : V4) (k : Nat) : V4 := ⟨if 0 < k then x.a + y.a else x.a, if 1 < k then x.b + y.b else x.b, if 2 < k then x.c + y.c else x.c, if 3 < k then x.d + y.d else x.d⟩
theorem V4.mix_four (x y : V4) : x.mix y 4 = x.plus y := rfl
theorem V4.mix_get (x y : V4) {k : Nat} (h : k < 4) : (x.mix y k).get k = x.get k := by
  match k, h with
  | 0, _ => rfl
  | 1, _ => rfl
  | 2, _ => rfl
  | 3, _ => rfl
theorem V4.mix_succ (x y : V4) {k : Nat} (h : k < 4) : (x.mix y k).set k (x.get k + y.get k) = x.mix y (k + 1) := by
  match k, h with
  | 0, _ => rfl
  | 1, _ => rfl
  | 2, _ => rfl
  | 3, _ => rfl
/-- The first k keep the budget. -/
def V4.leK (x y : V4) (k : Nat) : Bool := (!decide (0 < k) || decide (x.a ≤ y.a)) && (!decide (1 < k) || decide (x.b ≤ y.b)) && (!decide (2 < k) || decide (x.c ≤ y.c)) && (!decide (3 < k) || decide (x.d ≤ y.d))
theorem V4.leK_zero (x y : V4) : x.leK y 0 = true := rfl
theorem V4.leK_four (x y : V4) : x.leK y 4 = x.leB y := by simp [V4.leK, V4.leB]
theorem V4.leK_succ {x y : V4} {k : Nat} (h : k < 4) (hk : x.leK y k = true) (hl : x.get k ≤ y.get k) : x.leK y (k + 1) = true := by
  match k, h with
  | 0, _ => simp [V4.leK, V4.get] at *; omega
  | 1, _ => simp [V4.leK, V4.get] at *; omega
  | 2, _ => simp [V4.leK, V4.get] at *; omega
  | 3, _ => simp [V4.leK, V4.get] at *; omega
theorem V4.le_no {x y : V4} {k : Nat} (h : k < 4) (hl : ¬ x.get k ≤ y.get k) : x.leB y = false := by
  match k, h with
  | 0, _ => simp [V4.leB, V4.get] at *; omega
  | 1, _ => simp [V4.leB, V4.get] at *; omega
  | 2, _ => simp [V4.leB, V4.get] at *; omega
  | 3, _ => simp [V4.leB, V4.get] at *; omega
set_option maxRecDepth 100000 in
set_option maxHeartbeats 2000000 in
theorem vplus_any (x y : V4) (w : World) (hx : x.In 100000) (hy : y.In 100000) : Calls Tryz.prog 29 #[x.v, y.v] w fun e w' => e = .returned (x.plus y).v ∧ Below w.heap.size w w' := by
  have HX := Lib.hid hx
  have HY := Lib.hid hy
  obtain ⟨z, hz⟩ : ∃ z, x.plus y = z := ⟨_, rfl⟩
  rw [hz]
  have HZ := Lib.hid hz
  clear hx hy hz
  obtain ⟨W0, hW0⟩ : ∃ W0, ((w.alloc (.cells #[.int .i64 x.a, .int .i64 x.b, .int .i64 x.c, .int .i64 x.d] 76)).alloc (.cells #[.int .i64 y.a, .int .i64 y.b, .int .i64 y.c, .int .i64 y.d] 76)).alloc (.cells #[.int .i64 0, .int .i64 0, .int .i64 0, .int .i64 0] 76) = W0 := ⟨_, rfl⟩
  have E0 : Hid (Below w.heap.size w W0) := by rw [← hW0]; exact ext_alloc (ext_alloc (ext_alloc (ext_refl w) _) _) _
  have BX : Hid (Blk W0 w.heap.size x.cells) := by rw [← hW0]; exact ((Blk.newH w x.cells 76 w.heap.size rfl).alloc _).alloc _
  have BY : Hid (Blk W0 (w.heap.size + 1) y.cells) := by rw [← hW0]; exact (Blk.newH (w.alloc _) y.cells 76 (w.heap.size + 1) (by simp)).alloc _
  have BZ : Hid (Blk W0 (w.heap.size + 1 + 1) [.int .i64 0, .int .i64 0, .int .i64 0, .int .i64 0]) := by rw [← hW0]; exact Blk.newH ((w.alloc _).alloc _) [.int .i64 0, .int .i64 0, .int .i64 0, .int .i64 0] 76 (w.heap.size + 1 + 1) (by simp)
  go_enter Tryz.func29, Tryz.ntmps29
  go_wp2_with fail
  clear hW0
  go_loopw [6] (fun i wr => ∃ k : Nat, k ≤ 4 ∧ i = .int .i64 k ∧ Hid (Below w.heap.size w wr) ∧ Hid (Blk wr w.heap.size (x.mix y k).cells) ∧ Hid (Blk wr (w.heap.size + 1) y.cells) ∧ Hid (Blk wr (w.heap.size + 1 + 1) [.int .i64 0, .int .i64 0, .int .i64 0, .int .i64 0])) (fun i _ => 4 - (intOf i).toNat)
  case atStart => exact ⟨0, by omega, rfl, E0, BX, BY, BZ⟩
  case round =>
    obtain ⟨k, hk, rfl, E1, BX1, BY1, BZ1⟩ := hrel
    clear E0 BX BY BZ
    obtain ⟨wo, rfl⟩ : ∃ wo, wo = wr := ⟨_, rfl⟩
    by_cases hlt : k < 4
    · have hlt' : (k : Int) < 4 := by omega
      have hc1 : wo.cell? ⟨w.heap.size, k, none⟩ = some (.int .i64 (x.get k)) := by rw [← V4.mix_get x y hlt]; exact BX1.out.c k _ ((x.mix y k).at_ hlt)
      have hc2 : wo.cell? ⟨w.heap.size + 1, k, none⟩ = some (.int .i64 (y.get k)) := BY1.out.c k _ (y.at_ hlt)
      have hgx := HX.out.get k
      have hgy := HY.out.get k
      obtain ⟨a, ha⟩ : ∃ a, x.get k = a := ⟨_, rfl⟩
      obtain ⟨b, hb⟩ : ∃ b, y.get k = b := ⟨_, rfl⟩
      rw [ha] at hc1 hgx
      rw [hb] at hc2 hgy
      have hw : IntKind.i64.wrap (a + b) = a + b := IntWalk.i64_in _ (by omega)
      have HXS := Lib.hid (show Blk (wo.setCell ⟨w.heap.size, k, none⟩ (.int .i64 (a + b))) w.heap.size (x.mix y (k + 1)).cells by
        rw [← V4.mix_succ x y hlt, ha, hb, ← V4.set_ _ _ hlt]
        exact BX1.out.set (j := k) (by simpa [V4.cells] using hlt) _)
      have HYS := Lib.hid (BY1.out.other (p := ⟨w.heap.size, k, none⟩) (.int .i64 (a + b)) (by simp))
      have HZS := Lib.hid (BZ1.out.other (p := ⟨w.heap.size, k, none⟩) (.int .i64 (a + b)) (by simp; omega))
      have HES := Lib.hid (ext_set E1.out ⟨w.heap.size, k, none⟩ (.int .i64 (a + b)) (Nat.le_refl _))
      have hfz : wo.frozen? ⟨w.heap.size, k, none⟩ = false := BX1.out.f k
      have hbl := BX1.out.lt
      have HC1 := Lib.hid hc1
      have HC2 := Lib.hid hc2
      clear hgx hgy ha hb hc1 hc2
      go_wp2_with fail
      refine rg_begin (S := (fun w' => w'.cell? ⟨w.heap.size, k, none⟩ = some (.int .i64 a) ∧ w'.cell? ⟨w.heap.size + 1, k, none⟩ = some (.int .i64 b))) 8 (by kernel_rfl) (by intro d; cases d <;> intro _ _ _ _ h <;> exact h) ?_ (fun Q7 hQ7 hN7 hHeld => ?_)
      · exact ⟨HC1.out, HC2.out⟩
      refine rgT 0 (some 9) hQ7 hHeld ?_; refine rgT 1 (some 10) hQ7 hHeld ?_; refine rgT 2 (some 11) hQ7 hHeld ?_; refine rgT 3 (some 12) hQ7 hHeld ?_; refine rgT 4 (some 13) hQ7 hHeld ?_; refine rgT 5 (some 14) hQ7 hHeld ?_; refine rgT 6 (some 15) hQ7 hHeld ?_; refine rgT 7 (some 16) hQ7 hHeld ?_
      refine rg_one (i := 8) (by kernel_rfl) (rg_late rfl (by rfl) (by kernel_rfl) (fun K hK => ?_))
      go_simp
      refine hK.out _ _ ?_
      clear hK K
      try simp only [Act.put, List.setIfInBounds_toArray, List.set_cons_zero, List.set_cons_succ]
      refine rg_end (by kernel_rfl) (hN7 _ _ ?_) _
      clear hQ7 hN7 Q7
      clear hHeld
      go_wp2_with fail
      go_roundw
      case rel => exact ⟨k + 1, hlt, by go_num, HES.out.drew, HXS.out.drew, HYS.out.drew, HZS.out.drew⟩
      case measure => simp [intOf]; omega
    · obtain rfl : k = 4 := by omega
      rw [V4.mix_four, HZ.out] at BX1
      have d0 := BX1.out.c 0 _ rfl
      have d1 := BX1.out.c 1 _ rfl
      have d2 := BX1.out.c 2 _ rfl
      have d3 := BX1.out.c 3 _ rfl
      have z0 := BZ1.out.c 0 _ rfl
      have z1 := BZ1.out.c 1 _ rfl
      have z2 := BZ1.out.c 2 _ rfl
      have z3 := BZ1.out.c 3 _ rfl
      have zf := BZ1.out.f
      have zl := BZ1.out.lt
      have HZ4 := Lib.hid (BZ1.out.put4 (.int .i64 z.a) (.int .i64 z.b) (.int .i64 z.c) (.int .i64 z.d))
      have HE4 := Lib.hid (ext_set4 E1.out (w.heap.size + 1 + 1) (.int .i64 z.a) (.int .i64 z.b) (.int .i64 z.c) (.int .i64 z.d) (by omega))
      unfold set4 at HZ4 HE4
      clear BX1 BY1 BZ1 E1
      go_wp2_with fail
      clear z0 z1 z2 z3 zf zl d0 d1 d2 d3
      have r0 := HZ4.out.c 0 _ rfl
      have r1 := HZ4.out.c 1 _ rfl
      have r2 := HZ4.out.c 2 _ rfl
      have r3 := HZ4.out.c 3 _ rfl
      refine bodyPost_ret (v := z.v) (by simp [results, Tryz.results29, go_sem, *]) rfl ?_
      exact ⟨rfl, HE4.out⟩
set_option maxRecDepth 100000 in
set_option maxHeartbeats 2000000 in
theorem vin_any (x y : V4) (w : World) : Calls Tryz.prog 30 #[x.v, y.v] w (RetB w (x.leB y)) := by
  obtain ⟨R, hR⟩ : ∃ R, x.leB y = R := ⟨_, rfl⟩
  rw [hR]
  have HR := Lib.hid hR
  clear hR
  obtain ⟨W0, hW0⟩ : ∃ W0, (w.alloc (.cells #[.int .i64 x.a, .int .i64 x.b, .int .i64 x.c, .int .i64 x.d] 76)).alloc (.cells #[.int .i64 y.a, .int .i64 y.b, .int .i64 y.c, .int .i64 y.d] 76) = W0 := ⟨_, rfl⟩
  have E0 : Hid (Below w.heap.size w W0) := by rw [← hW0]; exact ext_alloc (ext_alloc (ext_refl w) _) _
  have BX : Hid (Blk W0 w.heap.size x.cells) := by rw [← hW0]; exact (Blk.newH w x.cells 76 w.heap.size rfl).alloc _
  have BY : Hid (Blk W0 (w.heap.size + 1) y.cells) := by rw [← hW0]; exact Blk.newH (w.alloc _) y.cells 76 (w.heap.size + 1) (by simp)
  go_enter Tryz.func30, Tryz.ntmps30
  go_wp2_with fail
  clear hW0
  go_loopw [6] (fun i wr => ∃ k : Nat, k ≤ 4 ∧ i = .int .i64 k ∧ Hid (Below w.heap.size w wr) ∧ Hid (Blk wr w.heap.size x.cells) ∧ Hid (Blk wr (w.heap.size + 1) y.cells) ∧ Hid (x.leK y k = true)) (fun i _ => 4 - (intOf i).toNat)
  case atStart => exact ⟨0, by omega, rfl, E0, BX, BY, V4.leK_zero x y⟩
  case round =>
    obtain ⟨k, hk, rfl, E1, BX1, BY1, HK⟩ := hrel
    clear E0 BX BY
    obtain ⟨wo, rfl⟩ : ∃ wo, wo = wr := ⟨_, rfl⟩
    by_cases hlt : k < 4
    · have hlt' : (k : Int) < 4 := by omega
      have hc1 : wo.cell? ⟨w.heap.size, k, none⟩ = some (.int .i64 (x.get k)) := BX1.out.c k _ (x.at_ hlt)
      have hc2 : wo.cell? ⟨w.heap.size + 1, k, none⟩ = some (.int .i64 (y.get k)) := BY1.out.c k _ (y.at_ hlt)
      obtain ⟨a, ha⟩ : ∃ a, x.get k = a := ⟨_, rfl⟩
      obtain ⟨b, hb⟩ : ∃ b, y.get k = b := ⟨_, rfl⟩
      rw [ha] at hc1
      rw [hb] at hc2
      have HC1 := Lib.hid hc1
      have HC2 := Lib.hid hc2
      by_cases hab : a ≤ b
      · have hd : decide (b < a) = false := decide_eq_false (by omega)
        have HK2 := Lib.hid (V4.leK_succ hlt HK.out (by rw [ha, hb]; exact hab))
        clear hc1 hc2 ha hb
        have hab' : ¬ b < a := by omega
        go_wp2_with fail
        refine rg_begin (S := (fun w' => w'.cell? ⟨w.heap.size, k, none⟩ = some (.int .i64 a) ∧ w'.cell? ⟨w.heap.size + 1, k, none⟩ = some (.int .i64 b))) 7 (by kernel_rfl) (by intro d; cases d <;> intro _ _ _ _ h <;> exact h) ?_ (fun Q7 hQ7 hN7 hHeld => ?_)
        · exact ⟨HC1.out, HC2.out⟩
        refine rgT 0 (some 9) hQ7 hHeld ?_; refine rgT 1 (some 10) hQ7 hHeld ?_; refine rgT 2 (some 11) hQ7 hHeld ?_; refine rgT 3 (some 12) hQ7 hHeld ?_; refine rgT 4 (some 13) hQ7 hHeld ?_; refine rgT 5 (some 14) hQ7 hHeld ?_; refine rgT 6 (some 15) hQ7 hHeld ?_
        refine rg_end (by kernel_rfl) (hN7 _ _ ?_) _
        clear hQ7 hN7 Q7
        clear hHeld
        go_wp2_with fail
        go_roundw
        case rel => exact ⟨k + 1, hlt, by go_num, E1.out.drew, BX1.out.drew, BY1.out.drew, HK2⟩
        case measure => simp [intOf]; omega
      · have HF : Hid (R = false) := HR.out.symm.trans (V4.le_no hlt (by rw [ha, hb]; exact hab))
        have hd : decide (b < a) = true := decide_eq_true (by omega)
        have hab' : b < a := by omega
        clear hc1 hc2 ha hb
        go_wp2_with fail
        refine rg_begin (S := (fun w' => w'.cell? ⟨w.heap.size, k, none⟩ = some (.int .i64 a) ∧ w'.cell? ⟨w.heap.size + 1, k, none⟩ = some (.int .i64 b))) 7 (by kernel_rfl) (by intro d; cases d <;> intro _ _ _ _ h <;> exact h) ?_ (fun Q7 hQ7 hN7 hHeld => ?_)
        · exact ⟨HC1.out, HC2.out⟩
        refine rgT 0 (some 9) hQ7 hHeld ?_; refine rgT 1 (some 10) hQ7 hHeld ?_; refine rgT 2 (some 11) hQ7 hHeld ?_; refine rgT 3 (some 12) hQ7 hHeld ?_; refine rgT 4 (some 13) hQ7 hHeld ?_; refine rgT 5 (some 14) hQ7 hHeld ?_; refine rgT 6 (some 15) hQ7 hHeld ?_
        refine rg_end (by kernel_rfl) (hN7 _ _ ?_) _
        clear hQ7 hN7 Q7
        clear hHeld
        go_wp2_with fail
        go_ret
        rw [HF.out]
        exact ⟨rfl, E1.out.drew⟩
    · obtain rfl : k = 4 := by omega
      have HF : Hid (R = true) := by unfold Hid; rw [← HR.out, ← V4.leK_four]; exact HK.out
      go_wp2_with fail
      go_ret
      rw [HF.out]
      exact ⟨rfl, E1.out⟩
theorem vin_at {x y : V4} {w : World} (r : Bool) (hr : x.leB y = r) : Calls Tryz.prog 30 #[x.v, y.v] w (RetB w r) := by
  subst hr; exact vin_any x y w
end Go.Proofs.YtjiojpoiocdnmaaGreat
