/- Cut. -/
import Derived.Test.YthchcimialclkaaK
set_option linter.unusedSimpArgs false
set_option linter.unusedVariables false
namespace Go.Proofs.Ythchcimialclkaa
open Go.RowKit Go.Shelf
attribute [local go_sem] Oper.semAt_some
theorem cuts_any (A : Option Addr) (c n : Nat) (ch : Lk) (on : Bool) (w : World) :
    Calls Try.prog 34 #[.slice A n c, .agg #[.int .i64 ch.a, .int .i64 ch.b], .bool on] w fun e w' => e = .returned (.func (.func 38) #[] #[.pointer (some ⟨w.heap.size + 1, 0, none⟩), .pointer (some ⟨w.heap.size + 1 + 1, 0, none⟩), .pointer (some ⟨w.heap.size, 0, none⟩)]) ∧
      ((w.alloc (.cells #[.slice A n c] 23)).alloc (.cells #[.int .i64 ch.a, .int .i64 ch.b] 56)).alloc (.cells #[.bool on] 4) = w' := by
  go_enter Try.func34, Try.ntmps34
  go_wp2
  go_ret
  exact ⟨rfl, rfl⟩
theorem CCap.new (w : World) (A : Option Addr) (c : Nat) (l : List Lk) (ch : Lk) (on : Bool) (ex : Nat → Prop) (ha : Slc w Lk.cells 2 A l) (hex : ∀ k, ex k → w.heap.size + 3 ≤ k ∨ rowOff A l k ∧ k < w.heap.size) :
    CCap (((w.alloc (.cells #[.slice A l.length c] 23)).alloc (.cells #[.int .i64 ch.a, .int .i64 ch.b] 56)).alloc (.cells #[.bool on] 4)) (w.heap.size + 3) ex (w.heap.size + 1) (w.heap.size + 1 + 1) w.heap.size A c l ch on := by
  have b1 := ((Blk.new w [.slice A l.length c] 23).alloc (.cells #[.int .i64 ch.a, .int .i64 ch.b] 56)).alloc (.cells #[.bool on] 4)
  have b2 := (Blk.newH (w.alloc (.cells #[.slice A l.length c] 23)) [.int .i64 ch.a, .int .i64 ch.b] 56 (w.heap.size + 1) (by simp)).alloc (.cells #[.bool on] 4)
  have b3 := Blk.newH ((w.alloc (.cells #[.slice A l.length c] 23)).alloc (.cells #[.int .i64 ch.a, .int .i64 ch.b] 56)) [.bool on] 4 (w.heap.size + 1 + 1) (by simp)
  refine ⟨by omega, by omega, by omega, fun h => by rcases hex _ h with h | h <;> omega, fun h => by rcases hex _ h with h | h <;> omega, fun h => by rcases hex _ h with h | h <;> omega, b2.c 0 _ rfl, b2.c 1 _ rfl, b3.c 0 _ rfl, b1.c 0 _ rfl, ((ha.alloc _).alloc _).alloc _, ?_⟩
  intro hl b o s e
  cases l with
  | nil => exact absurd rfl hl
  | cons x xs =>
    obtain ⟨b', o', e', hlt, _⟩ := ha 0 x rfl
    rw [e'] at e; cases e
    refine ⟨by omega, fun h => ?_⟩
    rcases hex _ h with h | h
    · omega
    · exact h.1 (by simp) _ _ _ e' rfl
theorem cuts_stops (n : Nat) (hn : 1 ≤ n) (B : Nat) (ex : Nat → Prop) (bc bo bl : Nat) (A : Option Addr) (c : Nat) (l : List Lk) (ch : Lk) (on : Bool) (hll : l.length ≤ maxLen) (w : World) (hB : B ≤ w.heap.size) (hC : CCap w B ex bc bo bl A c l ch on) :
    SeqStopsK Fence.wide n Try.prog 38 #[.pointer (some ⟨bc, 0, none⟩), .pointer (some ⟨bo, 0, none⟩), .pointer (some ⟨bl, 0, none⟩)] encL (KpE B ex) (fun ys => ys = cutsL l ch on) (fun pre => pre <+: cutsL l ch on) (cutsL l ch on).length w :=
  fun y J Jx W hW hJ _ hY hJ0 => cuts1_in n hn y B ex bc bo bl A c l ch on hll J Jx W (Nat.le_trans hB hW.size) hJ hY (hC.keep (Kx.below hW hB) hW.size) hJ0
theorem lk_info : (Try.prog.info? 53).map (fun i => (i.zero, i.size, i.bytes)) = some (some (.agg #[.int .i64 0, .int .i64 0]), 2, 16) := by kernel_rfl
theorem lkI : EInfo Try.prog 23 53 Lk.cells 2 16 := by
  obtain ⟨i, h1, h2, h3, h4⟩ := info_parts lk_info
  exact ⟨Try.underlying23, ⟨i, _, h1, h2, h3, h4, rfl⟩, by decide, fun _ => rfl, fun x u hu => by simp [Lk.cells] at hu; rcases hu with rfl | rfl <;> rfl⟩
theorem Blk.keepB {w w' : World} {b : Nat} {cs : List Value} (h : Blk w b cs) (hb : w'.heap[b]? = w.heap[b]?) : Blk w' b cs :=
  ⟨by have := h.lt; have h1 : w'.heap[b]? = some w.heap[b] := hb.trans (Array.getElem?_eq_getElem this); exact (Array.getElem?_eq_some_iff.1 h1).1,
    fun j v hj => (World.cell?_of_block (w := w) (a := ⟨b, j, none⟩) hb).trans (h.c j v hj), fun j => (World.frozen?_of_block (w := w) (a := ⟨b, j, none⟩) hb).trans (h.f j)⟩
theorem Blk.turn {w w' : World} {b : Nat} {u : Value} {cs : List Value} {row : Option Nat} (h : Blk w b (u :: cs)) (hg : w.grownBy w' row) (hr : ∀ r, row = some r → ∃ o : Obj, w.heap[r]? = some o ∧ o.isCells = false) : Blk w' b (u :: cs) := by
  refine h.keepB (hg.block b h.lt (fun e' => ?_))
  obtain ⟨ob, h1, h2⟩ := hr b e'.symm
  have h3 := h.c 0 u rfl
  simp only [World.cell?, h1] at h3
  cases ob <;> simp_all [Obj.isCells]
theorem Own.isRow {α : Type} {w : World} {base : Nat} {e : TypeId} {enc : α → List Value} {sz : Nat} {v : Value} {l : List α} (h : Own w base e enc sz v l) : ∀ (k : Nat) (o : Obj), v.ownBlock = some k → w.heap[k]? = some o → o.isCells = true := by
  intro k o hk ho
  rcases h.2 with ⟨hv, _⟩ | ⟨g, cap, cur, hv, hb, hg, _⟩
  · rw [hv] at hk; cases hk
  · rw [hv] at hk; cases hk; rw [hg] at ho; cases ho; rfl
def Nt.cutE (n : Nt) (a b : Int) : Int := if chkE n ≠ 0 then 460 else if okL (btw a b) then 0 else 1
def Nt.cutQ (n : Nt) (a b : Int) : List Pk := if n.cutE a b = 0 then n.q.l else []
def Nt.cutA (n : Nt) (a b : Int) (on : Bool) : List Lk := if n.cutE a b = 0 then cutsL n.ap.l (btw a b) on else []
theorem cuts_len (l : List Lk) (ch : Lk) (on : Bool) : (cutsL l ch on).length ≤ 6 := List.length_filter_le _ _
set_option maxRecDepth 100000 in
set_option maxHeartbeats 3200000 in
theorem cut_any (n : Nt) (a b : Int) (on : Bool) (w : World) (hn : NOk w n) : Calls Try.prog 19 #[n.v, .int .i64 a, .int .i64 b, .bool on] w (NetR w n.off (n.cutQ a b) (n.cutA a b on) (n.cutE a b)) := by
  obtain ⟨r, hr⟩ : ∃ r, n.cutE a b = r := ⟨_, rfl⟩
  obtain ⟨rq, hrq⟩ : ∃ q, n.cutQ a b = q := ⟨_, rfl⟩
  obtain ⟨ra, hra⟩ : ∃ q, n.cutA a b on = q := ⟨_, rfl⟩
  obtain ⟨x, hx⟩ : ∃ x, btw a b = x := ⟨_, rfl⟩
  obtain ⟨c, hc⟩ : ∃ c, chkE n = c := ⟨_, rfl⟩
  obtain ⟨o, ho⟩ : ∃ o, okL x = o := ⟨_, rfl⟩
  have HN := Lib.hid (show r ≠ 0 → rq = [] ∧ ra = [] from fun h => by rw [← hrq, ← hra]; unfold Nt.cutQ Nt.cutA; rw [hr, if_neg h, if_neg h]; exact ⟨rfl, rfl⟩)
  have HY := Lib.hid (show r = 0 → rq = n.q.l ∧ ra = cutsL n.ap.l x on from fun h => by rw [← hrq, ← hra]; unfold Nt.cutQ Nt.cutA; rw [hr, if_pos h, if_pos h, hx]; exact ⟨rfl, rfl⟩)
  have HR := Lib.hid (show r = if c ≠ 0 then 460 else if o then 0 else 1 by rw [← hr, ← hc, ← ho, ← hx]; rfl)
  have HX := Lib.hid hx
  have HC := Lib.hid hc
  have HO := Lib.hid ho
  have hc01 := chkE_or n
  rw [hc] at hc01
  rw [hr, hrq, hra]
  clear hr hrq hra hx hc ho
  have HB0 := Lib.hid (ext_alloc (ext_alloc (ext_refl w) (.cells #[.slice n.q.A n.q.l.length n.q.c, .slice n.ap.A n.ap.l.length n.ap.c] 25)) (.cells #[.slice none 0 0, .slice none 0 0] 25))
  have X1 := Lib.hid ((Blk.new w [.slice n.q.A n.q.l.length n.q.c, .slice n.ap.A n.ap.l.length n.ap.c] 25).alloc (.cells #[.slice none 0 0, .slice none 0 0] 25))
  have X2 := Lib.hid (Blk.newH (w.alloc (.cells #[.slice n.q.A n.q.l.length n.q.c, .slice n.ap.A n.ap.l.length n.ap.c] 25)) [.slice none 0 0, .slice none 0 0] 25 (w.heap.size + 1) (by simp))
  refine (callsIn_wide (n := 5)).1 ?_
  refine callsIn_of_wp_marks Try.func19 rfl trivial ?_ rfl
  simp only [Try.ntmps19, List.size_toArray, List.length_cons, List.length_nil, Nat.reduceAdd, Nat.reduceSub, Array.replicate_succ, Array.replicate_zero, List.push_toArray, List.append_toArray, List.nil_append, List.cons_append]
  gi_wp2_with fail
  refine ⟨trivial, (callsIn_wide.2 (check_at c HC.out (hn.ext HB0.out))).mono ?_⟩
  rintro e w1 ⟨rfl, B1⟩
  have hB1 := Lib.hid (ext_trans HB0.out B1)
  replace X1 := Lib.hid (X1.out.ext B1)
  replace X2 := Lib.hid (X2.out.ext B1)
  clear B1
  rcases hc01 with rfl | rfl
  rotate_left
  · have HZ := Lib.hid (show r = 460 by rw [HR.out]; rfl)
    have z0 := X2.out.c 0 _ rfl
    have z1 := X2.out.c 1 _ rfl
    have zf := X2.out.f
    gi_wp2_with fail
    refine ⟨.tuple #[.agg #[.slice none 0 0, .slice none 0 0], .int .i64 460], by simp [results, Try.results19, go_sem, *], ?_⟩
    exact NetR.zero HZ.out HN.out (by decide) rfl (ext_set2 hB1.out (w.heap.size + 1) _ _ (by simp))
  gi_wp2_with fail
  refine ⟨trivial, (callsIn_wide.2 (btw_at x HX.out)).mono ?_⟩
  rintro e w2 ⟨rfl, B2⟩
  have hB2 := Lib.hid (ext_alloc (ext_trans hB1.out B2) (.cells #[.int .i64 x.a, .int .i64 x.b] 56))
  have sw := (X2.out.ext B2).lt
  replace X1 := Lib.hid ((X1.out.ext B2).alloc (.cells #[.int .i64 x.a, .int .i64 x.b] 56))
  replace X2 := Lib.hid ((X2.out.ext B2).alloc (.cells #[.int .i64 x.a, .int .i64 x.b] 56))
  have X3 := Lib.hid (Blk.new w2 [.int .i64 x.a, .int .i64 x.b] 56)
  clear B2
  gi_wp2_with fail
  refine ⟨trivial, (callsIn_wide.2 (valid_at (x := x) o HO.out)).mono ?_⟩
  rintro e w3 ⟨rfl, B3⟩
  have hB3 := Lib.hid (ext_trans hB2.out B3)
  replace X1 := Lib.hid (X1.out.ext B3)
  replace X2 := Lib.hid (X2.out.ext B3)
  replace X3 := Lib.hid (X3.out.ext B3)
  clear B3
  cases o
  · have HZ := Lib.hid (show r = 1 by rw [HR.out]; rfl)
    have z0 := X2.out.c 0 _ rfl
    have z1 := X2.out.c 1 _ rfl
    have zf := X2.out.f
    gi_wp2_with fail
    refine ⟨.tuple #[.agg #[.slice none 0 0, .slice none 0 0], .int .i64 1], by simp [results, Try.results19, go_sem, *], ?_⟩
    exact NetR.zero HZ.out HN.out (by decide) rfl (ext_set2 hB3.out (w.heap.size + 1) _ _ (by simp))
  have HZ := Lib.hid (show r = 0 by rw [HR.out]; rfl)
  have z0 := X2.out.c 0 _ rfl
  have z1 := X2.out.c 1 _ rfl
  have zf := X2.out.f
  have n0 := X1.out.c 0 _ rfl
  have n1 := X1.out.c 1 _ rfl
  have c0 := X3.out.c 0 _ rfl
  have c1 := X3.out.c 1 _ rfl
  have k0 := X1.out.lt
  have k2 := X2.out.lt
  have k3 := X3.out.lt
  have hB4 := Lib.hid (ext_set2 hB3.out (w.heap.size + 1) (.slice n.q.A n.q.l.length n.q.c) (.slice none 0 0) (by simp))
  have Y1 := Lib.hid (X1.out.off2 (c := w.heap.size + 1) (.slice n.q.A n.q.l.length n.q.c) (.slice none 0 0) (by simp))
  have Y3 := Lib.hid (X3.out.off2 (c := w.heap.size + 1) (.slice n.q.A n.q.l.length n.q.c) (.slice none 0 0) (by omega))
  have Y2 := Lib.hid (X2.out.put2 (.slice n.q.A n.q.l.length n.q.c) (.slice none 0 0))
  obtain ⟨w4, hw4⟩ : ∃ w4, set2 w3 (w.heap.size + 1) (.slice n.q.A n.q.l.length n.q.c) (.slice none 0 0) = w4 := ⟨_, rfl⟩
  rw [hw4] at hB4 Y1 Y2 Y3
  unfold set2 at hw4
  have u1 := Y1.out.c 1 _ rfl
  have v0 := Y3.out.c 0 _ rfl
  have v1 := Y3.out.c 1 _ rfl
  gi_wp2_with fail
  refine ⟨trivial, (callsIn_wide.2 (cuts_any n.ap.A n.ap.c n.ap.l.length x on _)).mono ?_⟩
  rintro e w5 ⟨rfl, rfl⟩
  clear hw4
  gi_wp2_with fail
  obtain ⟨w5, hw5⟩ : ∃ w5, ((w4.alloc (.cells #[.slice n.ap.A n.ap.l.length n.ap.c] 23)).alloc (.cells #[.int .i64 x.a, .int .i64 x.b] 56)).alloc (.cells #[.bool on] 4) = w5 := ⟨_, rfl⟩
  have hz5 : w5.heap.size = w4.heap.size + 3 := by rw [← hw5]; simp
  have hb45 : Below w4.heap.size w4 w5 := by rw [← hw5]; exact ext_alloc (ext_alloc (ext_alloc (ext_refl w4) _) _) _
  have E5 := ext_trans hB4.out hb45
  have hlt1 := Y2.out.lt
  have hC := CCap.new w4 n.ap.A n.ap.c n.ap.l x on (fun b => b = w.heap.size + 1) (hn.ap.ext hB4.out) (fun k hk => .inr ⟨by rw [hk]; exact (hn.off (by omega)).2.1, by rw [hk]; exact hlt1⟩)
  rw [hw5] at hC ⊢
  rw [← hz5] at hC
  have HCC := Lib.hid hC
  have HE5 := Lib.hid E5
  have HY5 := Lib.hid (Y2.out.ext hb45)
  have hw15 : w.heap.size + 1 < w5.heap.size := by omega
  clear hw5 hb45 hC E5 z0 z1 zf n0 n1 c0 c1 k0 k2 k3 sw u1 v0 v1 hlt1 X1 X2 X3 Y1 Y2 Y3 hB4 hB3 hB2 hB1
  refine wpIn_rangeFunc_ownH (F := Fence.wide) rfl (by decide) (gf := 38) (lb := #[.pointer (some ⟨w4.heap.size + 1, 0, none⟩), .pointer (some ⟨w4.heap.size + 1 + 1, 0, none⟩), .pointer (some ⟨w4.heap.size, 0, none⟩)]) rfl trivial (enters_of Try.func38 (by kernel_rfl) rfl)
    (cuts_stops 4 (by decide) w5.heap.size (fun b => b = w.heap.size + 1) (w4.heap.size + 1) (w4.heap.size + 1 + 1) w4.heap.size n.ap.A n.ap.c n.ap.l x on hn.al w5 (Nat.le_refl _) HCC.out) KpE.t (KpE.b (Nat.le_refl _)) (Below.refl _ _) (fun _ => rfl)
    (fun pre W => ∃ v, Blk W (w.heap.size + 1) [.slice n.q.A n.q.l.length n.q.c, v] ∧ Own W w5.heap.size 53 Lk.cells 2 v pre ∧ Below w.heap.size w W ∧ w5.heap.size ≤ W.heap.size)
    (fun _ _ _ => False)
    (fun s X Y row hs hg hr => by
      obtain ⟨v, h1, h2, h3, h4⟩ := hs
      exact ⟨v, h1.turn hg (fun r e => (hr r e).2), h2.turn hg (fun r e => (hr r e).2), h3.grown hg (Nat.le_trans HE5.out.size h4) (fun r e => Nat.le_trans HE5.out.size (hr r e).1), Nat.le_trans h4 hg.size⟩)
    (fun _ _ _ _ _ hs _ _ => hs)
    ⟨_, HY5.out, Own.nil _ _ _ _ _, HE5.out, Nat.le_refl _⟩
    (fun y a' W => ∃ Bx, W.heap[Bx]? = some (.cells #[.int .i64 y.a, .int .i64 y.b] 53 (0, 0)) ∧ a' = { tmps := #[n.v, .int .i64 a, .int .i64 b, .bool on, .pointer (some ⟨w.heap.size, 0, none⟩), undef, undef, undef, .pointer (some ⟨w.heap.size + 1, 0, none⟩), .int .i64 0, .pointer (some ⟨w2.heap.size, 0, none⟩), .pointer (some ⟨Bx, 0, none⟩), .agg #[.slice n.q.A n.q.l.length n.q.c, .slice n.ap.A n.ap.l.length n.ap.c], .int .i64 0, .bool false, undef, .int .i64 a, .int .i64 b, .agg #[.int .i64 x.a, .int .i64 x.b], .agg #[.int .i64 x.a, .int .i64 x.b], .bool true, .bool false, undef, .pointer (some ⟨w.heap.size, 0, none⟩), .slice n.q.A n.q.l.length n.q.c, .agg #[.slice n.q.A n.q.l.length n.q.c, .slice none 0 0], .pointer (some ⟨w.heap.size, 1, none⟩), .slice n.ap.A n.ap.l.length n.ap.c, .agg #[.int .i64 x.a, .int .i64 x.b], .bool on, .func (.func 38) #[] #[.pointer (some ⟨w4.heap.size + 1, 0, none⟩), .pointer (some ⟨w4.heap.size + 1 + 1, 0, none⟩), .pointer (some ⟨w4.heap.size, 0, none⟩)], y.v, undef, undef, undef, undef, undef, undef, undef], defers := [] })
    (fun y a' _ X Y row hs hg hr => by
      obtain ⟨Bx, h1, h2⟩ := hs
      exact ⟨Bx, (hg.block Bx (Array.getElem?_eq_some_iff.1 h1).1 (fun e' => by obtain ⟨ob, h3, h4⟩ := (hr Bx e'.symm).2; rw [h1] at h3; cases h3; cases h4)).trans h1, h2⟩) ?assign ?body ?done ?stop
  case assign =>
    rintro l pre y W K ⟨v, h1, h2, h3, h4⟩ hK
    simp only [encL, Lk.v]
    gi_wp2
    exact hK _ _ ((KeepsOthers.alloc _ _).from _) ⟨Kx.below (ext_alloc (ext_refl W) _) h4, by simp⟩ ⟨v, h1.alloc _, h2.alloc _, ext_alloc h3 _, by simp; omega⟩ ⟨W.heap.size, World.alloc_heap_new W _, rfl⟩
  case body =>
    rintro l pre y a' W _ _ ⟨v, h1, h2, h3, h4⟩ ⟨Bx, hx, rfl⟩ hlt
    have c0 : W.cell? ⟨Bx, 0, none⟩ = some (.int .i64 y.a) := by simp [World.cell?, hx]
    have c1 : W.cell? ⟨Bx, 1, none⟩ = some (.int .i64 y.b) := by simp [World.cell?, hx]
    have cv := h1.c 1 _ rfl
    have hpl : pre.length < 6 := by have := cuts_len n.ap.l x on; omega
    have hS := slc_litH W [y] #[.int .i64 y.a, .int .i64 y.b] 53 (enc := Lk.cells) (sz := 2) (fun _ => rfl) rfl W.heap.size rfl
    obtain ⟨v', w6, hrun, hO5, hg5, hat5⟩ := (h2.alloc (.cells #[.int .i64 y.a, .int .i64 y.b] 53)).append lkI 23 (ys := [y]) (m := 1) rfl 1 hS (by simp; omega) (by unfold maxLen; simp; omega) (by simp; omega)
    obtain ⟨g5, d5, cur5, hv5, _, hbg5, _, _⟩ := hO5.some_ (by simp)
    rw [show (pre ++ [y]).length = pre.length + 1 by simp] at hv5
    subst hv5
    have hrow : ∀ r, v.ownBlock = some r → w5.heap.size ≤ r := fun r e => (h2.lt r e).2
    have h16 : Blk w6 (w.heap.size + 1) [.slice n.q.A n.q.l.length n.q.c, v] := (h1.alloc (.cells #[.int .i64 y.a, .int .i64 y.b] 53)).keepB (hg5.block _ (by have := h1.lt; simp; omega) (fun e => by have := hrow _ e.symm; omega))
    have hv1 := h16.c 1 _ rfl
    have hf1 := h16.f
    have h17 := h16.set (j := 1) (by simp) (.slice (some ⟨g5, 0, none⟩) (pre.length + 1) d5)
    have hO6 := hO5.block (w' := w6.setCell ⟨w.heap.size + 1, 1, none⟩ (.slice (some ⟨g5, 0, none⟩) (pre.length + 1) d5)) (fun kk e => by cases e; exact Below.heap_setCell _ _ _ _ (by simp; omega))
    have hE6 : Below w.heap.size w w6 := ext_grown (ext_alloc h3 _) hg5 (fun r e => by have := hrow r e; omega)
    have hkx : KpE w5.heap.size (fun b => b = w.heap.size + 1) W (w6.setCell ⟨w.heap.size + 1, 1, none⟩ (.slice (some ⟨g5, 0, none⟩) (pre.length + 1) d5)) := by
      refine ⟨((Kx.below (ext_alloc (ext_refl W) _) h4).t (Kx.grown hg5 (by simp; omega) (fun r e => .inl (hrow r e)))).t (Kx.set _ _ (.inr rfl)), ?_⟩
      have := hg5.size; simp at this; simp [World.setCell]; omega
    have hko : KeepsOthers W (w6.setCell ⟨w.heap.size + 1, 1, none⟩ (.slice (some ⟨g5, 0, none⟩) (pre.length + 1) d5)) := ((KeepsOthers.alloc W _).trans (KeepsOthers.of_grownBy hg5 (h2.alloc (.cells #[.int .i64 y.a, .int .i64 y.b] 53)).isRow)).trans (KeepsOthers.setCell _ _ _)
    have HOUT : Hid (ownPostG w5.heap.size (KpE w5.heap.size fun b => b = w.heap.size + 1) (fun pre W => ∃ v, Blk W (w.heap.size + 1) [.slice n.q.A n.q.l.length n.q.c, v] ∧ Own W w5.heap.size 53 Lk.cells 2 v pre ∧ Below w.heap.size w W ∧ w5.heap.size ≤ W.heap.size) (fun _ _ _ => False) (pre ++ [y]) W Exit.normal { tmps := #[], defers := [] } (w6.setCell ⟨w.heap.size + 1, 1, none⟩ (.slice (some ⟨g5, 0, none⟩) (pre.length + 1) d5))) :=
      ⟨hko.from _, hkx, _, h17, hO6, ext_set hE6 _ _ (by simp), Nat.le_trans h4 hkx.2⟩
    have HRUN := Lib.hid hrun
    clear hrun hkx hO6 h17 hg5 hO5 hat5 hS hE6 hko
    gi_wp2_with (gi_at_builtin; refine wpListIn_append_run rfl (.tmp 33) (.tmp 35) 23 rfl v (.slice (some ⟨W.heap.size, 0, none⟩) 1 1) rfl rfl HRUN.out ?_)
    exact HOUT.out
  case done =>
    rintro D ys W hD rfl ⟨v, h1, h2, h3, h4⟩ hK
    obtain ⟨A5, c5, hv5, hc5, hA5, _⟩ := h2.form
    subst hv5
    have z0 := h1.c 0 _ rfl
    have z1 := h1.c 1 _ rfl
    have zf := h1.f
    have hKs : (set2 W (w.heap.size + 1) (.slice n.q.A n.q.l.length n.q.c) (.slice A5 (cutsL n.ap.l x on).length c5)).heap[D]? = some (.deferred (some [])) := (KeepsOthers.setCell _ _ _).same D _ ((KeepsOthers.setCell _ _ _).same D _ hK rfl) rfl
    have hbx : Blk ((set2 W (w.heap.size + 1) (.slice n.q.A n.q.l.length n.q.c) (.slice A5 (cutsL n.ap.l x on).length c5)).putObj D (.deferred none)) (w.heap.size + 1) [.slice n.q.A n.q.l.length n.q.c, .slice A5 (cutsL n.ap.l x on).length c5] := (h1.put2 _ _).keepB ((grownBy_putObj' _ D (.deferred none)).block _ (by simp [set2]; exact h1.lt) (by simp; omega))
    have hO1 : Own (set2 W (w.heap.size + 1) (.slice n.q.A n.q.l.length n.q.c) (.slice A5 (cutsL n.ap.l x on).length c5)) w5.heap.size 53 Lk.cells 2 _ _ := h2.block (fun kk e => by
      have hk := (h2.lt kk e).2
      exact (Below.heap_setCell _ ⟨w.heap.size + 1, 1, none⟩ _ kk (by simp; omega)).trans (Below.heap_setCell _ ⟨w.heap.size + 1, 0, none⟩ _ kk (by simp; omega)))
    have hO2 := hO1.turn (grownBy_putObj' _ D (.deferred none)) (fun r e => by cases e; exact ⟨_, hKs, rfl⟩)
    have hB6 : Below w.heap.size w ((set2 W (w.heap.size + 1) (.slice n.q.A n.q.l.length n.q.c) (.slice A5 (cutsL n.ap.l x on).length c5)).putObj D (.deferred none)) := (ext_set2 h3 (w.heap.size + 1) _ _ (by simp)).grown (grownBy_putObj' _ D _) (by simp [set2]; exact h3.size) (fun r e => by cases e; omega)
    have b0 := hbx.c 0 _ rfl
    have b1 := hbx.c 1 _ rfl
    have HO2 := Lib.hid hO2
    have HB6 := Lib.hid hB6
    clear hO2 hO1 hbx hB6
    unfold set2 at hKs b0 b1 HO2 HB6
    gi_wp2_with fail
    refine ⟨by simp, .inl ⟨_, _, rfl, run_takeDeferred hKs, ?_⟩⟩
    refine ⟨.tuple #[.agg #[.slice n.q.A n.q.l.length n.q.c, .slice A5 (cutsL n.ap.l x on).length c5], .int .i64 0], by simp [results, Try.results19, go_sem, b0, b1], ?_⟩
    obtain ⟨rfl, rfl⟩ := HY.out HZ.out
    have hS := HO2.out.slc lkI.hl lkI.hz
    have hcl := cuts_len n.ap.l x on
    refine ⟨⟨n.q, ⟨A5, c5, cutsL n.ap.l x on⟩⟩, by rw [HZ.out], rfl, rfl, ⟨hn.q.ext HB6.out, hS, fun p hp => (hn.d p hp).ext HB6.out, hn.ql, Nat.le_trans hcl (by unfold maxLen; omega), hn.dl, hn.qc, hn.qm⟩, HB6.out, fun b hb hf => ⟨hf.1, fun _ c o s e => ?_, hf.2.2⟩⟩
    have := (HO2.out.lt c (by rw [show A5 = _ from e]; rfl)).2
    omega
  case stop =>
    rintro D cc pre W _ _ h _
    exact h.elim
theorem cut_at {n : Nt} {a b : Int} {on : Bool} {w : World} (q : List Pk) (ap : List Lk) (r : Int) (hq : n.cutQ a b = q) (ha : n.cutA a b on = ap) (hr : n.cutE a b = r) (hn : NOk w n) : Calls Try.prog 19 #[.agg #[.slice n.q.A n.q.l.length n.q.c, .slice n.ap.A n.ap.l.length n.ap.c], .int .i64 a, .int .i64 b, .bool on] w (NetR w n.off q ap r) := by
  subst hq ha hr; exact cut_any n a b on w hn
end Go.Proofs.Ythchcimialclkaa
