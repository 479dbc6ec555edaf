/- The legs of a path: the iterator. -/
import Derived.Test.YtjiojpoiocdnmaaGreatU9
import Derived.BigFrameIn
import Derived.Test.YtjiojpoiocdnmaaGreatU2
set_option linter.unusedSimpArgs false
set_option linter.unusedVariables false
namespace Go.Proofs.YtjiojpoiocdnmaaGreat
open Go.RowKit Go.Shelf
attribute [local go_sem] Oper.semAt_some
def KpE (B : Nat) (ex : Nat → Prop) (W W' : World) : Prop := Kx B ex W W' ∧ W.heap.size ≤ W'.heap.size
theorem KpE.t {B : Nat} {ex : Nat → Prop} {X Y Z : World} (h : KpE B ex X Y) (k : KpE B ex Y Z) : KpE B ex X Z := ⟨h.1.t k.1, Nat.le_trans h.2 k.2⟩
theorem KpE.b {B : Nat} {ex : Nat → Prop} {w : World} (hB : B ≤ w.heap.size) (W : World) (l : Nat) (o o' : Obj) (hl : w.heap.size ≤ l) (h : W.heap[l]? = some o) (h1 : o.isCells = false) (h2 : o.isWalk = false) : KpE B ex W (W.putObj l o') :=
  ⟨Kx.b hB W l o o' hl h h1 h2, (grownBy_putObj' W l o').size⟩
theorem Kx.cell {B : Nat} {ex : Nat → Prop} {W W' : World} {b o : Nat} (h : Kx B ex W W') (hb : b < B) (hx : ¬ ex b) : W'.cell? ⟨b, o, none⟩ = W.cell? ⟨b, o, none⟩ := World.cell?_of_block (a := ⟨b, o, none⟩) (h b hb hx)
/-- All that lay in w0 lies unchanged in W. -/
def Top (w0 W : World) : Prop := w0.heap.size ≤ W.heap.size ∧ ∀ k, k < w0.heap.size → W.heap[k]? = w0.heap[k]?
theorem Slc.top {α : Type} {w0 W : World} {enc : α → List Value} {sz : Nat} {A : Option Addr} {l : List α} (h : Slc w0 enc sz A l) (hT : Top w0 W) : Slc W enc sz A l := fun i x hx => by
  obtain ⟨b, o, e, hlt, hc⟩ := h i x hx
  exact ⟨b, o, e, Nat.lt_of_lt_of_le hlt hT.1, fun j v hj => (World.cell?_of_block (w := w0) (a := ⟨b, o + i * sz + j, none⟩) (hT.2 b hlt)).trans (hc j v hj)⟩
theorem Top.of {w0 W : World} (h : Below w0.heap.size w0 W) : Top w0 W := ⟨h.size, h.block⟩
theorem Top.kx {w0 W W' : World} {B : Nat} {ex : Nat → Prop} (h : Top w0 W) (hk : Kx B ex W W') (hs : W.heap.size ≤ W'.heap.size) (hB : w0.heap.size ≤ B) (hx : ∀ k, k < w0.heap.size → ¬ ex k) : Top w0 W' :=
  ⟨Nat.le_trans h.1 hs, fun k hk' => (hk k (by omega) (hx k hk')).trans (h.2 k hk')⟩
theorem take_snoc {α : Type} {l : List α} {q : Nat} {x : α} (h : l[q]? = some x) : l.take (q + 1) = l.take q ++ [x] := by rw [List.take_add_one, h]; rfl
def encLS (p : Lg × Sp) : Array Value := #[p.1.v, p.2.v]
structure LCap (W : World) (B : Nat) (ex : Nat → Prop) (bt bp : Nat) (t : Tab) (p : Pth) (x : Wy) : Prop where
  tB : bt < B
  pB : bp < B
  tx : ¬ ex bt
  px : ¬ ex bp
  ct : W.cell? ⟨bt, 3, none⟩ = some (.slice t.ws.A t.ws.l.length t.ws.c)
  c0 : W.cell? ⟨bp, 0, none⟩ = some (.int .i64 p.way)
  c1 : W.cell? ⟨bp, 1, none⟩ = some (.slice p.ts.A p.ts.l.length p.ts.c)
  low : ∃ w0 : World, w0.heap.size ≤ B ∧ (∀ k, k < w0.heap.size → ¬ ex k) ∧ Slc w0 Wy.cells 3 t.ws.A t.ws.l ∧ Slc w0 Lg.cells 4 x.legs.A x.legs.l ∧ Slc w0 ic 1 p.ts.A p.ts.l ∧ Top w0 W
theorem LCap.keep {W W' : World} {B : Nat} {ex : Nat → Prop} {bt bp : Nat} {t : Tab} {p : Pth} {x : Wy} (h : LCap W B ex bt bp t p x) (hk : Kx B ex W W') (hs : W.heap.size ≤ W'.heap.size) : LCap W' B ex bt bp t p x :=
  ⟨h.tB, h.pB, h.tx, h.px, (hk.cell h.tB h.tx).trans h.ct, (hk.cell h.pB h.px).trans h.c0, (hk.cell h.pB h.px).trans h.c1,
    let ⟨w0, h1, h2, h3, h4, h5, h6⟩ := h.low; ⟨w0, h1, h2, h3, h4, h5, h6.kx hk hs h1 h2⟩⟩
/-- What a call of yield leaves, its answer a variable. -/
def YOut {α : Type} (J Jx : List α → World → Prop) (B : Nat) (ex : Nat → Prop) (pre : List α) (x : α) (W : World) (e : Ending) (W' : World) : Prop :=
  ∃ b : Bool, e = .returned (.bool b) ∧ (b = true → J (pre ++ [x]) W' ∧ Kx B ex W W' ∧ W.heap.size ≤ W'.heap.size) ∧ (b = false → Jx (pre ++ [x]) W')
theorem yout {α : Type} {J Jx : List α → World → Prop} {B : Nat} {ex : Nat → Prop} {pre : List α} {x : α} {W : World} (e : Ending) (W' : World) (h : (e = .returned (.bool true) ∧ J (pre ++ [x]) W' ∧ (Kx B ex W W' ∧ W.heap.size ≤ W'.heap.size)) ∨ (e = .returned (.bool false) ∧ Jx (pre ++ [x]) W')) : YOut J Jx B ex pre x W e W' := by
  rcases h with ⟨rfl, h1, h2⟩ | ⟨rfl, h1⟩
  · exact ⟨true, rfl, fun _ => ⟨h1, h2.1, h2.2⟩, fun h => by cases h⟩
  · exact ⟨false, rfl, (fun h => by cases h), fun _ => h1⟩
set_option maxRecDepth 100000 in
set_option maxHeartbeats 16000000 in
theorem legs1_in (n : Nat) (hn : 1 ≤ n) (l : Nat) (B : Nat) (ex : Nat → Prop) (bt bp : Nat) (t : Tab) (p : Pth) (x : Wy) (es : List (Lg × Sp)) (hok : PathOk t p x)
    (hes : ∀ (i : Nat) (y : Lg), x.legs.l[i]? = some y → es[i]? = some (y, ⟨tim p i, tim p (i + 1)⟩)) (hlen : es.length = x.legs.l.length) (hwl : t.ws.l.length ≤ maxLen) (hll : x.legs.l.length < maxLen)
    (J Jx : List (Lg × Sp) → World → Prop) (W : World) (hBW : B ≤ W.heap.size) (hJ : AbidesFrom W.heap.size J)
    (hY : ∀ pre x W1, J pre W1 → pre.length < es.length → YieldAt Fence.wide (n - 1) Tryz.prog l (encLS x) W1 fun e W' =>
      (e = .returned (.bool true) ∧ J (pre ++ [x]) W' ∧ (Kx B ex W1 W' ∧ W1.heap.size ≤ W'.heap.size)) ∨ (e = .returned (.bool false) ∧ Jx (pre ++ [x]) W'))
    (hC : LCap W B ex bt bp t p x) (hJ0 : J [] W) :
    CallsIn Fence.wide n Tryz.prog 131 #[.func (.yield l) #[] #[], .pointer (some ⟨bt, 0, none⟩), .pointer (some ⟨bp, 0, none⟩)] W fun e W' => (∃ v, e = .returned v) ∧
      ((∃ ys, ys = es ∧ J ys W') ∨ (∃ pre, pre <+: es ∧ Jx pre W')) := by
  have HY := Lib.hid hY
  have HJ := Lib.hid hJ
  have HE := Lib.hid hes
  have HC := Lib.hid hC
  have HL := Lib.hid hlen
  have HOK := Lib.hid hok
  have hpl := hok.len
  have ct := hC.ct
  have cp := hC.c0
  obtain ⟨w0, _, _, h3, _, _, h6⟩ := hC.low
  obtain ⟨y, q1, o1, hy, hA, hb1, hc⟩ := (h3.top h6).at_ (k := p.way.toNat) (by have := hok.w0; have := hok.w1; omega)
  obtain rfl : y = x := Option.some.inj (hy.symm.trans hok.at_)
  have d2 := hc 2 _ rfl
  rw [hA] at ct
  have hw0 := hok.w0
  have hw1 := hok.w1
  unfold maxLen at hwl hll
  clear hY hJ hes hC hlen hok h3 h6 hy hc hA
  refine callsIn_of_wp Tryz.func131 rfl trivial ?_ rfl
  simp only [Tryz.ntmps131, List.size_toArray, List.length_cons, List.length_nil, Nat.reduceAdd, Nat.reduceSub, Array.replicate_succ, Array.replicate_zero, List.push_toArray, List.append_toArray, List.nil_append, List.cons_append]
  gi_wp2
  clear d2 ct cp
  gi_loopw [14] (fun i wr => ∃ q : Nat, q ≤ y.legs.l.length ∧ i = .int .i64 q ∧ J (es.take q) wr ∧ Hid (Kx B ex W wr) ∧ W.heap.size ≤ wr.heap.size) (fun i _ => y.legs.l.length - (intOf i).toNat)
  case atStart => exact ⟨0, Nat.zero_le _, rfl, by simpa using hJ0, Kx.refl _, Nat.le_refl _⟩
  case round =>
    obtain ⟨q, hq, rfl, hJs, HK, hsz⟩ := hrel
    by_cases hlt : q < y.legs.l.length
    · have hc := HC.out.keep HK.out hsz
      obtain ⟨w0, h01, h02, h03, h04, h05, h06⟩ := hc.low
      obtain ⟨z, b1, o2, hx, hA, hb2, hcx⟩ := (h04.top h06).at_ hlt
      have HA := Lib.hid hA
      have c0 := hcx 0 _ rfl
      have c1 := hcx 1 _ rfl
      have c2 := hcx 2 _ rfl
      have c3 := hcx 3 _ rfl
      simp only [Nat.add_zero] at c0
      have hlt' : (q : Int) < y.legs.l.length := by omega
      have HX := Lib.hid hx
      have HEI := Lib.hid (HE.out q z hx)
      have hpts := h05.top h06
      obtain ⟨v0, b3, o3, hv0, hB, hb3, hcv⟩ := hpts.at_ (k := q) (by omega)
      obtain ⟨v1, b4, o4, hv1, hB', hb4, hcv'⟩ := hpts.at_ (k := q + 1) (by omega)
      rw [hB] at hB'
      injection hB' with hB'
      injection hB' with e1 e2
      subst e1 e2
      have t0 := hcv 0 _ rfl
      have t1 := hcv' 0 _ rfl
      simp only [Nat.mul_one, Nat.add_zero] at t0 t1
      have kp := hc.c1
      rw [hB] at kp
      have hbp : bp < wr.heap.size := by have := hc.pB; omega
      have hq2 : ((q : Int) + 1 : Int) < (p.ts.l.length : Int) := by omega
      have hq0 : (0 : Int) ≤ (q : Int) + 1 := by omega
      have hq1 : (q : Int) < (p.ts.l.length : Int) := by omega
      rw [hA]
      have ez0 : tim p q = v0 := tim_at hv0
      have ez1 : tim p (q + 1) = v1 := tim_at hv1
      rw [ez0, ez1] at HEI
      clear hx hcx hc h03 h04 h05 h06 h01 h02 hA hpts hv0 hv1 hB hcv hcv' ez0 ez1
      have t1' : wr.cell? ⟨b3, o3 + ((q : Int) + 1).toNat, none⟩ = some (.int .i64 v1) := by rw [show ((q : Int) + 1).toNat = q + 1 by omega]; exact t1
      have hwq : IntKind.i64.wrap ((q : Int) + 1) = (q : Int) + 1 := IntWalk.i64_in _ (by omega)
      gi_wp2_with fail
      obtain ⟨W3, hW3⟩ : ∃ W3, (wr.alloc (.cells #[.int .i64 z.seg, .int .i64 z.vol, .int .i64 z.len, .slice z.mi.A z.mi.l.length z.mi.c] 121)).drew = W3 := ⟨_, rfl⟩
      have hE : Below wr.heap.size wr W3 := by rw [← hW3]; exact ext_drew (ext_alloc (ext_refl wr) _)
      have hG := grown_below hE
      have hJ1 : J (es.take q) W3 := HJ.out _ _ _ none hJs hG (by simp)
      have HK1 : Hid (Kx B ex W W3) := HK.out.t (Kx.below hE (by omega))
      have hs1 : wr.heap.size ≤ W3.heap.size := hE.size
      have s0 : W3.cell? ⟨wr.heap.size, 0, none⟩ = some (.int .i64 z.seg) := by rw [← hW3]; simp
      have s1 : W3.cell? ⟨wr.heap.size, 1, none⟩ = some (.int .i64 z.vol) := by rw [← hW3]; simp
      have s2 : W3.cell? ⟨wr.heap.size, 2, none⟩ = some (.int .i64 z.len) := by rw [← hW3]; simp
      have s3 : W3.cell? ⟨wr.heap.size, 3, none⟩ = some (.slice z.mi.A z.mi.l.length z.mi.c) := by rw [← hW3]; simp
      have kp' := (hE.cell (p := ⟨bp, 1, none⟩) hbp).trans kp
      have t0' := (hE.cell (p := ⟨b3, o3 + q, none⟩) hb3).trans t0
      have t1a := (hE.cell (p := ⟨b3, o3 + (q + 1), none⟩) hb3).trans t1
      have t1b := (hE.cell (p := ⟨b3, o3 + ((q : Int) + 1).toNat, none⟩) hb3).trans t1'
      have hlq := hlt
      obtain ⟨fn, tmps, assign, body, hy, hR⟩ := HY.out (es.take q) (z, ⟨v0, v1⟩) W3 hJ1 (by have := HL.out; rw [List.length_take]; omega)
      replace hR := hR.mono yout
      simp only [encLS] at hy
      have HPL := Lib.hid hpl
      clear hpl kp t0 t1 t1' c0 c1 c2 c3 hE hG hJ1 hJs HJ HY HE
      refine rf_begin (S := (fun w' => w' = W3)) 14 (by kernel_rfl) (by intro d; cases d <;> intro _ _ _ _ h <;> exact h) ?_ (fun Q7 hQ7 hN7 hHeld => ?_)
      · exact hW3
      refine rf_take (i := 0) (some 19) (v := ?_) rfl rfl rfl (by kernel_rfl) (by rfl) (fun w => by rfl) hQ7 hHeld ?_ ?_
      rotate_left
      · intro w7 hSw; (try dsimp only at hSw); go_simp; all_goals with_reducible rfl
      try simp only [Act.put, List.setIfInBounds_toArray, List.set_cons_zero, List.set_cons_succ]
      refine rf_take (i := 1) (some 20) (v := ?_) rfl rfl rfl (by kernel_rfl) (by rfl) (fun w => by rfl) hQ7 hHeld ?_ ?_
      rotate_left
      · intro w7 hSw; (try dsimp only at hSw); go_simp; all_goals with_reducible rfl
      try simp only [Act.put, List.setIfInBounds_toArray, List.set_cons_zero, List.set_cons_succ]
      refine rf_take (i := 2) (some 21) (v := ?_) rfl rfl rfl (by kernel_rfl) (by rfl) (fun w => by rfl) hQ7 hHeld ?_ ?_
      rotate_left
      · intro w7 hSw; (try dsimp only at hSw); go_simp; all_goals with_reducible rfl
      try simp only [Act.put, List.setIfInBounds_toArray, List.set_cons_zero, List.set_cons_succ]
      refine rf_take (i := 3) (some 22) (v := ?_) rfl rfl rfl (by kernel_rfl) (by rfl) (fun w => by rfl) hQ7 hHeld ?_ ?_
      rotate_left
      · intro w7 hSw; (try dsimp only at hSw); go_simp; all_goals with_reducible rfl
      try simp only [Act.put, List.setIfInBounds_toArray, List.set_cons_zero, List.set_cons_succ]
      refine rf_take (i := 4) (some 23) (v := ?_) rfl rfl rfl (by kernel_rfl) (by rfl) (fun w => by rfl) hQ7 hHeld ?_ ?_
      rotate_left
      · intro w7 hSw; (try dsimp only at hSw); go_simp; all_goals with_reducible rfl
      try simp only [Act.put, List.setIfInBounds_toArray, List.set_cons_zero, List.set_cons_succ]
      refine rf_take (i := 5) (some 24) (v := ?_) rfl rfl rfl (by kernel_rfl) (by rfl) (fun w => by rfl) hQ7 hHeld ?_ ?_
      rotate_left
      · intro w7 hSw; (try dsimp only at hSw); go_simp; all_goals with_reducible rfl
      try simp only [Act.put, List.setIfInBounds_toArray, List.set_cons_zero, List.set_cons_succ]
      refine rf_take (i := 6) (some 25) (v := ?_) rfl rfl rfl (by kernel_rfl) (by rfl) (fun w => by rfl) hQ7 hHeld ?_ ?_
      rotate_left
      · intro w7 hSw; (try dsimp only at hSw); go_simp; all_goals with_reducible rfl
      try simp only [Act.put, List.setIfInBounds_toArray, List.set_cons_zero, List.set_cons_succ]
      refine rf_take (i := 7) (some 26) (v := ?_) rfl rfl rfl (by kernel_rfl) (by rfl) (fun w => by rfl) hQ7 hHeld ?_ ?_
      rotate_left
      · intro w7 hSw; (try dsimp only at hSw); go_simp; all_goals with_reducible rfl
      try simp only [Act.put, List.setIfInBounds_toArray, List.set_cons_zero, List.set_cons_succ]
      refine rf_take (i := 8) (some 27) (v := ?_) rfl rfl rfl (by kernel_rfl) (by rfl) (fun w => by rfl) hQ7 hHeld ?_ ?_
      rotate_left
      · intro w7 hSw; (try dsimp only at hSw); go_simp; all_goals with_reducible rfl
      try simp only [Act.put, List.setIfInBounds_toArray, List.set_cons_zero, List.set_cons_succ]
      refine rf_take (i := 9) (some 28) (v := ?_) rfl rfl rfl (by kernel_rfl) (by rfl) (fun w => by rfl) hQ7 hHeld ?_ ?_
      rotate_left
      · intro w7 hSw; (try dsimp only at hSw); go_simp; all_goals with_reducible rfl
      try simp only [Act.put, List.setIfInBounds_toArray, List.set_cons_zero, List.set_cons_succ]
      refine rf_take (i := 10) (some 29) (v := ?_) rfl rfl rfl (by kernel_rfl) (by rfl) (fun w => by rfl) hQ7 hHeld ?_ ?_
      rotate_left
      · intro w7 hSw; (try dsimp only at hSw); go_simp; all_goals with_reducible rfl
      try simp only [Act.put, List.setIfInBounds_toArray, List.set_cons_zero, List.set_cons_succ]
      refine rf_take (i := 11) (some 30) (v := ?_) rfl rfl rfl (by kernel_rfl) (by rfl) (fun w => by rfl) hQ7 hHeld ?_ ?_
      rotate_left
      · intro w7 hSw; (try dsimp only at hSw); go_simp; all_goals with_reducible rfl
      try simp only [Act.put, List.setIfInBounds_toArray, List.set_cons_zero, List.set_cons_succ]
      refine rf_take (i := 12) (some 31) (v := ?_) rfl rfl rfl (by kernel_rfl) (by rfl) (fun w => by rfl) hQ7 hHeld ?_ ?_
      rotate_left
      · intro w7 hSw; (try dsimp only at hSw); go_simp; all_goals with_reducible rfl
      try simp only [Act.put, List.setIfInBounds_toArray, List.set_cons_zero, List.set_cons_succ]
      refine rf_take (i := 13) (some 32) (v := ?_) rfl rfl rfl (by kernel_rfl) (by rfl) (fun w => by rfl) hQ7 hHeld ?_ ?_
      rotate_left
      · intro w7 hSw; (try dsimp only at hSw); go_simp; all_goals with_reducible rfl
      try simp only [Act.put, List.setIfInBounds_toArray, List.set_cons_zero, List.set_cons_succ]
      refine rf_late (i := 14) (by kernel_rfl) rfl (by rfl) (by kernel_rfl) (fun K hK => ?_)
      gi_wp2_with fail
      refine hR.mono ?_
      rintro e W4 ⟨b, rfl, hb1, hb2⟩
      clear hy hR
      gi_wp2_with fail
      try (refine hK _ _ ?_; clear hK K)
      refine rf_late (i := 15) (by kernel_rfl) rfl (by rfl) (by kernel_rfl) (fun K hK => ?_)
      gi_wp2_with fail
      try (refine hK _ _ ?_; clear hK K)
      refine rf_end (by kernel_rfl) (hN7 _ _ ?_) _
      clear hQ7 hN7 Q7
      cases b with
      | true =>
        obtain ⟨hJ3, hk3, hs3⟩ := hb1 rfl
        clear hb1 hb2
        gi_wp2_with fail
        go_roundw
        case rel => exact ⟨q + 1, hlq, by go_num, by rw [take_snoc HEI.out]; exact hJ3, HK1.out.t hk3, by omega⟩
        case measure => simp [intOf]; omega
      | false =>
        have hJx3 := hb2 rfl
        clear hb1 hb2
        gi_wp2_with fail
        refine bodyPost_ret (results_none rfl _ _ _) rfl ?_
        exact ⟨⟨_, rfl⟩, .inr ⟨es.take q ++ [(z, ⟨v0, v1⟩)], by rw [← take_snoc HEI.out]; exact List.take_prefix _ _, hJx3⟩⟩
    · gi_wp2
      go_end0
      exact ⟨⟨_, rfl⟩, .inl ⟨es.take q, List.take_of_length_le (by have := HL.out; omega), hJs⟩⟩
theorem legs_stops (n : Nat) (hn : 1 ≤ n) (B : Nat) (ex : Nat → Prop) (bt bp : Nat) (t : Tab) (p : Pth) (x : Wy) (es : List (Lg × Sp)) (hok : PathOk t p x)
    (hes : ∀ (i : Nat) (y : Lg), x.legs.l[i]? = some y → es[i]? = some (y, ⟨tim p i, tim p (i + 1)⟩)) (hlen : es.length = x.legs.l.length) (hwl : t.ws.l.length ≤ maxLen) (hll : x.legs.l.length < maxLen) (w : World) (hB : B ≤ w.heap.size) (hC : LCap w B ex bt bp t p x) :
    SeqStopsK Fence.wide n Tryz.prog 131 #[.pointer (some ⟨bt, 0, none⟩), .pointer (some ⟨bp, 0, none⟩)] encLS (KpE B ex) (fun ys => ys = es) (fun pre => pre <+: es) es.length w :=
  fun l J Jx W hW hJ _ hY hJ0 => legs1_in n hn l B ex bt bp t p x es hok hes hlen hwl hll J Jx W (Nat.le_trans hB hW.size) hJ hY (hC.keep (Kx.below hW hB) hW.size) hJ0
theorem legs_at (a0 a1 a2 a3 a4 a5 c0 c1 : Value) (w : World) :
    Calls Tryz.prog 103 #[.agg #[a0, a1, a2, a3, a4, a5], .agg #[c0, c1]] w fun e w' => e = .returned (.func (.func 131) #[] #[.pointer (some ⟨w.heap.size, 0, none⟩), .pointer (some ⟨w.heap.size + 1, 0, none⟩)]) ∧
      (w.alloc (.cells #[a0, a1, a2, a3, a4, a5] 28)).alloc (.cells #[c0, c1] 71) = w' := by
  go_enter Tryz.func103, Tryz.ntmps103
  go_wp2
  go_ret
  exact ⟨rfl, rfl⟩
/-- A stay at an airport. -/
theorem air_at (a m : Int) (w : World) (h0 : 0 ≤ m) (h1 : m ≤ 65535) : Calls Tryz.prog 102 #[.int .i64 a, .int .i64 m] w fun e w' => e = .returned (Sty.v ⟨true, a, ⟨m, m + 1⟩⟩) ∧ Below w.heap.size w w' := by
  have hw : IntKind.i64.wrap (m + 1) = m + 1 := IntWalk.i64_in _ (by omega)
  go_enter Tryz.func102, Tryz.ntmps102
  go_wp2
  refine bodyPost_ret (v := Sty.v ⟨true, a, ⟨m, m + 1⟩⟩) (by simp [results, Tryz.results102, go_sem]) rfl ⟨rfl, ?_⟩
  exact ext_alloc (ext_refl w) _
end Go.Proofs.YtjiojpoiocdnmaaGreat
/- The world's first n blocks: a base for slices of the call's own. No program in sight. -/
set_option linter.unusedSimpArgs false
set_option linter.unusedVariables false
namespace Go.Proofs.YtjiojpoiocdnmaaGreat
open Go.RowKit
def cutW (W : World) (n : Nat) : World := { W with heap := W.heap.extract 0 n }
theorem cut_size {W : World} {n : Nat} (h : n ≤ W.heap.size) : (cutW W n).heap.size = n := by simp [cutW]; omega
theorem cut_get {W : World} {n b : Nat} (h : n ≤ W.heap.size) (hb : b < n) : (cutW W n).heap[b]? = W.heap[b]? := by
  have h1 : b < (cutW W n).heap.size := by rw [cut_size h]; exact hb
  rw [Array.getElem?_eq_getElem h1, Array.getElem?_eq_getElem (show b < W.heap.size by omega)]
  simp [cutW]
theorem cut_below {W : World} {n : Nat} (h : n ≤ W.heap.size) : Below (cutW W n).heap.size (cutW W n) W := by
  rw [cut_size h]
  exact ⟨rfl, rfl, rfl, by rw [cut_size h]; exact h, fun b hb => (cut_get h hb).symm⟩
theorem Own.far_set {α : Type} {w : World} {base : Nat} {e : TypeId} {enc : α → List Value} {sz : Nat} {v u : Value} {l : List α} (h : Own w base e enc sz v l) {p : Addr} (hp : p.block < base) : Own (w.setCell p u) base e enc sz v l :=
  h.block fun k hk => Below.heap_setCell w p u k (by have := (h.lt k hk).2; omega)
end Go.Proofs.YtjiojpoiocdnmaaGreat
