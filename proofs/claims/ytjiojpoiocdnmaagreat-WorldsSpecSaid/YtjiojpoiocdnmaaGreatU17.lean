/- A drawn region inside a fence, the loads taken first; one late operation (number k: the call of yield) behind which all is over. No program in sight. -/
import Derived.Test.YtjiojpoiocdnmaaGreatU1
import Derived.CallsIn
import Derived.OrdersIn
import Derived.TacticsIn
import Derived.Test.YtjiojpoiocdnmaaGreatU16
import Derived.BigFrameIn
import Derived.Test.YtjiojpoiocdnmaaGreatU2
set_option linter.unusedSimpArgs false
set_option linter.unusedVariables false
namespace Go.Proofs.YtjiojpoiocdnmaaGreat
variable {F : Fence} {n : Nat} {P : Program} {md : Region.Mode} {ops : Array Oper} {Q : Exit → Act → World → Prop} {S : World → Prop} {k : Nat}
def YIF (P : Program) (ops : Array Oper) (S : World → Prop) (o : Oper) (v : Value) (a : Act) : Prop := YieldsIf P ops S o v a ∧ ∀ w, o.about P w a.eval = none
theorem YIF.same {o : Oper} {v : Value} {a a' : Act} (hy : YIF P ops S o v a) (he : execOp a'.eval o = execOp a.eval o)
    (hw : Region.wanted o (yielded ops a'.tmps) = Region.wanted o (yielded ops a.tmps)) (hb : ∀ w, o.about P w a'.eval = o.about P w a.eval) : YIF P ops S o v a' :=
  ⟨hy.1.of_same he hw, fun w => by rw [hb w]; exact hy.2 w⟩
theorem YIF.op {i : Nat} {o : Oper} {v : Value} {a : Act} (hro : F.round = none) (hi : ops[i]? = some o) (hy : YIF P ops S o v a) {K : Act → World → Prop} {w : World} (hS : S w) (h : K (a.put o.dst v) w) : wpOpIn F n P ops Q i K a w := by
  unfold wpOpIn
  simp only [hi]
  have hab : ∀ f, o.about P w a.eval = some f → F.fn f := fun f hf => by rw [hy.2 w] at hf; cases hf
  rcases hy.1 with ⟨hw, hv⟩ | ⟨hw, rfl⟩
  · simp only [hw, if_true, Oper.wpIn, hro, Oper.semAt_none, hv w hS, Oper.uponIn]; exact ⟨hab, h⟩
  · simp only [hw, Bool.false_eq_true, if_false]; exact ⟨hab, h⟩
/-- Another operation, apart from it, does not mind whether its value lies there. -/
theorem yif_put {j : Nat} {oi oj : Oper} {v : Value} (hro : F.round = none) (hj : ops[j]? = some oj) (hap : oi.apart ops oj = true)
    (hsi : ∀ cs b, oi.op ≠ .select cs b) (hsj : ∀ cs b, oj.op ≠ .select cs b)
    (hQ : ∀ c a w, Q (.panic c) (a.put oi.dst v) w → Q (.panic c) a w) {K : Act → World → Prop} {a : Act} {w : World}
    (hy : YIF P ops S oi v a) (h : wpOpIn F n P ops Q j K (a.put oi.dst v) w) :
    wpOpIn F n P ops Q j (fun a' w' => YIF P ops S oi v a' ∧ K (a'.put oi.dst v) w') a w := by
  obtain ⟨h1, h2, h3⟩ := Oper.apart_spec hap
  have keep : ∀ (a : Act), YIF P ops S oi v a → ∀ u, YIF P ops S oi v (a.put oj.dst u) := fun a hy u =>
    hy.same (execOp_put oi hsi a oj.dst u h3) (wanted_put oi a oj.dst u h3) (fun w => about_put oi w a oj.dst u h3)
  have keepD : ∀ d, YIF P ops S oi v { a with defers := d :: a.defers } := fun d => hy.same rfl rfl (fun _ => rfl)
  unfold wpOpIn at *
  simp only [hj] at *
  rw [wanted_put oj a oi.dst v h1, about_put oj w a oi.dst v h1] at h
  split
  · rename_i hw
    simp only [hw, if_true] at h
    unfold Oper.wpIn at *
    rw [about_put oj w a oi.dst v h1] at h
    refine ⟨h.1, ?_⟩
    have h := h.2
    rw [hro, Oper.semAt_none, execOp_put oj hsj a oi.dst v h1] at h
    rw [hro, Oper.semAt_none]
    generalize (execOp a.eval oj).run P w = r at *
    cases r with
    | ok x w' =>
      cases x <;> simp only [Oper.uponIn] at h ⊢
      case value u => exact ⟨keep a hy u, by rw [← Act.put_comm a v u h2]; exact h⟩
      case skip => exact ⟨keep a hy _, by rw [← Act.put_comm a v undef h2]; exact h⟩
      case defer d =>
        refine ⟨keep _ (keepD d) _, ?_⟩
        rw [← Act.put_comm _ v undef h2, ← Act.put_defers]
        exact h
      case enter f args =>
        refine ⟨h.1, CallsIn.mono h.2 fun e w'' he => ?_⟩
        cases e with
        | returned u => exact ⟨keep a hy u, by rw [← Act.put_comm a v u h2]; exact he⟩
        | panicked c => exact hQ _ _ _ he
        | outgrown => exact he
      case row row args => exact ⟨h.1, RowsIn.mono h.2 fun u w'' he => ⟨keep a hy u, by rw [← Act.put_comm a v u h2]; exact he⟩⟩
      case round l f tmps assign body =>
        refine ⟨h.1, RoundIn.mono h.2 fun e w'' he => ?_⟩
        cases e with
        | returned u => exact ⟨keep a hy u, by rw [← Act.put_comm a v u h2]; exact he⟩
        | panicked c => exact hQ _ _ _ he
        | outgrown => exact he
    | halt x w' =>
      cases x <;> simp only [Oper.uponIn] at h ⊢
      case panic u => exact hQ _ _ _ h
  · rename_i hw
    simp only [hw] at h
    exact ⟨h.1, keep a hy _, by rw [← Act.put_comm a v undef h2]; exact h.2⟩
def WF (F : Fence) (n : Nat) (P : Program) (md : Region.Mode) (ops : Array Oper) (Q : Exit → Act → World → Prop) (k : Nat) (S : World → Prop) : Nat → Array Bool → Act → World → Prop
  | 0, l, a, w => Region.ready md ops l = [] ∧ Q .normal a w
  | f + 1, l, a, w => (Region.ready md ops l = [] → Q .normal a w) ∧
      ∀ i ∈ Region.ready md ops l, wpOpIn F n P ops Q i (fun a' w' => ((l.setIfInBounds i true).getD k false = true ∨ S w') ∧ WF F n P md ops Q k S f (l.setIfInBounds i true) a' w') a w
theorem WF.any : ∀ (f : Nat) (l : Array Bool) (a : Act) (w : World), WF F n P md ops Q k S f l a w → wpAnyIn F n P md ops Q f l a w
  | 0, _, _, _, h => h
  | f + 1, _, _, _, h => ⟨h.1, fun i hi => wpOpIn_mono (fun a' w' h' => WF.any f _ a' w' h'.2) (h.2 i hi)⟩
theorem WF.first {i : Nat} {oi : Oper} {v : Value} (hro : F.round = none) (hi : ops[i]? = some oi) (hsel : ∀ (j : Nat) (o : Oper) cs b, ops[j]? = some o → o.op ≠ .select cs b)
    (hQ : ∀ c a w, Q (.panic c) (a.put oi.dst v) w → Q (.panic c) a w) (hki : i ≠ k) (hbf : Before md ops k i) :
    ∀ (f : Nat) (l : Array Bool) (a : Act) (w : World), Closed md ops l → l.getD k false = false →
      (∀ j oj, ops[j]? = some oj → j ≠ i → l.getD j true = false → (∀ e ∈ oj.after, Region.binds md e = true → e.on ≠ i) → oi.apart ops oj = true) →
      i ∈ Region.ready md ops l → YIF P ops S oi v a → S w →
      WF F n P md ops Q k S f (l.setIfInBounds i true) (a.put oi.dst v) w → WF F n P md ops Q k S (f + 1) l a w := by
  intro f
  induction f with
  | zero =>
    intro l a w _ _ _ hr hy hS H
    refine ⟨fun h => (by rw [h] at hr; cases hr), fun j hj => ?_⟩
    by_cases hji : j = i
    · subst hji; exact hy.op hro hi hS ⟨.inr hS, H⟩
    · have := ready_mono hj hji
      rw [H.1] at this
      cases this
  | succ f ih =>
    intro l a w hc hk hfree hr hy hS H
    refine ⟨fun h => (by rw [h] at hr; cases hr), fun j hj => ?_⟩
    by_cases hji : j = i
    · subst hji; exact hy.op hro hi hS ⟨.inr hS, H⟩
    · have h1 := H.2 j (ready_mono hj hji)
      obtain ⟨hjun, oj, hoj, hall⟩ := mem_ready.1 hj
      have hi0 : l.getD i false = false := by
        have h0 := (mem_ready.1 hr).1
        rcases Nat.lt_or_ge i l.size with h' | h'
        · simp [h'] at h0 ⊢; exact h0
        · simp [Array.getElem?_eq_none h']
      have hnot : ∀ e ∈ oj.after, Region.binds md e = true → e.on ≠ i := fun e he hb heq => by
        have h1 := hall e he hb
        rw [heq, hi0] at h1
        cases h1
      have hjk : j ≠ k := fun e => by
        subst e
        have := hbf l hc hj
        rw [hi0] at this; cases this
      have h2 := yif_put hro hoj (hfree j oj hoj hji hjun hnot) (fun cs b => hsel i oi cs b hi) (fun cs b => hsel j oj cs b hoj) hQ hy h1
      have hfree' : ∀ q oq, ops[q]? = some oq → q ≠ i → (l.setIfInBounds j true).getD q true = false →
          (∀ e ∈ oq.after, Region.binds md e = true → e.on ≠ i) → oi.apart ops oq = true := fun q oq hq hqi hun hno => by
        refine hfree q oq hq hqi ?_ hno
        by_cases hjq : j = q
        · subst hjq; exact hjun
        · rw [getD_set_other hjq] at hun; exact hun
      have hc' : Closed md ops (l.setIfInBounds j true) := fun q oq hq hl e he hb => by
        by_cases hje : j = e.on
        · rw [← hje]
          have hjl : j < l.size := by
            rcases Nat.lt_or_ge j l.size with h' | h'
            · exact h'
            · have := hjun; simp [Array.getElem?_eq_none h'] at this
          simp [hjl]
        · rw [getD_set_other hje]
          by_cases hjq : j = q
          · subst hjq; rw [hoj] at hq; cases hq; exact hall e he hb
          · rw [getD_set_other hjq] at hl; exact hc q oq hq hl e he hb
      have hk' : (l.setIfInBounds j true).getD k false = false := by rw [getD_set_other hjk]; exact hk
      have hk'' : ((l.setIfInBounds i true).setIfInBounds j true).getD k false = false := by rw [getD_set_other hjk, getD_set_other hki]; exact hk
      refine wpOpIn_mono (fun a' w' h3 => ?_) h2
      have hS' : S w' := h3.2.1.resolve_left (by rw [hk'']; simp)
      refine ⟨.inr hS', ih (l.setIfInBounds j true) a' w' hc' hk' hfree' (ready_mono hr (Ne.symm hji)) h3.1 hS' ?_⟩
      rw [Array.setIfInBounds_comm _ _ hji]
      exact h3.2.2
/-! The moves. -/
theorem rf_begin {id : Nat} {a : Act} {w : World} (k : Nat) (hm : P.follows .mixedOrders = true) (hQ : Calm Q) (hS : S w.drew)
    (h : ∀ Q' : Exit → Act → World → Prop, Calm Q' → (∀ a w, Q .normal a w → Q' .normal a w) → S w.drew → WF F n P .any ops Q' k S ops.size (Array.replicate ops.size false) a w.drew) : (Code.region id ops true).wpIn F n P Q a w :=
  wpIn_region_any hm (WF.any _ _ _ _ (h Q hQ (fun _ _ h => h) hS))
theorem rf_end {l : Array Bool} {a : Act} {w : World} (hr : Region.ready md ops l = []) (h : Q .normal a w) : ∀ f, WF F n P md ops Q k S f l a w
  | 0 => ⟨hr, h⟩
  | _ + 1 => ⟨fun _ => h, by rw [hr]; simp⟩
theorem rf_take {i : Nat} {oi : Oper} (d : Option Tmp) {v : Value} {f : Nat} {l : Array Bool} {a : Act} {w : World} (hro : F.round = none) (hi : ops[i]? = some oi) (hd : oi.dst = d) (hok : okTake md ops l k i = true)
    (hw : Region.wanted oi (yielded ops a.tmps) = true) (hab : ∀ w, oi.about P w a.eval = none) (hQ : Calm Q) (hS : S w) (hy : ∀ w, S w → (execOp a.eval oi).run P w = .ok (.value v) w)
    (h : WF F n P md ops Q k S f (l.setIfInBounds i true) (a.put d v) w) : WF F n P md ops Q k S (f + 1) l a w := by
  subst hd
  unfold okTake at hok
  simp only [Bool.and_eq_true, Bool.not_eq_true', bne_iff_ne, ne_eq] at hok
  obtain ⟨⟨⟨⟨⟨⟨h1, h2⟩, h3⟩, h4⟩, h5⟩, h6⟩, h7⟩ := hok
  exact WF.first hro hi (Region.noSelect_spec h1) (hQ _ _) h6 (before_of h7) f l a w (closed_of h4) h5 (Region.free_spec hi h2) (by simpa using h3) ⟨.inl ⟨hw, hy⟩, hab⟩ hS h
/-- The late operation alone. -/
theorem rf_late {i : Nat} {oi : Oper} {f : Nat} {l : Array Bool} {a : Act} {w : World} (hr : Region.ready md ops l = [i]) (hi : ops[i]? = some oi) (hw : Region.wanted oi (yielded ops a.tmps) = true) (hk : (l.setIfInBounds i true).getD k false = true)
    (h : ∀ K' : Act → World → Prop, (∀ a w, WF F n P md ops Q k S f (l.setIfInBounds i true) a w → K' a w) → Oper.wpIn F n P oi a w K' Q) : WF F n P md ops Q k S (f + 1) l a w :=
  ⟨fun h0 => absurd (hr ▸ h0) (by simp), fun j hj => by
    rw [hr] at hj
    obtain rfl := List.mem_singleton.1 hj
    unfold wpOpIn
    simp only [hi, hw, if_true]
    exact h _ (fun a w hW => ⟨.inl hk, hW⟩)⟩
end Go.Proofs.YtjiojpoiocdnmaaGreat
/- The legs of a path: the iterator. -/
set_option linter.unusedSimpArgs false
set_option linter.unusedVariables false
namespace Go.Proofs.YtjiojpoiocdnmaaGreat
open Go.RowKit Go.Shelf
attribute [local go_sem] Oper.semAt_some
def KpE (B : Nat) (ex : Nat → Prop) (W W' : World) : Prop := Kx B ex W W' ∧ W.heap.size ≤ W'.heap.size
theorem KpE.t {B : Nat} {ex : Nat → Prop} {X Y Z : World} (h : KpE B ex X Y) (k : KpE B ex Y Z) : KpE B ex X Z := ⟨h.1.t k.1, Nat.le_trans h.2 k.2⟩
theorem KpE.b {B : Nat} {ex : Nat → Prop} {w : World} (hB : B ≤ w.heap.size) (W : World) (l : Nat) (o o' : Obj) (hl : w.heap.size ≤ l) (h : W.heap[l]? = some o) (h1 : o.isCells = false) (h2 : o.isWalk = false) : KpE B ex W (W.putObj l o') :=
  ⟨Kx.b hB W l o o' hl h h1 h2, (grownBy_putObj' W l o').size⟩
theorem Kx.cell {B : Nat} {ex : Nat → Prop} {W W' : World} {b o : Nat} (h : Kx B ex W W') (hb : b < B) (hx : ¬ ex b) : W'.cell? ⟨b, o, none⟩ = W.cell? ⟨b, o, none⟩ := World.cell?_of_block (a := ⟨b, o, none⟩) (h b hb hx)
/-- All that lay in w0 lies unchanged in W. -/
def Top (w0 W : World) : Prop := w0.heap.size ≤ W.heap.size ∧ ∀ k, k < w0.heap.size → W.heap[k]? = w0.heap[k]?
theorem Slc.top {α : Type} {w0 W : World} {enc : α → List Value} {sz : Nat} {A : Option Addr} {l : List α} (h : Slc w0 enc sz A l) (hT : Top w0 W) : Slc W enc sz A l := fun i x hx => by
  obtain ⟨b, o, e, hlt, hc⟩ := h i x hx
  exact ⟨b, o, e, Nat.lt_of_lt_of_le hlt hT.1, fun j v hj => (World.cell?_of_block (w := w0) (a := ⟨b, o + i * sz + j, none⟩) (hT.2 b hlt)).trans (hc j v hj)⟩
theorem Top.of {w0 W : World} (h : Below w0.heap.size w0 W) : Top w0 W := ⟨h.size, h.block⟩
theorem Top.kx {w0 W W' : World} {B : Nat} {ex : Nat → Prop} (h : Top w0 W) (hk : Kx B ex W W') (hs : W.heap.size ≤ W'.heap.size) (hB : w0.heap.size ≤ B) (hx : ∀ k, k < w0.heap.size → ¬ ex k) : Top w0 W' :=
  ⟨Nat.le_trans h.1 hs, fun k hk' => (hk k (by omega) (hx k hk')).trans (h.2 k hk')⟩
theorem take_snoc {α : Type} {l : List α} {q : Nat} {x : α} (h : l[q]? = some x) : l.take (q + 1) = l.take q ++ [x] := by rw [List.take_add_one, h]; rfl
def encLS (p : Lg × Sp) : Array Value := #[p.1.v, p.2.v]
structure LCap (W : World) (B : Nat) (ex : Nat → Prop) (bt bp : Nat) (t : Tab) (p : Pth) (x : Wy) : Prop where
  tB : bt < B
  pB : bp < B
  tx : ¬ ex bt
  px : ¬ ex bp
  ct : W.cell? ⟨bt, 3, none⟩ = some (.slice t.ws.A t.ws.l.length t.ws.c)
  c0 : W.cell? ⟨bp, 0, none⟩ = some (.int .i64 p.way)
  c1 : W.cell? ⟨bp, 1, none⟩ = some (.slice p.ts.A p.ts.l.length p.ts.c)
  low : ∃ w0 : World, w0.heap.size ≤ B ∧ (∀ k, k < w0.heap.size → ¬ ex k) ∧ Slc w0 Wy.cells 3 t.ws.A t.ws.l ∧ Slc w0 Lg.cells 4 x.legs.A x.legs.l ∧ Slc w0 ic 1 p.ts.A p.ts.l ∧ Top w0 W
theorem LCap.keep {W W' : World} {B : Nat} {ex : Nat → Prop} {bt bp : Nat} {t : Tab} {p : Pth} {x : Wy} (h : LCap W B ex bt bp t p x) (hk : Kx B ex W W') (hs : W.heap.size ≤ W'.heap.size) : LCap W' B ex bt bp t p x :=
  ⟨h.tB, h.pB, h.tx, h.px, (hk.cell h.tB h.tx).trans h.ct, (hk.cell h.pB h.px).trans h.c0, (hk.cell h.pB h.px).trans h.c1,
    let ⟨w0, h1, h2, h3, h4, h5, h6⟩ := h.low; ⟨w0, h1, h2, h3, h4, h5, h6.kx hk hs h1 h2⟩⟩
/-- What a call of yield leaves, its answer a variable. -/
def YOut {α : Type} (J Jx : List α → World → Prop) (B : Nat) (ex : Nat → Prop) (pre : List α) (x : α) (W : World) (e : Ending) (W' : World) : Prop :=
  ∃ b : Bool, e = .returned (.bool b) ∧ (b = true → J (pre ++ [x]) W' ∧ Kx B ex W W' ∧ W.heap.size ≤ W'.heap.size) ∧ (b = false → Jx (pre ++ [x]) W')
theorem yout {α : Type} {J Jx : List α → World → Prop} {B : Nat} {ex : Nat → Prop} {pre : List α} {x : α} {W : World} (e : Ending) (W' : World) (h : (e = .returned (.bool true) ∧ J (pre ++ [x]) W' ∧ (Kx B ex W W' ∧ W.heap.size ≤ W'.heap.size)) ∨ (e = .returned (.bool false) ∧ Jx (pre ++ [x]) W')) : YOut J Jx B ex pre x W e W' := by
  rcases h with ⟨rfl, h1, h2⟩ | ⟨rfl, h1⟩
  · exact ⟨true, rfl, fun _ => ⟨h1, h2.1, h2.2⟩, fun h => by cases h⟩
  · exact ⟨false, rfl, (fun h => by cases h), fun _ => h1⟩
set_option maxRecDepth 100000 in
set_option maxHeartbeats 16000000 in
theorem legs1_in (n : Nat) (hn : 1 ≤ n) (l : Nat) (B : Nat) (ex : Nat → Prop) (bt bp : Nat) (t : Tab) (p : Pth) (x : Wy) (es : List (Lg × Sp)) (hok : PathOk t p x)
    (hes : ∀ (i : Nat) (y : Lg), x.legs.l[i]? = some y → es[i]? = some (y, ⟨tim p i, tim p (i + 1)⟩)) (hlen : es.length = x.legs.l.length) (hwl : t.ws.l.length ≤ maxLen) (hll : x.legs.l.length < maxLen)
    (J Jx : List (Lg × Sp) → World → Prop) (W : World) (hBW : B ≤ W.heap.size) (hJ : AbidesFrom W.heap.size J)
    (hY : ∀ pre x W1, J pre W1 → pre.length < es.length → YieldAt Fence.wide (n - 1) Tryz.prog l (encLS x) W1 fun e W' =>
      (e = .returned (.bool true) ∧ J (pre ++ [x]) W' ∧ (Kx B ex W1 W' ∧ W1.heap.size ≤ W'.heap.size)) ∨ (e = .returned (.bool false) ∧ Jx (pre ++ [x]) W'))
    (hC : LCap W B ex bt bp t p x) (hJ0 : J [] W) :
    CallsIn Fence.wide n Tryz.prog 131 #[.func (.yield l) #[] #[], .pointer (some ⟨bt, 0, none⟩), .pointer (some ⟨bp, 0, none⟩)] W fun e W' => (∃ v, e = .returned v) ∧
      ((∃ ys, ys = es ∧ J ys W') ∨ (∃ pre, pre <+: es ∧ Jx pre W')) := by
  have HY := Lib.hid hY
  have HJ := Lib.hid hJ
  have HE := Lib.hid hes
  have HC := Lib.hid hC
  have HL := Lib.hid hlen
  have HOK := Lib.hid hok
  have hpl := hok.len
  have ct := hC.ct
  have cp := hC.c0
  obtain ⟨w0, _, _, h3, _, _, h6⟩ := hC.low
  obtain ⟨y, q1, o1, hy, hA, hb1, hc⟩ := (h3.top h6).at_ (k := p.way.toNat) (by have := hok.w0; have := hok.w1; omega)
  obtain rfl : y = x := Option.some.inj (hy.symm.trans hok.at_)
  have d2 := hc 2 _ rfl
  rw [hA] at ct
  have hw0 := hok.w0
  have hw1 := hok.w1
  unfold maxLen at hwl hll
  clear hY hJ hes hC hlen hok h3 h6 hy hc hA
  refine callsIn_of_wp Tryz.func131 rfl trivial ?_ rfl
  simp only [Tryz.ntmps131, List.size_toArray, List.length_cons, List.length_nil, Nat.reduceAdd, Nat.reduceSub, Array.replicate_succ, Array.replicate_zero, List.push_toArray, List.append_toArray, List.nil_append, List.cons_append]
  gi_wp2
  clear d2 ct cp
  gi_loopw [14] (fun i wr => ∃ q : Nat, q ≤ y.legs.l.length ∧ i = .int .i64 q ∧ J (es.take q) wr ∧ Hid (Kx B ex W wr) ∧ W.heap.size ≤ wr.heap.size) (fun i _ => y.legs.l.length - (intOf i).toNat)
  case atStart => exact ⟨0, Nat.zero_le _, rfl, by simpa using hJ0, Kx.refl _, Nat.le_refl _⟩
  case round =>
    obtain ⟨q, hq, rfl, hJs, HK, hsz⟩ := hrel
    by_cases hlt : q < y.legs.l.length
    · have hc := HC.out.keep HK.out hsz
      obtain ⟨w0, h01, h02, h03, h04, h05, h06⟩ := hc.low
      obtain ⟨z, b1, o2, hx, hA, hb2, hcx⟩ := (h04.top h06).at_ hlt
      have HA := Lib.hid hA
      have c0 := hcx 0 _ rfl
      have c1 := hcx 1 _ rfl
      have c2 := hcx 2 _ rfl
      have c3 := hcx 3 _ rfl
      simp only [Nat.add_zero] at c0
      have hlt' : (q : Int) < y.legs.l.length := by omega
      have HX := Lib.hid hx
      have HEI := Lib.hid (HE.out q z hx)
      have hpts := h05.top h06
      obtain ⟨v0, b3, o3, hv0, hB, hb3, hcv⟩ := hpts.at_ (k := q) (by omega)
      obtain ⟨v1, b4, o4, hv1, hB', hb4, hcv'⟩ := hpts.at_ (k := q + 1) (by omega)
      rw [hB] at hB'
      injection hB' with hB'
      injection hB' with e1 e2
      subst e1 e2
      have t0 := hcv 0 _ rfl
      have t1 := hcv' 0 _ rfl
      simp only [Nat.mul_one, Nat.add_zero] at t0 t1
      have kp := hc.c1
      rw [hB] at kp
      have hbp : bp < wr.heap.size := by have := hc.pB; omega
      have hq2 : ((q : Int) + 1 : Int) < (p.ts.l.length : Int) := by omega
      have hq0 : (0 : Int) ≤ (q : Int) + 1 := by omega
      have hq1 : (q : Int) < (p.ts.l.length : Int) := by omega
      rw [hA]
      have ez0 : tim p q = v0 := tim_at hv0
      have ez1 : tim p (q + 1) = v1 := tim_at hv1
      rw [ez0, ez1] at HEI
      clear hx hcx hc h03 h04 h05 h06 h01 h02 hA hpts hv0 hv1 hB hcv hcv' ez0 ez1
      have t1' : wr.cell? ⟨b3, o3 + ((q : Int) + 1).toNat, none⟩ = some (.int .i64 v1) := by rw [show ((q : Int) + 1).toNat = q + 1 by omega]; exact t1
      have hwq : IntKind.i64.wrap ((q : Int) + 1) = (q : Int) + 1 := IntWalk.i64_in _ (by omega)
      gi_wp2_with fail
      obtain ⟨W3, hW3⟩ : ∃ W3, (wr.alloc (.cells #[.int .i64 z.seg, .int .i64 z.vol, .int .i64 z.len, .slice z.mi.A z.mi.l.length z.mi.c] 121)).drew = W3 := ⟨_, rfl⟩
      have hE : Below wr.heap.size wr W3 := by rw [← hW3]; exact ext_drew (ext_alloc (ext_refl wr) _)
      have hG := grown_below hE
      have hJ1 : J (es.take q) W3 := HJ.out _ _ _ none hJs hG (by simp)
      have HK1 : Hid (Kx B ex W W3) := HK.out.t (Kx.below hE (by omega))
      have hs1 : wr.heap.size ≤ W3.heap.size := hE.size
      have s0 : W3.cell? ⟨wr.heap.size, 0, none⟩ = some (.int .i64 z.seg) := by rw [← hW3]; simp
      have s1 : W3.cell? ⟨wr.heap.size, 1, none⟩ = some (.int .i64 z.vol) := by rw [← hW3]; simp
      have s2 : W3.cell? ⟨wr.heap.size, 2, none⟩ = some (.int .i64 z.len) := by rw [← hW3]; simp
      have s3 : W3.cell? ⟨wr.heap.size, 3, none⟩ = some (.slice z.mi.A z.mi.l.length z.mi.c) := by rw [← hW3]; simp
      have kp' := (hE.cell (p := ⟨bp, 1, none⟩) hbp).trans kp
      have t0' := (hE.cell (p := ⟨b3, o3 + q, none⟩) hb3).trans t0
      have t1a := (hE.cell (p := ⟨b3, o3 + (q + 1), none⟩) hb3).trans t1
      have t1b := (hE.cell (p := ⟨b3, o3 + ((q : Int) + 1).toNat, none⟩) hb3).trans t1'
      have hlq := hlt
      obtain ⟨fn, tmps, assign, body, hy, hR⟩ := HY.out (es.take q) (z, ⟨v0, v1⟩) W3 hJ1 (by have := HL.out; rw [List.length_take]; omega)
      replace hR := hR.mono yout
      simp only [encLS] at hy
      have HPL := Lib.hid hpl
      clear hpl kp t0 t1 t1' c0 c1 c2 c3 hE hG hJ1 hJs HJ HY HE
      refine rf_begin (S := (fun w' => w' = W3)) 14 (by kernel_rfl) (by intro d; cases d <;> intro _ _ _ _ h <;> exact h) ?_ (fun Q7 hQ7 hN7 hHeld => ?_)
      · exact hW3
      refine rf_take (i := 0) (some 19) (v := ?_) rfl rfl rfl (by kernel_rfl) (by rfl) (fun w => by rfl) hQ7 hHeld ?_ ?_
      rotate_left
      · intro w7 hSw; (try dsimp only at hSw); go_simp; all_goals with_reducible rfl
      try simp only [Act.put, List.setIfInBounds_toArray, List.set_cons_zero, List.set_cons_succ]
      refine rf_take (i := 1) (some 20) (v := ?_) rfl rfl rfl (by kernel_rfl) (by rfl) (fun w => by rfl) hQ7 hHeld ?_ ?_
      rotate_left
      · intro w7 hSw; (try dsimp only at hSw); go_simp; all_goals with_reducible rfl
      try simp only [Act.put, List.setIfInBounds_toArray, List.set_cons_zero, List.set_cons_succ]
      refine rf_take (i := 2) (some 21) (v := ?_) rfl rfl rfl (by kernel_rfl) (by rfl) (fun w => by rfl) hQ7 hHeld ?_ ?_
      rotate_left
      · intro w7 hSw; (try dsimp only at hSw); go_simp; all_goals with_reducible rfl
      try simp only [Act.put, List.setIfInBounds_toArray, List.set_cons_zero, List.set_cons_succ]
      refine rf_take (i := 3) (some 22) (v := ?_) rfl rfl rfl (by kernel_rfl) (by rfl) (fun w => by rfl) hQ7 hHeld ?_ ?_
      rotate_left
      · intro w7 hSw; (try dsimp only at hSw); go_simp; all_goals with_reducible rfl
      try simp only [Act.put, List.setIfInBounds_toArray, List.set_cons_zero, List.set_cons_succ]
      refine rf_take (i := 4) (some 23) (v := ?_) rfl rfl rfl (by kernel_rfl) (by rfl) (fun w => by rfl) hQ7 hHeld ?_ ?_
      rotate_left
      · intro w7 hSw; (try dsimp only at hSw); go_simp; all_goals with_reducible rfl
      try simp only [Act.put, List.setIfInBounds_toArray, List.set_cons_zero, List.set_cons_succ]
      refine rf_take (i := 5) (some 24) (v := ?_) rfl rfl rfl (by kernel_rfl) (by rfl) (fun w => by rfl) hQ7 hHeld ?_ ?_
      rotate_left
      · intro w7 hSw; (try dsimp only at hSw); go_simp; all_goals with_reducible rfl
      try simp only [Act.put, List.setIfInBounds_toArray, List.set_cons_zero, List.set_cons_succ]
      refine rf_take (i := 6) (some 25) (v := ?_) rfl rfl rfl (by kernel_rfl) (by rfl) (fun w => by rfl) hQ7 hHeld ?_ ?_
      rotate_left
      · intro w7 hSw; (try dsimp only at hSw); go_simp; all_goals with_reducible rfl
      try simp only [Act.put, List.setIfInBounds_toArray, List.set_cons_zero, List.set_cons_succ]
      refine rf_take (i := 7) (some 26) (v := ?_) rfl rfl rfl (by kernel_rfl) (by rfl) (fun w => by rfl) hQ7 hHeld ?_ ?_
      rotate_left
      · intro w7 hSw; (try dsimp only at hSw); go_simp; all_goals with_reducible rfl
      try simp only [Act.put, List.setIfInBounds_toArray, List.set_cons_zero, List.set_cons_succ]
      refine rf_take (i := 8) (some 27) (v := ?_) rfl rfl rfl (by kernel_rfl) (by rfl) (fun w => by rfl) hQ7 hHeld ?_ ?_
      rotate_left
      · intro w7 hSw; (try dsimp only at hSw); go_simp; all_goals with_reducible rfl
      try simp only [Act.put, List.setIfInBounds_toArray, List.set_cons_zero, List.set_cons_succ]
      refine rf_take (i := 9) (some 28) (v := ?_) rfl rfl rfl (by kernel_rfl) (by rfl) (fun w => by rfl) hQ7 hHeld ?_ ?_
      rotate_left
      · intro w7 hSw; (try dsimp only at hSw); go_simp; all_goals with_reducible rfl
      try simp only [Act.put, List.setIfInBounds_toArray, List.set_cons_zero, List.set_cons_succ]
      refine rf_take (i := 10) (some 29) (v := ?_) rfl rfl rfl (by kernel_rfl) (by rfl) (fun w => by rfl) hQ7 hHeld ?_ ?_
      rotate_left
      · intro w7 hSw; (try dsimp only at hSw); go_simp; all_goals with_reducible rfl
      try simp only [Act.put, List.setIfInBounds_toArray, List.set_cons_zero, List.set_cons_succ]
      refine rf_take (i := 11) (some 30) (v := ?_) rfl rfl rfl (by kernel_rfl) (by rfl) (fun w => by rfl) hQ7 hHeld ?_ ?_
      rotate_left
      · intro w7 hSw; (try dsimp only at hSw); go_simp; all_goals with_reducible rfl
      try simp only [Act.put, List.setIfInBounds_toArray, List.set_cons_zero, List.set_cons_succ]
      refine rf_take (i := 12) (some 31) (v := ?_) rfl rfl rfl (by kernel_rfl) (by rfl) (fun w => by rfl) hQ7 hHeld ?_ ?_
      rotate_left
      · intro w7 hSw; (try dsimp only at hSw); go_simp; all_goals with_reducible rfl
      try simp only [Act.put, List.setIfInBounds_toArray, List.set_cons_zero, List.set_cons_succ]
      refine rf_take (i := 13) (some 32) (v := ?_) rfl rfl rfl (by kernel_rfl) (by rfl) (fun w => by rfl) hQ7 hHeld ?_ ?_
      rotate_left
      · intro w7 hSw; (try dsimp only at hSw); go_simp; all_goals with_reducible rfl
      try simp only [Act.put, List.setIfInBounds_toArray, List.set_cons_zero, List.set_cons_succ]
      refine rf_late (i := 14) (by kernel_rfl) rfl (by rfl) (by kernel_rfl) (fun K hK => ?_)
      gi_wp2_with fail
      refine hR.mono ?_
      rintro e W4 ⟨b, rfl, hb1, hb2⟩
      clear hy hR
      gi_wp2_with fail
      try (refine hK _ _ ?_; clear hK K)
      refine rf_late (i := 15) (by kernel_rfl) rfl (by rfl) (by kernel_rfl) (fun K hK => ?_)
      gi_wp2_with fail
      try (refine hK _ _ ?_; clear hK K)
      refine rf_end (by kernel_rfl) (hN7 _ _ ?_) _
      clear hQ7 hN7 Q7
      cases b with
      | true =>
        obtain ⟨hJ3, hk3, hs3⟩ := hb1 rfl
        clear hb1 hb2
        gi_wp2_with fail
        go_roundw
        case rel => exact ⟨q + 1, hlq, by go_num, by rw [take_snoc HEI.out]; exact hJ3, HK1.out.t hk3, by omega⟩
        case measure => simp [intOf]; omega
      | false =>
        have hJx3 := hb2 rfl
        clear hb1 hb2
        gi_wp2_with fail
        refine bodyPost_ret (results_none rfl _ _ _) rfl ?_
        exact ⟨⟨_, rfl⟩, .inr ⟨es.take q ++ [(z, ⟨v0, v1⟩)], by rw [← take_snoc HEI.out]; exact List.take_prefix _ _, hJx3⟩⟩
    · gi_wp2
      go_end0
      exact ⟨⟨_, rfl⟩, .inl ⟨es.take q, List.take_of_length_le (by have := HL.out; omega), hJs⟩⟩
theorem legs_stops (n : Nat) (hn : 1 ≤ n) (B : Nat) (ex : Nat → Prop) (bt bp : Nat) (t : Tab) (p : Pth) (x : Wy) (es : List (Lg × Sp)) (hok : PathOk t p x)
    (hes : ∀ (i : Nat) (y : Lg), x.legs.l[i]? = some y → es[i]? = some (y, ⟨tim p i, tim p (i + 1)⟩)) (hlen : es.length = x.legs.l.length) (hwl : t.ws.l.length ≤ maxLen) (hll : x.legs.l.length < maxLen) (w : World) (hB : B ≤ w.heap.size) (hC : LCap w B ex bt bp t p x) :
    SeqStopsK Fence.wide n Tryz.prog 131 #[.pointer (some ⟨bt, 0, none⟩), .pointer (some ⟨bp, 0, none⟩)] encLS (KpE B ex) (fun ys => ys = es) (fun pre => pre <+: es) es.length w :=
  fun l J Jx W hW hJ _ hY hJ0 => legs1_in n hn l B ex bt bp t p x es hok hes hlen hwl hll J Jx W (Nat.le_trans hB hW.size) hJ hY (hC.keep (Kx.below hW hB) hW.size) hJ0
theorem legs_at (a0 a1 a2 a3 a4 a5 c0 c1 : Value) (w : World) :
    Calls Tryz.prog 103 #[.agg #[a0, a1, a2, a3, a4, a5], .agg #[c0, c1]] w fun e w' => e = .returned (.func (.func 131) #[] #[.pointer (some ⟨w.heap.size, 0, none⟩), .pointer (some ⟨w.heap.size + 1, 0, none⟩)]) ∧
      (w.alloc (.cells #[a0, a1, a2, a3, a4, a5] 28)).alloc (.cells #[c0, c1] 71) = w' := by
  go_enter Tryz.func103, Tryz.ntmps103
  go_wp2
  go_ret
  exact ⟨rfl, rfl⟩
/-- A stay at an airport. -/
theorem air_at (a m : Int) (w : World) (h0 : 0 ≤ m) (h1 : m ≤ 65535) : Calls Tryz.prog 102 #[.int .i64 a, .int .i64 m] w fun e w' => e = .returned (Sty.v ⟨true, a, ⟨m, m + 1⟩⟩) ∧ Below w.heap.size w w' := by
  have hw : IntKind.i64.wrap (m + 1) = m + 1 := IntWalk.i64_in _ (by omega)
  go_enter Tryz.func102, Tryz.ntmps102
  go_wp2
  refine bodyPost_ret (v := Sty.v ⟨true, a, ⟨m, m + 1⟩⟩) (by simp [results, Tryz.results102, go_sem]) rfl ⟨rfl, ?_⟩
  exact ext_alloc (ext_refl w) _
end Go.Proofs.YtjiojpoiocdnmaaGreat
/- The world's first n blocks: a base for slices of the call's own. No program in sight. -/
set_option linter.unusedSimpArgs false
set_option linter.unusedVariables false
namespace Go.Proofs.YtjiojpoiocdnmaaGreat
open Go.RowKit
def cutW (W : World) (n : Nat) : World := { W with heap := W.heap.extract 0 n }
theorem cut_size {W : World} {n : Nat} (h : n ≤ W.heap.size) : (cutW W n).heap.size = n := by simp [cutW]; omega
theorem cut_get {W : World} {n b : Nat} (h : n ≤ W.heap.size) (hb : b < n) : (cutW W n).heap[b]? = W.heap[b]? := by
  have h1 : b < (cutW W n).heap.size := by rw [cut_size h]; exact hb
  rw [Array.getElem?_eq_getElem h1, Array.getElem?_eq_getElem (show b < W.heap.size by omega)]
  simp [cutW]
theorem cut_below {W : World} {n : Nat} (h : n ≤ W.heap.size) : Below (cutW W n).heap.size (cutW W n) W := by
  rw [cut_size h]
  exact ⟨rfl, rfl, rfl, by rw [cut_size h]; exact h, fun b hb => (cut_get h hb).symm⟩
theorem Own.far_set {α : Type} {w : World} {base : Nat} {e : TypeId} {enc : α → List Value} {sz : Nat} {v u : Value} {l : List α} (h : Own w base e enc sz v l) {p : Addr} (hp : p.block < base) : Own (w.setCell p u) base e enc sz v l :=
  h.block fun k hk => Below.heap_setCell w p u k (by have := (h.lt k hk).2; omega)
end Go.Proofs.YtjiojpoiocdnmaaGreat
