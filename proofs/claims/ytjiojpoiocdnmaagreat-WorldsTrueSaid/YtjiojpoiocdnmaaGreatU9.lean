/- The stays on a valid path: plain. -/
import Derived.Test.YtjiojpoiocdnmaaGreatU8
import Derived.Test.YtjiojpoiocdnmaaGreatU5
import Derived.Test.YtjiojpoiocdnmaaGreatU2
import Derived.Test.YtjiojpoiocdnmaaGreatU1
import Derived.RangeFuncNested
import Derived.RangeFuncBound
import Derived.RangeFuncCalls
import Derived.RangeFuncLeaves
import Derived.RangeFuncBox
import Derived.RangeFuncWrites
import Derived.Shelf.Abstract
import Derived.Shelf.RegionOpen
import Derived.WalkKit
import Derived.OwnWalkIn
import Derived.TacticsInMore
import Derived.LoopNIn
import Derived.LoopIn
import Derived.CallsIn
import Derived.TacticsIn
import Derived.OrdersIn
set_option linter.unusedSimpArgs false
set_option linter.unusedVariables false
namespace Go.Proofs.YtjiojpoiocdnmaaGreat
open Go.RowKit
/-- The i-th time on a path, the volume of a way's i-th leg. -/
def tim (p : Pth) (i : Nat) : Int := (p.ts.l[i]?).getD 0
def lvol (x : Wy) (i : Nat) : Int := ((x.legs.l[i]?).map (·.vol)).getD 0
def legStay (p : Pth) (x : Wy) (i : Nat) : Sty := ⟨false, lvol x i, ⟨tim p i, tim p (i + 1)⟩⟩
def staysN (p : Pth) (x : Wy) (k : Nat) : List Sty := ⟨true, x.f, ⟨tim p 0, tim p 0 + 1⟩⟩ :: (List.range k).map (legStay p x)
def staysX (p : Pth) (x : Wy) : List Sty := staysN p x x.legs.l.length ++ [⟨true, x.t, ⟨tim p x.legs.l.length, tim p x.legs.l.length + 1⟩⟩]
def staysL (t : Tab) (p : Pth) : List Sty := match t.ws.l[p.way.toNat]? with | some x => staysX p x | none => []
theorem staysN_len (p : Pth) (x : Wy) (k : Nat) : (staysN p x k).length = k + 1 := by simp [staysN]
theorem styc_len (x : Sty) : x.cells.length = 4 := rfl
theorem sty_info : (Tryz.prog.info? 113).map (fun i => (i.zero, i.size, i.bytes)) = some (some (.agg #[.bool false, .int .i64 0, .int .i64 0, .int .i64 0]), 4, 32) := by kernel_rfl
theorem styI : EInfo Tryz.prog 95 113 Sty.cells 4 32 := by
  obtain ⟨i, h1, h2, h3, h4⟩ := iparts sty_info
  exact ⟨Tryz.underlying95, ⟨i, _, h1, h2, h3, h4, rfl⟩, by decide, fun _ => rfl, fun x u hu => by simp [Sty.cells] at hu; rcases hu with rfl | rfl | rfl | rfl <;> rfl⟩
theorem risB_rng {n : Int} : ∀ {l : List Int} {last : Int}, risB n last l = true → ∀ v ∈ l, last < v ∧ v < n
  | a :: r, last, h, v, hv => by
    simp only [risB, Bool.and_eq_true, decide_eq_true_eq] at h
    rcases List.mem_cons.1 hv with rfl | hv
    · exact h.1
    · have := risB_rng h.2 v hv
      omega
structure PathOk (t : Tab) (p : Pth) (x : Wy) : Prop where
  w0 : 0 ≤ p.way
  w1 : p.way < (t.ws.l.length : Int)
  at_ : t.ws.l[p.way.toNat]? = some x
  len : p.ts.l.length = x.legs.l.length + 1
  tm : ∀ v ∈ p.ts.l, 0 ≤ v ∧ v ≤ 65535
theorem path_ok {t : Tab} {p : Pth} (h : pathB t p = true) : ∃ x, PathOk t p x := by
  unfold pathB at h
  simp only [Bool.and_eq_true, decide_eq_true_eq] at h
  obtain ⟨⟨⟨h1, h2⟩, h3⟩, h4⟩ := h
  have hx := List.getElem?_eq_getElem (show p.way.toNat < t.ws.l.length by omega)
  rw [hx] at h3
  exact ⟨_, h1, h2, hx, h3, fun v hv => by have := risB_rng h4 v hv; omega⟩
theorem PathOk.tim {t : Tab} {p : Pth} {x : Wy} (h : PathOk t p x) (i : Nat) : 0 ≤ tim p i ∧ tim p i ≤ 65535 := by
  unfold Go.Proofs.YtjiojpoiocdnmaaGreat.tim
  cases hq : p.ts.l[i]? with
  | none => simp
  | some v => exact h.tm v (List.mem_of_getElem? hq)
theorem tim_at {p : Pth} {i : Nat} {v : Int} (h : p.ts.l[i]? = some v) : tim p i = v := by unfold tim; rw [h]; rfl
def StaysR (w : World) (L : List Sty) (e : Ending) (w' : World) : Prop := ∃ A c, e = .returned (.slice A L.length c) ∧ Own w' w.heap.size 113 Sty.cells 4 (.slice A L.length c) L ∧ Below w.heap.size w w'
end Go.Proofs.YtjiojpoiocdnmaaGreat
/- Words for a range over a function: what a round keeps; what abides the loop's own book-keeping. No program in sight. -/
set_option linter.unusedSimpArgs false
set_option linter.unusedVariables false
namespace Go.Proofs.YtjiojpoiocdnmaaGreat
open Go.RowKit Go.Shelf

/-- Below B, but for the blocks in ex, the world is as it was. -/
def Kx (B : Nat) (ex : Nat → Prop) (W W' : World) : Prop := ∀ k, k < B → ¬ ex k → W'.heap[k]? = W.heap[k]?
section
variable {B : Nat} {ex : Nat → Prop}
theorem Kx.refl (W : World) : Kx B ex W W := fun _ _ _ => rfl
theorem Kx.t {X Y Z : World} (h : Kx B ex X Y) (k : Kx B ex Y Z) : Kx B ex X Z := fun i hi hn => (k i hi hn).trans (h i hi hn)
theorem Kx.b {w : World} (hB : B ≤ w.heap.size) (W : World) (l : Nat) (o o' : Obj) (hl : w.heap.size ≤ l) (h : W.heap[l]? = some o) (_ : o.isCells = false) (_ : o.isWalk = false) : Kx B ex W (W.putObj l o') := by
  intro k hk _
  have hlt := (Array.getElem?_eq_some_iff.1 h).1
  exact (grownBy_putObj' W l o').block k (by omega) (fun e => by cases e; omega)
theorem Kx.grown {W W' : World} {row : Option Nat} (hg : W.grownBy W' row) (hB : B ≤ W.heap.size) (hr : ∀ r, row = some r → B ≤ r ∨ ex r) : Kx B ex W W' := by
  intro k hk hn
  refine hg.block k (by omega) (fun e => ?_)
  rcases hr k e.symm with h | h
  · omega
  · exact hn h
theorem Kx.below {n : Nat} {W W' : World} (h : Below n W W') (hB : B ≤ n) : Kx B ex W W' := fun k hk _ => h.block k (by omega)
theorem Kx.set {W : World} (p : Addr) (v : Value) (hr : B ≤ p.block ∨ ex p.block) : Kx B ex W (W.setCell p v) := by
  intro k hk hn
  exact Below.heap_setCell W p v k (by
    intro e
    rcases hr with h | h
    · omega
    · rw [← e] at h; exact hn h)
end
theorem grown_below {w w' : World} (h : Below w.heap.size w w') : w.grownBy w' none := ⟨h.os, h.tape, h.output, h.size, fun k hk _ => h.block k hk⟩
/-- A turn of a block that is no cells leaves a slice as it was. -/
theorem Slc.turn {α : Type} {w w' : World} {enc : α → List Value} {sz : Nat} {A : Option Addr} {l : List α} {row : Option Nat} (hs : ∀ x, (enc x).length = sz) (hz : 0 < sz) (h : Slc w enc sz A l) (hg : w.grownBy w' row) (hr : ∀ r, row = some r → ∃ o : Obj, w.heap[r]? = some o ∧ o.isCells = false) : Slc w' enc sz A l := fun i x hx => by
  obtain ⟨b, o, e, hlt, hc⟩ := h i x hx
  have hne : some b ≠ row := by
    intro e'
    obtain ⟨ob, h1, h2⟩ := hr b e'.symm
    have h3 := hc 0 _ (List.getElem?_eq_getElem (by rw [hs]; exact hz))
    simp only [World.cell?, h1] at h3
    cases ob <;> simp_all [Obj.isCells]
  exact ⟨b, o, e, Nat.lt_of_lt_of_le hlt hg.size, fun j v hj => (World.cell?_of_block (w := w) (a := ⟨b, o + i * sz + j, none⟩) (hg.block b hlt hne)).trans (hc j v hj)⟩
theorem Own.turn {α : Type} {w w' : World} {base : Nat} {e : TypeId} {enc : α → List Value} {sz : Nat} {v : Value} {l : List α} {row : Option Nat} (h : Own w base e enc sz v l) (hg : w.grownBy w' row) (hr : ∀ r, row = some r → ∃ o : Obj, w.heap[r]? = some o ∧ o.isCells = false) : Own w' base e enc sz v l := by
  obtain ⟨h1, h2⟩ := h
  refine ⟨h1, ?_⟩
  rcases h2 with h2 | ⟨g, cap, cur, hv, hbb, hgb, r⟩
  · exact .inl h2
  · refine .inr ⟨g, cap, cur, hv, hbb, ?_, r⟩
    rw [hg.block g (Array.getElem?_eq_some_iff.1 hgb).1 (fun e' => by obtain ⟨ob, h3, h4⟩ := hr g e'.symm; rw [hgb] at h3; cases h3; cases h4)]
    exact hgb
theorem Boxed.turn {w w' : World} {B : Nat} {t : TypeId} {v : Value} {row : Option Nat} (h : Boxed w B t v) (hg : w.grownBy w' row) (hr : ∀ r, row = some r → ∃ o : Obj, w.heap[r]? = some o ∧ o.isCells = false) : Boxed w' B t v :=
  h.kept hg (fun e' => by obtain ⟨ob, h3, h4⟩ := hr B e'.symm; rw [show w.heap[B]? = _ from h] at h3; cases h3; cases h4)
/-- append inside a fence, its run known. -/
theorem wpListIn_append_run {F : Fence} {n : Nat} {P : Program} {w : World} {ops : Array Oper} {rest : List Oper} {o : Oper} {a : Act} {Q : Exit → Act → World → Prop}
    (hg : o.guard = none) (s x : Operand) (t : TypeId) (hop : o.op = Op.call { callee := Callee.builtin Builtin.append, args := #[s, x], argTypes := #[t, t] }) (u v : Value) (hs : a.eval s = u) (hx : a.eval x = v)
    {v' : Value} {w' : World} (hrun : (Builtin.append_ #[t, t] o.type #[u, v]).run P w = .ok v' w') (h : wpListIn F n P ops Q rest (a.put o.dst v') w') : wpListIn F n P ops Q (o :: rest) a w := by
  refine wpListIn_plain hg fun K hK' => ?_
  unfold Oper.wpIn
  refine ⟨?_, ?_⟩
  · simp [Oper.about, hop, resolve, Target.leads, Sem.run_pure]
  · rw [Oper.semAt_plain F _ _ (by rw [hop]; intro c hc'; cases hc')]
    simp [execOp, hop, resolve, invoke, builtin, hs, hx, hrun, Result.andThen]
    exact hK' _ _ h
end Go.Proofs.YtjiojpoiocdnmaaGreat
/- A drawn region inside a fence, and in a round of a range over a function. No program in sight. -/
set_option linter.unusedSimpArgs false
set_option linter.unusedVariables false
namespace Go.Proofs.YtjiojpoiocdnmaaGreat
/-- A drawn region inside a fence: the post at its end alone. -/
def OnlyN (Q : Exit → Act → World → Prop) : Exit → Act → World → Prop
  | .normal, a, w => Q .normal a w
  | _, _, _ => False
theorem onlyN {Q : Exit → Act → World → Prop} {a : Act} {w : World} (h : Q .normal a w) : OnlyN Q .normal a w := h
theorem region_in {n : Nat} {P : Program} {id : Nat} {ops : Array Oper} {Q : Exit → Act → World → Prop} {a : Act} {w : World} (h : (Code.region id ops true).wp P (OnlyN Q) a w) : (Code.region id ops true).wpIn Fence.wide n P Q a w :=
  wpIn_wide.2 (wp_mono h (fun e a w h => by cases e <;> first | exact h | exact h.elim))
theorem op_round {l n : Nat} {P : Program} {o : Oper} {a : Act} {w : World} {K : Act → World → Prop} {Q : Exit → Act → World → Prop} (hd : ∀ c, o.op ≠ .defer c) (h : o.wp P a w K (OnlyN Q)) : o.wpIn (Fence.wide.inRound l) n P a w K Q := by
  refine ⟨fun _ _ => trivial, ?_⟩
  rw [show (Fence.wide.inRound l).round = some l from rfl, Oper.semAt_some l a.eval o hd]
  unfold Oper.wp at h
  cases hr : (execOp a.eval o).run P w with
  | ok nx w' =>
    rw [hr] at h
    cases nx with
    | value v => exact h
    | skip => exact h
    | defer d => exact h
    | enter f args =>
      refine ⟨(fun e => by cases e), CallsIn.inRound l (callsIn_wide.2 (Calls.mono h ?_))⟩
      intro e w'' g
      cases e with
      | returned v => exact g
      | panicked c => exact g.elim
      | outgrown => obtain ⟨_, _, g⟩ := g; exact g.elim
    | row row args =>
      refine ⟨(fun e => by cases e), fun c cs _ => ?_⟩
      obtain ⟨v, w'', r, s⟩ := h c cs
      exact ⟨v, w'', r, stepsIn_wide.2 s⟩
    | _ => exact h.elim
  | halt x w' =>
    rw [hr] at h
    cases x with
    | panic v => exact h.elim
    | _ => exact h.elim
theorem ops_round {l n : Nat} {P : Program} {ops : Array Oper} {Q : Exit → Act → World → Prop} (hd : ∀ (j : Nat) (o : Oper), ops[j]? = some o → ∀ c, o.op ≠ .defer c) :
    ∀ (s : List Nat) (a : Act) (w : World), wpOps P ops (OnlyN Q) s a w → wpOpsIn (Fence.wide.inRound l) n P ops Q s a w
  | [], _, _, h => h
  | i :: s, a, w, h => by
    unfold wpOps at h
    unfold wpOpsIn
    cases ho : ops[i]? with
    | none => rw [ho] at h; exact ops_round hd s a w h
    | some o =>
      rw [ho] at h
      simp only at h ⊢
      split at h
      · rename_i hw
        rw [if_pos hw]
        rcases h with h | ⟨-, _, _, h⟩
        · exact op_round (hd i o ho) (Oper.wp_mono (fun a w h => ops_round hd s a w h) h)
        · exact h.elim
      · rename_i hw
        rw [if_neg hw]
        exact ⟨fun _ _ => trivial, ops_round hd s _ w h⟩
def noDefer (ops : Array Oper) : Bool := ops.toList.all (fun o => match o.op with | .defer _ => false | _ => true)
theorem noDefer_of {ops : Array Oper} (h : noDefer ops = true) : ∀ (j : Nat) (o : Oper), ops[j]? = some o → ∀ c, o.op ≠ .defer c := by
  intro j o hj c e
  have h1 := List.all_eq_true.1 h o (by rw [Array.mem_toList_iff]; exact Array.mem_of_getElem? hj)
  rw [e] at h1
  cases h1
theorem rg_beginR {P : Program} {ops : Array Oper} {Q : Exit → Act → World → Prop} {S : World → Prop} {l n id : Nat} {a : Act} {w : World} (k : Nat) (hm : P.follows .mixedOrders = true) (hQ : Calm (OnlyN Q)) (hS : S w.drew)
    (h : ∀ Q' : Exit → Act → World → Prop, Calm Q' → (∀ a w, OnlyN Q .normal a w → Q' .normal a w) → S w.drew → WT P .any ops Q' k S ops.size (Array.replicate ops.size false) a w.drew)
    (hd : noDefer ops = true := by rfl) : (Code.region id ops true).wpIn (Fence.wide.inRound l) n P Q a w :=
  wpIn_region_draw fun t => ops_round (noDefer_of hd) _ _ _ (by
    simp only [Region.schedule, hm, Bool.true_or, if_true]
    exact wpAny_sound ops.size t _ a _ (WT.any _ _ _ _ (h (OnlyN Q) hQ (fun _ _ h => h) hS)))
end Go.Proofs.YtjiojpoiocdnmaaGreat
/- A drawn region inside a fence, the loads taken first; one late operation (number k: the call of yield) behind which all is over. No program in sight. -/
set_option linter.unusedSimpArgs false
set_option linter.unusedVariables false
namespace Go.Proofs.YtjiojpoiocdnmaaGreat
variable {F : Fence} {n : Nat} {P : Program} {md : Region.Mode} {ops : Array Oper} {Q : Exit → Act → World → Prop} {S : World → Prop} {k : Nat}
def YIF (P : Program) (ops : Array Oper) (S : World → Prop) (o : Oper) (v : Value) (a : Act) : Prop := YieldsIf P ops S o v a ∧ ∀ w, o.about P w a.eval = none
theorem YIF.same {o : Oper} {v : Value} {a a' : Act} (hy : YIF P ops S o v a) (he : execOp a'.eval o = execOp a.eval o)
    (hw : Region.wanted o (yielded ops a'.tmps) = Region.wanted o (yielded ops a.tmps)) (hb : ∀ w, o.about P w a'.eval = o.about P w a.eval) : YIF P ops S o v a' :=
  ⟨hy.1.of_same he hw, fun w => by rw [hb w]; exact hy.2 w⟩
theorem YIF.op {i : Nat} {o : Oper} {v : Value} {a : Act} (hro : F.round = none) (hi : ops[i]? = some o) (hy : YIF P ops S o v a) {K : Act → World → Prop} {w : World} (hS : S w) (h : K (a.put o.dst v) w) : wpOpIn F n P ops Q i K a w := by
  unfold wpOpIn
  simp only [hi]
  have hab : ∀ f, o.about P w a.eval = some f → F.fn f := fun f hf => by rw [hy.2 w] at hf; cases hf
  rcases hy.1 with ⟨hw, hv⟩ | ⟨hw, rfl⟩
  · simp only [hw, if_true, Oper.wpIn, hro, Oper.semAt_none, hv w hS, Oper.uponIn]; exact ⟨hab, h⟩
  · simp only [hw, Bool.false_eq_true, if_false]; exact ⟨hab, h⟩
/-- Another operation, apart from it, does not mind whether its value lies there. -/
theorem yif_put {j : Nat} {oi oj : Oper} {v : Value} (hro : F.round = none) (hj : ops[j]? = some oj) (hap : oi.apart ops oj = true)
    (hsi : ∀ cs b, oi.op ≠ .select cs b) (hsj : ∀ cs b, oj.op ≠ .select cs b)
    (hQ : ∀ c a w, Q (.panic c) (a.put oi.dst v) w → Q (.panic c) a w) {K : Act → World → Prop} {a : Act} {w : World}
    (hy : YIF P ops S oi v a) (h : wpOpIn F n P ops Q j K (a.put oi.dst v) w) :
    wpOpIn F n P ops Q j (fun a' w' => YIF P ops S oi v a' ∧ K (a'.put oi.dst v) w') a w := by
  obtain ⟨h1, h2, h3⟩ := Oper.apart_spec hap
  have keep : ∀ (a : Act), YIF P ops S oi v a → ∀ u, YIF P ops S oi v (a.put oj.dst u) := fun a hy u =>
    hy.same (execOp_put oi hsi a oj.dst u h3) (wanted_put oi a oj.dst u h3) (fun w => about_put oi w a oj.dst u h3)
  have keepD : ∀ d, YIF P ops S oi v { a with defers := d :: a.defers } := fun d => hy.same rfl rfl (fun _ => rfl)
  unfold wpOpIn at *
  simp only [hj] at *
  rw [wanted_put oj a oi.dst v h1, about_put oj w a oi.dst v h1] at h
  split
  · rename_i hw
    simp only [hw, if_true] at h
    unfold Oper.wpIn at *
    rw [about_put oj w a oi.dst v h1] at h
    refine ⟨h.1, ?_⟩
    have h := h.2
    rw [hro, Oper.semAt_none, execOp_put oj hsj a oi.dst v h1] at h
    rw [hro, Oper.semAt_none]
    generalize (execOp a.eval oj).run P w = r at *
    cases r with
    | ok x w' =>
      cases x <;> simp only [Oper.uponIn] at h ⊢
      case value u => exact ⟨keep a hy u, by rw [← Act.put_comm a v u h2]; exact h⟩
      case skip => exact ⟨keep a hy _, by rw [← Act.put_comm a v undef h2]; exact h⟩
      case defer d =>
        refine ⟨keep _ (keepD d) _, ?_⟩
        rw [← Act.put_comm _ v undef h2, ← Act.put_defers]
        exact h
      case enter f args =>
        refine ⟨h.1, CallsIn.mono h.2 fun e w'' he => ?_⟩
        cases e with
        | returned u => exact ⟨keep a hy u, by rw [← Act.put_comm a v u h2]; exact he⟩
        | panicked c => exact hQ _ _ _ he
        | outgrown => exact he
      case row row args => exact ⟨h.1, RowsIn.mono h.2 fun u w'' he => ⟨keep a hy u, by rw [← Act.put_comm a v u h2]; exact he⟩⟩
      case round l f tmps assign body =>
        refine ⟨h.1, RoundIn.mono h.2 fun e w'' he => ?_⟩
        cases e with
        | returned u => exact ⟨keep a hy u, by rw [← Act.put_comm a v u h2]; exact he⟩
        | panicked c => exact hQ _ _ _ he
        | outgrown => exact he
    | halt x w' =>
      cases x <;> simp only [Oper.uponIn] at h ⊢
      case panic u => exact hQ _ _ _ h
  · rename_i hw
    simp only [hw] at h
    exact ⟨h.1, keep a hy _, by rw [← Act.put_comm a v undef h2]; exact h.2⟩
def WF (F : Fence) (n : Nat) (P : Program) (md : Region.Mode) (ops : Array Oper) (Q : Exit → Act → World → Prop) (k : Nat) (S : World → Prop) : Nat → Array Bool → Act → World → Prop
  | 0, l, a, w => Region.ready md ops l = [] ∧ Q .normal a w
  | f + 1, l, a, w => (Region.ready md ops l = [] → Q .normal a w) ∧
      ∀ i ∈ Region.ready md ops l, wpOpIn F n P ops Q i (fun a' w' => ((l.setIfInBounds i true).getD k false = true ∨ S w') ∧ WF F n P md ops Q k S f (l.setIfInBounds i true) a' w') a w
theorem WF.any : ∀ (f : Nat) (l : Array Bool) (a : Act) (w : World), WF F n P md ops Q k S f l a w → wpAnyIn F n P md ops Q f l a w
  | 0, _, _, _, h => h
  | f + 1, _, _, _, h => ⟨h.1, fun i hi => wpOpIn_mono (fun a' w' h' => WF.any f _ a' w' h'.2) (h.2 i hi)⟩
theorem WF.first {i : Nat} {oi : Oper} {v : Value} (hro : F.round = none) (hi : ops[i]? = some oi) (hsel : ∀ (j : Nat) (o : Oper) cs b, ops[j]? = some o → o.op ≠ .select cs b)
    (hQ : ∀ c a w, Q (.panic c) (a.put oi.dst v) w → Q (.panic c) a w) (hki : i ≠ k) (hbf : Before md ops k i) :
    ∀ (f : Nat) (l : Array Bool) (a : Act) (w : World), Closed md ops l → l.getD k false = false →
      (∀ j oj, ops[j]? = some oj → j ≠ i → l.getD j true = false → (∀ e ∈ oj.after, Region.binds md e = true → e.on ≠ i) → oi.apart ops oj = true) →
      i ∈ Region.ready md ops l → YIF P ops S oi v a → S w →
      WF F n P md ops Q k S f (l.setIfInBounds i true) (a.put oi.dst v) w → WF F n P md ops Q k S (f + 1) l a w := by
  intro f
  induction f with
  | zero =>
    intro l a w _ _ _ hr hy hS H
    refine ⟨fun h => (by rw [h] at hr; cases hr), fun j hj => ?_⟩
    by_cases hji : j = i
    · subst hji; exact hy.op hro hi hS ⟨.inr hS, H⟩
    · have := ready_mono hj hji
      rw [H.1] at this
      cases this
  | succ f ih =>
    intro l a w hc hk hfree hr hy hS H
    refine ⟨fun h => (by rw [h] at hr; cases hr), fun j hj => ?_⟩
    by_cases hji : j = i
    · subst hji; exact hy.op hro hi hS ⟨.inr hS, H⟩
    · have h1 := H.2 j (ready_mono hj hji)
      obtain ⟨hjun, oj, hoj, hall⟩ := mem_ready.1 hj
      have hi0 : l.getD i false = false := by
        have h0 := (mem_ready.1 hr).1
        rcases Nat.lt_or_ge i l.size with h' | h'
        · simp [h'] at h0 ⊢; exact h0
        · simp [Array.getElem?_eq_none h']
      have hnot : ∀ e ∈ oj.after, Region.binds md e = true → e.on ≠ i := fun e he hb heq => by
        have h1 := hall e he hb
        rw [heq, hi0] at h1
        cases h1
      have hjk : j ≠ k := fun e => by
        subst e
        have := hbf l hc hj
        rw [hi0] at this; cases this
      have h2 := yif_put hro hoj (hfree j oj hoj hji hjun hnot) (fun cs b => hsel i oi cs b hi) (fun cs b => hsel j oj cs b hoj) hQ hy h1
      have hfree' : ∀ q oq, ops[q]? = some oq → q ≠ i → (l.setIfInBounds j true).getD q true = false →
          (∀ e ∈ oq.after, Region.binds md e = true → e.on ≠ i) → oi.apart ops oq = true := fun q oq hq hqi hun hno => by
        refine hfree q oq hq hqi ?_ hno
        by_cases hjq : j = q
        · subst hjq; exact hjun
        · rw [getD_set_other hjq] at hun; exact hun
      have hc' : Closed md ops (l.setIfInBounds j true) := fun q oq hq hl e he hb => by
        by_cases hje : j = e.on
        · rw [← hje]
          have hjl : j < l.size := by
            rcases Nat.lt_or_ge j l.size with h' | h'
            · exact h'
            · have := hjun; simp [Array.getElem?_eq_none h'] at this
          simp [hjl]
        · rw [getD_set_other hje]
          by_cases hjq : j = q
          · subst hjq; rw [hoj] at hq; cases hq; exact hall e he hb
          · rw [getD_set_other hjq] at hl; exact hc q oq hq hl e he hb
      have hk' : (l.setIfInBounds j true).getD k false = false := by rw [getD_set_other hjk]; exact hk
      have hk'' : ((l.setIfInBounds i true).setIfInBounds j true).getD k false = false := by rw [getD_set_other hjk, getD_set_other hki]; exact hk
      refine wpOpIn_mono (fun a' w' h3 => ?_) h2
      have hS' : S w' := h3.2.1.resolve_left (by rw [hk'']; simp)
      refine ⟨.inr hS', ih (l.setIfInBounds j true) a' w' hc' hk' hfree' (ready_mono hr (Ne.symm hji)) h3.1 hS' ?_⟩
      rw [Array.setIfInBounds_comm _ _ hji]
      exact h3.2.2
/-! The moves. -/
theorem rf_begin {id : Nat} {a : Act} {w : World} (k : Nat) (hm : P.follows .mixedOrders = true) (hQ : Calm Q) (hS : S w.drew)
    (h : ∀ Q' : Exit → Act → World → Prop, Calm Q' → (∀ a w, Q .normal a w → Q' .normal a w) → S w.drew → WF F n P .any ops Q' k S ops.size (Array.replicate ops.size false) a w.drew) : (Code.region id ops true).wpIn F n P Q a w :=
  wpIn_region_any hm (WF.any _ _ _ _ (h Q hQ (fun _ _ h => h) hS))
theorem rf_end {l : Array Bool} {a : Act} {w : World} (hr : Region.ready md ops l = []) (h : Q .normal a w) : ∀ f, WF F n P md ops Q k S f l a w
  | 0 => ⟨hr, h⟩
  | _ + 1 => ⟨fun _ => h, by rw [hr]; simp⟩
theorem rf_take {i : Nat} {oi : Oper} (d : Option Tmp) {v : Value} {f : Nat} {l : Array Bool} {a : Act} {w : World} (hro : F.round = none) (hi : ops[i]? = some oi) (hd : oi.dst = d) (hok : okTake md ops l k i = true)
    (hw : Region.wanted oi (yielded ops a.tmps) = true) (hab : ∀ w, oi.about P w a.eval = none) (hQ : Calm Q) (hS : S w) (hy : ∀ w, S w → (execOp a.eval oi).run P w = .ok (.value v) w)
    (h : WF F n P md ops Q k S f (l.setIfInBounds i true) (a.put d v) w) : WF F n P md ops Q k S (f + 1) l a w := by
  subst hd
  unfold okTake at hok
  simp only [Bool.and_eq_true, Bool.not_eq_true', bne_iff_ne, ne_eq] at hok
  obtain ⟨⟨⟨⟨⟨⟨h1, h2⟩, h3⟩, h4⟩, h5⟩, h6⟩, h7⟩ := hok
  exact WF.first hro hi (Region.noSelect_spec h1) (hQ _ _) h6 (before_of h7) f l a w (closed_of h4) h5 (Region.free_spec hi h2) (by simpa using h3) ⟨.inl ⟨hw, hy⟩, hab⟩ hS h
/-- The late operation alone. -/
theorem rf_late {i : Nat} {oi : Oper} {f : Nat} {l : Array Bool} {a : Act} {w : World} (hr : Region.ready md ops l = [i]) (hi : ops[i]? = some oi) (hw : Region.wanted oi (yielded ops a.tmps) = true) (hk : (l.setIfInBounds i true).getD k false = true)
    (h : ∀ K' : Act → World → Prop, (∀ a w, WF F n P md ops Q k S f (l.setIfInBounds i true) a w → K' a w) → Oper.wpIn F n P oi a w K' Q) : WF F n P md ops Q k S (f + 1) l a w :=
  ⟨fun h0 => absurd (hr ▸ h0) (by simp), fun j hj => by
    rw [hr] at hj
    obtain rfl := List.mem_singleton.1 hj
    unfold wpOpIn
    simp only [hi, hw, if_true]
    exact h _ (fun a w hW => ⟨.inl hk, hW⟩)⟩
end Go.Proofs.YtjiojpoiocdnmaaGreat
