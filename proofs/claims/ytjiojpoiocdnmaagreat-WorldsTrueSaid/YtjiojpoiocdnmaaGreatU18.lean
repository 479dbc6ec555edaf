/- Rows of rows that grow while a recursion runs. No program in sight. -/
import Derived.Test.YtjiojpoiocdnmaaGreatU15
import Derived.Test.YtjiojpoiocdnmaaGreatU7
import Derived.Test.YtjiojpoiocdnmaaGreatU1
import Derived.Test.YtjiojpoiocdnmaaGreatU17
import Derived.Test.YtjiojpoiocdnmaaGreatU9
set_option linter.unusedSimpArgs false
set_option linter.unusedVariables false
namespace Go.Proofs.YtjiojpoiocdnmaaGreat
open Go.RowKit
section
variable {α : Type} {w : World} {base : Nat} {e : TypeId} {enc : α → List Value} {sz : Nat} {v : Value} {l : List α}
/-- What append leaves, the old row too. -/
structure AP (e : TypeId) (enc : α → List Value) (sz : Nat) (base : Nat) (w : World) (v : Value) (l ys : List α) (v' : Value) (w' : World) : Prop where
  o : Own w' base e enc sz v' (l ++ ys)
  g : w.grownBy w' v.ownBlock
  old : Own w' base e enc sz v l
  way : (v'.ownBlock = v.ownBlock ∧ ∀ W, Own W base e enc sz v' (l ++ ys) → Own W base e enc sz v l) ∨ ((∀ k, v'.ownBlock = some k → w.heap.size ≤ k) ∧ w.grownBy w' none)
  fm : ∃ A n c, v' = .slice A n c ∧ n = (l ++ ys).length
theorem Own.append_two {P : Program} {t : TypeId} {b : Nat} (I : EInfo P t e enc sz b) (ty : TypeId) (h : Own w base e enc sz v l) {B : Option Addr} {ys : List α} {m : Nat} (hm : m = ys.length) (hpos : 0 < ys.length) (c : Nat) (hs : Slc w enc sz B ys)
    (hby : (l.length + ys.length) * b ≤ 140737488355328) (hml : l.length + ys.length ≤ maxLen) (hbase : base ≤ w.heap.size) :
    ∃ v' w', (Builtin.append_ #[t, t] ty #[v, .slice B m c]).run P w = .ok v' w' ∧ AP e enc sz base w v l ys v' w' := by
  obtain ⟨i, z, hi, hz, hsz, hbb, hzz⟩ := I.hi
  subst hm
  cases B with
  | none => have := hs.none_len rfl; omega
  | some a =>
    rcases h.2 with ⟨hv, h0⟩ | ⟨g, cap, cur, hv, hbg, hg, hnc, hcm, hcs, htk⟩
    · obtain rfl := List.eq_nil_of_length_eq_zero h0
      subst hv
      obtain ⟨v', w', h1, h2, h3⟩ := Slc.append_full (cp := 0) (n := 0) I ty rfl (Slc.nil (w := w) (A := none) (enc := enc) (sz := sz)) (fun _ => rfl) rfl c hs (by simpa using hpos) hpos hby hml
      have h2' := h2.low hbase
      exact ⟨v', w', h1, h2', ⟨h3.os, h3.tape, h3.output, h3.size, fun k hk _ => h3.block k hk (by simp)⟩, Own.nil _ _ _ _ _, .inr ⟨fun k hk => (h2.lt k hk).2, h3⟩, by obtain ⟨A, c', hv, _⟩ := h2.form; exact ⟨A, _, c', hv, rfl⟩⟩
    · subst hv
      have hlen : (l.flatMap enc).length = l.length * sz := flat_len I.hl l
      have hlen2 : (ys.flatMap enc).length = ys.length * sz := flat_len I.hl ys
      by_cases hroom : l.length + ys.length ≤ cap
      · have hfit : l.length * i.size + (ys.flatMap enc).length ≤ cur.size := by rw [hlen2, hcs, hsz, ← Nat.add_mul]; exact Nat.mul_le_mul_right _ hroom
        have hr := run_append_room (P := P) w t ty e i I.ht hi g l.length cap cur hg a ys.length c (ys.flatMap enc) (by rw [hlen2, hsz]) (hs.olds I.hl a rfl) (flat_ones I.h1 ys) hroom hfit
        rw [hsz] at hr hfit
        have hpre : ∀ W, Own W base e enc sz (.slice (some ⟨g, 0, none⟩) (l.length + ys.length) cap) (l ++ ys) → Own W base e enc sz (.slice (some ⟨g, 0, none⟩) l.length cap) l := by
          intro W hW
          refine ⟨hlen, .inr ?_⟩
          rcases hW.2 with ⟨hv, _⟩ | ⟨g2, cap2, cur2, hv, hb2, hg2, hn2, hc2, hs2, ht2⟩
          · cases hv
          · injection hv with q1 q2 q3
            injection q1 with q1
            injection q1 with q1
            subst q1 q3
            refine ⟨g, cap, cur2, rfl, hb2, hg2, hnc, hc2, hs2, ?_⟩
            have := congrArg (List.take (l.length * sz)) ht2
            rw [List.take_take, Nat.min_eq_left (Nat.mul_le_mul_right _ (by simp)), List.flatMap_append, List.take_left' hlen] at this
            exact this
        have hO : Own (w.setRow g (cur.toList.take (l.length * sz) ++ ys.flatMap enc ++ cur.toList.drop (l.length * sz + (ys.flatMap enc).length)).toArray) base e enc sz (.slice (some ⟨g, 0, none⟩) (l.length + ys.length) cap) (l ++ ys) := by
          refine ⟨by rw [flat_len I.hl], .inr ⟨g, cap, _, by simp, hbg, setRow_heap w g cur _ e _ hg, by simpa using hroom, hcm, ?_, ?_⟩⟩
          · simp only [List.size_toArray, List.length_append, List.length_take, List.length_drop, Array.length_toList]
            omega
          · rw [htk, List.length_append, List.flatMap_append, Nat.add_mul, ← hlen, ← hlen2, ← List.length_append]
            exact List.take_left
        refine ⟨_, _, hr, hO, ⟨rfl, rfl, rfl, by simp, fun k _ hk => setRow_other w g k _ (fun e => hk (by simp [Value.ownBlock, e]))⟩, hpre _ hO, .inl ⟨rfl, hpre⟩, ⟨some ⟨g, 0, none⟩, _, cap, rfl, by simp⟩⟩
      · obtain ⟨v', w', h1, h2, h3⟩ := Slc.append_full (cp := cap) (n := l.length) (A := some ⟨g, 0, none⟩) I ty rfl (show Slc w enc sz (some ⟨g, 0, none⟩) l from Slc.of_own I.hl I.hz h) (fun h => by cases h) rfl c hs (by omega) hpos hby hml
        exact ⟨v', w', h1, h2.low hbase, ⟨h3.os, h3.tape, h3.output, h3.size, fun k hk _ => h3.block k hk (by simp)⟩, h.block (fun k hk => h3.block k (h.lt k hk).1 (by simp)), .inr ⟨fun k hk => (h2.lt k hk).2, h3⟩, by obtain ⟨A, c', hv, _⟩ := h2.form; exact ⟨A, _, c', hv, rfl⟩⟩
end
abbrev SliceOf.v {α : Type} (r : SliceOf α) : Value := .slice r.A r.l.length r.c
/-- All lists of numbers between bounds. -/
def rngM (m : Int) : List Int := (List.range (2 * m + 1).toNat).map (fun (i : Nat) => (i : Int) - m)
def exts : List Int → List Int → List (List Int)
  | [], b => [b]
  | m :: r, b => (rngM m).flatMap (fun n => exts r (b ++ [n]))
/-- A row of rows of numbers, apart from a row that is being written. -/
structure LR (W : World) (base : Nat) (v : Value) (rows : List (SliceOf Int)) (vb : Value) : Prop where
  o : Own W base 39 SliceOf.enc 1 v rows
  r : ∀ r ∈ rows, Own W base 3 ic 1 r.v r.l
  d : ∀ r ∈ rows, ∀ k, vb.ownBlock = some k → r.v.ownBlock ≠ some k
/-- What a call of extend leaves. -/
structure ShQ (W W' : World) (bl base : Nat) (v vb : Value) (lb : List Int) (rows : List (SliceOf Int)) (E : List (List Int)) (v' : Value) (new : List (SliceOf Int)) : Prop where
  B : Boxed W' bl 25 v'
  L : LR W' base v' (rows ++ new) vb
  E : new.map (·.l) = E
  n : ∀ r ∈ new, ∀ k, r.v.ownBlock = some k → W.heap.size ≤ k
  b : Own W' base 3 ic 1 vb lb
  p : v'.ownBlock = v.ownBlock ∨ ∀ k, v'.ownBlock = some k → W.heap.size ≤ k
  os : W'.os = W.os
  tape : W'.tape = W.tape
  out : W'.output = W.output
  size : W.heap.size ≤ W'.heap.size
  f : ∀ k, k < W.heap.size → k ≠ bl → v.ownBlock ≠ some k → vb.ownBlock ≠ some k → W'.heap[k]? = W.heap[k]?
def ShP (W W' : World) (bl base : Nat) (v vb : Value) (lb : List Int) (rows : List (SliceOf Int)) (E : List (List Int)) : Prop := ∃ v' new, ShQ W W' bl base v vb lb rows E v' new
theorem ShQ.refl {W : World} {bl base : Nat} {v vb : Value} {lb : List Int} {rows : List (SliceOf Int)} (hB : Boxed W bl 25 v) (hL : LR W base v rows vb) (hb : Own W base 3 ic 1 vb lb) : ShQ W W bl base v vb lb rows [] v [] :=
  ⟨hB, by simpa using hL, rfl, by simp, hb, .inl rfl, rfl, rfl, rfl, Nat.le_refl _, fun _ _ _ _ _ => rfl⟩
variable {W wr wc W2 W3 : World} {bl base : Nat} {v vb v1 vb1 : Value} {lb : List Int} {rows new1 : List (SliceOf Int)} {E1 E2 : List (List Int)} {n : Int}
/-- begin has grown by a number: what holds then. -/
theorem ShQ.mid (h : ShQ W wr bl base v vb lb rows E1 v1 new1) (hB : Below wr.heap.size wr wc) (hbl : bl < base) (hA : AP 3 ic 1 base wc vb lb [n] vb1 W2) :
    Boxed W2 bl 25 v1 ∧ LR W2 base v1 (rows ++ new1) vb1 ∧ Own W2 base 3 ic 1 vb1 (lb ++ [n]) ∧ ∀ k, k < wr.heap.size → vb.ownBlock ≠ some k → W2.heap[k]? = wr.heap[k]? := by
  have hk : ∀ k, k < wr.heap.size → vb.ownBlock ≠ some k → W2.heap[k]? = wr.heap[k]? := fun k hk hv => (hA.g.block k (Nat.lt_of_lt_of_le hk hB.size) (fun e => hv e.symm)).trans (hB.block k hk)
  have hvb : ∀ k, vb.ownBlock = some k → base ≤ k ∧ k < wr.heap.size := fun k e => ⟨(h.b.lt k e).2, (h.b.lt k e).1⟩
  refine ⟨(hk bl h.B.lt (fun e => by have := (hvb _ e).1; omega)).trans h.B, ⟨h.L.o.block fun k e => hk k (h.L.o.lt k e).1 (fun e' => h.b.ne h.L.o (by decide) k e' e), fun r hr => (h.L.r r hr).block fun k e => hk k ((h.L.r r hr).lt k e).1 (fun e' => h.L.d r hr k e' e), fun r hr k e e' => ?_⟩, hA.o, hk⟩
  rcases hA.way with ⟨q, _⟩ | ⟨q, _⟩
  · exact h.L.d r hr k (q ▸ e) e'
  · have := q k e
    have := ((h.L.r r hr).lt k e').1
    have := hB.size
    omega
theorem ShQ.round (h : ShQ W wr bl base v vb lb rows E1 v1 new1) (hB : Below wr.heap.size wr wc) (hbl : bl < base) (hA : AP 3 ic 1 base wc vb lb [n] vb1 W2) (h2 : ShP W2 W3 bl base v1 vb1 (lb ++ [n]) (rows ++ new1) E2) : ShP W W3 bl base v vb lb rows (E1 ++ E2) := by
  obtain ⟨v2, new2, h2⟩ := h2
  obtain ⟨m1, m2, m3, m4⟩ := h.mid hB hbl hA
  have hvb : ∀ k, vb.ownBlock = some k → base ≤ k ∧ k < wr.heap.size := fun k e => ⟨(h.b.lt k e).2, (h.b.lt k e).1⟩
  have hs2 : wr.heap.size ≤ W2.heap.size := Nat.le_trans hB.size hA.g.size
  have hn2 : ∀ r ∈ new2, ∀ k, r.v.ownBlock = some k → wr.heap.size ≤ k := fun r hr k e => Nat.le_trans hs2 (h2.n r hr k e)
  refine ⟨v2, new1 ++ new2, h2.B, ⟨by rw [← List.append_assoc]; exact h2.L.o, fun r hr => h2.L.r r (by rw [List.append_assoc]; exact hr), fun r hr k e e' => ?_⟩, by rw [List.map_append, h.E, h2.E], fun r hr k e => ?_, ?_, ?_, h2.os.trans (hA.g.os.trans (hB.os.trans h.os)), h2.tape.trans (hA.g.tape.trans (hB.tape.trans h.tape)), h2.out.trans (hA.g.output.trans (hB.output.trans h.out)), Nat.le_trans h.size (Nat.le_trans hs2 h2.size), fun k hk hb hv hvb' => ?_⟩
  · rw [← List.append_assoc] at hr
    rcases List.mem_append.1 hr with hr | hr
    · exact h.L.d r hr k e e'
    · have := hn2 r hr k e'
      have := (hvb k e).2
      omega
  · rcases List.mem_append.1 hr with hr | hr
    · exact h.n r hr k e
    · exact Nat.le_trans h.size (hn2 r hr k e)
  · rcases hA.way with ⟨q1, q2⟩ | ⟨q1, q2⟩
    · exact q2 W3 h2.b
    · refine hA.old.block fun k e => h2.f k (hA.old.lt k e).1 (fun e' => by have := (hvb k e).1; omega) (fun e' => h.b.ne h.L.o (by decide) k e e') (fun e' => ?_)
      have := q1 k e'
      have := (hvb k e).2
      have := hB.size
      omega
  · rcases h2.p with q | q
    · rw [q]; exact h.p
    · exact .inr fun k e => Nat.le_trans h.size (Nat.le_trans hs2 (q k e))
  · have hkr : k < wr.heap.size := Nat.lt_of_lt_of_le hk h.size
    refine ((h2.f k (Nat.lt_of_lt_of_le hkr hs2) hb (fun e => ?_) (fun e => ?_)).trans (m4 k hkr hvb')).trans (h.f k hk hb hv hvb')
    · rcases h.p with q | q
      · exact hv (q ▸ e)
      · have := q k e; omega
    · rcases hA.way with ⟨q, _⟩ | ⟨q, _⟩
      · exact hvb' (q ▸ e)
      · have := q k e
        have := hB.size
        omega
end Go.Proofs.YtjiojpoiocdnmaaGreat
/- A scene in memory. -/
set_option linter.unusedSimpArgs false
set_option linter.unusedVariables false
namespace Go.Proofs.YtjiojpoiocdnmaaGreat
open Go.RowKit
/-- A group: its call sign, its block, the numbers of its tracks, its reports. -/
structure Grp where
  call : ByteArray
  b : Nat
  tA : Option Addr
  tc : Nat
  ts : List Nat
  rA : Option Addr
  rc : Nat
  rs : List Rep
def nums (l : List Nat) : List Int := l.map (fun (n : Nat) => (n : Int))
abbrev Grp.tv (g : Grp) : Value := .slice g.tA g.ts.length g.tc
abbrev Grp.rv (g : Grp) : Value := .slice g.rA g.rs.length g.rc
structure GrpOk (W : World) (g : Grp) : Prop where
  b : W.heap[g.b]? = some (.cells #[g.tv, g.rv] 94 (0, 0))
  t : Own W 0 3 ic 1 g.tv (nums g.ts)
  r : Own W 0 55 Rep.cells 6 g.rv g.rs
structure Scn where
  sA : Option Addr
  sc : Nat
  st : List (SliceOf (SliceOf Sty))
  m : Nat
  G : List Grp
  lost : V4
  bud : V4
  hA : Option Addr
  hc : Nat
  sh : List (SliceOf Int)
abbrev Scn.sv (X : Scn) : Value := .slice X.sA X.st.length X.sc
abbrev Scn.hv (X : Scn) : Value := .slice X.hA X.sh.length X.hc
def Scn.cells (X : Scn) : List Value := [X.sv, .map (some X.m), .int .i64 X.lost.a, .int .i64 X.lost.b, .int .i64 X.lost.c, .int .i64 X.lost.d, .int .i64 X.bud.a, .int .i64 X.bud.b, .int .i64 X.bud.c, .int .i64 X.bud.d, X.hv]
abbrev Scn.v (X : Scn) : Value := .agg #[X.sv, .map (some X.m), .int .i64 X.lost.a, .int .i64 X.lost.b, .int .i64 X.lost.c, .int .i64 X.lost.d, .int .i64 X.bud.a, .int .i64 X.bud.b, .int .i64 X.bud.c, .int .i64 X.bud.d, X.hv]
abbrev encC (s : ByteArray) : Value := .string s
def Scn.grps (X : Scn) : List (ByteArray × Value) := X.G.map (fun g => (g.call, gptr g.b))
structure SceneOk (W : World) (X : Scn) : Prop where
  s0 : Own W 0 135 SliceOf.enc 1 X.sv X.st
  s1 : ∀ r ∈ X.st, Own W 0 95 SliceOf.enc 1 r.v r.l
  s2 : ∀ r ∈ X.st, ∀ q ∈ r.l, Own W 0 113 Sty.cells 4 q.v q.l
  g0 : GMap encC W X.m X.grps
  g1 : ∀ g ∈ X.G, GrpOk W g
  h0 : Own W 0 39 SliceOf.enc 1 X.hv X.sh
  h1 : ∀ r ∈ X.sh, Own W 0 3 ic 1 r.v r.l
/-- What changes rows of Booleans and new blocks alone. -/
def KB (W W' : World) : Prop := W.heap.size ≤ W'.heap.size ∧ ∀ k, k < W.heap.size → (∀ cur fz, W.heap[k]? ≠ some (.cells cur 4 fz)) → W'.heap[k]? = W.heap[k]?
theorem KB.refl (W : World) : KB W W := ⟨Nat.le_refl _, fun _ _ _ => rfl⟩
theorem KB.t {X Y Z : World} (h : KB X Y) (k : KB Y Z) : KB X Z := ⟨Nat.le_trans h.1 k.1, fun i hi hn => by
  have e := h.2 i hi hn
  exact (k.2 i (Nat.lt_of_lt_of_le hi h.1) (fun cur fz => by rw [e]; exact hn cur fz)).trans e⟩
theorem KB.below {W W' : World} (h : Below W.heap.size W W') : KB W W' := ⟨h.size, fun k hk _ => h.block k hk⟩
theorem Own.kb {α : Type} {W W' : World} {base : Nat} {e : TypeId} {enc : α → List Value} {sz : Nat} {v : Value} {l : List α} (h : Own W base e enc sz v l) (hk : KB W W') (he : e ≠ 4) : Own W' base e enc sz v l := by
  rcases h.2 with ⟨hv, h0⟩ | ⟨g, cap, cur, hv, hbb, hg, r⟩
  · exact ⟨h.1, .inl ⟨hv, h0⟩⟩
  · exact ⟨h.1, .inr ⟨g, cap, cur, hv, hbb, (hk.2 g (Array.getElem?_eq_some_iff.1 hg).1 (fun c f e' => by rw [hg] at e'; cases e'; exact he rfl)).trans hg, r⟩⟩
theorem GMap.kb {κ : Type} [DecidableEq κ] {enc : κ → Value} {W W' : World} {b : Nat} {l : List (κ × Value)} (h : GMap enc W b l) (hk : KB W W') : GMap enc W' b l := by
  obtain ⟨es, c, h1, h2⟩ := h
  exact ⟨es, c, (hk.2 b (Array.getElem?_eq_some_iff.1 h1).1 (fun cur fz e => by rw [h1] at e; cases e)).trans h1, h2⟩
theorem GrpOk.kb {W W' : World} {g : Grp} (h : GrpOk W g) (hk : KB W W') : GrpOk W' g :=
  ⟨(hk.2 g.b (Array.getElem?_eq_some_iff.1 h.b).1 (fun c f e => by rw [h.b] at e; cases e)).trans h.b, h.t.kb hk (by decide), h.r.kb hk (by decide)⟩
theorem SceneOk.kb {W W' : World} {X : Scn} (h : SceneOk W X) (hk : KB W W') : SceneOk W' X :=
  ⟨h.s0.kb hk (by decide), fun r hr => (h.s1 r hr).kb hk (by decide), fun r hr q hq => (h.s2 r hr q hq).kb hk (by decide), h.g0.kb hk, fun g hg => (h.g1 g hg).kb hk, h.h0.kb hk (by decide), fun r hr => (h.h1 r hr).kb hk (by decide)⟩
theorem SceneOk.ext {W W' : World} {X : Scn} (h : SceneOk W X) (hb : Below W.heap.size W W') : SceneOk W' X := h.kb (KB.below hb)
theorem GrpOk.ext {W W' : World} {g : Grp} (h : GrpOk W g) (hb : Below W.heap.size W W') : GrpOk W' g := h.kb (KB.below hb)
theorem GrpOk.isGrp {W : World} {g : Grp} (h : GrpOk W g) : isGrp W g.b := ⟨_, h.b⟩
def staysAt (st : List (List (List Sty))) (n k : Nat) : List Sty := ((st[n]?).bind (fun r => r[k]?)).getD []
def Scn.stays (X : Scn) : List (List (List Sty)) := X.st.map (fun r => r.l.map (·.l))
def inV (x : Sty) (vol mi : Int) : Bool := !x.air && decide (x.ix = vol) && decide (x.mi.f ≤ mi) && decide (mi < x.mi.t)
def fliesB (l : List Sty) (vol mi : Int) : Bool := l.any (fun x => inV x vol mi)
def rightB (st : List (List (List Sty))) (ts : List Nat) (pks : List Int) (vol mi : Int) : Bool := (List.zip ts pks).any (fun p => fliesB (staysAt st p.1 p.2.toNat) vol mi)
def V4.inc (x : V4) (k : Nat) : V4 := x.set k (x.get k + 1)
def V4.zero : V4 := ⟨0, 0, 0, 0⟩
def wrongStep (st : List (List (List Sty))) (ts : List Nat) (pks shs : List Int) (v : V4) (r : Rep) : V4 := if rightB st ts pks r.vol (r.mi + shs.getD r.st.toNat 0) then v else v.inc r.st.toNat
def wrongV (st : List (List (List Sty))) (ts : List Nat) (rs : List Rep) (pks shs : List Int) : V4 := rs.foldl (wrongStep st ts pks shs) V4.zero
/-- Picks for the tracks ts. -/
structure Pks (st : List (List (List Sty))) (ts : List Nat) (pks : List Int) : Prop where
  len : pks.length = ts.length
  ok : ∀ (i n : Nat) (k : Int), ts[i]? = some n → pks[i]? = some k → 0 ≤ k ∧ ∃ r : List (List Sty), st[n]? = some r ∧ k < (r.length : Int)
/-- A report that can be counted. -/
structure RepS (m : Nat) (r : Rep) : Prop where
  s0 : 0 ≤ r.st
  s1 : r.st < 4
  s2 : r.st < m
  m0 : 0 ≤ r.mi
  m1 : r.mi ≤ 1439
theorem V4.In.inc {N : Int} {x : V4} (h : x.In N) (k : Nat) : (x.inc k).In (N + 1) := by
  unfold V4.In at *
  match k with
  | 0 => simp only [V4.inc, V4.set, V4.get]; omega
  | 1 => simp only [V4.inc, V4.set, V4.get]; omega
  | 2 => simp only [V4.inc, V4.set, V4.get]; omega
  | _ + 3 => simp only [V4.inc, V4.set, V4.get]; omega
theorem wrong_in (st : List (List (List Sty))) (ts : List Nat) (pks shs : List Int) : ∀ (rs : List Rep) (v : V4) (N : Int), v.In N → (rs.foldl (wrongStep st ts pks shs) v).In (N + rs.length)
  | [], v, N, h => by simpa using h
  | r :: rs, v, N, h => by
    have h1 : (wrongStep st ts pks shs v r).In (N + 1) := by
      unfold wrongStep
      split
      · exact h.mono (by omega)
      · exact h.inc _
    have := wrong_in st ts pks shs rs _ (N + 1) h1
    simp only [List.foldl_cons, List.length_cons]
    exact this.mono (by omega)
theorem wrongV_in (st : List (List (List Sty))) (ts : List Nat) (rs : List Rep) (pks shs : List Int) : (wrongV st ts rs pks shs).In rs.length := by
  have := wrong_in st ts pks shs rs V4.zero 0 (by simp [V4.In, V4.zero])
  simpa [wrongV] using this
end Go.Proofs.YtjiojpoiocdnmaaGreat
/- Does a flight fly? The wrong reports of a group. -/
set_option linter.unusedSimpArgs false
set_option linter.unusedVariables false
namespace Go.Proofs.YtjiojpoiocdnmaaGreat
open Go.RowKit
set_option maxHeartbeats 400000 in
theorem indexSty (g : Nat) (cap1 : Value) (cap2 : Value) (p : Sty → Bool) (A : Option Addr) (c : Nat) (l : List (Sty)) (w : World) (ha : Slc w Sty.cells 4 A l) (hn : l.length ≤ maxLen) (hE : Enters Tryz.prog g)
    (hp : ∀ (x : Sty) (W : World), x ∈ l → Below w.heap.size w W → Calls Tryz.prog g #[x.v, cap1, cap2] W fun e W' => e = .returned (.bool (p x)) ∧ Below W.heap.size W W') :
    Calls Tryz.prog 114 #[.slice A l.length c, .func (.func g) #[] #[cap1, cap2]] w fun e w' => e = .returned (.int .i64 (idxGo p 0 l)) ∧ Below w.heap.size w w' := by
  have HP := Lib.hid hp
  have HE := Lib.hid hE
  clear hp hE
  unfold maxLen at hn
  go_enter Tryz.func114, Tryz.ntmps114
  go_wp2
  go_loopw [8] (fun i wr => ∃ k : Nat, k ≤ l.length ∧ i = .int .i64 k ∧ idxGo p 0 l = idxGo p k (l.drop k) ∧ Below w.heap.size w wr) (fun i _ => l.length - (intOf i).toNat)
  case atStart => exact ⟨0, Nat.zero_le _, rfl, rfl, ext_refl _⟩
  case round =>
    obtain ⟨k, hk, rfl, heq, hB⟩ := hrel
    have HQ := Lib.hid heq
    clear heq
    by_cases hlt : k < l.length
    · obtain ⟨x, b1, o1, hx, rfl, hb1, hc⟩ := (ha.ext hB).at_ hlt
      have HX := Lib.hid hx
      clear hx
      have c0 := hc 0 _ rfl
      have c1 := hc 1 _ rfl
      have c2 := hc 2 _ rfl
      have c3 := hc 3 _ rfl
      simp only [Nat.mul_one, Nat.add_zero] at c0 c1 c2 c3
      clear hc
      have hlt' : (k : Int) < l.length := by omega
      have hE2 := HE.out #[x.v, cap1, cap2] wr
      cases hpx : p x
      · go_wp2_with fail
        refine (HP.out x wr (List.mem_of_getElem? HX.out) hB).mono ?_
        rintro e w1 ⟨rfl, hB1⟩
        clear hE2
        go_wp2_with fail
        go_roundw
        case rel => exact ⟨k + 1, hlt, by go_num, idx_step HX.out hpx HQ.out, ext_trans hB hB1⟩
        case measure => simp [intOf]; omega
      · go_wp2_with fail
        refine (HP.out x wr (List.mem_of_getElem? HX.out) hB).mono ?_
        rintro e w1 ⟨rfl, hB1⟩
        clear hE2
        go_wp2_with fail
        go_ret
        exact ⟨ret_int (idx_hit HX.out hpx HQ.out).symm, ext_trans hB hB1⟩
    · go_wp2_with fail
      go_ret
      exact ⟨ret_int (idx_end (by omega) HQ.out).symm, hB⟩
theorem containsSty (g : Nat) (cap1 : Value) (cap2 : Value) (p : Sty → Bool) (A : Option Addr) (c : Nat) (l : List (Sty)) (w : World) (ha : Slc w Sty.cells 4 A l) (hn : l.length ≤ maxLen) (hE : Enters Tryz.prog g)
    (hp : ∀ (x : Sty) (W : World), x ∈ l → Below w.heap.size w W → Calls Tryz.prog g #[x.v, cap1, cap2] W fun e W' => e = .returned (.bool (p x)) ∧ Below W.heap.size W W') :
    Calls Tryz.prog 82 #[.slice A l.length c, .func (.func g) #[] #[cap1, cap2]] w fun e w' => e = .returned (.bool (l.any p)) ∧ Below w.heap.size w w' := by
  have HP := Lib.hid hp
  have HE := Lib.hid hE
  clear hp hE
  go_enter Tryz.func82, Tryz.ntmps82
  go_wp2_with fail
  refine (indexSty g cap1 cap2 p A c l _ ha hn HE.out HP.out).mono ?_
  rintro e w1 ⟨rfl, hB1⟩
  go_wp2_with fail
  go_ret
  exact ⟨ret_bool (idx_any p l), hB1⟩

theorem entersFl : Enters Tryz.prog 83 := fun args w => by kernel_rfl
set_option maxRecDepth 100000 in
theorem fl1_any (x : Sty) (vol mi : Int) (b1 b2 : Nat) (w : World) (h1 : Blk w b1 [.int .i64 vol]) (h2 : Blk w b2 [.int .i64 mi]) :
    Calls Tryz.prog 83 #[x.v, .pointer (some ⟨b1, 0, none⟩), .pointer (some ⟨b2, 0, none⟩)] w fun e w' => e = .returned (.bool (inV x vol mi)) ∧ Below w.heap.size w w' := by
  obtain ⟨R, hR⟩ : ∃ R, inV x vol mi = R := ⟨_, rfl⟩
  rw [hR]
  have HR := Lib.hid (show (!x.air && decide (x.ix = vol) && decide (x.mi.f ≤ mi) && decide (mi < x.mi.t)) = R from hR)
  have g1 := (h1.alloc (.cells #[.bool x.air, .int .i64 x.ix, .int .i64 x.mi.f, .int .i64 x.mi.t] 113)).c 0 _ rfl
  have g2 := (h2.alloc (.cells #[.bool x.air, .int .i64 x.ix, .int .i64 x.mi.f, .int .i64 x.mi.t] 113)).c 0 _ rfl
  have l1 := h1.lt
  have l2 := h2.lt
  clear hR h1 h2
  go_enter Tryz.func83, Tryz.ntmps83
  cases ha : x.air
  rotate_left
  · have HF : Hid (R = false) := by unfold Hid; rw [← HR.out, ha]; rfl
    rw [ha] at g1 g2
    clear HR
    go_wp2_with fail
    all_goals
      go_ret
      rw [HF.out]
      exact ⟨rfl, ext_alloc (ext_refl _) _⟩
  rw [ha] at g1 g2
  have HR' : Hid ((decide (x.ix = vol) && decide (x.mi.f ≤ mi) && decide (mi < x.mi.t)) = R) := by unfold Hid; rw [← HR.out, ha]; rfl
  clear HR
  by_cases e1 : x.ix = vol
  rotate_left
  · have HF : Hid (R = false) := by unfold Hid; rw [← HR'.out, decide_eq_false e1]; rfl
    have d1 : (x.ix == vol) = false := by simpa using e1
    clear HR'
    go_wp2_with fail
    all_goals
      go_ret
      rw [HF.out]
      exact ⟨rfl, ext_alloc (ext_refl _) _⟩
  have HR2 : Hid ((decide (x.mi.f ≤ mi) && decide (mi < x.mi.t)) = R) := by unfold Hid; rw [← HR'.out, decide_eq_true e1]; rfl
  subst e1
  clear HR'
  by_cases e2 : x.mi.f ≤ mi
  rotate_left
  · have HF : Hid (R = false) := by unfold Hid; rw [← HR2.out, decide_eq_false e2]; rfl
    clear HR2
    go_wp2_with fail
    all_goals
      go_ret
      rw [HF.out]
      exact ⟨rfl, ext_alloc (ext_refl _) _⟩
  have HR3 : Hid (decide (mi < x.mi.t) = R) := by unfold Hid; rw [← HR2.out, decide_eq_true e2]; rfl
  clear HR2
  by_cases e3 : mi < x.mi.t
  · have HF : Hid (R = true) := by unfold Hid; rw [← HR3.out, decide_eq_true e3]
    clear HR3
    go_wp2_with fail
    all_goals
      go_ret
      rw [HF.out]
      exact ⟨rfl, ext_alloc (ext_refl _) _⟩
  · have HF : Hid (R = false) := by unfold Hid; rw [← HR3.out, decide_eq_false e3]
    clear HR3
    go_wp2_with fail
    all_goals
      go_ret
      rw [HF.out]
      exact ⟨rfl, ext_alloc (ext_refl _) _⟩
theorem flies_any (A : Option Addr) (c : Nat) (l : List Sty) (vol mi : Int) (w : World) (ha : Slc w Sty.cells 4 A l) (hn : l.length ≤ maxLen) : Calls Tryz.prog 53 #[.slice A l.length c, .int .i64 vol, .int .i64 mi] w (RetB w (fliesB l vol mi)) := by
  have E0 := Lib.hid (ext_alloc (ext_alloc (ext_refl w) (.cells #[.int .i64 vol] 3)) (.cells #[.int .i64 mi] 3))
  have B1 := Lib.hid ((Blk.newH w [.int .i64 vol] 3 w.heap.size rfl).alloc (.cells #[.int .i64 mi] 3))
  have B2 := Lib.hid (Blk.newH (w.alloc (.cells #[.int .i64 vol] 3)) [.int .i64 mi] 3 (w.heap.size + 1) (by simp))
  have HA := Lib.hid ha
  clear ha
  go_enter Tryz.func53, Tryz.ntmps53
  go_wp2_with fail
  refine (containsSty 83 (.pointer (some ⟨w.heap.size, 0, none⟩)) (.pointer (some ⟨w.heap.size + 1, 0, none⟩)) (fun x => inV x vol mi) A c l _ (HA.out.below (Nat.le_refl _) E0.out) hn entersFl (fun x W _ hW => fl1_any x vol mi w.heap.size (w.heap.size + 1) W (B1.out.ext hW) (B2.out.ext hW))).mono ?_
  rintro e w1 ⟨rfl, B⟩
  go_wp2_with fail
  go_ret
  exact ⟨rfl, ext_trans E0.out B⟩
end Go.Proofs.YtjiojpoiocdnmaaGreat
