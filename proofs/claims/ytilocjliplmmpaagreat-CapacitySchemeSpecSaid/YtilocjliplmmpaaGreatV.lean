/- cuts: the iterator. -/
import Derived.Test.YtilocjliplmmpaaGreatU
import Derived.Test.YtilocjliplmmpaaGreatFL
import Derived.Test.YtilocjliplmmpaaGreatPF
import Derived.BigFrameIn
set_option linter.unusedSimpArgs false
set_option linter.unusedVariables false
namespace Go.Proofs.YtilocjliplmmpaaGreat
open Go.RowKit Go.Shelf
attribute [local go_sem] Oper.semAt_some
/-- All that lay in w0 lies unchanged in W. -/
def Top (w0 W : World) : Prop := w0.heap.size ≤ W.heap.size ∧ ∀ k, k < w0.heap.size → W.heap[k]? = w0.heap[k]?
theorem Slc.top {α : Type} {w0 W : World} {enc : α → List Value} {sz : Nat} {A : Option Addr} {l : List α} (h : Slc w0 enc sz A l) (hT : Top w0 W) : Slc W enc sz A l := fun i x hx => by
  obtain ⟨b, o, e, hlt, hc⟩ := h i x hx
  exact ⟨b, o, e, Nat.lt_of_lt_of_le hlt hT.1, fun j v hj => (World.cell?_of_block (w := w0) (a := ⟨b, o + i * sz + j, none⟩) (hT.2 b hlt)).trans (hc j v hj)⟩
theorem TOk.top {w0 W : World} {A : Option Addr} {l : List Nd} (h : TOk w0 A l) (hT : Top w0 W) : TOk W A l := ⟨h.nd.top hT, fun n hn => (h.ct n hn).top hT, h.len, h.cl⟩
theorem Top.of {w0 W : World} (h : Below w0.heap.size w0 W) : Top w0 W := ⟨h.size, h.block⟩
theorem Top.kx {w0 W W' : World} {B : Nat} {ex : Nat → Prop} (h : Top w0 W) (hk : Kx B ex W W') (hs : W.heap.size ≤ W'.heap.size) (hB : w0.heap.size ≤ B) (hx : ∀ k, k < w0.heap.size → ¬ ex k) : Top w0 W' :=
  ⟨Nat.le_trans h.1 hs, fun k hk' => (hk k (by omega) (hx k hk')).trans (h.2 k hk')⟩
/-- A volume's number and what is taken from it. -/
abbrev VC (N : Nat) := { p : Int × Int // 0 ≤ p.1 ∧ p.1 < N ∧ 0 ≤ p.2 ∧ p.2 ≤ 135168 }
def encV {N : Nat} (p : VC N) : Array Value := #[.int .i64 p.1.1, .int .i64 p.1.2]
structure CCap (W : World) (B : Nat) (ex : Nat → Prop) (bv bt bf bm : Nat) (vA : Option Addr) (vc : Nat) (vs : List Int) (tA : Option Addr) (tc : Nat) (tree : List Nd) (leaf m : Int) : Prop where
  vB : bv < B
  tB : bt < B
  fB : bf < B
  mB : bm < B
  vx : ¬ ex bv
  tx : ¬ ex bt
  fx : ¬ ex bf
  mx : ¬ ex bm
  v : W.cell? ⟨bv, 0, none⟩ = some (.slice vA vs.length vc)
  t : W.cell? ⟨bt, 0, none⟩ = some (.slice tA tree.length tc)
  f : W.cell? ⟨bf, 0, none⟩ = some (.int .i64 leaf)
  m : W.cell? ⟨bm, 0, none⟩ = some (.int .i64 m)
  low : ∃ w0 : World, w0.heap.size ≤ B ∧ (∀ k, k < w0.heap.size → ¬ ex k) ∧ Slc w0 ic 1 vA vs ∧ TOk w0 tA tree ∧ Top w0 W
theorem CCap.keep {W W' : World} {B : Nat} {ex : Nat → Prop} {bv bt bf bm : Nat} {vA tA : Option Addr} {vc tc : Nat} {vs : List Int} {tree : List Nd} {leaf m : Int} (h : CCap W B ex bv bt bf bm vA vc vs tA tc tree leaf m) (hk : Kx B ex W W') (hs : W.heap.size ≤ W'.heap.size) : CCap W' B ex bv bt bf bm vA vc vs tA tc tree leaf m :=
  ⟨h.vB, h.tB, h.fB, h.mB, h.vx, h.tx, h.fx, h.mx, (hk.cell h.vB h.vx).trans h.v, (hk.cell h.tB h.tx).trans h.t, (hk.cell h.fB h.fx).trans h.f, (hk.cell h.mB h.mx).trans h.m,
    let ⟨w0, h1, h2, h3, h4, h5⟩ := h.low; ⟨w0, h1, h2, h3, h4, h5.kx hk hs h1 h2⟩⟩
theorem less_at {A : Option Addr} {n c : Nat} {l : List Nd} {leaf : Int} {a : Bool} {ix m : Int} {w : World} (r e : Int) (hr : lessR l leaf a ix m = (r, e)) (hn : n = l.length) (ha : TOk w A l) : Calls Tryz.prog 34 #[.slice A n c, .int .i64 leaf, .bool a, .int .i64 ix, .int .i64 m] w (RetI w (r, e)) := by
  subst hn; rw [← hr]; exact less_any A c l leaf a ix m w ha
theorem lessR_ok {l : List Nd} {leaf : Int} {a : Bool} {ix m : Int} (hv : vld l = true) (hl : leafB l leaf = true) : lessR l leaf a ix m = (lessN l leaf a ix m, 0) := by simp [lessR, hv, hl]
theorem take_snoc {α : Type} {l : List α} {q : Nat} {x : α} (h : l[q]? = some x) : l.take (q + 1) = l.take q ++ [x] := by rw [List.take_add_one, h]; rfl
set_option maxRecDepth 100000 in
set_option maxHeartbeats 4000000 in
theorem cuts1_in (n : Nat) (hn : 1 ≤ n) (l : Nat) (B : Nat) (ex : Nat → Prop) (bv bt bf bm : Nat) (vA : Option Addr) (vc : Nat) (vs : List Int) (tA : Option Addr) (tc : Nat) (tree : List Nd) (leaf m : Int) (N : Nat) (es : List (VC N))
    (hes : ∀ (i : Nat) (x : Int), vs[i]? = some x → ∃ e, es[i]? = some e ∧ e.1 = (x, lessN tree leaf false x m)) (hlen : es.length = vs.length) (hls : vs.length ≤ maxLen) (hv : vld tree = true) (hlf : leafB tree leaf = true)
    (J Jx : List (VC N) → World → Prop) (W : World) (hBW : B ≤ W.heap.size) (hJ : AbidesFrom W.heap.size J)
    (hY : ∀ pre x W1, J pre W1 → pre.length < es.length → YieldAt Fence.wide (n - 1) Tryz.prog l (encV x) W1 fun e W' =>
      (e = .returned (.bool true) ∧ J (pre ++ [x]) W' ∧ (Kx B ex W1 W' ∧ W1.heap.size ≤ W'.heap.size)) ∨ (e = .returned (.bool false) ∧ Jx (pre ++ [x]) W'))
    (hC : CCap W B ex bv bt bf bm vA vc vs tA tc tree leaf m) (hJ0 : J [] W) :
    CallsIn Fence.wide n Tryz.prog 74 #[.func (.yield l) #[] #[], .pointer (some ⟨bv, 0, none⟩), .pointer (some ⟨bt, 0, none⟩), .pointer (some ⟨bf, 0, none⟩), .pointer (some ⟨bm, 0, none⟩)] W fun e W' => (∃ v, e = .returned v) ∧
      ((∃ ys, ys = es ∧ J ys W') ∨ (∃ pre, pre <+: es ∧ Jx pre W')) := by
  have HY := Lib.hid hY
  have HJ := Lib.hid hJ
  have HE := Lib.hid hes
  have HC := Lib.hid hC
  have HL := Lib.hid hlen
  have cl := hC.v
  unfold maxLen at hls
  clear hY hJ hes hC hlen
  refine callsIn_of_wp Tryz.func74 rfl trivial ?_ rfl
  simp only [Tryz.ntmps74, List.size_toArray, List.length_cons, List.length_nil, Nat.reduceAdd, Nat.reduceSub, Array.replicate_succ, Array.replicate_zero, List.push_toArray, List.append_toArray, List.nil_append, List.cons_append]
  gi_wp2
  gi_loopw [12] (fun i wr => ∃ q : Nat, q ≤ vs.length ∧ i = .int .i64 q ∧ J (es.take q) wr ∧ Hid (Kx B ex W wr) ∧ W.heap.size ≤ wr.heap.size) (fun i _ => vs.length - (intOf i).toNat)
  case atStart => exact ⟨0, Nat.zero_le _, rfl, by simpa using hJ0, Kx.refl _, Nat.le_refl _⟩
  case round =>
    obtain ⟨q, hq, rfl, hJs, HK, hsz⟩ := hrel
    by_cases hlt : q < vs.length
    · have hc := HC.out.keep HK.out hsz
      obtain ⟨w0, h01, h02, h03, h04, h05⟩ := hc.low
      obtain ⟨x, b1, o1, hx, rfl, hb1, hcx⟩ := (h03.top h05).at_ hlt
      have c0 := hcx 0 _ rfl
      simp only [Nat.mul_one, Nat.add_zero] at c0
      have kt := hc.t
      have kf := hc.f
      have km := hc.m
      have HTR := Lib.hid (h04.top h05)
      have hlt' : (q : Int) < vs.length := by omega
      have HX := Lib.hid hx
      clear hx hcx hc cl h03 h04 h05 h01 h02
      obtain ⟨⟨⟨ev, en⟩, hsm⟩, hei, hev⟩ := HE.out q x HX.out
      injection hev with e1 e2
      subst e1
      have HEI := Lib.hid hei
      have HEN := Lib.hid e2
      have HLS := Lib.hid (show lessR tree leaf false ev m = (en, 0) by rw [lessR_ok hv hlf]; exact congrArg (fun z => (z, (0 : Int))) e2.symm)
      clear hei e2
      gi_wp2_with fail
      refine ⟨trivial, (callsIn_wide.2 (less_at en 0 HLS.out rfl HTR.out)).mono ?_⟩
      rintro e w1 ⟨rfl, B1⟩
      have G1 : wr.grownBy w1 none := grown_below B1
      have hs1 : wr.heap.size ≤ w1.heap.size := B1.size
      have hJ1 : J (es.take q) w1 := HJ.out _ _ _ none hJs G1 (by simp)
      have HK1 : Hid (Kx B ex W w1) := HK.out.t (Kx.below B1 (by omega))
      clear B1 G1 kt kf km c0
      obtain ⟨fn, tmps, assign, body, hy, hR⟩ := HY.out (es.take q) ⟨(ev, en), hsm⟩ w1 hJ1 (by have := HL.out; rw [List.length_take]; omega)
      simp only [encV] at hy
      gi_wp2_with fail
      refine hR.mono ?_
      rintro e W3 (⟨rfl, hJ3, hk3, hs3⟩ | ⟨rfl, hJx3⟩)
      · clear hy hR
        gi_wp2_with fail
        go_roundw
        case rel => exact ⟨q + 1, hlt, by go_num, by rw [take_snoc HEI.out]; exact hJ3, HK1.out.t hk3, by omega⟩
        case measure => simp [intOf]; omega
      · clear hy hR
        gi_wp2_with fail
        refine bodyPost_ret (results_none rfl _ _ _) rfl ?_
        exact ⟨⟨_, rfl⟩, .inr ⟨es.take q ++ [⟨(ev, en), hsm⟩], by rw [← take_snoc HEI.out]; exact List.take_prefix _ _, hJx3⟩⟩
    · gi_wp2
      go_end0
      exact ⟨⟨_, rfl⟩, .inl ⟨es.take q, List.take_of_length_le (by have := HL.out; omega), hJs⟩⟩
theorem cuts_stops (n : Nat) (hn : 1 ≤ n) (B : Nat) (ex : Nat → Prop) (bv bt bf bm : Nat) (vA : Option Addr) (vc : Nat) (vs : List Int) (tA : Option Addr) (tc : Nat) (tree : List Nd) (leaf m : Int) (N : Nat) (es : List (VC N))
    (hes : ∀ (i : Nat) (x : Int), vs[i]? = some x → ∃ e, es[i]? = some e ∧ e.1 = (x, lessN tree leaf false x m)) (hlen : es.length = vs.length) (hls : vs.length ≤ maxLen) (hv : vld tree = true) (hlf : leafB tree leaf = true) (w : World) (hB : B ≤ w.heap.size) (hC : CCap w B ex bv bt bf bm vA vc vs tA tc tree leaf m) :
    SeqStopsK Fence.wide n Tryz.prog 74 #[.pointer (some ⟨bv, 0, none⟩), .pointer (some ⟨bt, 0, none⟩), .pointer (some ⟨bf, 0, none⟩), .pointer (some ⟨bm, 0, none⟩)] encV (KpE B ex) (fun ys => ys = es) (fun pre => pre <+: es) es.length w :=
  fun l J Jx W hW hJ _ hY hJ0 => cuts1_in n hn l B ex bv bt bf bm vA vc vs tA tc tree leaf m N es hes hlen hls hv hlf J Jx W (Nat.le_trans hB hW.size) hJ hY (hC.keep (Kx.below hW hB) hW.size) hJ0
theorem cuts_any (tA : Option Addr) (tn tc : Nat) (leaf : Int) (vA : Option Addr) (vn vc : Nat) (m : Int) (w : World) :
    Calls Tryz.prog 35 #[.slice tA tn tc, .int .i64 leaf, .slice vA vn vc, .int .i64 m] w fun e w' => e = .returned (.func (.func 74) #[] #[.pointer (some ⟨w.heap.size + 1 + 1, 0, none⟩), .pointer (some ⟨w.heap.size, 0, none⟩), .pointer (some ⟨w.heap.size + 1, 0, none⟩), .pointer (some ⟨w.heap.size + 1 + 1 + 1, 0, none⟩)]) ∧
      (((w.alloc (.cells #[.slice tA tn tc] 44)).alloc (.cells #[.int .i64 leaf] 3)).alloc (.cells #[.slice vA vn vc] 32)).alloc (.cells #[.int .i64 m] 3) = w' := by
  go_enter Tryz.func35, Tryz.ntmps35
  go_wp2
  go_ret
  exact ⟨rfl, rfl⟩
end Go.Proofs.YtilocjliplmmpaaGreat
