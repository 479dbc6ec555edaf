import Derived.Test.YtlnfjdbdgcafbaaE
import Derived.Test.YtlnfjdbdgcafbaaRf
import Derived.BigFrameIn
namespace Go.Proofs.Ytlnfjdbdgcafbaa
open Go.RowKit Go.Shelf
attribute [local go_sem] Oper.semAt_some

/-- A bound that is small enough to be added up. -/
def Bd.small (b : Bd) : Prop := 0 ≤ b.lo ∧ b.lo ≤ 10000 ∧ 0 ≤ b.hi ∧ b.hi ≤ 10000
abbrev WB := { b : Bd // b.small }
def raw (l : List WB) : List Bd := l.map (fun b => b.1)
theorem raw_len (l : List WB) : (raw l).length = l.length := by simp [raw]
theorem raw_snoc (l : List WB) (x : WB) : raw (l ++ [x]) = raw l ++ [x.1] := by simp [raw]
def encB (b : WB) : Array Value := #[b.1.v]

/-- What the iterator reads: its captured boxes, the legs. -/
structure Caps (W : World) (B : Nat) (ex : Nat → Prop) (bl bk bh : Nat) (A : Option Addr) (c : Nat) (ls : List Lg) (k : Kd) (hold : Int) : Prop where
  lB : bl < B
  kB : bk < B
  hB : bh < B
  lx : ¬ ex bl
  kx : ¬ ex bk
  hx : ¬ ex bh
  l : W.cell? ⟨bl, 0, none⟩ = some (.slice A ls.length c)
  k : KdAt W bk k
  h : W.cell? ⟨bh, 0, none⟩ = some (.int .i64 hold)
  ls : Slc W Lg.cells 4 A ls
  lsB : ∀ b o s, A = some ⟨b, o, s⟩ → b < B ∧ ¬ ex b
theorem Kx.cell {B : Nat} {ex : Nat → Prop} {W W' : World} (h : Kx B ex W W') {b o : Nat} (hb : b < B) (hx : ¬ ex b) : W'.cell? ⟨b, o, none⟩ = W.cell? ⟨b, o, none⟩ := World.cell?_of_block (w := W) (a := ⟨b, o, none⟩) (h b hb hx)
theorem Kx.slc {α : Type} {B : Nat} {ex : Nat → Prop} {W W' : World} (h : Kx B ex W W') (hs : W.heap.size ≤ W'.heap.size) {enc : α → List Value} {sz : Nat} {A : Option Addr} {l : List α} (hl : Slc W enc sz A l) (hA : ∀ b o s, A = some ⟨b, o, s⟩ → b < B ∧ ¬ ex b) : Slc W' enc sz A l := fun i x hx => by
  obtain ⟨b, o, e, hlt, hc⟩ := hl i x hx
  obtain ⟨h1, h2⟩ := hA b o none e
  exact ⟨b, o, e, Nat.lt_of_lt_of_le hlt hs, fun j v hj => (h.cell h1 h2).trans (hc j v hj)⟩
theorem Caps.keep {W W' : World} {B : Nat} {ex : Nat → Prop} {bl bk bh : Nat} {A : Option Addr} {c : Nat} {ls : List Lg} {k : Kd} {hold : Int} (h : Caps W B ex bl bk bh A c ls k hold) (hk : Kx B ex W W') (hs : W.heap.size ≤ W'.heap.size) : Caps W' B ex bl bk bh A c ls k hold :=
  ⟨h.lB, h.kB, h.hB, h.lx, h.kx, h.hx, (hk.cell h.lB h.lx).trans h.l, fun j v hv => (hk.cell h.kB h.kx).trans (h.k j v hv), (hk.cell h.hB h.hx).trans h.h, hk.slc hs h.ls h.lsB, h.lsB⟩

theorem bnd_facts' (k : Kd) (n : Int) (h1 : 1 ≤ n) (h2 : n ≤ 4096) (R : Rng k) : 0 ≤ (bnd k n).lo ∧ (bnd k n).lo ≤ 4096 ∧ 0 ≤ (bnd k n).hi ∧ (bnd k n).hi ≤ 4096 := by
  obtain ⟨_, _, a3, a4⟩ := mins_char (n := n) (s := k.fast) h1 (by have := R.s0; have := R.f0; omega)
  obtain ⟨_, _, b3, b4⟩ := mins_char (n := n) (s := k.slow) h1 R.s0
  show 0 ≤ mins n k.fast ∧ mins n k.fast ≤ 4096 ∧ 0 ≤ mins n k.slow ∧ mins n k.slow ≤ 4096
  omega
theorem take_snoc {α : Type} {l : List α} {q : Nat} {x : α} (h : l[q]? = some x) : l.take (q + 1) = l.take q ++ [x] := by rw [List.take_add_one, h]; rfl
theorem eachB_last {k : Kd} {n : Nat} {hold : Int} {i : Nat} {x : Lg} (h : i + 1 = n) : eachB k n hold i x = ⟨(bnd k x.len).lo + hold, (bnd k x.len).hi + hold⟩ := by simp [eachB, h]
theorem eachB_other {k : Kd} {n : Nat} {hold : Int} {i : Nat} {x : Lg} (h : ¬ i + 1 = n) : eachB k n hold i x = bnd k x.len := by simp [eachB, h]
set_option maxRecDepth 100000 in
set_option maxHeartbeats 1600000 in
theorem each1_in (n : Nat) (hn : 1 ≤ n) (l : Nat) (B : Nat) (ex : Nat → Prop) (bl bk bh : Nat) (A : Option Addr) (c : Nat) (ls : List Lg) (k : Kd) (hold : Int) (es : List WB) (hes : ∀ (i : Nat) (x : Lg), ls[i]? = some x → ∃ e, es[i]? = some e ∧ e.1 = eachB k ls.length hold i x) (hlen : es.length = ls.length) (hls : ls.length ≤ 8)
    (R : Rng k) (h0 : 0 ≤ hold) (h10 : hold ≤ 10) (hL : ∀ (i : Nat) (x : Lg), ls[i]? = some x → 1 ≤ x.len ∧ x.len ≤ 4096)
    (J Jx : List WB → World → Prop) (W : World) (hBW : B ≤ W.heap.size) (hJ : AbidesFrom W.heap.size J)
    (hY : ∀ pre x W1, J pre W1 → pre.length < es.length → YieldAt Fence.wide (n - 1) Try.prog l (encB x) W1 fun e W' =>
      (e = .returned (.bool true) ∧ J (pre ++ [x]) W' ∧ (Kx B ex W1 W' ∧ W1.heap.size ≤ W'.heap.size)) ∨ (e = .returned (.bool false) ∧ Jx (pre ++ [x]) W'))
    (hC : Caps W B ex bl bk bh A c ls k hold) (hJ0 : J [] W) :
    CallsIn Fence.wide n Try.prog 25 #[.func (.yield l) #[] #[], .pointer (some ⟨bl, 0, none⟩), .pointer (some ⟨bk, 0, none⟩), .pointer (some ⟨bh, 0, none⟩)] W fun e W' => (∃ v, e = .returned v) ∧
      ((∃ ys, ys = es ∧ J ys W') ∨ (∃ pre, pre <+: es ∧ Jx pre W')) := by
  have HY := Lib.hid hY
  have HJ := Lib.hid hJ
  have HE := Lib.hid hes
  have HL := Lib.hid hL
  have HC := Lib.hid hC
  have cl := hC.l
  clear hY hJ hes hL hC
  refine callsIn_of_wp Try.func25 rfl trivial ?_ rfl
  simp only [Try.ntmps25, List.size_toArray, List.length_cons, List.length_nil, Nat.reduceAdd, Nat.reduceSub, Array.replicate_succ, Array.replicate_zero, List.push_toArray, List.append_toArray, List.nil_append, List.cons_append]
  gi_wp2
  gi_loopw [10] (fun i wr => ∃ q : Nat, q ≤ ls.length ∧ i = .int .i64 q ∧ J (es.take q) wr ∧ Hid (Kx B ex W wr) ∧ W.heap.size ≤ wr.heap.size) (fun i _ => ls.length - (intOf i).toNat)
  case atStart => exact ⟨0, Nat.zero_le _, rfl, by simpa using hJ0, Kx.refl _, Nat.le_refl _⟩
  case round =>
    obtain ⟨q, hq, rfl, hJs, HK, hsz⟩ := hrel
    by_cases hlt : q < ls.length
    · have hc := HC.out.keep HK.out hsz
      obtain ⟨x, b1, o1, hx, rfl, hb1, hcx⟩ := hc.ls.at_ hlt
      have c0 := hcx 0 _ rfl
      have c1 := hcx 1 _ rfl
      have c2 := hcx 2 _ rfl
      have c3 := hcx 3 _ rfl
      simp only [Nat.add_zero] at c0
      obtain ⟨k0, k1, k2, k3, k4, k5⟩ := hc.k.all
      have kl := hc.l
      have kh := hc.h
      have m1 := (HL.out q x hx).1
      have m2 := (HL.out q x hx).2
      have hlt' : (q : Int) < ls.length := by omega
      have sl : bl < wr.heap.size := by have := hc.lB; omega
      have sk : bk < wr.heap.size := by have := hc.kB; omega
      have sh : bh < wr.heap.size := by have := hc.hB; omega
      have HX := Lib.hid hx
      clear hx hcx hc cl
      obtain ⟨⟨⟨elo, ehi⟩, hsm⟩, hei, hev⟩ := HE.out q x HX.out
      have HEI := Lib.hid hei
      clear hei
      gi_wp2_with fail
      refine ⟨trivial, (callsIn_wide.2 (kbound_any k x.len _ m1 m2 R)).mono ?_⟩
      rintro e w1 ⟨rfl, B1⟩
      have G1 : wr.grownBy w1 none := grown_below (ext_trans (ext_alloc (ext_refl wr) _) B1)
      have kl1 := (B1.cell (p := ⟨bl, 0, none⟩) (by simp; omega)).trans (show _ = some (Value.slice (some ⟨b1, o1, none⟩) ls.length c) by rw [World.cell?_alloc_old _ _ _ (by simp; omega)]; exact kl)
      have kh1 := (B1.cell (p := ⟨bh, 0, none⟩) (by simp; omega)).trans (show _ = some (Value.int .i64 hold) by rw [World.cell?_alloc_old _ _ _ (by simp; omega)]; exact kh)
      have hs1 : wr.heap.size ≤ w1.heap.size := G1.size
      have sl1 : bl < w1.heap.size := by omega
      have sh1 : bh < w1.heap.size := by omega
      have hJ1 : J (es.take q) w1 := HJ.out _ _ _ none hJs G1 (by simp)
      have hb := bnd_facts' k x.len m1 m2 R
      obtain ⟨q0, q1, q2, q3⟩ := hb
      by_cases hlast : q + 1 = ls.length
      · have hev' : (⟨elo, ehi⟩ : Bd) = ⟨(bnd k x.len).lo + hold, (bnd k x.len).hi + hold⟩ := by rw [← eachB_last hlast]; exact hev
        injection hev' with e1 e2
        subst e1 e2
        have ht : ((q : Int) == (ls.length : Int) - 1) = true := by simp; omega
        clear hlast hev k0 k1 k2 k3 k4 k5 c0 c1 c2 c3 kl kh
        obtain ⟨fn, tmps, assign, body, hy, hR⟩ := HY.out (es.take q) ⟨⟨(bnd k x.len).lo + hold, (bnd k x.len).hi + hold⟩, hsm⟩ (w1.alloc (.cells #[.int .i64 ((bnd k x.len).lo + hold), .int .i64 ((bnd k x.len).hi + hold)] 28)) (HJ.out _ _ _ none hJ1 (grown_below (ext_alloc (ext_refl _) _)) (by simp)) (by simp; omega)
        simp only [encB] at hy
        gi_wp2_with fail
        refine hR.mono ?_
        rintro e W3 (⟨rfl, hJ3, hk3, hs3⟩ | ⟨rfl, hJx3⟩)
        · clear hy hR
          gi_wp2_with fail
          go_roundw
          case rel => exact ⟨q + 1, hlt, by go_num, by rw [take_snoc HEI.out]; exact hJ3, (HK.out.t (Kx.grown G1 (by omega) (by simp))).t ((Kx.below (ext_alloc (ext_refl w1) _) (by omega)).t hk3), by have := hs3; simp at this; omega⟩
          case measure => simp [intOf]; omega
        · clear hy hR
          gi_wp2_with fail
          refine bodyPost_ret (results_none rfl _ _ _) rfl ?_
          exact ⟨⟨_, rfl⟩, .inr ⟨es.take q ++ [⟨⟨(bnd k x.len).lo + hold, (bnd k x.len).hi + hold⟩, hsm⟩], by rw [← take_snoc HEI.out]; exact List.take_prefix _ _, hJx3⟩⟩
      · have hev' : (⟨elo, ehi⟩ : Bd) = ⟨(bnd k x.len).lo, (bnd k x.len).hi⟩ := by rw [show (⟨(bnd k x.len).lo, (bnd k x.len).hi⟩ : Bd) = bnd k x.len from rfl, ← eachB_other hlast]; exact hev
        injection hev' with e1 e2
        subst e1 e2
        have ht : ((q : Int) == (ls.length : Int) - 1) = false := by simp; omega
        clear hlast hev k0 k1 k2 k3 k4 k5 c0 c1 c2 c3 kl kh
        obtain ⟨fn, tmps, assign, body, hy, hR⟩ := HY.out (es.take q) ⟨⟨(bnd k x.len).lo, (bnd k x.len).hi⟩, hsm⟩ (w1.alloc (.cells #[.int .i64 ((bnd k x.len).lo), .int .i64 ((bnd k x.len).hi)] 28)) (HJ.out _ _ _ none hJ1 (grown_below (ext_alloc (ext_refl _) _)) (by simp)) (by simp; omega)
        simp only [encB] at hy
        gi_wp2_with fail
        refine hR.mono ?_
        rintro e W3 (⟨rfl, hJ3, hk3, hs3⟩ | ⟨rfl, hJx3⟩)
        · clear hy hR
          gi_wp2_with fail
          go_roundw
          case rel => exact ⟨q + 1, hlt, by go_num, by rw [take_snoc HEI.out]; exact hJ3, (HK.out.t (Kx.grown G1 (by omega) (by simp))).t ((Kx.below (ext_alloc (ext_refl w1) _) (by omega)).t hk3), by have := hs3; simp at this; omega⟩
          case measure => simp [intOf]; omega
        · clear hy hR
          gi_wp2_with fail
          refine bodyPost_ret (results_none rfl _ _ _) rfl ?_
          exact ⟨⟨_, rfl⟩, .inr ⟨es.take q ++ [⟨⟨(bnd k x.len).lo, (bnd k x.len).hi⟩, hsm⟩], by rw [← take_snoc HEI.out]; exact List.take_prefix _ _, hJx3⟩⟩
    · gi_wp2
      go_end0
      exact ⟨⟨_, rfl⟩, .inl ⟨es.take q, List.take_of_length_le (by omega), hJs⟩⟩
/-- 'each' boxes what it was handed, and hands back a function over the boxes. -/
theorem each_any (k : Kd) (A : Option Addr) (c : Nat) (n : Nat) (hold : Int) (w : World) :
    Calls Try.prog 19 #[k.v, .slice A n c, .int .i64 hold] w fun e w' => e = .returned (.func (.func 25) #[] #[.pointer (some ⟨w.heap.size + 1, 0, none⟩), .pointer (some ⟨w.heap.size, 0, none⟩), .pointer (some ⟨w.heap.size + 1 + 1, 0, none⟩)]) ∧
      ((w.alloc (.cells #[.int .i64 k.slow, .int .i64 k.fast, .int .i64 k.places, .int .i64 k.weight, .int .i64 k.longest, .slice k.cur.A k.cur.l.length k.cur.c] 49)).alloc (.cells #[.slice A n c] 34)).alloc (.cells #[.int .i64 hold] 3) = w' := by
  go_enter Try.func19, Try.ntmps19
  go_wp2
  go_ret
  exact ⟨rfl, rfl⟩
end Go.Proofs.Ytlnfjdbdgcafbaa
