/- Contracts: the iterator over the credits of an airline. -/
import Derived.Test.YtafglcalimcdcaaC
import Derived.Test.YtafglcalimcdcaaRf
import Derived.BigFrameIn
set_option linter.unusedSimpArgs false
set_option linter.unusedVariables false
namespace Go.Proofs.Ytafglcalimcdcaa
open Go.RowKit Go.Shelf
attribute [local go_sem] Oper.semAt_some
/-- A credit of the airline that can be spent, with its place. -/
abbrev WC (l : List Cr) (al now : Int) := { p : Nat × Cr // l[p.1]? = some p.2 ∧ hasC al now p.2 = true }
def encC {l : List Cr} {al now : Int} (p : WC l al now) : Array Value := #[.int .i64 p.1.1, p.1.2.v]
def hitsW (l : List Cr) (al now : Int) : Nat → List (WC l al now)
  | 0 => []
  | q + 1 => match h : l[q]? with
    | none => hitsW l al now q
    | some c => if hc : hasC al now c = true then hitsW l al now q ++ [⟨(q, c), h, hc⟩] else hitsW l al now q
section
variable {l : List Cr} {al now : Int} {q : Nat} {c : Cr}
theorem hits_yes (hx : l[q]? = some c) (hc : hasC al now c = true) : hitsW l al now (q + 1) = hitsW l al now q ++ [⟨(q, c), hx, hc⟩] := by
  rw [hitsW]
  split
  · rename_i h; rw [h] at hx; cases hx
  · rename_i c' h
    obtain rfl : c' = c := Option.some.inj (h.symm.trans hx)
    rw [dif_pos hc]
theorem hits_no (hx : l[q]? = some c) (hc : ¬ hasC al now c = true) : hitsW l al now (q + 1) = hitsW l al now q := by
  rw [hitsW]
  split
  · rfl
  · rename_i c' h
    obtain rfl : c' = c := Option.some.inj (h.symm.trans hx)
    rw [dif_neg hc]
theorem hits_end (hx : l[q]? = none) : hitsW l al now (q + 1) = hitsW l al now q := by
  rw [hitsW]
  split
  · rfl
  · rename_i c' h; rw [hx] at h; cases h
theorem hits_pre (q : Nat) : ∀ r, hitsW l al now q <+: hitsW l al now (q + r)
  | 0 => List.prefix_rfl
  | r + 1 => by
    refine (hits_pre q r).trans ?_
    rw [← Nat.add_assoc]
    cases hx : l[q + r]? with
    | none => rw [hits_end hx]; exact List.prefix_rfl
    | some c =>
      by_cases hc : hasC al now c = true
      · rw [hits_yes hx hc]; exact List.prefix_append _ _
      · rw [hits_no hx hc]; exact List.prefix_rfl
theorem hits_len : ∀ q, (hitsW l al now q).length ≤ q
  | 0 => Nat.le_refl _
  | q + 1 => by
    have := hits_len q
    cases hx : l[q]? with
    | none => rw [hits_end hx]; omega
    | some c =>
      by_cases hc : hasC al now c = true
      · rw [hits_yes hx hc]; simp; omega
      · rw [hits_no hx hc]; omega
end
theorem has_iff {al now : Int} {c : Cr} : hasC al now c = true ↔ c.a = al ∧ now < c.u := by unfold hasC; simp
/-- What the iterator reads: its captured boxes, the credits. -/
structure Caps (W : World) (B : Nat) (ex : Nat → Prop) (bl ba bn : Nat) (A : Option Addr) (c : Nat) (ls : List Cr) (al now : Int) : Prop where
  lB : bl < B
  aB : ba < B
  nB : bn < B
  lx : ¬ ex bl
  ax : ¬ ex ba
  nx : ¬ ex bn
  l : W.cell? ⟨bl, 0, none⟩ = some (.slice A ls.length c)
  a : W.cell? ⟨ba, 0, none⟩ = some (.int .i64 al)
  n : W.cell? ⟨bn, 0, none⟩ = some (.int .i64 now)
  row : Slc W Cr.cells 3 A ls
  lsB : 0 < ls.length → ∀ b o s, A = some ⟨b, o, s⟩ → b < B ∧ ¬ ex b
theorem Kx.cell {B : Nat} {ex : Nat → Prop} {W W' : World} (h : Kx B ex W W') {b o : Nat} (hb : b < B) (hx : ¬ ex b) : W'.cell? ⟨b, o, none⟩ = W.cell? ⟨b, o, none⟩ := World.cell?_of_block (w := W) (a := ⟨b, o, none⟩) (h b hb hx)
theorem Kx.slc {α : Type} {B : Nat} {ex : Nat → Prop} {W W' : World} (h : Kx B ex W W') (hs : W.heap.size ≤ W'.heap.size) {enc : α → List Value} {sz : Nat} {A : Option Addr} {l : List α} (hl : Slc W enc sz A l) (hA : 0 < l.length → ∀ b o s, A = some ⟨b, o, s⟩ → b < B ∧ ¬ ex b) : Slc W' enc sz A l := fun i x hx => by
  obtain ⟨b, o, e, hlt, hc⟩ := hl i x hx
  obtain ⟨h1, h2⟩ := hA (by have := (List.getElem?_eq_some_iff.1 hx).1; omega) b o none e
  exact ⟨b, o, e, Nat.lt_of_lt_of_le hlt hs, fun j v hj => (h.cell h1 h2).trans (hc j v hj)⟩
theorem Caps.keep {W W' : World} {B : Nat} {ex : Nat → Prop} {bl ba bn : Nat} {A : Option Addr} {c : Nat} {ls : List Cr} {al now : Int} (h : Caps W B ex bl ba bn A c ls al now) (hk : Kx B ex W W') (hs : W.heap.size ≤ W'.heap.size) : Caps W' B ex bl ba bn A c ls al now :=
  ⟨h.lB, h.aB, h.nB, h.lx, h.ax, h.nx, (hk.cell h.lB h.lx).trans h.l, (hk.cell h.aB h.ax).trans h.a, (hk.cell h.nB h.nx).trans h.n, hk.slc hs h.row h.lsB, h.lsB⟩
set_option maxRecDepth 100000 in
set_option maxHeartbeats 1600000 in
theorem of1_in (n : Nat) (hn : 1 ≤ n) (l : Nat) (B : Nat) (ex : Nat → Prop) (bl ba bn : Nat) (A : Option Addr) (c : Nat) (ls : List Cr) (al now : Int) (hls : ls.length ≤ 1000)
    (J Jx : List (WC ls al now) → World → Prop) (W : World) (hBW : B ≤ W.heap.size) (hJ : AbidesFrom W.heap.size J)
    (hY : ∀ pre x W1, J pre W1 → pre.length < (hitsW ls al now ls.length).length → YieldAt Fence.wide (n - 1) Try.prog l (encC x) W1 fun e W' =>
      (e = .returned (.bool true) ∧ J (pre ++ [x]) W' ∧ (Kx B ex W1 W' ∧ W1.heap.size ≤ W'.heap.size)) ∨ (e = .returned (.bool false) ∧ Jx (pre ++ [x]) W'))
    (hC : Caps W B ex bl ba bn A c ls al now) (hJ0 : J [] W) :
    CallsIn Fence.wide n Try.prog 32 #[.func (.yield l) #[] #[], .pointer (some ⟨bl, 0, none⟩), .pointer (some ⟨ba, 0, none⟩), .pointer (some ⟨bn, 0, none⟩)] W fun e W' => (∃ v, e = .returned v) ∧
      ((∃ ys, ys = hitsW ls al now ls.length ∧ J ys W') ∨ (∃ pre, pre <+: hitsW ls al now ls.length ∧ Jx pre W')) := by
  have HY := Lib.hid hY
  have HJ := Lib.hid hJ
  have HC := Lib.hid hC
  have cl := hC.l
  clear hY hJ hC
  refine callsIn_of_wp Try.func32 rfl trivial ?_ rfl
  simp only [Try.ntmps32, List.size_toArray, List.length_cons, List.length_nil, Nat.reduceAdd, Nat.reduceSub, Array.replicate_succ, Array.replicate_zero, List.push_toArray, List.append_toArray, List.nil_append, List.cons_append]
  gi_wp2
  gi_loopw [9] (fun i wr => ∃ q : Nat, q ≤ ls.length ∧ i = .int .i64 q ∧ J (hitsW ls al now q) wr ∧ Hid (Kx B ex W wr) ∧ W.heap.size ≤ wr.heap.size) (fun i _ => ls.length - (intOf i).toNat)
  case atStart => exact ⟨0, Nat.zero_le _, rfl, hJ0, Kx.refl _, Nat.le_refl _⟩
  case round =>
    obtain ⟨q, hq, rfl, hJs, HK, hsz⟩ := hrel
    by_cases hlt : q < ls.length
    · have hc := HC.out.keep HK.out hsz
      obtain ⟨x, b1, o1, hx, rfl, hb1, hcx⟩ := hc.row.at_ hlt
      have c0 := hcx 0 _ rfl
      have c1 := hcx 1 _ rfl
      have c2 := hcx 2 _ rfl
      simp only [Nat.add_zero] at c0
      have kl := hc.l
      have ka := hc.a
      have kn := hc.n
      have hlt' : (q : Int) < ls.length := by omega
      have sl : bl < wr.heap.size := by have := hc.lB; omega
      have sa : ba < wr.heap.size := by have := hc.aB; omega
      have sn : bn < wr.heap.size := by have := hc.nB; omega
      have HX := Lib.hid hx
      clear hx hcx hc cl
      have hJ1 : J (hitsW ls al now q) (wr.alloc (.cells #[.int .i64 x.a, .int .i64 x.m, .int .i64 x.u] 24)) := HJ.out _ _ _ none hJs (grown_below (ext_alloc (ext_refl _) _)) (by simp)
      by_cases hh : hasC al now x = true
      · have HH := Lib.hid hh
        obtain ⟨e1, e2⟩ := has_iff.1 hh
        have f1 : (x.a == al) = true := by simp [e1]
        clear e1
        have hpl : (hitsW ls al now q).length < (hitsW ls al now ls.length).length := by
          have h1 := (hits_pre (l := ls) (al := al) (now := now) (q + 1) (ls.length - (q + 1))).length_le
          rw [show q + 1 + (ls.length - (q + 1)) = ls.length by omega, hits_yes HX.out hh] at h1
          simp at h1; omega
        obtain ⟨fn, tmps, assign, body, hy, hR⟩ := HY.out (hitsW ls al now q) ⟨(q, x), HX.out, hh⟩ _ hJ1 hpl
        simp only [encC] at hy
        clear hpl
        gi_wp2_with fail
        refine hR.mono ?_
        rintro e W3 (⟨rfl, hJ3, hk3, hs3⟩ | ⟨rfl, hJx3⟩)
        · clear hy hR
          gi_wp2_with fail
          go_roundw
          case rel => exact ⟨q + 1, hlt, by go_num, by rw [hits_yes HX.out HH.out]; exact hJ3, HK.out.t ((Kx.below (ext_alloc (ext_refl wr) _) (by omega)).t hk3), by have := hs3; simp at this; omega⟩
          case measure => simp [intOf]; omega
        · clear hy hR
          gi_wp2_with fail
          refine bodyPost_ret (results_none rfl _ _ _) rfl ?_
          refine ⟨⟨_, rfl⟩, .inr ⟨hitsW ls al now q ++ [⟨(q, x), HX.out, HH.out⟩], ?_, hJx3⟩⟩
          rw [← hits_yes HX.out HH.out]
          have := hits_pre (l := ls) (al := al) (now := now) (q + 1) (ls.length - (q + 1))
          rwa [show q + 1 + (ls.length - (q + 1)) = ls.length by omega] at this
      · have HH := Lib.hid hh
        have hh2 : x.a = al → ¬ now < x.u := fun e h => hh (has_iff.2 ⟨e, h⟩)
        clear hh
        by_cases hea : x.a = al
        · have h3 := hh2 hea
          have f1 : (x.a == al) = true := by simp [hea]
          clear hh2 hea
          gi_wp2_with fail
          refine ⟨(by intro f h; cases h), ?_⟩
          gi_wp2_with fail
          go_roundw
          case rel => exact ⟨q + 1, hlt, by go_num, by rw [hits_no HX.out HH.out]; exact hJ1, HK.out.t (Kx.below (ext_alloc (ext_refl wr) _) (by omega)), by simp; omega⟩
          case measure => simp [intOf]; omega
        · have h3 : (x.a == al) = false := by simp [hea]
          clear hh2 hea
          gi_wp2_with fail
          refine ⟨(by intro f h; cases h), ?_⟩
          gi_wp2_with fail
          go_roundw
          case rel => exact ⟨q + 1, hlt, by go_num, by rw [hits_no HX.out HH.out]; exact hJ1, HK.out.t (Kx.below (ext_alloc (ext_refl wr) _) (by omega)), by simp; omega⟩
          case measure => simp [intOf]; omega
    · have hge : ¬ (q : Int) < ls.length := by omega
      gi_wp2
      go_end0
      exact ⟨⟨_, rfl⟩, .inl (by rw [show ls.length = q by omega]; exact hJs)⟩
/-- 'of' boxes what it was handed, and hands back a function over the boxes. -/
theorem of_any (A : Option Addr) (c : Nat) (n : Nat) (al now : Int) (w : World) :
    Calls Try.prog 24 #[.slice A n c, .int .i64 al, .int .i64 now] w fun e w' => e = .returned (.func (.func 32) #[] #[.pointer (some ⟨w.heap.size, 0, none⟩), .pointer (some ⟨w.heap.size + 1, 0, none⟩), .pointer (some ⟨w.heap.size + 1 + 1, 0, none⟩)]) ∧
      ((w.alloc (.cells #[.slice A n c] 22)).alloc (.cells #[.int .i64 al] 3)).alloc (.cells #[.int .i64 now] 3) = w' := by
  go_enter Try.func24, Try.ntmps24
  go_wp2
  go_ret
  exact ⟨rfl, rfl⟩
def KpE (B : Nat) (ex : Nat → Prop) (W W' : World) : Prop := Kx B ex W W' ∧ W.heap.size ≤ W'.heap.size
theorem KpE.t {B : Nat} {ex : Nat → Prop} {X Y Z : World} (h : KpE B ex X Y) (k : KpE B ex Y Z) : KpE B ex X Z := ⟨h.1.t k.1, Nat.le_trans h.2 k.2⟩
theorem KpE.b {B : Nat} {ex : Nat → Prop} {w : World} (hB : B ≤ w.heap.size) (W : World) (l : Nat) (o o' : Obj) (hl : w.heap.size ≤ l) (h : W.heap[l]? = some o) (h1 : o.isCells = false) (h2 : o.isWalk = false) : KpE B ex W (W.putObj l o') :=
  ⟨Kx.b hB W l o o' hl h h1 h2, (grownBy_putObj' W l o').size⟩
theorem of_stops (n : Nat) (hn : 1 ≤ n) (B : Nat) (ex : Nat → Prop) (bl ba bn : Nat) (A : Option Addr) (c : Nat) (ls : List Cr) (al now : Int) (hls : ls.length ≤ 1000) (w : World) (hB : B ≤ w.heap.size) (hC : Caps w B ex bl ba bn A c ls al now) :
    SeqStopsK Fence.wide n Try.prog 32 #[.pointer (some ⟨bl, 0, none⟩), .pointer (some ⟨ba, 0, none⟩), .pointer (some ⟨bn, 0, none⟩)] encC (KpE B ex) (fun ys => ys = hitsW ls al now ls.length) (fun pre => pre <+: hitsW ls al now ls.length) (hitsW ls al now ls.length).length w :=
  fun l J Jx W hW hJ _ hY hJ0 => of1_in n hn l B ex bl ba bn A c ls al now hls J Jx W (Nat.le_trans hB hW.size) hJ hY (hC.keep (Kx.below hW hB) hW.size) hJ0
end Go.Proofs.Ytafglcalimcdcaa
