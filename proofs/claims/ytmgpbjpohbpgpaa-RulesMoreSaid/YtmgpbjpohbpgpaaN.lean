/- Contract: Reason. -/
import Derived.Test.YtmgpbjpohbpgpaaRgIn
import Derived.Test.YtmgpbjpohbpgpaaJ
import Derived.Test.YtmgpbjpohbpgpaaL
import Derived.Test.YtmgpbjpohbpgpaaM
import Derived.Test.YtmgpbjpohbpgpaaE
import Derived.Test.YtmgpbjpohbpgpaaF
set_option linter.unusedSimpArgs false
set_option linter.unusedVariables false
namespace Go.Proofs.Ytmgpbjpohbpgpaa
open Go.RowKit Go.Shelf
attribute [local go_sem] Oper.semAt_some
/-- What Reason's boxes hold. -/
structure RSt (w : World) (a : As) (bf : Nat) (l : List Nat) (W : World) : Prop where
  e : Below w.heap.size w W
  ne : w.heap.size + 1 < bf
  ln : l.length ≤ 1000
  x : Blk W w.heap.size [.slice a.s0.A a.s0.n a.s0.c, .slice a.s1.A a.s1.n a.s1.c, .slice a.s2.A a.s2.n a.s2.c, .slice a.s3.A a.s3.n a.s3.c, .slice a.s4.A a.s4.n a.s4.c, .slice a.aps.A a.aps.n a.aps.c, .slice a.cls.A a.cls.n a.cls.c, .slice a.rs.A a.rs.l.length a.rs.c]
  f : Blk W bf [.func (.func 23) #[] #[.pointer (some ⟨w.heap.size + 1, 0, none⟩)]]
  b : ∃ A c, Blk W (w.heap.size + 1) [.slice A l.length c] ∧ Slc W nc 1 A l ∧ Go.Proofs.Ytmgpbjpohbpgpaa.rowOff A l (w.heap.size + 1)
theorem RSt.ext {w W W' : World} {a : As} {bf : Nat} {l : List Nat} (h : RSt w a bf l W) (hB : Below W.heap.size W W') : RSt w a bf l W' := by
  obtain ⟨A, c, h1, h2, h3⟩ := h.b
  exact ⟨ext_trans h.e hB, h.ne, h.ln, h.x.ext hB, h.f.ext hB, A, c, h1.ext hB, h2.ext hB, h3⟩
theorem RSt.alloc {w W : World} {a : As} {bf : Nat} {l : List Nat} (h : RSt w a bf l W) (o : Obj) : RSt w a bf l (W.alloc o) := h.ext (ext_alloc (ext_refl _) o)
theorem Blk.turn {w w' : World} {b : Nat} {x : Value} {xs : List Value} {row : Option Nat} (h : Blk w b (x :: xs)) (hg : w.grownBy w' row) (hr : ∀ r, row = some r → ∃ o : Obj, w.heap[r]? = some o ∧ o.isCells = false) : Blk w' b (x :: xs) := by
  refine h.keepB (hg.block b h.lt ?_)
  intro e'
  obtain ⟨ob, h1, h2⟩ := hr b e'.symm
  have h3 := h.c 0 x rfl
  simp only [World.cell?, h1] at h3
  cases ob <;> simp_all [Obj.isCells]
theorem RSt.turn {w W W' : World} {a : As} {bf : Nat} {l : List Nat} {row : Option Nat} (h : RSt w a bf l W) (hg : W.grownBy W' row) (hr : ∀ r, row = some r → w.heap.size ≤ r ∧ ∃ o : Obj, W.heap[r]? = some o ∧ o.isCells = false) : RSt w a bf l W' := by
  obtain ⟨A, c, h1, h2, h3⟩ := h.b
  exact ⟨h.e.grown hg h.e.size (fun r e => (hr r e).1), h.ne, h.ln, h.x.turn hg (fun r e => (hr r e).2), h.f.turn hg (fun r e => (hr r e).2), A, c, h1.turn hg (fun r e => (hr r e).2), h2.turn (fun _ => rfl) (by decide) hg (fun r e => (hr r e).2), h3⟩
theorem RSt.better {w W W' : World} {a : As} {bf : Nat} {l set : List Nat} {A : Option Addr} {c : Nat} {e : Ending} (h : RSt w a bf l W) (hb : BetR W (w.heap.size + 1) A c set l e W') (hs : Slc W nc 1 A set) (ho : Go.Proofs.Ytmgpbjpohbpgpaa.rowOff A set (w.heap.size + 1)) (hn : set.length ≤ 1000) : RSt w a bf (better l set) W' := by
  obtain ⟨-, w1, hB, ⟨h1, rfl⟩ | ⟨h1, rfl⟩⟩ := hb
  · rw [h1]; exact h.ext hB
  · rw [h1]
    have h2 := h.ext hB
    obtain ⟨A', c', h3, -, -⟩ := h2.b
    refine ⟨h2.e.setCell (p := ⟨w.heap.size + 1, 0, none⟩) (Nat.le_succ _) _, h.ne, hn, h2.x.other (p := ⟨w.heap.size + 1, 0, none⟩) _ (by simp), h2.f.other (p := ⟨w.heap.size + 1, 0, none⟩) _ (by have := h.ne; show w.heap.size + 1 ≠ bf; omega), A, c, h3.set (j := 0) (by simp) _, (hs.ext hB).far (p := ⟨w.heap.size + 1, 0, none⟩) ho, ho⟩
theorem bet_block {W W' : World} {bl : Nat} {A : Option Addr} {c : Nat} {set l : List Nat} {e : Ending} {D : Nat} (hb : BetR W bl A c set l e W') (hD : D ≠ bl) (hl : D < W.heap.size) : W'.heap[D]? = W.heap[D]? := by
  obtain ⟨-, w1, hB, ⟨-, rfl⟩ | ⟨-, rfl⟩⟩ := hb
  · exact hB.block D hl
  · exact (Below.heap_setCell w1 _ _ D hD).trans (hB.block D hl)
theorem bet_size {W W' : World} {bl : Nat} {A : Option Addr} {c : Nat} {set l : List Nat} {e : Ending} (hb : BetR W bl A c set l e W') : W.heap.size ≤ W'.heap.size := by
  obtain ⟨-, w1, hB, ⟨-, rfl⟩ | ⟨-, rfl⟩⟩ := hb
  · exact hB.size
  · have := hB.size; simpa using this
theorem coverL_len (l : List Ru) (S : List Nat) (h : S.Pairwise (· < ·)) : (coverL l S).length ≤ S.length := by
  cases e : coverL l S with
  | nil => simp
  | cons x r =>
    have := (coverL_spec l S h).2 (by rw [e]; simp)
    rw [← e]; exact this.1.length_le
theorem better_at {bl : Nat} {A B : Option Addr} (c d : Nat) {n m : Nat} {set l : List Nat} {w : World} (hn : n = set.length) (hm : m = l.length) (hb : Blk w bl [.slice B m d]) (hs : Slc w nc 1 A set) (hl : Slc w nc 1 B l) (hsl : set.length < 1000000) (hll : l.length < 1000000) :
    Calls Try.prog 23 #[.slice A n c, .pointer (some ⟨bl, 0, none⟩)] w (fun e w' => (∃ v, e = .returned v) ∧ Hid (BetR w bl A c set l e w')) :=
  (better_any bl A B c d n m set l w hn hm hb hs hl hsl hll).mono (fun _ _ h => ⟨h.1, h⟩)
theorem cover_at {A B : Option Addr} (c : Nat) {c2 n : Nat} {L : List Ru} {S0 : List Nat} {w : World} (R : List Nat) (hR : coverL L S0 = R) (hn : n = S0.length) (hl : Slc w Ru.cells 8 A L) (hS : Slc w nc 1 B S0) (hcs : S0.length ≤ c2) (hall : ∀ i ∈ S0, i < L.length) (hL : L.length < 10000) (hSl : S0.length < 1000) :
    Calls Try.prog 29 #[.slice A L.length c, .slice B n c2] w (CovR w R) := by
  subst hR hn; exact cover_any A B c c2 L S0 w hl hS hcs hall hL hSl
theorem bet_keeps {W W' : World} {bl : Nat} {A : Option Addr} {c : Nat} {set l : List Nat} {e : Ending} (hb : BetR W bl A c set l e W') : KeepsOthers W W' := by
  obtain ⟨-, w1, hB, ⟨-, rfl⟩ | ⟨-, rfl⟩⟩ := hb
  · exact KeepsOthers.of_grownBy (grown_below hB) (by simp)
  · exact (KeepsOthers.of_grownBy (grown_below hB) (by simp)).trans (KeepsOthers.setCell _ _ _)
/-- The candidates from a class on; those of a class from an airport on. -/
def remC (l : List Ru) (nC nA c : Nat) : List (List Nat) := (List.range' c (nC - c)).flatMap (fun c => (List.range nA).map (fun p => coverL l (someL l c p)))
def remP (l : List Ru) (nC nA c p : Nat) : List (List Nat) := (List.range' p (nA - p)).map (fun p => coverL l (someL l c p)) ++ remC l nC nA (c + 1)
def someP (l : List Ru) (c p k : Nat) : List Nat := (List.range k).filter (atI l (isC c p))
theorem someP_step {l : List Ru} {c p k : Nat} {x : Ru} (h : l[k]? = some x) : someP l c p (k + 1) = someP l c p k ++ (if isC c p x then [k] else []) := by
  unfold someP
  rw [List.range_succ, List.filter_append]
  congr 1
  have e : atI l (isC c p) k = isC c p x := by simp [atI, h]
  rw [List.filter_cons, e]
  split <;> rfl
theorem someP_len (l : List Ru) (c p k : Nat) : (someP l c p k).length ≤ k := by
  unfold someP
  have := List.length_filter_le (atI l (isC c p)) (List.range k)
  rwa [List.length_range] at this
theorem remC_all (l : List Ru) (nC nA : Nat) : (remC l nC nA 0).foldl better (better [] (pairS l)) = reasonL nC nA l := by
  unfold remC reasonL candL
  rw [List.range_eq_range' (n := nC)]; rfl
theorem remC_end (l : List Ru) (nC nA : Nat) (s : List Nat) : (remC l nC nA nC).foldl better s = s := by simp [remC]
theorem remC_row (l : List Ru) (nC nA c : Nat) (h : c < nC) : remC l nC nA c = remP l nC nA c 0 := by
  unfold remP
  unfold remC
  rw [show nC - c = (nC - (c + 1)) + 1 by omega, List.range'_succ, List.flatMap_cons, Nat.sub_zero, ← List.range_eq_range']
theorem remP_end (l : List Ru) (nC nA c : Nat) : remP l nC nA c nA = remC l nC nA (c + 1) := by simp [remP]
theorem remP_step (l : List Ru) (nC nA c p : Nat) (h : p < nA) : remP l nC nA c p = coverL l (someL l c p) :: remP l nC nA c (p + 1) := by
  unfold remP
  rw [show nA - p = (nA - (p + 1)) + 1 by omega, List.range'_succ]
  simp
def reaL (nC nA : Nat) (l : List Ru) : List Nat := if chkR nC nA l = 0 then reasonL nC nA l else []
def ReaR (w : World) (l : List Nat) (err : Int) (e : Ending) (w' : World) : Prop := ∃ A c, e = .returned (.tuple #[.slice A l.length c, .int .i64 err]) ∧ Slc w' nc 1 A l ∧ Below w.heap.size w w'
def agP (l : List Ru) (p : Nat × Nat) : Bool := atI l (fun x => atI l (fun y => agR x y) p.2) p.1
theorem pairS_none {l : List Ru} (h : ∀ x ∈ pairsL l.length, agP l x = false) : pairS l = [] := by
  have : firstP l = none := List.find?_eq_none.2 (fun x hx => by have := h x hx; simpa [agP] using this)
  simp [pairS, this]
theorem pairS_some {l : List Ru} {p : List (Nat × Nat)} {x : Nat × Nat} (h : p ++ [x] <+: pairsL l.length) (h1 : ∀ y ∈ p, agP l y = false) (h2 : agP l x = true) : pairS l = [x.1, x.2] := by
  obtain ⟨t, ht⟩ := h
  have : firstP l = some x := by
    unfold firstP
    rw [← ht, List.find?_append, List.find?_append]
    have e1 : p.find? (fun x => atI l (fun a => atI l (fun b => agR a b) x.2) x.1) = none := List.find?_eq_none.2 (fun x hx => by have := h1 x hx; simpa [agP] using this)
    rw [e1]
    have e2 : (atI l (fun a => atI l (fun b => agR a b) x.2) x.1) = true := h2
    simp [e2]
  simp [pairS, this]
theorem against_at {x y : Ru} {w : World} (r : Bool) (hr : agR x y = r) : Calls Try.prog 28 #[.agg #[.int .i64 x.k, .string x.sc, .string x.sa, .int .i64 x.cl, .int .i64 x.ap, .int .i64 x.n, .int .i64 x.f, .int .i64 x.t], .agg #[.int .i64 y.k, .string y.sc, .string y.sa, .int .i64 y.cl, .int .i64 y.ap, .int .i64 y.n, .int .i64 y.f, .int .i64 y.t]] w (RetB w r) := by
  subst hr; exact against_any x y w
set_option maxRecDepth 100000 in
set_option maxHeartbeats 6400000 in
theorem reason_any (a : As) (w : World) (ha : AOk w a) : Calls Try.prog 10 #[.agg #[.slice a.s0.A a.s0.n a.s0.c, .slice a.s1.A a.s1.n a.s1.c, .slice a.s2.A a.s2.n a.s2.c, .slice a.s3.A a.s3.n a.s3.c, .slice a.s4.A a.s4.n a.s4.c, .slice a.aps.A a.aps.n a.aps.c, .slice a.cls.A a.cls.n a.cls.c, .slice a.rs.A a.rs.l.length a.rs.c]] w (ReaR w (reaL a.cls.n a.aps.n a.rs.l) (chkR a.cls.n a.aps.n a.rs.l)) := by
  obtain ⟨v, hv⟩ : ∃ v, chkR a.cls.n a.aps.n a.rs.l = v := ⟨_, rfl⟩
  have HV := Lib.hid hv
  have HW := Lib.hid (show reaL a.cls.n a.aps.n a.rs.l = if v = 0 then reasonL a.cls.n a.aps.n a.rs.l else [] by unfold reaL; rw [hv])
  rw [HW.out, hv]
  clear hv HW
  refine (callsIn_wide (n := 5)).1 ?_
  refine callsIn_of_wp_marks Try.func10 rfl trivial ?_ rfl
  simp only [Try.ntmps10, List.size_toArray, List.length_cons, List.length_nil, Nat.reduceAdd, Nat.reduceSub, Array.replicate_succ, Array.replicate_zero, List.push_toArray, List.append_toArray, List.nil_append, List.cons_append]
  by_cases h0 : v = 0
  rotate_left
  · have f0 : (v != 0) = true := by simp [h0]
    rw [if_neg h0]
    clear h0
    have E := Lib.hid (ext_refl w)
    have HA := Lib.hid (ha)
    have HA0 := Lib.hid ha
    clear ha
    replace E := Lib.hid (ext_alloc E.out (.cells #[.slice a.s0.A a.s0.n a.s0.c, .slice a.s1.A a.s1.n a.s1.c, .slice a.s2.A a.s2.n a.s2.c, .slice a.s3.A a.s3.n a.s3.c, .slice a.s4.A a.s4.n a.s4.c, .slice a.aps.A a.aps.n a.aps.c, .slice a.cls.A a.cls.n a.cls.c, .slice a.rs.A a.rs.l.length a.rs.c] 31))
    replace HA := Lib.hid (HA.out.alloc (.cells #[.slice a.s0.A a.s0.n a.s0.c, .slice a.s1.A a.s1.n a.s1.c, .slice a.s2.A a.s2.n a.s2.c, .slice a.s3.A a.s3.n a.s3.c, .slice a.s4.A a.s4.n a.s4.c, .slice a.aps.A a.aps.n a.aps.c, .slice a.cls.A a.cls.n a.cls.c, .slice a.rs.A a.rs.l.length a.rs.c] 31))
    have X := Lib.hid (Blk.newH w [.slice a.s0.A a.s0.n a.s0.c, .slice a.s1.A a.s1.n a.s1.c, .slice a.s2.A a.s2.n a.s2.c, .slice a.s3.A a.s3.n a.s3.c, .slice a.s4.A a.s4.n a.s4.c, .slice a.aps.A a.aps.n a.aps.c, .slice a.cls.A a.cls.n a.cls.c, .slice a.rs.A a.rs.l.length a.rs.c] 31 (w.heap.size) (by first | rfl | simp))
    replace E := Lib.hid (ext_alloc E.out (.cells #[.slice none 0 0] 34))
    replace HA := Lib.hid (HA.out.alloc (.cells #[.slice none 0 0] 34))
    replace X := Lib.hid (X.out.alloc (.cells #[.slice none 0 0] 34))
    have B1 := Lib.hid (Blk.newH (w.alloc (.cells #[.slice a.s0.A a.s0.n a.s0.c, .slice a.s1.A a.s1.n a.s1.c, .slice a.s2.A a.s2.n a.s2.c, .slice a.s3.A a.s3.n a.s3.c, .slice a.s4.A a.s4.n a.s4.c, .slice a.aps.A a.aps.n a.aps.c, .slice a.cls.A a.cls.n a.cls.c, .slice a.rs.A a.rs.l.length a.rs.c] 31)) [.slice none 0 0] 34 (w.heap.size + 1) (by first | rfl | simp))
    have c0 := X.out.c 0 _ rfl
    have c1 := X.out.c 1 _ rfl
    have c2 := X.out.c 2 _ rfl
    have c3 := X.out.c 3 _ rfl
    have c4 := X.out.c 4 _ rfl
    have c5 := X.out.c 5 _ rfl
    have c6 := X.out.c 6 _ rfl
    have c7 := X.out.c 7 _ rfl
    gi_wp2_with fail
    refine ⟨trivial, (callsIn_wide.2 (check_at13 v HV.out HA.out)).mono ?_⟩
    rintro e v1 ⟨rfl, B⟩
    clear c0 c1 c2 c3 c4 c5 c6 c7
    replace E := Lib.hid (ext_trans E.out B)
    replace HA := Lib.hid (HA.out.ext B)
    replace X := Lib.hid (X.out.ext B)
    replace B1 := Lib.hid (B1.out.ext B)
    clear B
    have y0 := B1.out.c 0 _ rfl
    have yf := B1.out.f 0
    have yl := B1.out.lt
    gi_wp2_with fail
    refine ⟨.tuple #[.slice none 0 0, .int .i64 v], ?_, ?_⟩
    · have hc0 := (B1.out.set (j := 0) (by simp) (.slice none 0 0)).c 0 (.slice none 0 0) rfl
      simp [results, Try.results10, go_sem, *]
    · exact ⟨none, 0, rfl, Slc.nil, E.out.setCell (p := ⟨w.heap.size + 1, 0, none⟩) (Nat.le_succ _) _⟩
  subst h0
  rw [if_pos rfl]
  · have E := Lib.hid (ext_refl w)
    have HA := Lib.hid (ha)
    have HA0 := Lib.hid ha
    clear ha
    replace E := Lib.hid (ext_alloc E.out (.cells #[.slice a.s0.A a.s0.n a.s0.c, .slice a.s1.A a.s1.n a.s1.c, .slice a.s2.A a.s2.n a.s2.c, .slice a.s3.A a.s3.n a.s3.c, .slice a.s4.A a.s4.n a.s4.c, .slice a.aps.A a.aps.n a.aps.c, .slice a.cls.A a.cls.n a.cls.c, .slice a.rs.A a.rs.l.length a.rs.c] 31))
    replace HA := Lib.hid (HA.out.alloc (.cells #[.slice a.s0.A a.s0.n a.s0.c, .slice a.s1.A a.s1.n a.s1.c, .slice a.s2.A a.s2.n a.s2.c, .slice a.s3.A a.s3.n a.s3.c, .slice a.s4.A a.s4.n a.s4.c, .slice a.aps.A a.aps.n a.aps.c, .slice a.cls.A a.cls.n a.cls.c, .slice a.rs.A a.rs.l.length a.rs.c] 31))
    have X := Lib.hid (Blk.newH w [.slice a.s0.A a.s0.n a.s0.c, .slice a.s1.A a.s1.n a.s1.c, .slice a.s2.A a.s2.n a.s2.c, .slice a.s3.A a.s3.n a.s3.c, .slice a.s4.A a.s4.n a.s4.c, .slice a.aps.A a.aps.n a.aps.c, .slice a.cls.A a.cls.n a.cls.c, .slice a.rs.A a.rs.l.length a.rs.c] 31 (w.heap.size) (by first | rfl | simp))
    replace E := Lib.hid (ext_alloc E.out (.cells #[.slice none 0 0] 34))
    replace HA := Lib.hid (HA.out.alloc (.cells #[.slice none 0 0] 34))
    replace X := Lib.hid (X.out.alloc (.cells #[.slice none 0 0] 34))
    have B1 := Lib.hid (Blk.newH (w.alloc (.cells #[.slice a.s0.A a.s0.n a.s0.c, .slice a.s1.A a.s1.n a.s1.c, .slice a.s2.A a.s2.n a.s2.c, .slice a.s3.A a.s3.n a.s3.c, .slice a.s4.A a.s4.n a.s4.c, .slice a.aps.A a.aps.n a.aps.c, .slice a.cls.A a.cls.n a.cls.c, .slice a.rs.A a.rs.l.length a.rs.c] 31)) [.slice none 0 0] 34 (w.heap.size + 1) (by first | rfl | simp))
    have c0 := X.out.c 0 _ rfl
    have c1 := X.out.c 1 _ rfl
    have c2 := X.out.c 2 _ rfl
    have c3 := X.out.c 3 _ rfl
    have c4 := X.out.c 4 _ rfl
    have c5 := X.out.c 5 _ rfl
    have c6 := X.out.c 6 _ rfl
    have c7 := X.out.c 7 _ rfl
    gi_wp2_with fail
    refine ⟨trivial, (callsIn_wide.2 (check_at13 0 HV.out HA.out)).mono ?_⟩
    rintro e v1 ⟨rfl, B⟩
    clear c0 c1 c2 c3 c4 c5 c6 c7
    replace E := Lib.hid (ext_trans E.out B)
    replace HA := Lib.hid (HA.out.ext B)
    replace X := Lib.hid (X.out.ext B)
    replace B1 := Lib.hid (B1.out.ext B)
    clear B
    have y0 := B1.out.c 0 _ rfl
    have yf := B1.out.f 0
    have yl := B1.out.lt
    have c0 := X.out.c 7 _ rfl
    have xl := X.out.lt
    gi_wp2_with fail
    refine ⟨trivial, (callsIn_wide.2 (pairs_any a.rs.l.length _)).mono ?_⟩
    rintro e w2 ⟨rfl, rfl⟩
    gi_wp2_with fail
    rename_i K1 a1
    obtain ⟨w2, hw2⟩ : ∃ w2, ((v1.alloc (.cells #[.func (.func 23) #[] #[.pointer (some ⟨w.heap.size + 1, 0, none⟩)]] 60)).alloc (.cells #[.int .i64 (a.rs.l.length : Int)] 3)) = w2 := ⟨_, rfl⟩
    have hz2 : w2.heap.size = v1.heap.size + 1 + 1 := by rw [← hw2]; simp
    have hb2 : Below v1.heap.size v1 w2 := by rw [← hw2]; exact ext_alloc (ext_alloc (ext_refl v1) _) _
    have hf2 : Blk w2 v1.heap.size [.func (.func 23) #[] #[.pointer (some ⟨w.heap.size + 1, 0, none⟩)]] := by rw [← hw2]; exact (Blk.newH v1 [.func (.func 23) #[] #[.pointer (some ⟨w.heap.size + 1, 0, none⟩)]] 60 v1.heap.size rfl).alloc _
    have hn2 : Blk w2 (v1.heap.size + 1) [.int .i64 (a.rs.l.length : Int)] := by rw [← hw2]; exact Blk.newH (v1.alloc (.cells #[.func (.func 23) #[] #[.pointer (some ⟨w.heap.size + 1, 0, none⟩)]] 60)) [.int .i64 (a.rs.l.length : Int)] 3 (v1.heap.size + 1) (by simp)
    rw [hw2]
    have hlen : a.rs.l.length ≤ 64 := chk_len HV.out
    have hR0 : RSt w a v1.heap.size [] w2 := ⟨ext_trans E.out hb2, yl, by simp, X.out.ext hb2, hf2, none, 0, B1.out.ext hb2, Slc.nil, fun h => absurd rfl h⟩
    have hC : PCap w2 w2.heap.size (fun b => b = w.heap.size + 1) (v1.heap.size + 1) a.rs.l.length := ⟨by omega, by show ¬ (v1.heap.size + 1 = w.heap.size + 1); omega, hn2.c 0 _ rfl⟩
    have hwz : w.heap.size ≤ w2.heap.size := by omega
    have HR0 := Lib.hid hR0
    have HCC := Lib.hid hC
    have HVZ := Lib.hid (show w.heap.size + 1 < v1.heap.size from yl)
    have HZ2 := Lib.hid hz2
    clear hw2 hb2 hf2 hn2 hR0 hC c0 y0 yf yl xl X B1 E HA hz2
    have hcont : ∀ (D : Nat) (W : World), w2.heap.size ≤ D → W.heap[D]? = some (.deferred (some [])) → RSt w a v1.heap.size (better [] (pairS a.rs.l)) W → K1 { tmps := #[.agg #[.slice a.s0.A a.s0.n a.s0.c, .slice a.s1.A a.s1.n a.s1.c, .slice a.s2.A a.s2.n a.s2.c, .slice a.s3.A a.s3.n a.s3.c, .slice a.s4.A a.s4.n a.s4.c, .slice a.aps.A a.aps.n a.aps.c, .slice a.cls.A a.cls.n a.cls.c, .slice a.rs.A a.rs.l.length a.rs.c], .pointer (some ⟨w.heap.size, 0, none⟩), .pointer (some ⟨w.heap.size + 1, 0, none⟩), .int .i64 0, .int .i64 0, .pointer (some ⟨v1.heap.size, 0, none⟩), undef, undef, undef, undef, undef, undef, undef, .agg #[.slice a.s0.A a.s0.n a.s0.c, .slice a.s1.A a.s1.n a.s1.c, .slice a.s2.A a.s2.n a.s2.c, .slice a.s3.A a.s3.n a.s3.c, .slice a.s4.A a.s4.n a.s4.c, .slice a.aps.A a.aps.n a.aps.c, .slice a.cls.A a.cls.n a.cls.c, .slice a.rs.A a.rs.l.length a.rs.c], .int .i64 0, .int .i64 0, .bool false, undef, .func (.func 23) #[] #[.pointer (some ⟨w.heap.size + 1, 0, none⟩)], .pointer (some ⟨w.heap.size, 7, none⟩), .slice a.rs.A a.rs.l.length a.rs.c, .int .i64 (a.rs.l.length : Int), .func (.func 42) #[] #[.pointer (some ⟨v1.heap.size + 1, 0, none⟩)], undef, undef, undef, undef, undef, undef, undef, undef, undef, undef, undef, undef, undef, undef, undef, undef, undef, undef, undef, undef, undef, undef, undef, undef, undef, undef, undef, undef, undef, undef, undef, undef, undef, undef, undef, undef, undef, undef, undef, undef, undef, undef, undef, undef, undef, undef, undef, undef, undef, undef, undef, undef, undef, undef, undef, undef, undef, undef, undef, undef, undef, undef, undef, undef, undef, undef, undef], defers := [{ target := .collected D, args := #[] }] } W := by
      intro D W hD hK hS
      refine a1 _ _ (wpIn_wide.2 ?_)
      have HS := Lib.hid hS
      have HD := Lib.hid hK
      have hDl : D < W.heap.size := (Array.getElem?_eq_some_iff.1 hK).1
      have hcl := HA0.out.cls
      have hap := HA0.out.aps
      have hlen' : a.rs.l.length < 10000 := by omega
      unfold maxLen at hcl hap
      have HFi := Lib.hid (show (remC a.rs.l a.cls.n a.aps.n 0).foldl better (better [] (pairS a.rs.l)) = reasonL a.cls.n a.aps.n a.rs.l from remC_all ..)
      have x6 := hS.x.c 6 _ rfl
      clear hS hK HV HCC HR0 a1 hwz
      go_wp2_with fail
      clear x6
      go_loopw [44] (fun i X => ∃ (q : Nat) (s : List Nat), q ≤ a.cls.n ∧ i = .int .i64 q ∧ (remC a.rs.l a.cls.n a.aps.n q).foldl better s = reasonL a.cls.n a.aps.n a.rs.l ∧ RSt w a v1.heap.size s X ∧ X.heap[D]? = some (.deferred (some []))) (fun i _ => a.cls.n - (intOf i).toNat)
      case atStart => exact ⟨0, _, Nat.zero_le _, rfl, HFi.out, HS.out, HD.out⟩
      case round =>
        obtain ⟨q, s, hq, rfl, hf, hS, hK⟩ := hrel
        have HF := Lib.hid hf
        clear HS HD HFi
        have HS := Lib.hid hS
        have HD := Lib.hid hK
        clear hf hS hK
        obtain ⟨wo, rfl⟩ : ∃ wo, wo = wr := ⟨_, rfl⟩
        by_cases hlt : q < a.cls.n
        rotate_left
        · have hge : ¬ (q : Int) < a.cls.n := by omega
          have hqe : q = a.cls.n := by omega
          subst hqe
          have HFe := Lib.hid (show s = reasonL a.cls.n a.aps.n a.rs.l by have := HF.out; rwa [remC_end] at this)
          clear HF hq hlt
          obtain ⟨A9, c9, g1, g2, g3⟩ := HS.out.b
          have y0 := g1.c 0 _ rfl
          have yf := g1.f 0
          have yl := g1.lt
          have hDne : D ≠ w.heap.size + 1 := by have h2 := HVZ.out; have h3 := HZ2.out; omega
          have hKs : (wo.setCell ⟨w.heap.size + 1, 0, none⟩ (.slice A9 s.length c9)).heap[D]? = some (.deferred (some [])) := (Below.heap_setCell wo ⟨w.heap.size + 1, 0, none⟩ _ D hDne).trans HD.out
          have hbk := ((g1.set (j := 0) (by simp) (.slice A9 s.length c9)).turn (grownBy_putObj' _ D (.deferred none)) (fun r e => by cases e; exact ⟨_, hKs, rfl⟩)).c 0 _ rfl
          have hsl9 : Slc ((wo.setCell ⟨w.heap.size + 1, 0, none⟩ (.slice A9 s.length c9)).putObj D (.deferred none)) nc 1 A9 s := (g2.far (p := ⟨w.heap.size + 1, 0, none⟩) g3).turn (fun _ => rfl) (by decide) (grownBy_putObj' _ D (.deferred none)) (fun r e => by cases e; exact ⟨_, hKs, rfl⟩)
          have hE9 : Below w.heap.size w ((wo.setCell ⟨w.heap.size + 1, 0, none⟩ (.slice A9 s.length c9)).putObj D (.deferred none)) := (HS.out.e.setCell (p := ⟨w.heap.size + 1, 0, none⟩) (Nat.le_succ _) _).grown (grownBy_putObj' _ D _) (by have := HS.out.e.size; simpa [World.setCell] using this) (fun r e => by cases e; have h2 := HVZ.out; have h3 := HZ2.out; omega)
          have HKs := Lib.hid hKs
          have Hbk := Lib.hid hbk
          have Hsl9 := Lib.hid hsl9
          have HE9 := Lib.hid hE9
          clear hKs hbk hsl9 hE9 g1 g2 g3
          go_wp2_with fail
          refine ⟨by simp, .inl ⟨_, _, rfl, run_takeDeferred HKs.out, ?_⟩⟩
          have hc0 := Hbk.out
          refine ⟨.tuple #[.slice A9 s.length c9, .int .i64 0], by simp [results, Try.results10, go_sem, hc0], ?_⟩
          rw [← HFe.out]
          exact ⟨A9, c9, rfl, Hsl9.out, HE9.out⟩
        · have hlt' : (q : Int) < a.cls.n := by omega
          have HFr := Lib.hid (show (remP a.rs.l a.cls.n a.aps.n q 0).foldl better s = reasonL a.cls.n a.aps.n a.rs.l by have := HF.out; rwa [remC_row a.rs.l a.cls.n a.aps.n q hlt] at this)
          have x5 := HS.out.x.c 5 _ rfl
          clear HF
          go_wp2_with fail
          clear x5
          go_loopw [50] (fun i X => ∃ (r : Nat) (s : List Nat), r ≤ a.aps.n ∧ i = .int .i64 r ∧ (remP a.rs.l a.cls.n a.aps.n q r).foldl better s = reasonL a.cls.n a.aps.n a.rs.l ∧ RSt w a v1.heap.size s X ∧ X.heap[D]? = some (.deferred (some []))) (fun i _ => a.aps.n - (intOf i).toNat)
          case atStart => exact ⟨0, _, Nat.zero_le _, rfl, HFr.out, HS.out, HD.out⟩
          case round =>
            obtain ⟨r, s, hr, rfl, hf, hS, hK⟩ := hrel
            have HF := Lib.hid hf
            clear HS HD HFr
            have HS := Lib.hid hS
            have HD := Lib.hid hK
            clear hf hS hK
            obtain ⟨wp, rfl⟩ : ∃ wp, wp = wr := ⟨_, rfl⟩
            by_cases hlr : r < a.aps.n
            rotate_left
            · have hge : ¬ (r : Int) < a.aps.n := by omega
              have HFe := Lib.hid (show (remC a.rs.l a.cls.n a.aps.n (q + 1)).foldl better s = reasonL a.cls.n a.aps.n a.rs.l by have := HF.out; rwa [show r = a.aps.n by omega, remP_end] at this)
              go_wp2_with fail
              go_roundw
              case rel => exact ⟨q + 1, s, hlt, by go_num, HFe.out, HS.out, HD.out⟩
              case measure => simp [intOf]; omega
            · have hlr' : (r : Int) < a.aps.n := by omega
              obtain ⟨cv, hcv⟩ : ∃ z, coverL a.rs.l (someL a.rs.l q r) = z := ⟨_, rfl⟩
              have HFr := Lib.hid (show (remP a.rs.l a.cls.n a.aps.n q (r + 1)).foldl better (better s cv) = reasonL a.cls.n a.aps.n a.rs.l by have := HF.out; rwa [remP_step a.rs.l a.cls.n a.aps.n q r hlr, List.foldl_cons, hcv] at this)
              have HCV := Lib.hid hcv
              have x7 := HS.out.x.c 7 _ rfl
              clear HF hcv
              go_wp2_with fail
              clear x7
              go_loopw [10, 56] (fun v i X => ∃ k : Nat, k ≤ a.rs.l.length ∧ i = .int .i64 k ∧ Own X wp.heap.size 3 nc 1 v (someP a.rs.l q r k) ∧ Below wp.heap.size wp X) (fun _ i _ => a.rs.l.length - (intOf i).toNat)
              case atStart => exact ⟨0, Nat.zero_le _, rfl, Own.nil _ _ _ _ _, ext_refl _⟩
              case round =>
                obtain ⟨k, hk, rfl, hO, hB⟩ := hrel
                by_cases hlk : k < a.rs.l.length
                rotate_left
                · obtain rfl : k = a.rs.l.length := by omega
                  obtain ⟨A5, c5, rfl, hc5, -, -⟩ := hO.form
                  obtain ⟨sl, hsl⟩ : ∃ n, (someP a.rs.l q r a.rs.l.length).length = n := ⟨_, rfl⟩
                  have HSL := Lib.hid hsl
                  have hslb := someP_len a.rs.l q r a.rs.l.length
                  rw [hsl] at hO hc5 hslb ⊢
                  have HSo := Lib.hid (show Slc wr nc 1 A5 (someL a.rs.l q r) from hO.slc (fun _ => rfl) (by decide))
                  have HBr := Lib.hid hB
                  have HA5 := Lib.hid (HA0.out.ext (ext_trans HS.out.e hB))
                  have HSr := Lib.hid (HS.out.ext hB)
                  have HDr := Lib.hid ((hB.block D (Array.getElem?_eq_some_iff.1 HD.out).1).trans HD.out)
                  have Hidx := Lib.hid (someL_idx a.rs.l q r).2
                  clear hO hsl hB
                  obtain ⟨A6, c6, g1, g2, g3⟩ := HSr.out.b
                  have HG1 := Lib.hid g1
                  have HG2 := Lib.hid g2
                  clear g1 g2 g3
                  have hsb : s.length < 1000000 := by have := HSr.out.ln; omega
                  have HCvl := Lib.hid (show cv.length < 1000000 by have := coverL_len a.rs.l (someL a.rs.l q r) (someL_idx a.rs.l q r).1; rw [HCV.out, show (someL a.rs.l q r).length = sl from HSL.out] at this; omega)
                  go_wp2_with fail
                  refine region_only ?_
                  have SS := Lib.hid (show ∀ w', Below wr.heap.size wr w' → (fun w' => Below wr.heap.size wr w' ∧ w'.cell? ⟨v1.heap.size, 0, none⟩ = some (.func (.func 23) #[] #[.pointer (some ⟨w.heap.size + 1, 0, none⟩)]) ∧ w'.cell? ⟨w.heap.size, 7, none⟩ = some (.slice a.rs.A a.rs.l.length a.rs.c)) w' from fun w' h => ⟨h, (HSr.out.f.ext h).c 0 _ rfl, (HSr.out.x.ext h).c 7 _ rfl⟩)
                  refine rg_begin (S := (fun w' => Below wr.heap.size wr w' ∧ w'.cell? ⟨v1.heap.size, 0, none⟩ = some (.func (.func 23) #[] #[.pointer (some ⟨w.heap.size + 1, 0, none⟩)]) ∧ w'.cell? ⟨w.heap.size, 7, none⟩ = some (.slice a.rs.A a.rs.l.length a.rs.c))) 5 (by kernel_rfl) (by intro d; cases d <;> intro _ _ _ _ h <;> exact h) ?_ (fun Q7 hQ7 hN7 hHeld => ?_)
                  · exact SS.out _ (ext_drew (ext_refl _))
                  refine rg_take (i := 0) (some 81) (v := ?_) rfl rfl (by kernel_rfl) (by rfl) hQ7 hHeld ?_ ?_
                  rotate_left
                  · intro w7 hSw; (try dsimp only at hSw); go_simp; all_goals with_reducible rfl
                  try simp only [Act.put, List.setIfInBounds_toArray, List.set_cons_zero, List.set_cons_succ]
                  refine rg_take (i := 1) (some 82) (v := ?_) rfl rfl (by kernel_rfl) (by rfl) hQ7 hHeld ?_ ?_
                  rotate_left
                  · intro w7 hSw; (try dsimp only at hSw); go_simp; all_goals with_reducible rfl
                  try simp only [Act.put, List.setIfInBounds_toArray, List.set_cons_zero, List.set_cons_succ]
                  refine rg_take (i := 2) (some 83) (v := ?_) rfl rfl (by kernel_rfl) (by rfl) hQ7 hHeld ?_ ?_
                  rotate_left
                  · intro w7 hSw; (try dsimp only at hSw); go_simp; all_goals with_reducible rfl
                  try simp only [Act.put, List.setIfInBounds_toArray, List.set_cons_zero, List.set_cons_succ]
                  refine rg_take (i := 3) (some 84) (v := ?_) rfl rfl (by kernel_rfl) (by rfl) hQ7 hHeld ?_ ?_
                  rotate_left
                  · intro w7 hSw; (try dsimp only at hSw); go_simp; all_goals with_reducible rfl
                  try simp only [Act.put, List.setIfInBounds_toArray, List.set_cons_zero, List.set_cons_succ]
                  refine rg_one (i := 4) (by kernel_rfl) (rg_step rfl (by rfl) (fun K hK => ?_))
                  go_simp
                  refine (cover_at a.rs.c cv HCV.out HSL.out.symm (HA5.out.ext hHeld.1).rs (HSo.out.ext hHeld.1) (by rw [show (someL a.rs.l q r).length = sl from HSL.out]; omega) Hidx.out hlen' (by rw [show (someL a.rs.l q r).length = sl from HSL.out]; omega)).mono ?_
                  rintro e u4 ⟨A9, c9, rfl, hcov9⟩
                  go_wp2_with fail
                  refine hK.out _ _ ?_ (fun hHeld2 => ?_)
                  · exact SS.out _ (ext_trans hHeld.1 hcov9.2.1)
                  clear hHeld
                  have hHeld := hHeld2
                  clear hHeld2
                  clear hK K
                  try simp only [Act.put, List.setIfInBounds_toArray, List.set_cons_zero, List.set_cons_succ]
                  refine rg_one (i := 5) (by kernel_rfl) (rg_late rfl (by rfl) (by kernel_rfl) (fun K hK => ?_))
                  go_simp
                  refine (better_at c9 c6 rfl rfl (HG1.out.ext hHeld.1) hcov9.1 (HG2.out.ext hHeld.1) HCvl.out hsb).mono ?_
                  rintro e u5 ⟨⟨v7, rfl⟩, hb5⟩
                  go_wp2_with fail
                  refine hK.out _ _ ?_
                  clear hK K
                  try simp only [Act.put, List.setIfInBounds_toArray, List.set_cons_zero, List.set_cons_succ]
                  refine rg_end (by kernel_rfl) (hN7 _ _ ?_) _
                  clear hQ7 hN7 Q7
                  have BX := hHeld.1
                  clear SS
                  have BX := hHeld.1
                  obtain ⟨hs9, hB9, hl9⟩ := hcov9
                  have HS4 := HSr.out.ext BX
                  have HS5 := Lib.hid (HS4.better hb5.out hs9 (fun _ c o s e => by have h1 := hl9 c o s e; have h2 := HSr.out.ne; have h3 := HSr.out.f.lt; have h4 := sz_drew wr; omega) (by have := coverL_len a.rs.l (someL a.rs.l q r) (someL_idx a.rs.l q r).1; rw [HCV.out, show (someL a.rs.l q r).length = sl from HSL.out] at this; omega))
                  have HD5 := Lib.hid ((bet_block hb5.out (D := D) (by have h2 := HVZ.out; have h3 := HZ2.out; omega) (by have h1 := (Array.getElem?_eq_some_iff.1 HDr.out).1; have h2 := BX.size; omega)).trans ((BX.block D (Array.getElem?_eq_some_iff.1 HDr.out).1).trans HDr.out))
                  clear hHeld HS4 hs9 hB9 hl9 hb5 BX
                  refine onlyN ?_
                  go_wp2_with fail
                  go_roundw
                  case rel => exact ⟨r + 1, better s cv, hlr, by go_num, HFr.out, HS5.out, HD5.out⟩
                  case measure => simp [intOf]; omega
                · obtain ⟨x, b1, o1, hx, hA1, hb1, hd⟩ := ((HA0.out.ext HS.out.e).rs.ext hB).at_ hlk
                  have HX := Lib.hid hx
                  clear hx
                  have d0 := hd 0 _ rfl
                  have d1 := hd 1 _ rfl
                  have d2 := hd 2 _ rfl
                  have d3 := hd 3 _ rfl
                  have d4 := hd 4 _ rfl
                  have d5 := hd 5 _ rfl
                  have d6 := hd 6 _ rfl
                  have d7 := hd 7 _ rfl
                  simp only [Nat.add_zero] at d0
                  clear hd
                  have hlk' : (k : Int) < a.rs.l.length := by omega
                  have HSt := Lib.hid (someP_step (c := q) (p := r) HX.out)
                  have hB1 := Lib.hid (ext_alloc hB (.cells #[.int .i64 x.k, .string x.sc, .string x.sa, .int .i64 x.cl, .int .i64 x.ap, .int .i64 x.n, .int .i64 x.f, .int .i64 x.t] 42))
                  have HO := Lib.hid (hO.alloc (.cells #[.int .i64 x.k, .string x.sc, .string x.sa, .int .i64 x.cl, .int .i64 x.ap, .int .i64 x.n, .int .i64 x.f, .int .i64 x.t] 42))
                  obtain ⟨p1, hp1⟩ : ∃ p, (x.k == 1) = p := ⟨_, rfl⟩
                  obtain ⟨p2, hp2⟩ : ∃ p, (x.cl == (q : Int)) = p := ⟨_, rfl⟩
                  obtain ⟨p3, hp3⟩ : ∃ p, (x.ap == (r : Int)) = p := ⟨_, rfl⟩
                  have HCc := Lib.hid (show isC q r x = (p1 && p2 && p3) by rw [← hp1, ← hp2, ← hp3]; rfl)
                  have no : (p1 && p2 && p3) = false → someP a.rs.l q r (k + 1) = someP a.rs.l q r k := fun h => by rw [HSt.out, HCc.out, h]; simp
                  have HNo := Lib.hid no
                  clear no hO
                  have fin : (p1 && p2 && p3) = false → _ := fun h => by have := HO.out; rw [← HNo.out h] at this; exact this
                  have HFn := Lib.hid fin
                  clear fin
                  cases p1
                  · go_wp2_with fail
                    (try rw [← hA1])
                    go_roundw
                    case rel => exact ⟨k + 1, hlk, by go_num, HFn.out rfl, hB1.out⟩
                    case measure => simp [intOf]; omega
                  cases p2
                  · go_wp2_with fail
                    (try rw [← hA1])
                    go_roundw
                    case rel => exact ⟨k + 1, hlk, by go_num, HFn.out rfl, hB1.out⟩
                    case measure => simp [intOf]; omega
                  cases p3
                  · go_wp2_with fail
                    (try rw [← hA1])
                    go_roundw
                    case rel => exact ⟨k + 1, hlk, by go_num, HFn.out rfl, hB1.out⟩
                    case measure => simp [intOf]; omega
                  clear HFn HNo
                  have hl1 := someP_len a.rs.l q r k
                  have hl2 := someP_len a.rs.l q r (k + 1)
                  obtain ⟨A, c, rfl, hc, _, _⟩ := HO.out.form
                  have hSl := slc_litH (wr.alloc (.cells #[.int .i64 x.k, .string x.sc, .string x.sa, .int .i64 x.cl, .int .i64 x.ap, .int .i64 x.n, .int .i64 x.f, .int .i64 x.t] 42)) [k] #[.int .i64 (k : Int)] 3 (enc := nc) (sz := 1) (fun _ => rfl) rfl (wr.heap.size + 1) (by simp)
                  obtain ⟨v', w5, hrun, A6, c6, hv6, hO6, hB5, hg5, hc6, hm6⟩ := Own.append_k (w0 := wp) I34 34 (HO.out.alloc (.cells #[.int .i64 (k : Int)] 3)) (ext_alloc hB1.out _) (ys := [k]) (m := 1) rfl 1 hSl (someP a.rs.l q r (k + 1)) (by rw [HSt.out, HCc.out]; rfl) _ rfl (by omega) (by unfold maxLen; omega)
                  rw [← hv6] at hO6
                  have HRUN := Lib.hid hrun
                  have HO6 := Lib.hid hO6
                  have HB5 := Lib.hid hB5
                  clear hrun hO6 hB5 hg5 hSl HSt HCc hl1 hl2 hv6 hc6 hm6
                  go_wp2_with (at_builtin; refine wpList_append_run rfl (.tmp 76) (.tmp 78) 34 rfl (.slice A (someP a.rs.l q r k).length c) (.slice (some ⟨wr.heap.size + 1, 0, none⟩) 1 1) rfl rfl HRUN.out ?_)
                  rw [← hA1]
                  go_roundw
                  case rel => exact ⟨k + 1, hlk, by go_num, HO6.out, HB5.out⟩
                  case measure => simp [intOf]; omega
    have HK := Lib.hid hcont
    clear hcont a1
    refine wpIn_rangeFunc_ownH (F := Fence.wide) rfl (by decide) (gf := 42) (lb := #[.pointer (some ⟨v1.heap.size + 1, 0, none⟩)]) rfl trivial (enters_of Try.func42 (by kernel_rfl) rfl)
      (pairs_stops 4 (by decide) w2.heap.size (fun b => b = w.heap.size + 1) (v1.heap.size + 1) a.rs.l.length (by omega) w2 (Nat.le_refl _) HCC.out) KpE.t (KpE.b (Nat.le_refl _)) (Below.refl _ _) (fun _ => rfl)
      (fun pre W => Hid (∀ y ∈ rawX pre, agP a.rs.l y = false) ∧ Below w2.heap.size w2 W ∧ RSt w a v1.heap.size [] W)
      (fun cc pre W => cc = Code.exit 0 ∧ ∃ (p : List (PX a.rs.l.length)) (y : PX a.rs.l.length), pre = p ++ [y] ∧ (∀ z ∈ rawX p, agP a.rs.l z = false) ∧ agP a.rs.l y.1 = true ∧ RSt w a v1.heap.size (better [] [y.1.1, y.1.2]) W)
      (fun s X Y row hs hg hr => by
        obtain ⟨h1, h2, h3⟩ := hs
        exact ⟨h1, h2.grown hg h2.size (fun r e => (hr r e).1), h3.turn hg (fun r e => ⟨Nat.le_trans hwz (hr r e).1, (hr r e).2⟩)⟩)
      (fun cc s X Y row hs hg hr => by
        obtain ⟨h0, p, y, h1, h2, h3, h4⟩ := hs
        exact ⟨h0, p, y, h1, h2, h3, h4.turn hg (fun r e => ⟨Nat.le_trans hwz (hr r e).1, (hr r e).2⟩)⟩)
      ⟨fun y hy => by simp [rawX] at hy, Below.refl _ _, HR0.out⟩
      (fun x a' W => a' = { tmps := #[.agg #[.slice a.s0.A a.s0.n a.s0.c, .slice a.s1.A a.s1.n a.s1.c, .slice a.s2.A a.s2.n a.s2.c, .slice a.s3.A a.s3.n a.s3.c, .slice a.s4.A a.s4.n a.s4.c, .slice a.aps.A a.aps.n a.aps.c, .slice a.cls.A a.cls.n a.cls.c, .slice a.rs.A a.rs.l.length a.rs.c], .pointer (some ⟨w.heap.size, 0, none⟩), .pointer (some ⟨w.heap.size + 1, 0, none⟩), .int .i64 0, .int .i64 0, .pointer (some ⟨v1.heap.size, 0, none⟩), .int .i64 (x.1.1 : Int), .int .i64 (x.1.2 : Int), undef, undef, undef, undef, undef, .agg #[.slice a.s0.A a.s0.n a.s0.c, .slice a.s1.A a.s1.n a.s1.c, .slice a.s2.A a.s2.n a.s2.c, .slice a.s3.A a.s3.n a.s3.c, .slice a.s4.A a.s4.n a.s4.c, .slice a.aps.A a.aps.n a.aps.c, .slice a.cls.A a.cls.n a.cls.c, .slice a.rs.A a.rs.l.length a.rs.c], .int .i64 0, .int .i64 0, .bool false, undef, .func (.func 23) #[] #[.pointer (some ⟨w.heap.size + 1, 0, none⟩)], .pointer (some ⟨w.heap.size, 7, none⟩), .slice a.rs.A a.rs.l.length a.rs.c, .int .i64 (a.rs.l.length : Int), .func (.func 42) #[] #[.pointer (some ⟨v1.heap.size + 1, 0, none⟩)], .int .i64 (x.1.1 : Int), .int .i64 (x.1.2 : Int), undef, undef, undef, undef, undef, undef, undef, undef, undef, undef, undef, undef, undef, undef, undef, undef, undef, undef, undef, undef, undef, undef, undef, undef, undef, undef, undef, undef, undef, undef, undef, undef, undef, undef, undef, undef, undef, undef, undef, undef, undef, undef, undef, undef, undef, undef, undef, undef, undef, undef, undef, undef, undef, undef, undef, undef, undef, undef, undef, undef, undef, undef, undef, undef, undef], defers := [] })
      (fun x a' _ X Y row hs hg hr => hs) ?assign ?body ?done ?stop
    case assign =>
      rintro ll pre x W K hI hK
      simp only [encX, encP]
      gi_wp2
      exact hK _ _ (KeepsOthers.refl _ |>.from _) ⟨Kx.refl _, Nat.le_refl _⟩ hI rfl
    case done =>
      rintro D ys W hD hys ⟨h1, h2, h3⟩ hK
      refine HK.out D W hD hK ?_
      rw [pairS_none (fun x hx => h1.out x (by rw [hys]; exact hx))]
      exact h3
    case stop =>
      rintro D cc pre W hD hpre ⟨rfl, p, y, rfl, h2, h3, h4⟩ hK
      rw [rawX_snoc] at hpre
      gi_wp2_with fail
      refine HK.out D W hD hK ?_
      rw [pairS_some hpre h2 h3]
      exact h4
    case body =>
      rintro ll pre ⟨⟨i, k⟩, hik, hkN⟩ a' W _ _ ⟨h1, h2, h3⟩ rfl hlt
      simp only at hik hkN ⊢
      have HP := h1
      have HB2 := Lib.hid h2
      have HS := Lib.hid h3
      have hA := HA0.out.ext h3.e
      obtain ⟨x, b1, o1, hx, hA1, hb1, hd⟩ := hA.rs.at_ (show i < a.rs.l.length by omega)
      obtain ⟨y, b2, o2, hy, hA2, hb2, he⟩ := hA.rs.at_ hkN
      have e12 : (⟨b1, o1, none⟩ : Addr) = ⟨b2, o2, none⟩ := Option.some.inj (hA1.symm.trans hA2)
      injection e12 with e1 e2
      subst e1 e2
      have d0 := hd 0 _ rfl
      have d1 := hd 1 _ rfl
      have d2 := hd 2 _ rfl
      have d3 := hd 3 _ rfl
      have d4 := hd 4 _ rfl
      have d5 := hd 5 _ rfl
      have d6 := hd 6 _ rfl
      have d7 := hd 7 _ rfl
      have e0 := he 0 _ rfl
      have e1 := he 1 _ rfl
      have e2 := he 2 _ rfl
      have e3 := he 3 _ rfl
      have e4 := he 4 _ rfl
      have e5 := he 5 _ rfl
      have e6 := he 6 _ rfl
      have e7 := he 7 _ rfl
      simp only [Nat.add_zero] at d0 e0
      have HXs := Lib.hid (show Blk W w.heap.size [.slice a.s0.A a.s0.n a.s0.c, .slice a.s1.A a.s1.n a.s1.c, .slice a.s2.A a.s2.n a.s2.c, .slice a.s3.A a.s3.n a.s3.c, .slice a.s4.A a.s4.n a.s4.c, .slice a.aps.A a.aps.n a.aps.c, .slice a.cls.A a.cls.n a.cls.c, .slice (some ⟨b1, o1, none⟩) a.rs.l.length a.rs.c] by rw [← hA1]; exact h3.x)
      obtain ⟨bv, hbv⟩ : ∃ v, agR x y = v := ⟨_, rfl⟩
      have HBV := Lib.hid hbv
      have HAG := Lib.hid (show agP a.rs.l (i, k) = bv by simp only [agP, atI, hx, hy, hbv])
      have hi' : (i : Int) < a.rs.l.length := by omega
      have hk' : (k : Int) < a.rs.l.length := by omega
      have hW2 : w2.heap.size ≤ W.heap.size := h2.size
      clear hx hy hA1 hA2 hb2 hd he hbv h1 h2 h3 hA HK hlt HCC HR0
      gi_wp2_with fail
      have SS := Lib.hid (show ∀ w', Below W.heap.size W w' → (fun w' => Below W.heap.size W w' ∧ w'.cell? ⟨w.heap.size, 7, none⟩ = some (.slice (some ⟨b1, o1, none⟩) a.rs.l.length a.rs.c) ∧ w'.cell? ⟨b1, o1 + i * 8, none⟩ = some (.int .i64 x.k) ∧ w'.cell? ⟨b1, o1 + i * 8 + 1, none⟩ = some (.string x.sc) ∧ w'.cell? ⟨b1, o1 + i * 8 + 2, none⟩ = some (.string x.sa) ∧ w'.cell? ⟨b1, o1 + i * 8 + 3, none⟩ = some (.int .i64 x.cl) ∧ w'.cell? ⟨b1, o1 + i * 8 + 4, none⟩ = some (.int .i64 x.ap) ∧ w'.cell? ⟨b1, o1 + i * 8 + 5, none⟩ = some (.int .i64 x.n) ∧ w'.cell? ⟨b1, o1 + i * 8 + 6, none⟩ = some (.int .i64 x.f) ∧ w'.cell? ⟨b1, o1 + i * 8 + 7, none⟩ = some (.int .i64 x.t) ∧ w'.cell? ⟨b1, o1 + k * 8, none⟩ = some (.int .i64 y.k) ∧ w'.cell? ⟨b1, o1 + k * 8 + 1, none⟩ = some (.string y.sc) ∧ w'.cell? ⟨b1, o1 + k * 8 + 2, none⟩ = some (.string y.sa) ∧ w'.cell? ⟨b1, o1 + k * 8 + 3, none⟩ = some (.int .i64 y.cl) ∧ w'.cell? ⟨b1, o1 + k * 8 + 4, none⟩ = some (.int .i64 y.ap) ∧ w'.cell? ⟨b1, o1 + k * 8 + 5, none⟩ = some (.int .i64 y.n) ∧ w'.cell? ⟨b1, o1 + k * 8 + 6, none⟩ = some (.int .i64 y.f) ∧ w'.cell? ⟨b1, o1 + k * 8 + 7, none⟩ = some (.int .i64 y.t)) w' from fun w' h => ⟨h, (HXs.out.ext h).c 7 _ rfl, (h.cell (p := ⟨b1, o1 + i * 8, none⟩) hb1).trans d0, (h.cell (p := ⟨b1, o1 + i * 8 + 1, none⟩) hb1).trans d1, (h.cell (p := ⟨b1, o1 + i * 8 + 2, none⟩) hb1).trans d2, (h.cell (p := ⟨b1, o1 + i * 8 + 3, none⟩) hb1).trans d3, (h.cell (p := ⟨b1, o1 + i * 8 + 4, none⟩) hb1).trans d4, (h.cell (p := ⟨b1, o1 + i * 8 + 5, none⟩) hb1).trans d5, (h.cell (p := ⟨b1, o1 + i * 8 + 6, none⟩) hb1).trans d6, (h.cell (p := ⟨b1, o1 + i * 8 + 7, none⟩) hb1).trans d7, (h.cell (p := ⟨b1, o1 + k * 8, none⟩) hb1).trans e0, (h.cell (p := ⟨b1, o1 + k * 8 + 1, none⟩) hb1).trans e1, (h.cell (p := ⟨b1, o1 + k * 8 + 2, none⟩) hb1).trans e2, (h.cell (p := ⟨b1, o1 + k * 8 + 3, none⟩) hb1).trans e3, (h.cell (p := ⟨b1, o1 + k * 8 + 4, none⟩) hb1).trans e4, (h.cell (p := ⟨b1, o1 + k * 8 + 5, none⟩) hb1).trans e5, (h.cell (p := ⟨b1, o1 + k * 8 + 6, none⟩) hb1).trans e6, (h.cell (p := ⟨b1, o1 + k * 8 + 7, none⟩) hb1).trans e7⟩)
      refine rg_beginR (S := (fun w' => Below W.heap.size W w' ∧ w'.cell? ⟨w.heap.size, 7, none⟩ = some (.slice (some ⟨b1, o1, none⟩) a.rs.l.length a.rs.c) ∧ w'.cell? ⟨b1, o1 + i * 8, none⟩ = some (.int .i64 x.k) ∧ w'.cell? ⟨b1, o1 + i * 8 + 1, none⟩ = some (.string x.sc) ∧ w'.cell? ⟨b1, o1 + i * 8 + 2, none⟩ = some (.string x.sa) ∧ w'.cell? ⟨b1, o1 + i * 8 + 3, none⟩ = some (.int .i64 x.cl) ∧ w'.cell? ⟨b1, o1 + i * 8 + 4, none⟩ = some (.int .i64 x.ap) ∧ w'.cell? ⟨b1, o1 + i * 8 + 5, none⟩ = some (.int .i64 x.n) ∧ w'.cell? ⟨b1, o1 + i * 8 + 6, none⟩ = some (.int .i64 x.f) ∧ w'.cell? ⟨b1, o1 + i * 8 + 7, none⟩ = some (.int .i64 x.t) ∧ w'.cell? ⟨b1, o1 + k * 8, none⟩ = some (.int .i64 y.k) ∧ w'.cell? ⟨b1, o1 + k * 8 + 1, none⟩ = some (.string y.sc) ∧ w'.cell? ⟨b1, o1 + k * 8 + 2, none⟩ = some (.string y.sa) ∧ w'.cell? ⟨b1, o1 + k * 8 + 3, none⟩ = some (.int .i64 y.cl) ∧ w'.cell? ⟨b1, o1 + k * 8 + 4, none⟩ = some (.int .i64 y.ap) ∧ w'.cell? ⟨b1, o1 + k * 8 + 5, none⟩ = some (.int .i64 y.n) ∧ w'.cell? ⟨b1, o1 + k * 8 + 6, none⟩ = some (.int .i64 y.f) ∧ w'.cell? ⟨b1, o1 + k * 8 + 7, none⟩ = some (.int .i64 y.t))) 11 (by kernel_rfl) (by intro d; cases d <;> intro _ _ _ _ h <;> exact h) ?_ (fun Q7 hQ7 hN7 hHeld => ?_)
      · exact SS.out _ (ext_drew (ext_refl _))
      refine rg_take (i := 0) (some 25) (v := ?_) rfl rfl (by kernel_rfl) (by rfl) hQ7 hHeld ?_ ?_
      rotate_left
      · intro w7 hSw; (try dsimp only at hSw); go_simp; all_goals with_reducible rfl
      try simp only [Act.put, List.setIfInBounds_toArray, List.set_cons_zero, List.set_cons_succ]
      refine rg_take (i := 1) (some 26) (v := ?_) rfl rfl (by kernel_rfl) (by rfl) hQ7 hHeld ?_ ?_
      rotate_left
      · intro w7 hSw; (try dsimp only at hSw); go_simp; all_goals with_reducible rfl
      try simp only [Act.put, List.setIfInBounds_toArray, List.set_cons_zero, List.set_cons_succ]
      refine rg_take (i := 2) (some 27) (v := ?_) rfl rfl (by kernel_rfl) (by rfl) hQ7 hHeld ?_ ?_
      rotate_left
      · intro w7 hSw; (try dsimp only at hSw); go_simp; all_goals with_reducible rfl
      try simp only [Act.put, List.setIfInBounds_toArray, List.set_cons_zero, List.set_cons_succ]
      refine rg_take (i := 3) (some 28) (v := ?_) rfl rfl (by kernel_rfl) (by rfl) hQ7 hHeld ?_ ?_
      rotate_left
      · intro w7 hSw; (try dsimp only at hSw); go_simp; all_goals with_reducible rfl
      try simp only [Act.put, List.setIfInBounds_toArray, List.set_cons_zero, List.set_cons_succ]
      refine rg_take (i := 4) (some 29) (v := ?_) rfl rfl (by kernel_rfl) (by rfl) hQ7 hHeld ?_ ?_
      rotate_left
      · intro w7 hSw; (try dsimp only at hSw); go_simp; all_goals with_reducible rfl
      try simp only [Act.put, List.setIfInBounds_toArray, List.set_cons_zero, List.set_cons_succ]
      refine rg_take (i := 5) (some 30) (v := ?_) rfl rfl (by kernel_rfl) (by rfl) hQ7 hHeld ?_ ?_
      rotate_left
      · intro w7 hSw; (try dsimp only at hSw); go_simp; all_goals with_reducible rfl
      try simp only [Act.put, List.setIfInBounds_toArray, List.set_cons_zero, List.set_cons_succ]
      refine rg_take (i := 6) (some 31) (v := ?_) rfl rfl (by kernel_rfl) (by rfl) hQ7 hHeld ?_ ?_
      rotate_left
      · intro w7 hSw; (try dsimp only at hSw); go_simp; all_goals with_reducible rfl
      try simp only [Act.put, List.setIfInBounds_toArray, List.set_cons_zero, List.set_cons_succ]
      refine rg_take (i := 7) (some 32) (v := ?_) rfl rfl (by kernel_rfl) (by rfl) hQ7 hHeld ?_ ?_
      rotate_left
      · intro w7 hSw; (try dsimp only at hSw); go_simp; all_goals with_reducible rfl
      try simp only [Act.put, List.setIfInBounds_toArray, List.set_cons_zero, List.set_cons_succ]
      refine rg_take (i := 8) (some 33) (v := ?_) rfl rfl (by kernel_rfl) (by rfl) hQ7 hHeld ?_ ?_
      rotate_left
      · intro w7 hSw; (try dsimp only at hSw); go_simp; all_goals with_reducible rfl
      try simp only [Act.put, List.setIfInBounds_toArray, List.set_cons_zero, List.set_cons_succ]
      refine rg_take (i := 9) (some 34) (v := ?_) rfl rfl (by kernel_rfl) (by rfl) hQ7 hHeld ?_ ?_
      rotate_left
      · intro w7 hSw; (try dsimp only at hSw); go_simp; all_goals with_reducible rfl
      try simp only [Act.put, List.setIfInBounds_toArray, List.set_cons_zero, List.set_cons_succ]
      refine rg_one (i := 10) (by kernel_rfl) (rg_step rfl (by rfl) (fun K hK => ?_))
      go_simp
      refine (against_at (x := x) (y := y) bv HBV.out).mono ?_
      rintro e u1 ⟨rfl, B1⟩
      go_wp2_with fail
      refine hK.out _ _ ?_ (fun hHeld2 => ?_)
      · exact SS.out _ (ext_trans hHeld.1 B1)
      clear hHeld
      have hHeld := hHeld2
      clear hHeld2
      clear hK K
      try simp only [Act.put, List.setIfInBounds_toArray, List.set_cons_zero, List.set_cons_succ]
      refine rg_end (by kernel_rfl) (hN7 _ _ ?_) _
      clear hQ7 hN7 Q7
      have BX := hHeld.1
      clear SS
      refine onlyN ?_
      have HS1 := Lib.hid (HS.out.ext BX)
      have HBX := Lib.hid BX
      clear BX hHeld d0 e0 d1 e1 d2 e2 d3 e3 d4 e4 d5 e5 d6 e6 d7 e7
      cases bv
      · gi_wp2_with fail
        refine ⟨(KeepsOthers.of_grownBy (grown_below HBX.out) (by simp)).from _, ⟨Kx.below HBX.out hW2, HBX.out.size⟩, Lib.hid (fun z hz => ?_), ext_trans HB2.out HBX.out, HS1.out⟩
        have hz2 : z ∈ rawX pre ++ [(i, k)] := (rawX_snoc pre ⟨(i, k), hik, hkN⟩) ▸ hz
        rcases List.mem_append.1 hz2 with h | h
        · exact HP.out z h
        · obtain rfl : z = (i, k) := by simpa using h
          exact HAG.out
      · have z0 := HS1.out.f.c 0 _ rfl
        obtain ⟨A', c', g1, g2, g3⟩ := HS1.out.b
        have hS := slc_litH u1 [i, k] #[.int .i64 (i : Int), .int .i64 (k : Int)] 3 (enc := nc) (sz := 1) (fun _ => rfl) rfl u1.heap.size rfl
        have HBt := Lib.hid (better_any (w.heap.size + 1) (some ⟨u1.heap.size, 0, none⟩) A' 2 c' 2 0 [i, k] [] _ rfl rfl (g1.alloc (.cells #[.int .i64 (i : Int), .int .i64 (k : Int)] 3)) hS (g2.ext (ext_alloc (ext_refl _) _)) (by simp) (by simp))
        have HSl := Lib.hid hS
        have HBn := Lib.hid (show u1.heap.size ≠ w.heap.size + 1 by have h1 := HS1.out.ne; have h2 := HS1.out.f.lt; omega)
        clear g1 g2 g3 hS
        gi_wp2_with fail
        refine ⟨trivial, (CallsIn.inRound ll (callsIn_wide.2 HBt.out)).mono ?_⟩
        rintro e W' hbt
        have HB7 := Lib.hid hbt
        obtain ⟨⟨v7, rfl⟩, -⟩ := hbt
        have hRS := Lib.hid ((HS1.out.alloc (.cells #[.int .i64 (i : Int), .int .i64 (k : Int)] 3)).better HB7.out HSl.out (fun _ c o s e => by cases e; exact HBn.out) (by simp))
        clear HBt
        gi_wp2_with fail
        exact ⟨((KeepsOthers.of_grownBy (grown_below HBX.out) (by simp)).trans ((KeepsOthers.alloc _ _).trans (bet_keeps HB7.out))).from _, rfl, pre, ⟨(i, k), hik, hkN⟩, rfl, HP.out, HAG.out, hRS.out⟩
end Go.Proofs.Ytmgpbjpohbpgpaa
