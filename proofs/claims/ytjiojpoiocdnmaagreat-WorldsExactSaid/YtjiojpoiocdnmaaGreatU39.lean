/- Fewer reports, more faults, wider shifts: the plain law. No program in sight. -/
import Derived.Test.YtjiojpoiocdnmaaGreatQF
import Derived.Test.YtjiojpoiocdnmaaGreatU9
import Derived.Test.YtjiojpoiocdnmaaGreatU2
import Derived.Test.YtjiojpoiocdnmaaGreatNJ
import Derived.Test.YtjiojpoiocdnmaaGreatU8
import Derived.Test.YtjiojpoiocdnmaaGreatU17
import Derived.Test.YtjiojpoiocdnmaaGreatU19
import Derived.Test.YtjiojpoiocdnmaaGreatNZ
import Derived.Test.YtjiojpoiocdnmaaGreatNQ
import Derived.Test.YtjiojpoiocdnmaaGreatU35
import Derived.Test.YtjiojpoiocdnmaaGreatME
import Derived.Test.YtjiojpoiocdnmaaGreatMN
set_option linter.unusedSimpArgs false
set_option linter.unusedVariables false
namespace Go.Proofs.YtjiojpoiocdnmaaGreat
open Go.RowKit
theorem possL_len (t : Tab) (s : List Stn) (R : List Rep) (l : List Trk) : (possL t s R l).length = l.length := by simp [possL]
theorem possV0 {t : Tab} {s : List Stn} {R : List Rep} {l : List Trk} (h : possErr t s R l = 0) : possV t s R l = possL t s R l := by unfold possV; rw [if_pos h]
theorem possL_at {t : Tab} {s : List Stn} {R : List Rep} {l : List Trk} {n : Nat} {x : List Bool} (h : (possL t s R l)[n]? = some x) : x.length = (msT l).getD n 0 ∧ ∀ (k : Nat) (b : Bool), x[k]? = some b → b = possB t s R l n k := by
  unfold possL at h
  rw [List.getElem?_map] at h
  obtain ⟨m, hm, rfl⟩ := Option.map_eq_some_iff.1 h
  have hn := (List.getElem?_eq_some_iff.1 hm).1
  rw [List.length_range] at hn
  rw [List.getElem?_range hn] at hm
  cases hm
  refine ⟨by simp, fun k b hb => ?_⟩
  rw [List.getElem?_map] at hb
  obtain ⟨q, hq, rfl⟩ := Option.map_eq_some_iff.1 hb
  have hk := (List.getElem?_eq_some_iff.1 hq).1
  rw [List.length_range] at hk
  rw [List.getElem?_range hk] at hq
  cases hq
  rfl
section
variable {t : Tab} {s : List Stn} {R R2 : List Rep} {l : List Trk}
end
end Go.Proofs.YtjiojpoiocdnmaaGreat
/- Slices cut; stations changed; law 3. -/
set_option linter.unusedSimpArgs false
set_option linter.unusedVariables false
namespace Go.Proofs.YtjiojpoiocdnmaaGreat
open Go.RowKit Go.Shelf
def StnS (W : World) (A : Option Addr) (c : Nat) (l : List Stn) : Prop := SliceOf.ok Stn.cells 3 Stn.ok W ⟨A, c, l⟩
theorem StnS.ext {W W' : World} {A : Option Addr} {c : Nat} {l : List Stn} (h : StnS W A c l) (hb : Below W.heap.size W W') : StnS W' A c l := SliceOf.ok.ext h hb (fun _ k => k.ext hb)
theorem light_at {t : Tab} {SA RA LA : Option Addr} {sn sc rn rc ln lc : Nat} {s : List Stn} {R : List Rep} {l : List Trk} {w : World} (most : Nat) (m : Int) (hm : m = most) (hm1 : 1 ≤ most) (hm2 : most ≤ 1000) (hsn : sn = s.length) (hrn : rn = R.length) (hln : ln = l.length) (hrm : rn ≤ maxLen) (ht : Tab.ok w t) (hs : StnS w SA sc s) (hl : TrkS w LA lc l) :
    Calls Tryz.prog 10 #[t.v, .slice SA sn sc, .slice RA rn rc, .slice LA ln lc, .int .i64 m] w (FewR w (LightP most s R l)) := by
  subst hm hsn hln
  exact light10 most hm1 hm2 t SA sc s RA rn rc LA lc l R w hrn hrm ht hs hl
end Go.Proofs.YtjiojpoiocdnmaaGreat
/- The stays of all paths of all tracks: the reference's 'stays'. -/
set_option linter.unusedSimpArgs false
set_option linter.unusedVariables false
namespace Go.Proofs.YtjiojpoiocdnmaaGreat
open Go.RowKit
/-- Rows of rows of stays, in memory. -/
structure STR (W : World) (base : Nat) (v : Value) (st : List (SliceOf (SliceOf Sty))) : Prop where
 o : Own W base 135 SliceOf.enc 1 v st
 r : ∀ x ∈ st, Own W base 95 SliceOf.enc 1 x.v x.l
 q : ∀ x ∈ st, ∀ y ∈ x.l, Own W base 113 Sty.cells 4 y.v y.l
theorem STR.ext {W W' : World} {base : Nat} {v : Value} {st : List (SliceOf (SliceOf Sty))} (h : STR W base v st) (hb : Below W.heap.size W W') : STR W' base v st :=
 ⟨h.o.ext hb, fun x hx => (h.r x hx).ext hb, fun x hx y hy => (h.q x hx y hy).ext hb⟩
theorem STR.low {W : World} {base b2 : Nat} {v : Value} {st : List (SliceOf (SliceOf Sty))} (h : STR W base v st) (hb : b2 ≤ base) : STR W b2 v st :=
 ⟨h.o.low hb, fun x hx => (h.r x hx).low hb, fun x hx y hy => (h.q x hx y hy).low hb⟩
theorem STR.add {W W' : World} {base : Nat} {v v' : Value} {st : List (SliceOf (SliceOf Sty))} {x : SliceOf (SliceOf Sty)} (h : STR W base v st) (hx : Own W base 95 SliceOf.enc 1 x.v x.l) (hq : ∀ y ∈ x.l, Own W base 113 Sty.cells 4 y.v y.l)
  (ho : Own W' base 135 SliceOf.enc 1 v' (st ++ [x])) (hg : W.grownBy W' v.ownBlock) : STR W' base v' (st ++ [x]) := by
 refine ⟨ho, fun y hy => ?_, fun y hy z hz => ?_⟩
 ·have h1 : Own W base 95 SliceOf.enc 1 y.v y.l := by
   rcases List.mem_append.1 hy with hy | hy
   ·exact h.r y hy
   ·obtain rfl := List.mem_singleton.1 hy; exact hx
  exact Own.far h1 hg (fun k e e' => h.o.ne h1 (by decide) k e' e)
 ·have h1 : Own W base 113 Sty.cells 4 z.v z.l := by
   rcases List.mem_append.1 hy with hy | hy
   ·exact h.q y hy z hz
   ·obtain rfl := List.mem_singleton.1 hy; exact hq z hz
  exact Own.far h1 hg (fun k e e' => h.o.ne h1 (by decide) k e' e)
end Go.Proofs.YtjiojpoiocdnmaaGreat
/- Are picks and shifts a world: the reference's 'world'. -/
set_option linter.unusedSimpArgs false
set_option linter.unusedVariables false
namespace Go.Proofs.YtjiojpoiocdnmaaGreat
open Go.RowKit
/-- Rows of rows of stays that can be read. -/
structure STV (W : World) (A : Option Addr) (st : List (SliceOf (SliceOf Sty))) : Prop where
 o : Slc W SliceOf.enc 1 A st
 r : ∀ x ∈ st, Slc W SliceOf.enc 1 x.A x.l
 q : ∀ x ∈ st, ∀ y ∈ x.l, Slc W Sty.cells 4 y.A y.l ∧ y.l.length ≤ maxLen
theorem STV.ext {W W' : World} {A : Option Addr} {st : List (SliceOf (SliceOf Sty))} (h : STV W A st) (hb : Below W.heap.size W W') : STV W' A st :=
 ⟨h.o.ext hb, fun x hx => (h.r x hx).ext hb, fun x hx y hy => ⟨(h.q x hx y hy).1.ext hb, (h.q x hx y hy).2⟩⟩
end Go.Proofs.YtjiojpoiocdnmaaGreat
/- The combinations of shifts: the reference's Shifts. -/
set_option linter.unusedSimpArgs false
set_option linter.unusedVariables false
namespace Go.Proofs.YtjiojpoiocdnmaaGreat
open Go.RowKit
/-- Rows of numbers, in memory. -/
structure MI (W : World) (base : Nat) (v : Value) (rows : List (SliceOf Int)) : Prop where
 o : Own W base 39 SliceOf.enc 1 v rows
 r : ∀ x ∈ rows, Own W base 3 ic 1 x.v x.l
theorem MI.ext {W W' : World} {base : Nat} {v : Value} {rows : List (SliceOf Int)} (h : MI W base v rows) (hb : Below W.heap.size W W') : MI W' base v rows :=
 ⟨h.o.ext hb, fun x hx => (h.r x hx).ext hb⟩
theorem MI.low {W : World} {base b2 : Nat} {v : Value} {rows : List (SliceOf Int)} (h : MI W base v rows) (hb : b2 ≤ base) : MI W b2 v rows :=
 ⟨h.o.low hb, fun x hx => (h.r x hx).low hb⟩
theorem MI.slc {W : World} {base : Nat} {A : Option Addr} {n c : Nat} {rows : List (SliceOf Int)} (h : MI W base (.slice A n c) rows) : Slc W SliceOf.enc 1 A rows := h.o.slc (fun _ => rfl) (by decide)
theorem own_ints {W : World} {base : Nat} {A : Option Addr} {n c : Nat} {l : List Int} (h : Own W base 3 ic 1 (.slice A n c) l) : Slc W ic 1 A l := h.slc (fun _ => rfl) (by decide)
theorem MI.add {W W' : World} {base : Nat} {v v' : Value} {rows : List (SliceOf Int)} {x : SliceOf Int} (h : MI W base v rows) (hx : Own W base 3 ic 1 x.v x.l) (ho : Own W' base 39 SliceOf.enc 1 v' (rows ++ [x])) (hg : W.grownBy W' v.ownBlock) : MI W' base v' (rows ++ [x]) := by
 refine ⟨ho, fun y hy => ?_⟩
 have h1 : Own W base 3 ic 1 y.v y.l := by
  rcases List.mem_append.1 hy with hy | hy
  ·exact h.r y hy
  ·obtain rfl := List.mem_singleton.1 hy; exact hx
 exact Own.far h1 hg (fun k e e' => h.o.ne h1 (by decide) k e' e)
end Go.Proofs.YtjiojpoiocdnmaaGreat
/- Are there too many combinations: the reference's 'tooMany'. -/
set_option linter.unusedSimpArgs false
set_option linter.unusedVariables false
namespace Go.Proofs.YtjiojpoiocdnmaaGreat
open Go.RowKit
theorem msT_at {l : List Trk} {k : Nat} {x : Trk} (h : l[k]? = some x) : (msT l).getD k 0 = x.ps.l.length := by
 unfold msT
 rw [List.getD_eq_getElem?_getD, List.getElem?_map, h]; rfl
end Go.Proofs.YtjiojpoiocdnmaaGreat
/- The next picks: the reference's 'next'. -/
set_option linter.unusedSimpArgs false
set_option linter.unusedVariables false
namespace Go.Proofs.YtjiojpoiocdnmaaGreat
open Go.RowKit
theorem own_getC {W : World} {base B n c : Nat} {x : List Nat} (h : Own W base 3 ic 1 (.slice (some ⟨B, 0, none⟩) n c) (nums x)) {j d : Nat} (hd : x[j]? = some d) : W.cell? ⟨B, j, none⟩ = some (.int .i64 d) ∧ B < W.heap.size := by
 have hlt := (List.getElem?_eq_some_iff.1 hd).1
 obtain ⟨y, b, o, hy, hA, hb, hc⟩ := ((show Slc W ic 1 (some ⟨B, 0, none⟩) (nums x) from h.slc (fun _ => rfl) (by decide))).at_ (k := j) (by simpa [nums] using hlt)
 injection hA with hA
 injection hA with e1 e2
 subst e1 e2
 have : y = (d : Int) := by rw [nums_at hd] at hy; cases hy; rfl
 subst this
 have := hc 0 _ rfl
 exact ⟨by simpa using this, hb⟩
theorem own_setC {W : World} {base B n c : Nat} {x : List Nat} (h : Own W base 3 ic 1 (.slice (some ⟨B, 0, none⟩) n c) (nums x)) {j d : Nat} (e : Nat) (hd : x[j]? = some d) : Own (W.setCell ⟨B, j, none⟩ (.int .i64 e)) base 3 ic 1 (.slice (some ⟨B, 0, none⟩) n c) (nums (x.set j e)) := by
 have := Own.set_ (sz := 1) (enc := ic) (fun _ => rfl) h (k := j) (r := 0) (x := (d : Int)) (y := (e : Int)) (v := .int .i64 e) (nums_at hd) (by decide) rfl
 rw [show nums (x.set j e) = (nums x).set j (e : Int) by simp [nums]]
 simpa using this
theorem own_addr {W : World} {base n c : Nat} {A : Option Addr} {x : List Nat} (h : Own W base 3 ic 1 (.slice A n c) (nums x)) (hn : 0 < n) : ∃ g, A = some ⟨g, 0, none⟩ ∧ base ≤ g := by
 rcases h.2 with ⟨hv, _⟩ | ⟨g, cap, cur, hv, hb, _⟩
 ·injection hv with _ e _; omega
 ·injection hv with e _ _
  exact ⟨g, e, hb⟩
theorem mid_at {xs : List Nat} {n k d : Nat} (h : k < xs.length) : (xs.take k ++ d :: List.replicate n 0)[k]? = some d := by
 rw [List.getElem?_append_right (by simp; omega)]; simp [Nat.min_eq_left (Nat.le_of_lt h)]
end Go.Proofs.YtjiojpoiocdnmaaGreat
/- What is possible: the reference's Possible. -/
set_option linter.unusedSimpArgs false
set_option linter.unusedVariables false
namespace Go.Proofs.YtjiojpoiocdnmaaGreat
open Go.RowKit
/-- The picks, read off the memory. -/
def rdA (W : World) (v : Value) (n : Nat) : List Nat := match v with
 | .slice (some a) _ _ => (List.range n).map (fun k => match W.cell? ⟨a.block, k, none⟩ with
  | some (.int .i64 z) => z.toNat
  | _ => 0)
 | _ => []
theorem own_num {W : World} {base n c : Nat} {A : Option Addr} {x : List Nat} (h : Own W base 3 ic 1 (.slice A n c) (nums x)) : x.length = n := by
 rcases h.2 with ⟨h2, h3⟩ | ⟨g, cap, cur, hv, _⟩
 ·injection h2 with _ h2 _
  rw [h2]; simpa [nums] using h3
 ·injection hv with _ e2 _
  simpa [nums] using e2.symm
theorem rdA_own {W : World} {base n c : Nat} {A : Option Addr} {x : List Nat} (h : Own W base 3 ic 1 (.slice A n c) (nums x)) : rdA W (.slice A n c) n = x := by
 have hl := own_num h
 rcases Nat.eq_zero_or_pos n with e | e
 ·subst e
  have : x = [] := List.eq_nil_of_length_eq_zero hl
  subst this
  unfold rdA
  cases A <;> rfl
 ·obtain ⟨g, rfl, _⟩ := own_addr h e
  unfold rdA
  apply List.ext_getElem?
  intro k
  simp only [List.getElem?_map]
  by_cases hk : k < n
  ·rw [List.getElem?_range hk, List.getElem?_eq_getElem (show k < x.length by omega)]
   have := (own_getC h (List.getElem?_eq_getElem (show k < x.length by omega))).1
   simp only [Option.map_some]
   rw [this]
   simp
  ·rw [List.getElem?_eq_none (by rw [List.length_range]; omega), List.getElem?_eq_none (by omega)]; rfl
def leftP (ms : List Nat) (n : Nat) (a mo : Value) (W : World) : Nat := match mo with
 | .bool true => cnt ms - valC ms (rdA W a n)
 | _ => 0
theorem leftP_yes {W : World} {base n c : Nat} {A : Option Addr} {ms : List Nat} {q : Nat} (hq : q < cnt ms) (h : Own W base 3 ic 1 (.slice A n c) (nums (digs ms q))) : leftP ms n (.slice A n c) (.bool true) W = cnt ms - q := by
 unfold leftP
 simp only
 rw [rdA_own h, val_digs ms q hq]
/-- The rows of p, and what they say. -/
structure RP (W : World) (base : Nat) (v : Value) (l : List Trk) (rows : List BR) (T : Nat → Nat → Prop) : Prop where
 r : Rows W base v rows
 s : rows.map (fun r => r.l.length) = l.map (fun y => y.ps.l.length)
 h : Holds rows T
theorem RP.ext {W W' : World} {base : Nat} {v : Value} {l : List Trk} {rows : List BR} {T : Nat → Nat → Prop} (h : RP W base v l rows T) (hb : Below W.heap.size W W') : RP W' base v l rows T := ⟨h.r.ext hb, h.s, h.h⟩
theorem RP.congr {W : World} {base : Nat} {v : Value} {l : List Trk} {rows : List BR} {T T' : Nat → Nat → Prop} (h : RP W base v l rows T) (he : ∀ n k, T n k ↔ T' n k) : RP W base v l rows T' := ⟨h.r, h.s, h.h.congr he⟩
theorem RP.set {W : World} {base : Nat} {v : Value} {l : List Trk} {rows : List BR} {T : Nat → Nat → Prop} (h : RP W base v l rows T) {n k : Nat} {r : BR} (hr : rows[n]? = some r) : RP (W.setCell ⟨r.b, k, none⟩ (.bool true)) base v l (setR rows n k) (fun n' k' => T n' k' ∨ (n' = n ∧ k' = k)) :=
 ⟨h.r.set hr, by rw [(setR_bl rows n k).1]; exact h.s, h.h.set hr⟩
/-- What the first j choices say. -/
def TJ (t : Tab) (s : List Stn) (R : List Rep) (l : List Trk) (j n k : Nat) : Prop := ∃ i, i < j ∧ worldP t s R l (nums (digs (msT l) i)) = true ∧ (digs (msT l) i)[n]? = some k
def fndJ (t : Tab) (s : List Stn) (R : List Rep) (l : List Trk) (j : Nat) : Bool := (List.range j).any (fun i => worldP t s R l (nums (digs (msT l) i)))
theorem fnd_succ (t : Tab) (s : List Stn) (R : List Rep) (l : List Trk) (j : Nat) : fndJ t s R l (j + 1) = (fndJ t s R l j || worldP t s R l (nums (digs (msT l) j))) := by
 unfold fndJ
 rw [List.range_succ, List.any_append]; simp
theorem fnd_all (t : Tab) (s : List Stn) (R : List Rep) (l : List Trk) : fndJ t s R l (cnt (msT l)) = foundB t s R l := by
 unfold fndJ foundB combsT comb
 rw [List.any_map]; rfl
theorem tj_no {t : Tab} {s : List Stn} {R : List Rep} {l : List Trk} {j : Nat} (h : worldP t s R l (nums (digs (msT l) j)) = false) (n k : Nat) : TJ t s R l j n k ↔ TJ t s R l (j + 1) n k := by
 constructor
 ·rintro ⟨i, h1, h2⟩; exact ⟨i, by omega, h2⟩
 ·rintro ⟨i, h1, h2, h3⟩
  by_cases e : i = j
  ·subst e; rw [h] at h2; cases h2
  ·exact ⟨i, by omega, h2, h3⟩
theorem tj_yes {t : Tab} {s : List Stn} {R : List Rep} {l : List Trk} {j : Nat} (h : worldP t s R l (nums (digs (msT l) j)) = true) (n k : Nat) : (TJ t s R l j n k ∨ (digs (msT l) j)[n]? = some k) ↔ TJ t s R l (j + 1) n k := by
 constructor
 ·rintro (⟨i, h1, h2⟩ | h1)
  ·exact ⟨i, by omega, h2⟩
  ·exact ⟨j, by omega, h, h1⟩
 ·rintro ⟨i, h1, h2, h3⟩
  by_cases e : i = j
  ·subst e; exact .inr h3
  ·exact .inl ⟨i, by omega, h2, h3⟩
theorem tj_all (t : Tab) (s : List Stn) (R : List Rep) (l : List Trk) (n k : Nat) : TJ t s R l (cnt (msT l)) n k ↔ possB t s R l n k = true := by
 unfold possB combsT comb
 rw [List.any_map, List.any_eq_true]
 constructor
 ·rintro ⟨i, h1, h2, h3⟩
  exact ⟨i, List.mem_range.2 h1, by simp [h2, h3]⟩
 ·rintro ⟨i, h1, h2⟩
  simp only [Function.comp, Bool.and_eq_true, beq_iff_eq] at h2
  exact ⟨i, List.mem_range.1 h1, h2.2, h2.1⟩
theorem choice_ok {l : List Trk} {x : List Nat} (h : Choice (msT l) x) : pickOk l (nums x) := by
 refine ⟨by rw [nums, List.length_map, h.1]; simp [msT], fun i k y hk hy => ?_⟩
 unfold nums at hk
 rw [List.getElem?_map] at hk
 obtain ⟨d, hd, rfl⟩ := Option.map_eq_some_iff.1 hk
 have := h.2 i y.ps.l.length d (by unfold msT; rw [List.getElem?_map, hy]; rfl) hd
 omega
end Go.Proofs.YtjiojpoiocdnmaaGreat
/- The next picks, in place: the statement's own 'next'. -/
set_option linter.unusedSimpArgs false
set_option linter.unusedVariables false
namespace Go.Proofs.YtjiojpoiocdnmaaGreat
open Go.RowKit
theorem grown_refl (w : World) (r : Option Nat) : w.grownBy w r := ⟨rfl, rfl, rfl, Nat.le_refl _, fun _ _ _ => rfl⟩
theorem grown_set (w : World) (g k : Nat) (v : Value) : w.grownBy (w.setCell ⟨g, k, none⟩ v) (some g) :=
 ⟨by simp [World.setCell], by simp [World.setCell], by simp [World.setCell], by simp [World.setCell], fun b _ hn => Below.heap_setCell w ⟨g, k, none⟩ v b (fun e => hn (by rw [e]))⟩
theorem grown_drew (w : World) (r : Option Nat) : w.grownBy w.drew r := ⟨rfl, rfl, rfl, Nat.le_refl _, fun _ _ _ => rfl⟩
theorem grown_trans {a b c : World} {r : Option Nat} (h : a.grownBy b r) (k : b.grownBy c r) : a.grownBy c r :=
 ⟨k.os.trans h.os, k.tape.trans h.tape, k.output.trans h.output, Nat.le_trans h.size k.size, fun i hi hn => (k.block i (Nat.lt_of_lt_of_le hi h.size) hn).trans (h.block i hi hn)⟩
def NextI (w : World) (base : Nat) (ms ds : List Nat) (A : Option Addr) (n c : Nat) (e : Ending) (w' : World) : Prop := ∃ (ds' : List Nat) (b : Bool), e = .returned (.bool b) ∧ Own w' base 3 ic 1 (.slice A n c) (nums ds') ∧ (b = true → inc ms ds = some ds') ∧ (b = false → inc ms ds = none) ∧ w.grownBy w' (Value.slice A n c).ownBlock
set_option maxRecDepth 100000 in
set_option maxHeartbeats 8000000 in
theorem next19 {LA PA : Option Addr} {ln lc pc base : Nat} {l : List Trk} {ds : List Nat} {w0 w : World} (hw : Below w0.heap.size w0 w) (hbs : w0.heap.size ≤ base) (hln : ln = l.length) (hch : Choice (msT l) ds) (hl : TrkS w0 LA lc l) (hO : Own w base 3 ic 1 (.slice PA ln pc) (nums ds)) (hlm : ln ≤ 12) (hps : ∀ y ∈ l, y.ps.l.length ≤ 4096) : Calls Tryz.prog 19 #[.slice LA ln lc, .slice PA ln pc] w (NextI w base (msT l) ds PA ln pc) := by
 have hml : (msT l).length = ln := by rw [hln]; simp [msT]
 have hdl : ds.length = ln := by rw [hch.1, hml]
 have HLN := Lib.hid hln
 have HCH := Lib.hid hch
 have HL := Lib.hid hl
 have HML := Lib.hid hml
 have HDL := Lib.hid hdl
 have HPS := Lib.hid hps
 have HO1 := Lib.hid hO
 have HW := Lib.hid hw
 have hwl : IntKind.i64.wrap ((ln : Int) - 1) = (ln : Int) - 1 := IntWalk.i64_in _ (by omega)
 clear hln hch hl hml hdl hps hO hw
 go_enter Tryz.func19, Tryz.ntmps19
 go_wp2_with fail
 clear hwl
 go_loopw [5] (fun i wr => ∃ j : Nat, j ≤ ln ∧ i = .int .i64 ((j : Int) - 1) ∧ Hid (Own wr base 3 ic 1 (.slice PA ln pc) (nums (ds.take j ++ List.replicate (ln - j) 0))) ∧ Hid (Spun (msT l) ds j) ∧ Hid (Below w0.heap.size w0 wr) ∧ Hid (w.grownBy wr (Value.slice PA ln pc).ownBlock)) (fun i _ => (intOf i + 1).toNat)
 case atStart => exact ⟨ln, Nat.le_refl _, rfl, by rw [Nat.sub_self, List.replicate_zero, List.append_nil, List.take_of_length_le (by rw [HDL.out]; exact Nat.le_refl _)]; exact HO1.out, spun_end (by rw [HML.out]; exact Nat.le_refl _), HW.out, grown_refl _ _⟩
 case round =>
  obtain ⟨j, hj, rfl, HO, HSP, EO, HG⟩ := hrel
  obtain ⟨wi, rfl⟩ : ∃ wi, wi = wr := ⟨_, rfl⟩
  clear HO1 HW
  cases j with
  | zero =>
   have z1 : ((0 : Nat) : Int) - 1 = -1 := rfl
   rw [z1]
   have HI : Hid (inc (msT l) ds = none) := by
    have := HSP.out
    unfold Spun at this
    rwa [List.drop_zero, List.drop_zero] at this
   clear z1 HSP
   go_wp2_with fail
   go_ret
   exact ⟨_, false, rfl, HO.out, (fun h => by cases h), (fun _ => HI.out), HG.out⟩
  | succ k =>
   have z1 : ((k + 1 : Nat) : Int) - 1 = (k : Int) := by omega
   rw [z1]
   obtain ⟨g, rfl, hgb⟩ := own_addr HO.out (by omega)
   have hkx : k < ds.length := by rw [HDL.out]; omega
   obtain ⟨d, hd⟩ : ∃ d, ds[k]? = some d := ⟨_, List.getElem?_eq_getElem hkx⟩
   have hd2 : (ds.take (k + 1) ++ List.replicate (ln - (k + 1)) 0)[k]? = some d := (mid_get hkx).trans hd
   have d0 := (own_getC HO.out hd2).1
   have gl0 := (own_getC HO.out hd2).2
   have f0 := Own.frozen HO.out k
   obtain ⟨x, xb, xo, hx, hxA, hxb, hxc⟩ := (HL.out.slc.below (Nat.le_refl _) EO.out).at_ (k := k) (by rw [← HLN.out]; omega)
   have hmk : (msT l)[k]? = some x.ps.l.length := by unfold msT; rw [List.getElem?_map, hx]; rfl
   have hdx : d < x.ps.l.length := HCH.out.2 k _ d hmk hd
   have hx4 := HPS.out x (List.mem_of_getElem? hx)
   obtain ⟨m, hm⟩ : ∃ m, x.ps.l.length = m := ⟨_, rfl⟩
   rw [hm] at hmk hdx hx4
   have hki : (k : Int) < (ln : Int) := by omega
   have hk0 : (0 : Int) ≤ (k : Int) := by omega
   have hwd : IntKind.i64.wrap ((d : Int) + 1) = (d : Int) + 1 := IntWalk.i64_in _ (by omega)
   have hwk : IntKind.i64.wrap ((k : Int) - 1) = (k : Int) - 1 := IntWalk.i64_in _ (by omega)
   have HO5 : Hid (Own (wi.setCell ⟨g, k, none⟩ (.int .i64 ((d : Int) + 1))) base 3 ic 1 (.slice (some ⟨g, 0, none⟩) ln pc) (nums (ds.take k ++ (d + 1) :: List.replicate (ln - (k + 1)) 0))) := by
    have := own_setC HO.out (d + 1) hd2
    rw [mid_set _ hkx] at this
    exact this
   have E5 : Hid (Below w0.heap.size w0 (wi.setCell ⟨g, k, none⟩ (.int .i64 ((d : Int) + 1)))) := below_set EO.out _ _ (Nat.le_trans hbs hgb)
   have HG5 : Hid (w.grownBy (wi.setCell ⟨g, k, none⟩ (.int .i64 ((d : Int) + 1))) (some g)) := grown_trans HG.out (grown_set _ _ _ _)
   have x12 : (wi.setCell ⟨g, k, none⟩ (.int .i64 ((d : Int) + 1))).cell? ⟨xb, xo + k * 14 + 12, none⟩ = some (.slice x.ps.A m x.ps.c) := by
    obtain ⟨x2, xb2, xo2, hx2, hxA2, hxb2, hxc2⟩ := (HL.out.slc.below (Nat.le_refl _) E5.out).at_ (k := k) (by rw [← HLN.out]; omega)
    rw [hxA] at hxA2
    injection hxA2 with hxA2
    injection hxA2 with e1 e2
    subst e1 e2
    obtain rfl : x2 = x := Option.some.inj (hx2.symm.trans hx)
    have := hxc2 12 _ rfl
    rw [← hm]; exact this
   have xl : xb < (wi.setCell ⟨g, k, none⟩ (.int .i64 ((d : Int) + 1))).heap.size := by simpa [World.setCell] using hxb
   have gl : g < (wi.setCell ⟨g, k, none⟩ (.int .i64 ((d : Int) + 1))).heap.size := by simpa [World.setCell] using gl0
   obtain ⟨W4, hW4⟩ : ∃ W4, wi.setCell ⟨g, k, none⟩ (.int .i64 ((d : Int) + 1)) = W4 := ⟨_, rfl⟩
   rw [hW4] at HO5 E5 x12 xl gl HG5
   have HD := Lib.hid hd
   have HMK := Lib.hid hmk
   have HX12 := Lib.hid x12
   have HXL := Lib.hid xl
   have HGL := Lib.hid gl
   subst hxA
   clear HO hd hd2 hx hxb hxc hmk hm x12 xl gl hx4 HG
   go_wp2_with fail
   clear d0 f0 gl0 hW4
   have x12 := HX12.out
   have xl := HXL.out
   have gl := HGL.out
   have F1 : W4.cell? ⟨g, k, none⟩ = some (.int .i64 ((d : Int) + 1)) := (own_getC HO5.out (d := d + 1) (mid_at hkx)).1
   have SS := Lib.hid (show ∀ w', Below W4.heap.size W4 w' → (fun w' => Below W4.heap.size W4 w' ∧ w'.cell? ⟨g, k, none⟩ = some (.int .i64 ((d : Int) + 1)) ∧ w'.cell? ⟨xb, xo + k * 14 + 12, none⟩ = some (.slice x.ps.A m x.ps.c)) w' from fun w' h => ⟨h, (h.cell (p := ⟨g, k, none⟩) gl).trans F1, (h.cell (p := ⟨xb, xo + k * 14 + 12, none⟩) xl).trans x12⟩)
   refine rgB 11 SS (ext_drew (ext_refl _)) (fun Q7 hQ7 hN7 hHeld => ?_)
   refine rgT 0 (some 19) hQ7 hHeld ?_; refine rgT 1 (some 20) hQ7 hHeld ?_; refine rgT 2 (some 21) hQ7 hHeld ?_; refine rgT 3 (some 22) hQ7 hHeld ?_; refine rgT 4 (some 23) hQ7 hHeld ?_; refine rgT 5 (some 24) hQ7 hHeld ?_; refine rgT 6 (some 25) hQ7 hHeld ?_; refine rgT 7 (some 26) hQ7 hHeld ?_; refine rgT 8 (some 27) hQ7 hHeld ?_; refine rgT 9 (some 28) hQ7 hHeld ?_; refine rgT 10 (some 29) hQ7 hHeld ?_
   refine rg_end (by kernel_rfl) (hN7 _ _ ?_) _
   clear hQ7 hN7 Q7
   have BX := hHeld.1
   clear SS
   have HO6 := Lib.hid (HO5.out.ext BX)
   have E6 := Lib.hid (ext_trans E5.out BX)
   have HG6 := Lib.hid (grown_trans HG5.out (grown_drew W4 _))
   clear BX HO5 E5 x12 xl gl F1 HX12 HXL HGL HG5
   obtain ⟨W6, hW6⟩ : ∃ W6, W4.drew = W6 := ⟨_, rfl⟩
   rw [hW6] at HO6 E6 HG6 ⊢
   clear hW6
   by_cases hin : d + 1 < m
   ·have hin' : (d : Int) + 1 < (m : Int) := by omega
    have HI : Hid (inc (msT l) ds = some (ds.take k ++ (d + 1) :: List.replicate (ln - (k + 1)) 0)) := by
     have := spun_inc (by rw [HML.out, HDL.out]) HMK.out HD.out HSP.out hin
     rw [HML.out] at this
     exact this
    go_wp2_with fail
    go_ret
    exact ⟨_, true, rfl, HO6.out, (fun _ => HI.out), (fun h => by cases h), HG6.out⟩
   ·have hin' : ¬ (d : Int) + 1 < (m : Int) := by omega
    have g0 := (own_getC HO6.out (d := d + 1) (mid_at hkx)).1
    have gl := (own_getC HO6.out (d := d + 1) (mid_at hkx)).2
    have f0 := Own.frozen HO6.out k
    have HO7 : Hid (Own (W6.setCell ⟨g, k, none⟩ (.int .i64 0)) base 3 ic 1 (.slice (some ⟨g, 0, none⟩) ln pc) (nums (ds.take k ++ List.replicate (ln - k) 0))) := by
     have := own_setC HO6.out (j := k) (d := d + 1) 0 (mid_at hkx)
     rw [List.set_append_right _ _ (by rw [List.length_take]; omega), List.length_take, Nat.min_eq_left (Nat.le_of_lt hkx), Nat.sub_self, List.set_cons_zero, mid_zero (by omega)] at this
     exact this
    have E7 : Hid (Below w0.heap.size w0 (W6.setCell ⟨g, k, none⟩ (.int .i64 0))) := below_set E6.out _ _ (Nat.le_trans hbs hgb)
    have HG7 : Hid (w.grownBy (W6.setCell ⟨g, k, none⟩ (.int .i64 0)) (some g)) := grown_trans HG6.out (grown_set _ _ _ _)
    have HSP7 := Lib.hid (spun_step HMK.out HD.out HSP.out hin)
    clear HO6 E6 HG6
    go_wp2_with fail
    go_roundw
    case rel => exact ⟨k, by omega, by go_num, HO7, HSP7, E7, HG7⟩
    case measure => simp [intOf]; (try omega)
end Go.Proofs.YtjiojpoiocdnmaaGreat
/- One more track that nobody mentions: the plain law. No program in sight. -/
set_option linter.unusedSimpArgs false
set_option linter.unusedVariables false
namespace Go.Proofs.YtjiojpoiocdnmaaGreat
open Go.RowKit
theorem cnt_filter (p : Nat → Bool) (f : Nat → Nat) : ∀ L : List Nat, cnt ((L.filter p).map f) ≤ cnt (L.map (fun i => max (f i) 1))
  | [] => Nat.le_refl _
  | a :: L => by
    have ih := cnt_filter p f L
    by_cases h : p a = true
    · rw [List.filter_cons_of_pos h]
      simp only [List.map_cons, cnt]
      exact Nat.mul_le_mul (Nat.le_max_left _ _) ih
    · rw [List.filter_cons_of_neg h]
      simp only [List.map_cons, cnt]
      exact Nat.le_trans ih (Nat.le_mul_of_pos_left _ (by omega))
theorem cntC_le (l : List Trk) (c : ByteArray) : cntC l c ≤ cnt (mxT l) := by
  unfold cntC idxs
  refine Nat.le_trans (cnt_filter _ _ _) (Nat.le_of_eq ?_)
  congr 1
  unfold mxT msT
  apply List.ext_getElem?
  intro n
  rw [List.getElem?_map, List.getElem?_map]
  by_cases h : n < l.length
  · rw [List.getElem?_range h, List.getElem?_eq_getElem h]
    simp [h]
  · rw [List.getElem?_eq_none (by rw [List.length_range]; omega), List.getElem?_eq_none (by omega)]; rfl
theorem few_many {l : List Trk} (h : cnt (mxT l) ≤ 4096) : manyB l = false := by
  unfold manyB
  rw [List.any_eq_false]
  intro x _
  rw [decide_eq_true_eq]
  have := cntC_le l x.fl.call
  omega
section
variable {t : Tab} {s : List Stn} {R : List Rep} {l : List Trk} {x : Trk} {i : Nat}
end
end Go.Proofs.YtjiojpoiocdnmaaGreat
