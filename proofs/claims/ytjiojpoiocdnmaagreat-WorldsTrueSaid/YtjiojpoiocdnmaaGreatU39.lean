/- Fewer reports, more faults, wider shifts: the plain law. No program in sight. -/
import Derived.Test.YtjiojpoiocdnmaaGreatQF
import Derived.Test.YtjiojpoiocdnmaaGreatU9
import Derived.Test.YtjiojpoiocdnmaaGreatU2
import Derived.Test.YtjiojpoiocdnmaaGreatNJ
import Derived.Test.YtjiojpoiocdnmaaGreatU8
import Derived.Test.YtjiojpoiocdnmaaGreatU17
import Derived.Test.YtjiojpoiocdnmaaGreatU19
import Derived.Test.YtjiojpoiocdnmaaGreatNZ
import Derived.Test.YtjiojpoiocdnmaaGreatNQ
import Derived.Test.YtjiojpoiocdnmaaGreatU35
import Derived.Test.YtjiojpoiocdnmaaGreatME
import Derived.Test.YtjiojpoiocdnmaaGreatMN
import Derived.Deep.CutBlock
set_option linter.unusedSimpArgs false
set_option linter.unusedVariables false
namespace Go.Proofs.YtjiojpoiocdnmaaGreat
open Go.RowKit
theorem possL_len (t : Tab) (s : List Stn) (R : List Rep) (l : List Trk) : (possL t s R l).length = l.length := by simp [possL]
theorem possV0 {t : Tab} {s : List Stn} {R : List Rep} {l : List Trk} (h : possErr t s R l = 0) : possV t s R l = possL t s R l := by unfold possV; rw [if_pos h]
theorem possL_at {t : Tab} {s : List Stn} {R : List Rep} {l : List Trk} {n : Nat} {x : List Bool} (h : (possL t s R l)[n]? = some x) : x.length = (msT l).getD n 0 ∧ ∀ (k : Nat) (b : Bool), x[k]? = some b → b = possB t s R l n k := by
  unfold possL at h
  rw [List.getElem?_map] at h
  obtain ⟨m, hm, rfl⟩ := Option.map_eq_some_iff.1 h
  have hn := (List.getElem?_eq_some_iff.1 hm).1
  rw [List.length_range] at hn
  rw [List.getElem?_range hn] at hm
  cases hm
  refine ⟨by simp, fun k b hb => ?_⟩
  rw [List.getElem?_map] at hb
  obtain ⟨q, hq, rfl⟩ := Option.map_eq_some_iff.1 hb
  have hk := (List.getElem?_eq_some_iff.1 hq).1
  rw [List.length_range] at hk
  rw [List.getElem?_range hk] at hq
  cases hq
  rfl
section
variable {t : Tab} {s : List Stn} {R R2 : List Rep} {l : List Trk}
theorem ask0 : askE t s R l = 0 ↔ wchkE t l = 0 ∧ askB t s R = true := by
  unfold askE
  by_cases h : wchkE t l = 0
  · rw [if_neg (fun q => q h)]
    cases askB t s R <;> simp [h]
  · rw [if_pos h]
    exact ⟨fun q => absurd q h, fun q => absurd q.1 h⟩
theorem askB_iff : askB t s R = true ↔ s.length ≤ 4 ∧ R.length ≤ 1024 ∧ (∀ x ∈ s, stnB t.n x = true) ∧ ∀ r ∈ R, repB s.length r = true := by
  unfold askB
  simp only [Bool.and_eq_true, decide_eq_true_eq, List.all_eq_true]
  exact ⟨fun ⟨⟨⟨a, b⟩, c⟩, d⟩ => ⟨a, b, c, d⟩, fun ⟨a, b, c, d⟩ => ⟨⟨⟨a, b⟩, c⟩, d⟩⟩
end
end Go.Proofs.YtjiojpoiocdnmaaGreat
/- Slices cut; stations changed; law 3. -/
set_option linter.unusedSimpArgs false
set_option linter.unusedVariables false
namespace Go.Proofs.YtjiojpoiocdnmaaGreat
open Go.RowKit Go.Shelf
def StnS (W : World) (A : Option Addr) (c : Nat) (l : List Stn) : Prop := SliceOf.ok Stn.cells 3 Stn.ok W ⟨A, c, l⟩
theorem StnS.ext {W W' : World} {A : Option Addr} {c : Nat} {l : List Stn} (h : StnS W A c l) (hb : Below W.heap.size W W') : StnS W' A c l := SliceOf.ok.ext h hb (fun _ k => k.ext hb)
theorem light_at {t : Tab} {SA RA LA : Option Addr} {sn sc rn rc ln lc : Nat} {s : List Stn} {R : List Rep} {l : List Trk} {w : World} (most : Nat) (m : Int) (hm : m = most) (hm1 : 1 ≤ most) (hm2 : most ≤ 1000) (hsn : sn = s.length) (hrn : rn = R.length) (hln : ln = l.length) (hrm : rn ≤ maxLen) (ht : Tab.ok w t) (hs : StnS w SA sc s) (hl : TrkS w LA lc l) :
    Calls Tryz.prog 10 #[t.v, .slice SA sn sc, .slice RA rn rc, .slice LA ln lc, .int .i64 m] w (FewR w (LightP most s R l)) := by
  subst hm hsn hln
  exact light10 most hm1 hm2 t SA sc s RA rn rc LA lc l R w hrn hrm ht hs hl
end Go.Proofs.YtjiojpoiocdnmaaGreat
/- The stays of all paths of all tracks: the reference's 'stays'. -/
set_option linter.unusedSimpArgs false
set_option linter.unusedVariables false
namespace Go.Proofs.YtjiojpoiocdnmaaGreat
open Go.RowKit
/-- Rows of rows of stays, in memory. -/
structure STR (W : World) (base : Nat) (v : Value) (st : List (SliceOf (SliceOf Sty))) : Prop where
 o : Own W base 135 SliceOf.enc 1 v st
 r : ∀ x ∈ st, Own W base 95 SliceOf.enc 1 x.v x.l
 q : ∀ x ∈ st, ∀ y ∈ x.l, Own W base 113 Sty.cells 4 y.v y.l
theorem STR.ext {W W' : World} {base : Nat} {v : Value} {st : List (SliceOf (SliceOf Sty))} (h : STR W base v st) (hb : Below W.heap.size W W') : STR W' base v st :=
 ⟨h.o.ext hb, fun x hx => (h.r x hx).ext hb, fun x hx y hy => (h.q x hx y hy).ext hb⟩
theorem STR.low {W : World} {base b2 : Nat} {v : Value} {st : List (SliceOf (SliceOf Sty))} (h : STR W base v st) (hb : b2 ≤ base) : STR W b2 v st :=
 ⟨h.o.low hb, fun x hx => (h.r x hx).low hb, fun x hx y hy => (h.q x hx y hy).low hb⟩
theorem STR.add {W W' : World} {base : Nat} {v v' : Value} {st : List (SliceOf (SliceOf Sty))} {x : SliceOf (SliceOf Sty)} (h : STR W base v st) (hx : Own W base 95 SliceOf.enc 1 x.v x.l) (hq : ∀ y ∈ x.l, Own W base 113 Sty.cells 4 y.v y.l)
  (ho : Own W' base 135 SliceOf.enc 1 v' (st ++ [x])) (hg : W.grownBy W' v.ownBlock) : STR W' base v' (st ++ [x]) := by
 refine ⟨ho, fun y hy => ?_, fun y hy z hz => ?_⟩
 ·have h1 : Own W base 95 SliceOf.enc 1 y.v y.l := by
   rcases List.mem_append.1 hy with hy | hy
   ·exact h.r y hy
   ·obtain rfl := List.mem_singleton.1 hy; exact hx
  exact Own.far h1 hg (fun k e e' => h.o.ne h1 (by decide) k e' e)
 ·have h1 : Own W base 113 Sty.cells 4 z.v z.l := by
   rcases List.mem_append.1 hy with hy | hy
   ·exact h.q y hy z hz
   ·obtain rfl := List.mem_singleton.1 hy; exact hq z hz
  exact Own.far h1 hg (fun k e e' => h.o.ne h1 (by decide) k e' e)
end Go.Proofs.YtjiojpoiocdnmaaGreat
/- The reference's world: the reports station by station. No program in sight. -/
set_option linter.unusedSimpArgs false
set_option linter.unusedVariables false
namespace Go.Proofs.YtjiojpoiocdnmaaGreat
open Go.RowKit
/-- How many of the reports of station k are wrong. -/
def wrK (p : Rep → Bool) (R : List Rep) (k : Nat) : Nat := R.countP (fun r => decide (r.st = (k : Int)) && !p r)
theorem plus_get (x y : V4) (k : Nat) : (x.plus y).get k = x.get k + y.get k := by
 unfold V4.get V4.plus
 split <;> rfl
theorem unit_get {k i : Nat} (hk : k < 4) (hi : i < 4) : (unitV i).get k = if i = k then 1 else 0 := by
 match k, hk, i, hi with
 | 0, _, 0, _ | 0, _, 1, _ | 0, _, 2, _ | 0, _, 3, _ | 1, _, 0, _ | 1, _, 1, _ | 1, _, 2, _ | 1, _, 3, _ | 2, _, 0, _ | 2, _, 1, _ | 2, _, 2, _ | 2, _, 3, _ | 3, _, 0, _ | 3, _, 1, _ | 3, _, 2, _ | 3, _, 3, _ => rfl
theorem wrK_get (p : Rep → Bool) {k : Nat} (hk : k < 4) : ∀ (R : List Rep), (∀ r ∈ R, 0 ≤ r.st ∧ r.st < 4) → (vsum (R.map (cR p))).get k = ((wrK p R k : Nat) : Int)
 | [], _ => by
  match k, hk with
  | 0, _ | 1, _ | 2, _ | 3, _ => rfl
 | r :: R, h => by
  have ih := wrK_get p hk R (fun x hx => h x (by simp [hx]))
  have hr := h r (by simp)
  simp only [List.map_cons, vsum]
  rw [plus_get, ih]
  unfold wrK cR
  rw [List.countP_cons]
  cases hp : p r with
  | true =>
   have : V4.zero.get k = 0 := by
    match k, hk with
    | 0, _ | 1, _ | 2, _ | 3, _ => rfl
   simp [this]
  | false =>
   simp only [Bool.false_eq_true, if_false, Bool.not_false, Bool.and_true]
   rw [unit_get hk (by omega)]
   by_cases e : r.st = (k : Int)
   ·rw [if_pos (by omega), if_pos (by simpa using e)]; omega
   ·rw [if_neg (by omega), if_neg (by simpa using e)]; omega
/-- Has each station no more wrong reports than it may have? -/
def worldS (s : List Stn) (R : List Rep) (p : Rep → Bool) : Bool := (List.range s.length).all (fun k => decide (((wrK p R k : Nat) : Int) ≤ ((s[k]?).map (·.fa)).getD 0))
theorem budV_get (s : List Stn) {k : Nat} (hk : k < 4) : (budV s).get k = ((s[k]?).map (·.fa)).getD 0 := by
 match k, hk with
 | 0, _ | 1, _ | 2, _ | 3, _ => rfl
theorem leB_get {x y : V4} : x.leB y = true ↔ ∀ k, k < 4 → x.get k ≤ y.get k := by
 unfold V4.leB
 simp only [Bool.and_eq_true, decide_eq_true_eq]
 constructor
 ·rintro ⟨⟨⟨a, b⟩, c⟩, d⟩ k hk
  match k, hk with
  | 0, _ => exact a
  | 1, _ => exact b
  | 2, _ => exact c
  | 3, _ => exact d
 ·intro h
  exact ⟨⟨⟨h 0 (by omega), h 1 (by omega)⟩, h 2 (by omega)⟩, h 3 (by omega)⟩
theorem worldS_eq {s : List Stn} {R : List Rep} (p : Rep → Bool) (hs : s.length ≤ 4) (hR : ∀ r ∈ R, 0 ≤ r.st ∧ r.st < s.length) : worldS s R p = (vsum (R.map (cR p))).leB (budV s) := by
 rw [Bool.eq_iff_iff, leB_get]
 unfold worldS
 rw [List.all_eq_true]
 have hR4 : ∀ r ∈ R, 0 ≤ r.st ∧ r.st < 4 := fun r hr => by have := hR r hr; omega
 constructor
 ·intro h k hk
  rw [wrK_get p hk R hR4, budV_get s hk]
  by_cases e : k < s.length
  ·exact of_decide_eq_true (h k (List.mem_range.2 e))
  ·rw [List.getElem?_eq_none (by omega)]
   have : wrK p R k = 0 := by
    unfold wrK
    rw [List.countP_eq_zero]
    intro r hr hh
    rw [Bool.and_eq_true, decide_eq_true_eq] at hh
    have := hR r hr
    omega
   rw [this]; simp
 ·intro h k hk
  have hk := List.mem_range.1 hk
  have := h k (by omega)
  rw [wrK_get p (by omega) R hR4, budV_get s (by omega)] at this
  exact decide_eq_true this
end Go.Proofs.YtjiojpoiocdnmaaGreat
/- Are picks and shifts a world: the reference's 'world'. -/
set_option linter.unusedSimpArgs false
set_option linter.unusedVariables false
namespace Go.Proofs.YtjiojpoiocdnmaaGreat
open Go.RowKit
/-- Rows of rows of stays that can be read. -/
structure STV (W : World) (A : Option Addr) (st : List (SliceOf (SliceOf Sty))) : Prop where
 o : Slc W SliceOf.enc 1 A st
 r : ∀ x ∈ st, Slc W SliceOf.enc 1 x.A x.l
 q : ∀ x ∈ st, ∀ y ∈ x.l, Slc W Sty.cells 4 y.A y.l ∧ y.l.length ≤ maxLen
theorem STV.ext {W W' : World} {A : Option Addr} {st : List (SliceOf (SliceOf Sty))} (h : STV W A st) (hb : Below W.heap.size W W') : STV W' A st :=
 ⟨h.o.ext hb, fun x hx => (h.r x hx).ext hb, fun x hx y hy => ⟨(h.q x hx y hy).1.ext hb, (h.q x hx y hy).2⟩⟩
end Go.Proofs.YtjiojpoiocdnmaaGreat
/- The combinations of shifts: the reference's Shifts. -/
set_option linter.unusedSimpArgs false
set_option linter.unusedVariables false
namespace Go.Proofs.YtjiojpoiocdnmaaGreat
open Go.RowKit
/-- Rows of numbers, in memory. -/
structure MI (W : World) (base : Nat) (v : Value) (rows : List (SliceOf Int)) : Prop where
 o : Own W base 39 SliceOf.enc 1 v rows
 r : ∀ x ∈ rows, Own W base 3 ic 1 x.v x.l
theorem MI.ext {W W' : World} {base : Nat} {v : Value} {rows : List (SliceOf Int)} (h : MI W base v rows) (hb : Below W.heap.size W W') : MI W' base v rows :=
 ⟨h.o.ext hb, fun x hx => (h.r x hx).ext hb⟩
theorem MI.low {W : World} {base b2 : Nat} {v : Value} {rows : List (SliceOf Int)} (h : MI W base v rows) (hb : b2 ≤ base) : MI W b2 v rows :=
 ⟨h.o.low hb, fun x hx => (h.r x hx).low hb⟩
theorem MI.slc {W : World} {base : Nat} {A : Option Addr} {n c : Nat} {rows : List (SliceOf Int)} (h : MI W base (.slice A n c) rows) : Slc W SliceOf.enc 1 A rows := h.o.slc (fun _ => rfl) (by decide)
theorem own_ints {W : World} {base : Nat} {A : Option Addr} {n c : Nat} {l : List Int} (h : Own W base 3 ic 1 (.slice A n c) l) : Slc W ic 1 A l := h.slc (fun _ => rfl) (by decide)
theorem MI.add {W W' : World} {base : Nat} {v v' : Value} {rows : List (SliceOf Int)} {x : SliceOf Int} (h : MI W base v rows) (hx : Own W base 3 ic 1 x.v x.l) (ho : Own W' base 39 SliceOf.enc 1 v' (rows ++ [x])) (hg : W.grownBy W' v.ownBlock) : MI W' base v' (rows ++ [x]) := by
 refine ⟨ho, fun y hy => ?_⟩
 have h1 : Own W base 3 ic 1 y.v y.l := by
  rcases List.mem_append.1 hy with hy | hy
  ·exact h.r y hy
  ·obtain rfl := List.mem_singleton.1 hy; exact hx
 exact Own.far h1 hg (fun k e e' => h.o.ne h1 (by decide) k e' e)
end Go.Proofs.YtjiojpoiocdnmaaGreat
/- Are there shifts with which picks are a world: the reference's 'any'. -/
set_option linter.unusedSimpArgs false
set_option linter.unusedVariables false
namespace Go.Proofs.YtjiojpoiocdnmaaGreat
open Go.RowKit
def anyS (s : List Stn) (R : List Rep) (l : List Trk) (st : List (List (List Sty))) (picks : List Int) : Bool := (shiftsL s).any (fun h => worldS s R (rightAt st l picks h))
end Go.Proofs.YtjiojpoiocdnmaaGreat
/- The reference's World. -/
set_option linter.unusedSimpArgs false
set_option linter.unusedVariables false
namespace Go.Proofs.YtjiojpoiocdnmaaGreat
open Go.RowKit
theorem ask_parts {t : Tab} {s : List Stn} {R : List Rep} {l : List Trk} (h : askE t s R l = 0) : wchkE t l = 0 ∧ s.length ≤ 4 ∧ R.length ≤ 1024 ∧ (∀ y ∈ s, 0 ≤ y.sh ∧ y.sh ≤ 3) ∧ (∀ r ∈ R, 0 ≤ r.mi ∧ r.mi ≤ 1439) ∧ (∀ r ∈ R, 0 ≤ r.st ∧ r.st < (s.length : Int)) := by
 obtain ⟨h1, h2⟩ := ask0.1 h
 obtain ⟨a, b, c, d⟩ := askB_iff.1 h2
 refine ⟨h1, a, b, fun y hy => ?_, fun r hr => ?_, fun r hr => ?_⟩
 ·have := c y hy
  simp only [stnB, Bool.and_eq_true, inn_iff] at this
  omega
 ·have := d r hr
  simp only [repB, Bool.and_eq_true, inn_iff] at this
  omega
 ·have := d r hr
  simp only [repB, Bool.and_eq_true, inn_iff] at this
  omega
theorem anyS_eq {t : Tab} {s : List Stn} {R : List Rep} {l : List Trk} {picks : List Int} (h : askE t s R l = 0) : anyS s R l (stT t l) picks = worldP t s R l picks := by
 obtain ⟨_, h1, _, _, _, h2⟩ := ask_parts h
 unfold anyS worldP worldT wrongAll
 congr 1
 funext x
 exact worldS_eq _ h1 h2
end Go.Proofs.YtjiojpoiocdnmaaGreat
/- Are there too many combinations: the reference's 'tooMany'. -/
set_option linter.unusedSimpArgs false
set_option linter.unusedVariables false
namespace Go.Proofs.YtjiojpoiocdnmaaGreat
open Go.RowKit
theorem msT_at {l : List Trk} {k : Nat} {x : Trk} (h : l[k]? = some x) : (msT l).getD k 0 = x.ps.l.length := by
 unfold msT
 rw [List.getD_eq_getElem?_getD, List.getElem?_map, h]; rfl
end Go.Proofs.YtjiojpoiocdnmaaGreat
/- The next picks: the reference's 'next'. -/
set_option linter.unusedSimpArgs false
set_option linter.unusedVariables false
namespace Go.Proofs.YtjiojpoiocdnmaaGreat
open Go.RowKit
theorem own_getC {W : World} {base B n c : Nat} {x : List Nat} (h : Own W base 3 ic 1 (.slice (some ⟨B, 0, none⟩) n c) (nums x)) {j d : Nat} (hd : x[j]? = some d) : W.cell? ⟨B, j, none⟩ = some (.int .i64 d) ∧ B < W.heap.size := by
 have hlt := (List.getElem?_eq_some_iff.1 hd).1
 obtain ⟨y, b, o, hy, hA, hb, hc⟩ := ((show Slc W ic 1 (some ⟨B, 0, none⟩) (nums x) from h.slc (fun _ => rfl) (by decide))).at_ (k := j) (by simpa [nums] using hlt)
 injection hA with hA
 injection hA with e1 e2
 subst e1 e2
 have : y = (d : Int) := by rw [nums_at hd] at hy; cases hy; rfl
 subst this
 have := hc 0 _ rfl
 exact ⟨by simpa using this, hb⟩
theorem own_setC {W : World} {base B n c : Nat} {x : List Nat} (h : Own W base 3 ic 1 (.slice (some ⟨B, 0, none⟩) n c) (nums x)) {j d : Nat} (e : Nat) (hd : x[j]? = some d) : Own (W.setCell ⟨B, j, none⟩ (.int .i64 e)) base 3 ic 1 (.slice (some ⟨B, 0, none⟩) n c) (nums (x.set j e)) := by
 have := Own.set_ (sz := 1) (enc := ic) (fun _ => rfl) h (k := j) (r := 0) (x := (d : Int)) (y := (e : Int)) (v := .int .i64 e) (nums_at hd) (by decide) rfl
 rw [show nums (x.set j e) = (nums x).set j (e : Int) by simp [nums]]
 simpa using this
end Go.Proofs.YtjiojpoiocdnmaaGreat
/- What is possible: the reference's Possible. -/
set_option linter.unusedSimpArgs false
set_option linter.unusedVariables false
namespace Go.Proofs.YtjiojpoiocdnmaaGreat
open Go.RowKit
theorem own_num {W : World} {base n c : Nat} {A : Option Addr} {x : List Nat} (h : Own W base 3 ic 1 (.slice A n c) (nums x)) : x.length = n := by
 rcases h.2 with ⟨h2, h3⟩ | ⟨g, cap, cur, hv, _⟩
 ·injection h2 with _ h2 _
  rw [h2]; simpa [nums] using h3
 ·injection hv with _ e2 _
  simpa [nums] using e2.symm
/-- The rows of p, and what they say. -/
structure RP (W : World) (base : Nat) (v : Value) (l : List Trk) (rows : List BR) (T : Nat → Nat → Prop) : Prop where
 r : Rows W base v rows
 s : rows.map (fun r => r.l.length) = l.map (fun y => y.ps.l.length)
 h : Holds rows T
theorem RP.ext {W W' : World} {base : Nat} {v : Value} {l : List Trk} {rows : List BR} {T : Nat → Nat → Prop} (h : RP W base v l rows T) (hb : Below W.heap.size W W') : RP W' base v l rows T := ⟨h.r.ext hb, h.s, h.h⟩
theorem RP.congr {W : World} {base : Nat} {v : Value} {l : List Trk} {rows : List BR} {T T' : Nat → Nat → Prop} (h : RP W base v l rows T) (he : ∀ n k, T n k ↔ T' n k) : RP W base v l rows T' := ⟨h.r, h.s, h.h.congr he⟩
theorem RP.set {W : World} {base : Nat} {v : Value} {l : List Trk} {rows : List BR} {T : Nat → Nat → Prop} (h : RP W base v l rows T) {n k : Nat} {r : BR} (hr : rows[n]? = some r) : RP (W.setCell ⟨r.b, k, none⟩ (.bool true)) base v l (setR rows n k) (fun n' k' => T n' k' ∨ (n' = n ∧ k' = k)) :=
 ⟨h.r.set hr, by rw [(setR_bl rows n k).1]; exact h.s, h.h.set hr⟩
theorem choice_ok {l : List Trk} {x : List Nat} (h : Choice (msT l) x) : pickOk l (nums x) := by
 refine ⟨by rw [nums, List.length_map, h.1]; simp [msT], fun i k y hk hy => ?_⟩
 unfold nums at hk
 rw [List.getElem?_map] at hk
 obtain ⟨d, hd, rfl⟩ := Option.map_eq_some_iff.1 hk
 have := h.2 i y.ps.l.length d (by unfold msT; rw [List.getElem?_map, hy]; rfl) hd
 omega
end Go.Proofs.YtjiojpoiocdnmaaGreat
/- The next picks, in place: the statement's own 'next'. -/
set_option linter.unusedSimpArgs false
set_option linter.unusedVariables false
namespace Go.Proofs.YtjiojpoiocdnmaaGreat
open Go.RowKit
theorem grown_set (w : World) (g k : Nat) (v : Value) : w.grownBy (w.setCell ⟨g, k, none⟩ v) (some g) :=
 ⟨by simp [World.setCell], by simp [World.setCell], by simp [World.setCell], by simp [World.setCell], fun b _ hn => Below.heap_setCell w ⟨g, k, none⟩ v b (fun e => hn (by rw [e]))⟩
end Go.Proofs.YtjiojpoiocdnmaaGreat
/- One more track that nobody mentions: the plain law. No program in sight. -/
set_option linter.unusedSimpArgs false
set_option linter.unusedVariables false
namespace Go.Proofs.YtjiojpoiocdnmaaGreat
open Go.RowKit
theorem cnt_filter (p : Nat → Bool) (f : Nat → Nat) : ∀ L : List Nat, cnt ((L.filter p).map f) ≤ cnt (L.map (fun i => max (f i) 1))
  | [] => Nat.le_refl _
  | a :: L => by
    have ih := cnt_filter p f L
    by_cases h : p a = true
    · rw [List.filter_cons_of_pos h]
      simp only [List.map_cons, cnt]
      exact Nat.mul_le_mul (Nat.le_max_left _ _) ih
    · rw [List.filter_cons_of_neg h]
      simp only [List.map_cons, cnt]
      exact Nat.le_trans ih (Nat.le_mul_of_pos_left _ (by omega))
theorem cntC_le (l : List Trk) (c : ByteArray) : cntC l c ≤ cnt (mxT l) := by
  unfold cntC idxs
  refine Nat.le_trans (cnt_filter _ _ _) (Nat.le_of_eq ?_)
  congr 1
  unfold mxT msT
  apply List.ext_getElem?
  intro n
  rw [List.getElem?_map, List.getElem?_map]
  by_cases h : n < l.length
  · rw [List.getElem?_range h, List.getElem?_eq_getElem h]
    simp [h]
  · rw [List.getElem?_eq_none (by rw [List.length_range]; omega), List.getElem?_eq_none (by omega)]; rfl
theorem few_many {l : List Trk} (h : cnt (mxT l) ≤ 4096) : manyB l = false := by
  unfold manyB
  rw [List.any_eq_false]
  intro x _
  rw [decide_eq_true_eq]
  have := cntC_le l x.fl.call
  omega
section
variable {t : Tab} {s : List Stn} {R : List Rep} {l : List Trk} {x : Trk} {i : Nat}
/-- Is the report right, said by the tracks. -/
theorem right_iff (picks : List Nat) (shs : List Int) (r : Rep) : rightAt (stT t l) l (nums picks) shs r = true ↔ ∃ (n : Nat) (y : Trk), l[n]? = some y ∧ y.fl.call = r.call ∧ fliesB (((y.ps.l.map (staysL t))[picks.getD n 0]?).getD []) r.vol (r.mi + shs.getD r.st.toNat 0) = true := by
  unfold rightAt
  rw [List.any_eq_true]
  constructor
  · rintro ⟨n, hn, h⟩
    rw [Bool.and_eq_true, decide_eq_true_eq] at h
    obtain ⟨y, hy, hc⟩ := Option.map_eq_some_iff.1 h.1
    refine ⟨n, y, hy, hc, ?_⟩
    have := h.2
    unfold staysAt stT at this
    rw [List.getElem?_map, hy, nums_getD] at this
    simpa using this
  · rintro ⟨n, y, hy, hc, h⟩
    refine ⟨n, List.mem_range.2 (List.getElem?_eq_some_iff.1 hy).1, ?_⟩
    rw [Bool.and_eq_true, decide_eq_true_eq]
    refine ⟨by rw [hy, Option.map_some, hc], ?_⟩
    unfold staysAt stT
    rw [List.getElem?_map, hy, nums_getD]
    simpa using h
end
end Go.Proofs.YtjiojpoiocdnmaaGreat
/- Law 7: a path is possible exactly if it belongs to a world. -/
set_option linter.unusedSimpArgs false
set_option linter.unusedVariables false
namespace Go.Proofs.YtjiojpoiocdnmaaGreat
open Go.RowKit Go.Shelf Go.ChangeMaps
/-- A map of pairs that holds T. -/
structure MSpec (T : Nat → Nat → Prop) (M : List (P2 × Value)) : Prop where
 t : ∀ p ∈ M, p.2 = .bool true
 k : ∀ n q : Nat, (⟨(n : Int), (q : Int)⟩ : P2) ∈ M.map (·.1) ↔ T n q
theorem MSpec.nil {T : Nat → Nat → Prop} (h : ∀ n q, ¬ T n q) : MSpec T [] := ⟨by simp, fun n q => by simp [h n q]⟩
theorem MSpec.congr {T T' : Nat → Nat → Prop} {M : List (P2 × Value)} (h : MSpec T M) (e : ∀ n q, T n q ↔ T' n q) : MSpec T' M := ⟨h.t, fun n q => (h.k n q).trans (e n q)⟩
theorem MSpec.put {T : Nat → Nat → Prop} {M : List (P2 × Value)} (h : MSpec T M) (hn : (M.map (·.1)).Nodup) (i d : Nat) : MSpec (fun n q => T n q ∨ (n = i ∧ q = d)) (Go.Proofs.YtjiojpoiocdnmaaGreat.put M ⟨(i : Int), (d : Int)⟩ (.bool true)) := by
 refine ⟨fun p hp => ?_, fun n q => ?_⟩
 ·rcases (mem_put hn).1 hp with rfl | ⟨h1, _⟩
  ·rfl
  ·exact h.t p h1
 ·rw [put_keys]
  have e : (⟨(n : Int), (q : Int)⟩ : P2) = ⟨(i : Int), (d : Int)⟩ ↔ n = i ∧ q = d := by
   rw [P2.mk.injEq]; omega
  rw [← h.k n q, ← e]
  split
  ·rename_i h1
   exact ⟨.inl, fun x => x.elim id (fun x => x ▸ h1)⟩
  ·rw [List.mem_append, List.mem_singleton]
theorem own_raise {W : World} {base g n c : Nat} {x : List Int} (h : Own W 0 3 ic 1 (.slice (some ⟨g, 0, none⟩) n c) x) (hg : base ≤ g) : Own W base 3 ic 1 (.slice (some ⟨g, 0, none⟩) n c) x := by
 refine ⟨h.1, ?_⟩
 rcases h.2 with ⟨hv, _⟩ | ⟨g', cap, cur, hv, _, rest⟩
 ·cases hv
 ·injection hv with e1 e2 e3
  injection e1 with e1
  injection e1 with e1 _ _
  exact .inr ⟨g', cap, cur, by rw [e1, e2, e3], by omega, rest⟩
theorem wErr_ok {t : Tab} {s : List Stn} {R : List Rep} {l : List Trk} {p : List Int} (h : pickOk l p) : worldErr t s R l p = askE t s R l := by
 unfold worldErr
 by_cases e : askE t s R l = 0
 ·rw [if_neg (by rw [e]; simp), picksB_iff.2 h, e]; rfl
 ·rw [if_pos e]
theorem wVal_ok {t : Tab} {s : List Stn} {R : List Rep} {l : List Trk} {p : List Int} (h : pickOk l p) (e : askE t s R l = 0) : worldV t s R l p = worldP t s R l p := by
 unfold worldV
 rw [wErr_ok h, if_pos e]
theorem possV_len {t : Tab} {s : List Stn} {R : List Rep} {l : List Trk} {L : List (List Bool)} {E : Int} {n : Nat} (hE : possErr t s R l = E) (hL : possV t s R l = L) (hn : L.length = n) : (E = 0 → n = l.length) ∧ (¬ E = 0 → n = 0) := by
 subst hn
 refine ⟨fun h => ?_, fun h => ?_⟩
 ·rw [← hL, possV0 (hE.trans h), possL_len]
 ·rw [← hL]; unfold possV; rw [if_neg (by rw [hE]; exact h)]; rfl
theorem perr_fnd {t : Tab} {s : List Stn} {R : List Rep} {l : List Trk} (h : askE t s R l = 0) (hm : manyB l = false) : possErr t s R l = if foundB t s R l then 0 else 240 := by unfold possErr; rw [if_neg (by rw [h]; simp), hm]; rfl
end Go.Proofs.YtjiojpoiocdnmaaGreat
