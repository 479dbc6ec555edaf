/- Plots: how they lie in memory, and why what they make is right. -/
import Derived.Test.YtjiojpoiocdnmaaGreatU39
import Derived.Test.YtjiojpoiocdnmaaGreatU15
set_option linter.unusedSimpArgs false
set_option linter.unusedVariables false
namespace Go.Proofs.YtjiojpoiocdnmaaGreat
open Go.RowKit Go.ChangeShapes Go.WideShapes Go.Deep
structure Plt where
 st : Int
 tr : Int
 mi : Int
 odd : Bool
 r : Rep
def Plt.cells (x : Plt) : List Value := [.int .u8 x.st, .int .u8 x.tr, .int .u8 x.mi, .bool x.odd, .int .i64 x.r.st, .int .i64 x.r.no, .int .i64 x.r.mi, .int .i64 x.r.ar, .string x.r.call, .int .i64 x.r.vol]
def isB (n : Int) : Prop := 0 ≤ n ∧ n ≤ 255
def Plt.ok (_ : World) (x : Plt) : Prop := isB x.st ∧ isB x.tr ∧ isB x.mi
theorem u8_isB {a : Int} (h : (Lit.int .u8 a).wf = true) : isB a := by
 simp [Lit.wf, IntKind.min, IntKind.max, IntKind.signed, IntKind.bits] at h; unfold isB; omega
set_option maxRecDepth 100000 in
theorem reads_Plt : Reads Tryz.prog 111 Plt.cells Plt.ok := by
 intro H encH w base spare held fuel cs x h
 obtain ⟨xs, n, _, _, hl, hxl, hf⟩ := DataW.trod_struct Tryz.underlying111 h
 have hc : cs.length = 10 := hl.trans (by kernel_rfl)
 have hx : xs.length = 5 := hxl
 obtain ⟨a0, e0, q0⟩ := seg (reads_int Tryz.underlying5) 0 1 rfl rfl (by kernel_rfl) (hf 0 _ rfl) (by omega)
 obtain ⟨a1, e1, q1⟩ := seg (reads_int Tryz.underlying5) 1 1 rfl rfl (by kernel_rfl) (hf 1 _ rfl) (by omega)
 obtain ⟨a2, e2, q2⟩ := seg (reads_int Tryz.underlying5) 2 1 rfl rfl (by kernel_rfl) (hf 2 _ rfl) (by omega)
 obtain ⟨a3, e3, q3⟩ := seg (reads_bool Tryz.underlying4) 3 1 rfl rfl (by kernel_rfl) (hf 3 _ rfl) (by omega)
 obtain ⟨a4, e4, q4⟩ := seg reads_Rep 4 6 rfl rfl (by kernel_rfl) (hf 4 _ rfl) (by omega)
 match cs, hc with
 | [c0, c1, c2, c3, c4, c5, c6, c7, c8, c9], _ =>
  simp [SliceOf.enc, Rep.cells] at e0 e1 e2 e3 e4
  exact ⟨⟨a0, a1, a2, a3, a4⟩, by simp [Plt.cells, e0, e1, e2, e3, e4], ⟨u8_isB q0, u8_isB q1, u8_isB q2⟩⟩
theorem reads_Plts : Reads Tryz.prog 65 (SliceOf.enc (α := Plt)) (SliceOf.ok Plt.cells 10 Plt.ok) :=
 reads_slice Tryz.underlying65 reads_Plt (by kernel_rfl) (by decide) (fun _ => rfl)
def bcs (n : Int) : List Value := [.int .u8 n]
theorem reads_byte : Reads Tryz.prog 5 bcs (fun _ n => isB n) := by
 intro H encH w base spare held fuel cs x h
 obtain ⟨a, h1, h2⟩ := reads_int (P := Tryz.prog) (t := 5) (k := .u8) Tryz.underlying5 H encH w base spare held fuel cs x h
 exact ⟨a, h1, u8_isB h2⟩
theorem reads_bytes : Reads Tryz.prog 64 (SliceOf.enc (α := Int)) (SliceOf.ok bcs 1 (fun _ n => isB n)) :=
 reads_slice Tryz.underlying64 reads_byte (by kernel_rfl) (by decide) (fun _ => rfl)
/-! Plain. -/
theorem risB_lt {n : Int} : ∀ {l : List Int} {last : Int}, risB n last l = true → ∀ (i : Nat) (a b : Int), l[i]? = some a → l[i + 1]? = some b → a < b
 | [], _, _, i, _, _, h, _ => by simp at h
 | x :: r, last, h, 0, a, b, h1, h2 => by
  simp only [risB, Bool.and_eq_true, decide_eq_true_eq] at h
  simp only [List.getElem?_cons_zero, Option.some.injEq] at h1
  subst h1
  have h2 : r[0]? = some b := by simpa using h2
  cases r with
  | nil => simp at h2
  | cons y r =>
   simp only [List.getElem?_cons_zero, Option.some.injEq] at h2
   subst h2
   have := h.2
   simp only [risB, Bool.and_eq_true, decide_eq_true_eq] at this
   exact this.1.1
 | x :: r, last, h, i + 1, a, b, h1, h2 => by
  simp only [risB, Bool.and_eq_true, decide_eq_true_eq] at h
  exact risB_lt h.2 i a b (by simpa using h1) (by simpa using h2)
theorem tim_lt {t : Tab} {p : Pth} {x : Wy} (h : PathOk t p x) (hb : pathB t p = true) {i : Nat} (hi : i < x.legs.l.length) : tim p i < tim p (i + 1) := by
 unfold pathB at hb
 simp only [Bool.and_eq_true] at hb
 have hl := h.len
 have h1 := List.getElem?_eq_getElem (show i < p.ts.l.length by omega)
 have h2 := List.getElem?_eq_getElem (show i + 1 < p.ts.l.length by omega)
 rw [tim_at h1, tim_at h2]
 exact risB_lt hb.2 i _ _ h1 h2
theorem stays_leg {p : Pth} {x : Wy} {j : Nat} (hj : j < x.legs.l.length) : (staysX p x)[j + 1]? = some (legStay p x j) := by
 unfold staysX staysN
 rw [List.cons_append, List.getElem?_cons_succ, List.getElem?_append_left (by simpa using hj), List.getElem?_map, List.getElem?_range hj]
 rfl
theorem stayX_len {t : Tab} {p : Pth} {x : Wy} (h : PathOk t p x) : (staysL t p).length = x.legs.l.length + 2 := by
 unfold staysL
 rw [h.at_]
 simp [staysX, staysN]
/-- A leg's stay, taken among all stays but the ends. -/
structure LegAt (t : Tab) (p : Pth) (j : Nat) (y : Sty) : Prop where
 at_ : (staysL t p)[j + 1]? = some y
 air : y.air = false
 lt : y.mi.f < y.mi.t
 lo : 0 ≤ y.mi.f
 hi : y.mi.t ≤ 65535
theorem leg_at {t : Tab} {p : Pth} (hb : pathB t p = true) (hw : ∀ x ∈ t.ws.l, 1 ≤ x.legs.l.length) : 3 ≤ (staysL t p).length ∧ ∀ j, j + 2 < (staysL t p).length → ∃ y, LegAt t p j y := by
 obtain ⟨x, hx⟩ := path_ok hb
 have hl := stayX_len hx
 have h1 := hw x (List.mem_of_getElem? hx.at_)
 refine ⟨by omega, fun j hj => ⟨legStay p x j, ?_, rfl, tim_lt hx hb (by omega), (hx.tim _).1, (hx.tim _).2⟩⟩
 unfold staysL
 rw [hx.at_]
 exact stays_leg (by omega)
theorem legs_pos {t : Tab} (h : chkT t = 0) : ∀ x ∈ t.ws.l, 1 ≤ x.legs.l.length := by
 intro x hx
 unfold chkT at h
 split at h
 ·rename_i q
  simp only [Bool.and_eq_true, List.all_eq_true] at q
  have := q.1.1.2 x hx
  simp only [wayB, Bool.and_eq_true, inn_iff] at this
  omega
 ·cases h
theorem right_leg {t : Tab} {l : List Trk} {pk : List Nat} {shs : List Int} {n d j : Nat} {y : Trk} {p : Pth} {g : Sty} {r : Rep} (hy : l[n]? = some y) (hd : pk[n]? = some d) (hp : y.ps.l[d]? = some p) (hg : LegAt t p j g) (hc : r.call = y.fl.call) (hv : r.vol = g.ix)
  (h1 : g.mi.f ≤ r.mi + shs.getD r.st.toNat 0) (h2 : r.mi + shs.getD r.st.toNat 0 < g.mi.t) : rightAt (stT t l) l (nums pk) shs r = true := by
 rw [right_iff]
 refine ⟨n, y, hy, hc.symm, ?_⟩
 rw [List.getD_eq_getElem?_getD, hd, Option.getD_some, List.getElem?_map, hp, Option.map_some, Option.getD_some]
 unfold fliesB
 rw [List.any_eq_true]
 refine ⟨g, List.mem_of_getElem? hg.at_, ?_⟩
 unfold inV
 rw [hg.air, hv, decide_eq_true rfl, decide_eq_true h1, decide_eq_true h2]
 rfl
theorem wrK_one (p : Rep → Bool) (R : List Rep) (r : Rep) (k : Nat) : wrK p (R ++ [r]) k = wrK p R k + if decide (r.st = (k : Int)) && !p r then 1 else 0 := by
 unfold wrK
 rw [List.countP_append, List.countP_cons]
 simp
/-- What has been made: no station has more wrong reports than are counted. -/
def MadeOk (p : Rep → Bool) (R : List Rep) (O : List Nat) (i : Nat) : Prop := ∀ k, wrK p R k ≤ O.getD k 0 ∧ O.getD k 0 ≤ i
theorem MadeOk.odd {p : Rep → Bool} {R : List Rep} {O : List Nat} {i k : Nat} (h : MadeOk p R O i) {r : Rep} (hr : r.st = (k : Int)) {o : Nat} (ho : O[k]? = some o) : MadeOk p (R ++ [r]) (O.set k (o + 1)) (i + 1) := by
 intro q
 have hq := h q
 rw [wrK_one]
 by_cases e : q = k
 ·subst e
  have hlt := (List.getElem?_eq_some_iff.1 ho).1
  have h1 : (O.set q (o + 1)).getD q 0 = o + 1 := by rw [List.getD_eq_getElem?_getD, List.getElem?_set_self hlt]; rfl
  have h2 : O.getD q 0 = o := by rw [List.getD_eq_getElem?_getD, ho]; rfl
  rw [h2] at hq
  rw [h1]
  split <;> omega
 ·have h1 : (O.set k (o + 1)).getD q 0 = O.getD q 0 := by rw [List.getD_eq_getElem?_getD, List.getD_eq_getElem?_getD, List.getElem?_set_ne (Ne.symm e)]
  rw [h1, decide_eq_false (show ¬ r.st = (q : Int) by omega)]
  simp only [Bool.false_and, Bool.false_eq_true, if_false, Nat.add_zero]
  omega
theorem MadeOk.right {p : Rep → Bool} {R : List Rep} {O : List Nat} {i : Nat} (h : MadeOk p R O i) {r : Rep} (hr : p r = true) : MadeOk p (R ++ [r]) O (i + 1) := by
 intro q
 have hq := h q
 rw [wrK_one, hr]
 simp only [Bool.not_true, Bool.and_false, Bool.false_eq_true, if_false, Nat.add_zero]
 omega
theorem MadeOk.skip {p : Rep → Bool} {R : List Rep} {O : List Nat} {i : Nat} (h : MadeOk p R O i) : MadeOk p R O (i + 1) := fun q => ⟨(h q).1, Nat.le_succ_of_le (h q).2⟩
/-- Two reports change places. -/
theorem swap_count {α : Type} (p : α → Bool) {l : List α} {i k : Nat} {a b : α} (hik : i < k) (ha : l[i]? = some a) (hb : l[k]? = some b) : ((l.set i b).set k a).countP p = l.countP p := by
 have hkl := (List.getElem?_eq_some_iff.1 hb).1
 have hil := (List.getElem?_eq_some_iff.1 ha).1
 have hs : ∀ (m : List α) (j : Nat) (x y : α), m[j]? = some x → (m.set j y).countP p + (if p x then 1 else 0) = m.countP p + (if p y then 1 else 0) := by
  intro m
  induction m with
  | nil => intro j x y h; simp at h
  | cons z m ih =>
   intro j x y h
   cases j with
   | zero =>
    simp only [List.getElem?_cons_zero, Option.some.injEq] at h
    subst h
    simp only [List.set_cons_zero, List.countP_cons]
    omega
   | succ j =>
    have := ih j x y (by simpa using h)
    simp only [List.set_cons_succ, List.countP_cons]
    omega
 have h1 := hs l i a b ha
 have h2 := hs (l.set i b) k b a (by rw [List.getElem?_set_ne (by omega)]; exact hb)
 omega
theorem within_of : ∀ {ms x : List Int}, x.length = ms.length → (∀ (i : Nat) (m n : Int), ms[i]? = some m → x[i]? = some n → -m ≤ n ∧ n ≤ m) → Within ms x
 | [], x, h, _ => by
  have : x = [] := List.eq_nil_of_length_eq_zero (by simpa using h)
  subst this
  rfl
 | m :: ms, [], h, _ => by simp at h
 | m :: ms, n :: x, h, hb => by
  have h0 := hb 0 m n rfl rfl
  exact ⟨n, x, rfl, h0.1, h0.2, within_of (by simpa using h) (fun i a b h1 h2 => hb (i + 1) a b (by simpa using h1) (by simpa using h2))⟩
theorem world_true {t : Tab} {s : List Stn} {R : List Rep} {l : List Trk} {pk : List Nat} {shs : List Int} {O : List Nat} {i : Nat} (h : askE t s R l = 0) (hsh : shs ∈ shiftsL s) (hm : MadeOk (rightAt (stT t l) l (nums pk) shs) R O i) (ho : ∀ (k : Nat) (x : Stn), s[k]? = some x → ((O.getD k 0 : Nat) : Int) ≤ x.fa) : worldP t s R l (nums pk) = true := by
 rw [← anyS_eq h]
 unfold anyS
 rw [List.any_eq_true]
 refine ⟨shs, hsh, ?_⟩
 unfold worldS
 rw [List.all_eq_true]
 intro k hk
 have hk := List.mem_range.1 hk
 have hx := List.getElem?_eq_getElem hk
 refine decide_eq_true ?_
 rw [hx, Option.map_some, Option.getD_some]
 have h1 := (hm k).1
 have h2 := ho k _ hx
 omega
end Go.Proofs.YtjiojpoiocdnmaaGreat
