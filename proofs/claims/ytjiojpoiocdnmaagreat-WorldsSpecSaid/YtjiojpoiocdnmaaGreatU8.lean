/- Names: the reference's. -/
import Derived.Test.YtjiojpoiocdnmaaGreatU7
import Derived.Test.YtjiojpoiocdnmaaGreatU0
import Derived.Test.YtjiojpoiocdnmaaGreatU4
import Derived.Test.YtjiojpoiocdnmaaGreatU5
set_option linter.unusedSimpArgs false
set_option linter.unusedVariables false
namespace Go.Proofs.YtjiojpoiocdnmaaGreat
open Go.RowKit
theorem let_any (c : Int) (w : World) : Calls Tryz.prog 71 #[.int .u8 c] w fun e w' => e = .returned (.bool (letB c)) ∧ w = w' := by
  go_enter Tryz.func71, Tryz.ntmps71
  by_cases h0 : c ≤ 64
  · have e0 : decide (c ≥ 97) = false := decide_eq_false (by omega)
    have e1 : decide (c ≤ 122) = true := decide_eq_true (by omega)
    have e2 : decide (c ≥ 65) = false := decide_eq_false (by omega)
    have e3 : decide (c ≤ 90) = true := decide_eq_true (by omega)
    go_wp2_with fail
    go_ret
    exact ⟨ret_bool (by rw [Bool.eq_iff_iff]; simp [letB, inn]; omega), rfl⟩
  by_cases h1 : c ≤ 90
  · have e0 : decide (c ≥ 97) = false := decide_eq_false (by omega)
    have e1 : decide (c ≤ 122) = true := decide_eq_true (by omega)
    have e2 : decide (c ≥ 65) = true := decide_eq_true (by omega)
    have e3 : decide (c ≤ 90) = true := decide_eq_true (by omega)
    go_wp2_with fail
    go_ret
    exact ⟨ret_bool (by rw [Bool.eq_iff_iff]; simp [letB, inn]; omega), rfl⟩
  by_cases h2 : c ≤ 96
  · have e0 : decide (c ≥ 97) = false := decide_eq_false (by omega)
    have e1 : decide (c ≤ 122) = true := decide_eq_true (by omega)
    have e2 : decide (c ≥ 65) = true := decide_eq_true (by omega)
    have e3 : decide (c ≤ 90) = false := decide_eq_false (by omega)
    go_wp2_with fail
    go_ret
    exact ⟨ret_bool (by rw [Bool.eq_iff_iff]; simp [letB, inn]; omega), rfl⟩
  by_cases h3 : c ≤ 122
  · have e0 : decide (c ≥ 97) = true := decide_eq_true (by omega)
    have e1 : decide (c ≤ 122) = true := decide_eq_true (by omega)
    have e2 : decide (c ≥ 65) = true := decide_eq_true (by omega)
    have e3 : decide (c ≤ 90) = false := decide_eq_false (by omega)
    go_wp2_with fail
    go_ret
    exact ⟨ret_bool (by rw [Bool.eq_iff_iff]; simp [letB, inn]; omega), rfl⟩
  have e0 : decide (c ≥ 97) = true := decide_eq_true (by omega)
  have e1 : decide (c ≤ 122) = false := decide_eq_false (by omega)
  have e2 : decide (c ≥ 65) = true := decide_eq_true (by omega)
  have e3 : decide (c ≤ 90) = false := decide_eq_false (by omega)
  go_wp2_with fail
  go_ret
  exact ⟨ret_bool (by rw [Bool.eq_iff_iff]; simp [letB, inn]; omega), rfl⟩
theorem fig_any (c : Int) (w : World) : Calls Tryz.prog 111 #[.int .u8 c] w fun e w' => e = .returned (.bool (digB c)) ∧ w = w' := by
  go_enter Tryz.func111, Tryz.ntmps111
  by_cases h0 : c ≤ 47
  · have e0 : decide (c ≥ 48) = false := decide_eq_false (by omega)
    have e1 : decide (c ≤ 57) = true := decide_eq_true (by omega)
    go_wp2_with fail
    go_ret
    exact ⟨ret_bool (by rw [Bool.eq_iff_iff]; simp [digB, inn]; omega), rfl⟩
  by_cases h1 : c ≤ 57
  · have e0 : decide (c ≥ 48) = true := decide_eq_true (by omega)
    have e1 : decide (c ≤ 57) = true := decide_eq_true (by omega)
    go_wp2_with fail
    go_ret
    exact ⟨ret_bool (by rw [Bool.eq_iff_iff]; simp [digB, inn]; omega), rfl⟩
  have e0 : decide (c ≥ 48) = true := decide_eq_true (by omega)
  have e1 : decide (c ≤ 57) = false := decide_eq_false (by omega)
  go_wp2_with fail
  go_ret
  exact ⟨ret_bool (by rw [Bool.eq_iff_iff]; simp [digB, inn]; omega), rfl⟩
theorem part_any (c : Int) (w : World) : Calls Tryz.prog 72 #[.int .u8 c] w fun e w' => e = .returned (.bool (prtB c)) ∧ w = w' := by
  have HD : Hid (prtB c = (letB c || digB c || c == 95)) := rfl
  go_enter Tryz.func72, Tryz.ntmps72
  go_wp2_with fail
  refine (let_any c _).mono ?_
  rintro e w1 ⟨rfl, rfl⟩
  cases hl : letB c
  · go_wp2_with fail
    refine (fig_any c _).mono ?_
    rintro e w1 ⟨rfl, rfl⟩
    cases hd : digB c
    · cases hq : (c == 95)
      · go_wp2_with fail
        go_ret
        exact ⟨ret_bool (by rw [HD.out, hl, hd, hq]; rfl), rfl⟩
      · go_wp2_with fail
        go_ret
        exact ⟨ret_bool (by rw [HD.out, hl, hd, hq]; rfl), rfl⟩
    · go_wp2_with fail
      go_ret
      exact ⟨ret_bool (by rw [HD.out, hl, hd]; rfl), rfl⟩
  · go_wp2_with fail
    go_ret
    exact ⟨ret_bool (by rw [HD.out, hl]; rfl), rfl⟩
set_option maxRecDepth 100000 in
set_option maxHeartbeats 4000000 in
theorem rname_any (s : ByteArray) (w : World) : Calls Tryz.prog 39 #[.string s] w fun e w' => e = .returned (.bool (nameB s)) ∧ w = w' := by
  have HD : Hid (nameB s = (decide (1 ≤ s.size) && decide (s.size ≤ 32) && letB (byt s 0) && (List.range s.size).all (fun i => prtB (byt s i)))) := rfl
  go_enter Tryz.func39, Tryz.ntmps39
  by_cases h1 : s.size = 0
  · have e1 : decide ((s.size : Int) < 1) = true := decide_eq_true (by omega)
    have HN : Hid (nameB s = false) := by rw [HD.out, h1]; rfl
    go_wp2_with fail
    go_ret
    exact ⟨ret_bool HN.out.symm, rfl⟩
  have e1 : decide ((s.size : Int) < 1) = false := decide_eq_false (by omega)
  by_cases h2 : 32 < s.size
  · have e2 : decide ((s.size : Int) > 32) = true := decide_eq_true (by omega)
    have HN : Hid (nameB s = false) := by rw [HD.out, decide_eq_false (show ¬ s.size ≤ 32 by omega), Bool.and_false]; rfl
    go_wp2_with fail
    go_ret
    exact ⟨ret_bool HN.out.symm, rfl⟩
  have e2 : decide ((s.size : Int) > 32) = false := decide_eq_false (by omega)
  have hs32 : s.size ≤ 32 := by omega
  have h0 : 0 < s.size := by omega
  have HB0 := Lib.hid (byt_at s 0 h0)
  clear h1 h2
  go_wp2_with fail
  refine (let_any _ _).mono ?_
  rintro e w1 ⟨rfl, rfl⟩
  rw [← HB0.out]
  cases hl : letB (byt s 0)
  · have HN : Hid (nameB s = false) := by rw [HD.out, hl, Bool.and_false]; rfl
    clear hl
    go_wp2_with fail
    go_ret
    exact ⟨ret_bool HN.out.symm, rfl⟩
  have HZ : Hid (nameB s = (List.range s.size).all (fun i => prtB (byt s i))) := by
    rw [HD.out, decide_eq_true (show 1 ≤ s.size by omega), decide_eq_true hs32, hl]; rfl
  clear hl HD
  go_wp2_with fail
  clear e1 e2
  go_loopw [3] (fun i wr => ∃ k : Nat, k ≤ s.size ∧ i = .int .i64 k ∧ Hid (nameB s = ((List.range s.size).drop k).all (fun i => prtB (byt s i))) ∧ wr = w) (fun i _ => s.size - (intOf i).toNat)
  case atStart => exact ⟨0, Nat.zero_le _, rfl, HZ.out, rfl⟩
  case round =>
    obtain ⟨k, hk, rfl, HQ, hw⟩ := hrel
    obtain rfl : w = wr := hw.symm
    by_cases hlt : k < s.size
    · have hlt' : (k : Int) < s.size := by omega
      have HBK := Lib.hid (byt_at s k hlt)
      go_wp2_with fail
      refine (part_any _ _).mono ?_
      rintro e w1 ⟨rfl, rfl⟩
      try simp only [Int.toNat_natCast]
      rw [← HBK.out]
      cases hp : prtB (byt s k)
      · have HN := Lib.hid (rng_no (p := fun i => prtB (byt s i)) hlt hp)
        clear hp
        go_wp2_with fail
        go_ret
        exact ⟨ret_bool (HQ.out.trans HN.out).symm, rfl⟩
      · have HN := Lib.hid (rng_all (p := fun i => prtB (byt s i)) hlt hp)
        clear hp
        go_wp2_with fail
        first | exact ⟨⟨k + 1, by omega, by go_num, HQ.out.trans HN.out, by first | rfl | trivial⟩, by simp [intOf] <;> omega⟩ | (go_roundw; all_goals first | exact ⟨k + 1, by omega, by go_num, HQ.out.trans HN.out, by first | rfl | trivial⟩ | (simp [intOf] <;> omega))
    · have hlt' : decide ((k : Int) < s.size) = false := decide_eq_false (by omega)
      have hd : (List.range s.size).drop k = [] := List.drop_eq_nil_of_le (by simp; omega)
      rw [hd] at HQ
      clear hd
      go_wp2_with fail
      go_ret
      exact ⟨ret_bool HQ.out.symm, rfl⟩
end Go.Proofs.YtjiojpoiocdnmaaGreat
/- Tracks, paths, stations, reports, as they lie in memory. No program in sight. -/
set_option linter.unusedSimpArgs false
set_option linter.unusedVariables false
namespace Go.Proofs.YtjiojpoiocdnmaaGreat
open Go.RowKit
structure Pth where
  way : Int
  ts : SliceOf Int
structure Opt where
  de : Int
  way : Int
  ho : Int
  cn : Bool
structure Flt where
  id : Int
  al : Int
  cl : Int
  call : ByteArray
  ws : SH
  wi : Sp
  cn : Bool
structure Trk where
  fl : Flt
  op : Opt
  ps : SliceOf Pth
  po : SH
structure Stn where
  vs : SliceOf Int
  sh : Int
  fa : Int
structure Rep where
  st : Int
  no : Int
  mi : Int
  ar : Int
  call : ByteArray
  vol : Int
structure Sty where
  air : Bool
  ix : Int
  mi : Sp
def Pth.cells (x : Pth) : List Value := [.int .i64 x.way, .slice x.ts.A x.ts.l.length x.ts.c]
abbrev Pth.v (x : Pth) : Value := .agg #[.int .i64 x.way, .slice x.ts.A x.ts.l.length x.ts.c]
theorem Pth.cells_len (x : Pth) : x.cells.length = 2 := rfl
def Pth.ok (w : World) (x : Pth) : Prop := SliceOf.ok ic 1 (fun _ n => (Lit.int .i64 n).wf = true) w x.ts
def Opt.cells (x : Opt) : List Value := [.int .i64 x.de, .int .i64 x.way, .int .i64 x.ho, .bool x.cn]
abbrev Opt.v (x : Opt) : Value := .agg #[.int .i64 x.de, .int .i64 x.way, .int .i64 x.ho, .bool x.cn]
theorem Opt.cells_len (x : Opt) : x.cells.length = 4 := rfl
def Opt.ok (w : World) (x : Opt) : Prop := True
def Flt.cells (x : Flt) : List Value := [.int .i64 x.id, .int .i64 x.al, .int .i64 x.cl, .string x.call, .slice x.ws.A x.ws.n x.ws.c, .int .i64 x.wi.f, .int .i64 x.wi.t, .bool x.cn]
abbrev Flt.v (x : Flt) : Value := .agg #[.int .i64 x.id, .int .i64 x.al, .int .i64 x.cl, .string x.call, .slice x.ws.A x.ws.n x.ws.c, .int .i64 x.wi.f, .int .i64 x.wi.t, .bool x.cn]
theorem Flt.cells_len (x : Flt) : x.cells.length = 8 := rfl
def Flt.ok (w : World) (x : Flt) : Prop := x.ws.n ≤ x.ws.c ∧ x.ws.c ≤ maxLen ∧ Sp.ok w x.wi
def Trk.cells (x : Trk) : List Value := [.int .i64 x.fl.id, .int .i64 x.fl.al, .int .i64 x.fl.cl, .string x.fl.call, .slice x.fl.ws.A x.fl.ws.n x.fl.ws.c, .int .i64 x.fl.wi.f, .int .i64 x.fl.wi.t, .bool x.fl.cn, .int .i64 x.op.de, .int .i64 x.op.way, .int .i64 x.op.ho, .bool x.op.cn, .slice x.ps.A x.ps.l.length x.ps.c, .slice x.po.A x.po.n x.po.c]
abbrev Trk.v (x : Trk) : Value := .agg #[.int .i64 x.fl.id, .int .i64 x.fl.al, .int .i64 x.fl.cl, .string x.fl.call, .slice x.fl.ws.A x.fl.ws.n x.fl.ws.c, .int .i64 x.fl.wi.f, .int .i64 x.fl.wi.t, .bool x.fl.cn, .int .i64 x.op.de, .int .i64 x.op.way, .int .i64 x.op.ho, .bool x.op.cn, .slice x.ps.A x.ps.l.length x.ps.c, .slice x.po.A x.po.n x.po.c]
theorem Trk.cells_len (x : Trk) : x.cells.length = 14 := rfl
def Trk.ok (w : World) (x : Trk) : Prop := Flt.ok w x.fl ∧ Opt.ok w x.op ∧ SliceOf.ok Pth.cells 2 Pth.ok w x.ps ∧ x.po.n ≤ x.po.c ∧ x.po.c ≤ maxLen
def Stn.cells (x : Stn) : List Value := [.slice x.vs.A x.vs.l.length x.vs.c, .int .i64 x.sh, .int .i64 x.fa]
abbrev Stn.v (x : Stn) : Value := .agg #[.slice x.vs.A x.vs.l.length x.vs.c, .int .i64 x.sh, .int .i64 x.fa]
theorem Stn.cells_len (x : Stn) : x.cells.length = 3 := rfl
def Stn.ok (w : World) (x : Stn) : Prop := SliceOf.ok ic 1 (fun _ n => (Lit.int .i64 n).wf = true) w x.vs
def Rep.cells (x : Rep) : List Value := [.int .i64 x.st, .int .i64 x.no, .int .i64 x.mi, .int .i64 x.ar, .string x.call, .int .i64 x.vol]
abbrev Rep.v (x : Rep) : Value := .agg #[.int .i64 x.st, .int .i64 x.no, .int .i64 x.mi, .int .i64 x.ar, .string x.call, .int .i64 x.vol]
theorem Rep.cells_len (x : Rep) : x.cells.length = 6 := rfl
def Rep.ok (w : World) (x : Rep) : Prop := True
def Sty.cells (x : Sty) : List Value := [.bool x.air, .int .i64 x.ix, .int .i64 x.mi.f, .int .i64 x.mi.t]
abbrev Sty.v (x : Sty) : Value := .agg #[.bool x.air, .int .i64 x.ix, .int .i64 x.mi.f, .int .i64 x.mi.t]
theorem Sty.cells_len (x : Sty) : x.cells.length = 4 := rfl
def Sty.ok (w : World) (x : Sty) : Prop := Sp.ok w x.mi
variable {w w' : World}
theorem Pth.ok.ext {x : Pth} (h : Pth.ok w x) (hb : Below w.heap.size w w') : Pth.ok w' x := ints.ext h hb
theorem Stn.ok.ext {x : Stn} (h : Stn.ok w x) (hb : Below w.heap.size w w') : Stn.ok w' x := ints.ext h hb
theorem pths.ext {x : SliceOf Pth} (h : SliceOf.ok Pth.cells 2 Pth.ok w x) (hb : Below w.heap.size w w') : SliceOf.ok Pth.cells 2 Pth.ok w' x := SliceOf.ok.ext h hb (fun _ k => k.ext hb)
theorem Trk.ok.ext {x : Trk} (h : Trk.ok w x) (hb : Below w.heap.size w w') : Trk.ok w' x := ⟨h.1, trivial, pths.ext h.2.2.1 hb, h.2.2.2⟩
end Go.Proofs.YtjiojpoiocdnmaaGreat
/- The reference's check of tables says what chkT says. No program in sight. -/
set_option linter.unusedSimpArgs false
set_option linter.unusedVariables false
namespace Go.Proofs.YtjiojpoiocdnmaaGreat
/-- Different indices below a bound. -/
def idxB (n : Nat) (l : List Int) : Bool := l.all (fun x => inn x 0 (n - 1)) && decide l.Nodup
def cntS (ss : List Sec) (v : Int) (l : List Int) : Nat := l.countP (fun s => (volsAt ss s).any (· == v))
def dvdB (n : Nat) (ss : List Sec) (c : Cfg) : Bool := idxB ss.length c.ss.l && (List.range n).all (fun v => cntS ss v c.ss.l == 1)
def volB (n : Nat) (s : Sec) : Bool := decide (0 < s.vs.l.length) && idxB n s.vs.l
def chkD (n : Nat) (ss : List Sec) (cs : List Cfg) : Bool :=
  decide (1 ≤ n) && decide (n ≤ 64) && decide (ss.length ≤ 64) && decide (1 ≤ cs.length) && decide (cs.length ≤ 32) && (ss.all (volB n) && cs.all (dvdB n ss))
theorem idxB_iff {n : Nat} {l : List Int} : idxB n l = true ↔ (∀ x ∈ l, 0 ≤ x ∧ x < n) ∧ l.Nodup := by
  simp only [idxB, Bool.and_eq_true, List.all_eq_true, decide_eq_true_eq, inn]
  constructor
  · rintro ⟨h1, h2⟩; exact ⟨fun x hx => by have := h1 x hx; omega, h2⟩
  · rintro ⟨h1, h2⟩; exact ⟨fun x hx => by have := h1 x hx; omega, h2⟩
theorem setGo_of {n : Nat} : ∀ {vs : List Int} {x : Nat}, (∀ v ∈ vs, 0 ≤ v ∧ v < n ∧ x.testBit v.toNat = false) → vs.Nodup → (x ≠ 0 ∨ vs ≠ []) → ∃ y, setGo n x vs = some y
  | [], x, _, _, h => by
    rcases h with h | h
    · exact ⟨x, by simp [setGo, h]⟩
    · exact absurd rfl h
  | v :: r, x, h, hn, _ => by
    obtain ⟨a, b, c⟩ := h v List.mem_cons_self
    obtain ⟨n1, n2⟩ := List.nodup_cons.1 hn
    have hb : (x ||| 2 ^ v.toNat).testBit v.toNat = true := by rw [Nat.testBit_or, Nat.testBit_two_pow]; simp
    obtain ⟨y, hy⟩ := setGo_of (n := n) (vs := r) (x := x ||| 2 ^ v.toNat) (fun u hu => by
      obtain ⟨p, q, s⟩ := h u (List.mem_cons_of_mem _ hu)
      refine ⟨p, q, ?_⟩
      rw [Nat.testBit_or, Nat.testBit_two_pow, s]
      have : ¬ v.toNat = u.toNat := fun e => n1 (by have : v = u := by omega
                                                    rw [this]; exact hu)
      simp [this]) n2 (.inl fun e => by rw [e] at hb; simp at hb)
    refine ⟨y, ?_⟩
    simp only [setGo]
    rw [if_neg (by simp only [not_or, Int.not_lt, Int.not_le, Decidable.not_not]; exact ⟨a, b, and_two_zero.2 c⟩)]
    exact hy
theorem setsGo_of {n : Nat} : ∀ {ss : List Sec}, (∀ s ∈ ss, ∃ y, setGo n 0 s.vs.l = some y) → ∃ S, setsGo n ss = some S
  | [], _ => ⟨[], rfl⟩
  | s :: r, h => by
    obtain ⟨y, hy⟩ := h s List.mem_cons_self
    obtain ⟨S, hS⟩ := setsGo_of (ss := r) fun u hu => h u (List.mem_cons_of_mem _ hu)
    exact ⟨y :: S, by simp only [setsGo, hy, hS, Option.map_some]⟩
theorem divGo_of {S : List Nat} : ∀ {ss : List Int} {met : Nat}, (∀ s ∈ ss, 0 ≤ s ∧ s < S.length) → (∀ i : Nat, ss.countP (fun s => (S.getD s.toNat 0).testBit i) + (met.testBit i).toNat ≤ 1) → ∃ y, divGo S met ss = some y
  | [], met, _, _ => ⟨met, rfl⟩
  | s :: r, met, h, hc => by
    obtain ⟨a, b⟩ := h s List.mem_cons_self
    have hz : met &&& S.getD s.toNat 0 = 0 := by
      refine Nat.eq_of_testBit_eq fun i => ?_
      have := hc i
      rw [List.countP_cons] at this
      rw [Nat.testBit_and, Nat.zero_testBit]
      revert this
      cases met.testBit i <;> cases (S.getD s.toNat 0).testBit i <;> simp
    obtain ⟨y, hy⟩ := divGo_of (S := S) (ss := r) (met := met ||| S.getD s.toNat 0) (fun u hu => h u (List.mem_cons_of_mem _ hu)) fun i => by
      have := hc i
      rw [List.countP_cons] at this
      have hb := (and_zero_bits hz i).2
      rw [Nat.testBit_or]
      revert this hb
      cases met.testBit i <;> cases (S.getD s.toNat 0).testBit i <;> simp
    refine ⟨y, ?_⟩
    simp only [divGo]
    rw [if_neg (by simp only [not_or, Int.not_lt, Int.not_le, Decidable.not_not]; exact ⟨a, b, hz⟩)]
    exact hy
theorem nodup_count {α : Type} {P : Nat → α → Bool} : ∀ {l : List α}, (∀ i, l.countP (P i) ≤ 1) → (∀ s ∈ l, ∃ i, P i s = true) → l.Nodup
  | [], _, _ => List.nodup_nil
  | s :: r, h, hx => by
    refine List.nodup_cons.2 ⟨fun hm => ?_, nodup_count (fun i => by have := h i; rw [List.countP_cons] at this; omega) fun u hu => hx u (List.mem_cons_of_mem _ hu)⟩
    obtain ⟨i, hi⟩ := hx s List.mem_cons_self
    have := h i
    rw [List.countP_cons, hi, if_pos rfl] at this
    have h2 : 0 < r.countP (P i) := List.countP_pos_iff.2 ⟨s, hm, hi⟩
    omega
/-- The reference's division is the program's. -/
theorem chkD_eq (n : Nat) (ss : List Sec) (cs : List Cfg) : chkD n ss cs = divT n ss cs := by
  unfold chkD divT
  congr 1
  rw [Bool.eq_iff_iff, Bool.and_eq_true, List.all_eq_true, List.all_eq_true]
  constructor
  · rintro ⟨h1, h2⟩
    have hset : ∀ s ∈ ss, ∃ y, setGo n 0 s.vs.l = some y := fun s hs => by
      have := h1 s hs
      simp only [volB, Bool.and_eq_true, decide_eq_true_eq] at this
      obtain ⟨q1, q2⟩ := this
      rw [idxB_iff] at q2
      exact setGo_of (fun v hv => ⟨(q2.1 v hv).1, (q2.1 v hv).2, by simp⟩) q2.2 (.inr fun e => by rw [e] at q1; simp at q1)
    obtain ⟨S, hS⟩ := setsGo_of hset
    obtain ⟨eL, eS⟩ := setsGo_some hS
    rw [hS]
    simp only [List.all_eq_true]
    intro c hc
    have := h2 c hc
    simp only [dvdB, Bool.and_eq_true, List.all_eq_true, List.mem_range, beq_iff_eq] at this
    obtain ⟨q1, q2⟩ := this
    rw [idxB_iff] at q1
    have key : ∀ s ∈ c.ss.l, ∃ y, S.getD s.toNat 0 = y ∧ setGo n 0 (volsAt ss s) = some y := fun s hs => by
      obtain ⟨a, b⟩ := q1.1 s hs
      have hk : s.toNat < ss.length := by omega
      obtain ⟨y, e1, e2⟩ := eS s.toNat _ (List.getElem?_eq_getElem hk)
      refine ⟨y, by simp [List.getD, e1], ?_⟩
      simpa [volsAt, List.getElem?_eq_getElem hk] using e2
    have hcnt : ∀ i : Nat, c.ss.l.countP (fun s => (S.getD s.toNat 0).testBit i) = if i < n then 1 else 0 := fun i => by
      by_cases hi : i < n
      · rw [if_pos hi, ← q2 i hi]
        unfold cntS
        refine List.countP_congr fun s hs => ?_
        obtain ⟨y, e1, e2⟩ := key s hs
        have := (setGo_some e2).2.2.2 i
        rw [e1, this]
        simp
      · rw [if_neg hi, List.countP_eq_zero]
        intro s hs
        obtain ⟨y, e1, e2⟩ := key s hs
        have := (setGo_some e2).2.2.2 i
        rw [e1, this]
        simp only [Nat.zero_testBit, Bool.false_or, decide_eq_true_eq]
        intro hm
        have := ((setGo_some e2).2.1 _ hm).2.1
        omega
    obtain ⟨y, hy⟩ := divGo_of (S := S) (ss := c.ss.l) (met := 0) (fun s hs => by have := q1.1 s hs; omega) fun i => by
      rw [hcnt i]; simp only [Nat.zero_testBit, Bool.toNat_false]; split <;> omega
    have hyb := (divGo_some hy).2
    have : y = 2 ^ n - 1 := Nat.eq_of_testBit_eq fun i => by
      have h3 := hyb i
      rw [hcnt i] at h3
      simp only [Nat.zero_testBit, Bool.toNat_false, Nat.add_zero] at h3
      rw [ones_bit]
      by_cases hi : i < n
      · rw [if_pos hi] at h3
        cases hb : y.testBit i
        · rw [hb] at h3; simp at h3
        · simp [hi]
      · rw [if_neg hi] at h3
        cases hb : y.testBit i
        · simp [hi]
        · rw [hb] at h3; simp at h3
    simp only [cfgB, hy, this, beq_self_eq_true]
  · intro h
    split at h
    · cases h
    · rename_i S hS
      obtain ⟨eL, eS⟩ := setsGo_some hS
      rw [List.all_eq_true] at h
      have hvol : ∀ s ∈ ss, ∃ y, setGo n 0 s.vs.l = some y := fun s hs => by
        obtain ⟨k, hk, rfl⟩ := List.getElem_of_mem hs
        obtain ⟨y, _, e⟩ := eS k _ (List.getElem?_eq_getElem hk)
        exact ⟨y, e⟩
      refine ⟨fun s hs => ?_, fun c hc => ?_⟩
      · obtain ⟨y, hy⟩ := hvol s hs
        obtain ⟨a, b, c, d⟩ := setGo_some hy
        simp only [volB, Bool.and_eq_true, decide_eq_true_eq]
        refine ⟨?_, idxB_iff.2 ⟨fun v hv => ⟨(b v hv).1, (b v hv).2.1⟩, c⟩⟩
        cases hv : s.vs.l with
        | nil => rw [hv] at hy; simp [setGo] at hy
        | cons _ _ => simp
      · have hd := h c hc
        simp only [cfgB, beq_iff_eq] at hd
        obtain ⟨d1, d2⟩ := divGo_some hd
        have key : ∀ s ∈ c.ss.l, ∃ y, S.getD s.toNat 0 = y ∧ setGo n 0 (volsAt ss s) = some y := fun s hs => by
          obtain ⟨a, b⟩ := d1 s hs
          have hk : s.toNat < ss.length := by omega
          obtain ⟨y, e1, e2⟩ := eS s.toNat _ (List.getElem?_eq_getElem hk)
          refine ⟨y, by simp [List.getD, e1], ?_⟩
          simpa [volsAt, List.getElem?_eq_getElem hk] using e2
        have hnd : c.ss.l.Nodup := nodup_count (P := fun i s => (S.getD s.toNat 0).testBit i) (fun i => by
          have := d2 i
          rw [Nat.zero_testBit] at this
          have h2 := Bool.toNat_le ((2 ^ n - 1).testBit i)
          simp only [Bool.toNat_false, Nat.add_zero] at this
          omega) fun s hs => by
            obtain ⟨y, e1, e2⟩ := key s hs
            have hy0 := (setGo_some e2).1
            obtain ⟨i, hi⟩ := Nat.exists_testBit_of_ne_zero hy0
            exact ⟨i, by rw [e1]; exact hi⟩
        simp only [dvdB, Bool.and_eq_true, List.all_eq_true, List.mem_range, beq_iff_eq]
        refine ⟨idxB_iff.2 ⟨fun s hs => by have := d1 s hs; omega, hnd⟩, fun v hv => ?_⟩
        have := d2 v
        rw [ones_bit] at this
        simp only [Nat.zero_testBit, Bool.toNat_false, Nat.add_zero, hv, decide_true, Bool.toNat_true] at this
        rw [← this]
        unfold cntS
        refine List.countP_congr fun s hs => ?_
        obtain ⟨y, e1, e2⟩ := key s hs
        have := (setGo_some e2).2.2.2 v
        rw [e1, this]
        simp
/-- The reference's check of tables. -/
def rchkT (t : Tab) : Int :=
  if inn t.n 1 64 && chkD t.n.toNat t.ss.l t.cs.l && decide (t.ms.l.length ≤ 16) && decide (t.ws.l.length ≤ 64) && decide (t.ks.l.length ≤ 8) && t.ss.l.all secB && t.ms.l.all modeB &&
    t.ws.l.all (wayB t.n t.ms.l.length) && t.ks.l.all (kindB t.ms.l.length) then 0 else 140
theorem rchkT_eq (t : Tab) : rchkT t = chkT t := by
  unfold rchkT chkT
  rw [chkD_eq]
  congr 1
  simp only [Bool.and_eq_true, eq_iff_iff]
  constructor <;> rintro ⟨⟨⟨⟨⟨⟨⟨⟨a, b⟩, c⟩, d⟩, e⟩, f⟩, g⟩, h⟩, i⟩
  · exact ⟨⟨⟨⟨⟨⟨⟨⟨a, b⟩, f⟩, c⟩, g⟩, d⟩, h⟩, e⟩, i⟩
  · exact ⟨⟨⟨⟨⟨⟨⟨⟨a, b⟩, d⟩, f⟩, h⟩, c⟩, e⟩, g⟩, i⟩
theorem idx_snoc {n : Nat} {l : List Int} {x : Int} : idxB n (l ++ [x]) = (idxB n l && inn x 0 (n - 1) && !(l.any (· == x))) := by
  rw [Bool.eq_iff_iff, Bool.and_eq_true, Bool.and_eq_true, idxB_iff, idxB_iff]
  simp only [List.mem_append, List.mem_singleton, List.nodup_append, Bool.not_eq_true', List.any_eq_false, beq_iff_eq, inn, Bool.and_eq_true, decide_eq_true_eq]
  constructor
  · rintro ⟨h1, h2, h3, h4⟩
    refine ⟨⟨⟨fun y hy => h1 y (.inl hy), h2⟩, ?_⟩, fun y hy e => ?_⟩
    · have := h1 x (.inr rfl); omega
    · exact h4 y hy x rfl e
  · rintro ⟨⟨⟨h1, h2⟩, h3⟩, h4⟩
    refine ⟨?_, h2, by simp, ?_⟩
    · rintro y (hy | rfl)
      · exact h1 y hy
      · omega
    · rintro a ha b rfl e
      exact h4 a ha e
theorem idx_pre {n : Nat} {l r : List Int} (h : idxB n (l ++ r) = true) : idxB n l = true := by
  rw [idxB_iff] at h ⊢
  exact ⟨fun x hx => h.1 x (List.mem_append_left _ hx), (List.nodup_append.1 h.2).1⟩
end Go.Proofs.YtjiojpoiocdnmaaGreat
