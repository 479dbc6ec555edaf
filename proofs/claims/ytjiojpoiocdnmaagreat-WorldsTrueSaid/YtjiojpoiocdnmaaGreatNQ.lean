/- All combinations of shifts. -/
import Derived.Test.YtjiojpoiocdnmaaGreatU18
import Derived.Test.YtjiojpoiocdnmaaGreatU8
import Derived.Test.YtjiojpoiocdnmaaGreatU7
import Derived.Lib.SliceRun
set_option linter.unusedSimpArgs false
set_option linter.unusedVariables false
namespace Go.Proofs.YtjiojpoiocdnmaaGreat
open Go.RowKit
attribute [local go_sem] store_func
theorem intI : EInfo Tryz.prog 39 3 ic 1 8 := by
 obtain ⟨i, h1, h2, h3, h4⟩ := iparts (show (Tryz.prog.info? 3).map (fun i => (i.zero, i.size, i.bytes)) = some (some (.int .i64 0), 1, 8) by kernel_rfl)
 exact ⟨Tryz.underlying39, ⟨i, _, h1, h2, h3, h4, rfl⟩, by decide, fun _ => rfl, fun x u hu => by simp [ic] at hu; subst hu; rfl⟩
theorem rowI : EInfo Tryz.prog 25 39 (SliceOf.enc (α := Int)) 1 24 := by
 obtain ⟨i, h1, h2, h3, h4⟩ := iparts (show (Tryz.prog.info? 39).map (fun i => (i.zero, i.size, i.bytes)) = some (some (.slice none 0 0), 1, 24) by kernel_rfl)
 exact ⟨Tryz.underlying25, ⟨i, _, h1, h2, h3, h4, rfl⟩, by decide, fun _ => rfl, fun x u hu => by simp [SliceOf.enc] at hu; subst hu; rfl⟩
theorem eqnil39 (w : World) (a : Option Addr) (n c : Nat) : (binOp .eql 39 (.slice a n c) (.slice none 0 0)).run Tryz.prog w = .ok (.bool a.isNone) w := by
 exact Lib.run_eql_slice_nil w 39 3 a n c 0 0 Tryz.underlying39
def CloneR (w : World) (l : List Int) (e : Ending) (w' : World) : Prop := ∃ A c, e = .returned (.slice A l.length c) ∧ Own w' w.heap.size 3 ic 1 (.slice A l.length c) l ∧ Below w.heap.size w w'
set_option maxRecDepth 100000 in
set_option maxHeartbeats 400000 in
theorem clone_any (A : Option Addr) (c n : Nat) (l : List Int) (w : World) (hn : n = l.length) (ha : Slc w ic 1 A l) (hl : l.length ≤ 1048576) : Calls Tryz.prog 81 #[.slice A n c] w (CloneR w l) := by
 subst hn
 cases A with
 | none =>
  have hl0 : l = [] := List.eq_nil_of_length_eq_zero (ha.none_len rfl)
  subst hl0
  clear ha hl
  have hnil := fun w => eqnil39 w none 0 c
  simp only [Option.isNone_none] at hnil
  go_enter Tryz.func81, Tryz.ntmps81
  go_wp2_with fail
  all_goals
   go_ret
   exact ⟨none, 0, rfl, Own.nil _ _ _ _ _, ext_refl w⟩
 | some a =>
  obtain ⟨v', w', hrun, A', c', rfl, hO', hE', _, _, _⟩ := Own.append_to (w0 := w) intI 39 (Own.made w w.heap.size 3 ic 1 (Nat.le_refl _)) (ext_alloc (ext_refl w) _) (ys := l) (m := l.length) rfl c (ha.ext (ext_alloc (ext_refl w) _)) (by simp; omega) (by unfold maxLen; simp; omega)
  have HR := Lib.hid hrun
  have HO := Lib.hid hO'
  clear hrun hO' hl ha
  have hnil := fun w => eqnil39 w (some a) l.length c
  simp only [Option.isNone_some] at hnil
  go_enter Tryz.func81, Tryz.ntmps81
  go_wp2_with (first | (at_builtin; refine wpList_append_run rfl (.tmp 5) (.tmp 6) 39 rfl (.slice (some ⟨w.heap.size, 0, none⟩) 0 0) (.slice (some a) l.length c) rfl rfl HR.out ?_) | fail)
  go_ret
  exact ⟨A', c', by simp, by simpa using HO.out, hE'⟩
theorem wi_any (n a b : Int) (w : World) : Calls Tryz.prog 79 #[.int .i64 n, .int .i64 a, .int .i64 b] w fun e w' => e = .returned (.bool (inn n a b)) ∧ w = w' := by
 go_enter Tryz.func79, Tryz.ntmps79
 by_cases h1 : a ≤ n
 ·have e1 : decide (a ≤ n) = true := by simpa using h1
  by_cases h2 : n ≤ b
  ·have e2 : decide (n ≤ b) = true := by simpa using h2
   go_wp2
   all_goals go_ret
   all_goals exact ⟨ret_bool (by simp [inn]; omega), rfl⟩
  ·have e2 : decide (n ≤ b) = false := by simpa using h2
   go_wp2
   all_goals go_ret
   all_goals exact ⟨ret_bool (by simp [inn]; omega), rfl⟩
 ·have e1 : decide (a ≤ n) = false := by simpa using h1
  go_wp2
  all_goals go_ret
  all_goals exact ⟨ret_bool (by simp [inn]; omega), rfl⟩
set_option maxHeartbeats 400000 in
theorem indexStn (g : Nat) (p : Stn → Bool) (A : Option Addr) (c : Nat) (l : List (Stn)) (w : World) (ha : Slc w Stn.cells 3 A l) (hn : l.length ≤ maxLen) (hE : Enters Tryz.prog g)
  (hp : ∀ (x : Stn) (W : World), x ∈ l → Below w.heap.size w W → Calls Tryz.prog g #[x.v] W fun e W' => e = .returned (.bool (p x)) ∧ Below W.heap.size W W') :
  Calls Tryz.prog 75 #[.slice A l.length c, .func (.func g) #[] #[]] w fun e w' => e = .returned (.int .i64 (idxGo p 0 l)) ∧ Below w.heap.size w w' := by
 have HP := Lib.hid hp
 have HE := Lib.hid hE
 clear hp hE
 unfold maxLen at hn
 go_enter Tryz.func75, Tryz.ntmps75
 go_wp2
 go_loopw [8] (fun i wr => ∃ k : Nat, k ≤ l.length ∧ i = .int .i64 k ∧ idxGo p 0 l = idxGo p k (l.drop k) ∧ Below w.heap.size w wr) (fun i _ => l.length - (intOf i).toNat)
 case atStart => exact ⟨0, Nat.zero_le _, rfl, rfl, ext_refl _⟩
 case round =>
  obtain ⟨k, hk, rfl, heq, hB⟩ := hrel
  have HQ := Lib.hid heq
  clear heq
  by_cases hlt : k < l.length
  ·obtain ⟨x, b1, o1, hx, rfl, hb1, hc⟩ := (ha.ext hB).at_ hlt
   have HX := Lib.hid hx
   clear hx
   have c0 := hc 0 _ rfl
   have c1 := hc 1 _ rfl
   have c2 := hc 2 _ rfl
   simp only [Nat.mul_one, Nat.add_zero] at c0 c1 c2
   clear hc
   have hlt' : (k : Int) < l.length := by omega
   have hE2 := HE.out #[x.v] wr
   cases hpx : p x
   ·go_wp2_with fail
    refine (HP.out x wr (List.mem_of_getElem? HX.out) hB).mono ?_
    rintro e w1 ⟨rfl, hB1⟩
    clear hE2
    go_wp2_with fail
    go_roundw
    case rel => exact ⟨k + 1, hlt, by go_num, idx_step HX.out hpx HQ.out, ext_trans hB hB1⟩
    case measure => simp [intOf]; omega
   ·go_wp2_with fail
    refine (HP.out x wr (List.mem_of_getElem? HX.out) hB).mono ?_
    rintro e w1 ⟨rfl, hB1⟩
    clear hE2
    go_wp2_with fail
    go_ret
    exact ⟨ret_int (idx_hit HX.out hpx HQ.out).symm, ext_trans hB hB1⟩
  ·go_wp2_with fail
   go_ret
   exact ⟨ret_int (idx_end (by omega) HQ.out).symm, hB⟩
theorem containsStn (g : Nat) (p : Stn → Bool) (A : Option Addr) (c : Nat) (l : List (Stn)) (w : World) (ha : Slc w Stn.cells 3 A l) (hn : l.length ≤ maxLen) (hE : Enters Tryz.prog g)
  (hp : ∀ (x : Stn) (W : World), x ∈ l → Below w.heap.size w W → Calls Tryz.prog g #[x.v] W fun e W' => e = .returned (.bool (p x)) ∧ Below W.heap.size W W') :
  Calls Tryz.prog 45 #[.slice A l.length c, .func (.func g) #[] #[]] w fun e w' => e = .returned (.bool (l.any p)) ∧ Below w.heap.size w w' := by
 have HP := Lib.hid hp
 have HE := Lib.hid hE
 clear hp hE
 go_enter Tryz.func45, Tryz.ntmps45
 go_wp2_with fail
 refine (indexStn g p A c l _ ha hn HE.out HP.out).mono ?_
 rintro e w1 ⟨rfl, hB1⟩
 go_wp2_with fail
 go_ret
 exact ⟨ret_bool (idx_any p l), hB1⟩

set_option maxHeartbeats 400000 in
theorem indexStnC (g : Nat) (cap1 : Value) (p : Stn → Bool) (A : Option Addr) (c : Nat) (l : List (Stn)) (w : World) (ha : Slc w Stn.cells 3 A l) (hn : l.length ≤ maxLen) (hE : Enters Tryz.prog g)
  (hp : ∀ (x : Stn) (W : World), x ∈ l → Below w.heap.size w W → Calls Tryz.prog g #[x.v, cap1] W fun e W' => e = .returned (.bool (p x)) ∧ Below W.heap.size W W') :
  Calls Tryz.prog 75 #[.slice A l.length c, .func (.func g) #[] #[cap1]] w fun e w' => e = .returned (.int .i64 (idxGo p 0 l)) ∧ Below w.heap.size w w' := by
 have HP := Lib.hid hp
 have HE := Lib.hid hE
 clear hp hE
 unfold maxLen at hn
 go_enter Tryz.func75, Tryz.ntmps75
 go_wp2
 go_loopw [8] (fun i wr => ∃ k : Nat, k ≤ l.length ∧ i = .int .i64 k ∧ idxGo p 0 l = idxGo p k (l.drop k) ∧ Below w.heap.size w wr) (fun i _ => l.length - (intOf i).toNat)
 case atStart => exact ⟨0, Nat.zero_le _, rfl, rfl, ext_refl _⟩
 case round =>
  obtain ⟨k, hk, rfl, heq, hB⟩ := hrel
  have HQ := Lib.hid heq
  clear heq
  by_cases hlt : k < l.length
  ·obtain ⟨x, b1, o1, hx, rfl, hb1, hc⟩ := (ha.ext hB).at_ hlt
   have HX := Lib.hid hx
   clear hx
   have c0 := hc 0 _ rfl
   have c1 := hc 1 _ rfl
   have c2 := hc 2 _ rfl
   simp only [Nat.mul_one, Nat.add_zero] at c0 c1 c2
   clear hc
   have hlt' : (k : Int) < l.length := by omega
   have hE2 := HE.out #[x.v, cap1] wr
   cases hpx : p x
   ·go_wp2_with fail
    refine (HP.out x wr (List.mem_of_getElem? HX.out) hB).mono ?_
    rintro e w1 ⟨rfl, hB1⟩
    clear hE2
    go_wp2_with fail
    go_roundw
    case rel => exact ⟨k + 1, hlt, by go_num, idx_step HX.out hpx HQ.out, ext_trans hB hB1⟩
    case measure => simp [intOf]; omega
   ·go_wp2_with fail
    refine (HP.out x wr (List.mem_of_getElem? HX.out) hB).mono ?_
    rintro e w1 ⟨rfl, hB1⟩
    clear hE2
    go_wp2_with fail
    go_ret
    exact ⟨ret_int (idx_hit HX.out hpx HQ.out).symm, ext_trans hB hB1⟩
  ·go_wp2_with fail
   go_ret
   exact ⟨ret_int (idx_end (by omega) HQ.out).symm, hB⟩
theorem containsStnC (g : Nat) (cap1 : Value) (p : Stn → Bool) (A : Option Addr) (c : Nat) (l : List (Stn)) (w : World) (ha : Slc w Stn.cells 3 A l) (hn : l.length ≤ maxLen) (hE : Enters Tryz.prog g)
  (hp : ∀ (x : Stn) (W : World), x ∈ l → Below w.heap.size w W → Calls Tryz.prog g #[x.v, cap1] W fun e W' => e = .returned (.bool (p x)) ∧ Below W.heap.size W W') :
  Calls Tryz.prog 45 #[.slice A l.length c, .func (.func g) #[] #[cap1]] w fun e w' => e = .returned (.bool (l.any p)) ∧ Below w.heap.size w w' := by
 have HP := Lib.hid hp
 have HE := Lib.hid hE
 clear hp hE
 go_enter Tryz.func45, Tryz.ntmps45
 go_wp2_with fail
 refine (indexStnC g cap1 p A c l _ ha hn HE.out HP.out).mono ?_
 rintro e w1 ⟨rfl, hB1⟩
 go_wp2_with fail
 go_ret
 exact ⟨ret_bool (idx_any p l), hB1⟩

theorem entersSh : Enters Tryz.prog 78 := fun args w => by kernel_rfl
theorem badSh_any (x : Stn) (w : World) : Calls Tryz.prog 78 #[x.v] w fun e w' => e = .returned (.bool (!inn x.sh 0 3)) ∧ Below w.heap.size w w' := by
 go_enter Tryz.func78, Tryz.ntmps78
 go_wp2_with fail
 refine (wi_any x.sh 0 3 _).mono ?_
 rintro e w1 ⟨rfl, rfl⟩
 go_wp2_with fail
 go_ret
 exact ⟨rfl, ext_alloc (ext_refl _) _⟩
/-- What extend reads. -/
structure ShC (W : World) (bs bl be base : Nat) (A : Option Addr) (c : Nat) (ss : List Stn) : Prop where
 S : Boxed W bs 29 (.slice A ss.length c)
 F : Boxed W be 170 (.func (.func 80) #[] #[.pointer (some ⟨bs, 0, none⟩), .pointer (some ⟨bl, 0, none⟩), .pointer (some ⟨be, 0, none⟩)])
 R : Slc W Stn.cells 3 A ss
 sb : bs < base ∧ bs ≠ bl
 eb : be < base ∧ be ≠ bl
 ab : ∀ b o, 0 < ss.length → A = some ⟨b, o, none⟩ → b < base ∧ b ≠ bl
 hi : base ≤ W.heap.size
theorem ShC.keep {W W' : World} {bs bl be base c : Nat} {A : Option Addr} {ss : List Stn} (h : ShC W bs bl be base A c ss) (hk : ∀ k, k < base → k ≠ bl → W'.heap[k]? = W.heap[k]?) (hs : W.heap.size ≤ W'.heap.size) : ShC W' bs bl be base A c ss :=
 ⟨(hk bs h.sb.1 h.sb.2).trans h.S, (hk be h.eb.1 h.eb.2).trans h.F, fun i x hx => by
  obtain ⟨b, o, e, hlt, hc⟩ := h.R i x hx
  obtain ⟨h1, h2⟩ := h.ab b o (Nat.lt_of_le_of_lt (Nat.zero_le _) (List.getElem?_eq_some_iff.1 hx).1) e
  exact ⟨b, o, e, Nat.lt_of_lt_of_le hlt hs, fun j u hj => (World.cell?_of_block (w := W) (a := ⟨b, o + i * 3 + j, none⟩) (hk b h1 h2)).trans (hc j u hj)⟩, h.sb, h.eb, h.ab, Nat.le_trans h.hi hs⟩
theorem rng_at {m : Int} {j : Nat} (h : (j : Int) < 2 * m + 1) : (rngM m)[j]? = some ((j : Int) - m) := by
 unfold rngM
 rw [List.getElem?_map, List.getElem?_range (by omega)]; rfl
theorem rng_len (m : Int) : (rngM m).length = (2 * m + 1).toNat := by simp [rngM]
theorem exts_len : ∀ (ms : List Int) (b : List Int), (∀ m ∈ ms, m ≤ 3) → (exts ms b).length ≤ 7 ^ ms.length
 | [], b, _ => by simp [exts]
 | m :: r, b, h => by
  have hm := h m List.mem_cons_self
  have ih : ∀ n, (exts r (b ++ [n])).length ≤ 7 ^ r.length := fun n => exts_len r (b ++ [n]) (fun x hx => h x (List.mem_cons_of_mem _ hx))
  have key : ∀ l : List Int, (l.flatMap (fun n => exts r (b ++ [n]))).length ≤ l.length * 7 ^ r.length := by
   intro l
   induction l with
   | nil => simp
   | cons a t iht =>
    rw [List.flatMap_cons, List.length_append, List.length_cons, Nat.add_mul, Nat.one_mul]
    have := ih a
    omega
  have h1 := key (rngM m)
  have h2 : (rngM m).length ≤ 7 := by rw [rng_len]; omega
  have h3 : (rngM m).length * 7 ^ r.length ≤ 7 * 7 ^ r.length := Nat.mul_le_mul_right _ h2
  simp only [exts, List.length_cons, Nat.pow_succ]
  omega
theorem flat_lenE (ms : List Int) (f : Int → List Int) (hms : ∀ m ∈ ms, m ≤ 3) : ∀ l : List Int, (l.flatMap (fun n => exts ms (f n))).length ≤ l.length * 7 ^ ms.length := by
 intro l
 induction l with
 | nil => simp
 | cons a t iht =>
  rw [List.flatMap_cons, List.length_append, List.length_cons, Nat.add_mul, Nat.one_mul]
  have := exts_len ms (f a) hms
  omega
theorem ShQ.leaf {W wc W4 : World} {bl base : Nat} {v vb v' : Value} {lb : List Int} {rows : List (SliceOf Int)} {r0 : SliceOf Int} (hB : Boxed W bl 25 v) (hL : LR W base v rows vb) (hb : Own W base 3 ic 1 vb lb) (hbl : bl < base)
  (hbs : base ≤ W.heap.size) (hE : Below W.heap.size W wc) (hr : r0.l = lb) (hO : Own wc W.heap.size 3 ic 1 r0.v r0.l) (hA : AP 39 SliceOf.enc 1 base wc v rows [r0] v' W4) : ShQ W (W4.setCell ⟨bl, 0, none⟩ v') bl base v vb lb rows [lb] v' [r0] := by
 have hk : ∀ k, k < wc.heap.size → k ≠ bl → v.ownBlock ≠ some k → (W4.setCell ⟨bl, 0, none⟩ v').heap[k]? = wc.heap[k]? := fun k hk h1 h2 => (Below.heap_setCell W4 ⟨bl, 0, none⟩ v' k h1).trans (hA.g.block k hk (fun e => h2 e.symm))
 have hvb : ∀ k, v.ownBlock = some k → base ≤ k ∧ k < W.heap.size := fun k e => ⟨(hL.o.lt k e).2, (hL.o.lt k e).1⟩
 have hvb2 : ∀ k, v'.ownBlock = some k → base ≤ k := fun k e => (hA.o.lt k e).2
 have hB4 : Boxed W4 bl 25 v := (hA.g.block bl (Nat.lt_of_lt_of_le hB.lt hE.size) (fun e => by have := (hvb bl e.symm).1; omega)).trans ((hE.block bl hB.lt).trans hB)
 have hsz : wc.heap.size ≤ (W4.setCell ⟨bl, 0, none⟩ v').heap.size := by simpa [World.setCell] using hA.g.size
 have own3 : ∀ {u : Value} {l : List Int} {b : Nat}, Own wc b 3 ic 1 u l → base ≤ b → Own (W4.setCell ⟨bl, 0, none⟩ v') b 3 ic 1 u l := fun {u l b} ho hbb => ho.block fun k e => hk k (ho.lt k e).1 (by have := (ho.lt k e).2; omega) (fun e' => ho.ne (hL.o.ext hE) (by decide) k e e')
 refine ⟨hB4.set v', ⟨hA.o.block fun k e => Below.heap_setCell W4 ⟨bl, 0, none⟩ v' k (by have := hvb2 k e; show k ≠ bl; omega), fun r h => ?_, fun r h k e e' => ?_⟩, by simp [hr], fun r h k e => ?_, own3 (hb.ext hE) (Nat.le_refl _), ?_, hA.g.os.trans hE.os, hA.g.tape.trans hE.tape, hA.g.output.trans hE.output, Nat.le_trans hE.size hsz, fun k h1 h2 h3 _ => (hk k (Nat.lt_of_lt_of_le h1 hE.size) h2 h3).trans (hE.block k h1)⟩
 ·rcases List.mem_append.1 h with h | h
  ·exact own3 ((hL.r r h).ext hE) (Nat.le_refl _)
  ·obtain rfl := List.mem_singleton.1 h
   exact (own3 hO hbs).low hbs
 ·rcases List.mem_append.1 h with h | h
  ·exact hL.d r h k e e'
  ·obtain rfl := List.mem_singleton.1 h
   have := (hO.lt k e').2
   have := (hb.lt k e).1
   omega
 ·obtain rfl := List.mem_singleton.1 h
  exact (hO.lt k e).2
 ·rcases hA.way with ⟨q, _⟩ | ⟨q, _⟩
  ·exact .inl q
  ·exact .inr fun k e => Nat.le_trans hE.size (q k e)
set_option maxRecDepth 100000 in
set_option maxHeartbeats 8000000 in
theorem ext_any (A : Option Addr) (c bs bl be base : Nat) (ss : List Stn) (hss : ss.length ≤ 4) (hsh : ∀ s ∈ ss, 0 ≤ s.sh ∧ s.sh ≤ 3) (hbl : bl < base) :
  ∀ (r : Nat) (W : World) (lb : List Int) (vb v : Value) (rows : List (SliceOf Int)), r + lb.length = ss.length → rows.length + 7 ^ r ≤ 100000 → ShC W bs bl be base A c ss → Boxed W bl 25 v → LR W base v rows vb → Own W base 3 ic 1 vb lb →
  Calls Tryz.prog 80 (#[vb] ++ #[.pointer (some ⟨bs, 0, none⟩), .pointer (some ⟨bl, 0, none⟩), .pointer (some ⟨be, 0, none⟩)]) W fun e W' => (∃ v, e = .returned v) ∧ ShP W W' bl base v vb lb rows (exts ((ss.drop lb.length).map (·.sh)) lb) := by
 intro r
 induction r with
 | zero =>
  intro W lb vb v rows hr hrw hC hB hL hO
  obtain ⟨Ab, cb, rfl, -⟩ := hO.form
  have HC := Lib.hid hC
  have HB := Lib.hid hB
  have HL := Lib.hid hL
  have HO := Lib.hid hO
  have hs := hC.S.cell
  have hlb : lb.length = ss.length := by omega
  have HEX : Hid (exts ((ss.drop lb.length).map (·.sh)) lb = [lb]) := by unfold Hid; rw [List.drop_eq_nil_of_le (by omega)]; rfl
  rw [HEX.out]
  have hn4 : lb.length ≤ 4 := by omega
  obtain ⟨n, hn⟩ : ∃ n, lb.length = n := ⟨_, rfl⟩
  rw [hn] at hlb HO HL hn4 ⊢
  have HN := Lib.hid hn
  have SL := Lib.hid (show Slc W ic 1 Ab lb from hO.slc (fun _ => rfl) (by decide))
  rw [← hlb] at hs
  clear hC hB hL hO hr hsh hss hlb hn HEX
  simp only [List.append_toArray, List.cons_append, List.nil_append]
  go_enter Tryz.func80, Tryz.ntmps80
  go_wp2_with fail
  clear hs
  have hcell := HB.out.cell
  have HL2 := Lib.hid HL.out.o
  have hrw' : rows.length ≤ 100000 := by omega
  clear hrw
  refine rg_begin (S := (fun w' => w'.cell? ⟨bl, 0, none⟩ = some v)) 5 (by kernel_rfl) (by intro d; cases d <;> intro _ _ _ _ h <;> exact h) ?_ (fun Q7 hQ7 hN7 hHeld => ?_)
  ·exact hcell
  refine rgT 0 (some 12) hQ7 hHeld ?_; refine rgT 1 (some 13) hQ7 hHeld ?_
  refine rg_one (i := 2) (by kernel_rfl) (rg_step rfl (by rfl) (fun K hK => ?_))
  go_simp
  refine (clone_any Ab cb n lb _ HN.out.symm (SL.out.ext (ext_drew (ext_refl W))) (by rw [HN.out]; omega)).mono ?_
  rintro e w1 ⟨A1, c1, rfl, hO1, hB1⟩
  rw [HN.out] at hO1 ⊢
  have BE := Lib.hid (ext_trans (ext_drew (ext_refl W)) hB1)
  have HO1 := Lib.hid (show Own w1 W.heap.size 3 ic 1 (.slice A1 n c1) lb from hO1)
  have hc1 : w1.cell? ⟨bl, 0, none⟩ = some v := (hB1.cell (p := ⟨bl, 0, none⟩) HB.out.lt).trans hcell
  clear hO1 hB1
  go_wp2_with fail
  refine hK.out _ _ hc1 (fun hHeld2 => ?_)
  clear hHeld hHeld2 hK K
  try simp only [Act.put, List.setIfInBounds_toArray, List.set_cons_zero, List.set_cons_succ]
  have BE2 := Lib.hid (ext_alloc BE.out (.cells #[.slice A1 n c1] 39))
  have HO2 := Lib.hid (HO1.out.alloc (.cells #[.slice A1 n c1] 39))
  have hc2 : (w1.alloc (.cells #[.slice A1 n c1] 39)).cell? ⟨bl, 0, none⟩ = some v := ((ext_alloc (ext_refl w1) (.cells #[.slice A1 n c1] 39)).cell (p := ⟨bl, 0, none⟩) (Nat.lt_of_lt_of_le HB.out.lt BE.out.size)).trans hc1
  refine rg_one (i := 3) (by kernel_rfl) (rg_step rfl (by rfl) (fun K hK => ?_))
  go_simp
  refine hK.out _ _ hc2 (fun hHeld2 => ?_)
  clear hHeld2 hK K
  try simp only [Act.put, List.setIfInBounds_toArray, List.set_cons_zero, List.set_cons_succ]
  obtain ⟨v4, W4, hrun, hAP⟩ := Own.append_two rowI 25 (HL2.out.ext BE2.out) (ys := [(⟨A1, c1, lb⟩ : SliceOf Int)]) (m := 1) rfl (by simp) 1 (slc_litH w1 [(⟨A1, c1, lb⟩ : SliceOf Int)] #[.slice A1 n c1] 39 (enc := SliceOf.enc) (sz := 1) (fun _ => rfl) (by simp [SliceOf.enc, HN.out]) w1.heap.size rfl) (by simp; omega) (by unfold maxLen; simp; omega) (by have := HC.out.hi; have := BE2.out.size; omega)
  have HAP := Lib.hid hAP
  obtain ⟨A4, n4, c4, rfl, hn4⟩ := hAP.fm
  have HN4 := Lib.hid hn4
  clear hn4
  have hvb : ∀ k, v.ownBlock = some k → base ≤ k := fun k e => (HL2.out.lt k e).2
  have hB4 : W4.heap[bl]? = W.heap[bl]? := (hAP.g.block bl (Nat.lt_of_lt_of_le HB.out.lt BE2.out.size) (fun e => by have := hvb bl e.symm; omega)).trans (BE2.out.block bl HB.out.lt)
  have hc4 : W4.cell? ⟨bl, 0, none⟩ = some v := (World.cell?_of_block (a := ⟨bl, 0, none⟩) hB4).trans hcell
  have hf4 : W4.frozen? ⟨bl, 0, none⟩ = false := (World.frozen?_of_block (a := ⟨bl, 0, none⟩) hB4).trans HB.out.frozen
  have hl4 : bl < W4.heap.size := Nat.lt_of_lt_of_le HB.out.lt (Nat.le_trans BE2.out.size hAP.g.size)
  have HF := Lib.hid (ShQ.leaf (r0 := ⟨A1, c1, lb⟩) HB.out HL.out (show Own W base 3 ic 1 (.slice Ab n cb) lb from HO.out) hbl HC.out.hi BE2.out rfl (by show Own _ _ _ _ _ (.slice A1 lb.length c1) lb; rw [HN.out]; exact HO2.out) hAP)
  clear hAP hvb
  refine rg_one (i := 4) (by kernel_rfl) (rg_step rfl (by rfl) (fun K hK => ?_))
  refine rg_append (R := fun a b => a = .slice A4 n4 c4 ∧ W4 = b) (some 16) _ _ 25 25 rfl rfl rfl _ _ rfl rfl ⟨_, _, hrun, rfl, rfl⟩ ?_
  rintro _ _ ⟨rfl, rfl⟩
  refine hK.out _ _ hc4 (fun hHeld2 => ?_)
  clear hHeld2 hK K
  try simp only [Act.put, List.setIfInBounds_toArray, List.set_cons_zero, List.set_cons_succ]
  refine rg_one (i := 5) (by kernel_rfl) (rg_late rfl (by rfl) (by kernel_rfl) (fun K hK => ?_))
  go_simp
  refine hK.out _ _ ?_
  clear hK K
  try simp only [Act.put, List.setIfInBounds_toArray, List.set_cons_zero, List.set_cons_succ]
  refine rg_end (by kernel_rfl) (hN7 _ _ ?_) _
  clear hQ7 hN7 Q7
  go_wp2_with fail
  refine bodyPost_ret (results_none rfl _ _ _) rfl ?_
  exact ⟨⟨_, rfl⟩, _, _, HF.out⟩
 | succ r ih =>
  intro W lb vb v rows hr hrw hC hB hL hO
  obtain ⟨Ab, cb, rfl, -⟩ := hO.form
  have HIH := Lib.hid ih
  have HC := Lib.hid hC
  have HB := Lib.hid hB
  have HL := Lib.hid hL
  have HO := Lib.hid hO
  have hs := hC.S.cell
  have hlt : lb.length < ss.length := by omega
  obtain ⟨s, b1, o1, hs1, rfl, hb1, hc⟩ := hC.R.at_ hlt
  have d1 := hc 1 _ rfl
  have hsm := hsh s (List.mem_of_getElem? hs1)
  have hm0 := hsm.1
  have hm3 := hsm.2
  have HMS := Lib.hid (show (ss.drop lb.length).map (·.sh) = s.sh :: (ss.drop (lb.length + 1)).map (·.sh) by
   rw [List.drop_eq_getElem_cons hlt, List.map_cons]
   rw [List.getElem?_eq_getElem hlt] at hs1; cases hs1; rfl)
  have HM3 : Hid (∀ m ∈ (ss.drop (lb.length + 1)).map (·.sh), m ≤ 3) := by
   intro m hm
   obtain ⟨x, hx, rfl⟩ := List.mem_map.1 hm
   exact (hsh x (List.mem_of_mem_drop hx)).2
  obtain ⟨ms, hms⟩ : ∃ ms, (ss.drop (lb.length + 1)).map (·.sh) = ms := ⟨_, rfl⟩
  have HLM : Hid (ms.length = r) := by rw [← hms]; unfold Hid; simp; omega
  rw [HMS.out, hms]
  rw [hms] at HM3
  have HMSD := Lib.hid hms
  have hne : ((lb.length : Int) == ss.length) = false := by simp; omega
  have hsn : (ss.length : Int) ≤ 4 := by omega
  have hlti : (lb.length : Int) < ss.length := by omega
  have HR := Lib.hid hr
  have HRW := Lib.hid hrw
  have HSH := Lib.hid hsh
  have HOL := Lib.hid (show Own W base 3 ic 1 (.slice Ab lb.length cb) lb from hO)
  obtain ⟨q, hq⟩ : ∃ q, s.sh = q := ⟨_, rfl⟩
  rw [hq] at d1 hm0 hm3 ⊢
  have hw1 : IntKind.i64.wrap (-q) = -q := IntWalk.i64_in _ (by omega)
  clear hC hB hL hO hc hms hsm hs1 ih hr hrw hsh hq HMS
  simp only [List.append_toArray, List.cons_append, List.nil_append]
  go_enter Tryz.func80, Tryz.ntmps80
  go_wp2_with fail
  clear hs d1 hne
  go_loopw [6] (fun i wr => ∃ j : Nat, (j : Int) ≤ 2 * q + 1 ∧ i = .int .i64 ((j : Int) - q) ∧ Hid (∃ v1 new1, ShQ W wr bl base v (.slice Ab lb.length cb) lb rows (((rngM q).take j).flatMap (fun n => exts ms (lb ++ [n]))) v1 new1)) (fun i _ => (q + 1 - intOf i).toNat)
  case atStart => exact ⟨0, by omega, by simp, ⟨_, _, by rw [List.take_zero, List.flatMap_nil]; exact ShQ.refl HB.out HL.out HOL.out⟩⟩
  case round =>
   obtain ⟨j, hj, rfl, HS⟩ := hrel
   obtain ⟨wo, rfl⟩ : ∃ wo, wo = wr := ⟨_, rfl⟩
   by_cases hjl : (j : Int) < 2 * q + 1
   rotate_left
   ·have hle : ¬ (j : Int) - q ≤ q := by omega
    have HF : Hid (ShP W wo bl base v (.slice Ab lb.length cb) lb rows (exts (q :: ms) lb)) := by
     have := HS.out
     rw [List.take_of_length_le (by rw [rng_len]; omega)] at this
     exact this
    clear HS
    go_wp2_with fail
    go_end0
    exact ⟨⟨_, rfl⟩, HF.out⟩
   have hle : (j : Int) - q ≤ q := by omega
   obtain ⟨v1, new1, hQ⟩ := HS.out
   have HQ := Lib.hid hQ
   have HNL : Hid (new1.length ≤ j * 7 ^ r) := by
    have h1 := congrArg List.length hQ.E
    rw [List.length_map] at h1
    have h2 := flat_lenE ms (fun n => lb ++ [n]) HM3.out ((rngM q).take j)
    rw [HLM.out] at h2
    rw [← h1] at h2
    refine Nat.le_trans h2 (Nat.mul_le_mul_right _ ?_)
    rw [List.length_take]; omega
   have HK := Lib.hid (HC.out.keep (fun k hk hkl => hQ.f k (by have := HC.out.hi; omega) hkl (fun e => by have := (HL.out.o.lt k e).2; omega) (fun e => by have := (HOL.out.lt k e).2; omega)) hQ.size)
   have hf := HK.out.F.cell
   have hfl := HK.out.F.lt
   have hwx : IntKind.i64.wrap ((j : Int) - q + 1) = (j : Int) - q + 1 := IntWalk.i64_in _ (by omega)
   clear hQ HS
   obtain ⟨x, hx⟩ : ∃ x, (j : Int) - q = x := ⟨_, rfl⟩
   rw [hx] at hle hwx ⊢
   have HX := Lib.hid hx
   have hx1 : -3 ≤ x := by omega
   have hx3 : x ≤ 3 := by omega
   clear hx
   go_wp2_with fail
   refine rg_begin (S := (fun w' => w'.cell? ⟨be, 0, none⟩ = some (.func (.func 80) #[] #[.pointer (some ⟨bs, 0, none⟩), .pointer (some ⟨bl, 0, none⟩), .pointer (some ⟨be, 0, none⟩)]))) 5 (by kernel_rfl) (by intro d; cases d <;> intro _ _ _ _ h <;> exact h) ?_ (fun Q7 hQ7 hN7 hHeld => ?_)
   ·exact hf
   refine rgT 0 (some 30) hQ7 hHeld ?_; refine rgT 1 (some 31) hQ7 hHeld ?_; refine rgT 2 (some 32) hQ7 hHeld ?_
   refine rg_one (i := 3) (by kernel_rfl) (rg_step rfl (by rfl) (fun K hK => ?_))
   go_simp
   have BE := Lib.hid (ext_alloc (ext_drew (ext_refl wo)) (.cells #[.int .i64 x] 3))
   have hf1 : (wo.drew.alloc (.cells #[.int .i64 x] 3)).cell? ⟨be, 0, none⟩ = some (.func (.func 80) #[] #[.pointer (some ⟨bs, 0, none⟩), .pointer (some ⟨bl, 0, none⟩), .pointer (some ⟨be, 0, none⟩)]) := (BE.out.cell (p := ⟨be, 0, none⟩) hfl).trans hf
   refine hK.out _ _ hf1 (fun hHeld2 => ?_)
   clear hHeld2 hK K
   try simp only [Act.put, List.setIfInBounds_toArray, List.set_cons_zero, List.set_cons_succ]
   obtain ⟨v4, W4, hrun, hAP⟩ := Own.append_two (e := 3) (base := base) intI 39 (HQ.out.b.ext BE.out) (ys := [x]) (m := 1) rfl (by simp) 1 (slc_litH wo.drew [x] #[.int .i64 x] 3 (enc := ic) (sz := 1) (fun _ => rfl) rfl wo.drew.heap.size rfl) (by simp; omega) (by unfold maxLen; simp; omega) (by have := HK.out.hi; have := BE.out.size; omega)
   have HAP := Lib.hid hAP
   obtain ⟨A4, n4, c4, rfl, hn4⟩ := hAP.fm
   have HN4 := Lib.hid hn4
   clear hn4
   have HMID := Lib.hid (HQ.out.mid BE.out hbl hAP)
   have HK4 := Lib.hid (HK.out.keep (fun k hk hkl => HMID.out.2.2.2 k (by have := HK.out.hi; omega) (fun e => by have := (HOL.out.lt k e).2; omega)) (Nat.le_trans BE.out.size hAP.g.size))
   have hf4 := HK4.out.F.cell
   clear hAP
   refine rg_one (i := 4) (by kernel_rfl) (rg_step rfl (by rfl) (fun K hK => ?_))
   refine rg_append (R := fun a b => a = .slice A4 n4 c4 ∧ W4 = b) (some 34) _ _ 39 39 rfl rfl rfl _ _ rfl rfl ⟨_, _, hrun, rfl, rfl⟩ ?_
   rintro _ _ ⟨rfl, rfl⟩
   refine hK.out _ _ hf4 (fun hHeld2 => ?_)
   clear hHeld2 hK K hHeld
   try simp only [Act.put, List.setIfInBounds_toArray, List.set_cons_zero, List.set_cons_succ]
   have HCALL := Lib.hid (HIH.out W4 (lb ++ [x]) (.slice A4 n4 c4) v1 (rows ++ new1) (by have := HR.out; simp; omega) (by
    have h1 := HRW.out
    have h2 := HNL.out
    have h3 : j * 7 ^ r + 7 ^ r ≤ 7 ^ (r + 1) := by
     rw [Nat.pow_succ, Nat.mul_comm (7 ^ r) 7, ← Nat.succ_mul]
     exact Nat.mul_le_mul_right _ (by omega)
    simp only [List.length_append]; omega) HK4.out HMID.out.1 HMID.out.2.1 HMID.out.2.2.1)
   refine rg_one (i := 5) (by kernel_rfl) (rg_late rfl (by rfl) (by kernel_rfl) (fun K hK => ?_))
   go_simp
   refine HCALL.out.mono ?_
   rintro e w5 ⟨⟨u, rfl⟩, hP5⟩
   have HF : Hid (∃ v1 new1, ShQ W w5 bl base v (.slice Ab lb.length cb) lb rows (((rngM q).take (j + 1)).flatMap (fun n => exts ms (lb ++ [n]))) v1 new1) := by
    have h5 := HQ.out.round BE.out hbl HAP.out (E2 := exts ms (lb ++ [x])) (by
     have := hP5
     rw [show (lb ++ [x]).length = lb.length + 1 by simp, HMSD.out] at this
     exact this)
    rw [List.take_add_one, rng_at hjl, HX.out, Option.toList_some, List.flatMap_append]
    simpa [ShP, Hid] using h5
   clear hP5 HCALL
   go_wp2_with fail
   refine hK.out _ _ ?_
   clear hK K
   try simp only [Act.put, List.setIfInBounds_toArray, List.set_cons_zero, List.set_cons_succ]
   refine rg_end (by kernel_rfl) (hN7 _ _ ?_) _
   clear hQ7 hN7 Q7
   go_wp2_with fail
   go_roundw
   case rel => exact ⟨j + 1, by omega, by rw [← HX.out]; congr 1; omega, HF⟩
   case measure => simp [intOf]; omega
def shiftsL (ss : List Stn) : List (List Int) := exts (ss.map (·.sh)) []
/-- The combinations of shifts, in memory. -/
def ShR (w : World) (L : List (List Int)) (e : Ending) (w' : World) : Prop := ∃ A n c rows, e = .returned (.tuple #[.slice A n c, .int .i64 0]) ∧ n = rows.length ∧ Own w' w.heap.size 39 SliceOf.enc 1 (.slice A n c) rows ∧ (∀ r ∈ rows, Own w' w.heap.size 3 ic 1 r.v r.l) ∧ rows.map (·.l) = L ∧ Below w.heap.size w w'
set_option maxRecDepth 100000 in
set_option maxHeartbeats 4000000 in
theorem shifts_any (A : Option Addr) (c : Nat) (ss : List Stn) (w : World) (ha : Slc w Stn.cells 3 A ss) (hss : ss.length ≤ 4) (hsh : ∀ s ∈ ss, 0 ≤ s.sh ∧ s.sh ≤ 3) : Calls Tryz.prog 51 #[.slice A ss.length c] w (ShR w (shiftsL ss)) := by
 have HA := Lib.hid ha
 have HSH := Lib.hid hsh
 obtain ⟨L, hL⟩ : ∃ L, shiftsL ss = L := ⟨_, rfl⟩
 rw [hL]
 have HL := Lib.hid hL
 have hno : ss.any (fun x => !inn x.sh 0 3) = false := by
  rw [List.any_eq_false]
  intro x hx
  have := hsh x hx
  simp [inn, this.1, this.2]
 have HNO := Lib.hid hno
 have h4 : ¬ (4 : Int) < ss.length := by omega
 obtain ⟨W0, hW0⟩ : ∃ W0, (w.alloc (.cells #[.slice A ss.length c] 29)).alloc (.cells #[.slice none 0 0] 25) = W0 := ⟨_, rfl⟩
 have E0 : Hid (Below w.heap.size w W0) := by rw [← hW0]; exact ext_alloc (ext_alloc (ext_refl w) _) _
 have BS : Hid (Boxed W0 w.heap.size 29 (.slice A ss.length c)) := by
  rw [← hW0]; exact (((ext_alloc (ext_refl (w.alloc _)) _).block w.heap.size (by simp)).trans (Boxed.new w 29 _))
 have BL : Hid (Boxed W0 (w.heap.size + 1) 25 (.slice none 0 0)) := by
  rw [← hW0]
  have q := Boxed.new (w.alloc (.cells #[.slice A ss.length c] 29)) 25 (.slice none 0 0)
  rw [World.size_alloc] at q; exact q
 have hs0 := BS.out.cell
 have hsl := BS.out.lt
 clear ha hL hno hsh
 go_enter Tryz.func51, Tryz.ntmps51
 go_wp2_with fail
 refine (containsStn 78 (fun x => !inn x.sh 0 3) A c ss W0 (HA.out.below (Nat.le_refl _) E0.out) (by unfold maxLen; omega) entersSh (fun x W _ _ => badSh_any x W)).mono ?_
 rintro e w1 ⟨rfl, B⟩
 rw [HNO.out]
 have E1 := Lib.hid (ext_trans E0.out B)
 have BS1 : Hid (Boxed w1 w.heap.size 29 (.slice A ss.length c)) := (B.block _ BS.out.lt).trans BS.out
 have BL1 : Hid (Boxed w1 (w.heap.size + 1) 25 (.slice none 0 0)) := (B.block _ BL.out.lt).trans BL.out
 have hs1 : W0.heap.size ≤ w1.heap.size := B.size
 have hs2 : w.heap.size + 1 < W0.heap.size := BL.out.lt
 clear B hs0 hsl E0 BS BL hW0 HNO
 obtain ⟨W2, hW2⟩ : ∃ W2, (w1.alloc (.cells #[.nilFunc] 170)).setCell ⟨w1.heap.size, 0, none⟩ (.func (.func 80) #[] #[.pointer (some ⟨w.heap.size, 0, none⟩), .pointer (some ⟨w.heap.size + 1, 0, none⟩), .pointer (some ⟨w1.heap.size, 0, none⟩)]) = W2 := ⟨_, rfl⟩
 have E2 : Below w1.heap.size w1 W2 := by rw [← hW2]; exact ext_set (ext_alloc (ext_refl _) _) _ _ (Nat.le_refl _)
 have hz2 : W2.heap.size = w1.heap.size + 1 := by rw [← hW2]; simp
 have HBE : Hid (Boxed W2 w1.heap.size 170 (.func (.func 80) #[] #[.pointer (some ⟨w.heap.size, 0, none⟩), .pointer (some ⟨w.heap.size + 1, 0, none⟩), .pointer (some ⟨w1.heap.size, 0, none⟩)])) := by rw [← hW2]; exact (Boxed.new w1 170 _).set _
 have hL2 : Boxed W2 (w.heap.size + 1) 25 (.slice none 0 0) := (E2.block _ BL1.out.lt).trans BL1.out
 have hC : ShC W2 w.heap.size (w.heap.size + 1) w1.heap.size W2.heap.size A c ss := by
  refine ⟨(E2.block _ BS1.out.lt).trans BS1.out, HBE.out, (HA.out.below (Nat.le_refl _) E1.out).ext E2, ⟨by omega, by omega⟩, ⟨by omega, by omega⟩, fun b o hp e => ?_, Nat.le_refl _⟩
  obtain ⟨x, b1, o1, _, e1, hb1, _⟩ := HA.out.at_ hp
  rw [e1] at e; cases e
  omega
 have HCALL := Lib.hid (ext_any A c w.heap.size (w.heap.size + 1) w1.heap.size W2.heap.size ss hss HSH.out (by omega) ss.length W2 [] (.slice none 0 0) (.slice none 0 0) [] (by simp) (by
  have : 7 ^ ss.length ≤ 7 ^ 4 := Nat.pow_le_pow_right (by decide) hss
  simp; omega) hC hL2 ⟨Own.nil _ _ _ _ _, by simp, by simp⟩ (Own.nil _ _ _ _ _))
 have HE2 := Lib.hid (ext_trans E1.out E2)
 have be := HBE.out.cell
 have bel := HBE.out.lt
 clear hC hL2 E2 BS1 BL1
 go_wp2_with fail
 refine HCALL.out.mono ?_
 rintro e w3 ⟨⟨u, rfl⟩, v3, rows, hQ⟩
 have HQ := Lib.hid hQ
 obtain ⟨A3, c3, hv3, -⟩ := hQ.L.o.form
 obtain ⟨n3, hn3⟩ : ∃ n3, ([] ++ rows).length = n3 := ⟨_, rfl⟩
 rw [hn3] at hv3
 have HN3 := Lib.hid hn3
 subst hv3
 have x0 := hQ.B.cell
 have xf := hQ.B.frozen
 have xl := hQ.B.lt
 have x1 := hQ.B.set (.slice A3 n3 c3)
 have x2 := x1.cell
 have HX1 := Lib.hid x1
 clear hQ hn3 HCALL be bel x1 hW2
 go_wp2_with fail
 refine bodyPost_ret (v := .tuple #[.slice A3 n3 c3, .int .i64 0]) (by simp [results, Tryz.results51, go_sem, *]) rfl ?_
 have hQ := HQ.out
 have hk : ∀ k, k < w3.heap.size → k ≠ w.heap.size + 1 → (w3.setCell ⟨w.heap.size + 1, 0, none⟩ (.slice A3 n3 c3)).heap[k]? = w3.heap[k]? := fun k _ h => Below.heap_setCell w3 ⟨w.heap.size + 1, 0, none⟩ _ k h
 refine ⟨A3, n3, c3, rows, rfl, by rw [← HN3.out]; rfl, ?_, fun r hr => ?_, ?_, ?_⟩
 ·have := hQ.L.o
  rw [List.nil_append] at this
  exact (this.low (by omega)).block fun k e => hk k (this.lt k e).1 (by have := (this.lt k e).2; omega)
 ·have := hQ.L.r r (by simpa using hr)
  exact (this.low (by omega)).block fun k e => hk k (this.lt k e).1 (by have := (this.lt k e).2; omega)
 ·rw [hQ.E, ← HL.out]
  simp [shiftsL]
 ·refine ⟨hQ.os.trans HE2.out.os, hQ.tape.trans HE2.out.tape, hQ.out.trans HE2.out.output, ?_, fun k hk1 => ?_⟩
  ·have := hQ.size
   simp [World.setCell]; have := HE2.out.size; omega
  ·exact ((hk k (by have := hQ.size; omega) (by omega)).trans (hQ.f k (by omega) (by omega) (by simp [Value.ownBlock]) (by simp [Value.ownBlock]))).trans (HE2.out.block k hk1)
end Go.Proofs.YtjiojpoiocdnmaaGreat
