/- All choices, one from each row, in the order of an odometer. No program in sight. -/
import Derived.Test.YtjiojpoiocdnmaaGreatMB
import Derived.RangeFuncNested
import Derived.Test.YtjiojpoiocdnmaaGreatU1
import Derived.Laws.Rows
set_option linter.unusedSimpArgs false
set_option linter.unusedVariables false
namespace Go.Proofs.YtjiojpoiocdnmaaGreat
open Go.RowKit
/-- How many choices there are. -/
def cnt : List Nat → Nat
  | [] => 1
  | m :: ms => m * cnt ms
def digs : List Nat → Nat → List Nat
  | [], _ => []
  | _ :: ms, i => i / cnt ms :: digs ms (i % cnt ms)
def comb (ms : List Nat) : List (List Nat) := (List.range (cnt ms)).map (digs ms)
theorem cnt_pos : ∀ (ms : List Nat), (∀ m ∈ ms, 0 < m) → 0 < cnt ms
  | [], _ => Nat.one_pos
  | m :: ms, h => Nat.mul_pos (h m (by simp)) (cnt_pos ms (fun x hx => h x (by simp [hx])))
theorem digs_len : ∀ (ms : List Nat) (i : Nat), (digs ms i).length = ms.length
  | [], _ => rfl
  | _ :: ms, i => by simp [digs, digs_len ms]
theorem comb_len (ms : List Nat) : (comb ms).length = cnt ms := by simp [comb]
theorem comb_get {ms : List Nat} {i : Nat} (h : i < cnt ms) : (comb ms)[i]? = some (digs ms i) := by simp [comb, h]
theorem digs_zero : ∀ (ms : List Nat), digs ms 0 = List.replicate ms.length 0
  | [] => rfl
  | _ :: ms => by simp [digs, digs_zero ms, List.replicate_succ]
/-- The next choice, or none where all wheels stand at their ends. -/
def inc : List Nat → List Nat → Option (List Nat)
  | m :: ms, d :: ds => match inc ms ds with
    | some e => some (d :: e)
    | none => if d + 1 < m then some ((d + 1) :: List.replicate ms.length 0) else none
  | _, _ => none
theorem inc_digs : ∀ (ms : List Nat) (i : Nat), (∀ m ∈ ms, 0 < m) → i < cnt ms → inc ms (digs ms i) = if i + 1 < cnt ms then some (digs ms (i + 1)) else none
  | [], i, _, h => by simp [cnt] at h; subst h; rfl
  | m :: ms, i, hp, h => by
    have hP := cnt_pos ms (fun x hx => hp x (by simp [hx]))
    have hr : i % cnt ms < cnt ms := Nat.mod_lt _ hP
    have ih := inc_digs ms (i % cnt ms) (fun x hx => hp x (by simp [hx])) hr
    have hi := Nat.div_add_mod i (cnt ms)
    simp only [cnt] at h ⊢
    have hq : i / cnt ms < m := Nat.div_lt_of_lt_mul (by rw [Nat.mul_comm]; exact h)
    simp only [digs, inc, ih]
    by_cases h1 : i % cnt ms + 1 < cnt ms
    · have e1 : (i + 1) / cnt ms = i / cnt ms := by
        have : i + 1 = cnt ms * (i / cnt ms) + (i % cnt ms + 1) := by omega
        rw [this, Nat.mul_add_div hP, Nat.div_eq_of_lt h1, Nat.add_zero]
      have e2 : (i + 1) % cnt ms = i % cnt ms + 1 := by
        have : i + 1 = cnt ms * (i / cnt ms) + (i % cnt ms + 1) := by omega
        rw [this, Nat.mul_add_mod, Nat.mod_eq_of_lt h1]
      have h2 : i + 1 < m * cnt ms := by
        have : cnt ms * (i / cnt ms + 1) ≤ cnt ms * m := Nat.mul_le_mul_left _ hq
        rw [Nat.mul_add, Nat.mul_one] at this
        rw [Nat.mul_comm]; omega
      simp [h1, h2, e1, e2]
    · have e0 : i + 1 = cnt ms * (i / cnt ms + 1) := by rw [Nat.mul_add, Nat.mul_one]; omega
      have e1 : (i + 1) / cnt ms = i / cnt ms + 1 := by rw [e0, Nat.mul_div_cancel_left _ hP]
      have e2 : (i + 1) % cnt ms = 0 := by rw [e0, Nat.mul_mod_right]
      simp only [h1, if_false, e1, e2, digs_zero]
      have : (i / cnt ms + 1 < m) ↔ (i + 1 < m * cnt ms) := by
        rw [e0, Nat.mul_comm m]
        exact (Nat.mul_lt_mul_left hP).symm
      by_cases h3 : i / cnt ms + 1 < m
      · simp [h3, this.1 h3]
      · simp [h3, mt this.2 h3]
theorem inc_one : ∀ (ms ds : List Nat), inc ms (ds) = none → ∀ (m d : Nat), inc (m :: ms) (d :: ds) = if d + 1 < m then some ((d + 1) :: List.replicate ms.length 0) else none
  | ms, ds, h, m, d => by simp [inc, h]
theorem inc_pre : ∀ (m1 d1 m2 d2 : List Nat) (e : List Nat), m1.length = d1.length → inc m2 d2 = some e → inc (m1 ++ m2) (d1 ++ d2) = some (d1 ++ e)
  | [], [], _, _, _, _, h => h
  | [], _ :: _, _, _, _, h, _ => by simp at h
  | _ :: _, [], _, _, _, h, _ => by simp at h
  | m :: m1, d :: d1, m2, d2, e, hl, h => by
    have := inc_pre m1 d1 m2 d2 e (by simpa using hl) h
    simp [inc, this]
/-- The wheels behind place i stand at their ends. -/
def Spun (ms ds : List Nat) (i : Nat) : Prop := inc (ms.drop i) (ds.drop i) = none
theorem spun_end {ms ds : List Nat} {i : Nat} (h : ms.length ≤ i) : Spun ms ds i := by
  unfold Spun; rw [List.drop_of_length_le h]; cases ds.drop i <;> rfl
theorem spun_step {ms ds : List Nat} {i m d : Nat} (hm : ms[i]? = some m) (hd : ds[i]? = some d) (h : Spun ms ds (i + 1)) (hn : ¬ d + 1 < m) : Spun ms ds i := by
  unfold Spun at *
  obtain ⟨h1, e1⟩ := List.getElem?_eq_some_iff.1 hm
  obtain ⟨h2, e2⟩ := List.getElem?_eq_some_iff.1 hd
  rw [List.drop_eq_getElem_cons h1, List.drop_eq_getElem_cons h2, e1, e2, inc_one _ _ h]
  simp [hn]
theorem spun_inc {ms ds : List Nat} {i m d : Nat} (hl : ms.length = ds.length) (hm : ms[i]? = some m) (hd : ds[i]? = some d) (h : Spun ms ds (i + 1)) (hn : d + 1 < m) :
    inc ms ds = some (ds.take i ++ (d + 1) :: List.replicate (ms.length - (i + 1)) 0) := by
  unfold Spun at *
  obtain ⟨h1, e1⟩ := List.getElem?_eq_some_iff.1 hm
  obtain ⟨h2, e2⟩ := List.getElem?_eq_some_iff.1 hd
  have h3 := inc_one _ _ h m d
  rw [if_pos hn] at h3
  have h4 := inc_pre (ms.take i) (ds.take i) _ _ _ (by simp [hl]) h3
  have e3 : ms.take i ++ m :: ms.drop (i + 1) = ms := by rw [← e1, ← List.drop_eq_getElem_cons h1, List.take_append_drop]
  have e4 : ds.take i ++ d :: ds.drop (i + 1) = ds := by rw [← e2, ← List.drop_eq_getElem_cons h2, List.take_append_drop]
  rw [e3, e4] at h4
  rw [h4, List.length_drop]
/-- Each choice is among them, and nothing else. -/
def Choice (ms x : List Nat) : Prop := x.length = ms.length ∧ ∀ (i m k : Nat), ms[i]? = some m → x[i]? = some k → k < m
def valC : List Nat → List Nat → Nat
  | _ :: ms, d :: ds => d * cnt ms + valC ms ds
  | _, _ => 0
theorem Choice.tail {m d : Nat} {ms ds : List Nat} (h : Choice (m :: ms) (d :: ds)) : Choice ms ds ∧ d < m :=
  ⟨⟨by simpa using h.1, fun i a b h1 h2 => h.2 (i + 1) a b (by simpa using h1) (by simpa using h2)⟩, h.2 0 m d rfl rfl⟩
theorem val_lt : ∀ (ms ds : List Nat), Choice ms ds → valC ms ds < cnt ms
  | [], _, _ => by simp [valC, cnt]
  | _ :: _, [], h => by have := h.1; simp at this
  | m :: ms, d :: ds, h => by
    have ih := val_lt ms ds h.tail.1
    have hd := h.tail.2
    simp only [valC, cnt]
    have : (d + 1) * cnt ms ≤ m * cnt ms := Nat.mul_le_mul_right _ hd
    rw [Nat.add_mul, Nat.one_mul] at this
    omega
theorem digs_val : ∀ (ms ds : List Nat), Choice ms ds → digs ms (valC ms ds) = ds
  | [], [], _ => rfl
  | [], _ :: _, h => by have := h.1; simp at this
  | _ :: _, [], h => by have := h.1; simp at this
  | m :: ms, d :: ds, h => by
    have ih := digs_val ms ds h.tail.1
    have hv := val_lt ms ds h.tail.1
    have hP : 0 < cnt ms := by omega
    simp only [valC, digs]
    rw [Nat.mul_comm, Nat.mul_add_div hP, Nat.div_eq_of_lt hv, Nat.mul_add_mod, Nat.mod_eq_of_lt hv, ih, Nat.add_zero]
theorem mem_comb {ms x : List Nat} (h : Choice ms x) : x ∈ comb ms := by
  unfold comb
  exact List.mem_map.2 ⟨valC ms x, List.mem_range.2 (val_lt ms x h), digs_val ms x h⟩
theorem digs_choice : ∀ (ms : List Nat) (i : Nat), i < cnt ms → Choice ms (digs ms i)
  | [], _, _ => ⟨rfl, fun _ _ _ h _ => by simp at h⟩
  | m :: ms, i, h => by
    simp only [cnt] at h
    have hP : 0 < cnt ms := by
      rcases Nat.eq_zero_or_pos (cnt ms) with e | e
      · rw [e] at h; simp at h
      · exact e
    have ih := digs_choice ms (i % cnt ms) (Nat.mod_lt _ hP)
    refine ⟨by simp [digs, digs_len], fun j a b h1 h2 => ?_⟩
    cases j with
    | zero =>
      simp only [digs, List.getElem?_cons_zero, Option.some.injEq] at h1 h2
      subst h1 h2
      exact Nat.div_lt_of_lt_mul (by rw [Nat.mul_comm]; exact h)
    | succ j => exact ih.2 j a b (by simpa using h1) (by simpa [digs] using h2)
theorem comb_choice {ms x : List Nat} (h : x ∈ comb ms) : Choice ms x := by
  unfold comb at h
  obtain ⟨i, hi, rfl⟩ := List.mem_map.1 h
  exact digs_choice ms i (List.mem_range.1 hi)
end Go.Proofs.YtjiojpoiocdnmaaGreat
/- A range over a function that hands out one and the same row, written anew from round to round. -/
set_option linter.unusedSimpArgs false
set_option linter.unusedVariables false
namespace Go.Proofs.YtjiojpoiocdnmaaGreat
open Go.RowKit
/-- Rows and boxes of all types but the Booleans lie as they lay. -/
def KC (W W' : World) : Prop := W.heap.size ≤ W'.heap.size ∧ ∀ (k : Nat) (c : Array Value) (e : TypeId) (f : Nat × Nat), W.heap[k]? = some (Obj.cells c e f) → e ≠ 4 → W'.heap[k]? = some (Obj.cells c e f)
theorem KC.refl (W : World) : KC W W := ⟨Nat.le_refl _, fun _ _ _ _ h _ => h⟩
theorem KC.t {X Y Z : World} (h : KC X Y) (k : KC Y Z) : KC X Z := ⟨Nat.le_trans h.1 k.1, fun i c e f hi hn => k.2 i c e f (h.2 i c e f hi hn) hn⟩
theorem KC.below {W W' : World} (h : Below W.heap.size W W') : KC W W' := ⟨h.size, fun k _ _ _ hk _ => (h.block k (Array.getElem?_eq_some_iff.1 hk).1).trans hk⟩
theorem KC.kb {W W' : World} (h : KB W W') : KC W W' := ⟨h.1, fun k _ e _ hk hn => (h.2 k (Array.getElem?_eq_some_iff.1 hk).1 (fun cur fz q => by rw [hk] at q; cases q; exact hn rfl)).trans hk⟩
theorem KC.put {W : World} {l : Nat} {o : Obj} (o' : Obj) (hl : W.heap[l]? = some o) (ho : o.isCells = false) : KC W (W.putObj l o') :=
  ⟨by simp, fun k c e f hk _ => by
    by_cases q : k = l
    · subst q; rw [hl] at hk; cases hk; cases ho
    · exact (World.putObj_heap_other q).trans hk⟩
theorem Own.kc {α : Type} {W W' : World} {base : Nat} {e : TypeId} {enc : α → List Value} {sz : Nat} {v : Value} {l : List α} (h : Own W base e enc sz v l) (hk : KC W W') (he : e ≠ 4) : Own W' base e enc sz v l := by
  rcases h.2 with ⟨hv, h0⟩ | ⟨g, cap, cur, hv, hbb, hg, r⟩
  · exact ⟨h.1, .inl ⟨hv, h0⟩⟩
  · exact ⟨h.1, .inr ⟨g, cap, cur, hv, hbb, hk.2 g _ _ _ hg he, r⟩⟩
theorem GrpOk.kc {W W' : World} {g : Grp} (h : GrpOk W g) (hk : KC W W') : GrpOk W' g :=
  ⟨hk.2 g.b _ _ _ h.b (by decide), h.t.kc hk (by decide), h.r.kc hk (by decide)⟩
theorem below_put (W : World) (l : Nat) (o : Obj) {B : Nat} (h : B ≤ l) : Below B W (W.putObj l o) :=
  ⟨rfl, rfl, rfl, by simp, fun k hk => World.putObj_heap_other (by omega)⟩
/-- The iterator's contract: it hands out es, one by one, in the row that it makes itself. -/
def SeqBuf (F : Fence) (n : Nat) (P : Program) (g : Nat) (lb : Array Value) (es : List (List Nat)) (m : Nat) (w0 : World) : Prop :=
  ∀ (l : Nat) (J : List (List Nat) → World → Prop) (W : World), Below w0.heap.size w0 W →
    (∀ s A A', J s A → W.heap.size ≤ A.heap.size → Below W.heap.size A A' → J s A') →
    (∀ pre x W1, J pre W1 → pre ++ [x] <+: es → W.heap.size < W1.heap.size → Own W1 0 3 ic 1 (.slice (some ⟨W.heap.size, 0, none⟩) m m) (nums x) →
      YieldAt F (n - 1) P l #[.slice (some ⟨W.heap.size, 0, none⟩) m m] W1 fun e W' => e = .returned (.bool true) ∧ J (pre ++ [x]) W' ∧ KC W1 W') →
    J [] W → CallsIn F n P g (#[.func (.yield l) #[] #[]] ++ lb) W fun e W' => (∃ v, e = .returned v) ∧ J es W'
/-- How the body of a round is left: at its end. -/
def bufPost (B : Nat) (I : List (List Nat) → World → Prop) (xs : List (List Nat)) (W : World) : Exit → Act → World → Prop
  | .normal, _, W' => KeepsFrom B W W' ∧ KC W W' ∧ I xs W'
  | .ret, _, _ => False
  | .exit _, _, _ => False
  | .goto _, _, _ => False
  | .panic _, _, _ => False
  | .outgrown, _, _ => False
variable {F : Fence} {n : Nat} {P : Program}
theorem wpIn_rangeFunc_buf {g : Operand} {ps : Array Tmp} {assign body : Code} {Q : Exit → Act → World → Prop} {a : Act} {w : World}
    (hro : F.round = none) (h1 : 1 ≤ n) {gf : Nat} {lb : Array Value} (hg : a.eval g = .func (.func gf) #[] lb) (hFg : F.fn gf) (eg : ∀ args w, (callFunc gf args).run P w = .ok (.enter gf args) w)
    {es : List (List Nat)} {m : Nat} (hseq : SeqBuf F (n - 1) P gf lb es m w) (hps : ps.size = 1)
    (I : List (List Nat) → World → Prop) (hI : ∀ s A A', I s A → w.heap.size ≤ A.heap.size → Below w.heap.size A A' → I s A') (h0 : I [] w)     (hround : ∀ (l : Nat) (pre : List (List Nat)) (x : List Nat) (W0 W : World) (K : Act → World → Prop), l = w.heap.size + 1 → (∃ r, W.heap[l]? = some (.loop r)) → I pre W → pre ++ [x] <+: es → w.heap.size + 2 < W.heap.size → Own W 0 3 ic 1 (.slice (some ⟨w.heap.size + 2, 0, none⟩) m m) (nums x) →
      (∀ a', body.wpIn (F.inRound l) (n - 1 - 1) P (bufPost w.heap.size I (pre ++ [x]) W) a' W → K a' W0) → assign.wpIn (F.inRound l) (n - 1 - 1) P (Exit.then K (fun _ _ _ => False)) { tmps := (ps.zip #[.slice (some ⟨w.heap.size + 2, 0, none⟩) m m]).foldl (fun t (p, v) => t.setIfInBounds p v) a.tmps, defers := [] } W0)
    (hdone : ∀ (D : Nat) (W : World), D = w.heap.size → w.heap.size < W.heap.size → I es W → W.heap[D]? = some (.deferred (some [])) → Q .normal { a with defers := { target := .collected D, args := #[] } :: a.defers } W) :
    (Code.rangeFunc g ps assign body).wpIn F n P Q a w := by
  refine wpIn_rangeFunc ?_
  intro fn hfn
  rw [hro]
  obtain ⟨rec, hrec⟩ : ∃ rec : LoopState → Option Code → Loop, rec = fun st pe => { state := st, pending := pe, fn, tmps := a.tmps, params := ps, assign, body, defers := w.heap.size } := ⟨_, rfl⟩
  obtain ⟨W1, hW1⟩ : ∃ W1, (w.alloc (.deferred (some []))).alloc (.loop (rec .ready none)) = W1 := ⟨_, rfl⟩
  have hL1 : W1.heap[w.heap.size + 1]? = some (.loop (rec .ready none)) := by
    rw [← hW1]; have := World.alloc_heap_new (w.alloc (.deferred (some []))) (.loop (rec .ready none)); rwa [World.size_alloc] at this
  have hK1 : W1.heap[w.heap.size]? = some (.deferred (some [])) := by
    rw [← hW1]; exact (Below.heap_alloc _ _ _ (by simp)).trans (World.alloc_heap_new w _)
  have hz1 : W1.heap.size = w.heap.size + 2 := by rw [← hW1]; simp
  have hb1 : Below w.heap.size w W1 := by rw [← hW1]; exact ext_alloc (ext_alloc (ext_refl w) _) _
  have hI1 : I [] W1 := hI _ _ _ h0 (Nat.le_refl _) hb1
  refine ⟨w.heap.size + 1, [{ target := .collected w.heap.size, args := #[] }], W1, { target := .fn (.func gf) lb, args := #[.func (.yield (w.heap.size + 1)) #[] #[]] }, W1, gf,
    #[.func (.yield (w.heap.size + 1)) #[] #[]] ++ lb, W1, ?_, ?_, ?_, ?_, fun _ => h1, ?_⟩
  · rw [← hW1, hrec]; exact run_enterLoop_outer _ _ _ _ _
  · simp only [resolve, hg]
    simp [go_sem]
  · intro f' hf'; simp [Target.leads] at hf'; subst hf'; exact hFg
  · simp [invoke, go_sem, eg]
  · refine (hseq (w.heap.size + 1)
      (fun pre W => I pre W ∧ W.heap[w.heap.size + 1]? = some (.loop (rec .ready none)) ∧ W.heap[w.heap.size]? = some (.deferred (some [])))
      W1 hb1 (fun s A A' hs hA hb => ⟨hI _ _ _ hs.1 (by omega) (hb.mono (by omega)), (hb.block _ (by omega)).trans hs.2.1, (hb.block _ (by omega)).trans hs.2.2⟩) ?_ ⟨hI1, hL1, hK1⟩).mono ?_
    · rw [hz1]
      rintro pre x W ⟨hi, hl, hk⟩ hpre hsz hrow
      have hlt : w.heap.size + 1 < W.heap.size := (Array.getElem?_eq_some_iff.1 hl).1
      have hy := run_yield (P := P) (args := #[.slice (some ⟨w.heap.size + 2, 0, none⟩) m m]) hl (by rw [hrec]; simp [hps])
      rw [hrec] at hy
      have hl2 : (W.putObj (w.heap.size + 1) (.loop { rec .ready none with state := .busy })).heap[w.heap.size + 1]? = some (.loop { rec .ready none with state := .busy }) := World.putObj_heap_same hlt
      have hk2 : (W.putObj (w.heap.size + 1) (.loop { rec .ready none with state := .busy })).heap[w.heap.size]? = some (.deferred (some [])) := (World.putObj_heap_other (by omega)).trans hk
      have hw2 : KC W (W.putObj (w.heap.size + 1) (.loop { rec .ready none with state := .busy })) := KC.put _ hl rfl
      refine ⟨fn, _, assign, body, hy, roundIn_of_wpIn hfn (hround _ pre x W _ _ rfl ⟨_, hl2⟩ (hI _ _ _ hi (by omega) (below_put _ _ _ (by omega))) hpre (by simp; omega) (hrow.kc hw2 (by decide)) (fun a' hbody => ⟨_, run_beginRound hl (by rw [hrec]), wpIn_mono hbody ?_⟩))⟩
      rintro e a3 W3 hp
      cases e with
      | normal =>
        obtain ⟨hk3, hkp3, hi3⟩ := hp
        have hl3 := hk3.same _ _ (by omega) hl2 rfl
        have hr := run_endRound (P := P) none hl3
        rw [hrec] at hr hl3
        refine ⟨_, _, hr, rfl, ⟨hI _ _ _ hi3 (by have := (Array.getElem?_eq_some_iff.1 hl3).1; omega) (below_put _ _ _ (by omega)), ?_, (World.putObj_heap_other (by omega)).trans (hk3.same _ _ (Nat.le_refl _) hk2 rfl)⟩, hw2.t (hkp3.t (KC.put _ hl3 rfl))⟩
        rw [hrec]
        exact World.putObj_heap_same (Array.getElem?_eq_some_iff.1 hl3).1
      | ret => exact hp.elim
      | exit id => exact hp.elim
      | goto t => exact hp.elim
      | panic ch => exact hp.elim
      | outgrown => exact hp.elim
    · rintro e W2 ⟨⟨v, rfl⟩, hi, hl, hk⟩
      have hlt : w.heap.size + 1 < W2.heap.size := (Array.getElem?_eq_some_iff.1 hl).1
      exact ⟨none, _, by have := run_endLoop (P := P) hl (by rw [hrec]; simp); rw [hrec] at this; exact this, hdone _ _ rfl (by simp; omega) (hI _ _ _ hi (by omega) (below_put _ _ _ (by omega))) ((World.putObj_heap_other (by omega)).trans hk)⟩
end Go.Proofs.YtjiojpoiocdnmaaGreat
/- A cell of a row of the call's own is written. No program in sight. -/
set_option linter.unusedSimpArgs false
set_option linter.unusedVariables false
namespace Go.Proofs.YtjiojpoiocdnmaaGreat
open Go.RowKit
theorem flat_set {α : Type} {enc : α → List Value} {sz : Nat} (hs : ∀ x, (enc x).length = sz) : ∀ (l : List α) (k r : Nat) (x y : α) (v : Value), l[k]? = some x → r < sz → enc y = (enc x).set r v → (l.set k y).flatMap enc = (l.flatMap enc).set (k * sz + r) v
  | [], k, r, x, y, v, h, _, _ => by simp at h
  | z :: zs, 0, r, x, y, v, h, hr, hy => by
    simp at h; subst h
    simp only [List.set_cons_zero, List.flatMap_cons, Nat.zero_mul, Nat.zero_add]
    rw [List.set_append_left _ _ (by rw [hs]; exact hr), hy]
  | z :: zs, k + 1, r, x, y, v, h, hr, hy => by
    have ih := flat_set hs zs k r x y v (by simpa using h) hr hy
    simp only [List.set_cons_succ, List.flatMap_cons, ih]
    rw [List.set_append_right _ _ (by rw [hs, Nat.add_mul]; omega), hs, show (k + 1) * sz + r - sz = k * sz + r by rw [Nat.add_mul]; omega]
theorem Own.set_ {α : Type} {w : World} {base : Nat} {e : TypeId} {enc : α → List Value} {sz : Nat} {g n c : Nat} {l : List α} (hs : ∀ x, (enc x).length = sz) (h : Own w base e enc sz (.slice (some ⟨g, 0, none⟩) n c) l) {k r : Nat} {x y : α} {v : Value} (hx : l[k]? = some x) (hr : r < sz) (hy : enc y = (enc x).set r v) :
    Own (w.setCell ⟨g, k * sz + r, none⟩ v) base e enc sz (.slice (some ⟨g, 0, none⟩) n c) (l.set k y) := by
  obtain ⟨h1, h2⟩ := h
  have hfs := flat_set hs l k r x y v hx hr hy
  refine ⟨by rw [hfs, List.length_set, List.length_set]; exact h1, ?_⟩
  rcases h2 with ⟨h2, _⟩ | ⟨g', cap, cur, hv, hb, hg, r1, r2, r3, r4⟩
  · cases h2
  · injection hv with e1 e2 e3
    injection e1 with e1
    injection e1 with e1 _ _
    subst e1 e2 e3
    refine .inr ⟨g, c, cur.setIfInBounds (k * sz + r) v, by rw [List.length_set], hb, heap_setCell_same w g (k * sz + r) cur e v hg, by rw [List.length_set]; exact r1, r2, by simpa using r3, ?_⟩
    rw [hfs, List.length_set, Array.toList_setIfInBounds, List.take_set, r4]
theorem Own.frozen {α : Type} {w : World} {base : Nat} {e : TypeId} {enc : α → List Value} {sz : Nat} {g n c : Nat} {l : List α} (h : Own w base e enc sz (.slice (some ⟨g, 0, none⟩) n c) l) (i : Nat) : w.frozen? ⟨g, i, none⟩ = false := by
  rcases h.2 with ⟨h2, _⟩ | ⟨g', cap, cur, hv, hb, hg, _⟩
  · cases h2
  · injection hv with e1 e2 e3
    injection e1 with e1
    injection e1 with e1 _ _
    subst e1
    simp [World.frozen?, hg]
end Go.Proofs.YtjiojpoiocdnmaaGreat
