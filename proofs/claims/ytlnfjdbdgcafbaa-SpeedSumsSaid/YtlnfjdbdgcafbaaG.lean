import Derived.Test.YtlnfjdbdgcafbaaF
namespace Go.Proofs.Ytlnfjdbdgcafbaa
open Go.RowKit Go.Shelf
attribute [local go_sem] Oper.semAt_some

def KpE (B : Nat) (ex : Nat → Prop) (W W' : World) : Prop := Kx B ex W W' ∧ W.heap.size ≤ W'.heap.size
theorem KpE.t {B : Nat} {ex : Nat → Prop} {X Y Z : World} (h : KpE B ex X Y) (k : KpE B ex Y Z) : KpE B ex X Z := ⟨h.1.t k.1, Nat.le_trans h.2 k.2⟩
theorem KpE.b {B : Nat} {ex : Nat → Prop} {w : World} (hB : B ≤ w.heap.size) (W : World) (l : Nat) (o o' : Obj) (hl : w.heap.size ≤ l) (h : W.heap[l]? = some o) (h1 : o.isCells = false) (h2 : o.isWalk = false) : KpE B ex W (W.putObj l o') :=
  ⟨Kx.b hB W l o o' hl h h1 h2, (grownBy_putObj' W l o').size⟩
theorem each_stops (n : Nat) (hn : 1 ≤ n) (B : Nat) (ex : Nat → Prop) (bl bk bh : Nat) (A : Option Addr) (c : Nat) (ls : List Lg) (k : Kd) (hold : Int) (es : List WB) (hes : ∀ (i : Nat) (x : Lg), ls[i]? = some x → ∃ e, es[i]? = some e ∧ e.1 = eachB k ls.length hold i x) (hlen : es.length = ls.length) (hls : ls.length ≤ 8)
    (R : Rng k) (h0 : 0 ≤ hold) (h10 : hold ≤ 10) (hL : ∀ (i : Nat) (x : Lg), ls[i]? = some x → 1 ≤ x.len ∧ x.len ≤ 4096) (w : World) (hB : B ≤ w.heap.size) (hC : Caps w B ex bl bk bh A c ls k hold) :
    SeqStopsK Fence.wide n Try.prog 25 #[.pointer (some ⟨bl, 0, none⟩), .pointer (some ⟨bk, 0, none⟩), .pointer (some ⟨bh, 0, none⟩)] encB (KpE B ex) (fun ys => ys = es) (fun pre => pre <+: es) es.length w :=
  fun l J Jx W hW hJ _ hY hJ0 => each1_in n hn l B ex bl bk bh A c ls k hold es hes hlen hls R h0 h10 hL J Jx W (Nat.le_trans hB hW.size) hJ hY (hC.keep (Kx.below hW hB) hW.size) hJ0

/-- What Legs hands back. -/
def RetLs (w : World) (r : List Bd × Int) (e : Ending) (w' : World) : Prop :=
  ∃ A c, e = .returned (.tuple #[.slice A r.1.length c, .int .i64 r.2]) ∧ Slc w' Bd.cells 2 A r.1 ∧ Below w.heap.size w w'
theorem asked_ok {k : Kd} {ls : List Lg} {hold : Int} (h : asked k ls hold = 0) : vld k = true ∧ 1 ≤ ls.length ∧ ls.length ≤ 8 ∧ 0 ≤ hold ∧ hold ≤ 10 ∧ ∀ (i : Nat) (x : Lg), ls[i]? = some x → 1 ≤ x.len ∧ x.len ≤ 4096 := by
  unfold asked at h
  split at h
  · rename_i hv
    split at h
    · rename_i h2
      simp only [wit, Bool.and_eq_true, decide_eq_true_eq, Bool.not_eq_true', List.any_eq_false] at h2
      obtain ⟨⟨⟨a, b⟩, ⟨c, d⟩, _⟩, e⟩ := h2
      refine ⟨hv, by omega, by omega, c, d, fun i x hx => ?_⟩
      have := e x (List.mem_of_getElem? hx)
      simp [badL] at this
      exact isLen_iff.1 this
    · cases h
  · cases h
theorem each_get {k : Kd} {n : Nat} {hold : Int} : ∀ (l : List Lg) (s i : Nat) (x : Lg), l[i]? = some x → (eachGo k n hold s l)[i]? = some (eachB k n hold (s + i) x)
  | [], _, _, _, h => by simp at h
  | y :: ys, s, 0, x, h => by simp at h; subst h; rfl
  | y :: ys, s, i + 1, x, h => by
    have := each_get (k := k) (n := n) (hold := hold) ys (s + 1) i x (by simpa using h)
    simp only [eachGo, List.getElem?_cons_succ]
    rw [this]; congr 2; omega
theorem each_len {k : Kd} {n : Nat} {hold : Int} : ∀ (l : List Lg) (s : Nat), (eachGo k n hold s l).length = l.length
  | [], _ => rfl
  | _ :: ys, s => by simp [eachGo, each_len ys]
theorem eachB_small {k : Kd} {n : Nat} {hold : Int} {i : Nat} {x : Lg} (R : Rng k) (h0 : 0 ≤ hold) (h10 : hold ≤ 10) (hx : 1 ≤ x.len ∧ x.len ≤ 4096) : (eachB k n hold i x).small := by
  obtain ⟨a, b, c, d⟩ := bnd_facts' k x.len hx.1 hx.2 R
  unfold eachB Bd.small
  split
  · simp only; omega
  · omega
/-- The list that the iterator yields. -/
theorem each_es {k : Kd} {ls : List Lg} {hold : Int} (h : asked k ls hold = 0) : ∃ es : List WB, raw es = each k ls hold ∧ es.length = ls.length ∧ ∀ (i : Nat) (x : Lg), ls[i]? = some x → ∃ e, es[i]? = some e ∧ e.1 = eachB k ls.length hold i x := by
  obtain ⟨hv, _, _, h0, h10, hL⟩ := asked_ok h
  have R := vld_rng hv
  have hsm : ∀ b ∈ each k ls hold, b.small := by
    intro b hb
    obtain ⟨i, hi, rfl⟩ := List.getElem_of_mem hb
    have hil : i < ls.length := by rw [← each_len (k := k) (n := ls.length) (hold := hold) ls 0]; exact hi
    have := each_get (k := k) (n := ls.length) (hold := hold) ls 0 i _ (List.getElem?_eq_getElem hil)
    have e : (each k ls hold)[i] = eachB k ls.length hold (0 + i) ls[i] := Option.some.inj ((List.getElem?_eq_getElem hi).symm.trans this)
    rw [e]; exact eachB_small R h0 h10 (hL i _ (List.getElem?_eq_getElem hil))
  refine ⟨(each k ls hold).attachWith _ hsm, by simp [raw], by simp [each, each_len], fun i x hx => ?_⟩
  have hil : i < ls.length := (List.getElem?_eq_some_iff.1 hx).1
  have hg := each_get (k := k) (n := ls.length) (hold := hold) ls 0 i x hx
  rw [Nat.zero_add] at hg
  have hi : i < (each k ls hold).length := by unfold each; rw [each_len]; exact hil
  refine ⟨((each k ls hold).attachWith _ hsm)[i]'(by simpa using hi), List.getElem?_eq_getElem _, ?_⟩
  simp only [List.getElem_attachWith]
  exact Option.some.inj ((List.getElem?_eq_getElem hi).symm.trans hg)

theorem info28 : (Try.prog.info? 28).map (fun i => (i.zero, i.size, i.bytes)) = some (some (.agg #[.int .i64 0, .int .i64 0]), 2, 16) := by kernel_rfl
theorem I35 : EInfo Try.prog 35 28 Bd.cells 2 16 := by
  obtain ⟨i0, hi, hz0, hz1, hz2⟩ := info_parts info28
  exact ⟨Try.underlying35, ⟨i0, _, hi, hz0, hz1, hz2, rfl⟩, by decide, fun _ => rfl, fun x => by simp [Bd.cells, Value.oneCell']⟩
set_option maxRecDepth 100000 in
set_option maxHeartbeats 3200000 in
theorem legs_any (k : Kd) (A : Option Addr) (c : Nat) (ls : List Lg) (hold : Int) (w : World) (hk : k.ok w) (hf : k.few) (ha : Slc w Lg.cells 4 A ls) (hn : ls.length < 1000000) :
    Calls Try.prog 11 #[k.v, .slice A ls.length c, .int .i64 hold] w (RetLs w (legs k ls hold)) := by
  have HF := Lib.hid hf
  clear hf
  refine (callsIn_wide (n := 5)).1 ?_
  refine callsIn_of_wp_marks Try.func11 rfl trivial ?_ rfl
  simp only [Try.ntmps11, List.size_toArray, List.length_cons, List.length_nil, Nat.reduceAdd, Nat.reduceSub, Array.replicate_succ, Array.replicate_zero, List.push_toArray, List.append_toArray, List.nil_append, List.cons_append]
  gi_wp2_with fail
  refine ⟨trivial, (callsIn_wide.2 (asked_any k A c ls hold _ (hk.ext (ext_alloc (ext_alloc (ext_refl w) _) _)) HF.out ((ha.alloc _).alloc _) hn)).mono ?_⟩
  rintro e w1 ⟨rfl, B1⟩
  by_cases hz : asked k ls hold = 0
  · have HZ := Lib.hid hz
    rw [hz]
    clear hz
    obtain ⟨hv, hl1, hl8, h0, h10, hL⟩ := asked_ok HZ.out
    obtain ⟨es, hes1, hes2, hes3⟩ := each_es HZ.out
    have HR : Hid (legs k ls hold = (each k ls hold, 0)) := by simp [Hid, legs, HZ.out]
    have hb1 : Below w.heap.size w w1 := ext_trans (ext_alloc (ext_alloc (ext_refl w) _) _) B1
    have s1 : w.heap.size + 1 < w1.heap.size := by have := B1.size; simp at this; omega
    have N1 := ((KdAt.new w k 24).ext (by simp) (ext_alloc (ext_refl _) _)).ext (by simp; omega) B1
    obtain ⟨n0, n1, n2, n3, n4, n5⟩ := N1.all
    have HES := Lib.hid hes3
    have HLL := Lib.hid hL
    have HE1 := Lib.hid hes1
    have HE2 := Lib.hid hes2
    have bO : Boxed w1 (w.heap.size + 1) 35 (.slice none 0 0) := (B1.block (w.heap.size + 1) (by simp)).trans (by have := Boxed.new (w.alloc (.cells #[.int .i64 k.slow, .int .i64 k.fast, .int .i64 k.places, .int .i64 k.weight, .int .i64 k.longest, .slice k.cur.A k.cur.l.length k.cur.c] 24)) 35 (.slice none 0 0); rw [World.size_alloc] at this; exact this)
    have HBO := Lib.hid bO
    clear hes3 hL hes1 hes2 bO
    gi_wp2_with fail
    refine ⟨trivial, (callsIn_wide.2 (each_any k A c ls.length hold _)).mono ?_⟩
    rintro e w2 ⟨rfl, rfl⟩
    gi_wp2_with fail
    obtain ⟨w2, hw2⟩ : ∃ w2, (((w1.alloc (.cells #[.int .i64 k.slow, .int .i64 k.fast, .int .i64 k.places, .int .i64 k.weight, .int .i64 k.longest, .slice k.cur.A k.cur.l.length k.cur.c] 49)).alloc (.cells #[.slice A ls.length c] 34)).alloc (.cells #[.int .i64 hold] 3)) = w2 := ⟨_, rfl⟩
    have hz2 : w2.heap.size = w1.heap.size + 1 + 1 + 1 := by rw [← hw2]; simp
    have hb12 : Below w1.heap.size w1 w2 := by rw [← hw2]; exact ext_alloc (ext_alloc (ext_alloc (ext_refl w1) _) _) _
    have hb2 := ext_trans hb1 hb12
    have hC : Caps w2 w2.heap.size (fun b => b = w.heap.size + 1) (w1.heap.size + 1) w1.heap.size (w1.heap.size + 1 + 1) A c ls k hold := by
      refine ⟨by omega, by omega, by omega, by omega, by omega, by omega, ?_, ?_, ?_, ha.ext hb2, ?_⟩
      · rw [← hw2]
        have := ((Boxed.new (w1.alloc (.cells #[.int .i64 k.slow, .int .i64 k.fast, .int .i64 k.places, .int .i64 k.weight, .int .i64 k.longest, .slice k.cur.A k.cur.l.length k.cur.c] 49)) 34 (.slice A ls.length c)).alloc (.cells #[.int .i64 hold] 3)).cell
        rwa [World.size_alloc] at this
      · rw [← hw2]; exact ((KdAt.new w1 k 49).ext (by simp) (ext_alloc (ext_refl _) _)).ext (by simp; omega) (ext_alloc (ext_refl _) _)
      · rw [← hw2]
        have := (Boxed.new ((w1.alloc (.cells #[.int .i64 k.slow, .int .i64 k.fast, .int .i64 k.places, .int .i64 k.weight, .int .i64 k.longest, .slice k.cur.A k.cur.l.length k.cur.c] 49)).alloc (.cells #[.slice A ls.length c] 34)) 3 (.int .i64 hold)).cell
        rwa [World.size_alloc, World.size_alloc] at this
      · rintro b o st rfl
        obtain ⟨x, b', o', _, e, hlt, _⟩ := ha.at_ (show 0 < ls.length by omega)
        cases e
        have := hb2.size
        exact ⟨by omega, by omega⟩
    have bO := HBO.out.kept (grown_below hb12) (by simp)
    rw [hw2]
    have s2 : w1.heap.size < w2.heap.size := by omega
    have HBB2 := Lib.hid hb2
    have HCC := Lib.hid hC
    have HBO2 := Lib.hid bO
    clear hw2 hz2 hb12 hC bO N1 n0 n1 n2 n3 n4 n5 B1 HBO
    refine wpIn_rangeFunc_ownH (F := Fence.wide) rfl (by decide) (gf := 25) (lb := #[.pointer (some ⟨w1.heap.size + 1, 0, none⟩), .pointer (some ⟨w1.heap.size, 0, none⟩), .pointer (some ⟨w1.heap.size + 1 + 1, 0, none⟩)]) rfl trivial (enters_of Try.func25 (by kernel_rfl) rfl)
      (each_stops 4 (by decide) w2.heap.size (fun b => b = w.heap.size + 1) (w1.heap.size + 1) w1.heap.size (w1.heap.size + 1 + 1) A c ls k hold es HES.out HE2.out hl8 (vld_rng hv) h0 h10 HLL.out w2 (Nat.le_refl _) HCC.out) KpE.t (KpE.b (Nat.le_refl _)) (Below.refl _ _) (fun _ => rfl)
      (fun pre W => ∃ v, Boxed W (w.heap.size + 1) 35 v ∧ Own W w2.heap.size 28 Bd.cells 2 v (raw pre) ∧ Below w.heap.size w W ∧ w2.heap.size ≤ W.heap.size)
      (fun _ _ _ => False)
      (fun s X Y row hs hg hr => by
        obtain ⟨v, h1, h2, h3, h4⟩ := hs
        exact ⟨v, Boxed.turn h1 hg (fun r e => (hr r e).2), h2.turn hg (fun r e => (hr r e).2), h3.grown hg (Nat.le_trans HBB2.out.size h4) (fun r e => Nat.le_trans HBB2.out.size (hr r e).1), Nat.le_trans h4 hg.size⟩)
      (fun _ _ _ _ _ hs _ _ => hs)
      ⟨_, HBO2.out, Own.nil _ _ _ _ _, HBB2.out, Nat.le_refl _⟩
      (fun x a' W => ∃ Bx, W.heap[Bx]? = some (.cells #[.int .i64 x.1.lo, .int .i64 x.1.hi] 28 (0, 0)) ∧ a' = { tmps := #[k.v, .slice A ls.length c, .int .i64 hold, .pointer (some ⟨w.heap.size, 0, none⟩), undef, undef, .pointer (some ⟨w.heap.size + 1, 0, none⟩), .int .i64 0, .pointer (some ⟨Bx, 0, none⟩), k.v, .slice A ls.length c, .int .i64 hold, .int .i64 0, .int .i64 0, .bool false, undef, k.v, k.v, .slice A ls.length c, .int .i64 hold, .func (.func 25) #[] #[.pointer (some ⟨w1.heap.size + 1, 0, none⟩), .pointer (some ⟨w1.heap.size, 0, none⟩), .pointer (some ⟨w1.heap.size + 1 + 1, 0, none⟩)], x.1.v, undef, undef, undef, undef, undef], defers := [] })
      (fun x a' _ X Y row hs hg hr => by
        obtain ⟨Bx, h1, h2⟩ := hs
        exact ⟨Bx, (hg.block Bx (Array.getElem?_eq_some_iff.1 h1).1 (fun e' => by obtain ⟨ob, h3, h4⟩ := (hr Bx e'.symm).2; rw [h1] at h3; cases h3; cases h4)).trans h1, h2⟩) ?assign ?body ?done ?stop
    case assign =>
      rintro l pre x W K ⟨v, h1, h2, h3, h4⟩ hK
      simp only [encB]
      gi_wp2
      exact hK _ _ ((KeepsOthers.alloc _ _).from _) ⟨Kx.below (ext_alloc (ext_refl W) _) h4, by simp⟩ ⟨v, h1.alloc _, h2.alloc _, ext_alloc h3 _, by simp; omega⟩ ⟨W.heap.size, World.alloc_heap_new W _, rfl⟩
    case body =>
      rintro l pre x a' W _ _ ⟨v, h1, h2, h3, h4⟩ ⟨Bx, hx, rfl⟩ hlt
      have c0 : W.cell? ⟨Bx, 0, none⟩ = some (.int .i64 x.1.lo) := by simp [World.cell?, hx]
      have c1 : W.cell? ⟨Bx, 1, none⟩ = some (.int .i64 x.1.hi) := by simp [World.cell?, hx]
      have cv := h1.cell
      have hpl : pre.length < 8 := by have := HE2.out; omega
      have hS := slc_litH W [x.1] #[.int .i64 x.1.lo, .int .i64 x.1.hi] 28 (enc := Bd.cells) (sz := 2) (fun _ => rfl) rfl W.heap.size rfl
      obtain ⟨v', w5, hrun, hO5, hg5, hat5⟩ := (h2.alloc (.cells #[.int .i64 x.1.lo, .int .i64 x.1.hi] 28)).append I35 35 (ys := [x.1]) (m := 1) rfl 1 hS (by simp [raw_len]; omega) (by unfold maxLen; simp [raw_len]; omega) (by simp; omega)
      obtain ⟨g5, c5, cur5, hv5, _, hbg5, _, _⟩ := hO5.some_ (by simp)
      rw [show (raw pre ++ [x.1]).length = pre.length + 1 by simp [raw_len]] at hv5
      subst hv5
      have hw2 : w.heap.size ≤ w2.heap.size := by have := HBB2.out.size; omega
      obtain ⟨hv1, hv2, hr2, hk2, hb2⟩ := h1.appended (by decide) (h2.low hw2) h3.size (Nat.le_succ _) (hO5.low hw2) hg5
      have hc1 := hv1.cell
      have hf1 := hv1.frozen
      have hO6 := hO5.block (w' := w5.setCell ⟨w.heap.size + 1, 0, none⟩ (.slice (some ⟨g5, 0, none⟩) (pre.length + 1) c5)) (fun kk e => by cases e; exact Below.heap_setCell _ _ _ _ (by simp; omega))
      have hkx : KpE w2.heap.size (fun b => b = w.heap.size + 1) W (w5.setCell ⟨w.heap.size + 1, 0, none⟩ (.slice (some ⟨g5, 0, none⟩) (pre.length + 1) c5)) := by
        refine ⟨((Kx.below (ext_alloc (ext_refl W) _) h4).t (Kx.grown hg5 (by simp; omega) (fun r e => .inl (h2.lt r e).2))).t (Kx.set _ _ (.inr rfl)), ?_⟩
        have := hg5.size; simp at this; simp [World.setCell]; omega
      have HOUT : Hid (ownPostG w2.heap.size (KpE w2.heap.size fun b => b = w.heap.size + 1) (fun pre W => ∃ v, Boxed W (w.heap.size + 1) 35 v ∧ Own W w2.heap.size 28 Bd.cells 2 v (raw pre) ∧ Below w.heap.size w W ∧ w2.heap.size ≤ W.heap.size) (fun _ _ _ => False) (pre ++ [x]) W Exit.normal { tmps := #[], defers := [] } (w5.setCell ⟨w.heap.size + 1, 0, none⟩ (.slice (some ⟨g5, 0, none⟩) (pre.length + 1) c5))) :=
        ⟨hk2.from _, hkx, _, hv2, by rw [raw_snoc]; exact hO6, h3.trans hb2, Nat.le_trans h4 hkx.2⟩
      have HRUN := Lib.hid hrun
      clear hrun hk2 hkx hb2 hr2 hO6 hv2 hg5 hO5 hat5 hS
      gi_wp2_with (gi_at_builtin; refine wpListIn_append_run rfl (.tmp 22) (.tmp 24) 35 rfl v (.slice (some ⟨W.heap.size, 0, none⟩) 1 1) rfl rfl HRUN.out ?_)
      exact HOUT.out
    case done =>
      rintro D ys W hD rfl ⟨v, h1, h2, h3, h4⟩ hK
      obtain ⟨A5, c5, hv5, hc5, hA5, _⟩ := h2.form
      subst hv5
      have hc1 := h1.cell
      have hf1 := h1.frozen
      have hKs : (W.setCell ⟨w.heap.size + 1, 0, none⟩ (.slice A5 (raw ys).length c5)).heap[D]? = some (.deferred (some [])) := (KeepsOthers.setCell _ _ _).same D _ hK rfl
      have hbx := (h1.set (.slice A5 (raw ys).length c5)).kept (grownBy_putObj' _ D (.deferred none)) (by simp; omega)
      have hcx := hbx.cell
      have hO1 := h2.block (w' := W.setCell ⟨w.heap.size + 1, 0, none⟩ (.slice A5 (raw ys).length c5)) (fun kk e => Below.heap_setCell _ _ _ _ (by have := (h2.lt kk e).2; simp; omega))
      have hO2 := hO1.turn (grownBy_putObj' _ D (.deferred none)) (fun r e => by cases e; exact ⟨_, hKs, rfl⟩)
      have hB5 : Below w.heap.size w ((W.setCell ⟨w.heap.size + 1, 0, none⟩ (.slice A5 (raw ys).length c5)).putObj D (.deferred none)) := (h3.setCell (p := ⟨w.heap.size + 1, 0, none⟩) (Nat.le_succ _) _).grown (grownBy_putObj' _ D _) (by simp [World.setCell]; exact h3.size) (fun r e => by cases e; omega)
      gi_wp2
      refine ⟨by simp, .inl ⟨_, _, rfl, run_takeDeferred hKs, ?_⟩⟩
      refine ⟨.tuple #[.slice A5 (raw ys).length c5, .int .i64 0], by simp [results, Try.results11, go_sem, hcx], ?_⟩
      rw [HR.out, ← HE1.out]
      exact ⟨A5, c5, rfl, hO2.slc (fun _ => rfl) (by decide), hB5⟩
    case stop =>
      rintro D cc pre W _ _ h _
      exact h.elim
  · have hz' : (asked k ls hold != 0) = true := by simp [hz]
    have HR : Hid (legs k ls hold = ([], asked k ls hold)) := by simp [Hid, legs, hz]
    clear hz
    obtain ⟨hcc, hff⟩ := bcell B1
    have hb1 : Below w.heap.size w w1 := ext_trans (ext_alloc (ext_alloc (ext_refl w) _) _) B1
    have s1 : w.heap.size + 1 < w1.heap.size := by have := B1.size; simp at this; omega
    have d0 : w1.cell? ⟨w.heap.size + 1, 0, none⟩ = some (.slice none 0 0) := by rw [hcc _ _ (by simp)]; simp
    have g0 : w1.frozen? ⟨w.heap.size + 1, 0, none⟩ = false := by rw [hff _ _ (by simp)]; simp
    clear hcc hff
    gi_wp2_with fail
    refine ⟨.tuple #[.slice none 0 0, .int .i64 (asked k ls hold)], by simp [results, Try.results11, go_sem, d0], ?_⟩
    rw [HR.out]
    exact ⟨none, 0, rfl, Slc.nil, hb1.setCell (p := ⟨w.heap.size + 1, 0, none⟩) (Nat.le_succ _) _⟩
end Go.Proofs.Ytlnfjdbdgcafbaa
