/- The spans of a set, collected. -/
import Derived.Test.YtmgpbjpohbpgpaaHD
set_option linter.unusedSimpArgs false
set_option linter.unusedVariables false
namespace Go.Proofs.Ytmgpbjpohbpgpaa
open Go.RowKit Go.Shelf
attribute [local go_sem] Oper.semAt_some
def KpE (B : Nat) (ex : Nat → Prop) (W W' : World) : Prop := Kx B ex W W' ∧ W.heap.size ≤ W'.heap.size
theorem KpE.t {B : Nat} {ex : Nat → Prop} {X Y Z : World} (h : KpE B ex X Y) (k : KpE B ex Y Z) : KpE B ex X Z := ⟨h.1.t k.1, Nat.le_trans h.2 k.2⟩
theorem KpE.b {B : Nat} {ex : Nat → Prop} {w : World} (hB : B ≤ w.heap.size) (W : World) (l : Nat) (o o' : Obj) (hl : w.heap.size ≤ l) (h : W.heap[l]? = some o) (h1 : o.isCells = false) (h2 : o.isWalk = false) : KpE B ex W (W.putObj l o') :=
  ⟨Kx.b hB W l o o' hl h h1 h2, (grownBy_putObj' W l o').size⟩
theorem spans_stops (n : Nat) (hn : 1 ≤ n) (B : Nat) (ex : Nat → Prop) (bd b : Nat) (f : Nat → Bool) (w : World) (hB : B ≤ w.heap.size) (hC : DCap w B ex bd b f) :
    SeqStopsK Fence.wide n Try.prog 71 #[.pointer (some ⟨bd, 0, none⟩)] encS (KpE B ex) (fun ys => ys = nrm f) (fun _ => True) 1440 w :=
  fun l J Jx W hW hJ _ hY hJ0 => spans1_in n hn l B ex bd b f J Jx W (Nat.le_trans hB hW.size) hJ hY (hC.keep (Kx.below hW hB)) hJ0
theorem info31 : (Try.prog.info? 40).map (fun i => (i.zero, i.size, i.bytes)) = some (some (.agg #[.int .i64 0, .int .i64 0]), 2, 16) := by kernel_rfl
theorem I22 : EInfo Try.prog 46 40 Sp.cells 2 16 := by
  obtain ⟨i0, hi, hz0, hz1, hz2⟩ := info_parts info31
  exact ⟨Try.underlying46, ⟨i0, _, hi, hz0, hz1, hz2, rfl⟩, by decide, fun _ => rfl, fun x => by simp [Sp.cells, Value.oneCell']⟩
theorem spans_any (b : Nat) (w : World) : Calls Try.prog 67 #[.pointer (some ⟨b, 0, none⟩)] w fun e w' => e = .returned (.func (.func 71) #[] #[.pointer (some ⟨w.heap.size, 0, none⟩)]) ∧ w.alloc (.cells #[.pointer (some ⟨b, 0, none⟩)] 93) = w' := by
  go_enter Try.func67, Try.ntmps67
  go_wp2
  go_ret
  exact ⟨rfl, rfl⟩
/-- What hands back a list of spans. -/
def RetS (w : World) (l : List Sp) (e : Ending) (w' : World) : Prop :=
  ∃ A c, e = .returned (.slice A l.length c) ∧ Slc w' Sp.cells 2 A l ∧ Below w.heap.size w w'
set_option maxRecDepth 100000 in
set_option maxHeartbeats 3200000 in
theorem appendSeq_any (bd b : Nat) (f : Nat → Bool) (w : World) (hC0 : DCap w w.heap.size (fun _ => False) bd b f) :
    Calls Try.prog 70 #[.slice none 0 0, .func (.func 71) #[] #[.pointer (some ⟨bd, 0, none⟩)]] w (RetS w (nrm f)) := by
  refine (callsIn_wide (n := 5)).1 ?_
  refine callsIn_of_wp_marks Try.func70 rfl trivial ?_ rfl
  simp only [Try.ntmps70, List.size_toArray, List.length_cons, List.length_nil, Nat.reduceAdd, Nat.reduceSub, Array.replicate_succ, Array.replicate_zero, List.push_toArray, List.append_toArray, List.nil_append, List.cons_append]
  gi_wp2_with fail
  obtain ⟨w2, hw2⟩ : ∃ w2, w.alloc (.cells #[.slice none 0 0] 46) = w2 := ⟨_, rfl⟩
  have hz2 : w2.heap.size = w.heap.size + 1 := by rw [← hw2]; simp
  have hb2 : Below w.heap.size w w2 := by rw [← hw2]; exact ext_alloc (ext_refl w) _
  have bO : Boxed w2 w.heap.size 46 (.slice none 0 0) := by rw [← hw2]; exact Boxed.new w 46 _
  have hC : DCap w2 w2.heap.size (fun k => k = w.heap.size) bd b f := by
    have h1 := hC0.dB
    have h2 := hC0.bB
    exact ⟨by omega, by omega, by omega, by omega, (hb2.cell (p := ⟨bd, 0, none⟩) h1).trans hC0.d, fun k hk => (hb2.cell (p := ⟨b, k, none⟩) h2).trans (hC0.c k hk)⟩
  rw [hw2]
  have HBB2 := Lib.hid hb2
  have HCC := Lib.hid hC
  have HBO2 := Lib.hid bO
  have hwl : w.heap.size < w2.heap.size := by omega
  clear hw2 hz2 hC bO hC0 hb2
  refine wpIn_rangeFunc_ownH (F := Fence.wide) rfl (by decide) (gf := 71) (lb := #[.pointer (some ⟨bd, 0, none⟩)]) rfl trivial (enters_of Try.func71 (by kernel_rfl) rfl)
    (spans_stops 4 (by decide) w2.heap.size (fun k => k = w.heap.size) bd b f w2 (Nat.le_refl _) HCC.out) KpE.t (KpE.b (Nat.le_refl _)) (Below.refl _ _) (fun _ => rfl)
    (fun pre W => ∃ v, Boxed W w.heap.size 46 v ∧ Own W w2.heap.size 40 Sp.cells 2 v pre ∧ Below w.heap.size w W ∧ w2.heap.size ≤ W.heap.size)
    (fun _ _ _ => False)
    (fun s X Y row hs hg hr => by
      obtain ⟨v, h1, h2, h3, h4⟩ := hs
      exact ⟨v, Boxed.turn h1 hg (fun r e => (hr r e).2), h2.turn hg (fun r e => (hr r e).2), h3.grown hg (Nat.le_trans HBB2.out.size h4) (fun r e => Nat.le_trans HBB2.out.size (hr r e).1), Nat.le_trans h4 hg.size⟩)
    (fun _ _ _ _ _ hs _ _ => hs)
    ⟨_, HBO2.out, Own.nil _ _ _ _ _, HBB2.out, Nat.le_refl _⟩
    (fun x a' W => ∃ Bx, W.heap[Bx]? = some (.cells #[.int .i64 x.f, .int .i64 x.t] 40 (0, 0)) ∧ a' = { tmps := #[.slice none 0 0, .func (.func 71) #[] #[.pointer (some ⟨bd, 0, none⟩)], .pointer (some ⟨w.heap.size, 0, none⟩), undef, .slice none 0 0, .pointer (some ⟨Bx, 0, none⟩), .func (.func 71) #[] #[.pointer (some ⟨bd, 0, none⟩)], x.v, undef, undef, undef, undef, undef], defers := [] })
    (fun x a' _ X Y row hs hg hr => by
      obtain ⟨Bx, h1, h2⟩ := hs
      exact ⟨Bx, (hg.block Bx (Array.getElem?_eq_some_iff.1 h1).1 (fun e' => by obtain ⟨ob, h3, h4⟩ := (hr Bx e'.symm).2; rw [h1] at h3; cases h3; cases h4)).trans h1, h2⟩) ?assign ?body ?done ?stop
  case assign =>
    rintro l pre x W K ⟨v, h1, h2, h3, h4⟩ hK
    simp only [encS]
    gi_wp2
    exact hK _ _ ((KeepsOthers.alloc _ _).from _) ⟨Kx.below (ext_alloc (ext_refl W) _) h4, by simp⟩ ⟨v, h1.alloc _, h2.alloc _, ext_alloc h3 _, by simp; omega⟩ ⟨W.heap.size, World.alloc_heap_new W _, rfl⟩
  case body =>
    rintro l pre x a' W _ _ ⟨v, h1, h2, h3, h4⟩ ⟨Bx, hx, rfl⟩ hlt
    have c0 : W.cell? ⟨Bx, 0, none⟩ = some (.int .i64 x.f) := by simp [World.cell?, hx]
    have c1 : W.cell? ⟨Bx, 1, none⟩ = some (.int .i64 x.t) := by simp [World.cell?, hx]
    have cv := h1.cell
    have hS := slc_litH W [x] #[.int .i64 x.f, .int .i64 x.t] 40 (enc := Sp.cells) (sz := 2) (fun _ => rfl) rfl W.heap.size rfl
    obtain ⟨v', w5, hrun, hO5, hg5, hat5⟩ := (h2.alloc (.cells #[.int .i64 x.f, .int .i64 x.t] 40)).append I22 46 (ys := [x]) (m := 1) rfl 1 hS (by simp; omega) (by unfold maxLen; simp; omega) (by simp; omega)
    obtain ⟨g5, c5, cur5, hv5, _, hbg5, _, _⟩ := hO5.some_ (by simp)
    rw [show (pre ++ [x]).length = pre.length + 1 by simp] at hv5
    subst hv5
    have hw2 : w.heap.size ≤ w2.heap.size := by omega
    obtain ⟨hv1, hv2, hr2, hk2, hb2⟩ := h1.appended (by decide) (h2.low hw2) (by omega) (Nat.le_refl _) (hO5.low hw2) hg5
    have hc1 := hv1.cell
    have hf1 := hv1.frozen
    have hO6 := hO5.block (w' := w5.setCell ⟨w.heap.size, 0, none⟩ (.slice (some ⟨g5, 0, none⟩) (pre.length + 1) c5)) (fun kk e => by cases e; exact Below.heap_setCell _ _ _ _ (by simp; omega))
    have hkx : KpE w2.heap.size (fun k => k = w.heap.size) W (w5.setCell ⟨w.heap.size, 0, none⟩ (.slice (some ⟨g5, 0, none⟩) (pre.length + 1) c5)) := by
      refine ⟨((Kx.below (ext_alloc (ext_refl W) _) h4).t (Kx.grown hg5 (by simp; omega) (fun r e => .inl (h2.lt r e).2))).t (Kx.set _ _ (.inr rfl)), ?_⟩
      have := hg5.size; simp at this; simp [World.setCell]; omega
    have HOUT : Hid (ownPostG w2.heap.size (KpE w2.heap.size fun k => k = w.heap.size) (fun pre W => ∃ v, Boxed W w.heap.size 46 v ∧ Own W w2.heap.size 40 Sp.cells 2 v pre ∧ Below w.heap.size w W ∧ w2.heap.size ≤ W.heap.size) (fun _ _ _ => False) (pre ++ [x]) W Exit.normal { tmps := #[], defers := [] } (w5.setCell ⟨w.heap.size, 0, none⟩ (.slice (some ⟨g5, 0, none⟩) (pre.length + 1) c5))) :=
      ⟨hk2.from _, hkx, _, hv2, hO6, h3.trans hb2, Nat.le_trans h4 hkx.2⟩
    have HRUN := Lib.hid hrun
    clear hrun hk2 hkx hb2 hr2 hO6 hv2 hg5 hO5 hat5 hS
    gi_wp2_with (gi_at_builtin; refine wpListIn_append_run rfl (.tmp 8) (.tmp 10) 46 rfl v (.slice (some ⟨W.heap.size, 0, none⟩) 1 1) rfl rfl HRUN.out ?_)
    exact HOUT.out
  case done =>
    rintro D ys W hD rfl ⟨v, h1, h2, h3, h4⟩ hK
    obtain ⟨A5, c5, hv5, hc5, hA5, _⟩ := h2.form
    subst hv5
    have hc1 := h1.cell
    have hO2 := h2.turn (grownBy_putObj' W D (.deferred none)) (fun r e => by cases e; exact ⟨_, hK, rfl⟩)
    have hB5 : Below w.heap.size w (W.putObj D (.deferred none)) := h3.grown (grownBy_putObj' _ D _) h3.size (fun r e => by cases e; omega)
    gi_wp2
    refine ⟨by simp, .inl ⟨_, _, rfl, run_takeDeferred hK, ?_⟩⟩
    refine ⟨.slice A5 (nrm f).length c5, by simp [results, Try.results70, go_sem], ?_⟩
    exact ⟨A5, c5, rfl, hO2.slc (fun _ => rfl) (by decide), hB5⟩
  case stop =>
    rintro D cc pre W _ _ h _
    exact h.elim
end Go.Proofs.Ytmgpbjpohbpgpaa
