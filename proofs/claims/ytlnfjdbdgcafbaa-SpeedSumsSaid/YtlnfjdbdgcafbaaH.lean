import Derived.Test.YtlnfjdbdgcafbaaG
namespace Go.Proofs.Ytlnfjdbdgcafbaa
open Go.RowKit Go.Shelf
attribute [local go_sem] Oper.semAt_some
theorem cell_turn {w w' : World} {row : Option Nat} {b o : Nat} {v : Value} (h : w.cell? ⟨b, o, none⟩ = some v) (hg : w.grownBy w' row) (hr : ∀ r, row = some r → ∃ ob : Obj, w.heap[r]? = some ob ∧ ob.isCells = false) : w'.cell? ⟨b, o, none⟩ = some v ∧ w'.frozen? ⟨b, o, none⟩ = w.frozen? ⟨b, o, none⟩ := by
  have hlt : b < w.heap.size := by
    simp only [World.cell?] at h
    split at h
    · rename_i hh; exact (Array.getElem?_eq_some_iff.1 hh).1
    · cases h
  have hne : some b ≠ row := by
    intro e'
    obtain ⟨ob, h1, h2⟩ := hr b e'.symm
    simp only [World.cell?, h1] at h
    cases ob <;> simp_all [Obj.isCells]
  have hb := hg.block b hlt hne
  exact ⟨(World.cell?_of_block (w := w) (a := ⟨b, o, none⟩) hb).trans h, World.frozen?_of_block (w := w) (a := ⟨b, o, none⟩) hb⟩
/-- A bound in a box: two cells that may be written. -/
def BAt (W : World) (b : Nat) (x : Bd) : Prop := W.cell? ⟨b, 0, none⟩ = some (.int .i64 x.lo) ∧ W.cell? ⟨b, 1, none⟩ = some (.int .i64 x.hi) ∧ W.frozen? ⟨b, 0, none⟩ = false ∧ W.frozen? ⟨b, 1, none⟩ = false
theorem BAt.turn {w w' : World} {row : Option Nat} {b : Nat} {x : Bd} (h : BAt w b x) (hg : w.grownBy w' row) (hr : ∀ r, row = some r → ∃ ob : Obj, w.heap[r]? = some ob ∧ ob.isCells = false) : BAt w' b x :=
  ⟨(cell_turn h.1 hg hr).1, (cell_turn h.2.1 hg hr).1, (cell_turn h.1 hg hr).2.trans h.2.2.1, (cell_turn h.2.1 hg hr).2.trans h.2.2.2⟩
theorem BAt.set {w : World} {b : Nat} {x : Bd} (h : BAt w b x) (y : Bd) : BAt ((w.setCell ⟨b, 0, none⟩ (.int .i64 y.lo)).setCell ⟨b, 1, none⟩ (.int .i64 y.hi)) b y := by
  obtain ⟨h1, h2, h3, h4⟩ := h
  refine ⟨?_, ?_, by simp [World.frozen?_setCell, h3], by simp [World.frozen?_setCell, h4]⟩
  · rw [World.cell?_setCell_other _ _ _ _ (by simp)]
    exact World.cell?_setCell_same' _ _ _ (by rw [h1]; rfl)
  · refine World.cell?_setCell_same' _ _ _ ?_
    rw [World.cell?_setCell_other _ _ _ _ (by simp), h2]; rfl
theorem sumB_snoc (l : List Bd) (x : Bd) : sumB (l ++ [x]) = addB (sumB l) x := by simp [sumB]
theorem snoc_ind {α : Type} {P : List α → Prop} (h0 : P []) (h1 : ∀ l x, P l → P (l ++ [x])) : ∀ l, P l := by
  intro l
  rw [← List.reverse_reverse l]
  induction l.reverse with
  | nil => exact h0
  | cons x xs ih => rw [List.reverse_cons]; exact h1 _ _ ih
theorem sumB_small (l : List WB) : 0 ≤ (sumB (raw l)).lo ∧ (sumB (raw l)).lo ≤ 10000 * l.length ∧ 0 ≤ (sumB (raw l)).hi ∧ (sumB (raw l)).hi ≤ 10000 * l.length := by
  refine snoc_ind (P := fun l => 0 ≤ (sumB (raw l)).lo ∧ (sumB (raw l)).lo ≤ 10000 * l.length ∧ 0 ≤ (sumB (raw l)).hi ∧ (sumB (raw l)).hi ≤ 10000 * l.length) ?_ ?_ l
  · simp [raw, sumB]
  · intro l x ih
    rw [raw_snoc, sumB_snoc]
    obtain ⟨h1, h2, h3, h4⟩ := x.2
    simp only [addB, List.length_append, List.length_cons, List.length_nil]
    omega
set_option maxRecDepth 100000 in
set_option maxHeartbeats 3200000 in
theorem total_any (k : Kd) (A : Option Addr) (c : Nat) (ls : List Lg) (hold : Int) (w : World) (hk : k.ok w) (hf : k.few) (ha : Slc w Lg.cells 4 A ls) (hn : ls.length < 1000000) :
    Calls Try.prog 12 #[k.v, .slice A ls.length c, .int .i64 hold] w (RetB w (total k ls hold)) := by
  have HF := Lib.hid hf
  clear hf
  refine (callsIn_wide (n := 5)).1 ?_
  refine callsIn_of_wp_marks Try.func12 rfl trivial ?_ rfl
  simp only [Try.ntmps12, List.size_toArray, List.length_cons, List.length_nil, Nat.reduceAdd, Nat.reduceSub, Array.replicate_succ, Array.replicate_zero, List.push_toArray, List.append_toArray, List.nil_append, List.cons_append]
  gi_wp2_with fail
  refine ⟨trivial, (callsIn_wide.2 (asked_any k A c ls hold _ (hk.ext (ext_alloc (ext_alloc (ext_refl w) _) _)) HF.out ((ha.alloc _).alloc _) hn)).mono ?_⟩
  rintro e w1 ⟨rfl, B1⟩
  by_cases hz : asked k ls hold = 0
  · have HZ := Lib.hid hz
    rw [hz]
    clear hz
    obtain ⟨hv, hl1, hl8, h0, h10, hL⟩ := asked_ok HZ.out
    obtain ⟨es, hes1, hes2, hes3⟩ := each_es HZ.out
    have HR : Hid (total k ls hold = (sumB (each k ls hold), 0)) := by simp [Hid, total, HZ.out]
    have hb1 : Below w.heap.size w w1 := ext_trans (ext_alloc (ext_alloc (ext_refl w) _) _) B1
    have s1 : w.heap.size + 1 < w1.heap.size := by have := B1.size; simp at this; omega
    have N1 := ((KdAt.new w k 24).ext (by simp) (ext_alloc (ext_refl _) _)).ext (by simp; omega) B1
    obtain ⟨n0, n1, n2, n3, n4, n5⟩ := N1.all
    have HES := Lib.hid hes3
    have HLL := Lib.hid hL
    have HE1 := Lib.hid hes1
    have HE2 := Lib.hid hes2
    obtain ⟨hcc, hff⟩ := bcell B1
    have bO : BAt w1 (w.heap.size + 1) ⟨0, 0⟩ := ⟨by rw [hcc _ _ (by simp)]; simp, by rw [hcc _ _ (by simp)]; simp, by rw [hff _ _ (by simp)]; simp, by rw [hff _ _ (by simp)]; simp⟩
    clear hcc hff
    have HBO := Lib.hid bO
    clear hes3 hL hes1 hes2 bO
    gi_wp2_with fail
    refine ⟨trivial, (callsIn_wide.2 (each_any k A c ls.length hold _)).mono ?_⟩
    rintro e w2 ⟨rfl, rfl⟩
    gi_wp2_with fail
    obtain ⟨w2, hw2⟩ : ∃ w2, (((w1.alloc (.cells #[.int .i64 k.slow, .int .i64 k.fast, .int .i64 k.places, .int .i64 k.weight, .int .i64 k.longest, .slice k.cur.A k.cur.l.length k.cur.c] 49)).alloc (.cells #[.slice A ls.length c] 34)).alloc (.cells #[.int .i64 hold] 3)) = w2 := ⟨_, rfl⟩
    have hz2 : w2.heap.size = w1.heap.size + 1 + 1 + 1 := by rw [← hw2]; simp
    have hb12 : Below w1.heap.size w1 w2 := by rw [← hw2]; exact ext_alloc (ext_alloc (ext_alloc (ext_refl w1) _) _) _
    have hb2 := ext_trans hb1 hb12
    have hC : Caps w2 w2.heap.size (fun b => b = w.heap.size + 1) (w1.heap.size + 1) w1.heap.size (w1.heap.size + 1 + 1) A c ls k hold := by
      refine ⟨by omega, by omega, by omega, by omega, by omega, by omega, ?_, ?_, ?_, ha.ext hb2, ?_⟩
      · rw [← hw2]
        have := ((Boxed.new (w1.alloc (.cells #[.int .i64 k.slow, .int .i64 k.fast, .int .i64 k.places, .int .i64 k.weight, .int .i64 k.longest, .slice k.cur.A k.cur.l.length k.cur.c] 49)) 34 (.slice A ls.length c)).alloc (.cells #[.int .i64 hold] 3)).cell
        rwa [World.size_alloc] at this
      · rw [← hw2]; exact ((KdAt.new w1 k 49).ext (by simp) (ext_alloc (ext_refl _) _)).ext (by simp; omega) (ext_alloc (ext_refl _) _)
      · rw [← hw2]
        have := (Boxed.new ((w1.alloc (.cells #[.int .i64 k.slow, .int .i64 k.fast, .int .i64 k.places, .int .i64 k.weight, .int .i64 k.longest, .slice k.cur.A k.cur.l.length k.cur.c] 49)).alloc (.cells #[.slice A ls.length c] 34)) 3 (.int .i64 hold)).cell
        rwa [World.size_alloc, World.size_alloc] at this
      · rintro b o st rfl
        obtain ⟨x, b', o', _, e, hlt, _⟩ := ha.at_ (show 0 < ls.length by omega)
        cases e
        have := hb2.size
        exact ⟨by omega, by omega⟩
    have bO := HBO.out.turn (grown_below hb12) (by simp)
    rw [hw2]
    have s2 : w1.heap.size < w2.heap.size := by omega
    have HBB2 := Lib.hid hb2
    have HCC := Lib.hid hC
    have HBO2 := Lib.hid bO
    clear hw2 hz2 hb12 hC bO N1 n0 n1 n2 n3 n4 n5 B1 HBO
    refine wpIn_rangeFunc_ownH (F := Fence.wide) rfl (by decide) (gf := 25) (lb := #[.pointer (some ⟨w1.heap.size + 1, 0, none⟩), .pointer (some ⟨w1.heap.size, 0, none⟩), .pointer (some ⟨w1.heap.size + 1 + 1, 0, none⟩)]) rfl trivial (enters_of Try.func25 (by kernel_rfl) rfl)
      (each_stops 4 (by decide) w2.heap.size (fun b => b = w.heap.size + 1) (w1.heap.size + 1) w1.heap.size (w1.heap.size + 1 + 1) A c ls k hold es HES.out HE2.out hl8 (vld_rng hv) h0 h10 HLL.out w2 (Nat.le_refl _) HCC.out) KpE.t (KpE.b (Nat.le_refl _)) (Below.refl _ _) (fun _ => rfl)
      (fun pre W => BAt W (w.heap.size + 1) (sumB (raw pre)) ∧ Below w.heap.size w W ∧ w2.heap.size ≤ W.heap.size ∧ pre.length ≤ es.length)
      (fun _ _ _ => False)
      (fun s X Y row hs hg hr => by
        obtain ⟨h1, h3, h4, h5⟩ := hs
        exact ⟨h1.turn hg (fun r e => (hr r e).2), h3.grown hg (Nat.le_trans HBB2.out.size h4) (fun r e => Nat.le_trans HBB2.out.size (hr r e).1), Nat.le_trans h4 hg.size, h5⟩)
      (fun _ _ _ _ _ hs _ _ => hs)
      ⟨HBO2.out, HBB2.out, Nat.le_refl _, Nat.zero_le _⟩
      (fun x a' W => ∃ Bx, w2.heap.size ≤ Bx ∧ W.heap[Bx]? = some (.cells #[.int .i64 x.1.lo, .int .i64 x.1.hi] 28 (0, 0)) ∧ a' = { tmps := #[k.v, .slice A ls.length c, .int .i64 hold, .pointer (some ⟨w.heap.size, 0, none⟩), undef, undef, .pointer (some ⟨w.heap.size + 1, 0, none⟩), .int .i64 0, .pointer (some ⟨Bx, 0, none⟩), k.v, .slice A ls.length c, .int .i64 hold, .int .i64 0, .int .i64 0, .bool false, undef, undef, k.v, k.v, .slice A ls.length c, .int .i64 hold, .func (.func 25) #[] #[.pointer (some ⟨w1.heap.size + 1, 0, none⟩), .pointer (some ⟨w1.heap.size, 0, none⟩), .pointer (some ⟨w1.heap.size + 1 + 1, 0, none⟩)], x.1.v, undef, undef, undef, undef, undef, undef, undef, undef, undef, undef, undef, undef, undef], defers := [] })
      (fun x a' _ X Y row hs hg hr => by
        obtain ⟨Bx, h9, h1, h2⟩ := hs
        exact ⟨Bx, h9, (hg.block Bx (Array.getElem?_eq_some_iff.1 h1).1 (fun e' => by obtain ⟨ob, h3, h4⟩ := (hr Bx e'.symm).2; rw [h1] at h3; cases h3; cases h4)).trans h1, h2⟩) ?assign ?body ?done ?stop
    case assign =>
      rintro l pre x W K ⟨h1, h3, h4, h5⟩ hK
      simp only [encB]
      gi_wp2
      exact hK _ _ ((KeepsOthers.alloc _ _).from _) ⟨Kx.below (ext_alloc (ext_refl W) _) h4, by simp⟩ ⟨h1.turn (grown_below (ext_alloc (ext_refl W) _)) (by simp), ext_alloc h3 _, by simp; omega, h5⟩ ⟨W.heap.size, h4, World.alloc_heap_new W _, rfl⟩
    case body =>
      rintro l pre x a' W _ _ ⟨h1, h3, h4, h5⟩ ⟨Bx, h9, hx, rfl⟩ hlt
      have c0 : W.cell? ⟨Bx, 0, none⟩ = some (.int .i64 x.1.lo) := by simp [World.cell?, hx]
      have c1 : W.cell? ⟨Bx, 1, none⟩ = some (.int .i64 x.1.hi) := by simp [World.cell?, hx]
      have hpl : pre.length < 8 := by have := HE2.out; omega
      obtain ⟨q0, q1, q2, q3⟩ := sumB_small pre
      obtain ⟨r0, r1, r2, r3⟩ := x.2
      have HS := Lib.hid (sumB_snoc (raw pre) x.1)
      have H1 := Lib.hid h1
      obtain ⟨e0, e1, e2, e3⟩ := h1
      generalize hsum : sumB (raw pre) = S at *
      have hkx : KpE w2.heap.size (fun b => b = w.heap.size + 1) W ((W.setCell ⟨w.heap.size + 1, 0, none⟩ (.int .i64 (S.lo + x.1.lo))).setCell ⟨w.heap.size + 1, 1, none⟩ (.int .i64 (S.hi + x.1.hi))) := ⟨Kx.t (Kx.set (ex := fun b => b = w.heap.size + 1) ⟨w.heap.size + 1, 0, none⟩ _ (.inr rfl)) (Kx.set (ex := fun b => b = w.heap.size + 1) ⟨w.heap.size + 1, 1, none⟩ _ (.inr rfl)), by simp [World.setCell]⟩
      have hko := (KeepsOthers.setCell W ⟨w.heap.size + 1, 0, none⟩ (.int .i64 (S.lo + x.1.lo))).trans (KeepsOthers.setCell _ ⟨w.heap.size + 1, 1, none⟩ (.int .i64 (S.hi + x.1.hi)))
      have HOUT : Hid (ownPostG w2.heap.size (KpE w2.heap.size fun b => b = w.heap.size + 1) (fun pre W => BAt W (w.heap.size + 1) (sumB (raw pre)) ∧ Below w.heap.size w W ∧ w2.heap.size ≤ W.heap.size ∧ pre.length ≤ es.length) (fun _ _ _ => False) (pre ++ [x]) W Exit.normal { tmps := #[], defers := [] } ((W.setCell ⟨w.heap.size + 1, 0, none⟩ (.int .i64 (S.lo + x.1.lo))).setCell ⟨w.heap.size + 1, 1, none⟩ (.int .i64 (S.hi + x.1.hi)))) :=
        ⟨hko.from _, hkx, by rw [raw_snoc, HS.out]; exact H1.out.set (addB S x.1), (h3.setCell (p := ⟨w.heap.size + 1, 0, none⟩) (Nat.le_succ _) _).setCell (p := ⟨w.heap.size + 1, 1, none⟩) (Nat.le_succ _) _, Nat.le_trans h4 hkx.2, by simp; omega⟩
      have hBx : Bx ≠ w.heap.size + 1 := by omega
      clear hkx hko hsum HS
      gi_wp2
      exact HOUT.out
    case done =>
      rintro D ys W hD rfl ⟨h1, h3, h4, h5⟩ hK
      have H1 := Lib.hid h1
      obtain ⟨e0, e1, e2, e3⟩ := h1
      generalize hsum : sumB (raw ys) = S at *
      have hKs : ((W.setCell ⟨w.heap.size + 1, 0, none⟩ (.int .i64 S.lo)).setCell ⟨w.heap.size + 1, 1, none⟩ (.int .i64 S.hi)).heap[D]? = some (.deferred (some [])) := ((KeepsOthers.setCell _ _ _).trans (KeepsOthers.setCell _ _ _)).same D _ hK rfl
      have hbx := (H1.out.set S).turn (grownBy_putObj' _ D (.deferred none)) (fun r e => by cases e; exact ⟨_, hKs, rfl⟩)
      have hc0 := hbx.1
      have hc1 := hbx.2.1
      have hB5 : Below w.heap.size w (((W.setCell ⟨w.heap.size + 1, 0, none⟩ (.int .i64 S.lo)).setCell ⟨w.heap.size + 1, 1, none⟩ (.int .i64 S.hi)).putObj D (.deferred none)) := ((h3.setCell (p := ⟨w.heap.size + 1, 0, none⟩) (Nat.le_succ _) _).setCell (p := ⟨w.heap.size + 1, 1, none⟩) (Nat.le_succ _) _).grown (grownBy_putObj' _ D _) (by simp [World.setCell]; exact h3.size) (fun r e => by cases e; have := HBB2.out.size; omega)
      gi_wp2
      refine ⟨by simp, .inl ⟨_, _, rfl, run_takeDeferred hKs, ?_⟩⟩
      refine ⟨.tuple #[S.v, .int .i64 0], by simp [results, Try.results12, go_sem, hc0, hc1], ?_⟩
      rw [HR.out, ← HE1.out, hsum]
      exact ⟨rfl, hB5⟩
    case stop =>
      rintro D cc pre W _ _ h _
      exact h.elim
  · have hz' : (asked k ls hold != 0) = true := by simp [hz]
    have HR : Hid (total k ls hold = (⟨0, 0⟩, asked k ls hold)) := by simp [Hid, total, hz]
    clear hz
    obtain ⟨hcc, hff⟩ := bcell B1
    have hb1 : Below w.heap.size w w1 := ext_trans (ext_alloc (ext_alloc (ext_refl w) _) _) B1
    have s1 : w.heap.size + 1 < w1.heap.size := by have := B1.size; simp at this; omega
    have bO : BAt w1 (w.heap.size + 1) ⟨0, 0⟩ := ⟨by rw [hcc _ _ (by simp)]; simp, by rw [hcc _ _ (by simp)]; simp, by rw [hff _ _ (by simp)]; simp, by rw [hff _ _ (by simp)]; simp⟩
    obtain ⟨d0, d1, g0, g1⟩ := bO
    clear hcc hff
    gi_wp2_with fail
    refine ⟨.tuple #[Bd.v ⟨0, 0⟩, .int .i64 (asked k ls hold)], by simp [results, Try.results12, go_sem, *], ?_⟩
    rw [HR.out]
    exact ⟨rfl, (hb1.setCell (p := ⟨w.heap.size + 1, 0, none⟩) (Nat.le_succ _) _).setCell (p := ⟨w.heap.size + 1, 1, none⟩) (Nat.le_succ _) _⟩
end Go.Proofs.Ytlnfjdbdgcafbaa
