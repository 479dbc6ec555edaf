/- Contracts: what an airline has. -/
import Derived.Test.YtafglcalimcdcaaK
import Derived.Test.YtafglcalimcdcaaD
import Derived.Test.YtafglcalimcdcaaApp3
set_option linter.unusedSimpArgs false
set_option linter.unusedVariables false
namespace Go.Proofs.Ytafglcalimcdcaa
open Go.RowKit Go.Shelf
attribute [local go_sem] Oper.semAt_some
theorem cell_turn {w w' : World} {row : Option Nat} {b o : Nat} {v : Value} (h : w.cell? ⟨b, o, none⟩ = some v) (hg : w.grownBy w' row) (hr : ∀ r, row = some r → ∃ ob : Obj, w.heap[r]? = some ob ∧ ob.isCells = false) : w'.cell? ⟨b, o, none⟩ = some v ∧ w'.frozen? ⟨b, o, none⟩ = w.frozen? ⟨b, o, none⟩ := by
  have hlt : b < w.heap.size := by
    simp only [World.cell?] at h
    split at h
    · rename_i hh; exact (Array.getElem?_eq_some_iff.1 hh).1
    · cases h
  have hne : some b ≠ row := by
    intro e'
    obtain ⟨ob, h1, h2⟩ := hr b e'.symm
    simp only [World.cell?, h1] at h
    cases ob <;> simp_all [Obj.isCells]
  have hb := hg.block b hlt hne
  exact ⟨(World.cell?_of_block (w := w) (a := ⟨b, o, none⟩) hb).trans h, World.frozen?_of_block (w := w) (a := ⟨b, o, none⟩) hb⟩
/-- A value in a box: one cell that may be written. -/
def IAt (W : World) (b : Nat) (x : Value) : Prop := W.cell? ⟨b, 0, none⟩ = some x ∧ W.frozen? ⟨b, 0, none⟩ = false
theorem IAt.turn {w w' : World} {row : Option Nat} {b : Nat} {x : Value} (h : IAt w b x) (hg : w.grownBy w' row) (hr : ∀ r, row = some r → ∃ ob : Obj, w.heap[r]? = some ob ∧ ob.isCells = false) : IAt w' b x :=
  ⟨(cell_turn h.1 hg hr).1, (cell_turn h.1 hg hr).2.trans h.2⟩
theorem IAt.set {w : World} {b : Nat} {x : Value} (h : IAt w b x) (y : Value) : IAt (w.setCell ⟨b, 0, none⟩ y) b y :=
  ⟨World.cell?_setCell_same' _ _ _ (by rw [h.1]; rfl), by simp [World.frozen?_setCell, h.2]⟩
theorem IAt.other {w : World} {b : Nat} {x : Value} (h : IAt w b x) (p : Addr) (y : Value) (hp : p.block ≠ b) : IAt (w.setCell p y) b x :=
  ⟨by rw [World.cell?_setCell_other _ _ _ _ (by intro e; exact hp (by rw [e]))]; exact h.1, by simp [World.frozen?_setCell, h.2]⟩
def sumW {l : List Cr} {al now : Int} (pre : List (WC l al now)) : Int := (pre.map (fun p => p.1.2.m)).sum
theorem sumW_snoc {l : List Cr} {al now : Int} (pre : List (WC l al now)) (x : WC l al now) : sumW (pre ++ [x]) = sumW pre + x.1.2.m := by simp [sumW]
theorem bal_snoc (al now : Int) : ∀ (l : List Cr) (x : Cr), balL (l ++ [x]) al now = balL l al now + (if hasC al now x then x.m else 0)
  | [], x => by simp [balL]
  | y :: r, x => by simp only [List.cons_append, balL, bal_snoc al now r x]; omega
theorem sumW_hits {l : List Cr} {al now : Int} : ∀ q, q ≤ l.length → sumW (hitsW l al now q) = balL (l.take q) al now
  | 0, _ => rfl
  | q + 1, h => by
    have ih := sumW_hits (l := l) (al := al) (now := now) q (by omega)
    have hx : l[q]? = some l[q] := List.getElem?_eq_getElem (by omega)
    rw [take_next hx, bal_snoc]
    by_cases hc : hasC al now l[q] = true
    · rw [hits_yes hx hc, sumW_snoc, ih, if_pos hc]
    · rw [hits_no hx hc, ih, if_neg hc]; omega
/-- Credits that are small enough to be added up. -/
def SmC (l : List Cr) : Prop := ∀ c ∈ l, -1099511627776 ≤ c.m ∧ c.m ≤ 1099511627776
theorem sumW_small {l : List Cr} {al now : Int} (hs : SmC l) : ∀ pre : List (WC l al now), -1099511627776 * (pre.length : Int) ≤ sumW pre ∧ sumW pre ≤ 1099511627776 * (pre.length : Int)
  | [] => by simp [sumW]
  | x :: r => by
    have ih := sumW_small hs r
    have hx := hs x.1.2 (List.mem_of_getElem? x.2.1)
    have e : sumW (x :: r) = x.1.2.m + sumW r := by simp [sumW]
    rw [e]; simp only [List.length_cons]; omega
set_option maxRecDepth 100000 in
set_option maxHeartbeats 3200000 in
theorem balance_any (A : Option Addr) (c : Nat) (ls : List Cr) (al now : Int) (w : World) (ha : Slc w Cr.cells 3 A ls) (hn : ls.length ≤ 1000) (hsm : SmC ls) :
    Calls Try.prog 15 #[.slice A ls.length c, .int .i64 al, .int .i64 now] w (RetE w (balL ls al now)) := by
  have HSM := Lib.hid hsm
  have HE1 := Lib.hid (show sumW (hitsW ls al now ls.length) = balL ls al now by rw [sumW_hits ls.length (Nat.le_refl _), List.take_length])
  have HE2 := Lib.hid (hits_len (l := ls) (al := al) (now := now) ls.length)
  clear hsm
  refine (callsIn_wide (n := 5)).1 ?_
  refine callsIn_of_wp_marks Try.func15 rfl trivial ?_ rfl
  simp only [Try.ntmps15, List.size_toArray, List.length_cons, List.length_nil, Nat.reduceAdd, Nat.reduceSub, Array.replicate_succ, Array.replicate_zero, List.push_toArray, List.append_toArray, List.nil_append, List.cons_append]
  gi_wp2_with fail
  refine ⟨trivial, (callsIn_wide.2 (of_any A c ls.length al now _)).mono ?_⟩
  rintro e w2 ⟨rfl, rfl⟩
  gi_wp2_with fail
  obtain ⟨w2, hw2⟩ : ∃ w2, ((((w.alloc (.cells #[.int .i64 0] 3)).alloc (.cells #[.slice A ls.length c] 22)).alloc (.cells #[.int .i64 al] 3)).alloc (.cells #[.int .i64 now] 3)) = w2 := ⟨_, rfl⟩
  have hz2 : w2.heap.size = w.heap.size + 1 + 1 + 1 + 1 := by rw [← hw2]; simp
  have hb2 : Below w.heap.size w w2 := by rw [← hw2]; exact ext_alloc (ext_alloc (ext_alloc (ext_alloc (ext_refl w) _) _) _) _
  have b0 : Blk w2 w.heap.size [.int .i64 0] := by rw [← hw2]; exact (((Blk.newH w [.int .i64 0] 3 w.heap.size rfl).alloc _).alloc _).alloc _
  have b1 : Blk w2 (w.heap.size + 1) [.slice A ls.length c] := by rw [← hw2]; exact ((Blk.newH (w.alloc (.cells #[.int .i64 0] 3)) [.slice A ls.length c] 22 (w.heap.size + 1) (by simp)).alloc _).alloc _
  have b2 : Blk w2 (w.heap.size + 1 + 1) [.int .i64 al] := by rw [← hw2]; exact (Blk.newH ((w.alloc (.cells #[.int .i64 0] 3)).alloc (.cells #[.slice A ls.length c] 22)) [.int .i64 al] 3 (w.heap.size + 1 + 1) (by simp)).alloc _
  have b3 : Blk w2 (w.heap.size + 1 + 1 + 1) [.int .i64 now] := by rw [← hw2]; exact Blk.newH (((w.alloc (.cells #[.int .i64 0] 3)).alloc (.cells #[.slice A ls.length c] 22)).alloc (.cells #[.int .i64 al] 3)) [.int .i64 now] 3 (w.heap.size + 1 + 1 + 1) (by simp)
  have bO : IAt w2 w.heap.size (.int .i64 0) := ⟨b0.c 0 _ rfl, b0.f 0⟩
  have hC : Caps w2 w2.heap.size (fun b => b = w.heap.size) (w.heap.size + 1) (w.heap.size + 1 + 1) (w.heap.size + 1 + 1 + 1) A c ls al now := by
    refine ⟨by omega, by omega, by omega, by omega, by omega, by omega, b1.c 0 _ rfl, b2.c 0 _ rfl, b3.c 0 _ rfl, ha.ext hb2, ?_⟩
    rintro h0 b o st rfl
    obtain ⟨x, b', o', _, e, hlt, _⟩ := ha.at_ h0
    cases e
    exact ⟨by omega, by omega⟩
  rw [hw2]
  have HBB2 := Lib.hid hb2
  have HCC := Lib.hid hC
  have HBO2 := Lib.hid bO
  have hzz : w.heap.size < w2.heap.size := by omega
  clear hw2 hz2 hb2 hC bO b0 b1 b2 b3
  refine wpIn_rangeFunc_ownH (F := Fence.wide) rfl (by decide) (gf := 32) (lb := #[.pointer (some ⟨w.heap.size + 1, 0, none⟩), .pointer (some ⟨w.heap.size + 1 + 1, 0, none⟩), .pointer (some ⟨w.heap.size + 1 + 1 + 1, 0, none⟩)]) rfl trivial (enters_of Try.func32 (by kernel_rfl) rfl)
    (of_stops 4 (by decide) w2.heap.size (fun b => b = w.heap.size) (w.heap.size + 1) (w.heap.size + 1 + 1) (w.heap.size + 1 + 1 + 1) A c ls al now hn w2 (Nat.le_refl _) HCC.out) KpE.t (KpE.b (Nat.le_refl _)) (Below.refl _ _) (fun _ => rfl)
    (fun pre W => IAt W w.heap.size (.int .i64 (sumW pre)) ∧ Below w.heap.size w W ∧ w2.heap.size ≤ W.heap.size ∧ pre.length ≤ (hitsW ls al now ls.length).length)
    (fun _ _ _ => False)
    (fun s X Y row hs hg hr => by
      obtain ⟨h1, h3, h4, h5⟩ := hs
      exact ⟨h1.turn hg (fun r e => (hr r e).2), h3.grown hg (Nat.le_trans HBB2.out.size h4) (fun r e => Nat.le_trans HBB2.out.size (hr r e).1), Nat.le_trans h4 hg.size, h5⟩)
    (fun _ _ _ _ _ hs _ _ => hs)
    ⟨HBO2.out, HBB2.out, Nat.le_refl _, Nat.zero_le _⟩
    (fun x a' W => ∃ Bx, w2.heap.size ≤ Bx ∧ W.heap[Bx]? = some (.cells #[.int .i64 x.1.2.a, .int .i64 x.1.2.m, .int .i64 x.1.2.u] 24 (0, 0)) ∧ a' = { tmps := #[.slice A ls.length c, .int .i64 al, .int .i64 now, undef, undef, undef, .pointer (some ⟨w.heap.size, 0, none⟩), undef, .pointer (some ⟨Bx, 0, none⟩), .slice A ls.length c, .int .i64 al, .int .i64 now, .func (.func 32) #[] #[.pointer (some ⟨w.heap.size + 1, 0, none⟩), .pointer (some ⟨w.heap.size + 1 + 1, 0, none⟩), .pointer (some ⟨w.heap.size + 1 + 1 + 1, 0, none⟩)], .int .i64 x.1.1, x.1.2.v, undef, undef, undef, undef, undef], defers := [] })
    (fun x a' _ X Y row hs hg hr => by
      obtain ⟨Bx, h9, h1, h2⟩ := hs
      exact ⟨Bx, h9, (hg.block Bx (Array.getElem?_eq_some_iff.1 h1).1 (fun e' => by obtain ⟨ob, h3, h4⟩ := (hr Bx e'.symm).2; rw [h1] at h3; cases h3; cases h4)).trans h1, h2⟩) ?assign ?body ?done ?stop
  case assign =>
    rintro l pre x W K ⟨h1, h3, h4, h5⟩ hK
    simp only [encC]
    gi_wp2
    exact hK _ _ ((KeepsOthers.alloc _ _).from _) ⟨Kx.below (ext_alloc (ext_refl W) _) h4, by simp⟩ ⟨h1.turn (grown_below (ext_alloc (ext_refl W) _)) (by simp), ext_alloc h3 _, by simp; omega, h5⟩ ⟨W.heap.size, h4, World.alloc_heap_new W _, rfl⟩
  case body =>
    rintro l pre x a' W _ _ ⟨h1, h3, h4, h5⟩ ⟨Bx, h9, hx, rfl⟩ hlt
    have c0 : W.cell? ⟨Bx, 0, none⟩ = some (.int .i64 x.1.2.a) := by simp [World.cell?, hx]
    have c1 : W.cell? ⟨Bx, 1, none⟩ = some (.int .i64 x.1.2.m) := by simp [World.cell?, hx]
    have hpl : pre.length < 1000 := by have := HE2.out; omega
    obtain ⟨q0, q1⟩ := sumW_small HSM.out pre
    obtain ⟨r0, r1⟩ := HSM.out x.1.2 (List.mem_of_getElem? x.2.1)
    have HS := Lib.hid (sumW_snoc pre x)
    have H1 := Lib.hid h1
    obtain ⟨e0, e1⟩ := h1
    generalize hsum : sumW pre = S at *
    have hwr : IntKind.i64.wrap (S + x.1.2.m) = S + x.1.2.m := IntWalk.i64_in _ (by omega)
    have hkx : KpE w2.heap.size (fun b => b = w.heap.size) W (W.setCell ⟨w.heap.size, 0, none⟩ (.int .i64 (S + x.1.2.m))) := ⟨Kx.set (ex := fun b => b = w.heap.size) ⟨w.heap.size, 0, none⟩ _ (.inr rfl), by simp [World.setCell]⟩
    have hko := KeepsOthers.setCell W ⟨w.heap.size, 0, none⟩ (.int .i64 (S + x.1.2.m))
    have HOUT : Hid (ownPostG w2.heap.size (KpE w2.heap.size fun b => b = w.heap.size) (fun pre W => IAt W w.heap.size (.int .i64 (sumW pre)) ∧ Below w.heap.size w W ∧ w2.heap.size ≤ W.heap.size ∧ pre.length ≤ (hitsW ls al now ls.length).length) (fun _ _ _ => False) (pre ++ [x]) W Exit.normal { tmps := #[], defers := [] } (W.setCell ⟨w.heap.size, 0, none⟩ (.int .i64 (S + x.1.2.m)))) :=
      ⟨hko.from _, hkx, by rw [HS.out]; exact H1.out.set _, h3.setCell (p := ⟨w.heap.size, 0, none⟩) (Nat.le_refl _) _, Nat.le_trans h4 hkx.2, by simp; omega⟩
    have hBx : Bx ≠ w.heap.size := by omega
    clear hkx hko hsum HS
    gi_wp2
    exact HOUT.out
  case done =>
    rintro D ys W hD rfl ⟨h1, h3, h4, h5⟩ hK
    rw [HE1.out] at h1
    have H1 := Lib.hid h1
    obtain ⟨e0, e1⟩ := h1
    have hKs : (W.setCell ⟨w.heap.size, 0, none⟩ (.int .i64 (balL ls al now))).heap[D]? = some (.deferred (some [])) := (KeepsOthers.setCell _ _ _).same D _ hK rfl
    have hbx := (H1.out.set (.int .i64 (balL ls al now))).turn (grownBy_putObj' _ D (.deferred none)) (fun r e => by cases e; exact ⟨_, hKs, rfl⟩)
    have hc0 := hbx.1
    have hB5 : Below w.heap.size w ((W.setCell ⟨w.heap.size, 0, none⟩ (.int .i64 (balL ls al now))).putObj D (.deferred none)) := (h3.setCell (p := ⟨w.heap.size, 0, none⟩) (Nat.le_refl _) _).grown (grownBy_putObj' _ D _) (by simp [World.setCell]; exact h3.size) (fun r e => by cases e; have := HBB2.out.size; omega)
    gi_wp2
    refine ⟨by simp, .inl ⟨_, _, rfl, run_takeDeferred hKs, ?_⟩⟩
    refine ⟨.int .i64 (balL ls al now), by simp [results, Try.results15, go_sem, hc0], ?_⟩
    exact ⟨rfl, hB5⟩
  case stop =>
    rintro D cc pre W _ _ h _
    exact h.elim
theorem balance_at {A : Option Addr} {c n : Nat} {l : List Cr} {al now : Int} {w : World} (r : Int) (hr : balL l al now = r) (hl : n = l.length) (ha : Slc w Cr.cells 3 A l) (hn : l.length ≤ 1000) (hs : SmC l) : Calls Try.prog 15 #[.slice A n c, .int .i64 al, .int .i64 now] w (RetE w r) := by
  subst hr hl; exact balance_any A c l al now w ha hn hs
end Go.Proofs.Ytafglcalimcdcaa
