/- What the law of the cut asks, in plain Lean; a copy of a tree with a cut more. -/
import Derived.Test.YtemdebheinbolaaPk3
import Derived.Test.YtemdebheinbolaaOSet
namespace Go.Proofs.Ytemdebheinbolaa
open Go.RowKit
theorem lessR_e {l : List Nd} {leaf : Int} {a : Bool} {ix m : Int} (hv : vld l = true) : lessR l leaf a ix m = if leafB l leaf then (lessN l leaf a ix m, 0) else (0, 180) := by
  simp [lessR, hv]
theorem add_enc {nd : Nd} {A : Option Addr} {c : Nat} {x : Cut} : (⟨nd.p, nd.f, ⟨A, c, nd.cuts.l ++ [x]⟩⟩ : Nd).cells = nd.cells.set 2 (.slice A (nd.cuts.l.length + 1) c) := by
  simp [Nd.cells]
theorem addCut_set {l : List Nd} {i : Nat} {A : Option Addr} {c : Nat} {x : Cut} {nd : Nd} (h : l[i]? = some nd) : addCut l i A c x = l.set i ⟨nd.p, nd.f, ⟨A, c, nd.cuts.l ++ [x]⟩⟩ := by
  simp [addCut, h]
theorem addCut_mem {l : List Nd} {i : Nat} {A : Option Addr} {c : Nat} {x : Cut} {nd : Nd} (h : l[i]? = some nd) {n : Nd} (hn : n ∈ addCut l i A c x) : n ∈ l ∨ n = ⟨nd.p, nd.f, ⟨A, c, nd.cuts.l ++ [x]⟩⟩ := by
  rw [addCut_set h] at hn
  rcases List.mem_or_eq_of_mem_set hn with h | h
  · exact .inl h
  · exact .inr h
theorem info40 : (Try.prog.info? 40).map (fun i => (i.zero, i.size, i.bytes)) = some (some (.agg #[.int .i64 0, .int .i64 0, .slice none 0 0]), 3, 40) := by kernel_rfl
theorem I22 : EInfo Try.prog 22 40 Nd.cells 3 40 := by
  obtain ⟨i0, hi, hz0, hz1, hz2⟩ := info_parts info40
  exact ⟨Try.underlying22, ⟨i0, _, hi, hz0, hz1, hz2, rfl⟩, by decide, fun _ => rfl, fun x => by simp [Nd.cells, Value.oneCell']⟩
theorem info47 : (Try.prog.info? 47).map (fun i => (i.zero, i.size, i.bytes)) = some (some (.agg #[.bool false, .int .i64 0, .int .i64 0, .int .i64 0, .int .i64 0]), 5, 40) := by kernel_rfl
theorem I38 : EInfo Try.prog 38 47 Cut.cells 5 40 := by
  obtain ⟨i0, hi, hz0, hz1, hz2⟩ := info_parts info47
  exact ⟨Try.underlying38, ⟨i0, _, hi, hz0, hz1, hz2, rfl⟩, by decide, fun _ => rfl, fun x => by simp [Cut.cells, Value.oneCell']⟩
/-- A cut in a block of its own. -/
structure BoxC (w : World) (b : Nat) (x : Cut) : Prop where
  lt : b < w.heap.size
  a : w.cell? ⟨b, 0, none⟩ = some (.bool x.air)
  i : w.cell? ⟨b, 1, none⟩ = some (.int .i64 x.ix)
  f : w.cell? ⟨b, 2, none⟩ = some (.int .i64 x.f)
  t : w.cell? ⟨b, 3, none⟩ = some (.int .i64 x.t)
  l : w.cell? ⟨b, 4, none⟩ = some (.int .i64 x.less)
theorem BoxC.new (w : World) (x : Cut) : BoxC (w.alloc (.cells #[.bool x.air, .int .i64 x.ix, .int .i64 x.f, .int .i64 x.t, .int .i64 x.less] 47)) w.heap.size x := ⟨by simp, by simp, by simp, by simp, by simp, by simp⟩
theorem BoxC.ext {w w' : World} {b : Nat} {x : Cut} (h : BoxC w b x) (hb : Below w.heap.size w w') : BoxC w' b x :=
  ⟨Nat.lt_of_lt_of_le h.lt hb.size, (hb.cell (p := ⟨b, 0, none⟩) h.lt).trans h.a, (hb.cell (p := ⟨b, 1, none⟩) h.lt).trans h.i, (hb.cell (p := ⟨b, 2, none⟩) h.lt).trans h.f, (hb.cell (p := ⟨b, 3, none⟩) h.lt).trans h.t, (hb.cell (p := ⟨b, 4, none⟩) h.lt).trans h.l⟩
/-- The copy with a cut more, as it stands in memory. -/
theorem added_ok {w0 w : World} {l : List Nd} {A : Option Addr} {nd : Nd} {i g cp n : Nat} {A9 : Option Addr} {c9 : Nat} {x : Cut} (hl : TOk w0 A l) (hx : l[i]? = some nd) (hB : Below w0.heap.size w0 w)
    (hO : Own w w0.heap.size 40 Nd.cells 3 (.slice (some ⟨g, 0, none⟩) n cp) l) (hg : w0.heap.size ≤ g) (hC : Slc w Cut.cells 5 A9 (nd.cuts.l ++ [x])) (hA : ∀ b o s, A9 = some ⟨b, o, s⟩ → b ≠ g) (h64 : nd.cuts.l.length ≤ 64) :
    TOk (w.setCell ⟨g, i * 3 + 2, none⟩ (.slice A9 (nd.cuts.l.length + 1) c9)) (some ⟨g, 0, none⟩) (addCut l i A9 c9 x) := by
  have hset := Own.set_ (enc := Nd.cells) (sz := 3) (fun _ => rfl) hO (k := i) (r := 2) (x := nd) (y := ⟨nd.p, nd.f, ⟨A9, c9, nd.cuts.l ++ [x]⟩⟩) (v := .slice A9 (nd.cuts.l.length + 1) c9) hx (by decide) add_enc
  rw [← addCut_set hx] at hset
  have hB2 : Below w0.heap.size w0 (w.setCell ⟨g, i * 3 + 2, none⟩ (.slice A9 (nd.cuts.l.length + 1) c9)) := hB.setCell (p := ⟨g, i * 3 + 2, none⟩) hg _
  refine ⟨hset.slc (fun _ => rfl) (by decide), fun n hn => ?_, by rw [add_len]; exact hl.len, fun n hn => ?_⟩
  · rcases addCut_mem hx hn with h | rfl
    · exact (hl.ct n h).ext hB2
    · intro j y hy
      obtain ⟨b, o, e, hlt, hc⟩ := hC j y hy
      refine ⟨b, o, e, by simpa [World.setCell] using hlt, fun q v hv => ?_⟩
      rw [World.cell?_setCell_other _ _ _ _ (by intro e2; injection e2 with e2 _; exact hA b o none e e2.symm)]
      exact hc q v hv
  · rcases addCut_mem hx hn with h | rfl
    · exact hl.cl n h
    · simp [maxLen]; omega
end Go.Proofs.Ytemdebheinbolaa
