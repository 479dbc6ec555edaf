/- A struct of eight cells stored. No program in sight. -/
import Derived.Test.YtmgpbjpohbpgpaaApp3
set_option linter.unusedSimpArgs false
set_option linter.unusedVariables false
namespace Go.Proofs.Ytmgpbjpohbpgpaa
open Go.RowKit
def set8 (w : World) (b : Nat) (v0 v1 v2 v3 v4 v5 v6 v7 : Value) : World := (((((((w.setCell ⟨b, 0, none⟩ v0).setCell ⟨b, 1, none⟩ v1).setCell ⟨b, 2, none⟩ v2).setCell ⟨b, 3, none⟩ v3).setCell ⟨b, 4, none⟩ v4).setCell ⟨b, 5, none⟩ v5).setCell ⟨b, 6, none⟩ v6).setCell ⟨b, 7, none⟩ v7
theorem Blk.put8 {w : World} {b : Nat} {a0 a1 a2 a3 a4 a5 a6 a7 : Value} (h : Blk w b [a0, a1, a2, a3, a4, a5, a6, a7]) (v0 v1 v2 v3 v4 v5 v6 v7 : Value) : Blk (set8 w b v0 v1 v2 v3 v4 v5 v6 v7) b [v0, v1, v2, v3, v4, v5, v6, v7] :=
  (((((((h.set (j := 0) (by simp) v0).set (j := 1) (by simp) v1).set (j := 2) (by simp) v2).set (j := 3) (by simp) v3).set (j := 4) (by simp) v4).set (j := 5) (by simp) v5).set (j := 6) (by simp) v6).set (j := 7) (by simp) v7
theorem ext_set8 {a b : World} (h : Below a.heap.size a b) (c : Nat) (v0 v1 v2 v3 v4 v5 v6 v7 : Value) (hc : a.heap.size ≤ c) : Below a.heap.size a (set8 b c v0 v1 v2 v3 v4 v5 v6 v7) :=
  below_set (below_set (below_set (below_set (below_set (below_set (below_set (below_set h ⟨c, 0, none⟩ v0 hc) ⟨c, 1, none⟩ v1 hc) ⟨c, 2, none⟩ v2 hc) ⟨c, 3, none⟩ v3 hc) ⟨c, 4, none⟩ v4 hc) ⟨c, 5, none⟩ v5 hc) ⟨c, 6, none⟩ v6 hc) ⟨c, 7, none⟩ v7 hc
theorem Slc.far8 {α : Type} {w : World} {enc : α → List Value} {sz : Nat} {l : List α} {A : Option Addr} (h : Slc w enc sz A l) {b : Nat} (v0 v1 v2 v3 v4 v5 v6 v7 : Value) (hp : Go.Proofs.Ytmgpbjpohbpgpaa.rowOff A l b) : Slc (set8 w b v0 v1 v2 v3 v4 v5 v6 v7) enc sz A l :=
  (((((((h.far (p := ⟨b, 0, none⟩) hp).far (p := ⟨b, 1, none⟩) hp).far (p := ⟨b, 2, none⟩) hp).far (p := ⟨b, 3, none⟩) hp).far (p := ⟨b, 4, none⟩) hp).far (p := ⟨b, 5, none⟩) hp).far (p := ⟨b, 6, none⟩) hp).far (p := ⟨b, 7, none⟩) hp
theorem set8_size (w : World) (b : Nat) (v0 v1 v2 v3 v4 v5 v6 v7 : Value) : (set8 w b v0 v1 v2 v3 v4 v5 v6 v7).heap.size = w.heap.size := by simp [set8]
end Go.Proofs.Ytmgpbjpohbpgpaa
