/-
  No cell of these rows narrows 'for every input' (looked for: loops, veiled, ifaces, maps, wideKeys, modest, calm, conditions, laid).
  DERIVED. THE GIVEN ROWS OF THIS SEAT. 5 by the template 'for every input the law returns true; each argument reads behind the call as it read before'; 0 by the template 'total and deterministic' (their statements: YtilocjliplmmpaaTotals.lean).
  GIVEN WITH THE SEED: the statements are not yours to turn. If you find one false, say at which input.
  Laid BY PROGRAM, IN A SANDBOX (cutbox-rows.mjs): the forced cells as the released guide's own fill.sh prints them over the translation fd23766a588aee6f… (all of the seat's roots in one cut). By AI agents, Wed Nov 11 2026. No macro, syntax, notation, axiom, sorry.
-/
import Derived.Test.YtilocjliplmmpaaChecked
import GoSem.Claim
import GoSem.ClaimJoined
import GoSem.ClaimMapViews
import Derived.JoinedTies
import Derived.KernelRfl
namespace Go.Proofs.Ytilocjliplmmpaa
/- THE CELL 'sum', in the pinned program and in every row, IS THE sha256 OF THE DUMP (.gsa) THAT YtilocjliplmmpaaProg.lean LOADS. Nothing in Lean hashes anything: it is a label: what it is worth is what the hold of that sum in a sandbox is worth. -/
noncomputable def Try.pinned : Pinned := { name := "ytilocjliplmmpaa", sum := "fd23766a588aee6f9bad6bfebaf44eb7aaacb3eeaa0baa5ab8c42a9ef7103df9", checked := Try.checked }
namespace Rows
def none {H : Type} : Left H := { results := [], args := [] }

/-- 'overflightlaw19.CapacitySectorSpec': WHATEVER THE INPUT: true; the input reads as it did. -/
def capacitySectorSpecSpec : ChangeSpec := { name := "capacitySectorSpec", fn := fun _ => fun
  | [d1, d2, d3, d4] => { results := [.lit (.bool true)], args := [d1, d2, d3, d4] }
  | _ => none }
def capacitySectorSpecRow : OpenClaim := { program := "ytilocjliplmmpaa", sum := "fd23766a588aee6f9bad6bfebaf44eb7aaacb3eeaa0baa5ab8c42a9ef7103df9", func := "overflight/overflightlaw19.CapacitySectorSpec", spec := "capacitySectorSpec", inPlace := ["slices.overlaps[overflight/api.Change]"], unfollowed := true, recurses := true, apart := false }
def CapacitySectorSpecSaid : Prop := capacitySectorSpecRow.holds Try.pinned (OpenSpec.ofChange capacitySectorSpecSpec)

/-- ITS FALSE NEIGHBOUR: 'it returns false'. Refute it at one input. -/
def capacitySectorSpecWrong : ChangeSpec := { name := "capacitySectorSpec", fn := fun _ => fun
  | [d1, d2, d3, d4] => { results := [.lit (.bool false)], args := [d1, d2, d3, d4] }
  | _ => none }
def CapacitySectorSpecWrongFalsely : Prop := capacitySectorSpecRow.holds Try.pinned (OpenSpec.ofChange capacitySectorSpecWrong)

/-- 'overflightlaw19.CapacityAdded': WHATEVER THE INPUT: true; the input reads as it did. -/
def capacityAddedSpec : ChangeSpec := { name := "capacityAdded", fn := fun _ => fun
  | [d1, d2, d3, d4] => { results := [.lit (.bool true)], args := [d1, d2, d3, d4] }
  | _ => none }
def capacityAddedRow : OpenClaim := { program := "ytilocjliplmmpaa", sum := "fd23766a588aee6f9bad6bfebaf44eb7aaacb3eeaa0baa5ab8c42a9ef7103df9", func := "overflight/overflightlaw19.CapacityAdded", spec := "capacityAdded", inPlace := ["slices.overlaps[overflight/api.Change]"], unfollowed := true, recurses := true, apart := false }
def CapacityAddedSaid : Prop := capacityAddedRow.holds Try.pinned (OpenSpec.ofChange capacityAddedSpec)

/-- ITS FALSE NEIGHBOUR: 'it returns false'. Refute it at one input. -/
def capacityAddedWrong : ChangeSpec := { name := "capacityAdded", fn := fun _ => fun
  | [d1, d2, d3, d4] => { results := [.lit (.bool false)], args := [d1, d2, d3, d4] }
  | _ => none }
def CapacityAddedWrongFalsely : Prop := capacityAddedRow.holds Try.pinned (OpenSpec.ofChange capacityAddedWrong)

/-- 'overflightlaw19.CapacityDivides': WHATEVER THE INPUT: true; the input reads as it did. -/
def capacityDividesSpec : ChangeSpec := { name := "capacityDivides", fn := fun _ => fun
  | [d1, d2, d3] => { results := [.lit (.bool true)], args := [d1, d2, d3] }
  | _ => none }
def capacityDividesRow : OpenClaim := { program := "ytilocjliplmmpaa", sum := "fd23766a588aee6f9bad6bfebaf44eb7aaacb3eeaa0baa5ab8c42a9ef7103df9", func := "overflight/overflightlaw19.CapacityDivides", spec := "capacityDivides", inPlace := ["slices.overlaps[overflight/api.Change]"], unfollowed := true, recurses := true, apart := false }
def CapacityDividesSaid : Prop := capacityDividesRow.holds Try.pinned (OpenSpec.ofChange capacityDividesSpec)

/-- ITS FALSE NEIGHBOUR: 'it returns false'. Refute it at one input. -/
def capacityDividesWrong : ChangeSpec := { name := "capacityDivides", fn := fun _ => fun
  | [d1, d2, d3] => { results := [.lit (.bool false)], args := [d1, d2, d3] }
  | _ => none }
def CapacityDividesWrongFalsely : Prop := capacityDividesRow.holds Try.pinned (OpenSpec.ofChange capacityDividesWrong)

/-- 'overflightlaw19.CapacityLess': WHATEVER THE INPUT: true; the input reads as it did. -/
def capacityLessSpec : ChangeSpec := { name := "capacityLess", fn := fun _ => fun
  | [d1, d2, d3, d4, d5, d6, d7] => { results := [.lit (.bool true)], args := [d1, d2, d3, d4, d5, d6, d7] }
  | _ => none }
def capacityLessRow : OpenClaim := { program := "ytilocjliplmmpaa", sum := "fd23766a588aee6f9bad6bfebaf44eb7aaacb3eeaa0baa5ab8c42a9ef7103df9", func := "overflight/overflightlaw19.CapacityLess", spec := "capacityLess", inPlace := ["slices.overlaps[overflight/api.Change]"], unfollowed := true, recurses := true, apart := false }
def CapacityLessSaid : Prop := capacityLessRow.holds Try.pinned (OpenSpec.ofChange capacityLessSpec)

/-- ITS FALSE NEIGHBOUR: 'it returns false'. Refute it at one input. -/
def capacityLessWrong : ChangeSpec := { name := "capacityLess", fn := fun _ => fun
  | [d1, d2, d3, d4, d5, d6, d7] => { results := [.lit (.bool false)], args := [d1, d2, d3, d4, d5, d6, d7] }
  | _ => none }
def CapacityLessWrongFalsely : Prop := capacityLessRow.holds Try.pinned (OpenSpec.ofChange capacityLessWrong)

/-- 'overflightlaw19.CapacityCuts': WHATEVER THE INPUT: true; the input reads as it did. -/
def capacityCutsSpec : ChangeSpec := { name := "capacityCuts", fn := fun _ => fun
  | [d1, d2, d3, d4, d5, d6] => { results := [.lit (.bool true)], args := [d1, d2, d3, d4, d5, d6] }
  | _ => none }
def capacityCutsRow : OpenClaim := { program := "ytilocjliplmmpaa", sum := "fd23766a588aee6f9bad6bfebaf44eb7aaacb3eeaa0baa5ab8c42a9ef7103df9", func := "overflight/overflightlaw19.CapacityCuts", spec := "capacityCuts", inPlace := ["slices.overlaps[overflight/api.Change]"], unfollowed := true, recurses := true, apart := false }
def CapacityCutsSaid : Prop := capacityCutsRow.holds Try.pinned (OpenSpec.ofChange capacityCutsSpec)

/-- ITS FALSE NEIGHBOUR: 'it returns false'. Refute it at one input. -/
def capacityCutsWrong : ChangeSpec := { name := "capacityCuts", fn := fun _ => fun
  | [d1, d2, d3, d4, d5, d6] => { results := [.lit (.bool false)], args := [d1, d2, d3, d4, d5, d6] }
  | _ => none }
def CapacityCutsWrongFalsely : Prop := capacityCutsRow.holds Try.pinned (OpenSpec.ofChange capacityCutsWrong)

/- THE SECOND FORM. 'bulk': how many values and letters a reading holds, each counted each time it is reached (what is shared counts as often as it is met; a slice's spare places count too). A statement '..UptoSaid' is the law's where the arguments, and the package variables that the reading takes, are together of bulk at most 1048576: NARROWER than '..Said'. Prove '..Said' where nothing that the law and all that it calls make is longer than what came in: it says more and counts as full. Else prove '..UptoSaid'. A law counts once. -/
mutual
def uptoBulk {H : Type} : DataW H → Nat
  | .lit (.string bytes) => bytes.length + 1
  | .lit _ => 1
  | .nil => 1
  | .ptr d => uptoBulk d + 1
  | .slice elems spare => uptoBulkAll elems + uptoBulkAll spare + 1
  | .agg parts => uptoBulkAll parts + 1
  | .iface _ d => uptoBulk d + 1
  | .map entries => uptoBulkEntries entries + 1
  | .held _ => 1
def uptoBulkAll {H : Type} : List (DataW H) → Nat
  | [] => 0
  | d :: r => uptoBulk d + uptoBulkAll r
def uptoBulkEntries {H : Type} : List (Lit × DataW H) → Nat
  | [] => 0
  | x :: r => uptoBulkEntry x + uptoBulkEntries r
def uptoBulkEntry {H : Type} : Lit × DataW H → Nat
  | (.string bytes, d) => bytes.length + uptoBulk d + 1
  | (_, d) => uptoBulk d + 1
 end
def uptoSmall : (H : Type) → List (DataW H) → Bool := fun _ ds => decide (uptoBulkAll ds ≤ 1048576)
def OpenSpec.upto (s : _root_.Go.ChangeSpec) : _root_.Go.OpenSpec := { _root_.Go.OpenSpec.ofChange s with cond := some uptoSmall }

/-- 'overflightlaw19.CapacitySectorSpec', WHERE WHAT IT READS IS OF BULK AT MOST 1048576: true; the input reads as it did. -/
def capacitySectorSpecUptoRow : OpenClaim := { program := "ytilocjliplmmpaa", sum := "fd23766a588aee6f9bad6bfebaf44eb7aaacb3eeaa0baa5ab8c42a9ef7103df9", func := "overflight/overflightlaw19.CapacitySectorSpec", spec := "capacitySectorSpec", inPlace := ["slices.overlaps[overflight/api.Change]"], unfollowed := true, recurses := true, apart := false, narrowed := true }
def CapacitySectorSpecUptoSaid : Prop := capacitySectorSpecUptoRow.holds Try.pinned (OpenSpec.upto capacitySectorSpecSpec)

/-- 'overflightlaw19.CapacityAdded', WHERE WHAT IT READS IS OF BULK AT MOST 1048576: true; the input reads as it did. -/
def capacityAddedUptoRow : OpenClaim := { program := "ytilocjliplmmpaa", sum := "fd23766a588aee6f9bad6bfebaf44eb7aaacb3eeaa0baa5ab8c42a9ef7103df9", func := "overflight/overflightlaw19.CapacityAdded", spec := "capacityAdded", inPlace := ["slices.overlaps[overflight/api.Change]"], unfollowed := true, recurses := true, apart := false, narrowed := true }
def CapacityAddedUptoSaid : Prop := capacityAddedUptoRow.holds Try.pinned (OpenSpec.upto capacityAddedSpec)

/-- 'overflightlaw19.CapacityDivides', WHERE WHAT IT READS IS OF BULK AT MOST 1048576: true; the input reads as it did. -/
def capacityDividesUptoRow : OpenClaim := { program := "ytilocjliplmmpaa", sum := "fd23766a588aee6f9bad6bfebaf44eb7aaacb3eeaa0baa5ab8c42a9ef7103df9", func := "overflight/overflightlaw19.CapacityDivides", spec := "capacityDivides", inPlace := ["slices.overlaps[overflight/api.Change]"], unfollowed := true, recurses := true, apart := false, narrowed := true }
def CapacityDividesUptoSaid : Prop := capacityDividesUptoRow.holds Try.pinned (OpenSpec.upto capacityDividesSpec)

/-- 'overflightlaw19.CapacityLess', WHERE WHAT IT READS IS OF BULK AT MOST 1048576: true; the input reads as it did. -/
def capacityLessUptoRow : OpenClaim := { program := "ytilocjliplmmpaa", sum := "fd23766a588aee6f9bad6bfebaf44eb7aaacb3eeaa0baa5ab8c42a9ef7103df9", func := "overflight/overflightlaw19.CapacityLess", spec := "capacityLess", inPlace := ["slices.overlaps[overflight/api.Change]"], unfollowed := true, recurses := true, apart := false, narrowed := true }
def CapacityLessUptoSaid : Prop := capacityLessUptoRow.holds Try.pinned (OpenSpec.upto capacityLessSpec)

/-- 'overflightlaw19.CapacityCuts', WHERE WHAT IT READS IS OF BULK AT MOST 1048576: true; the input reads as it did. -/
def capacityCutsUptoRow : OpenClaim := { program := "ytilocjliplmmpaa", sum := "fd23766a588aee6f9bad6bfebaf44eb7aaacb3eeaa0baa5ab8c42a9ef7103df9", func := "overflight/overflightlaw19.CapacityCuts", spec := "capacityCuts", inPlace := ["slices.overlaps[overflight/api.Change]"], unfollowed := true, recurses := true, apart := false, narrowed := true }
def CapacityCutsUptoSaid : Prop := capacityCutsUptoRow.holds Try.pinned (OpenSpec.upto capacityCutsSpec)

end Rows
end Go.Proofs.Ytilocjliplmmpaa
