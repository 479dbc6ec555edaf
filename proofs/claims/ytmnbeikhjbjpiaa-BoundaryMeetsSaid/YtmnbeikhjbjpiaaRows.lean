/-
  No cell of these rows narrows 'for every input' (looked for: loops, veiled, ifaces, maps, wideKeys, modest, calm, conditions, laid).
  DERIVED. THE GIVEN ROWS OF THIS SEAT. 7 by the template 'for every input the law returns true; each argument reads behind the call as it read before'; 0 by the template 'total and deterministic' (their statements: YtmnbeikhjbjpiaaTotals.lean).
  GIVEN WITH THE SEED: the statements are not yours to turn. If you find one false, say at which input.
  Laid BY PROGRAM, IN A SANDBOX (cutbox-rows.mjs): the forced cells as the released guide's own fill.sh prints them over the translation 18fc92018679dfc4… (all of the seat's roots in one cut). By AI agents, Wed Nov 11 2026. No macro, syntax, notation, axiom, sorry.
-/
import Derived.Test.YtmnbeikhjbjpiaaChecked
import GoSem.Claim
import GoSem.ClaimJoined
import GoSem.ClaimMapViews
import Derived.JoinedTies
import Derived.KernelRfl
namespace Go.Proofs.Ytmnbeikhjbjpiaa
/- THE CELL 'sum', in the pinned program and in every row, IS THE sha256 OF THE DUMP (.gsa) THAT YtmnbeikhjbjpiaaProg.lean LOADS. Nothing in Lean hashes anything: it is a label: what it is worth is what the hold of that sum in a sandbox is worth. -/
noncomputable def Try.pinned : Pinned := { name := "ytmnbeikhjbjpiaa", sum := "18fc92018679dfc478db547f4ff1199aca57d16bc78784ef91f6327f4e7da444", checked := Try.checked }
namespace Rows
def none {H : Type} : Left H := { results := [], args := [] }

/-- 'overflightlaw48.BoundaryOfferSpec': WHATEVER THE INPUT: true; the input reads as it did. -/
def boundaryOfferSpecSpec : ChangeSpec := { name := "boundaryOfferSpec", fn := fun _ => fun
  | [d1, d2] => { results := [.lit (.bool true)], args := [d1, d2] }
  | _ => none }
def boundaryOfferSpecRow : OpenClaim := { program := "ytmnbeikhjbjpiaa", sum := "18fc92018679dfc478db547f4ff1199aca57d16bc78784ef91f6327f4e7da444", func := "overflight/overflightlaw48.BoundaryOfferSpec", spec := "boundaryOfferSpec", inPlace := ["slices.overlaps[overflight/api.Agreement]"], unfollowed := true, recurses := true, apart := false }
def BoundaryOfferSpecSaid : Prop := boundaryOfferSpecRow.holds Try.pinned (OpenSpec.ofChange boundaryOfferSpecSpec)

/-- ITS FALSE NEIGHBOUR: 'it returns false'. Refute it at one input. -/
def boundaryOfferSpecWrong : ChangeSpec := { name := "boundaryOfferSpec", fn := fun _ => fun
  | [d1, d2] => { results := [.lit (.bool false)], args := [d1, d2] }
  | _ => none }
def BoundaryOfferSpecWrongFalsely : Prop := boundaryOfferSpecRow.holds Try.pinned (OpenSpec.ofChange boundaryOfferSpecWrong)

/-- 'overflightlaw48.BoundaryAcceptSpec': WHATEVER THE INPUT: true; the input reads as it did. -/
def boundaryAcceptSpecSpec : ChangeSpec := { name := "boundaryAcceptSpec", fn := fun _ => fun
  | [d1, d2, d3] => { results := [.lit (.bool true)], args := [d1, d2, d3] }
  | _ => none }
def boundaryAcceptSpecRow : OpenClaim := { program := "ytmnbeikhjbjpiaa", sum := "18fc92018679dfc478db547f4ff1199aca57d16bc78784ef91f6327f4e7da444", func := "overflight/overflightlaw48.BoundaryAcceptSpec", spec := "boundaryAcceptSpec", inPlace := ["slices.overlaps[overflight/api.Agreement]"], unfollowed := true, recurses := true, apart := false }
def BoundaryAcceptSpecSaid : Prop := boundaryAcceptSpecRow.holds Try.pinned (OpenSpec.ofChange boundaryAcceptSpecSpec)

/-- ITS FALSE NEIGHBOUR: 'it returns false'. Refute it at one input. -/
def boundaryAcceptSpecWrong : ChangeSpec := { name := "boundaryAcceptSpec", fn := fun _ => fun
  | [d1, d2, d3] => { results := [.lit (.bool false)], args := [d1, d2, d3] }
  | _ => none }
def BoundaryAcceptSpecWrongFalsely : Prop := boundaryAcceptSpecRow.holds Try.pinned (OpenSpec.ofChange boundaryAcceptSpecWrong)

/-- 'overflightlaw48.BoundaryCheckSpec': WHATEVER THE INPUT: true; the input reads as it did. -/
def boundaryCheckSpecSpec : ChangeSpec := { name := "boundaryCheckSpec", fn := fun _ => fun
  | [d1, d2, d3, d4] => { results := [.lit (.bool true)], args := [d1, d2, d3, d4] }
  | _ => none }
def boundaryCheckSpecRow : OpenClaim := { program := "ytmnbeikhjbjpiaa", sum := "18fc92018679dfc478db547f4ff1199aca57d16bc78784ef91f6327f4e7da444", func := "overflight/overflightlaw48.BoundaryCheckSpec", spec := "boundaryCheckSpec", inPlace := ["slices.overlaps[overflight/api.Agreement]"], unfollowed := true, recurses := true, apart := false }
def BoundaryCheckSpecSaid : Prop := boundaryCheckSpecRow.holds Try.pinned (OpenSpec.ofChange boundaryCheckSpecSpec)

/-- ITS FALSE NEIGHBOUR: 'it returns false'. Refute it at one input. -/
def boundaryCheckSpecWrong : ChangeSpec := { name := "boundaryCheckSpec", fn := fun _ => fun
  | [d1, d2, d3, d4] => { results := [.lit (.bool false)], args := [d1, d2, d3, d4] }
  | _ => none }
def BoundaryCheckSpecWrongFalsely : Prop := boundaryCheckSpecRow.holds Try.pinned (OpenSpec.ofChange boundaryCheckSpecWrong)

/-- 'overflightlaw48.BoundaryMeets': WHATEVER THE INPUT: true; the input reads as it did. -/
def boundaryMeetsSpec : ChangeSpec := { name := "boundaryMeets", fn := fun _ => fun
  | [d1, d2, d3] => { results := [.lit (.bool true)], args := [d1, d2, d3] }
  | _ => none }
def boundaryMeetsRow : OpenClaim := { program := "ytmnbeikhjbjpiaa", sum := "18fc92018679dfc478db547f4ff1199aca57d16bc78784ef91f6327f4e7da444", func := "overflight/overflightlaw48.BoundaryMeets", spec := "boundaryMeets", inPlace := ["slices.overlaps[overflight/api.Agreement]"], unfollowed := true, recurses := true, apart := false }
def BoundaryMeetsSaid : Prop := boundaryMeetsRow.holds Try.pinned (OpenSpec.ofChange boundaryMeetsSpec)

/-- ITS FALSE NEIGHBOUR: 'it returns false'. Refute it at one input. -/
def boundaryMeetsWrong : ChangeSpec := { name := "boundaryMeets", fn := fun _ => fun
  | [d1, d2, d3] => { results := [.lit (.bool false)], args := [d1, d2, d3] }
  | _ => none }
def BoundaryMeetsWrongFalsely : Prop := boundaryMeetsRow.holds Try.pinned (OpenSpec.ofChange boundaryMeetsWrong)

/-- 'overflightlaw48.BoundaryValid': WHATEVER THE INPUT: true; the input reads as it did. -/
def boundaryValidSpec : ChangeSpec := { name := "boundaryValid", fn := fun _ => fun
  | [d1, d2, d3] => { results := [.lit (.bool true)], args := [d1, d2, d3] }
  | _ => none }
def boundaryValidRow : OpenClaim := { program := "ytmnbeikhjbjpiaa", sum := "18fc92018679dfc478db547f4ff1199aca57d16bc78784ef91f6327f4e7da444", func := "overflight/overflightlaw48.BoundaryValid", spec := "boundaryValid", inPlace := ["slices.overlaps[overflight/api.Agreement]"], unfollowed := true, recurses := true, apart := false }
def BoundaryValidSaid : Prop := boundaryValidRow.holds Try.pinned (OpenSpec.ofChange boundaryValidSpec)

/-- ITS FALSE NEIGHBOUR: 'it returns false'. Refute it at one input. -/
def boundaryValidWrong : ChangeSpec := { name := "boundaryValid", fn := fun _ => fun
  | [d1, d2, d3] => { results := [.lit (.bool false)], args := [d1, d2, d3] }
  | _ => none }
def BoundaryValidWrongFalsely : Prop := boundaryValidRow.holds Try.pinned (OpenSpec.ofChange boundaryValidWrong)

/-- 'overflightlaw48.BoundaryLast': WHATEVER THE INPUT: true; the input reads as it did. -/
def boundaryLastSpec : ChangeSpec := { name := "boundaryLast", fn := fun _ => fun
  | [d1, d2, d3, d4] => { results := [.lit (.bool true)], args := [d1, d2, d3, d4] }
  | _ => none }
def boundaryLastRow : OpenClaim := { program := "ytmnbeikhjbjpiaa", sum := "18fc92018679dfc478db547f4ff1199aca57d16bc78784ef91f6327f4e7da444", func := "overflight/overflightlaw48.BoundaryLast", spec := "boundaryLast", inPlace := ["slices.overlaps[overflight/api.Agreement]"], unfollowed := true, recurses := true, apart := false }
def BoundaryLastSaid : Prop := boundaryLastRow.holds Try.pinned (OpenSpec.ofChange boundaryLastSpec)

/-- ITS FALSE NEIGHBOUR: 'it returns false'. Refute it at one input. -/
def boundaryLastWrong : ChangeSpec := { name := "boundaryLast", fn := fun _ => fun
  | [d1, d2, d3, d4] => { results := [.lit (.bool false)], args := [d1, d2, d3, d4] }
  | _ => none }
def BoundaryLastWrongFalsely : Prop := boundaryLastRow.holds Try.pinned (OpenSpec.ofChange boundaryLastWrong)

/-- 'overflightlaw48.BoundaryRate': WHATEVER THE INPUT: true; the input reads as it did. -/
def boundaryRateSpec : ChangeSpec := { name := "boundaryRate", fn := fun _ => fun
  | [d1, d2, d3, d4] => { results := [.lit (.bool true)], args := [d1, d2, d3, d4] }
  | _ => none }
def boundaryRateRow : OpenClaim := { program := "ytmnbeikhjbjpiaa", sum := "18fc92018679dfc478db547f4ff1199aca57d16bc78784ef91f6327f4e7da444", func := "overflight/overflightlaw48.BoundaryRate", spec := "boundaryRate", inPlace := ["slices.overlaps[overflight/api.Agreement]"], unfollowed := true, recurses := true, apart := false }
def BoundaryRateSaid : Prop := boundaryRateRow.holds Try.pinned (OpenSpec.ofChange boundaryRateSpec)

/-- ITS FALSE NEIGHBOUR: 'it returns false'. Refute it at one input. -/
def boundaryRateWrong : ChangeSpec := { name := "boundaryRate", fn := fun _ => fun
  | [d1, d2, d3, d4] => { results := [.lit (.bool false)], args := [d1, d2, d3, d4] }
  | _ => none }
def BoundaryRateWrongFalsely : Prop := boundaryRateRow.holds Try.pinned (OpenSpec.ofChange boundaryRateWrong)

/- THE SECOND FORM. 'bulk': how many values and letters a reading holds, each counted each time it is reached (what is shared counts as often as it is met; a slice's spare places count too). A statement '..UptoSaid' is the law's where the arguments, and the package variables that the reading takes, are together of bulk at most 1048576: NARROWER than '..Said'. Prove '..Said' where nothing that the law and all that it calls make is longer than what came in: it says more and counts as full. Else prove '..UptoSaid'. A law counts once. -/
mutual
def uptoBulk {H : Type} : DataW H → Nat
  | .lit (.string bytes) => bytes.length + 1
  | .lit _ => 1
  | .nil => 1
  | .ptr d => uptoBulk d + 1
  | .slice elems spare => uptoBulkAll elems + uptoBulkAll spare + 1
  | .agg parts => uptoBulkAll parts + 1
  | .iface _ d => uptoBulk d + 1
  | .map entries => uptoBulkEntries entries + 1
  | .held _ => 1
def uptoBulkAll {H : Type} : List (DataW H) → Nat
  | [] => 0
  | d :: r => uptoBulk d + uptoBulkAll r
def uptoBulkEntries {H : Type} : List (Lit × DataW H) → Nat
  | [] => 0
  | x :: r => uptoBulkEntry x + uptoBulkEntries r
def uptoBulkEntry {H : Type} : Lit × DataW H → Nat
  | (.string bytes, d) => bytes.length + uptoBulk d + 1
  | (_, d) => uptoBulk d + 1
 end
def uptoSmall : (H : Type) → List (DataW H) → Bool := fun _ ds => decide (uptoBulkAll ds ≤ 1048576)
def OpenSpec.upto (s : _root_.Go.ChangeSpec) : _root_.Go.OpenSpec := { _root_.Go.OpenSpec.ofChange s with cond := some uptoSmall }

/-- 'overflightlaw48.BoundaryOfferSpec', WHERE WHAT IT READS IS OF BULK AT MOST 1048576: true; the input reads as it did. -/
def boundaryOfferSpecUptoRow : OpenClaim := { program := "ytmnbeikhjbjpiaa", sum := "18fc92018679dfc478db547f4ff1199aca57d16bc78784ef91f6327f4e7da444", func := "overflight/overflightlaw48.BoundaryOfferSpec", spec := "boundaryOfferSpec", inPlace := ["slices.overlaps[overflight/api.Agreement]"], unfollowed := true, recurses := true, apart := false, narrowed := true }
def BoundaryOfferSpecUptoSaid : Prop := boundaryOfferSpecUptoRow.holds Try.pinned (OpenSpec.upto boundaryOfferSpecSpec)

/-- 'overflightlaw48.BoundaryAcceptSpec', WHERE WHAT IT READS IS OF BULK AT MOST 1048576: true; the input reads as it did. -/
def boundaryAcceptSpecUptoRow : OpenClaim := { program := "ytmnbeikhjbjpiaa", sum := "18fc92018679dfc478db547f4ff1199aca57d16bc78784ef91f6327f4e7da444", func := "overflight/overflightlaw48.BoundaryAcceptSpec", spec := "boundaryAcceptSpec", inPlace := ["slices.overlaps[overflight/api.Agreement]"], unfollowed := true, recurses := true, apart := false, narrowed := true }
def BoundaryAcceptSpecUptoSaid : Prop := boundaryAcceptSpecUptoRow.holds Try.pinned (OpenSpec.upto boundaryAcceptSpecSpec)

/-- 'overflightlaw48.BoundaryCheckSpec', WHERE WHAT IT READS IS OF BULK AT MOST 1048576: true; the input reads as it did. -/
def boundaryCheckSpecUptoRow : OpenClaim := { program := "ytmnbeikhjbjpiaa", sum := "18fc92018679dfc478db547f4ff1199aca57d16bc78784ef91f6327f4e7da444", func := "overflight/overflightlaw48.BoundaryCheckSpec", spec := "boundaryCheckSpec", inPlace := ["slices.overlaps[overflight/api.Agreement]"], unfollowed := true, recurses := true, apart := false, narrowed := true }
def BoundaryCheckSpecUptoSaid : Prop := boundaryCheckSpecUptoRow.holds Try.pinned (OpenSpec.upto boundaryCheckSpecSpec)

/-- 'overflightlaw48.BoundaryMeets', WHERE WHAT IT READS IS OF BULK AT MOST 1048576: true; the input reads as it did. -/
def boundaryMeetsUptoRow : OpenClaim := { program := "ytmnbeikhjbjpiaa", sum := "18fc92018679dfc478db547f4ff1199aca57d16bc78784ef91f6327f4e7da444", func := "overflight/overflightlaw48.BoundaryMeets", spec := "boundaryMeets", inPlace := ["slices.overlaps[overflight/api.Agreement]"], unfollowed := true, recurses := true, apart := false, narrowed := true }
def BoundaryMeetsUptoSaid : Prop := boundaryMeetsUptoRow.holds Try.pinned (OpenSpec.upto boundaryMeetsSpec)

/-- 'overflightlaw48.BoundaryValid', WHERE WHAT IT READS IS OF BULK AT MOST 1048576: true; the input reads as it did. -/
def boundaryValidUptoRow : OpenClaim := { program := "ytmnbeikhjbjpiaa", sum := "18fc92018679dfc478db547f4ff1199aca57d16bc78784ef91f6327f4e7da444", func := "overflight/overflightlaw48.BoundaryValid", spec := "boundaryValid", inPlace := ["slices.overlaps[overflight/api.Agreement]"], unfollowed := true, recurses := true, apart := false, narrowed := true }
def BoundaryValidUptoSaid : Prop := boundaryValidUptoRow.holds Try.pinned (OpenSpec.upto boundaryValidSpec)

/-- 'overflightlaw48.BoundaryLast', WHERE WHAT IT READS IS OF BULK AT MOST 1048576: true; the input reads as it did. -/
def boundaryLastUptoRow : OpenClaim := { program := "ytmnbeikhjbjpiaa", sum := "18fc92018679dfc478db547f4ff1199aca57d16bc78784ef91f6327f4e7da444", func := "overflight/overflightlaw48.BoundaryLast", spec := "boundaryLast", inPlace := ["slices.overlaps[overflight/api.Agreement]"], unfollowed := true, recurses := true, apart := false, narrowed := true }
def BoundaryLastUptoSaid : Prop := boundaryLastUptoRow.holds Try.pinned (OpenSpec.upto boundaryLastSpec)

/-- 'overflightlaw48.BoundaryRate', WHERE WHAT IT READS IS OF BULK AT MOST 1048576: true; the input reads as it did. -/
def boundaryRateUptoRow : OpenClaim := { program := "ytmnbeikhjbjpiaa", sum := "18fc92018679dfc478db547f4ff1199aca57d16bc78784ef91f6327f4e7da444", func := "overflight/overflightlaw48.BoundaryRate", spec := "boundaryRate", inPlace := ["slices.overlaps[overflight/api.Agreement]"], unfollowed := true, recurses := true, apart := false, narrowed := true }
def BoundaryRateUptoSaid : Prop := boundaryRateUptoRow.holds Try.pinned (OpenSpec.upto boundaryRateSpec)

end Rows
end Go.Proofs.Ytmnbeikhjbjpiaa
