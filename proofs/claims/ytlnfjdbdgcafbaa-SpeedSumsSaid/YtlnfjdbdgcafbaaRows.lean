/-
  No cell of these rows narrows 'for every input' (looked for: loops, veiled, ifaces, maps, wideKeys, modest, calm, conditions, laid).
  DERIVED. THE GIVEN ROWS OF THIS SEAT. 5 by the template 'for every input the law returns true; each argument reads behind the call as it read before'; 0 by the template 'total and deterministic' (their statements: YtlnfjdbdgcafbaaTotals.lean).
  GIVEN WITH THE SEED: the statements are not yours to turn. If you find one false, say at which input.
  Laid BY PROGRAM, IN A SANDBOX (cutbox-rows.mjs): the forced cells as the released guide's own fill.sh prints them over the translation 61f657db5b43b296… (all of the seat's roots in one cut). By AI agents, Wed Nov 11 2026. No macro, syntax, notation, axiom, sorry.
-/
import Derived.Test.YtlnfjdbdgcafbaaChecked
import GoSem.Claim
import GoSem.ClaimJoined
import GoSem.ClaimMapViews
import Derived.JoinedTies
import Derived.KernelRfl
namespace Go.Proofs.Ytlnfjdbdgcafbaa
/- THE CELL 'sum', in the pinned program and in every row, IS THE sha256 OF THE DUMP (.gsa) THAT YtlnfjdbdgcafbaaProg.lean LOADS. Nothing in Lean hashes anything: it is a label: what it is worth is what the hold of that sum in a sandbox is worth. -/
noncomputable def Try.pinned : Pinned := { name := "ytlnfjdbdgcafbaa", sum := "61f657db5b43b296067694f9abd20fa7372d71d27349f552865b3db67bda6faa", checked := Try.checked }
namespace Rows
def none {H : Type} : Left H := { results := [], args := [] }

/-- 'overflightlaw12.SpeedExact': WHATEVER THE INPUT: true; the input reads as it did. -/
def speedExactSpec : ChangeSpec := { name := "speedExact", fn := fun _ => fun
  | [d1, d2] => { results := [.lit (.bool true)], args := [d1, d2] }
  | _ => none }
def speedExactRow : OpenClaim := { program := "ytlnfjdbdgcafbaa", sum := "61f657db5b43b296067694f9abd20fa7372d71d27349f552865b3db67bda6faa", func := "overflight/overflightlaw12.SpeedExact", spec := "speedExact", unfollowed := true, recurses := true, apart := false }
def SpeedExactSaid : Prop := speedExactRow.holds Try.pinned (OpenSpec.ofChange speedExactSpec)

/-- ITS FALSE NEIGHBOUR: 'it returns false'. Refute it at one input. -/
def speedExactWrong : ChangeSpec := { name := "speedExact", fn := fun _ => fun
  | [d1, d2] => { results := [.lit (.bool false)], args := [d1, d2] }
  | _ => none }
def SpeedExactWrongFalsely : Prop := speedExactRow.holds Try.pinned (OpenSpec.ofChange speedExactWrong)

/-- 'overflightlaw12.SpeedBetween': WHATEVER THE INPUT: true; the input reads as it did. -/
def speedBetweenSpec : ChangeSpec := { name := "speedBetween", fn := fun _ => fun
  | [d1, d2, d3] => { results := [.lit (.bool true)], args := [d1, d2, d3] }
  | _ => none }
def speedBetweenRow : OpenClaim := { program := "ytlnfjdbdgcafbaa", sum := "61f657db5b43b296067694f9abd20fa7372d71d27349f552865b3db67bda6faa", func := "overflight/overflightlaw12.SpeedBetween", spec := "speedBetween", unfollowed := true, recurses := true, apart := false }
def SpeedBetweenSaid : Prop := speedBetweenRow.holds Try.pinned (OpenSpec.ofChange speedBetweenSpec)

/-- ITS FALSE NEIGHBOUR: 'it returns false'. Refute it at one input. -/
def speedBetweenWrong : ChangeSpec := { name := "speedBetween", fn := fun _ => fun
  | [d1, d2, d3] => { results := [.lit (.bool false)], args := [d1, d2, d3] }
  | _ => none }
def SpeedBetweenWrongFalsely : Prop := speedBetweenRow.holds Try.pinned (OpenSpec.ofChange speedBetweenWrong)

/-- 'overflightlaw12.SpeedGrows': WHATEVER THE INPUT: true; the input reads as it did. -/
def speedGrowsSpec : ChangeSpec := { name := "speedGrows", fn := fun _ => fun
  | [d1, d2, d3] => { results := [.lit (.bool true)], args := [d1, d2, d3] }
  | _ => none }
def speedGrowsRow : OpenClaim := { program := "ytlnfjdbdgcafbaa", sum := "61f657db5b43b296067694f9abd20fa7372d71d27349f552865b3db67bda6faa", func := "overflight/overflightlaw12.SpeedGrows", spec := "speedGrows", unfollowed := true, recurses := true, apart := false }
def SpeedGrowsSaid : Prop := speedGrowsRow.holds Try.pinned (OpenSpec.ofChange speedGrowsSpec)

/-- ITS FALSE NEIGHBOUR: 'it returns false'. Refute it at one input. -/
def speedGrowsWrong : ChangeSpec := { name := "speedGrows", fn := fun _ => fun
  | [d1, d2, d3] => { results := [.lit (.bool false)], args := [d1, d2, d3] }
  | _ => none }
def SpeedGrowsWrongFalsely : Prop := speedGrowsRow.holds Try.pinned (OpenSpec.ofChange speedGrowsWrong)

/-- 'overflightlaw12.SpeedSums': WHATEVER THE INPUT: true; the input reads as it did. -/
def speedSumsSpec : ChangeSpec := { name := "speedSums", fn := fun _ => fun
  | [d1, d2, d3] => { results := [.lit (.bool true)], args := [d1, d2, d3] }
  | _ => none }
def speedSumsRow : OpenClaim := { program := "ytlnfjdbdgcafbaa", sum := "61f657db5b43b296067694f9abd20fa7372d71d27349f552865b3db67bda6faa", func := "overflight/overflightlaw12.SpeedSums", spec := "speedSums", unfollowed := true, recurses := true, apart := false }
def SpeedSumsSaid : Prop := speedSumsRow.holds Try.pinned (OpenSpec.ofChange speedSumsSpec)

/-- ITS FALSE NEIGHBOUR: 'it returns false'. Refute it at one input. -/
def speedSumsWrong : ChangeSpec := { name := "speedSums", fn := fun _ => fun
  | [d1, d2, d3] => { results := [.lit (.bool false)], args := [d1, d2, d3] }
  | _ => none }
def SpeedSumsWrongFalsely : Prop := speedSumsRow.holds Try.pinned (OpenSpec.ofChange speedSumsWrong)

/-- 'overflightlaw12.SpeedFaster': WHATEVER THE INPUT: true; the input reads as it did. -/
def speedFasterSpec : ChangeSpec := { name := "speedFaster", fn := fun _ => fun
  | [d1, d2, d3] => { results := [.lit (.bool true)], args := [d1, d2, d3] }
  | _ => none }
def speedFasterRow : OpenClaim := { program := "ytlnfjdbdgcafbaa", sum := "61f657db5b43b296067694f9abd20fa7372d71d27349f552865b3db67bda6faa", func := "overflight/overflightlaw12.SpeedFaster", spec := "speedFaster", unfollowed := true, recurses := true, apart := false }
def SpeedFasterSaid : Prop := speedFasterRow.holds Try.pinned (OpenSpec.ofChange speedFasterSpec)

/-- ITS FALSE NEIGHBOUR: 'it returns false'. Refute it at one input. -/
def speedFasterWrong : ChangeSpec := { name := "speedFaster", fn := fun _ => fun
  | [d1, d2, d3] => { results := [.lit (.bool false)], args := [d1, d2, d3] }
  | _ => none }
def SpeedFasterWrongFalsely : Prop := speedFasterRow.holds Try.pinned (OpenSpec.ofChange speedFasterWrong)

/- THE SECOND FORM. 'bulk': how many values and letters a reading holds, each counted each time it is reached (what is shared counts as often as it is met; a slice's spare places count too). A statement '..UptoSaid' is the law's where the arguments, and the package variables that the reading takes, are together of bulk at most 1048576: NARROWER than '..Said'. Prove '..Said' where nothing that the law and all that it calls make is longer than what came in: it says more and counts as full. Else prove '..UptoSaid'. A law counts once. -/
mutual
def uptoBulk {H : Type} : DataW H → Nat
  | .lit (.string bytes) => bytes.length + 1
  | .lit _ => 1
  | .nil => 1
  | .ptr d => uptoBulk d + 1
  | .slice elems spare => uptoBulkAll elems + uptoBulkAll spare + 1
  | .agg parts => uptoBulkAll parts + 1
  | .iface _ d => uptoBulk d + 1
  | .map entries => uptoBulkEntries entries + 1
  | .held _ => 1
def uptoBulkAll {H : Type} : List (DataW H) → Nat
  | [] => 0
  | d :: r => uptoBulk d + uptoBulkAll r
def uptoBulkEntries {H : Type} : List (Lit × DataW H) → Nat
  | [] => 0
  | x :: r => uptoBulkEntry x + uptoBulkEntries r
def uptoBulkEntry {H : Type} : Lit × DataW H → Nat
  | (.string bytes, d) => bytes.length + uptoBulk d + 1
  | (_, d) => uptoBulk d + 1
 end
def uptoSmall : (H : Type) → List (DataW H) → Bool := fun _ ds => decide (uptoBulkAll ds ≤ 1048576)
def OpenSpec.upto (s : _root_.Go.ChangeSpec) : _root_.Go.OpenSpec := { _root_.Go.OpenSpec.ofChange s with cond := some uptoSmall }

/-- 'overflightlaw12.SpeedExact', WHERE WHAT IT READS IS OF BULK AT MOST 1048576: true; the input reads as it did. -/
def speedExactUptoRow : OpenClaim := { program := "ytlnfjdbdgcafbaa", sum := "61f657db5b43b296067694f9abd20fa7372d71d27349f552865b3db67bda6faa", func := "overflight/overflightlaw12.SpeedExact", spec := "speedExact", unfollowed := true, recurses := true, apart := false, narrowed := true }
def SpeedExactUptoSaid : Prop := speedExactUptoRow.holds Try.pinned (OpenSpec.upto speedExactSpec)

/-- 'overflightlaw12.SpeedBetween', WHERE WHAT IT READS IS OF BULK AT MOST 1048576: true; the input reads as it did. -/
def speedBetweenUptoRow : OpenClaim := { program := "ytlnfjdbdgcafbaa", sum := "61f657db5b43b296067694f9abd20fa7372d71d27349f552865b3db67bda6faa", func := "overflight/overflightlaw12.SpeedBetween", spec := "speedBetween", unfollowed := true, recurses := true, apart := false, narrowed := true }
def SpeedBetweenUptoSaid : Prop := speedBetweenUptoRow.holds Try.pinned (OpenSpec.upto speedBetweenSpec)

/-- 'overflightlaw12.SpeedGrows', WHERE WHAT IT READS IS OF BULK AT MOST 1048576: true; the input reads as it did. -/
def speedGrowsUptoRow : OpenClaim := { program := "ytlnfjdbdgcafbaa", sum := "61f657db5b43b296067694f9abd20fa7372d71d27349f552865b3db67bda6faa", func := "overflight/overflightlaw12.SpeedGrows", spec := "speedGrows", unfollowed := true, recurses := true, apart := false, narrowed := true }
def SpeedGrowsUptoSaid : Prop := speedGrowsUptoRow.holds Try.pinned (OpenSpec.upto speedGrowsSpec)

/-- 'overflightlaw12.SpeedSums', WHERE WHAT IT READS IS OF BULK AT MOST 1048576: true; the input reads as it did. -/
def speedSumsUptoRow : OpenClaim := { program := "ytlnfjdbdgcafbaa", sum := "61f657db5b43b296067694f9abd20fa7372d71d27349f552865b3db67bda6faa", func := "overflight/overflightlaw12.SpeedSums", spec := "speedSums", unfollowed := true, recurses := true, apart := false, narrowed := true }
def SpeedSumsUptoSaid : Prop := speedSumsUptoRow.holds Try.pinned (OpenSpec.upto speedSumsSpec)

/-- 'overflightlaw12.SpeedFaster', WHERE WHAT IT READS IS OF BULK AT MOST 1048576: true; the input reads as it did. -/
def speedFasterUptoRow : OpenClaim := { program := "ytlnfjdbdgcafbaa", sum := "61f657db5b43b296067694f9abd20fa7372d71d27349f552865b3db67bda6faa", func := "overflight/overflightlaw12.SpeedFaster", spec := "speedFaster", unfollowed := true, recurses := true, apart := false, narrowed := true }
def SpeedFasterUptoSaid : Prop := speedFasterUptoRow.holds Try.pinned (OpenSpec.upto speedFasterSpec)

end Rows
end Go.Proofs.Ytlnfjdbdgcafbaa
