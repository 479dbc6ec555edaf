/-
  No cell of these rows narrows 'for every input' (looked for: loops, veiled, ifaces, maps, wideKeys, modest, calm, conditions, laid).
  DERIVED. THE GIVEN ROWS OF THIS SEAT. 7 by the template 'for every input the law returns true; each argument reads behind the call as it read before'; 0 by the template 'total and deterministic' (their statements: YtjebmcbpiobbaaaTotals.lean).
  GIVEN WITH THE SEED: the statements are not yours to turn. If you find one false, say at which input.
  Laid BY PROGRAM, IN A SANDBOX (cutbox-rows.mjs): the forced cells as the released guide's own fill.sh prints them over the translation 1c78b7e7fe5222ce… (all of the seat's roots in one cut). By AI agents, Wed Nov 11 2026. No macro, syntax, notation, axiom, sorry.
-/
import Derived.Test.YtjebmcbpiobbaaaChecked
import GoSem.Claim
import GoSem.ClaimJoined
import GoSem.ClaimMapViews
import Derived.JoinedTies
import Derived.KernelRfl
namespace Go.Proofs.Ytjebmcbpiobbaaa
/- THE CELL 'sum', in the pinned program and in every row, IS THE sha256 OF THE DUMP (.gsa) THAT YtjebmcbpiobbaaaProg.lean LOADS. Nothing in Lean hashes anything: it is a label: what it is worth is what the hold of that sum in a sandbox is worth. -/
noncomputable def Try.pinned : Pinned := { name := "ytjebmcbpiobbaaa", sum := "1c78b7e7fe5222cee5f7665f980759b88839ab034f5e8a70de1a663d34a7d32d", checked := Try.checked }
namespace Rows
def none {H : Type} : Left H := { results := [], args := [] }

/-- 'overflightlaw34.ClearanceIssueSpec': WHATEVER THE INPUT: true; the input reads as it did. -/
def clearanceIssueSpecSpec : ChangeSpec := { name := "clearanceIssueSpec", fn := fun _ => fun
  | [d1, d2, d3, d4] => { results := [.lit (.bool true)], args := [d1, d2, d3, d4] }
  | _ => none }
def clearanceIssueSpecRow : OpenClaim := { program := "ytjebmcbpiobbaaa", sum := "1c78b7e7fe5222cee5f7665f980759b88839ab034f5e8a70de1a663d34a7d32d", func := "overflight/overflightlaw34.ClearanceIssueSpec", spec := "clearanceIssueSpec", unfollowed := true, recurses := true, apart := false }
def ClearanceIssueSpecSaid : Prop := clearanceIssueSpecRow.holds Try.pinned (OpenSpec.ofChange clearanceIssueSpecSpec)

/-- ITS FALSE NEIGHBOUR: 'it returns false'. Refute it at one input. -/
def clearanceIssueSpecWrong : ChangeSpec := { name := "clearanceIssueSpec", fn := fun _ => fun
  | [d1, d2, d3, d4] => { results := [.lit (.bool false)], args := [d1, d2, d3, d4] }
  | _ => none }
def ClearanceIssueSpecWrongFalsely : Prop := clearanceIssueSpecRow.holds Try.pinned (OpenSpec.ofChange clearanceIssueSpecWrong)

/-- 'overflightlaw34.ClearanceReadSpec': WHATEVER THE INPUT: true; the input reads as it did. -/
def clearanceReadSpecSpec : ChangeSpec := { name := "clearanceReadSpec", fn := fun _ => fun
  | [d1, d2] => { results := [.lit (.bool true)], args := [d1, d2] }
  | _ => none }
def clearanceReadSpecRow : OpenClaim := { program := "ytjebmcbpiobbaaa", sum := "1c78b7e7fe5222cee5f7665f980759b88839ab034f5e8a70de1a663d34a7d32d", func := "overflight/overflightlaw34.ClearanceReadSpec", spec := "clearanceReadSpec", unfollowed := true, recurses := true, apart := false }
def ClearanceReadSpecSaid : Prop := clearanceReadSpecRow.holds Try.pinned (OpenSpec.ofChange clearanceReadSpecSpec)

/-- ITS FALSE NEIGHBOUR: 'it returns false'. Refute it at one input. -/
def clearanceReadSpecWrong : ChangeSpec := { name := "clearanceReadSpec", fn := fun _ => fun
  | [d1, d2] => { results := [.lit (.bool false)], args := [d1, d2] }
  | _ => none }
def ClearanceReadSpecWrongFalsely : Prop := clearanceReadSpecRow.holds Try.pinned (OpenSpec.ofChange clearanceReadSpecWrong)

/-- 'overflightlaw34.ClearanceKept': WHATEVER THE INPUT: true; the input reads as it did. -/
def clearanceKeptSpec : ChangeSpec := { name := "clearanceKept", fn := fun _ => fun
  | [d] => { results := [.lit (.bool true)], args := [d] }
  | _ => none }
def clearanceKeptRow : OpenClaim := { program := "ytjebmcbpiobbaaa", sum := "1c78b7e7fe5222cee5f7665f980759b88839ab034f5e8a70de1a663d34a7d32d", func := "overflight/overflightlaw34.ClearanceKept", spec := "clearanceKept", unfollowed := true, recurses := true, apart := false }
def ClearanceKeptSaid : Prop := clearanceKeptRow.holds Try.pinned (OpenSpec.ofChange clearanceKeptSpec)

/-- ITS FALSE NEIGHBOUR: 'it returns false'. Refute it at one input. -/
def clearanceKeptWrong : ChangeSpec := { name := "clearanceKept", fn := fun _ => fun
  | [d] => { results := [.lit (.bool false)], args := [d] }
  | _ => none }
def ClearanceKeptWrongFalsely : Prop := clearanceKeptRow.holds Try.pinned (OpenSpec.ofChange clearanceKeptWrong)

/-- 'overflightlaw34.ClearanceOne': WHATEVER THE INPUT: true; the input reads as it did. -/
def clearanceOneSpec : ChangeSpec := { name := "clearanceOne", fn := fun _ => fun
  | [d1, d2, d3, d4, d5] => { results := [.lit (.bool true)], args := [d1, d2, d3, d4, d5] }
  | _ => none }
def clearanceOneRow : OpenClaim := { program := "ytjebmcbpiobbaaa", sum := "1c78b7e7fe5222cee5f7665f980759b88839ab034f5e8a70de1a663d34a7d32d", func := "overflight/overflightlaw34.ClearanceOne", spec := "clearanceOne", unfollowed := true, recurses := true, apart := false }
def ClearanceOneSaid : Prop := clearanceOneRow.holds Try.pinned (OpenSpec.ofChange clearanceOneSpec)

/-- ITS FALSE NEIGHBOUR: 'it returns false'. Refute it at one input. -/
def clearanceOneWrong : ChangeSpec := { name := "clearanceOne", fn := fun _ => fun
  | [d1, d2, d3, d4, d5] => { results := [.lit (.bool false)], args := [d1, d2, d3, d4, d5] }
  | _ => none }
def ClearanceOneWrongFalsely : Prop := clearanceOneRow.holds Try.pinned (OpenSpec.ofChange clearanceOneWrong)

/-- 'overflightlaw34.ClearanceAgain': WHATEVER THE INPUT: true; the input reads as it did. -/
def clearanceAgainSpec : ChangeSpec := { name := "clearanceAgain", fn := fun _ => fun
  | [d1, d2] => { results := [.lit (.bool true)], args := [d1, d2] }
  | _ => none }
def clearanceAgainRow : OpenClaim := { program := "ytjebmcbpiobbaaa", sum := "1c78b7e7fe5222cee5f7665f980759b88839ab034f5e8a70de1a663d34a7d32d", func := "overflight/overflightlaw34.ClearanceAgain", spec := "clearanceAgain", unfollowed := true, recurses := true, apart := false }
def ClearanceAgainSaid : Prop := clearanceAgainRow.holds Try.pinned (OpenSpec.ofChange clearanceAgainSpec)

/-- ITS FALSE NEIGHBOUR: 'it returns false'. Refute it at one input. -/
def clearanceAgainWrong : ChangeSpec := { name := "clearanceAgain", fn := fun _ => fun
  | [d1, d2] => { results := [.lit (.bool false)], args := [d1, d2] }
  | _ => none }
def ClearanceAgainWrongFalsely : Prop := clearanceAgainRow.holds Try.pinned (OpenSpec.ofChange clearanceAgainWrong)

/-- 'overflightlaw34.ClearanceAnew': WHATEVER THE INPUT: true; the input reads as it did. -/
def clearanceAnewSpec : ChangeSpec := { name := "clearanceAnew", fn := fun _ => fun
  | [d1, d2, d3, d4] => { results := [.lit (.bool true)], args := [d1, d2, d3, d4] }
  | _ => none }
def clearanceAnewRow : OpenClaim := { program := "ytjebmcbpiobbaaa", sum := "1c78b7e7fe5222cee5f7665f980759b88839ab034f5e8a70de1a663d34a7d32d", func := "overflight/overflightlaw34.ClearanceAnew", spec := "clearanceAnew", unfollowed := true, recurses := true, apart := false }
def ClearanceAnewSaid : Prop := clearanceAnewRow.holds Try.pinned (OpenSpec.ofChange clearanceAnewSpec)

/-- ITS FALSE NEIGHBOUR: 'it returns false'. Refute it at one input. -/
def clearanceAnewWrong : ChangeSpec := { name := "clearanceAnew", fn := fun _ => fun
  | [d1, d2, d3, d4] => { results := [.lit (.bool false)], args := [d1, d2, d3, d4] }
  | _ => none }
def ClearanceAnewWrongFalsely : Prop := clearanceAnewRow.holds Try.pinned (OpenSpec.ofChange clearanceAnewWrong)

/-- 'overflightlaw34.ClearanceOthers': WHATEVER THE INPUT: true; the input reads as it did. -/
def clearanceOthersSpec : ChangeSpec := { name := "clearanceOthers", fn := fun _ => fun
  | [d1, d2, d3] => { results := [.lit (.bool true)], args := [d1, d2, d3] }
  | _ => none }
def clearanceOthersRow : OpenClaim := { program := "ytjebmcbpiobbaaa", sum := "1c78b7e7fe5222cee5f7665f980759b88839ab034f5e8a70de1a663d34a7d32d", func := "overflight/overflightlaw34.ClearanceOthers", spec := "clearanceOthers", unfollowed := true, recurses := true, apart := false }
def ClearanceOthersSaid : Prop := clearanceOthersRow.holds Try.pinned (OpenSpec.ofChange clearanceOthersSpec)

/-- ITS FALSE NEIGHBOUR: 'it returns false'. Refute it at one input. -/
def clearanceOthersWrong : ChangeSpec := { name := "clearanceOthers", fn := fun _ => fun
  | [d1, d2, d3] => { results := [.lit (.bool false)], args := [d1, d2, d3] }
  | _ => none }
def ClearanceOthersWrongFalsely : Prop := clearanceOthersRow.holds Try.pinned (OpenSpec.ofChange clearanceOthersWrong)

/- THE SECOND FORM. 'bulk': how many values and letters a reading holds, each counted each time it is reached (what is shared counts as often as it is met; a slice's spare places count too). A statement '..UptoSaid' is the law's where the arguments, and the package variables that the reading takes, are together of bulk at most 1048576: NARROWER than '..Said'. Prove '..Said' where nothing that the law and all that it calls make is longer than what came in: it says more and counts as full. Else prove '..UptoSaid'. A law counts once. -/
mutual
def uptoBulk {H : Type} : DataW H → Nat
  | .lit (.string bytes) => bytes.length + 1
  | .lit _ => 1
  | .nil => 1
  | .ptr d => uptoBulk d + 1
  | .slice elems spare => uptoBulkAll elems + uptoBulkAll spare + 1
  | .agg parts => uptoBulkAll parts + 1
  | .iface _ d => uptoBulk d + 1
  | .map entries => uptoBulkEntries entries + 1
  | .held _ => 1
def uptoBulkAll {H : Type} : List (DataW H) → Nat
  | [] => 0
  | d :: r => uptoBulk d + uptoBulkAll r
def uptoBulkEntries {H : Type} : List (Lit × DataW H) → Nat
  | [] => 0
  | x :: r => uptoBulkEntry x + uptoBulkEntries r
def uptoBulkEntry {H : Type} : Lit × DataW H → Nat
  | (.string bytes, d) => bytes.length + uptoBulk d + 1
  | (_, d) => uptoBulk d + 1
 end
def uptoSmall : (H : Type) → List (DataW H) → Bool := fun _ ds => decide (uptoBulkAll ds ≤ 1048576)
def OpenSpec.upto (s : _root_.Go.ChangeSpec) : _root_.Go.OpenSpec := { _root_.Go.OpenSpec.ofChange s with cond := some uptoSmall }

/-- 'overflightlaw34.ClearanceIssueSpec', WHERE WHAT IT READS IS OF BULK AT MOST 1048576: true; the input reads as it did. -/
def clearanceIssueSpecUptoRow : OpenClaim := { program := "ytjebmcbpiobbaaa", sum := "1c78b7e7fe5222cee5f7665f980759b88839ab034f5e8a70de1a663d34a7d32d", func := "overflight/overflightlaw34.ClearanceIssueSpec", spec := "clearanceIssueSpec", unfollowed := true, recurses := true, apart := false, narrowed := true }
def ClearanceIssueSpecUptoSaid : Prop := clearanceIssueSpecUptoRow.holds Try.pinned (OpenSpec.upto clearanceIssueSpecSpec)

/-- 'overflightlaw34.ClearanceReadSpec', WHERE WHAT IT READS IS OF BULK AT MOST 1048576: true; the input reads as it did. -/
def clearanceReadSpecUptoRow : OpenClaim := { program := "ytjebmcbpiobbaaa", sum := "1c78b7e7fe5222cee5f7665f980759b88839ab034f5e8a70de1a663d34a7d32d", func := "overflight/overflightlaw34.ClearanceReadSpec", spec := "clearanceReadSpec", unfollowed := true, recurses := true, apart := false, narrowed := true }
def ClearanceReadSpecUptoSaid : Prop := clearanceReadSpecUptoRow.holds Try.pinned (OpenSpec.upto clearanceReadSpecSpec)

/-- 'overflightlaw34.ClearanceKept', WHERE WHAT IT READS IS OF BULK AT MOST 1048576: true; the input reads as it did. -/
def clearanceKeptUptoRow : OpenClaim := { program := "ytjebmcbpiobbaaa", sum := "1c78b7e7fe5222cee5f7665f980759b88839ab034f5e8a70de1a663d34a7d32d", func := "overflight/overflightlaw34.ClearanceKept", spec := "clearanceKept", unfollowed := true, recurses := true, apart := false, narrowed := true }
def ClearanceKeptUptoSaid : Prop := clearanceKeptUptoRow.holds Try.pinned (OpenSpec.upto clearanceKeptSpec)

/-- 'overflightlaw34.ClearanceOne', WHERE WHAT IT READS IS OF BULK AT MOST 1048576: true; the input reads as it did. -/
def clearanceOneUptoRow : OpenClaim := { program := "ytjebmcbpiobbaaa", sum := "1c78b7e7fe5222cee5f7665f980759b88839ab034f5e8a70de1a663d34a7d32d", func := "overflight/overflightlaw34.ClearanceOne", spec := "clearanceOne", unfollowed := true, recurses := true, apart := false, narrowed := true }
def ClearanceOneUptoSaid : Prop := clearanceOneUptoRow.holds Try.pinned (OpenSpec.upto clearanceOneSpec)

/-- 'overflightlaw34.ClearanceAgain', WHERE WHAT IT READS IS OF BULK AT MOST 1048576: true; the input reads as it did. -/
def clearanceAgainUptoRow : OpenClaim := { program := "ytjebmcbpiobbaaa", sum := "1c78b7e7fe5222cee5f7665f980759b88839ab034f5e8a70de1a663d34a7d32d", func := "overflight/overflightlaw34.ClearanceAgain", spec := "clearanceAgain", unfollowed := true, recurses := true, apart := false, narrowed := true }
def ClearanceAgainUptoSaid : Prop := clearanceAgainUptoRow.holds Try.pinned (OpenSpec.upto clearanceAgainSpec)

/-- 'overflightlaw34.ClearanceAnew', WHERE WHAT IT READS IS OF BULK AT MOST 1048576: true; the input reads as it did. -/
def clearanceAnewUptoRow : OpenClaim := { program := "ytjebmcbpiobbaaa", sum := "1c78b7e7fe5222cee5f7665f980759b88839ab034f5e8a70de1a663d34a7d32d", func := "overflight/overflightlaw34.ClearanceAnew", spec := "clearanceAnew", unfollowed := true, recurses := true, apart := false, narrowed := true }
def ClearanceAnewUptoSaid : Prop := clearanceAnewUptoRow.holds Try.pinned (OpenSpec.upto clearanceAnewSpec)

/-- 'overflightlaw34.ClearanceOthers', WHERE WHAT IT READS IS OF BULK AT MOST 1048576: true; the input reads as it did. -/
def clearanceOthersUptoRow : OpenClaim := { program := "ytjebmcbpiobbaaa", sum := "1c78b7e7fe5222cee5f7665f980759b88839ab034f5e8a70de1a663d34a7d32d", func := "overflight/overflightlaw34.ClearanceOthers", spec := "clearanceOthers", unfollowed := true, recurses := true, apart := false, narrowed := true }
def ClearanceOthersUptoSaid : Prop := clearanceOthersUptoRow.holds Try.pinned (OpenSpec.upto clearanceOthersSpec)

end Rows
end Go.Proofs.Ytjebmcbpiobbaaa
