/-
  No cell of these rows narrows 'for every input' (looked for: loops, veiled, ifaces, maps, wideKeys, modest, calm, conditions, laid).
  DERIVED. THE GIVEN ROWS OF THIS SEAT. 5 by the template 'for every input the law returns true; each argument reads behind the call as it read before'; 0 by the template 'total and deterministic' (their statements: YtmgpbjpohbpgpaaTotals.lean).
  GIVEN WITH THE SEED: the statements are not yours to turn. If you find one false, say at which input.
  Laid BY PROGRAM, IN A SANDBOX (cutbox-rows.mjs): the forced cells as the released guide's own fill.sh prints them over the translation 86fb6e7931c7d01b… (all of the seat's roots in one cut). By AI agents, Wed Nov 11 2026. No macro, syntax, notation, axiom, sorry.
-/
import Derived.Test.YtmgpbjpohbpgpaaChecked
import GoSem.Claim
import GoSem.ClaimJoined
import GoSem.ClaimMapViews
import Derived.JoinedTies
import Derived.KernelRfl
namespace Go.Proofs.Ytmgpbjpohbpgpaa
/- THE CELL 'sum', in the pinned program and in every row, IS THE sha256 OF THE DUMP (.gsa) THAT YtmgpbjpohbpgpaaProg.lean LOADS. Nothing in Lean hashes anything: it is a label: what it is worth is what the hold of that sum in a sandbox is worth. -/
noncomputable def Try.pinned : Pinned := { name := "ytmgpbjpohbpgpaa", sum := "86fb6e7931c7d01b5ea0f183951abfef4ec2bb59804c755caf8ffcaf7a136571", checked := Try.checked }
namespace Rows
def none {H : Type} : Left H := { results := [], args := [] }

/-- 'overflightlaw13.RulesReasonSpec': WHATEVER THE INPUT: true; the input reads as it did. -/
def rulesReasonSpecSpec : ChangeSpec := { name := "rulesReasonSpec", fn := fun _ => fun
  | [d] => { results := [.lit (.bool true)], args := [d] }
  | _ => none }
def rulesReasonSpecRow : OpenClaim := { program := "ytmgpbjpohbpgpaa", sum := "86fb6e7931c7d01b5ea0f183951abfef4ec2bb59804c755caf8ffcaf7a136571", func := "overflight/overflightlaw13.RulesReasonSpec", spec := "rulesReasonSpec", unfollowed := true, recurses := true, apart := false }
def RulesReasonSpecSaid : Prop := rulesReasonSpecRow.holds Try.pinned (OpenSpec.ofChange rulesReasonSpecSpec)

/-- ITS FALSE NEIGHBOUR: 'it returns false'. Refute it at one input. -/
def rulesReasonSpecWrong : ChangeSpec := { name := "rulesReasonSpec", fn := fun _ => fun
  | [d] => { results := [.lit (.bool false)], args := [d] }
  | _ => none }
def RulesReasonSpecWrongFalsely : Prop := rulesReasonSpecRow.holds Try.pinned (OpenSpec.ofChange rulesReasonSpecWrong)

/-- 'overflightlaw13.RulesMore': WHATEVER THE INPUT: true; the input reads as it did. -/
def rulesMoreSpec : ChangeSpec := { name := "rulesMore", fn := fun _ => fun
  | [d1, d2, d3] => { results := [.lit (.bool true)], args := [d1, d2, d3] }
  | _ => none }
def rulesMoreRow : OpenClaim := { program := "ytmgpbjpohbpgpaa", sum := "86fb6e7931c7d01b5ea0f183951abfef4ec2bb59804c755caf8ffcaf7a136571", func := "overflight/overflightlaw13.RulesMore", spec := "rulesMore", unfollowed := true, recurses := true, apart := false }
def RulesMoreSaid : Prop := rulesMoreRow.holds Try.pinned (OpenSpec.ofChange rulesMoreSpec)

/-- ITS FALSE NEIGHBOUR: 'it returns false'. Refute it at one input. -/
def rulesMoreWrong : ChangeSpec := { name := "rulesMore", fn := fun _ => fun
  | [d1, d2, d3] => { results := [.lit (.bool false)], args := [d1, d2, d3] }
  | _ => none }
def RulesMoreWrongFalsely : Prop := rulesMoreRow.holds Try.pinned (OpenSpec.ofChange rulesMoreWrong)

/-- 'overflightlaw13.RulesMinutes': WHATEVER THE INPUT: true; the input reads as it did. -/
def rulesMinutesSpec : ChangeSpec := { name := "rulesMinutes", fn := fun _ => fun
  | [d1, d2, d3, d4] => { results := [.lit (.bool true)], args := [d1, d2, d3, d4] }
  | _ => none }
def rulesMinutesRow : OpenClaim := { program := "ytmgpbjpohbpgpaa", sum := "86fb6e7931c7d01b5ea0f183951abfef4ec2bb59804c755caf8ffcaf7a136571", func := "overflight/overflightlaw13.RulesMinutes", spec := "rulesMinutes", unfollowed := true, recurses := true, apart := false }
def RulesMinutesSaid : Prop := rulesMinutesRow.holds Try.pinned (OpenSpec.ofChange rulesMinutesSpec)

/-- ITS FALSE NEIGHBOUR: 'it returns false'. Refute it at one input. -/
def rulesMinutesWrong : ChangeSpec := { name := "rulesMinutes", fn := fun _ => fun
  | [d1, d2, d3, d4] => { results := [.lit (.bool false)], args := [d1, d2, d3, d4] }
  | _ => none }
def RulesMinutesWrongFalsely : Prop := rulesMinutesRow.holds Try.pinned (OpenSpec.ofChange rulesMinutesWrong)

/-- 'overflightlaw13.RulesMinimal': WHATEVER THE INPUT: true; the input reads as it did. -/
def rulesMinimalSpec : ChangeSpec := { name := "rulesMinimal", fn := fun _ => fun
  | [d] => { results := [.lit (.bool true)], args := [d] }
  | _ => none }
def rulesMinimalRow : OpenClaim := { program := "ytmgpbjpohbpgpaa", sum := "86fb6e7931c7d01b5ea0f183951abfef4ec2bb59804c755caf8ffcaf7a136571", func := "overflight/overflightlaw13.RulesMinimal", spec := "rulesMinimal", unfollowed := true, recurses := true, apart := false }
def RulesMinimalSaid : Prop := rulesMinimalRow.holds Try.pinned (OpenSpec.ofChange rulesMinimalSpec)

/-- ITS FALSE NEIGHBOUR: 'it returns false'. Refute it at one input. -/
def rulesMinimalWrong : ChangeSpec := { name := "rulesMinimal", fn := fun _ => fun
  | [d] => { results := [.lit (.bool false)], args := [d] }
  | _ => none }
def RulesMinimalWrongFalsely : Prop := rulesMinimalRow.holds Try.pinned (OpenSpec.ofChange rulesMinimalWrong)

/-- 'overflightlaw13.RulesFree': WHATEVER THE INPUT: true; the input reads as it did. -/
def rulesFreeSpec : ChangeSpec := { name := "rulesFree", fn := fun _ => fun
  | [d1, d2, d3, d4] => { results := [.lit (.bool true)], args := [d1, d2, d3, d4] }
  | _ => none }
def rulesFreeRow : OpenClaim := { program := "ytmgpbjpohbpgpaa", sum := "86fb6e7931c7d01b5ea0f183951abfef4ec2bb59804c755caf8ffcaf7a136571", func := "overflight/overflightlaw13.RulesFree", spec := "rulesFree", unfollowed := true, recurses := true, apart := false }
def RulesFreeSaid : Prop := rulesFreeRow.holds Try.pinned (OpenSpec.ofChange rulesFreeSpec)

/-- ITS FALSE NEIGHBOUR: 'it returns false'. Refute it at one input. -/
def rulesFreeWrong : ChangeSpec := { name := "rulesFree", fn := fun _ => fun
  | [d1, d2, d3, d4] => { results := [.lit (.bool false)], args := [d1, d2, d3, d4] }
  | _ => none }
def RulesFreeWrongFalsely : Prop := rulesFreeRow.holds Try.pinned (OpenSpec.ofChange rulesFreeWrong)

/- THE SECOND FORM. 'bulk': how many values and letters a reading holds, each counted each time it is reached (what is shared counts as often as it is met; a slice's spare places count too). A statement '..UptoSaid' is the law's where the arguments, and the package variables that the reading takes, are together of bulk at most 1048576: NARROWER than '..Said'. Prove '..Said' where nothing that the law and all that it calls make is longer than what came in: it says more and counts as full. Else prove '..UptoSaid'. A law counts once. -/
mutual
def uptoBulk {H : Type} : DataW H → Nat
  | .lit (.string bytes) => bytes.length + 1
  | .lit _ => 1
  | .nil => 1
  | .ptr d => uptoBulk d + 1
  | .slice elems spare => uptoBulkAll elems + uptoBulkAll spare + 1
  | .agg parts => uptoBulkAll parts + 1
  | .iface _ d => uptoBulk d + 1
  | .map entries => uptoBulkEntries entries + 1
  | .held _ => 1
def uptoBulkAll {H : Type} : List (DataW H) → Nat
  | [] => 0
  | d :: r => uptoBulk d + uptoBulkAll r
def uptoBulkEntries {H : Type} : List (Lit × DataW H) → Nat
  | [] => 0
  | x :: r => uptoBulkEntry x + uptoBulkEntries r
def uptoBulkEntry {H : Type} : Lit × DataW H → Nat
  | (.string bytes, d) => bytes.length + uptoBulk d + 1
  | (_, d) => uptoBulk d + 1
 end
def uptoSmall : (H : Type) → List (DataW H) → Bool := fun _ ds => decide (uptoBulkAll ds ≤ 1048576)
def OpenSpec.upto (s : _root_.Go.ChangeSpec) : _root_.Go.OpenSpec := { _root_.Go.OpenSpec.ofChange s with cond := some uptoSmall }

/-- 'overflightlaw13.RulesReasonSpec', WHERE WHAT IT READS IS OF BULK AT MOST 1048576: true; the input reads as it did. -/
def rulesReasonSpecUptoRow : OpenClaim := { program := "ytmgpbjpohbpgpaa", sum := "86fb6e7931c7d01b5ea0f183951abfef4ec2bb59804c755caf8ffcaf7a136571", func := "overflight/overflightlaw13.RulesReasonSpec", spec := "rulesReasonSpec", unfollowed := true, recurses := true, apart := false, narrowed := true }
def RulesReasonSpecUptoSaid : Prop := rulesReasonSpecUptoRow.holds Try.pinned (OpenSpec.upto rulesReasonSpecSpec)

/-- 'overflightlaw13.RulesMore', WHERE WHAT IT READS IS OF BULK AT MOST 1048576: true; the input reads as it did. -/
def rulesMoreUptoRow : OpenClaim := { program := "ytmgpbjpohbpgpaa", sum := "86fb6e7931c7d01b5ea0f183951abfef4ec2bb59804c755caf8ffcaf7a136571", func := "overflight/overflightlaw13.RulesMore", spec := "rulesMore", unfollowed := true, recurses := true, apart := false, narrowed := true }
def RulesMoreUptoSaid : Prop := rulesMoreUptoRow.holds Try.pinned (OpenSpec.upto rulesMoreSpec)

/-- 'overflightlaw13.RulesMinutes', WHERE WHAT IT READS IS OF BULK AT MOST 1048576: true; the input reads as it did. -/
def rulesMinutesUptoRow : OpenClaim := { program := "ytmgpbjpohbpgpaa", sum := "86fb6e7931c7d01b5ea0f183951abfef4ec2bb59804c755caf8ffcaf7a136571", func := "overflight/overflightlaw13.RulesMinutes", spec := "rulesMinutes", unfollowed := true, recurses := true, apart := false, narrowed := true }
def RulesMinutesUptoSaid : Prop := rulesMinutesUptoRow.holds Try.pinned (OpenSpec.upto rulesMinutesSpec)

/-- 'overflightlaw13.RulesMinimal', WHERE WHAT IT READS IS OF BULK AT MOST 1048576: true; the input reads as it did. -/
def rulesMinimalUptoRow : OpenClaim := { program := "ytmgpbjpohbpgpaa", sum := "86fb6e7931c7d01b5ea0f183951abfef4ec2bb59804c755caf8ffcaf7a136571", func := "overflight/overflightlaw13.RulesMinimal", spec := "rulesMinimal", unfollowed := true, recurses := true, apart := false, narrowed := true }
def RulesMinimalUptoSaid : Prop := rulesMinimalUptoRow.holds Try.pinned (OpenSpec.upto rulesMinimalSpec)

/-- 'overflightlaw13.RulesFree', WHERE WHAT IT READS IS OF BULK AT MOST 1048576: true; the input reads as it did. -/
def rulesFreeUptoRow : OpenClaim := { program := "ytmgpbjpohbpgpaa", sum := "86fb6e7931c7d01b5ea0f183951abfef4ec2bb59804c755caf8ffcaf7a136571", func := "overflight/overflightlaw13.RulesFree", spec := "rulesFree", unfollowed := true, recurses := true, apart := false, narrowed := true }
def RulesFreeUptoSaid : Prop := rulesFreeUptoRow.holds Try.pinned (OpenSpec.upto rulesFreeSpec)

end Rows
end Go.Proofs.Ytmgpbjpohbpgpaa
