/-
  No cell of these rows narrows 'for every input' (looked for: loops, veiled, ifaces, maps, wideKeys, modest, calm, conditions, laid).
  DERIVED. THE GIVEN ROWS OF THIS SEAT. 3 by the template 'for every input the law returns true; each argument reads behind the call as it read before'; 0 by the template 'total and deterministic' (their statements: YtafglcalimcdcaaTotals.lean).
  GIVEN WITH THE SEED: the statements are not yours to turn. If you find one false, say at which input.
  Laid BY PROGRAM, IN A SANDBOX (cutbox-rows.mjs): the forced cells as the released guide's own fill.sh prints them over the translation ca57b3d9aad16a1e… (all of the seat's roots in one cut). By AI agents, Wed Nov 11 2026. No macro, syntax, notation, axiom, sorry.
-/
import Derived.Test.YtafglcalimcdcaaChecked
import GoSem.Claim
import GoSem.ClaimJoined
import GoSem.ClaimMapViews
import Derived.JoinedTies
import Derived.KernelRfl
namespace Go.Proofs.Ytafglcalimcdcaa
/- THE CELL 'sum', in the pinned program and in every row, IS THE sha256 OF THE DUMP (.gsa) THAT YtafglcalimcdcaaProg.lean LOADS. Nothing in Lean hashes anything: it is a label: what it is worth is what the hold of that sum in a sandbox is worth. -/
noncomputable def Try.pinned : Pinned := { name := "ytafglcalimcdcaa", sum := "ca57b3d9aad16a1ec14c3a3dd58e7122bdba2700173c24480218cb79f5c115d1", checked := Try.checked }
namespace Rows
def none {H : Type} : Left H := { results := [], args := [] }

/-- 'overflightlaw39.CreditsEarnSpec': WHATEVER THE INPUT: true; the input reads as it did. -/
def creditsEarnSpecSpec : ChangeSpec := { name := "creditsEarnSpec", fn := fun _ => fun
  | [d1, d2] => { results := [.lit (.bool true)], args := [d1, d2] }
  | _ => none }
def creditsEarnSpecRow : OpenClaim := { program := "ytafglcalimcdcaa", sum := "ca57b3d9aad16a1ec14c3a3dd58e7122bdba2700173c24480218cb79f5c115d1", func := "overflight/overflightlaw39.CreditsEarnSpec", spec := "creditsEarnSpec", inPlace := ["slices.overlaps[overflight/api.Credit]"], unfollowed := true, recurses := true, apart := false }
def CreditsEarnSpecSaid : Prop := creditsEarnSpecRow.holds Try.pinned (OpenSpec.ofChange creditsEarnSpecSpec)

/-- ITS FALSE NEIGHBOUR: 'it returns false'. Refute it at one input. -/
def creditsEarnSpecWrong : ChangeSpec := { name := "creditsEarnSpec", fn := fun _ => fun
  | [d1, d2] => { results := [.lit (.bool false)], args := [d1, d2] }
  | _ => none }
def CreditsEarnSpecWrongFalsely : Prop := creditsEarnSpecRow.holds Try.pinned (OpenSpec.ofChange creditsEarnSpecWrong)

/-- 'overflightlaw39.CreditsExpireSpec': WHATEVER THE INPUT: true; the input reads as it did. -/
def creditsExpireSpecSpec : ChangeSpec := { name := "creditsExpireSpec", fn := fun _ => fun
  | [d1, d2] => { results := [.lit (.bool true)], args := [d1, d2] }
  | _ => none }
def creditsExpireSpecRow : OpenClaim := { program := "ytafglcalimcdcaa", sum := "ca57b3d9aad16a1ec14c3a3dd58e7122bdba2700173c24480218cb79f5c115d1", func := "overflight/overflightlaw39.CreditsExpireSpec", spec := "creditsExpireSpec", inPlace := ["slices.overlaps[overflight/api.Credit]"], unfollowed := true, recurses := true, apart := false }
def CreditsExpireSpecSaid : Prop := creditsExpireSpecRow.holds Try.pinned (OpenSpec.ofChange creditsExpireSpecSpec)

/-- ITS FALSE NEIGHBOUR: 'it returns false'. Refute it at one input. -/
def creditsExpireSpecWrong : ChangeSpec := { name := "creditsExpireSpec", fn := fun _ => fun
  | [d1, d2] => { results := [.lit (.bool false)], args := [d1, d2] }
  | _ => none }
def CreditsExpireSpecWrongFalsely : Prop := creditsExpireSpecRow.holds Try.pinned (OpenSpec.ofChange creditsExpireSpecWrong)

/-- 'overflightlaw39.CreditsTurned': WHATEVER THE INPUT: true; the input reads as it did. -/
def creditsTurnedSpec : ChangeSpec := { name := "creditsTurned", fn := fun _ => fun
  | [d1, d2, d3] => { results := [.lit (.bool true)], args := [d1, d2, d3] }
  | _ => none }
def creditsTurnedRow : OpenClaim := { program := "ytafglcalimcdcaa", sum := "ca57b3d9aad16a1ec14c3a3dd58e7122bdba2700173c24480218cb79f5c115d1", func := "overflight/overflightlaw39.CreditsTurned", spec := "creditsTurned", inPlace := ["slices.overlaps[overflight/api.Credit]"], unfollowed := true, recurses := true, apart := false }
def CreditsTurnedSaid : Prop := creditsTurnedRow.holds Try.pinned (OpenSpec.ofChange creditsTurnedSpec)

/-- ITS FALSE NEIGHBOUR: 'it returns false'. Refute it at one input. -/
def creditsTurnedWrong : ChangeSpec := { name := "creditsTurned", fn := fun _ => fun
  | [d1, d2, d3] => { results := [.lit (.bool false)], args := [d1, d2, d3] }
  | _ => none }
def CreditsTurnedWrongFalsely : Prop := creditsTurnedRow.holds Try.pinned (OpenSpec.ofChange creditsTurnedWrong)

/- THE SECOND FORM. 'bulk': how many values and letters a reading holds, each counted each time it is reached (what is shared counts as often as it is met; a slice's spare places count too). A statement '..UptoSaid' is the law's where the arguments, and the package variables that the reading takes, are together of bulk at most 1048576: NARROWER than '..Said'. Prove '..Said' where nothing that the law and all that it calls make is longer than what came in: it says more and counts as full. Else prove '..UptoSaid'. A law counts once. -/
mutual
def uptoBulk {H : Type} : DataW H → Nat
  | .lit (.string bytes) => bytes.length + 1
  | .lit _ => 1
  | .nil => 1
  | .ptr d => uptoBulk d + 1
  | .slice elems spare => uptoBulkAll elems + uptoBulkAll spare + 1
  | .agg parts => uptoBulkAll parts + 1
  | .iface _ d => uptoBulk d + 1
  | .map entries => uptoBulkEntries entries + 1
  | .held _ => 1
def uptoBulkAll {H : Type} : List (DataW H) → Nat
  | [] => 0
  | d :: r => uptoBulk d + uptoBulkAll r
def uptoBulkEntries {H : Type} : List (Lit × DataW H) → Nat
  | [] => 0
  | x :: r => uptoBulkEntry x + uptoBulkEntries r
def uptoBulkEntry {H : Type} : Lit × DataW H → Nat
  | (.string bytes, d) => bytes.length + uptoBulk d + 1
  | (_, d) => uptoBulk d + 1
 end
def uptoSmall : (H : Type) → List (DataW H) → Bool := fun _ ds => decide (uptoBulkAll ds ≤ 1048576)
def OpenSpec.upto (s : _root_.Go.ChangeSpec) : _root_.Go.OpenSpec := { _root_.Go.OpenSpec.ofChange s with cond := some uptoSmall }

/-- 'overflightlaw39.CreditsEarnSpec', WHERE WHAT IT READS IS OF BULK AT MOST 1048576: true; the input reads as it did. -/
def creditsEarnSpecUptoRow : OpenClaim := { program := "ytafglcalimcdcaa", sum := "ca57b3d9aad16a1ec14c3a3dd58e7122bdba2700173c24480218cb79f5c115d1", func := "overflight/overflightlaw39.CreditsEarnSpec", spec := "creditsEarnSpec", inPlace := ["slices.overlaps[overflight/api.Credit]"], unfollowed := true, recurses := true, apart := false, narrowed := true }
def CreditsEarnSpecUptoSaid : Prop := creditsEarnSpecUptoRow.holds Try.pinned (OpenSpec.upto creditsEarnSpecSpec)

/-- 'overflightlaw39.CreditsExpireSpec', WHERE WHAT IT READS IS OF BULK AT MOST 1048576: true; the input reads as it did. -/
def creditsExpireSpecUptoRow : OpenClaim := { program := "ytafglcalimcdcaa", sum := "ca57b3d9aad16a1ec14c3a3dd58e7122bdba2700173c24480218cb79f5c115d1", func := "overflight/overflightlaw39.CreditsExpireSpec", spec := "creditsExpireSpec", inPlace := ["slices.overlaps[overflight/api.Credit]"], unfollowed := true, recurses := true, apart := false, narrowed := true }
def CreditsExpireSpecUptoSaid : Prop := creditsExpireSpecUptoRow.holds Try.pinned (OpenSpec.upto creditsExpireSpecSpec)

/-- 'overflightlaw39.CreditsTurned', WHERE WHAT IT READS IS OF BULK AT MOST 1048576: true; the input reads as it did. -/
def creditsTurnedUptoRow : OpenClaim := { program := "ytafglcalimcdcaa", sum := "ca57b3d9aad16a1ec14c3a3dd58e7122bdba2700173c24480218cb79f5c115d1", func := "overflight/overflightlaw39.CreditsTurned", spec := "creditsTurned", inPlace := ["slices.overlaps[overflight/api.Credit]"], unfollowed := true, recurses := true, apart := false, narrowed := true }
def CreditsTurnedUptoSaid : Prop := creditsTurnedUptoRow.holds Try.pinned (OpenSpec.upto creditsTurnedSpec)

end Rows
end Go.Proofs.Ytafglcalimcdcaa
