/-
  No cell of these rows narrows 'for every input' (looked for: loops, veiled, ifaces, maps, wideKeys, modest, calm, conditions, laid).
  DERIVED. THE GIVEN ROWS OF THIS SEAT. 6 by the template 'for every input the law returns true; each argument reads behind the call as it read before'; 0 by the template 'total and deterministic' (their statements: YtjiojpoiocdnmaaGreatTotals.lean).
  GIVEN WITH THE SEED: the statements are not yours to turn. If you find one false, say at which input.
  Laid BY PROGRAM, IN A SANDBOX (cutbox-rows.mjs): the forced cells as the released guide's own fill.sh prints them over the translation c4bc918bf5998781… (all of the seat's roots in one cut). By AI agents, Wed Nov 11 2026. No macro, syntax, notation, axiom, sorry.
-/
import Derived.Test.YtjiojpoiocdnmaaGreatChecked
import GoSem.Claim
import GoSem.ClaimJoined
import GoSem.ClaimMapViews
import Derived.JoinedTies
import Derived.KernelRfl
namespace Go.Proofs.YtjiojpoiocdnmaaGreat
/- THE CELL 'sum', in the pinned program and in every row, IS THE sha256 OF THE DUMP (.gsa) THAT YtjiojpoiocdnmaaGreatProg.lean LOADS. Nothing in Lean hashes anything: it is a label: what it is worth is what the hold of that sum in a sandbox is worth. -/
noncomputable def Tryz.pinned : Pinned := { name := "ytjiojpoiocdnmaagreat", sum := "c4bc918bf599878181970faa459b38e5acdc6ef938186d078e11322a5eb2f71c", checked := Tryz.checked }
namespace Rows
def none {H : Type} : Left H := { results := [], args := [] }

/-- 'overflightlaw24.WorldsMore': WHATEVER THE INPUT: true; the input reads as it did. -/
def worldsMoreSpec : ChangeSpec := { name := "worldsMore", fn := fun _ => fun
  | [d1, d2, d3, d4, d5, d6] => { results := [.lit (.bool true)], args := [d1, d2, d3, d4, d5, d6] }
  | _ => none }
def worldsMoreRow : OpenClaim := { program := "ytjiojpoiocdnmaagreat", sum := "c4bc918bf599878181970faa459b38e5acdc6ef938186d078e11322a5eb2f71c", func := "overflight/overflightlaw24.WorldsMore", spec := "worldsMore", inPlace := ["internal/bytealg.IndexByteString"], unfollowed := true, recurses := true, plainKeys := false, apart := false }
def WorldsMoreSaid : Prop := worldsMoreRow.holds Tryz.pinned (OpenSpec.ofChange worldsMoreSpec)

/-- ITS FALSE NEIGHBOUR: 'it returns false'. Refute it at one input. -/
def worldsMoreWrong : ChangeSpec := { name := "worldsMore", fn := fun _ => fun
  | [d1, d2, d3, d4, d5, d6] => { results := [.lit (.bool false)], args := [d1, d2, d3, d4, d5, d6] }
  | _ => none }
def WorldsMoreWrongFalsely : Prop := worldsMoreRow.holds Tryz.pinned (OpenSpec.ofChange worldsMoreWrong)

/-- 'overflightlaw24.WorldsApart': WHATEVER THE INPUT: true; the input reads as it did. -/
def worldsApartSpec : ChangeSpec := { name := "worldsApart", fn := fun _ => fun
  | [d1, d2, d3, d4, d5, d6] => { results := [.lit (.bool true)], args := [d1, d2, d3, d4, d5, d6] }
  | _ => none }
def worldsApartRow : OpenClaim := { program := "ytjiojpoiocdnmaagreat", sum := "c4bc918bf599878181970faa459b38e5acdc6ef938186d078e11322a5eb2f71c", func := "overflight/overflightlaw24.WorldsApart", spec := "worldsApart", inPlace := ["internal/bytealg.IndexByteString"], unfollowed := true, recurses := true, plainKeys := false, apart := false }
def WorldsApartSaid : Prop := worldsApartRow.holds Tryz.pinned (OpenSpec.ofChange worldsApartSpec)

/-- ITS FALSE NEIGHBOUR: 'it returns false'. Refute it at one input. -/
def worldsApartWrong : ChangeSpec := { name := "worldsApart", fn := fun _ => fun
  | [d1, d2, d3, d4, d5, d6] => { results := [.lit (.bool false)], args := [d1, d2, d3, d4, d5, d6] }
  | _ => none }
def WorldsApartWrongFalsely : Prop := worldsApartRow.holds Tryz.pinned (OpenSpec.ofChange worldsApartWrong)

/-- 'overflightlaw24.WorldsCheckSpec': WHATEVER THE INPUT: true; the input reads as it did. -/
def worldsCheckSpecSpec : ChangeSpec := { name := "worldsCheckSpec", fn := fun _ => fun
  | [d1, d2, d3, d4, d5] => { results := [.lit (.bool true)], args := [d1, d2, d3, d4, d5] }
  | _ => none }
def worldsCheckSpecRow : OpenClaim := { program := "ytjiojpoiocdnmaagreat", sum := "c4bc918bf599878181970faa459b38e5acdc6ef938186d078e11322a5eb2f71c", func := "overflight/overflightlaw24.WorldsCheckSpec", spec := "worldsCheckSpec", inPlace := ["internal/bytealg.IndexByteString"], unfollowed := true, recurses := true, plainKeys := false, apart := false }
def WorldsCheckSpecSaid : Prop := worldsCheckSpecRow.holds Tryz.pinned (OpenSpec.ofChange worldsCheckSpecSpec)

/-- ITS FALSE NEIGHBOUR: 'it returns false'. Refute it at one input. -/
def worldsCheckSpecWrong : ChangeSpec := { name := "worldsCheckSpec", fn := fun _ => fun
  | [d1, d2, d3, d4, d5] => { results := [.lit (.bool false)], args := [d1, d2, d3, d4, d5] }
  | _ => none }
def WorldsCheckSpecWrongFalsely : Prop := worldsCheckSpecRow.holds Tryz.pinned (OpenSpec.ofChange worldsCheckSpecWrong)

/-- 'overflightlaw24.WorldsSpec': WHATEVER THE INPUT: true; the input reads as it did. -/
def worldsSpecSpec : ChangeSpec := { name := "worldsSpec", fn := fun _ => fun
  | [d1, d2, d3, d4] => { results := [.lit (.bool true)], args := [d1, d2, d3, d4] }
  | _ => none }
def worldsSpecRow : OpenClaim := { program := "ytjiojpoiocdnmaagreat", sum := "c4bc918bf599878181970faa459b38e5acdc6ef938186d078e11322a5eb2f71c", func := "overflight/overflightlaw24.WorldsSpec", spec := "worldsSpec", inPlace := ["internal/bytealg.IndexByteString"], unfollowed := true, recurses := true, plainKeys := false, apart := false }
def WorldsSpecSaid : Prop := worldsSpecRow.holds Tryz.pinned (OpenSpec.ofChange worldsSpecSpec)

/-- ITS FALSE NEIGHBOUR: 'it returns false'. Refute it at one input. -/
def worldsSpecWrong : ChangeSpec := { name := "worldsSpec", fn := fun _ => fun
  | [d1, d2, d3, d4] => { results := [.lit (.bool false)], args := [d1, d2, d3, d4] }
  | _ => none }
def WorldsSpecWrongFalsely : Prop := worldsSpecRow.holds Tryz.pinned (OpenSpec.ofChange worldsSpecWrong)

/-- 'overflightlaw24.WorldsExact': WHATEVER THE INPUT: true; the input reads as it did. -/
def worldsExactSpec : ChangeSpec := { name := "worldsExact", fn := fun _ => fun
  | [d1, d2, d3, d4] => { results := [.lit (.bool true)], args := [d1, d2, d3, d4] }
  | _ => none }
def worldsExactRow : OpenClaim := { program := "ytjiojpoiocdnmaagreat", sum := "c4bc918bf599878181970faa459b38e5acdc6ef938186d078e11322a5eb2f71c", func := "overflight/overflightlaw24.WorldsExact", spec := "worldsExact", inPlace := ["internal/bytealg.IndexByteString"], unfollowed := true, recurses := true, plainKeys := false, apart := false }
def WorldsExactSaid : Prop := worldsExactRow.holds Tryz.pinned (OpenSpec.ofChange worldsExactSpec)

/-- ITS FALSE NEIGHBOUR: 'it returns false'. Refute it at one input. -/
def worldsExactWrong : ChangeSpec := { name := "worldsExact", fn := fun _ => fun
  | [d1, d2, d3, d4] => { results := [.lit (.bool false)], args := [d1, d2, d3, d4] }
  | _ => none }
def WorldsExactWrongFalsely : Prop := worldsExactRow.holds Tryz.pinned (OpenSpec.ofChange worldsExactWrong)

/-- 'overflightlaw24.WorldsTrue': WHATEVER THE INPUT: true; the input reads as it did. -/
def worldsTrueSpec : ChangeSpec := { name := "worldsTrue", fn := fun _ => fun
  | [d1, d2, d3, d4, d5, d6, d7] => { results := [.lit (.bool true)], args := [d1, d2, d3, d4, d5, d6, d7] }
  | _ => none }
def worldsTrueRow : OpenClaim := { program := "ytjiojpoiocdnmaagreat", sum := "c4bc918bf599878181970faa459b38e5acdc6ef938186d078e11322a5eb2f71c", func := "overflight/overflightlaw24.WorldsTrue", spec := "worldsTrue", inPlace := ["internal/bytealg.IndexByteString"], unfollowed := true, recurses := true, plainKeys := false, apart := false }
def WorldsTrueSaid : Prop := worldsTrueRow.holds Tryz.pinned (OpenSpec.ofChange worldsTrueSpec)

/-- ITS FALSE NEIGHBOUR: 'it returns false'. Refute it at one input. -/
def worldsTrueWrong : ChangeSpec := { name := "worldsTrue", fn := fun _ => fun
  | [d1, d2, d3, d4, d5, d6, d7] => { results := [.lit (.bool false)], args := [d1, d2, d3, d4, d5, d6, d7] }
  | _ => none }
def WorldsTrueWrongFalsely : Prop := worldsTrueRow.holds Tryz.pinned (OpenSpec.ofChange worldsTrueWrong)

/- THE SECOND FORM. 'bulk': how many values and letters a reading holds, each counted each time it is reached (what is shared counts as often as it is met; a slice's spare places count too). A statement '..UptoSaid' is the law's where the arguments, and the package variables that the reading takes, are together of bulk at most 1048576: NARROWER than '..Said'. Prove '..Said' where nothing that the law and all that it calls make is longer than what came in: it says more and counts as full. Else prove '..UptoSaid'. A law counts once. -/
mutual
def uptoBulk {H : Type} : DataW H → Nat
  | .lit (.string bytes) => bytes.length + 1
  | .lit _ => 1
  | .nil => 1
  | .ptr d => uptoBulk d + 1
  | .slice elems spare => uptoBulkAll elems + uptoBulkAll spare + 1
  | .agg parts => uptoBulkAll parts + 1
  | .iface _ d => uptoBulk d + 1
  | .map entries => uptoBulkEntries entries + 1
  | .held _ => 1
def uptoBulkAll {H : Type} : List (DataW H) → Nat
  | [] => 0
  | d :: r => uptoBulk d + uptoBulkAll r
def uptoBulkEntries {H : Type} : List (Lit × DataW H) → Nat
  | [] => 0
  | x :: r => uptoBulkEntry x + uptoBulkEntries r
def uptoBulkEntry {H : Type} : Lit × DataW H → Nat
  | (.string bytes, d) => bytes.length + uptoBulk d + 1
  | (_, d) => uptoBulk d + 1
 end
def uptoSmall : (H : Type) → List (DataW H) → Bool := fun _ ds => decide (uptoBulkAll ds ≤ 1048576)
def OpenSpec.upto (s : _root_.Go.ChangeSpec) : _root_.Go.OpenSpec := { _root_.Go.OpenSpec.ofChange s with cond := some uptoSmall }

/-- 'overflightlaw24.WorldsMore', WHERE WHAT IT READS IS OF BULK AT MOST 1048576: true; the input reads as it did. -/
def worldsMoreUptoRow : OpenClaim := { program := "ytjiojpoiocdnmaagreat", sum := "c4bc918bf599878181970faa459b38e5acdc6ef938186d078e11322a5eb2f71c", func := "overflight/overflightlaw24.WorldsMore", spec := "worldsMore", inPlace := ["internal/bytealg.IndexByteString"], unfollowed := true, recurses := true, plainKeys := false, apart := false, narrowed := true }
def WorldsMoreUptoSaid : Prop := worldsMoreUptoRow.holds Tryz.pinned (OpenSpec.upto worldsMoreSpec)

/-- 'overflightlaw24.WorldsApart', WHERE WHAT IT READS IS OF BULK AT MOST 1048576: true; the input reads as it did. -/
def worldsApartUptoRow : OpenClaim := { program := "ytjiojpoiocdnmaagreat", sum := "c4bc918bf599878181970faa459b38e5acdc6ef938186d078e11322a5eb2f71c", func := "overflight/overflightlaw24.WorldsApart", spec := "worldsApart", inPlace := ["internal/bytealg.IndexByteString"], unfollowed := true, recurses := true, plainKeys := false, apart := false, narrowed := true }
def WorldsApartUptoSaid : Prop := worldsApartUptoRow.holds Tryz.pinned (OpenSpec.upto worldsApartSpec)

/-- 'overflightlaw24.WorldsCheckSpec', WHERE WHAT IT READS IS OF BULK AT MOST 1048576: true; the input reads as it did. -/
def worldsCheckSpecUptoRow : OpenClaim := { program := "ytjiojpoiocdnmaagreat", sum := "c4bc918bf599878181970faa459b38e5acdc6ef938186d078e11322a5eb2f71c", func := "overflight/overflightlaw24.WorldsCheckSpec", spec := "worldsCheckSpec", inPlace := ["internal/bytealg.IndexByteString"], unfollowed := true, recurses := true, plainKeys := false, apart := false, narrowed := true }
def WorldsCheckSpecUptoSaid : Prop := worldsCheckSpecUptoRow.holds Tryz.pinned (OpenSpec.upto worldsCheckSpecSpec)

/-- 'overflightlaw24.WorldsSpec', WHERE WHAT IT READS IS OF BULK AT MOST 1048576: true; the input reads as it did. -/
def worldsSpecUptoRow : OpenClaim := { program := "ytjiojpoiocdnmaagreat", sum := "c4bc918bf599878181970faa459b38e5acdc6ef938186d078e11322a5eb2f71c", func := "overflight/overflightlaw24.WorldsSpec", spec := "worldsSpec", inPlace := ["internal/bytealg.IndexByteString"], unfollowed := true, recurses := true, plainKeys := false, apart := false, narrowed := true }
def WorldsSpecUptoSaid : Prop := worldsSpecUptoRow.holds Tryz.pinned (OpenSpec.upto worldsSpecSpec)

/-- 'overflightlaw24.WorldsExact', WHERE WHAT IT READS IS OF BULK AT MOST 1048576: true; the input reads as it did. -/
def worldsExactUptoRow : OpenClaim := { program := "ytjiojpoiocdnmaagreat", sum := "c4bc918bf599878181970faa459b38e5acdc6ef938186d078e11322a5eb2f71c", func := "overflight/overflightlaw24.WorldsExact", spec := "worldsExact", inPlace := ["internal/bytealg.IndexByteString"], unfollowed := true, recurses := true, plainKeys := false, apart := false, narrowed := true }
def WorldsExactUptoSaid : Prop := worldsExactUptoRow.holds Tryz.pinned (OpenSpec.upto worldsExactSpec)

/-- 'overflightlaw24.WorldsTrue', WHERE WHAT IT READS IS OF BULK AT MOST 1048576: true; the input reads as it did. -/
def worldsTrueUptoRow : OpenClaim := { program := "ytjiojpoiocdnmaagreat", sum := "c4bc918bf599878181970faa459b38e5acdc6ef938186d078e11322a5eb2f71c", func := "overflight/overflightlaw24.WorldsTrue", spec := "worldsTrue", inPlace := ["internal/bytealg.IndexByteString"], unfollowed := true, recurses := true, plainKeys := false, apart := false, narrowed := true }
def WorldsTrueUptoSaid : Prop := worldsTrueUptoRow.holds Tryz.pinned (OpenSpec.upto worldsTrueSpec)

end Rows
end Go.Proofs.YtjiojpoiocdnmaaGreat
