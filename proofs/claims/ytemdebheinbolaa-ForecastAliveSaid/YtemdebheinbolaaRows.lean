/-
  No cell of these rows narrows 'for every input' (looked for: loops, veiled, ifaces, maps, wideKeys, modest, calm, conditions, laid).
  DERIVED. THE GIVEN ROWS OF THIS SEAT. 8 by the template 'for every input the law returns true; each argument reads behind the call as it read before'; 0 by the template 'total and deterministic' (their statements: YtemdebheinbolaaTotals.lean).
  GIVEN WITH THE SEED: the statements are not yours to turn. If you find one false, say at which input.
  Laid BY PROGRAM, IN A SANDBOX (cutbox-rows.mjs): the forced cells as the released guide's own fill.sh prints them over the translation 360c91756618fcfb… (all of the seat's roots in one cut). By AI agents, Wed Nov 11 2026. No macro, syntax, notation, axiom, sorry.
-/
import Derived.Test.YtemdebheinbolaaChecked
import GoSem.Claim
import GoSem.ClaimJoined
import GoSem.ClaimMapViews
import Derived.JoinedTies
import Derived.KernelRfl
namespace Go.Proofs.Ytemdebheinbolaa
/- THE CELL 'sum', in the pinned program and in every row, IS THE sha256 OF THE DUMP (.gsa) THAT YtemdebheinbolaaProg.lean LOADS. Nothing in Lean hashes anything: it is a label: what it is worth is what the hold of that sum in a sandbox is worth. -/
noncomputable def Try.pinned : Pinned := { name := "ytemdebheinbolaa", sum := "360c91756618fcfbe3bcf8c5c5d2ae6ea8e88668c52374414893d266097ee335", checked := Try.checked }
namespace Rows
def none {H : Type} : Left H := { results := [], args := [] }

/-- 'overflightlaw18.ForecastCheckSpec': WHATEVER THE INPUT: true; the input reads as it did. -/
def forecastCheckSpecSpec : ChangeSpec := { name := "forecastCheckSpec", fn := fun _ => fun
  | [d] => { results := [.lit (.bool true)], args := [d] }
  | _ => none }
def forecastCheckSpecRow : OpenClaim := { program := "ytemdebheinbolaa", sum := "360c91756618fcfbe3bcf8c5c5d2ae6ea8e88668c52374414893d266097ee335", func := "overflight/overflightlaw18.ForecastCheckSpec", spec := "forecastCheckSpec", unfollowed := true, recurses := true, apart := false }
def ForecastCheckSpecSaid : Prop := forecastCheckSpecRow.holds Try.pinned (OpenSpec.ofChange forecastCheckSpecSpec)

/-- ITS FALSE NEIGHBOUR: 'it returns false'. Refute it at one input. -/
def forecastCheckSpecWrong : ChangeSpec := { name := "forecastCheckSpec", fn := fun _ => fun
  | [d] => { results := [.lit (.bool false)], args := [d] }
  | _ => none }
def ForecastCheckSpecWrongFalsely : Prop := forecastCheckSpecRow.holds Try.pinned (OpenSpec.ofChange forecastCheckSpecWrong)

/-- 'overflightlaw18.ForecastAtSpec': WHATEVER THE INPUT: true; the input reads as it did. -/
def forecastAtSpecSpec : ChangeSpec := { name := "forecastAtSpec", fn := fun _ => fun
  | [d1, d2, d3, d4] => { results := [.lit (.bool true)], args := [d1, d2, d3, d4] }
  | _ => none }
def forecastAtSpecRow : OpenClaim := { program := "ytemdebheinbolaa", sum := "360c91756618fcfbe3bcf8c5c5d2ae6ea8e88668c52374414893d266097ee335", func := "overflight/overflightlaw18.ForecastAtSpec", spec := "forecastAtSpec", unfollowed := true, recurses := true, apart := false }
def ForecastAtSpecSaid : Prop := forecastAtSpecRow.holds Try.pinned (OpenSpec.ofChange forecastAtSpecSpec)

/-- ITS FALSE NEIGHBOUR: 'it returns false'. Refute it at one input. -/
def forecastAtSpecWrong : ChangeSpec := { name := "forecastAtSpec", fn := fun _ => fun
  | [d1, d2, d3, d4] => { results := [.lit (.bool false)], args := [d1, d2, d3, d4] }
  | _ => none }
def ForecastAtSpecWrongFalsely : Prop := forecastAtSpecRow.holds Try.pinned (OpenSpec.ofChange forecastAtSpecWrong)

/-- 'overflightlaw18.ForecastLessSpec': WHATEVER THE INPUT: true; the input reads as it did. -/
def forecastLessSpecSpec : ChangeSpec := { name := "forecastLessSpec", fn := fun _ => fun
  | [d1, d2, d3, d4, d5] => { results := [.lit (.bool true)], args := [d1, d2, d3, d4, d5] }
  | _ => none }
def forecastLessSpecRow : OpenClaim := { program := "ytemdebheinbolaa", sum := "360c91756618fcfbe3bcf8c5c5d2ae6ea8e88668c52374414893d266097ee335", func := "overflight/overflightlaw18.ForecastLessSpec", spec := "forecastLessSpec", unfollowed := true, recurses := true, apart := false }
def ForecastLessSpecSaid : Prop := forecastLessSpecRow.holds Try.pinned (OpenSpec.ofChange forecastLessSpecSpec)

/-- ITS FALSE NEIGHBOUR: 'it returns false'. Refute it at one input. -/
def forecastLessSpecWrong : ChangeSpec := { name := "forecastLessSpec", fn := fun _ => fun
  | [d1, d2, d3, d4, d5] => { results := [.lit (.bool false)], args := [d1, d2, d3, d4, d5] }
  | _ => none }
def ForecastLessSpecWrongFalsely : Prop := forecastLessSpecRow.holds Try.pinned (OpenSpec.ofChange forecastLessSpecWrong)

/-- 'overflightlaw18.ForecastKnown': WHATEVER THE INPUT: true; the input reads as it did. -/
def forecastKnownSpec : ChangeSpec := { name := "forecastKnown", fn := fun _ => fun
  | [d1, d2, d3, d4, d5, d6, d7] => { results := [.lit (.bool true)], args := [d1, d2, d3, d4, d5, d6, d7] }
  | _ => none }
def forecastKnownRow : OpenClaim := { program := "ytemdebheinbolaa", sum := "360c91756618fcfbe3bcf8c5c5d2ae6ea8e88668c52374414893d266097ee335", func := "overflight/overflightlaw18.ForecastKnown", spec := "forecastKnown", unfollowed := true, recurses := true, apart := false }
def ForecastKnownSaid : Prop := forecastKnownRow.holds Try.pinned (OpenSpec.ofChange forecastKnownSpec)

/-- ITS FALSE NEIGHBOUR: 'it returns false'. Refute it at one input. -/
def forecastKnownWrong : ChangeSpec := { name := "forecastKnown", fn := fun _ => fun
  | [d1, d2, d3, d4, d5, d6, d7] => { results := [.lit (.bool false)], args := [d1, d2, d3, d4, d5, d6, d7] }
  | _ => none }
def ForecastKnownWrongFalsely : Prop := forecastKnownRow.holds Try.pinned (OpenSpec.ofChange forecastKnownWrong)

/-- 'overflightlaw18.ForecastAlive': WHATEVER THE INPUT: true; the input reads as it did. -/
def forecastAliveSpec : ChangeSpec := { name := "forecastAlive", fn := fun _ => fun
  | [d1, d2] => { results := [.lit (.bool true)], args := [d1, d2] }
  | _ => none }
def forecastAliveRow : OpenClaim := { program := "ytemdebheinbolaa", sum := "360c91756618fcfbe3bcf8c5c5d2ae6ea8e88668c52374414893d266097ee335", func := "overflight/overflightlaw18.ForecastAlive", spec := "forecastAlive", unfollowed := true, recurses := true, apart := false }
def ForecastAliveSaid : Prop := forecastAliveRow.holds Try.pinned (OpenSpec.ofChange forecastAliveSpec)

/-- ITS FALSE NEIGHBOUR: 'it returns false'. Refute it at one input. -/
def forecastAliveWrong : ChangeSpec := { name := "forecastAlive", fn := fun _ => fun
  | [d1, d2] => { results := [.lit (.bool false)], args := [d1, d2] }
  | _ => none }
def ForecastAliveWrongFalsely : Prop := forecastAliveRow.holds Try.pinned (OpenSpec.ofChange forecastAliveWrong)

/-- 'overflightlaw18.ForecastParts': WHATEVER THE INPUT: true; the input reads as it did. -/
def forecastPartsSpec : ChangeSpec := { name := "forecastParts", fn := fun _ => fun
  | [d1, d2] => { results := [.lit (.bool true)], args := [d1, d2] }
  | _ => none }
def forecastPartsRow : OpenClaim := { program := "ytemdebheinbolaa", sum := "360c91756618fcfbe3bcf8c5c5d2ae6ea8e88668c52374414893d266097ee335", func := "overflight/overflightlaw18.ForecastParts", spec := "forecastParts", unfollowed := true, recurses := true, apart := false }
def ForecastPartsSaid : Prop := forecastPartsRow.holds Try.pinned (OpenSpec.ofChange forecastPartsSpec)

/-- ITS FALSE NEIGHBOUR: 'it returns false'. Refute it at one input. -/
def forecastPartsWrong : ChangeSpec := { name := "forecastParts", fn := fun _ => fun
  | [d1, d2] => { results := [.lit (.bool false)], args := [d1, d2] }
  | _ => none }
def ForecastPartsWrongFalsely : Prop := forecastPartsRow.holds Try.pinned (OpenSpec.ofChange forecastPartsWrong)

/-- 'overflightlaw18.ForecastOrder': WHATEVER THE INPUT: true; the input reads as it did. -/
def forecastOrderSpec : ChangeSpec := { name := "forecastOrder", fn := fun _ => fun
  | [d1, d2] => { results := [.lit (.bool true)], args := [d1, d2] }
  | _ => none }
def forecastOrderRow : OpenClaim := { program := "ytemdebheinbolaa", sum := "360c91756618fcfbe3bcf8c5c5d2ae6ea8e88668c52374414893d266097ee335", func := "overflight/overflightlaw18.ForecastOrder", spec := "forecastOrder", unfollowed := true, recurses := true, apart := false }
def ForecastOrderSaid : Prop := forecastOrderRow.holds Try.pinned (OpenSpec.ofChange forecastOrderSpec)

/-- ITS FALSE NEIGHBOUR: 'it returns false'. Refute it at one input. -/
def forecastOrderWrong : ChangeSpec := { name := "forecastOrder", fn := fun _ => fun
  | [d1, d2] => { results := [.lit (.bool false)], args := [d1, d2] }
  | _ => none }
def ForecastOrderWrongFalsely : Prop := forecastOrderRow.holds Try.pinned (OpenSpec.ofChange forecastOrderWrong)

/-- 'overflightlaw18.ForecastCut': WHATEVER THE INPUT: true; the input reads as it did. -/
def forecastCutSpec : ChangeSpec := { name := "forecastCut", fn := fun _ => fun
  | [d1, d2, d3, d4, d5, d6, d7] => { results := [.lit (.bool true)], args := [d1, d2, d3, d4, d5, d6, d7] }
  | _ => none }
def forecastCutRow : OpenClaim := { program := "ytemdebheinbolaa", sum := "360c91756618fcfbe3bcf8c5c5d2ae6ea8e88668c52374414893d266097ee335", func := "overflight/overflightlaw18.ForecastCut", spec := "forecastCut", unfollowed := true, recurses := true, apart := false }
def ForecastCutSaid : Prop := forecastCutRow.holds Try.pinned (OpenSpec.ofChange forecastCutSpec)

/-- ITS FALSE NEIGHBOUR: 'it returns false'. Refute it at one input. -/
def forecastCutWrong : ChangeSpec := { name := "forecastCut", fn := fun _ => fun
  | [d1, d2, d3, d4, d5, d6, d7] => { results := [.lit (.bool false)], args := [d1, d2, d3, d4, d5, d6, d7] }
  | _ => none }
def ForecastCutWrongFalsely : Prop := forecastCutRow.holds Try.pinned (OpenSpec.ofChange forecastCutWrong)

/- THE SECOND FORM. 'bulk': how many values and letters a reading holds, each counted each time it is reached (what is shared counts as often as it is met; a slice's spare places count too). A statement '..UptoSaid' is the law's where the arguments, and the package variables that the reading takes, are together of bulk at most 1048576: NARROWER than '..Said'. Prove '..Said' where nothing that the law and all that it calls make is longer than what came in: it says more and counts as full. Else prove '..UptoSaid'. A law counts once. -/
mutual
def uptoBulk {H : Type} : DataW H → Nat
  | .lit (.string bytes) => bytes.length + 1
  | .lit _ => 1
  | .nil => 1
  | .ptr d => uptoBulk d + 1
  | .slice elems spare => uptoBulkAll elems + uptoBulkAll spare + 1
  | .agg parts => uptoBulkAll parts + 1
  | .iface _ d => uptoBulk d + 1
  | .map entries => uptoBulkEntries entries + 1
  | .held _ => 1
def uptoBulkAll {H : Type} : List (DataW H) → Nat
  | [] => 0
  | d :: r => uptoBulk d + uptoBulkAll r
def uptoBulkEntries {H : Type} : List (Lit × DataW H) → Nat
  | [] => 0
  | x :: r => uptoBulkEntry x + uptoBulkEntries r
def uptoBulkEntry {H : Type} : Lit × DataW H → Nat
  | (.string bytes, d) => bytes.length + uptoBulk d + 1
  | (_, d) => uptoBulk d + 1
 end
def uptoSmall : (H : Type) → List (DataW H) → Bool := fun _ ds => decide (uptoBulkAll ds ≤ 1048576)
def OpenSpec.upto (s : _root_.Go.ChangeSpec) : _root_.Go.OpenSpec := { _root_.Go.OpenSpec.ofChange s with cond := some uptoSmall }

/-- 'overflightlaw18.ForecastCheckSpec', WHERE WHAT IT READS IS OF BULK AT MOST 1048576: true; the input reads as it did. -/
def forecastCheckSpecUptoRow : OpenClaim := { program := "ytemdebheinbolaa", sum := "360c91756618fcfbe3bcf8c5c5d2ae6ea8e88668c52374414893d266097ee335", func := "overflight/overflightlaw18.ForecastCheckSpec", spec := "forecastCheckSpec", unfollowed := true, recurses := true, apart := false, narrowed := true }
def ForecastCheckSpecUptoSaid : Prop := forecastCheckSpecUptoRow.holds Try.pinned (OpenSpec.upto forecastCheckSpecSpec)

/-- 'overflightlaw18.ForecastAtSpec', WHERE WHAT IT READS IS OF BULK AT MOST 1048576: true; the input reads as it did. -/
def forecastAtSpecUptoRow : OpenClaim := { program := "ytemdebheinbolaa", sum := "360c91756618fcfbe3bcf8c5c5d2ae6ea8e88668c52374414893d266097ee335", func := "overflight/overflightlaw18.ForecastAtSpec", spec := "forecastAtSpec", unfollowed := true, recurses := true, apart := false, narrowed := true }
def ForecastAtSpecUptoSaid : Prop := forecastAtSpecUptoRow.holds Try.pinned (OpenSpec.upto forecastAtSpecSpec)

/-- 'overflightlaw18.ForecastLessSpec', WHERE WHAT IT READS IS OF BULK AT MOST 1048576: true; the input reads as it did. -/
def forecastLessSpecUptoRow : OpenClaim := { program := "ytemdebheinbolaa", sum := "360c91756618fcfbe3bcf8c5c5d2ae6ea8e88668c52374414893d266097ee335", func := "overflight/overflightlaw18.ForecastLessSpec", spec := "forecastLessSpec", unfollowed := true, recurses := true, apart := false, narrowed := true }
def ForecastLessSpecUptoSaid : Prop := forecastLessSpecUptoRow.holds Try.pinned (OpenSpec.upto forecastLessSpecSpec)

/-- 'overflightlaw18.ForecastKnown', WHERE WHAT IT READS IS OF BULK AT MOST 1048576: true; the input reads as it did. -/
def forecastKnownUptoRow : OpenClaim := { program := "ytemdebheinbolaa", sum := "360c91756618fcfbe3bcf8c5c5d2ae6ea8e88668c52374414893d266097ee335", func := "overflight/overflightlaw18.ForecastKnown", spec := "forecastKnown", unfollowed := true, recurses := true, apart := false, narrowed := true }
def ForecastKnownUptoSaid : Prop := forecastKnownUptoRow.holds Try.pinned (OpenSpec.upto forecastKnownSpec)

/-- 'overflightlaw18.ForecastAlive', WHERE WHAT IT READS IS OF BULK AT MOST 1048576: true; the input reads as it did. -/
def forecastAliveUptoRow : OpenClaim := { program := "ytemdebheinbolaa", sum := "360c91756618fcfbe3bcf8c5c5d2ae6ea8e88668c52374414893d266097ee335", func := "overflight/overflightlaw18.ForecastAlive", spec := "forecastAlive", unfollowed := true, recurses := true, apart := false, narrowed := true }
def ForecastAliveUptoSaid : Prop := forecastAliveUptoRow.holds Try.pinned (OpenSpec.upto forecastAliveSpec)

/-- 'overflightlaw18.ForecastParts', WHERE WHAT IT READS IS OF BULK AT MOST 1048576: true; the input reads as it did. -/
def forecastPartsUptoRow : OpenClaim := { program := "ytemdebheinbolaa", sum := "360c91756618fcfbe3bcf8c5c5d2ae6ea8e88668c52374414893d266097ee335", func := "overflight/overflightlaw18.ForecastParts", spec := "forecastParts", unfollowed := true, recurses := true, apart := false, narrowed := true }
def ForecastPartsUptoSaid : Prop := forecastPartsUptoRow.holds Try.pinned (OpenSpec.upto forecastPartsSpec)

/-- 'overflightlaw18.ForecastOrder', WHERE WHAT IT READS IS OF BULK AT MOST 1048576: true; the input reads as it did. -/
def forecastOrderUptoRow : OpenClaim := { program := "ytemdebheinbolaa", sum := "360c91756618fcfbe3bcf8c5c5d2ae6ea8e88668c52374414893d266097ee335", func := "overflight/overflightlaw18.ForecastOrder", spec := "forecastOrder", unfollowed := true, recurses := true, apart := false, narrowed := true }
def ForecastOrderUptoSaid : Prop := forecastOrderUptoRow.holds Try.pinned (OpenSpec.upto forecastOrderSpec)

/-- 'overflightlaw18.ForecastCut', WHERE WHAT IT READS IS OF BULK AT MOST 1048576: true; the input reads as it did. -/
def forecastCutUptoRow : OpenClaim := { program := "ytemdebheinbolaa", sum := "360c91756618fcfbe3bcf8c5c5d2ae6ea8e88668c52374414893d266097ee335", func := "overflight/overflightlaw18.ForecastCut", spec := "forecastCut", unfollowed := true, recurses := true, apart := false, narrowed := true }
def ForecastCutUptoSaid : Prop := forecastCutUptoRow.holds Try.pinned (OpenSpec.upto forecastCutSpec)

end Rows
end Go.Proofs.Ytemdebheinbolaa
