/-
  No cell of these rows narrows 'for every input' (looked for: loops, veiled, ifaces, maps, wideKeys, modest, calm, conditions, laid).
  DERIVED. THE GIVEN ROWS OF THIS SEAT. 10 by the template 'for every input the law returns true; each argument reads behind the call as it read before'; 0 by the template 'total and deterministic' (their statements: YthhlgdjpopdboaaTotals.lean).
  GIVEN WITH THE SEED: the statements are not yours to turn. If you find one false, say at which input.
  Laid BY PROGRAM, IN A SANDBOX (cutbox-rows.mjs): the forced cells as the released guide's own fill.sh prints them over the translation b70af10b788952f2… (all of the seat's roots in one cut). By AI agents, Wed Nov 11 2026. No macro, syntax, notation, axiom, sorry.
-/
import Derived.Test.YthhlgdjpopdboaaChecked
import GoSem.Claim
import GoSem.ClaimJoined
import GoSem.ClaimMapViews
import Derived.JoinedTies
import Derived.KernelRfl
namespace Go.Proofs.Ythhlgdjpopdboaa
/- THE CELL 'sum', in the pinned program and in every row, IS THE sha256 OF THE DUMP (.gsa) THAT YthhlgdjpopdboaaProg.lean LOADS. Nothing in Lean hashes anything: it is a label: what it is worth is what the hold of that sum in a sandbox is worth. -/
noncomputable def Try.pinned : Pinned := { name := "ythhlgdjpopdboaa", sum := "b70af10b788952f2fcbf035c214eacc076b22f9ade630c22aaac15b0bdc2efb9", checked := Try.checked }
namespace Rows
def none {H : Type} : Left H := { results := [], args := [] }

/-- 'commonagelaw02.RealKinds': WHATEVER THE INPUT: true; the input reads as it did. -/
def realKindsSpec : ChangeSpec := { name := "realKinds", fn := fun _ => fun
  | [d] => { results := [.lit (.bool true)], args := [d] }
  | _ => none }
def realKindsRow : OpenClaim := { program := "ythhlgdjpopdboaa", sum := "b70af10b788952f2fcbf035c214eacc076b22f9ade630c22aaac15b0bdc2efb9", func := "commonage/commonagelaw02.RealKinds", spec := "realKinds", inPlace := ["math.Float64frombits", "math.archTrunc", "math.Float64bits"], apart := false }
def RealKindsSaid : Prop := realKindsRow.holds Try.pinned (OpenSpec.ofChange realKindsSpec)

/-- ITS FALSE NEIGHBOUR: 'it returns false'. Refute it at one input. -/
def realKindsWrong : ChangeSpec := { name := "realKinds", fn := fun _ => fun
  | [d] => { results := [.lit (.bool false)], args := [d] }
  | _ => none }
def RealKindsWrongFalsely : Prop := realKindsRow.holds Try.pinned (OpenSpec.ofChange realKindsWrong)

/-- 'commonagelaw02.RealPairs': WHATEVER THE INPUT: true; the input reads as it did. -/
def realPairsSpec : ChangeSpec := { name := "realPairs", fn := fun _ => fun
  | [d1, d2] => { results := [.lit (.bool true)], args := [d1, d2] }
  | _ => none }
def realPairsRow : OpenClaim := { program := "ythhlgdjpopdboaa", sum := "b70af10b788952f2fcbf035c214eacc076b22f9ade630c22aaac15b0bdc2efb9", func := "commonage/commonagelaw02.RealPairs", spec := "realPairs", inPlace := ["math.Float64frombits", "math.Float64bits", "math.archTrunc"], apart := false }
def RealPairsSaid : Prop := realPairsRow.holds Try.pinned (OpenSpec.ofChange realPairsSpec)

/-- ITS FALSE NEIGHBOUR: 'it returns false'. Refute it at one input. -/
def realPairsWrong : ChangeSpec := { name := "realPairs", fn := fun _ => fun
  | [d1, d2] => { results := [.lit (.bool false)], args := [d1, d2] }
  | _ => none }
def RealPairsWrongFalsely : Prop := realPairsRow.holds Try.pinned (OpenSpec.ofChange realPairsWrong)

/-- 'commonagelaw02.RealNumbers': WHATEVER THE INPUT: true; the input reads as it did. -/
def realNumbersSpec : ChangeSpec := { name := "realNumbers", fn := fun _ => fun
  | [d] => { results := [.lit (.bool true)], args := [d] }
  | _ => none }
def realNumbersRow : OpenClaim := { program := "ythhlgdjpopdboaa", sum := "b70af10b788952f2fcbf035c214eacc076b22f9ade630c22aaac15b0bdc2efb9", func := "commonage/commonagelaw02.RealNumbers", spec := "realNumbers", inPlace := ["math.Float64bits", "math.Float64frombits", "math.archTrunc"], apart := false }
def RealNumbersSaid : Prop := realNumbersRow.holds Try.pinned (OpenSpec.ofChange realNumbersSpec)

/-- ITS FALSE NEIGHBOUR: 'it returns false'. Refute it at one input. -/
def realNumbersWrong : ChangeSpec := { name := "realNumbers", fn := fun _ => fun
  | [d] => { results := [.lit (.bool false)], args := [d] }
  | _ => none }
def RealNumbersWrongFalsely : Prop := realNumbersRow.holds Try.pinned (OpenSpec.ofChange realNumbersWrong)

/-- 'commonagelaw02.RealOrder': WHATEVER THE INPUT: true; the input reads as it did. -/
def realOrderSpec : ChangeSpec := { name := "realOrder", fn := fun _ => fun
  | [d1, d2, d3] => { results := [.lit (.bool true)], args := [d1, d2, d3] }
  | _ => none }
def realOrderRow : OpenClaim := { program := "ythhlgdjpopdboaa", sum := "b70af10b788952f2fcbf035c214eacc076b22f9ade630c22aaac15b0bdc2efb9", func := "commonage/commonagelaw02.RealOrder", spec := "realOrder", inPlace := ["math.Float64frombits", "math.Float64bits", "math.archTrunc"], apart := false }
def RealOrderSaid : Prop := realOrderRow.holds Try.pinned (OpenSpec.ofChange realOrderSpec)

/-- ITS FALSE NEIGHBOUR: 'it returns false'. Refute it at one input. -/
def realOrderWrong : ChangeSpec := { name := "realOrder", fn := fun _ => fun
  | [d1, d2, d3] => { results := [.lit (.bool false)], args := [d1, d2, d3] }
  | _ => none }
def RealOrderWrongFalsely : Prop := realOrderRow.holds Try.pinned (OpenSpec.ofChange realOrderWrong)

/-- 'commonagelaw02.RealTurns': WHATEVER THE INPUT: true; the input reads as it did. -/
def realTurnsSpec : ChangeSpec := { name := "realTurns", fn := fun _ => fun
  | [d1, d2] => { results := [.lit (.bool true)], args := [d1, d2] }
  | _ => none }
def realTurnsRow : OpenClaim := { program := "ythhlgdjpopdboaa", sum := "b70af10b788952f2fcbf035c214eacc076b22f9ade630c22aaac15b0bdc2efb9", func := "commonage/commonagelaw02.RealTurns", spec := "realTurns", inPlace := ["math.Float64frombits", "math.Float64bits", "math.archTrunc"], apart := false }
def RealTurnsSaid : Prop := realTurnsRow.holds Try.pinned (OpenSpec.ofChange realTurnsSpec)

/-- ITS FALSE NEIGHBOUR: 'it returns false'. Refute it at one input. -/
def realTurnsWrong : ChangeSpec := { name := "realTurns", fn := fun _ => fun
  | [d1, d2] => { results := [.lit (.bool false)], args := [d1, d2] }
  | _ => none }
def RealTurnsWrongFalsely : Prop := realTurnsRow.holds Try.pinned (OpenSpec.ofChange realTurnsWrong)

/-- 'commonagelaw02.RealRises': WHATEVER THE INPUT: true; the input reads as it did. -/
def realRisesSpec : ChangeSpec := { name := "realRises", fn := fun _ => fun
  | [d1, d2, d3] => { results := [.lit (.bool true)], args := [d1, d2, d3] }
  | _ => none }
def realRisesRow : OpenClaim := { program := "ythhlgdjpopdboaa", sum := "b70af10b788952f2fcbf035c214eacc076b22f9ade630c22aaac15b0bdc2efb9", func := "commonage/commonagelaw02.RealRises", spec := "realRises", inPlace := ["math.Float64bits", "math.Float64frombits", "math.archTrunc"], apart := false }
def RealRisesSaid : Prop := realRisesRow.holds Try.pinned (OpenSpec.ofChange realRisesSpec)

/-- ITS FALSE NEIGHBOUR: 'it returns false'. Refute it at one input. -/
def realRisesWrong : ChangeSpec := { name := "realRises", fn := fun _ => fun
  | [d1, d2, d3] => { results := [.lit (.bool false)], args := [d1, d2, d3] }
  | _ => none }
def RealRisesWrongFalsely : Prop := realRisesRow.holds Try.pinned (OpenSpec.ofChange realRisesWrong)

/-- 'commonagelaw02.RealExact': WHATEVER THE INPUT: true; the input reads as it did. -/
def realExactSpec : ChangeSpec := { name := "realExact", fn := fun _ => fun
  | [d] => { results := [.lit (.bool true)], args := [d] }
  | _ => none }
def realExactRow : OpenClaim := { program := "ythhlgdjpopdboaa", sum := "b70af10b788952f2fcbf035c214eacc076b22f9ade630c22aaac15b0bdc2efb9", func := "commonage/commonagelaw02.RealExact", spec := "realExact", inPlace := ["math.Float64frombits", "math.Float64bits", "math.archTrunc"], apart := false }
def RealExactSaid : Prop := realExactRow.holds Try.pinned (OpenSpec.ofChange realExactSpec)

/-- ITS FALSE NEIGHBOUR: 'it returns false'. Refute it at one input. -/
def realExactWrong : ChangeSpec := { name := "realExact", fn := fun _ => fun
  | [d] => { results := [.lit (.bool false)], args := [d] }
  | _ => none }
def RealExactWrongFalsely : Prop := realExactRow.holds Try.pinned (OpenSpec.ofChange realExactWrong)

/-- 'commonagelaw02.RealLists': WHATEVER THE INPUT: true; the input reads as it did. -/
def realListsSpec : ChangeSpec := { name := "realLists", fn := fun _ => fun
  | [d] => { results := [.lit (.bool true)], args := [d] }
  | _ => none }
def realListsRow : OpenClaim := { program := "ythhlgdjpopdboaa", sum := "b70af10b788952f2fcbf035c214eacc076b22f9ade630c22aaac15b0bdc2efb9", func := "commonage/commonagelaw02.RealLists", spec := "realLists", inPlace := ["math.Float64frombits", "math.Float64bits", "math.archTrunc"], apart := false }
def RealListsSaid : Prop := realListsRow.holds Try.pinned (OpenSpec.ofChange realListsSpec)

/-- ITS FALSE NEIGHBOUR: 'it returns false'. Refute it at one input. -/
def realListsWrong : ChangeSpec := { name := "realLists", fn := fun _ => fun
  | [d] => { results := [.lit (.bool false)], args := [d] }
  | _ => none }
def RealListsWrongFalsely : Prop := realListsRow.holds Try.pinned (OpenSpec.ofChange realListsWrong)

/-- 'commonagelaw02.RealEdges': WHATEVER THE INPUT: true; the input reads as it did. -/
def realEdgesSpec : ChangeSpec := { name := "realEdges", fn := fun _ => fun
  | [d] => { results := [.lit (.bool true)], args := [d] }
  | _ => none }
def realEdgesRow : OpenClaim := { program := "ythhlgdjpopdboaa", sum := "b70af10b788952f2fcbf035c214eacc076b22f9ade630c22aaac15b0bdc2efb9", func := "commonage/commonagelaw02.RealEdges", spec := "realEdges", inPlace := ["math.Float64frombits", "math.Float64bits", "math.archTrunc"], apart := false }
def RealEdgesSaid : Prop := realEdgesRow.holds Try.pinned (OpenSpec.ofChange realEdgesSpec)

/-- ITS FALSE NEIGHBOUR: 'it returns false'. Refute it at one input. -/
def realEdgesWrong : ChangeSpec := { name := "realEdges", fn := fun _ => fun
  | [d] => { results := [.lit (.bool false)], args := [d] }
  | _ => none }
def RealEdgesWrongFalsely : Prop := realEdgesRow.holds Try.pinned (OpenSpec.ofChange realEdgesWrong)

/-- 'commonagelaw02.RealLeasts': WHATEVER THE INPUT: true; the input reads as it did. -/
def realLeastsSpec : ChangeSpec := { name := "realLeasts", fn := fun _ => fun
  | [d1, d2] => { results := [.lit (.bool true)], args := [d1, d2] }
  | _ => none }
def realLeastsRow : OpenClaim := { program := "ythhlgdjpopdboaa", sum := "b70af10b788952f2fcbf035c214eacc076b22f9ade630c22aaac15b0bdc2efb9", func := "commonage/commonagelaw02.RealLeasts", spec := "realLeasts", inPlace := ["math.Float64frombits", "math.Float64bits", "math.archTrunc"], apart := false }
def RealLeastsSaid : Prop := realLeastsRow.holds Try.pinned (OpenSpec.ofChange realLeastsSpec)

/-- ITS FALSE NEIGHBOUR: 'it returns false'. Refute it at one input. -/
def realLeastsWrong : ChangeSpec := { name := "realLeasts", fn := fun _ => fun
  | [d1, d2] => { results := [.lit (.bool false)], args := [d1, d2] }
  | _ => none }
def RealLeastsWrongFalsely : Prop := realLeastsRow.holds Try.pinned (OpenSpec.ofChange realLeastsWrong)

/- THE SECOND FORM. 'bulk': how many values and letters a reading holds, each counted each time it is reached (what is shared counts as often as it is met; a slice's spare places count too). A statement '..UptoSaid' is the law's where the arguments, and the package variables that the reading takes, are together of bulk at most 1048576: NARROWER than '..Said'. Prove '..Said' where nothing that the law and all that it calls make is longer than what came in: it says more and counts as full. Else prove '..UptoSaid'. A law counts once. -/
mutual
def uptoBulk {H : Type} : DataW H → Nat
  | .lit (.string bytes) => bytes.length + 1
  | .lit _ => 1
  | .nil => 1
  | .ptr d => uptoBulk d + 1
  | .slice elems spare => uptoBulkAll elems + uptoBulkAll spare + 1
  | .agg parts => uptoBulkAll parts + 1
  | .iface _ d => uptoBulk d + 1
  | .map entries => uptoBulkEntries entries + 1
  | .held _ => 1
def uptoBulkAll {H : Type} : List (DataW H) → Nat
  | [] => 0
  | d :: r => uptoBulk d + uptoBulkAll r
def uptoBulkEntries {H : Type} : List (Lit × DataW H) → Nat
  | [] => 0
  | x :: r => uptoBulkEntry x + uptoBulkEntries r
def uptoBulkEntry {H : Type} : Lit × DataW H → Nat
  | (.string bytes, d) => bytes.length + uptoBulk d + 1
  | (_, d) => uptoBulk d + 1
 end
def uptoSmall : (H : Type) → List (DataW H) → Bool := fun _ ds => decide (uptoBulkAll ds ≤ 1048576)
def OpenSpec.upto (s : _root_.Go.ChangeSpec) : _root_.Go.OpenSpec := { _root_.Go.OpenSpec.ofChange s with cond := some uptoSmall }

/-- 'commonagelaw02.RealKinds', WHERE WHAT IT READS IS OF BULK AT MOST 1048576: true; the input reads as it did. -/
def realKindsUptoRow : OpenClaim := { program := "ythhlgdjpopdboaa", sum := "b70af10b788952f2fcbf035c214eacc076b22f9ade630c22aaac15b0bdc2efb9", func := "commonage/commonagelaw02.RealKinds", spec := "realKinds", inPlace := ["math.Float64frombits", "math.archTrunc", "math.Float64bits"], apart := false, narrowed := true }
def RealKindsUptoSaid : Prop := realKindsUptoRow.holds Try.pinned (OpenSpec.upto realKindsSpec)

/-- 'commonagelaw02.RealPairs', WHERE WHAT IT READS IS OF BULK AT MOST 1048576: true; the input reads as it did. -/
def realPairsUptoRow : OpenClaim := { program := "ythhlgdjpopdboaa", sum := "b70af10b788952f2fcbf035c214eacc076b22f9ade630c22aaac15b0bdc2efb9", func := "commonage/commonagelaw02.RealPairs", spec := "realPairs", inPlace := ["math.Float64frombits", "math.Float64bits", "math.archTrunc"], apart := false, narrowed := true }
def RealPairsUptoSaid : Prop := realPairsUptoRow.holds Try.pinned (OpenSpec.upto realPairsSpec)

/-- 'commonagelaw02.RealNumbers', WHERE WHAT IT READS IS OF BULK AT MOST 1048576: true; the input reads as it did. -/
def realNumbersUptoRow : OpenClaim := { program := "ythhlgdjpopdboaa", sum := "b70af10b788952f2fcbf035c214eacc076b22f9ade630c22aaac15b0bdc2efb9", func := "commonage/commonagelaw02.RealNumbers", spec := "realNumbers", inPlace := ["math.Float64bits", "math.Float64frombits", "math.archTrunc"], apart := false, narrowed := true }
def RealNumbersUptoSaid : Prop := realNumbersUptoRow.holds Try.pinned (OpenSpec.upto realNumbersSpec)

/-- 'commonagelaw02.RealOrder', WHERE WHAT IT READS IS OF BULK AT MOST 1048576: true; the input reads as it did. -/
def realOrderUptoRow : OpenClaim := { program := "ythhlgdjpopdboaa", sum := "b70af10b788952f2fcbf035c214eacc076b22f9ade630c22aaac15b0bdc2efb9", func := "commonage/commonagelaw02.RealOrder", spec := "realOrder", inPlace := ["math.Float64frombits", "math.Float64bits", "math.archTrunc"], apart := false, narrowed := true }
def RealOrderUptoSaid : Prop := realOrderUptoRow.holds Try.pinned (OpenSpec.upto realOrderSpec)

/-- 'commonagelaw02.RealTurns', WHERE WHAT IT READS IS OF BULK AT MOST 1048576: true; the input reads as it did. -/
def realTurnsUptoRow : OpenClaim := { program := "ythhlgdjpopdboaa", sum := "b70af10b788952f2fcbf035c214eacc076b22f9ade630c22aaac15b0bdc2efb9", func := "commonage/commonagelaw02.RealTurns", spec := "realTurns", inPlace := ["math.Float64frombits", "math.Float64bits", "math.archTrunc"], apart := false, narrowed := true }
def RealTurnsUptoSaid : Prop := realTurnsUptoRow.holds Try.pinned (OpenSpec.upto realTurnsSpec)

/-- 'commonagelaw02.RealRises', WHERE WHAT IT READS IS OF BULK AT MOST 1048576: true; the input reads as it did. -/
def realRisesUptoRow : OpenClaim := { program := "ythhlgdjpopdboaa", sum := "b70af10b788952f2fcbf035c214eacc076b22f9ade630c22aaac15b0bdc2efb9", func := "commonage/commonagelaw02.RealRises", spec := "realRises", inPlace := ["math.Float64bits", "math.Float64frombits", "math.archTrunc"], apart := false, narrowed := true }
def RealRisesUptoSaid : Prop := realRisesUptoRow.holds Try.pinned (OpenSpec.upto realRisesSpec)

/-- 'commonagelaw02.RealExact', WHERE WHAT IT READS IS OF BULK AT MOST 1048576: true; the input reads as it did. -/
def realExactUptoRow : OpenClaim := { program := "ythhlgdjpopdboaa", sum := "b70af10b788952f2fcbf035c214eacc076b22f9ade630c22aaac15b0bdc2efb9", func := "commonage/commonagelaw02.RealExact", spec := "realExact", inPlace := ["math.Float64frombits", "math.Float64bits", "math.archTrunc"], apart := false, narrowed := true }
def RealExactUptoSaid : Prop := realExactUptoRow.holds Try.pinned (OpenSpec.upto realExactSpec)

/-- 'commonagelaw02.RealLists', WHERE WHAT IT READS IS OF BULK AT MOST 1048576: true; the input reads as it did. -/
def realListsUptoRow : OpenClaim := { program := "ythhlgdjpopdboaa", sum := "b70af10b788952f2fcbf035c214eacc076b22f9ade630c22aaac15b0bdc2efb9", func := "commonage/commonagelaw02.RealLists", spec := "realLists", inPlace := ["math.Float64frombits", "math.Float64bits", "math.archTrunc"], apart := false, narrowed := true }
def RealListsUptoSaid : Prop := realListsUptoRow.holds Try.pinned (OpenSpec.upto realListsSpec)

/-- 'commonagelaw02.RealEdges', WHERE WHAT IT READS IS OF BULK AT MOST 1048576: true; the input reads as it did. -/
def realEdgesUptoRow : OpenClaim := { program := "ythhlgdjpopdboaa", sum := "b70af10b788952f2fcbf035c214eacc076b22f9ade630c22aaac15b0bdc2efb9", func := "commonage/commonagelaw02.RealEdges", spec := "realEdges", inPlace := ["math.Float64frombits", "math.Float64bits", "math.archTrunc"], apart := false, narrowed := true }
def RealEdgesUptoSaid : Prop := realEdgesUptoRow.holds Try.pinned (OpenSpec.upto realEdgesSpec)

/-- 'commonagelaw02.RealLeasts', WHERE WHAT IT READS IS OF BULK AT MOST 1048576: true; the input reads as it did. -/
def realLeastsUptoRow : OpenClaim := { program := "ythhlgdjpopdboaa", sum := "b70af10b788952f2fcbf035c214eacc076b22f9ade630c22aaac15b0bdc2efb9", func := "commonage/commonagelaw02.RealLeasts", spec := "realLeasts", inPlace := ["math.Float64frombits", "math.Float64bits", "math.archTrunc"], apart := false, narrowed := true }
def RealLeastsUptoSaid : Prop := realLeastsUptoRow.holds Try.pinned (OpenSpec.upto realLeastsSpec)

end Rows
end Go.Proofs.Ythhlgdjpopdboaa
