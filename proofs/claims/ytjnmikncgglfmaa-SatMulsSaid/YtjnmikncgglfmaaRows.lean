/-
  No cell of these rows narrows 'for every input' (looked for: loops, veiled, ifaces, maps, wideKeys, modest, calm, conditions, laid).
  DERIVED. THE GIVEN ROWS OF THIS SEAT. 8 by the template 'for every input the law returns true; each argument reads behind the call as it read before'; 0 by the template 'total and deterministic' (their statements: YtjnmikncgglfmaaTotals.lean).
  GIVEN WITH THE SEED: the statements are not yours to turn. If you find one false, say at which input.
  Laid BY PROGRAM, IN A SANDBOX (cutbox-rows.mjs): the forced cells as the released guide's own fill.sh prints them over the translation 15ce43c40503c585… (all of the seat's roots in one cut). By AI agents, Wed Nov 11 2026. No macro, syntax, notation, axiom, sorry.
-/
import Derived.Test.YtjnmikncgglfmaaChecked
import GoSem.Claim
import GoSem.ClaimJoined
import GoSem.ClaimMapViews
import Derived.JoinedTies
import Derived.KernelRfl
namespace Go.Proofs.Ytjnmikncgglfmaa
/- THE CELL 'sum', in the pinned program and in every row, IS THE sha256 OF THE DUMP (.gsa) THAT YtjnmikncgglfmaaProg.lean LOADS. Nothing in Lean hashes anything: it is a label: what it is worth is what the hold of that sum in a sandbox is worth. -/
noncomputable def Try.pinned : Pinned := { name := "ytjnmikncgglfmaa", sum := "15ce43c40503c585e20e5d237b6683f145b83dbc0541a3d026361e70e63b3008", checked := Try.checked }
namespace Rows
def none {H : Type} : Left H := { results := [], args := [] }

/-- 'commonagelaw01.SatAdds': WHATEVER THE INPUT: true; the input reads as it did. -/
def satAddsSpec : ChangeSpec := { name := "satAdds", fn := fun _ => fun
  | [d1, d2] => { results := [.lit (.bool true)], args := [d1, d2] }
  | _ => none }
def satAddsRow : OpenClaim := { program := "ytjnmikncgglfmaa", sum := "15ce43c40503c585e20e5d237b6683f145b83dbc0541a3d026361e70e63b3008", func := "commonage/commonagelaw01.SatAdds", spec := "satAdds", unfollowed := true, recurses := true, named := ["math/bits.divideError", "math/bits.overflowError"], apart := false }
def SatAddsSaid : Prop := satAddsRow.holds Try.pinned (OpenSpec.ofChange satAddsSpec)

/-- ITS FALSE NEIGHBOUR: 'it returns false'. Refute it at one input. -/
def satAddsWrong : ChangeSpec := { name := "satAdds", fn := fun _ => fun
  | [d1, d2] => { results := [.lit (.bool false)], args := [d1, d2] }
  | _ => none }
def SatAddsWrongFalsely : Prop := satAddsRow.holds Try.pinned (OpenSpec.ofChange satAddsWrong)

/-- 'commonagelaw01.SatMuls': WHATEVER THE INPUT: true; the input reads as it did. -/
def satMulsSpec : ChangeSpec := { name := "satMuls", fn := fun _ => fun
  | [d1, d2, d3] => { results := [.lit (.bool true)], args := [d1, d2, d3] }
  | _ => none }
def satMulsRow : OpenClaim := { program := "ytjnmikncgglfmaa", sum := "15ce43c40503c585e20e5d237b6683f145b83dbc0541a3d026361e70e63b3008", func := "commonage/commonagelaw01.SatMuls", spec := "satMuls", unfollowed := true, recurses := true, named := ["math/bits.divideError", "math/bits.overflowError"], apart := false }
def SatMulsSaid : Prop := satMulsRow.holds Try.pinned (OpenSpec.ofChange satMulsSpec)

/-- ITS FALSE NEIGHBOUR: 'it returns false'. Refute it at one input. -/
def satMulsWrong : ChangeSpec := { name := "satMuls", fn := fun _ => fun
  | [d1, d2, d3] => { results := [.lit (.bool false)], args := [d1, d2, d3] }
  | _ => none }
def SatMulsWrongFalsely : Prop := satMulsRow.holds Try.pinned (OpenSpec.ofChange satMulsWrong)

/-- 'commonagelaw01.SatCounts': WHATEVER THE INPUT: true; the input reads as it did. -/
def satCountsSpec : ChangeSpec := { name := "satCounts", fn := fun _ => fun
  | [d1, d2, d3] => { results := [.lit (.bool true)], args := [d1, d2, d3] }
  | _ => none }
def satCountsRow : OpenClaim := { program := "ytjnmikncgglfmaa", sum := "15ce43c40503c585e20e5d237b6683f145b83dbc0541a3d026361e70e63b3008", func := "commonage/commonagelaw01.SatCounts", spec := "satCounts", unfollowed := true, recurses := true, named := ["math/bits.divideError", "math/bits.overflowError"], apart := false }
def SatCountsSaid : Prop := satCountsRow.holds Try.pinned (OpenSpec.ofChange satCountsSpec)

/-- ITS FALSE NEIGHBOUR: 'it returns false'. Refute it at one input. -/
def satCountsWrong : ChangeSpec := { name := "satCounts", fn := fun _ => fun
  | [d1, d2, d3] => { results := [.lit (.bool false)], args := [d1, d2, d3] }
  | _ => none }
def SatCountsWrongFalsely : Prop := satCountsRow.holds Try.pinned (OpenSpec.ofChange satCountsWrong)

/-- 'commonagelaw01.SatRises': WHATEVER THE INPUT: true; the input reads as it did. -/
def satRisesSpec : ChangeSpec := { name := "satRises", fn := fun _ => fun
  | [d1, d2, d3] => { results := [.lit (.bool true)], args := [d1, d2, d3] }
  | _ => none }
def satRisesRow : OpenClaim := { program := "ytjnmikncgglfmaa", sum := "15ce43c40503c585e20e5d237b6683f145b83dbc0541a3d026361e70e63b3008", func := "commonage/commonagelaw01.SatRises", spec := "satRises", unfollowed := true, recurses := true, named := ["math/bits.divideError", "math/bits.overflowError"], apart := false }
def SatRisesSaid : Prop := satRisesRow.holds Try.pinned (OpenSpec.ofChange satRisesSpec)

/-- ITS FALSE NEIGHBOUR: 'it returns false'. Refute it at one input. -/
def satRisesWrong : ChangeSpec := { name := "satRises", fn := fun _ => fun
  | [d1, d2, d3] => { results := [.lit (.bool false)], args := [d1, d2, d3] }
  | _ => none }
def SatRisesWrongFalsely : Prop := satRisesRow.holds Try.pinned (OpenSpec.ofChange satRisesWrong)

/-- 'commonagelaw01.SatTurns': WHATEVER THE INPUT: true; the input reads as it did. -/
def satTurnsSpec : ChangeSpec := { name := "satTurns", fn := fun _ => fun
  | [d1, d2] => { results := [.lit (.bool true)], args := [d1, d2] }
  | _ => none }
def satTurnsRow : OpenClaim := { program := "ytjnmikncgglfmaa", sum := "15ce43c40503c585e20e5d237b6683f145b83dbc0541a3d026361e70e63b3008", func := "commonage/commonagelaw01.SatTurns", spec := "satTurns", unfollowed := true, recurses := true, named := ["math/bits.divideError", "math/bits.overflowError"], apart := false }
def SatTurnsSaid : Prop := satTurnsRow.holds Try.pinned (OpenSpec.ofChange satTurnsSpec)

/-- ITS FALSE NEIGHBOUR: 'it returns false'. Refute it at one input. -/
def satTurnsWrong : ChangeSpec := { name := "satTurns", fn := fun _ => fun
  | [d1, d2] => { results := [.lit (.bool false)], args := [d1, d2] }
  | _ => none }
def SatTurnsWrongFalsely : Prop := satTurnsRow.holds Try.pinned (OpenSpec.ofChange satTurnsWrong)

/-- 'commonagelaw01.SatThree': WHATEVER THE INPUT: true; the input reads as it did. -/
def satThreeSpec : ChangeSpec := { name := "satThree", fn := fun _ => fun
  | [d1, d2, d3] => { results := [.lit (.bool true)], args := [d1, d2, d3] }
  | _ => none }
def satThreeRow : OpenClaim := { program := "ytjnmikncgglfmaa", sum := "15ce43c40503c585e20e5d237b6683f145b83dbc0541a3d026361e70e63b3008", func := "commonage/commonagelaw01.SatThree", spec := "satThree", unfollowed := true, recurses := true, named := ["math/bits.divideError", "math/bits.overflowError"], apart := false }
def SatThreeSaid : Prop := satThreeRow.holds Try.pinned (OpenSpec.ofChange satThreeSpec)

/-- ITS FALSE NEIGHBOUR: 'it returns false'. Refute it at one input. -/
def satThreeWrong : ChangeSpec := { name := "satThree", fn := fun _ => fun
  | [d1, d2, d3] => { results := [.lit (.bool false)], args := [d1, d2, d3] }
  | _ => none }
def SatThreeWrongFalsely : Prop := satThreeRow.holds Try.pinned (OpenSpec.ofChange satThreeWrong)

/-- 'commonagelaw01.SatUnitsOf': WHATEVER THE INPUT: true; the input reads as it did. -/
def satUnitsOfSpec : ChangeSpec := { name := "satUnitsOf", fn := fun _ => fun
  | [d1, d2, d3] => { results := [.lit (.bool true)], args := [d1, d2, d3] }
  | _ => none }
def satUnitsOfRow : OpenClaim := { program := "ytjnmikncgglfmaa", sum := "15ce43c40503c585e20e5d237b6683f145b83dbc0541a3d026361e70e63b3008", func := "commonage/commonagelaw01.SatUnitsOf", spec := "satUnitsOf", unfollowed := true, recurses := true, named := ["math/bits.divideError", "math/bits.overflowError"], apart := false }
def SatUnitsOfSaid : Prop := satUnitsOfRow.holds Try.pinned (OpenSpec.ofChange satUnitsOfSpec)

/-- ITS FALSE NEIGHBOUR: 'it returns false'. Refute it at one input. -/
def satUnitsOfWrong : ChangeSpec := { name := "satUnitsOf", fn := fun _ => fun
  | [d1, d2, d3] => { results := [.lit (.bool false)], args := [d1, d2, d3] }
  | _ => none }
def SatUnitsOfWrongFalsely : Prop := satUnitsOfRow.holds Try.pinned (OpenSpec.ofChange satUnitsOfWrong)

/-- 'commonagelaw01.SatSame': WHATEVER THE INPUT: true; the input reads as it did. -/
def satSameSpec : ChangeSpec := { name := "satSame", fn := fun _ => fun
  | [d1, d2] => { results := [.lit (.bool true)], args := [d1, d2] }
  | _ => none }
def satSameRow : OpenClaim := { program := "ytjnmikncgglfmaa", sum := "15ce43c40503c585e20e5d237b6683f145b83dbc0541a3d026361e70e63b3008", func := "commonage/commonagelaw01.SatSame", spec := "satSame", unfollowed := true, recurses := true, named := ["math/bits.divideError", "math/bits.overflowError"], apart := false }
def SatSameSaid : Prop := satSameRow.holds Try.pinned (OpenSpec.ofChange satSameSpec)

/-- ITS FALSE NEIGHBOUR: 'it returns false'. Refute it at one input. -/
def satSameWrong : ChangeSpec := { name := "satSame", fn := fun _ => fun
  | [d1, d2] => { results := [.lit (.bool false)], args := [d1, d2] }
  | _ => none }
def SatSameWrongFalsely : Prop := satSameRow.holds Try.pinned (OpenSpec.ofChange satSameWrong)

/- THE SECOND FORM. 'bulk': how many values and letters a reading holds, each counted each time it is reached (what is shared counts as often as it is met; a slice's spare places count too). A statement '..UptoSaid' is the law's where the arguments, and the package variables that the reading takes, are together of bulk at most 1048576: NARROWER than '..Said'. Prove '..Said' where nothing that the law and all that it calls make is longer than what came in: it says more and counts as full. Else prove '..UptoSaid'. A law counts once. -/
mutual
def uptoBulk {H : Type} : DataW H → Nat
  | .lit (.string bytes) => bytes.length + 1
  | .lit _ => 1
  | .nil => 1
  | .ptr d => uptoBulk d + 1
  | .slice elems spare => uptoBulkAll elems + uptoBulkAll spare + 1
  | .agg parts => uptoBulkAll parts + 1
  | .iface _ d => uptoBulk d + 1
  | .map entries => uptoBulkEntries entries + 1
  | .held _ => 1
def uptoBulkAll {H : Type} : List (DataW H) → Nat
  | [] => 0
  | d :: r => uptoBulk d + uptoBulkAll r
def uptoBulkEntries {H : Type} : List (Lit × DataW H) → Nat
  | [] => 0
  | x :: r => uptoBulkEntry x + uptoBulkEntries r
def uptoBulkEntry {H : Type} : Lit × DataW H → Nat
  | (.string bytes, d) => bytes.length + uptoBulk d + 1
  | (_, d) => uptoBulk d + 1
 end
def uptoSmall : (H : Type) → List (DataW H) → Bool := fun _ ds => decide (uptoBulkAll ds ≤ 1048576)
def OpenSpec.upto (s : _root_.Go.ChangeSpec) : _root_.Go.OpenSpec := { _root_.Go.OpenSpec.ofChange s with cond := some uptoSmall }

/-- 'commonagelaw01.SatAdds', WHERE WHAT IT READS IS OF BULK AT MOST 1048576: true; the input reads as it did. -/
def satAddsUptoRow : OpenClaim := { program := "ytjnmikncgglfmaa", sum := "15ce43c40503c585e20e5d237b6683f145b83dbc0541a3d026361e70e63b3008", func := "commonage/commonagelaw01.SatAdds", spec := "satAdds", unfollowed := true, recurses := true, named := ["math/bits.divideError", "math/bits.overflowError"], apart := false, narrowed := true }
def SatAddsUptoSaid : Prop := satAddsUptoRow.holds Try.pinned (OpenSpec.upto satAddsSpec)

/-- 'commonagelaw01.SatMuls', WHERE WHAT IT READS IS OF BULK AT MOST 1048576: true; the input reads as it did. -/
def satMulsUptoRow : OpenClaim := { program := "ytjnmikncgglfmaa", sum := "15ce43c40503c585e20e5d237b6683f145b83dbc0541a3d026361e70e63b3008", func := "commonage/commonagelaw01.SatMuls", spec := "satMuls", unfollowed := true, recurses := true, named := ["math/bits.divideError", "math/bits.overflowError"], apart := false, narrowed := true }
def SatMulsUptoSaid : Prop := satMulsUptoRow.holds Try.pinned (OpenSpec.upto satMulsSpec)

/-- 'commonagelaw01.SatCounts', WHERE WHAT IT READS IS OF BULK AT MOST 1048576: true; the input reads as it did. -/
def satCountsUptoRow : OpenClaim := { program := "ytjnmikncgglfmaa", sum := "15ce43c40503c585e20e5d237b6683f145b83dbc0541a3d026361e70e63b3008", func := "commonage/commonagelaw01.SatCounts", spec := "satCounts", unfollowed := true, recurses := true, named := ["math/bits.divideError", "math/bits.overflowError"], apart := false, narrowed := true }
def SatCountsUptoSaid : Prop := satCountsUptoRow.holds Try.pinned (OpenSpec.upto satCountsSpec)

/-- 'commonagelaw01.SatRises', WHERE WHAT IT READS IS OF BULK AT MOST 1048576: true; the input reads as it did. -/
def satRisesUptoRow : OpenClaim := { program := "ytjnmikncgglfmaa", sum := "15ce43c40503c585e20e5d237b6683f145b83dbc0541a3d026361e70e63b3008", func := "commonage/commonagelaw01.SatRises", spec := "satRises", unfollowed := true, recurses := true, named := ["math/bits.divideError", "math/bits.overflowError"], apart := false, narrowed := true }
def SatRisesUptoSaid : Prop := satRisesUptoRow.holds Try.pinned (OpenSpec.upto satRisesSpec)

/-- 'commonagelaw01.SatTurns', WHERE WHAT IT READS IS OF BULK AT MOST 1048576: true; the input reads as it did. -/
def satTurnsUptoRow : OpenClaim := { program := "ytjnmikncgglfmaa", sum := "15ce43c40503c585e20e5d237b6683f145b83dbc0541a3d026361e70e63b3008", func := "commonage/commonagelaw01.SatTurns", spec := "satTurns", unfollowed := true, recurses := true, named := ["math/bits.divideError", "math/bits.overflowError"], apart := false, narrowed := true }
def SatTurnsUptoSaid : Prop := satTurnsUptoRow.holds Try.pinned (OpenSpec.upto satTurnsSpec)

/-- 'commonagelaw01.SatThree', WHERE WHAT IT READS IS OF BULK AT MOST 1048576: true; the input reads as it did. -/
def satThreeUptoRow : OpenClaim := { program := "ytjnmikncgglfmaa", sum := "15ce43c40503c585e20e5d237b6683f145b83dbc0541a3d026361e70e63b3008", func := "commonage/commonagelaw01.SatThree", spec := "satThree", unfollowed := true, recurses := true, named := ["math/bits.divideError", "math/bits.overflowError"], apart := false, narrowed := true }
def SatThreeUptoSaid : Prop := satThreeUptoRow.holds Try.pinned (OpenSpec.upto satThreeSpec)

/-- 'commonagelaw01.SatUnitsOf', WHERE WHAT IT READS IS OF BULK AT MOST 1048576: true; the input reads as it did. -/
def satUnitsOfUptoRow : OpenClaim := { program := "ytjnmikncgglfmaa", sum := "15ce43c40503c585e20e5d237b6683f145b83dbc0541a3d026361e70e63b3008", func := "commonage/commonagelaw01.SatUnitsOf", spec := "satUnitsOf", unfollowed := true, recurses := true, named := ["math/bits.divideError", "math/bits.overflowError"], apart := false, narrowed := true }
def SatUnitsOfUptoSaid : Prop := satUnitsOfUptoRow.holds Try.pinned (OpenSpec.upto satUnitsOfSpec)

/-- 'commonagelaw01.SatSame', WHERE WHAT IT READS IS OF BULK AT MOST 1048576: true; the input reads as it did. -/
def satSameUptoRow : OpenClaim := { program := "ytjnmikncgglfmaa", sum := "15ce43c40503c585e20e5d237b6683f145b83dbc0541a3d026361e70e63b3008", func := "commonage/commonagelaw01.SatSame", spec := "satSame", unfollowed := true, recurses := true, named := ["math/bits.divideError", "math/bits.overflowError"], apart := false, narrowed := true }
def SatSameUptoSaid : Prop := satSameUptoRow.holds Try.pinned (OpenSpec.upto satSameSpec)

end Rows
end Go.Proofs.Ytjnmikncgglfmaa
