/-
  No cell of these rows narrows 'for every input' (looked for: loops, veiled, ifaces, maps, wideKeys, modest, calm, conditions, laid).
  DERIVED. THE GIVEN ROWS OF THIS SEAT. 4 by the template 'for every input the law returns true; each argument reads behind the call as it read before'; 0 by the template 'total and deterministic' (their statements: YtembhdlhhhdpiaaTotals.lean).
  GIVEN WITH THE SEED: the statements are not yours to turn. If you find one false, say at which input.
  Laid BY PROGRAM, IN A SANDBOX (cutbox-rows.mjs): the forced cells as the released guide's own fill.sh prints them over the translation 1ad4aff5bf377f9c… (all of the seat's roots in one cut). By AI agents, Wed Nov 11 2026. No macro, syntax, notation, axiom, sorry.
-/
import Derived.Test.YtembhdlhhhdpiaaChecked
import GoSem.Claim
import GoSem.ClaimJoined
import GoSem.ClaimMapViews
import Derived.JoinedTies
import Derived.KernelRfl
namespace Go.Proofs.Ytembhdlhhhdpiaa
/- THE CELL 'sum', in the pinned program and in every row, IS THE sha256 OF THE DUMP (.gsa) THAT YtembhdlhhhdpiaaProg.lean LOADS. Nothing in Lean hashes anything: it is a label: what it is worth is what the hold of that sum in a sandbox is worth. -/
noncomputable def Try.pinned : Pinned := { name := "ytembhdlhhhdpiaa", sum := "1ad4aff5bf377f9c40e8b543a5a06e69269aac79b899412e4880dca24a253c1c", checked := Try.checked }
namespace Rows
def none {H : Type} : Left H := { results := [], args := [] }

/-- 'commonagelaw21.PaceParts': WHATEVER THE INPUT: true; the input reads as it did. -/
def pacePartsSpec : ChangeSpec := { name := "paceParts", fn := fun _ => fun
  | [d1, d2, d3] => { results := [.lit (.bool true)], args := [d1, d2, d3] }
  | _ => none }
def pacePartsRow : OpenClaim := { program := "ytembhdlhhhdpiaa", sum := "1ad4aff5bf377f9c40e8b543a5a06e69269aac79b899412e4880dca24a253c1c", func := "commonage/commonagelaw21.PaceParts", spec := "paceParts", unfollowed := true, recurses := true, apart := false }
def PacePartsSaid : Prop := pacePartsRow.holds Try.pinned (OpenSpec.ofChange pacePartsSpec)

/-- ITS FALSE NEIGHBOUR: 'it returns false'. Refute it at one input. -/
def pacePartsWrong : ChangeSpec := { name := "paceParts", fn := fun _ => fun
  | [d1, d2, d3] => { results := [.lit (.bool false)], args := [d1, d2, d3] }
  | _ => none }
def PacePartsWrongFalsely : Prop := pacePartsRow.holds Try.pinned (OpenSpec.ofChange pacePartsWrong)

/-- 'commonagelaw21.PaceEvery': WHATEVER THE INPUT: true; the input reads as it did. -/
def paceEverySpec : ChangeSpec := { name := "paceEvery", fn := fun _ => fun
  | [d1, d2, d3] => { results := [.lit (.bool true)], args := [d1, d2, d3] }
  | _ => none }
def paceEveryRow : OpenClaim := { program := "ytembhdlhhhdpiaa", sum := "1ad4aff5bf377f9c40e8b543a5a06e69269aac79b899412e4880dca24a253c1c", func := "commonage/commonagelaw21.PaceEvery", spec := "paceEvery", unfollowed := true, recurses := true, apart := false }
def PaceEverySaid : Prop := paceEveryRow.holds Try.pinned (OpenSpec.ofChange paceEverySpec)

/-- ITS FALSE NEIGHBOUR: 'it returns false'. Refute it at one input. -/
def paceEveryWrong : ChangeSpec := { name := "paceEvery", fn := fun _ => fun
  | [d1, d2, d3] => { results := [.lit (.bool false)], args := [d1, d2, d3] }
  | _ => none }
def PaceEveryWrongFalsely : Prop := paceEveryRow.holds Try.pinned (OpenSpec.ofChange paceEveryWrong)

/-- 'commonagelaw21.PacePlays': WHATEVER THE INPUT: true; the input reads as it did. -/
def pacePlaysSpec : ChangeSpec := { name := "pacePlays", fn := fun _ => fun
  | [d1, d2] => { results := [.lit (.bool true)], args := [d1, d2] }
  | _ => none }
def pacePlaysRow : OpenClaim := { program := "ytembhdlhhhdpiaa", sum := "1ad4aff5bf377f9c40e8b543a5a06e69269aac79b899412e4880dca24a253c1c", func := "commonage/commonagelaw21.PacePlays", spec := "pacePlays", unfollowed := true, recurses := true, apart := false }
def PacePlaysSaid : Prop := pacePlaysRow.holds Try.pinned (OpenSpec.ofChange pacePlaysSpec)

/-- ITS FALSE NEIGHBOUR: 'it returns false'. Refute it at one input. -/
def pacePlaysWrong : ChangeSpec := { name := "pacePlays", fn := fun _ => fun
  | [d1, d2] => { results := [.lit (.bool false)], args := [d1, d2] }
  | _ => none }
def PacePlaysWrongFalsely : Prop := pacePlaysRow.holds Try.pinned (OpenSpec.ofChange pacePlaysWrong)

/-- 'commonagelaw21.PaceTurns': WHATEVER THE INPUT: true; the input reads as it did. -/
def paceTurnsSpec : ChangeSpec := { name := "paceTurns", fn := fun _ => fun
  | [d1, d2] => { results := [.lit (.bool true)], args := [d1, d2] }
  | _ => none }
def paceTurnsRow : OpenClaim := { program := "ytembhdlhhhdpiaa", sum := "1ad4aff5bf377f9c40e8b543a5a06e69269aac79b899412e4880dca24a253c1c", func := "commonage/commonagelaw21.PaceTurns", spec := "paceTurns", unfollowed := true, recurses := true, apart := false }
def PaceTurnsSaid : Prop := paceTurnsRow.holds Try.pinned (OpenSpec.ofChange paceTurnsSpec)

/-- ITS FALSE NEIGHBOUR: 'it returns false'. Refute it at one input. -/
def paceTurnsWrong : ChangeSpec := { name := "paceTurns", fn := fun _ => fun
  | [d1, d2] => { results := [.lit (.bool false)], args := [d1, d2] }
  | _ => none }
def PaceTurnsWrongFalsely : Prop := paceTurnsRow.holds Try.pinned (OpenSpec.ofChange paceTurnsWrong)

/- THE SECOND FORM. 'bulk': how many values and letters a reading holds, each counted each time it is reached (what is shared counts as often as it is met; a slice's spare places count too). A statement '..UptoSaid' is the law's where the arguments, and the package variables that the reading takes, are together of bulk at most 1048576: NARROWER than '..Said'. Prove '..Said' where nothing that the law and all that it calls make is longer than what came in: it says more and counts as full. Else prove '..UptoSaid'. A law counts once. -/
mutual
def uptoBulk {H : Type} : DataW H → Nat
  | .lit (.string bytes) => bytes.length + 1
  | .lit _ => 1
  | .nil => 1
  | .ptr d => uptoBulk d + 1
  | .slice elems spare => uptoBulkAll elems + uptoBulkAll spare + 1
  | .agg parts => uptoBulkAll parts + 1
  | .iface _ d => uptoBulk d + 1
  | .map entries => uptoBulkEntries entries + 1
  | .held _ => 1
def uptoBulkAll {H : Type} : List (DataW H) → Nat
  | [] => 0
  | d :: r => uptoBulk d + uptoBulkAll r
def uptoBulkEntries {H : Type} : List (Lit × DataW H) → Nat
  | [] => 0
  | x :: r => uptoBulkEntry x + uptoBulkEntries r
def uptoBulkEntry {H : Type} : Lit × DataW H → Nat
  | (.string bytes, d) => bytes.length + uptoBulk d + 1
  | (_, d) => uptoBulk d + 1
 end
def uptoSmall : (H : Type) → List (DataW H) → Bool := fun _ ds => decide (uptoBulkAll ds ≤ 1048576)
def OpenSpec.upto (s : _root_.Go.ChangeSpec) : _root_.Go.OpenSpec := { _root_.Go.OpenSpec.ofChange s with cond := some uptoSmall }

/-- 'commonagelaw21.PaceParts', WHERE WHAT IT READS IS OF BULK AT MOST 1048576: true; the input reads as it did. -/
def pacePartsUptoRow : OpenClaim := { program := "ytembhdlhhhdpiaa", sum := "1ad4aff5bf377f9c40e8b543a5a06e69269aac79b899412e4880dca24a253c1c", func := "commonage/commonagelaw21.PaceParts", spec := "paceParts", unfollowed := true, recurses := true, apart := false, narrowed := true }
def PacePartsUptoSaid : Prop := pacePartsUptoRow.holds Try.pinned (OpenSpec.upto pacePartsSpec)

/-- 'commonagelaw21.PaceEvery', WHERE WHAT IT READS IS OF BULK AT MOST 1048576: true; the input reads as it did. -/
def paceEveryUptoRow : OpenClaim := { program := "ytembhdlhhhdpiaa", sum := "1ad4aff5bf377f9c40e8b543a5a06e69269aac79b899412e4880dca24a253c1c", func := "commonage/commonagelaw21.PaceEvery", spec := "paceEvery", unfollowed := true, recurses := true, apart := false, narrowed := true }
def PaceEveryUptoSaid : Prop := paceEveryUptoRow.holds Try.pinned (OpenSpec.upto paceEverySpec)

/-- 'commonagelaw21.PacePlays', WHERE WHAT IT READS IS OF BULK AT MOST 1048576: true; the input reads as it did. -/
def pacePlaysUptoRow : OpenClaim := { program := "ytembhdlhhhdpiaa", sum := "1ad4aff5bf377f9c40e8b543a5a06e69269aac79b899412e4880dca24a253c1c", func := "commonage/commonagelaw21.PacePlays", spec := "pacePlays", unfollowed := true, recurses := true, apart := false, narrowed := true }
def PacePlaysUptoSaid : Prop := pacePlaysUptoRow.holds Try.pinned (OpenSpec.upto pacePlaysSpec)

/-- 'commonagelaw21.PaceTurns', WHERE WHAT IT READS IS OF BULK AT MOST 1048576: true; the input reads as it did. -/
def paceTurnsUptoRow : OpenClaim := { program := "ytembhdlhhhdpiaa", sum := "1ad4aff5bf377f9c40e8b543a5a06e69269aac79b899412e4880dca24a253c1c", func := "commonage/commonagelaw21.PaceTurns", spec := "paceTurns", unfollowed := true, recurses := true, apart := false, narrowed := true }
def PaceTurnsUptoSaid : Prop := paceTurnsUptoRow.holds Try.pinned (OpenSpec.upto paceTurnsSpec)

end Rows
end Go.Proofs.Ytembhdlhhhdpiaa
