/-
  No cell of these rows narrows 'for every input' (looked for: loops, veiled, ifaces, maps, wideKeys, modest, calm, conditions, laid).
  DERIVED. THE GIVEN ROWS OF THIS SEAT. 4 by the template 'for every input the law returns true; each argument reads behind the call as it read before'; 0 by the template 'total and deterministic' (their statements: YtccakpbgmgogeaaTotals.lean).
  GIVEN WITH THE SEED: the statements are not yours to turn. If you find one false, say at which input.
  Laid BY PROGRAM, IN A SANDBOX (cutbox-rows.mjs): the forced cells as the released guide's own fill.sh prints them over the translation d414b57db87bee45… (all of the seat's roots in one cut). By AI agents, Wed Nov 11 2026. No macro, syntax, notation, axiom, sorry.
-/
import Derived.Test.YtccakpbgmgogeaaChecked
import GoSem.Claim
import GoSem.ClaimJoined
import GoSem.ClaimMapViews
import Derived.JoinedTies
import Derived.KernelRfl
namespace Go.Proofs.Ytccakpbgmgogeaa
/- THE CELL 'sum', in the pinned program and in every row, IS THE sha256 OF THE DUMP (.gsa) THAT YtccakpbgmgogeaaProg.lean LOADS. Nothing in Lean hashes anything: it is a label: what it is worth is what the hold of that sum in a sandbox is worth. -/
noncomputable def Try.pinned : Pinned := { name := "ytccakpbgmgogeaa", sum := "d414b57db87bee457ea1451e65f87a707039bd5097913687aa72efc4d1d217e6", checked := Try.checked }
namespace Rows
def none {H : Type} : Left H := { results := [], args := [] }

/-- 'commonagelaw25.RawEntries': WHATEVER THE INPUT: true; the input reads as it did. -/
def rawEntriesSpec : ChangeSpec := { name := "rawEntries", fn := fun _ => fun
  | [d1, d2] => { results := [.lit (.bool true)], args := [d1, d2] }
  | _ => none }
def rawEntriesRow : OpenClaim := { program := "ytccakpbgmgogeaa", sum := "d414b57db87bee457ea1451e65f87a707039bd5097913687aa72efc4d1d217e6", func := "commonage/commonagelaw25.RawEntries", spec := "rawEntries", unfollowed := true, recurses := true, apart := false }
def RawEntriesSaid : Prop := rawEntriesRow.holds Try.pinned (OpenSpec.ofChange rawEntriesSpec)

/-- ITS FALSE NEIGHBOUR: 'it returns false'. Refute it at one input. -/
def rawEntriesWrong : ChangeSpec := { name := "rawEntries", fn := fun _ => fun
  | [d1, d2] => { results := [.lit (.bool false)], args := [d1, d2] }
  | _ => none }
def RawEntriesWrongFalsely : Prop := rawEntriesRow.holds Try.pinned (OpenSpec.ofChange rawEntriesWrong)

/-- 'commonagelaw25.RawCut': WHATEVER THE INPUT: true; the input reads as it did. -/
def rawCutSpec : ChangeSpec := { name := "rawCut", fn := fun _ => fun
  | [d1, d2, d3] => { results := [.lit (.bool true)], args := [d1, d2, d3] }
  | _ => none }
def rawCutRow : OpenClaim := { program := "ytccakpbgmgogeaa", sum := "d414b57db87bee457ea1451e65f87a707039bd5097913687aa72efc4d1d217e6", func := "commonage/commonagelaw25.RawCut", spec := "rawCut", unfollowed := true, recurses := true, apart := false }
def RawCutSaid : Prop := rawCutRow.holds Try.pinned (OpenSpec.ofChange rawCutSpec)

/-- ITS FALSE NEIGHBOUR: 'it returns false'. Refute it at one input. -/
def rawCutWrong : ChangeSpec := { name := "rawCut", fn := fun _ => fun
  | [d1, d2, d3] => { results := [.lit (.bool false)], args := [d1, d2, d3] }
  | _ => none }
def RawCutWrongFalsely : Prop := rawCutRow.holds Try.pinned (OpenSpec.ofChange rawCutWrong)

/-- 'commonagelaw25.RawScripts': WHATEVER THE INPUT: true; the input reads as it did. -/
def rawScriptsSpec : ChangeSpec := { name := "rawScripts", fn := fun _ => fun
  | [d1, d2] => { results := [.lit (.bool true)], args := [d1, d2] }
  | _ => none }
def rawScriptsRow : OpenClaim := { program := "ytccakpbgmgogeaa", sum := "d414b57db87bee457ea1451e65f87a707039bd5097913687aa72efc4d1d217e6", func := "commonage/commonagelaw25.RawScripts", spec := "rawScripts", unfollowed := true, recurses := true, apart := false }
def RawScriptsSaid : Prop := rawScriptsRow.holds Try.pinned (OpenSpec.ofChange rawScriptsSpec)

/-- ITS FALSE NEIGHBOUR: 'it returns false'. Refute it at one input. -/
def rawScriptsWrong : ChangeSpec := { name := "rawScripts", fn := fun _ => fun
  | [d1, d2] => { results := [.lit (.bool false)], args := [d1, d2] }
  | _ => none }
def RawScriptsWrongFalsely : Prop := rawScriptsRow.holds Try.pinned (OpenSpec.ofChange rawScriptsWrong)

/-- 'commonagelaw25.RawJoins': WHATEVER THE INPUT: true; the input reads as it did. -/
def rawJoinsSpec : ChangeSpec := { name := "rawJoins", fn := fun _ => fun
  | [d1, d2] => { results := [.lit (.bool true)], args := [d1, d2] }
  | _ => none }
def rawJoinsRow : OpenClaim := { program := "ytccakpbgmgogeaa", sum := "d414b57db87bee457ea1451e65f87a707039bd5097913687aa72efc4d1d217e6", func := "commonage/commonagelaw25.RawJoins", spec := "rawJoins", unfollowed := true, recurses := true, apart := false }
def RawJoinsSaid : Prop := rawJoinsRow.holds Try.pinned (OpenSpec.ofChange rawJoinsSpec)

/-- ITS FALSE NEIGHBOUR: 'it returns false'. Refute it at one input. -/
def rawJoinsWrong : ChangeSpec := { name := "rawJoins", fn := fun _ => fun
  | [d1, d2] => { results := [.lit (.bool false)], args := [d1, d2] }
  | _ => none }
def RawJoinsWrongFalsely : Prop := rawJoinsRow.holds Try.pinned (OpenSpec.ofChange rawJoinsWrong)

/- THE SECOND FORM. 'bulk': how many values and letters a reading holds, each counted each time it is reached (what is shared counts as often as it is met; a slice's spare places count too). A statement '..UptoSaid' is the law's where the arguments, and the package variables that the reading takes, are together of bulk at most 1048576: NARROWER than '..Said'. Prove '..Said' where nothing that the law and all that it calls make is longer than what came in: it says more and counts as full. Else prove '..UptoSaid'. A law counts once. -/
mutual
def uptoBulk {H : Type} : DataW H → Nat
  | .lit (.string bytes) => bytes.length + 1
  | .lit _ => 1
  | .nil => 1
  | .ptr d => uptoBulk d + 1
  | .slice elems spare => uptoBulkAll elems + uptoBulkAll spare + 1
  | .agg parts => uptoBulkAll parts + 1
  | .iface _ d => uptoBulk d + 1
  | .map entries => uptoBulkEntries entries + 1
  | .held _ => 1
def uptoBulkAll {H : Type} : List (DataW H) → Nat
  | [] => 0
  | d :: r => uptoBulk d + uptoBulkAll r
def uptoBulkEntries {H : Type} : List (Lit × DataW H) → Nat
  | [] => 0
  | x :: r => uptoBulkEntry x + uptoBulkEntries r
def uptoBulkEntry {H : Type} : Lit × DataW H → Nat
  | (.string bytes, d) => bytes.length + uptoBulk d + 1
  | (_, d) => uptoBulk d + 1
 end
def uptoSmall : (H : Type) → List (DataW H) → Bool := fun _ ds => decide (uptoBulkAll ds ≤ 1048576)
def OpenSpec.upto (s : _root_.Go.ChangeSpec) : _root_.Go.OpenSpec := { _root_.Go.OpenSpec.ofChange s with cond := some uptoSmall }

/-- 'commonagelaw25.RawEntries', WHERE WHAT IT READS IS OF BULK AT MOST 1048576: true; the input reads as it did. -/
def rawEntriesUptoRow : OpenClaim := { program := "ytccakpbgmgogeaa", sum := "d414b57db87bee457ea1451e65f87a707039bd5097913687aa72efc4d1d217e6", func := "commonage/commonagelaw25.RawEntries", spec := "rawEntries", unfollowed := true, recurses := true, apart := false, narrowed := true }
def RawEntriesUptoSaid : Prop := rawEntriesUptoRow.holds Try.pinned (OpenSpec.upto rawEntriesSpec)

/-- 'commonagelaw25.RawCut', WHERE WHAT IT READS IS OF BULK AT MOST 1048576: true; the input reads as it did. -/
def rawCutUptoRow : OpenClaim := { program := "ytccakpbgmgogeaa", sum := "d414b57db87bee457ea1451e65f87a707039bd5097913687aa72efc4d1d217e6", func := "commonage/commonagelaw25.RawCut", spec := "rawCut", unfollowed := true, recurses := true, apart := false, narrowed := true }
def RawCutUptoSaid : Prop := rawCutUptoRow.holds Try.pinned (OpenSpec.upto rawCutSpec)

/-- 'commonagelaw25.RawScripts', WHERE WHAT IT READS IS OF BULK AT MOST 1048576: true; the input reads as it did. -/
def rawScriptsUptoRow : OpenClaim := { program := "ytccakpbgmgogeaa", sum := "d414b57db87bee457ea1451e65f87a707039bd5097913687aa72efc4d1d217e6", func := "commonage/commonagelaw25.RawScripts", spec := "rawScripts", unfollowed := true, recurses := true, apart := false, narrowed := true }
def RawScriptsUptoSaid : Prop := rawScriptsUptoRow.holds Try.pinned (OpenSpec.upto rawScriptsSpec)

/-- 'commonagelaw25.RawJoins', WHERE WHAT IT READS IS OF BULK AT MOST 1048576: true; the input reads as it did. -/
def rawJoinsUptoRow : OpenClaim := { program := "ytccakpbgmgogeaa", sum := "d414b57db87bee457ea1451e65f87a707039bd5097913687aa72efc4d1d217e6", func := "commonage/commonagelaw25.RawJoins", spec := "rawJoins", unfollowed := true, recurses := true, apart := false, narrowed := true }
def RawJoinsUptoSaid : Prop := rawJoinsUptoRow.holds Try.pinned (OpenSpec.upto rawJoinsSpec)

end Rows
end Go.Proofs.Ytccakpbgmgogeaa
