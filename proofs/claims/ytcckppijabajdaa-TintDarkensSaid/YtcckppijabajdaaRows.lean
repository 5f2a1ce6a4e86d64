/-
  No cell of these rows narrows 'for every input' (looked for: loops, veiled, ifaces, maps, wideKeys, modest, calm, conditions, laid).
  DERIVED. THE GIVEN ROWS OF THIS SEAT. 4 by the template 'for every input the law returns true; each argument reads behind the call as it read before'; 0 by the template 'total and deterministic' (their statements: YtcckppijabajdaaTotals.lean).
  GIVEN WITH THE SEED: the statements are not yours to turn. If you find one false, say at which input.
  Laid BY PROGRAM, IN A SANDBOX (cutbox-rows.mjs): the forced cells as the released guide's own fill.sh prints them over the translation f24596e0cab1191f… (all of the seat's roots in one cut). By AI agents, Wed Nov 11 2026. No macro, syntax, notation, axiom, sorry.
-/
import Derived.Test.YtcckppijabajdaaChecked
import GoSem.Claim
import GoSem.ClaimJoined
import GoSem.ClaimMapViews
import Derived.JoinedTies
import Derived.KernelRfl
namespace Go.Proofs.Ytcckppijabajdaa
/- THE CELL 'sum', in the pinned program and in every row, IS THE sha256 OF THE DUMP (.gsa) THAT YtcckppijabajdaaProg.lean LOADS. Nothing in Lean hashes anything: it is a label: what it is worth is what the hold of that sum in a sandbox is worth. -/
noncomputable def Try.pinned : Pinned := { name := "ytcckppijabajdaa", sum := "f24596e0cab1191f652faa9adb5b934bbcc5170d54e8d3fdd42ac2f2d01ddf08", checked := Try.checked }
namespace Rows
def none {H : Type} : Left H := { results := [], args := [] }

/-- 'commonagelaw18.TintPlays': WHATEVER THE INPUT: true; the input reads as it did. -/
def tintPlaysSpec : ChangeSpec := { name := "tintPlays", fn := fun _ => fun
  | [d1, d2, d3] => { results := [.lit (.bool true)], args := [d1, d2, d3] }
  | _ => none }
def tintPlaysRow : OpenClaim := { program := "ytcckppijabajdaa", sum := "f24596e0cab1191f652faa9adb5b934bbcc5170d54e8d3fdd42ac2f2d01ddf08", func := "commonage/commonagelaw18.TintPlays", spec := "tintPlays", unfollowed := true, recurses := true, apart := false }
def TintPlaysSaid : Prop := tintPlaysRow.holds Try.pinned (OpenSpec.ofChange tintPlaysSpec)

/-- ITS FALSE NEIGHBOUR: 'it returns false'. Refute it at one input. -/
def tintPlaysWrong : ChangeSpec := { name := "tintPlays", fn := fun _ => fun
  | [d1, d2, d3] => { results := [.lit (.bool false)], args := [d1, d2, d3] }
  | _ => none }
def TintPlaysWrongFalsely : Prop := tintPlaysRow.holds Try.pinned (OpenSpec.ofChange tintPlaysWrong)

/-- 'commonagelaw18.TintDarkens': WHATEVER THE INPUT: true; the input reads as it did. -/
def tintDarkensSpec : ChangeSpec := { name := "tintDarkens", fn := fun _ => fun
  | [d1, d2] => { results := [.lit (.bool true)], args := [d1, d2] }
  | _ => none }
def tintDarkensRow : OpenClaim := { program := "ytcckppijabajdaa", sum := "f24596e0cab1191f652faa9adb5b934bbcc5170d54e8d3fdd42ac2f2d01ddf08", func := "commonage/commonagelaw18.TintDarkens", spec := "tintDarkens", unfollowed := true, recurses := true, apart := false }
def TintDarkensSaid : Prop := tintDarkensRow.holds Try.pinned (OpenSpec.ofChange tintDarkensSpec)

/-- ITS FALSE NEIGHBOUR: 'it returns false'. Refute it at one input. -/
def tintDarkensWrong : ChangeSpec := { name := "tintDarkens", fn := fun _ => fun
  | [d1, d2] => { results := [.lit (.bool false)], args := [d1, d2] }
  | _ => none }
def TintDarkensWrongFalsely : Prop := tintDarkensRow.holds Try.pinned (OpenSpec.ofChange tintDarkensWrong)

/-- 'commonagelaw18.TintAlone': WHATEVER THE INPUT: true; the input reads as it did. -/
def tintAloneSpec : ChangeSpec := { name := "tintAlone", fn := fun _ => fun
  | [d1, d2, d3] => { results := [.lit (.bool true)], args := [d1, d2, d3] }
  | _ => none }
def tintAloneRow : OpenClaim := { program := "ytcckppijabajdaa", sum := "f24596e0cab1191f652faa9adb5b934bbcc5170d54e8d3fdd42ac2f2d01ddf08", func := "commonage/commonagelaw18.TintAlone", spec := "tintAlone", unfollowed := true, recurses := true, apart := false }
def TintAloneSaid : Prop := tintAloneRow.holds Try.pinned (OpenSpec.ofChange tintAloneSpec)

/-- ITS FALSE NEIGHBOUR: 'it returns false'. Refute it at one input. -/
def tintAloneWrong : ChangeSpec := { name := "tintAlone", fn := fun _ => fun
  | [d1, d2, d3] => { results := [.lit (.bool false)], args := [d1, d2, d3] }
  | _ => none }
def TintAloneWrongFalsely : Prop := tintAloneRow.holds Try.pinned (OpenSpec.ofChange tintAloneWrong)

/-- 'commonagelaw18.TintFlips': WHATEVER THE INPUT: true; the input reads as it did. -/
def tintFlipsSpec : ChangeSpec := { name := "tintFlips", fn := fun _ => fun
  | [d1, d2, d3] => { results := [.lit (.bool true)], args := [d1, d2, d3] }
  | _ => none }
def tintFlipsRow : OpenClaim := { program := "ytcckppijabajdaa", sum := "f24596e0cab1191f652faa9adb5b934bbcc5170d54e8d3fdd42ac2f2d01ddf08", func := "commonage/commonagelaw18.TintFlips", spec := "tintFlips", unfollowed := true, recurses := true, apart := false }
def TintFlipsSaid : Prop := tintFlipsRow.holds Try.pinned (OpenSpec.ofChange tintFlipsSpec)

/-- ITS FALSE NEIGHBOUR: 'it returns false'. Refute it at one input. -/
def tintFlipsWrong : ChangeSpec := { name := "tintFlips", fn := fun _ => fun
  | [d1, d2, d3] => { results := [.lit (.bool false)], args := [d1, d2, d3] }
  | _ => none }
def TintFlipsWrongFalsely : Prop := tintFlipsRow.holds Try.pinned (OpenSpec.ofChange tintFlipsWrong)

/- THE SECOND FORM. 'bulk': how many values and letters a reading holds, each counted each time it is reached (what is shared counts as often as it is met; a slice's spare places count too). A statement '..UptoSaid' is the law's where the arguments, and the package variables that the reading takes, are together of bulk at most 1048576: NARROWER than '..Said'. Prove '..Said' where nothing that the law and all that it calls make is longer than what came in: it says more and counts as full. Else prove '..UptoSaid'. A law counts once. -/
mutual
def uptoBulk {H : Type} : DataW H → Nat
  | .lit (.string bytes) => bytes.length + 1
  | .lit _ => 1
  | .nil => 1
  | .ptr d => uptoBulk d + 1
  | .slice elems spare => uptoBulkAll elems + uptoBulkAll spare + 1
  | .agg parts => uptoBulkAll parts + 1
  | .iface _ d => uptoBulk d + 1
  | .map entries => uptoBulkEntries entries + 1
  | .held _ => 1
def uptoBulkAll {H : Type} : List (DataW H) → Nat
  | [] => 0
  | d :: r => uptoBulk d + uptoBulkAll r
def uptoBulkEntries {H : Type} : List (Lit × DataW H) → Nat
  | [] => 0
  | x :: r => uptoBulkEntry x + uptoBulkEntries r
def uptoBulkEntry {H : Type} : Lit × DataW H → Nat
  | (.string bytes, d) => bytes.length + uptoBulk d + 1
  | (_, d) => uptoBulk d + 1
 end
def uptoSmall : (H : Type) → List (DataW H) → Bool := fun _ ds => decide (uptoBulkAll ds ≤ 1048576)
def OpenSpec.upto (s : _root_.Go.ChangeSpec) : _root_.Go.OpenSpec := { _root_.Go.OpenSpec.ofChange s with cond := some uptoSmall }

/-- 'commonagelaw18.TintPlays', WHERE WHAT IT READS IS OF BULK AT MOST 1048576: true; the input reads as it did. -/
def tintPlaysUptoRow : OpenClaim := { program := "ytcckppijabajdaa", sum := "f24596e0cab1191f652faa9adb5b934bbcc5170d54e8d3fdd42ac2f2d01ddf08", func := "commonage/commonagelaw18.TintPlays", spec := "tintPlays", unfollowed := true, recurses := true, apart := false, narrowed := true }
def TintPlaysUptoSaid : Prop := tintPlaysUptoRow.holds Try.pinned (OpenSpec.upto tintPlaysSpec)

/-- 'commonagelaw18.TintDarkens', WHERE WHAT IT READS IS OF BULK AT MOST 1048576: true; the input reads as it did. -/
def tintDarkensUptoRow : OpenClaim := { program := "ytcckppijabajdaa", sum := "f24596e0cab1191f652faa9adb5b934bbcc5170d54e8d3fdd42ac2f2d01ddf08", func := "commonage/commonagelaw18.TintDarkens", spec := "tintDarkens", unfollowed := true, recurses := true, apart := false, narrowed := true }
def TintDarkensUptoSaid : Prop := tintDarkensUptoRow.holds Try.pinned (OpenSpec.upto tintDarkensSpec)

/-- 'commonagelaw18.TintAlone', WHERE WHAT IT READS IS OF BULK AT MOST 1048576: true; the input reads as it did. -/
def tintAloneUptoRow : OpenClaim := { program := "ytcckppijabajdaa", sum := "f24596e0cab1191f652faa9adb5b934bbcc5170d54e8d3fdd42ac2f2d01ddf08", func := "commonage/commonagelaw18.TintAlone", spec := "tintAlone", unfollowed := true, recurses := true, apart := false, narrowed := true }
def TintAloneUptoSaid : Prop := tintAloneUptoRow.holds Try.pinned (OpenSpec.upto tintAloneSpec)

/-- 'commonagelaw18.TintFlips', WHERE WHAT IT READS IS OF BULK AT MOST 1048576: true; the input reads as it did. -/
def tintFlipsUptoRow : OpenClaim := { program := "ytcckppijabajdaa", sum := "f24596e0cab1191f652faa9adb5b934bbcc5170d54e8d3fdd42ac2f2d01ddf08", func := "commonage/commonagelaw18.TintFlips", spec := "tintFlips", unfollowed := true, recurses := true, apart := false, narrowed := true }
def TintFlipsUptoSaid : Prop := tintFlipsUptoRow.holds Try.pinned (OpenSpec.upto tintFlipsSpec)

end Rows
end Go.Proofs.Ytcckppijabajdaa
