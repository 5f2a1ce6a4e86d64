/-
  DERIVED. GIVEN WITH THE SEED: THE CARDS: each row of YtgblmelijlgimaaGreatDoorRows.lean that lists a variable, with what it lists TIED to the program's text (the seventh form; the later family's looks); each row that meets fmt, with fmt's text TOLD by the authors' own Lean function (tested against real Go, not proved from fmt's source: count such statements apart). THE CARD IS WHAT COUNTS. Prove the row's statement (the work); the ties are given (YtgblmelijlgimaaGreatDoorTie.lean); close each card by the builder's one call (the guide's Derived/Test/ToyasCard.lean, 'card_holds'). Laid BY PROGRAM, IN A SANDBOX (cutbox-door.mjs). By AI agents, Wed Nov 11 2026. No macro, syntax, notation, axiom, sorry.
-/
import Derived.Test.YtgblmelijlgimaaGreatDoorRows
import GoSem.ClaimSeven
namespace Go.Proofs.YtgblmelijlgimaaGreatDoor
namespace Rows

/-- THE TIED CARD OF 'commonagetop.TopApart'. -/
def topApartCard : Claim7 := { stood := { row := topApartRow, standIns := [], harness := (true, "909e9aaa753dda353a2fc2bccfb4f6aafda8402c3dacf1b70d04fc9c5922899f"), looks := true }, kinds := [], alts := [], laidByText := true, laidKinds := [.data, .data], laidTests := true, laidLooks := .later }
def TopApartCardSaid : Prop := Claim7.holds Tryz.pinned (.plain (OpenSpec.ofChange topApartSpec)) topApartCard

/-- THE SECOND FORM's CARD OF 'commonagetop.TopApart'. -/
def topApartUptoCard : Claim7 := { stood := { row := topApartUptoRow, standIns := [], harness := (true, "909e9aaa753dda353a2fc2bccfb4f6aafda8402c3dacf1b70d04fc9c5922899f"), looks := true }, kinds := [], alts := [], laidByText := true, laidKinds := [.data, .data], laidTests := true, laidLooks := .later }
def TopApartUptoCardSaid : Prop := Claim7.holds Tryz.pinned (.plain (OpenSpec.upto topApartSpec)) topApartUptoCard
end Rows
end Go.Proofs.YtgblmelijlgimaaGreatDoor
