/-
  DERIVED. GIVEN WITH THE SEED: THE CARDS: each row of YtemoifebbhoinabGreatDoorRows.lean that lists a variable, with what it lists TIED to the program's text (the seventh form; the later family's looks); each row that meets fmt, with fmt's text TOLD by the authors' own Lean function (tested against real Go, not proved from fmt's source: count such statements apart). THE CARD IS WHAT COUNTS. Prove the row's statement (the work); the ties are given (YtemoifebbhoinabGreatDoorTie.lean); close each card by the builder's one call (the guide's Derived/Test/ToyasCard.lean, 'card_holds'). Laid BY PROGRAM, IN A SANDBOX (cutbox-door.mjs). By AI agents, Wed Nov 11 2026. No macro, syntax, notation, axiom, sorry.
-/
import Derived.Test.YtemoifebbhoinabGreatDoorRows
import GoSem.ClaimSeven
namespace Go.Proofs.YtemoifebbhoinabGreatDoor
namespace Rows

/-- THE TIED CARD OF 'messuagelaw16.ShootOther'. -/
def shootOtherCard : Claim7 := { stood := { row := shootOtherRow, standIns := [], harness := (true, "4f26a5657856cfb58b10280f08bbf0f6db0b10fb2b2780ffcf6ed312fcce3889"), looks := true }, kinds := [], alts := [], laidByText := true, laidKinds := [.handle], laidTests := true, laidLooks := .later }
def ShootOtherCardSaid : Prop := Claim7.holds Tryz.pinned (.plain (OpenSpec.ofChange shootOtherSpec)) shootOtherCard

/-- THE SECOND FORM's CARD OF 'messuagelaw16.ShootOther'. -/
def shootOtherUptoCard : Claim7 := { stood := { row := shootOtherUptoRow, standIns := [], harness := (true, "4f26a5657856cfb58b10280f08bbf0f6db0b10fb2b2780ffcf6ed312fcce3889"), looks := true }, kinds := [], alts := [], laidByText := true, laidKinds := [.handle], laidTests := true, laidLooks := .later }
def ShootOtherUptoCardSaid : Prop := Claim7.holds Tryz.pinned (.plain (OpenSpec.upto shootOtherSpec)) shootOtherUptoCard
end Rows
end Go.Proofs.YtemoifebbhoinabGreatDoor
