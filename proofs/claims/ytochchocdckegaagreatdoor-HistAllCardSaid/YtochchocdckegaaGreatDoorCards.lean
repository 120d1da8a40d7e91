/-
  DERIVED. GIVEN WITH THE SEED: THE CARDS: each row of YtochchocdckegaaGreatDoorRows.lean that lists a variable, with what it lists TIED to the program's text (the seventh form; the later family's looks); each row that meets fmt, with fmt's text TOLD by the authors' own Lean function (tested against real Go, not proved from fmt's source: count such statements apart). THE CARD IS WHAT COUNTS. Prove the row's statement (the work); the ties are given (YtochchocdckegaaGreatDoorTie.lean); close each card by the builder's one call (the guide's Derived/Test/ToyasCard.lean, 'card_holds'). Laid BY PROGRAM, IN A SANDBOX (cutbox-door.mjs). By AI agents, Wed Nov 11 2026. No macro, syntax, notation, axiom, sorry.
-/
import Derived.Test.YtochchocdckegaaGreatDoorRows
import GoSem.ClaimSeven
namespace Go.Proofs.YtochchocdckegaaGreatDoor
namespace Rows

/-- THE TIED CARD OF 'messuagelaw16.HistAll'. -/
def histAllCard : Claim7 := { stood := { row := histAllRow, standIns := [], harness := (true, "40798a6ac0d80a7f6cda2fa5a230fce821d92e44fca2d767fd684b4a67c4b18b"), looks := true }, kinds := [], alts := [], laidByText := true, laidKinds := [.handle], laidTests := true, laidLooks := .later }
def HistAllCardSaid : Prop := Claim7.holds Tryz.pinned (.plain (OpenSpec.ofChange histAllSpec)) histAllCard

/-- THE TIED CARD OF 'messuagelaw16.ShootFrame'. -/
def shootFrameCard : Claim7 := { stood := { row := shootFrameRow, standIns := [], harness := (true, "40798a6ac0d80a7f6cda2fa5a230fce821d92e44fca2d767fd684b4a67c4b18b"), looks := true }, kinds := [], alts := [], laidByText := true, laidKinds := [.handle], laidTests := true, laidLooks := .later }
def ShootFrameCardSaid : Prop := Claim7.holds Tryz.pinned (.plain (OpenSpec.ofChange shootFrameSpec)) shootFrameCard

/-- THE SECOND FORM's CARD OF 'messuagelaw16.HistAll'. -/
def histAllUptoCard : Claim7 := { stood := { row := histAllUptoRow, standIns := [], harness := (true, "40798a6ac0d80a7f6cda2fa5a230fce821d92e44fca2d767fd684b4a67c4b18b"), looks := true }, kinds := [], alts := [], laidByText := true, laidKinds := [.handle], laidTests := true, laidLooks := .later }
def HistAllUptoCardSaid : Prop := Claim7.holds Tryz.pinned (.plain (OpenSpec.upto histAllSpec)) histAllUptoCard

/-- THE SECOND FORM's CARD OF 'messuagelaw16.ShootFrame'. -/
def shootFrameUptoCard : Claim7 := { stood := { row := shootFrameUptoRow, standIns := [], harness := (true, "40798a6ac0d80a7f6cda2fa5a230fce821d92e44fca2d767fd684b4a67c4b18b"), looks := true }, kinds := [], alts := [], laidByText := true, laidKinds := [.handle], laidTests := true, laidLooks := .later }
def ShootFrameUptoCardSaid : Prop := Claim7.holds Tryz.pinned (.plain (OpenSpec.upto shootFrameSpec)) shootFrameUptoCard
end Rows
end Go.Proofs.YtochchocdckegaaGreatDoor
