/-
  DERIVED. GIVEN WITH THE SEED: THE CARDS: each row of YtmggcfijlpldpaaGreatDoorRows.lean that lists a variable, with what it lists TIED to the program's text (the seventh form; the later family's looks); each row that meets fmt, with fmt's text TOLD by the authors' own Lean function (tested against real Go, not proved from fmt's source: count such statements apart). THE CARD IS WHAT COUNTS. Prove the row's statement (the work); the ties are given (YtmggcfijlpldpaaGreatDoorTie.lean); close each card by the builder's one call (the guide's Derived/Test/ToyasCard.lean, 'card_holds'). Laid BY PROGRAM, IN A SANDBOX (cutbox-door.mjs). By AI agents, Wed Nov 11 2026. No macro, syntax, notation, axiom, sorry.
-/
import Derived.Test.YtmggcfijlpldpaaGreatDoorRows
import GoSem.ClaimSeven
namespace Go.Proofs.YtmggcfijlpldpaaGreatDoor
namespace Rows

/-- THE TIED CARD OF 'messuagelaw16.ShootProtect'. -/
def shootProtectCard : Claim7 := { stood := { row := shootProtectRow, standIns := [], harness := (true, "0a18a80e28d285d70557e301bc4d2565b35b6c3c507dca02213e4d1d6624e7b5"), looks := true }, kinds := [], alts := [], laidByText := true, laidKinds := [.handle], laidTests := true, laidLooks := .later }
def ShootProtectCardSaid : Prop := Claim7.holds Tryz.pinned (.plain (OpenSpec.ofChange shootProtectSpec)) shootProtectCard

/-- THE TIED CARD OF 'messuagelaw16.ShootRevoke'. -/
def shootRevokeCard : Claim7 := { stood := { row := shootRevokeRow, standIns := [], harness := (true, "0a18a80e28d285d70557e301bc4d2565b35b6c3c507dca02213e4d1d6624e7b5"), looks := true }, kinds := [], alts := [], laidByText := true, laidKinds := [.handle], laidTests := true, laidLooks := .later }
def ShootRevokeCardSaid : Prop := Claim7.holds Tryz.pinned (.plain (OpenSpec.ofChange shootRevokeSpec)) shootRevokeCard

/-- THE TIED CARD OF 'messuagelaw16.RaceAlloc'. -/
def raceAllocCard : Claim7 := { stood := { row := raceAllocRow, standIns := [], harness := (true, "0a18a80e28d285d70557e301bc4d2565b35b6c3c507dca02213e4d1d6624e7b5"), looks := true }, kinds := [], alts := [], laidByText := true, laidKinds := [.handle], laidTests := true, laidLooks := .later }
def RaceAllocCardSaid : Prop := Claim7.holds Tryz.pinned (.plain (OpenSpec.ofChange raceAllocSpec)) raceAllocCard

/-- THE TIED CARD OF 'messuagelaw16.RaceGrant'. -/
def raceGrantCard : Claim7 := { stood := { row := raceGrantRow, standIns := [], harness := (true, "0a18a80e28d285d70557e301bc4d2565b35b6c3c507dca02213e4d1d6624e7b5"), looks := true }, kinds := [], alts := [], laidByText := true, laidKinds := [.handle], laidTests := true, laidLooks := .later }
def RaceGrantCardSaid : Prop := Claim7.holds Tryz.pinned (.plain (OpenSpec.ofChange raceGrantSpec)) raceGrantCard

/-- THE TIED CARD OF 'messuagelaw16.RaceAdd'. -/
def raceAddCard : Claim7 := { stood := { row := raceAddRow, standIns := [], harness := (true, "0a18a80e28d285d70557e301bc4d2565b35b6c3c507dca02213e4d1d6624e7b5"), looks := true }, kinds := [], alts := [], laidByText := true, laidKinds := [.handle], laidTests := true, laidLooks := .later }
def RaceAddCardSaid : Prop := Claim7.holds Tryz.pinned (.plain (OpenSpec.ofChange raceAddSpec)) raceAddCard

/-- THE TIED CARD OF 'messuagelaw16.KernEnds'. -/
def kernEndsCard : Claim7 := { stood := { row := kernEndsRow, standIns := [], harness := (true, "0a18a80e28d285d70557e301bc4d2565b35b6c3c507dca02213e4d1d6624e7b5"), looks := true }, kinds := [], alts := [], laidByText := true, laidKinds := [.handle], laidTests := true, laidLooks := .later }
def KernEndsCardSaid : Prop := Claim7.holds Tryz.pinned (.plain (OpenSpec.ofChange kernEndsSpec)) kernEndsCard

/-- THE TIED CARD OF 'messuagelaw16.KernFree'. -/
def kernFreeCard : Claim7 := { stood := { row := kernFreeRow, standIns := [], harness := (true, "0a18a80e28d285d70557e301bc4d2565b35b6c3c507dca02213e4d1d6624e7b5"), looks := true }, kinds := [], alts := [], laidByText := true, laidKinds := [.handle], laidTests := true, laidLooks := .later }
def KernFreeCardSaid : Prop := Claim7.holds Tryz.pinned (.plain (OpenSpec.ofChange kernFreeSpec)) kernFreeCard

/-- THE TIED CARD OF 'messuagelaw16.TwinSelf'. -/
def twinSelfCard : Claim7 := { stood := { row := twinSelfRow, standIns := [], harness := (true, "0a18a80e28d285d70557e301bc4d2565b35b6c3c507dca02213e4d1d6624e7b5"), looks := true }, kinds := [], alts := [], laidByText := true, laidKinds := [.handle], laidTests := true, laidLooks := .later }
def TwinSelfCardSaid : Prop := Claim7.holds Tryz.pinned (.plain (OpenSpec.ofChange twinSelfSpec)) twinSelfCard

/-- THE TIED CARD OF 'messuagelaw16.HistTurn'. -/
def histTurnCard : Claim7 := { stood := { row := histTurnRow, standIns := [], harness := (true, "0a18a80e28d285d70557e301bc4d2565b35b6c3c507dca02213e4d1d6624e7b5"), looks := true }, kinds := [], alts := [], laidByText := true, laidKinds := [.handle], laidTests := true, laidLooks := .later }
def HistTurnCardSaid : Prop := Claim7.holds Tryz.pinned (.plain (OpenSpec.ofChange histTurnSpec)) histTurnCard

/-- THE TIED CARD OF 'messuagelaw16.KernLinear'. -/
def kernLinearCard : Claim7 := { stood := { row := kernLinearRow, standIns := [], harness := (true, "0a18a80e28d285d70557e301bc4d2565b35b6c3c507dca02213e4d1d6624e7b5"), looks := true }, kinds := [], alts := [], laidByText := true, laidKinds := [.handle], laidTests := true, laidLooks := .later }
def KernLinearCardSaid : Prop := Claim7.holds Tryz.pinned (.plain (OpenSpec.ofChange kernLinearSpec)) kernLinearCard

/-- THE TIED CARD OF 'messuagelaw16.KernBad'. -/
def kernBadCard : Claim7 := { stood := { row := kernBadRow, standIns := [], harness := (true, "0a18a80e28d285d70557e301bc4d2565b35b6c3c507dca02213e4d1d6624e7b5"), looks := true }, kinds := [], alts := [], laidByText := true, laidKinds := [.handle], laidTests := true, laidLooks := .later }
def KernBadCardSaid : Prop := Claim7.holds Tryz.pinned (.plain (OpenSpec.ofChange kernBadSpec)) kernBadCard

/-- THE SECOND FORM's CARD OF 'messuagelaw16.ShootProtect'. -/
def shootProtectUptoCard : Claim7 := { stood := { row := shootProtectUptoRow, standIns := [], harness := (true, "0a18a80e28d285d70557e301bc4d2565b35b6c3c507dca02213e4d1d6624e7b5"), looks := true }, kinds := [], alts := [], laidByText := true, laidKinds := [.handle], laidTests := true, laidLooks := .later }
def ShootProtectUptoCardSaid : Prop := Claim7.holds Tryz.pinned (.plain (OpenSpec.upto shootProtectSpec)) shootProtectUptoCard

/-- THE SECOND FORM's CARD OF 'messuagelaw16.ShootRevoke'. -/
def shootRevokeUptoCard : Claim7 := { stood := { row := shootRevokeUptoRow, standIns := [], harness := (true, "0a18a80e28d285d70557e301bc4d2565b35b6c3c507dca02213e4d1d6624e7b5"), looks := true }, kinds := [], alts := [], laidByText := true, laidKinds := [.handle], laidTests := true, laidLooks := .later }
def ShootRevokeUptoCardSaid : Prop := Claim7.holds Tryz.pinned (.plain (OpenSpec.upto shootRevokeSpec)) shootRevokeUptoCard

/-- THE SECOND FORM's CARD OF 'messuagelaw16.RaceAlloc'. -/
def raceAllocUptoCard : Claim7 := { stood := { row := raceAllocUptoRow, standIns := [], harness := (true, "0a18a80e28d285d70557e301bc4d2565b35b6c3c507dca02213e4d1d6624e7b5"), looks := true }, kinds := [], alts := [], laidByText := true, laidKinds := [.handle], laidTests := true, laidLooks := .later }
def RaceAllocUptoCardSaid : Prop := Claim7.holds Tryz.pinned (.plain (OpenSpec.upto raceAllocSpec)) raceAllocUptoCard

/-- THE SECOND FORM's CARD OF 'messuagelaw16.RaceGrant'. -/
def raceGrantUptoCard : Claim7 := { stood := { row := raceGrantUptoRow, standIns := [], harness := (true, "0a18a80e28d285d70557e301bc4d2565b35b6c3c507dca02213e4d1d6624e7b5"), looks := true }, kinds := [], alts := [], laidByText := true, laidKinds := [.handle], laidTests := true, laidLooks := .later }
def RaceGrantUptoCardSaid : Prop := Claim7.holds Tryz.pinned (.plain (OpenSpec.upto raceGrantSpec)) raceGrantUptoCard

/-- THE SECOND FORM's CARD OF 'messuagelaw16.RaceAdd'. -/
def raceAddUptoCard : Claim7 := { stood := { row := raceAddUptoRow, standIns := [], harness := (true, "0a18a80e28d285d70557e301bc4d2565b35b6c3c507dca02213e4d1d6624e7b5"), looks := true }, kinds := [], alts := [], laidByText := true, laidKinds := [.handle], laidTests := true, laidLooks := .later }
def RaceAddUptoCardSaid : Prop := Claim7.holds Tryz.pinned (.plain (OpenSpec.upto raceAddSpec)) raceAddUptoCard

/-- THE SECOND FORM's CARD OF 'messuagelaw16.KernEnds'. -/
def kernEndsUptoCard : Claim7 := { stood := { row := kernEndsUptoRow, standIns := [], harness := (true, "0a18a80e28d285d70557e301bc4d2565b35b6c3c507dca02213e4d1d6624e7b5"), looks := true }, kinds := [], alts := [], laidByText := true, laidKinds := [.handle], laidTests := true, laidLooks := .later }
def KernEndsUptoCardSaid : Prop := Claim7.holds Tryz.pinned (.plain (OpenSpec.upto kernEndsSpec)) kernEndsUptoCard

/-- THE SECOND FORM's CARD OF 'messuagelaw16.KernFree'. -/
def kernFreeUptoCard : Claim7 := { stood := { row := kernFreeUptoRow, standIns := [], harness := (true, "0a18a80e28d285d70557e301bc4d2565b35b6c3c507dca02213e4d1d6624e7b5"), looks := true }, kinds := [], alts := [], laidByText := true, laidKinds := [.handle], laidTests := true, laidLooks := .later }
def KernFreeUptoCardSaid : Prop := Claim7.holds Tryz.pinned (.plain (OpenSpec.upto kernFreeSpec)) kernFreeUptoCard

/-- THE SECOND FORM's CARD OF 'messuagelaw16.TwinSelf'. -/
def twinSelfUptoCard : Claim7 := { stood := { row := twinSelfUptoRow, standIns := [], harness := (true, "0a18a80e28d285d70557e301bc4d2565b35b6c3c507dca02213e4d1d6624e7b5"), looks := true }, kinds := [], alts := [], laidByText := true, laidKinds := [.handle], laidTests := true, laidLooks := .later }
def TwinSelfUptoCardSaid : Prop := Claim7.holds Tryz.pinned (.plain (OpenSpec.upto twinSelfSpec)) twinSelfUptoCard

/-- THE SECOND FORM's CARD OF 'messuagelaw16.HistTurn'. -/
def histTurnUptoCard : Claim7 := { stood := { row := histTurnUptoRow, standIns := [], harness := (true, "0a18a80e28d285d70557e301bc4d2565b35b6c3c507dca02213e4d1d6624e7b5"), looks := true }, kinds := [], alts := [], laidByText := true, laidKinds := [.handle], laidTests := true, laidLooks := .later }
def HistTurnUptoCardSaid : Prop := Claim7.holds Tryz.pinned (.plain (OpenSpec.upto histTurnSpec)) histTurnUptoCard

/-- THE SECOND FORM's CARD OF 'messuagelaw16.KernLinear'. -/
def kernLinearUptoCard : Claim7 := { stood := { row := kernLinearUptoRow, standIns := [], harness := (true, "0a18a80e28d285d70557e301bc4d2565b35b6c3c507dca02213e4d1d6624e7b5"), looks := true }, kinds := [], alts := [], laidByText := true, laidKinds := [.handle], laidTests := true, laidLooks := .later }
def KernLinearUptoCardSaid : Prop := Claim7.holds Tryz.pinned (.plain (OpenSpec.upto kernLinearSpec)) kernLinearUptoCard

/-- THE SECOND FORM's CARD OF 'messuagelaw16.KernBad'. -/
def kernBadUptoCard : Claim7 := { stood := { row := kernBadUptoRow, standIns := [], harness := (true, "0a18a80e28d285d70557e301bc4d2565b35b6c3c507dca02213e4d1d6624e7b5"), looks := true }, kinds := [], alts := [], laidByText := true, laidKinds := [.handle], laidTests := true, laidLooks := .later }
def KernBadUptoCardSaid : Prop := Claim7.holds Tryz.pinned (.plain (OpenSpec.upto kernBadSpec)) kernBadUptoCard
end Rows
end Go.Proofs.YtmggcfijlpldpaaGreatDoor
