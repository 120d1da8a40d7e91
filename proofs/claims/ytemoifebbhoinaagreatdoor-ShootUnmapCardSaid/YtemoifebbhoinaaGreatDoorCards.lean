/-
  DERIVED. GIVEN WITH THE SEED: THE CARDS: each row of YtemoifebbhoinaaGreatDoorRows.lean that lists a variable, with what it lists TIED to the program's text (the seventh form; the later family's looks); each row that meets fmt, with fmt's text TOLD by the authors' own Lean function (tested against real Go, not proved from fmt's source: count such statements apart). THE CARD IS WHAT COUNTS. Prove the row's statement (the work); the ties are given (YtemoifebbhoinaaGreatDoorTie.lean); close each card by the builder's one call (the guide's Derived/Test/ToyasCard.lean, 'card_holds'). Laid BY PROGRAM, IN A SANDBOX (cutbox-door.mjs). By AI agents, Wed Nov 11 2026. No macro, syntax, notation, axiom, sorry.
-/
import Derived.Test.YtemoifebbhoinaaGreatDoorRows
import GoSem.ClaimSeven
namespace Go.Proofs.YtemoifebbhoinaaGreatDoor
namespace Rows

/-- THE TIED CARD OF 'messuagelaw16.ShootRevoke'. -/
def shootRevokeCard : Claim7 := { stood := { row := shootRevokeRow, standIns := [], harness := (true, "a63c83af46769ae5b2e0de3169bc55eed442217913052e397606a55bd0c0baed"), looks := true }, kinds := [], alts := [], laidByText := true, laidKinds := [.handle], laidTests := true, laidLooks := .later }
def ShootRevokeCardSaid : Prop := Claim7.holds Tryz.pinned (.plain (OpenSpec.ofChange shootRevokeSpec)) shootRevokeCard

/-- THE TIED CARD OF 'messuagelaw16.HistTurn'. -/
def histTurnCard : Claim7 := { stood := { row := histTurnRow, standIns := [], harness := (true, "a63c83af46769ae5b2e0de3169bc55eed442217913052e397606a55bd0c0baed"), looks := true }, kinds := [], alts := [], laidByText := true, laidKinds := [.handle], laidTests := true, laidLooks := .later }
def HistTurnCardSaid : Prop := Claim7.holds Tryz.pinned (.plain (OpenSpec.ofChange histTurnSpec)) histTurnCard

/-- THE TIED CARD OF 'messuagelaw16.RaceAlloc'. -/
def raceAllocCard : Claim7 := { stood := { row := raceAllocRow, standIns := [], harness := (true, "a63c83af46769ae5b2e0de3169bc55eed442217913052e397606a55bd0c0baed"), looks := true }, kinds := [], alts := [], laidByText := true, laidKinds := [.handle], laidTests := true, laidLooks := .later }
def RaceAllocCardSaid : Prop := Claim7.holds Tryz.pinned (.plain (OpenSpec.ofChange raceAllocSpec)) raceAllocCard

/-- THE TIED CARD OF 'messuagelaw16.RaceAdd'. -/
def raceAddCard : Claim7 := { stood := { row := raceAddRow, standIns := [], harness := (true, "a63c83af46769ae5b2e0de3169bc55eed442217913052e397606a55bd0c0baed"), looks := true }, kinds := [], alts := [], laidByText := true, laidKinds := [.handle], laidTests := true, laidLooks := .later }
def RaceAddCardSaid : Prop := Claim7.holds Tryz.pinned (.plain (OpenSpec.ofChange raceAddSpec)) raceAddCard

/-- THE TIED CARD OF 'messuagelaw16.KernLinear'. -/
def kernLinearCard : Claim7 := { stood := { row := kernLinearRow, standIns := [], harness := (true, "a63c83af46769ae5b2e0de3169bc55eed442217913052e397606a55bd0c0baed"), looks := true }, kinds := [], alts := [], laidByText := true, laidKinds := [.handle], laidTests := true, laidLooks := .later }
def KernLinearCardSaid : Prop := Claim7.holds Tryz.pinned (.plain (OpenSpec.ofChange kernLinearSpec)) kernLinearCard

/-- THE TIED CARD OF 'messuagelaw16.KernBad'. -/
def kernBadCard : Claim7 := { stood := { row := kernBadRow, standIns := [], harness := (true, "a63c83af46769ae5b2e0de3169bc55eed442217913052e397606a55bd0c0baed"), looks := true }, kinds := [], alts := [], laidByText := true, laidKinds := [.handle], laidTests := true, laidLooks := .later }
def KernBadCardSaid : Prop := Claim7.holds Tryz.pinned (.plain (OpenSpec.ofChange kernBadSpec)) kernBadCard

/-- THE TIED CARD OF 'messuagelaw16.KernBuffers'. -/
def kernBuffersCard : Claim7 := { stood := { row := kernBuffersRow, standIns := [], harness := (true, "a63c83af46769ae5b2e0de3169bc55eed442217913052e397606a55bd0c0baed"), looks := true }, kinds := [], alts := [], laidByText := true, laidKinds := [.handle], laidTests := true, laidLooks := .later }
def KernBuffersCardSaid : Prop := Claim7.holds Tryz.pinned (.plain (OpenSpec.ofChange kernBuffersSpec)) kernBuffersCard

/-- THE TIED CARD OF 'messuagelaw16.KernState'. -/
def kernStateCard : Claim7 := { stood := { row := kernStateRow, standIns := [], harness := (true, "a63c83af46769ae5b2e0de3169bc55eed442217913052e397606a55bd0c0baed"), looks := true }, kinds := [], alts := [], laidByText := true, laidKinds := [.handle], laidTests := true, laidLooks := .later }
def KernStateCardSaid : Prop := Claim7.holds Tryz.pinned (.plain (OpenSpec.ofChange kernStateSpec)) kernStateCard

/-- THE TIED CARD OF 'messuagelaw16.KernFresh'. -/
def kernFreshCard : Claim7 := { stood := { row := kernFreshRow, standIns := [], harness := (true, "a63c83af46769ae5b2e0de3169bc55eed442217913052e397606a55bd0c0baed"), looks := true }, kinds := [], alts := [], laidByText := true, laidKinds := [.handle], laidTests := true, laidLooks := .later }
def KernFreshCardSaid : Prop := Claim7.holds Tryz.pinned (.plain (OpenSpec.ofChange kernFreshSpec)) kernFreshCard

/-- THE TIED CARD OF 'messuagelaw16.HistReal'. -/
def histRealCard : Claim7 := { stood := { row := histRealRow, standIns := [], harness := (true, "a63c83af46769ae5b2e0de3169bc55eed442217913052e397606a55bd0c0baed"), looks := true }, kinds := [], alts := [], laidByText := true, laidKinds := [.handle], laidTests := true, laidLooks := .later }
def HistRealCardSaid : Prop := Claim7.holds Tryz.pinned (.plain (OpenSpec.ofChange histRealSpec)) histRealCard

/-- THE TIED CARD OF 'messuagelaw16.ShootUnmap'. -/
def shootUnmapCard : Claim7 := { stood := { row := shootUnmapRow, standIns := [], harness := (true, "a63c83af46769ae5b2e0de3169bc55eed442217913052e397606a55bd0c0baed"), looks := true }, kinds := [], alts := [], laidByText := true, laidKinds := [.handle], laidTests := true, laidLooks := .later }
def ShootUnmapCardSaid : Prop := Claim7.holds Tryz.pinned (.plain (OpenSpec.ofChange shootUnmapSpec)) shootUnmapCard

/-- THE SECOND FORM's CARD OF 'messuagelaw16.ShootRevoke'. -/
def shootRevokeUptoCard : Claim7 := { stood := { row := shootRevokeUptoRow, standIns := [], harness := (true, "a63c83af46769ae5b2e0de3169bc55eed442217913052e397606a55bd0c0baed"), looks := true }, kinds := [], alts := [], laidByText := true, laidKinds := [.handle], laidTests := true, laidLooks := .later }
def ShootRevokeUptoCardSaid : Prop := Claim7.holds Tryz.pinned (.plain (OpenSpec.upto shootRevokeSpec)) shootRevokeUptoCard

/-- THE SECOND FORM's CARD OF 'messuagelaw16.HistTurn'. -/
def histTurnUptoCard : Claim7 := { stood := { row := histTurnUptoRow, standIns := [], harness := (true, "a63c83af46769ae5b2e0de3169bc55eed442217913052e397606a55bd0c0baed"), looks := true }, kinds := [], alts := [], laidByText := true, laidKinds := [.handle], laidTests := true, laidLooks := .later }
def HistTurnUptoCardSaid : Prop := Claim7.holds Tryz.pinned (.plain (OpenSpec.upto histTurnSpec)) histTurnUptoCard

/-- THE SECOND FORM's CARD OF 'messuagelaw16.RaceAlloc'. -/
def raceAllocUptoCard : Claim7 := { stood := { row := raceAllocUptoRow, standIns := [], harness := (true, "a63c83af46769ae5b2e0de3169bc55eed442217913052e397606a55bd0c0baed"), looks := true }, kinds := [], alts := [], laidByText := true, laidKinds := [.handle], laidTests := true, laidLooks := .later }
def RaceAllocUptoCardSaid : Prop := Claim7.holds Tryz.pinned (.plain (OpenSpec.upto raceAllocSpec)) raceAllocUptoCard

/-- THE SECOND FORM's CARD OF 'messuagelaw16.RaceAdd'. -/
def raceAddUptoCard : Claim7 := { stood := { row := raceAddUptoRow, standIns := [], harness := (true, "a63c83af46769ae5b2e0de3169bc55eed442217913052e397606a55bd0c0baed"), looks := true }, kinds := [], alts := [], laidByText := true, laidKinds := [.handle], laidTests := true, laidLooks := .later }
def RaceAddUptoCardSaid : Prop := Claim7.holds Tryz.pinned (.plain (OpenSpec.upto raceAddSpec)) raceAddUptoCard

/-- THE SECOND FORM's CARD OF 'messuagelaw16.KernLinear'. -/
def kernLinearUptoCard : Claim7 := { stood := { row := kernLinearUptoRow, standIns := [], harness := (true, "a63c83af46769ae5b2e0de3169bc55eed442217913052e397606a55bd0c0baed"), looks := true }, kinds := [], alts := [], laidByText := true, laidKinds := [.handle], laidTests := true, laidLooks := .later }
def KernLinearUptoCardSaid : Prop := Claim7.holds Tryz.pinned (.plain (OpenSpec.upto kernLinearSpec)) kernLinearUptoCard

/-- THE SECOND FORM's CARD OF 'messuagelaw16.KernBad'. -/
def kernBadUptoCard : Claim7 := { stood := { row := kernBadUptoRow, standIns := [], harness := (true, "a63c83af46769ae5b2e0de3169bc55eed442217913052e397606a55bd0c0baed"), looks := true }, kinds := [], alts := [], laidByText := true, laidKinds := [.handle], laidTests := true, laidLooks := .later }
def KernBadUptoCardSaid : Prop := Claim7.holds Tryz.pinned (.plain (OpenSpec.upto kernBadSpec)) kernBadUptoCard

/-- THE SECOND FORM's CARD OF 'messuagelaw16.KernBuffers'. -/
def kernBuffersUptoCard : Claim7 := { stood := { row := kernBuffersUptoRow, standIns := [], harness := (true, "a63c83af46769ae5b2e0de3169bc55eed442217913052e397606a55bd0c0baed"), looks := true }, kinds := [], alts := [], laidByText := true, laidKinds := [.handle], laidTests := true, laidLooks := .later }
def KernBuffersUptoCardSaid : Prop := Claim7.holds Tryz.pinned (.plain (OpenSpec.upto kernBuffersSpec)) kernBuffersUptoCard

/-- THE SECOND FORM's CARD OF 'messuagelaw16.KernState'. -/
def kernStateUptoCard : Claim7 := { stood := { row := kernStateUptoRow, standIns := [], harness := (true, "a63c83af46769ae5b2e0de3169bc55eed442217913052e397606a55bd0c0baed"), looks := true }, kinds := [], alts := [], laidByText := true, laidKinds := [.handle], laidTests := true, laidLooks := .later }
def KernStateUptoCardSaid : Prop := Claim7.holds Tryz.pinned (.plain (OpenSpec.upto kernStateSpec)) kernStateUptoCard

/-- THE SECOND FORM's CARD OF 'messuagelaw16.KernFresh'. -/
def kernFreshUptoCard : Claim7 := { stood := { row := kernFreshUptoRow, standIns := [], harness := (true, "a63c83af46769ae5b2e0de3169bc55eed442217913052e397606a55bd0c0baed"), looks := true }, kinds := [], alts := [], laidByText := true, laidKinds := [.handle], laidTests := true, laidLooks := .later }
def KernFreshUptoCardSaid : Prop := Claim7.holds Tryz.pinned (.plain (OpenSpec.upto kernFreshSpec)) kernFreshUptoCard

/-- THE SECOND FORM's CARD OF 'messuagelaw16.HistReal'. -/
def histRealUptoCard : Claim7 := { stood := { row := histRealUptoRow, standIns := [], harness := (true, "a63c83af46769ae5b2e0de3169bc55eed442217913052e397606a55bd0c0baed"), looks := true }, kinds := [], alts := [], laidByText := true, laidKinds := [.handle], laidTests := true, laidLooks := .later }
def HistRealUptoCardSaid : Prop := Claim7.holds Tryz.pinned (.plain (OpenSpec.upto histRealSpec)) histRealUptoCard

/-- THE SECOND FORM's CARD OF 'messuagelaw16.ShootUnmap'. -/
def shootUnmapUptoCard : Claim7 := { stood := { row := shootUnmapUptoRow, standIns := [], harness := (true, "a63c83af46769ae5b2e0de3169bc55eed442217913052e397606a55bd0c0baed"), looks := true }, kinds := [], alts := [], laidByText := true, laidKinds := [.handle], laidTests := true, laidLooks := .later }
def ShootUnmapUptoCardSaid : Prop := Claim7.holds Tryz.pinned (.plain (OpenSpec.upto shootUnmapSpec)) shootUnmapUptoCard
end Rows
end Go.Proofs.YtemoifebbhoinaaGreatDoor
