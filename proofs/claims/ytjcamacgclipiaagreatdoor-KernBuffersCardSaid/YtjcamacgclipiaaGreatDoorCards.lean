/-
  DERIVED. GIVEN WITH THE SEED: THE CARDS: each row of YtjcamacgclipiaaGreatDoorRows.lean that lists a variable, with what it lists TIED to the program's text (the seventh form; the later family's looks); each row that meets fmt, with fmt's text TOLD by the authors' own Lean function (tested against real Go, not proved from fmt's source: count such statements apart). THE CARD IS WHAT COUNTS. Prove the row's statement (the work); the ties are given (YtjcamacgclipiaaGreatDoorTie.lean); close each card by the builder's one call (the guide's Derived/Test/ToyasCard.lean, 'card_holds'). Laid BY PROGRAM, IN A SANDBOX (cutbox-door.mjs). By AI agents, Wed Nov 11 2026. No macro, syntax, notation, axiom, sorry.
-/
import Derived.Test.YtjcamacgclipiaaGreatDoorRows
import GoSem.ClaimSeven
namespace Go.Proofs.YtjcamacgclipiaaGreatDoor
namespace Rows

/-- THE TIED CARD OF 'messuagelaw16.KernState'. -/
def kernStateCard : Claim7 := { stood := { row := kernStateRow, standIns := [], harness := (true, "d504d3e9656db2d9dac0855e286f820b698b9cc5c71dc062b0abce4ba3214e2c"), looks := true }, kinds := [], alts := [], laidByText := true, laidKinds := [.handle], laidTests := true, laidLooks := .later }
def KernStateCardSaid : Prop := Claim7.holds Tryz.pinned (.plain (OpenSpec.ofChange kernStateSpec)) kernStateCard

/-- THE TIED CARD OF 'messuagelaw16.KernBuffers'. -/
def kernBuffersCard : Claim7 := { stood := { row := kernBuffersRow, standIns := [], harness := (true, "d504d3e9656db2d9dac0855e286f820b698b9cc5c71dc062b0abce4ba3214e2c"), looks := true }, kinds := [], alts := [], laidByText := true, laidKinds := [.handle], laidTests := true, laidLooks := .later }
def KernBuffersCardSaid : Prop := Claim7.holds Tryz.pinned (.plain (OpenSpec.ofChange kernBuffersSpec)) kernBuffersCard

/-- THE TIED CARD OF 'messuagelaw16.KernFresh'. -/
def kernFreshCard : Claim7 := { stood := { row := kernFreshRow, standIns := [], harness := (true, "d504d3e9656db2d9dac0855e286f820b698b9cc5c71dc062b0abce4ba3214e2c"), looks := true }, kinds := [], alts := [], laidByText := true, laidKinds := [.handle], laidTests := true, laidLooks := .later }
def KernFreshCardSaid : Prop := Claim7.holds Tryz.pinned (.plain (OpenSpec.ofChange kernFreshSpec)) kernFreshCard

/-- THE TIED CARD OF 'messuagelaw16.KernLinear'. -/
def kernLinearCard : Claim7 := { stood := { row := kernLinearRow, standIns := [], harness := (true, "d504d3e9656db2d9dac0855e286f820b698b9cc5c71dc062b0abce4ba3214e2c"), looks := true }, kinds := [], alts := [], laidByText := true, laidKinds := [.handle], laidTests := true, laidLooks := .later }
def KernLinearCardSaid : Prop := Claim7.holds Tryz.pinned (.plain (OpenSpec.ofChange kernLinearSpec)) kernLinearCard

/-- THE TIED CARD OF 'messuagelaw16.KernBad'. -/
def kernBadCard : Claim7 := { stood := { row := kernBadRow, standIns := [], harness := (true, "d504d3e9656db2d9dac0855e286f820b698b9cc5c71dc062b0abce4ba3214e2c"), looks := true }, kinds := [], alts := [], laidByText := true, laidKinds := [.handle], laidTests := true, laidLooks := .later }
def KernBadCardSaid : Prop := Claim7.holds Tryz.pinned (.plain (OpenSpec.ofChange kernBadSpec)) kernBadCard

/-- THE TIED CARD OF 'messuagelaw16.KernFree'. -/
def kernFreeCard : Claim7 := { stood := { row := kernFreeRow, standIns := [], harness := (true, "d504d3e9656db2d9dac0855e286f820b698b9cc5c71dc062b0abce4ba3214e2c"), looks := true }, kinds := [], alts := [], laidByText := true, laidKinds := [.handle], laidTests := true, laidLooks := .later }
def KernFreeCardSaid : Prop := Claim7.holds Tryz.pinned (.plain (OpenSpec.ofChange kernFreeSpec)) kernFreeCard

/-- THE TIED CARD OF 'messuagelaw16.KernPair'. -/
def kernPairCard : Claim7 := { stood := { row := kernPairRow, standIns := [], harness := (true, "d504d3e9656db2d9dac0855e286f820b698b9cc5c71dc062b0abce4ba3214e2c"), looks := true }, kinds := [], alts := [], laidByText := true, laidKinds := [.handle], laidTests := true, laidLooks := .later }
def KernPairCardSaid : Prop := Claim7.holds Tryz.pinned (.plain (OpenSpec.ofChange kernPairSpec)) kernPairCard

/-- THE TIED CARD OF 'messuagelaw16.TwinWorlds'. -/
def twinWorldsCard : Claim7 := { stood := { row := twinWorldsRow, standIns := [], harness := (true, "d504d3e9656db2d9dac0855e286f820b698b9cc5c71dc062b0abce4ba3214e2c"), looks := true }, kinds := [], alts := [], laidByText := true, laidKinds := [.handle], laidTests := true, laidLooks := .later }
def TwinWorldsCardSaid : Prop := Claim7.holds Tryz.pinned (.plain (OpenSpec.ofChange twinWorldsSpec)) twinWorldsCard

/-- THE SECOND FORM's CARD OF 'messuagelaw16.KernState'. -/
def kernStateUptoCard : Claim7 := { stood := { row := kernStateUptoRow, standIns := [], harness := (true, "d504d3e9656db2d9dac0855e286f820b698b9cc5c71dc062b0abce4ba3214e2c"), looks := true }, kinds := [], alts := [], laidByText := true, laidKinds := [.handle], laidTests := true, laidLooks := .later }
def KernStateUptoCardSaid : Prop := Claim7.holds Tryz.pinned (.plain (OpenSpec.upto kernStateSpec)) kernStateUptoCard

/-- THE SECOND FORM's CARD OF 'messuagelaw16.KernBuffers'. -/
def kernBuffersUptoCard : Claim7 := { stood := { row := kernBuffersUptoRow, standIns := [], harness := (true, "d504d3e9656db2d9dac0855e286f820b698b9cc5c71dc062b0abce4ba3214e2c"), looks := true }, kinds := [], alts := [], laidByText := true, laidKinds := [.handle], laidTests := true, laidLooks := .later }
def KernBuffersUptoCardSaid : Prop := Claim7.holds Tryz.pinned (.plain (OpenSpec.upto kernBuffersSpec)) kernBuffersUptoCard

/-- THE SECOND FORM's CARD OF 'messuagelaw16.KernFresh'. -/
def kernFreshUptoCard : Claim7 := { stood := { row := kernFreshUptoRow, standIns := [], harness := (true, "d504d3e9656db2d9dac0855e286f820b698b9cc5c71dc062b0abce4ba3214e2c"), looks := true }, kinds := [], alts := [], laidByText := true, laidKinds := [.handle], laidTests := true, laidLooks := .later }
def KernFreshUptoCardSaid : Prop := Claim7.holds Tryz.pinned (.plain (OpenSpec.upto kernFreshSpec)) kernFreshUptoCard

/-- THE SECOND FORM's CARD OF 'messuagelaw16.KernLinear'. -/
def kernLinearUptoCard : Claim7 := { stood := { row := kernLinearUptoRow, standIns := [], harness := (true, "d504d3e9656db2d9dac0855e286f820b698b9cc5c71dc062b0abce4ba3214e2c"), looks := true }, kinds := [], alts := [], laidByText := true, laidKinds := [.handle], laidTests := true, laidLooks := .later }
def KernLinearUptoCardSaid : Prop := Claim7.holds Tryz.pinned (.plain (OpenSpec.upto kernLinearSpec)) kernLinearUptoCard

/-- THE SECOND FORM's CARD OF 'messuagelaw16.KernBad'. -/
def kernBadUptoCard : Claim7 := { stood := { row := kernBadUptoRow, standIns := [], harness := (true, "d504d3e9656db2d9dac0855e286f820b698b9cc5c71dc062b0abce4ba3214e2c"), looks := true }, kinds := [], alts := [], laidByText := true, laidKinds := [.handle], laidTests := true, laidLooks := .later }
def KernBadUptoCardSaid : Prop := Claim7.holds Tryz.pinned (.plain (OpenSpec.upto kernBadSpec)) kernBadUptoCard

/-- THE SECOND FORM's CARD OF 'messuagelaw16.KernFree'. -/
def kernFreeUptoCard : Claim7 := { stood := { row := kernFreeUptoRow, standIns := [], harness := (true, "d504d3e9656db2d9dac0855e286f820b698b9cc5c71dc062b0abce4ba3214e2c"), looks := true }, kinds := [], alts := [], laidByText := true, laidKinds := [.handle], laidTests := true, laidLooks := .later }
def KernFreeUptoCardSaid : Prop := Claim7.holds Tryz.pinned (.plain (OpenSpec.upto kernFreeSpec)) kernFreeUptoCard

/-- THE SECOND FORM's CARD OF 'messuagelaw16.KernPair'. -/
def kernPairUptoCard : Claim7 := { stood := { row := kernPairUptoRow, standIns := [], harness := (true, "d504d3e9656db2d9dac0855e286f820b698b9cc5c71dc062b0abce4ba3214e2c"), looks := true }, kinds := [], alts := [], laidByText := true, laidKinds := [.handle], laidTests := true, laidLooks := .later }
def KernPairUptoCardSaid : Prop := Claim7.holds Tryz.pinned (.plain (OpenSpec.upto kernPairSpec)) kernPairUptoCard

/-- THE SECOND FORM's CARD OF 'messuagelaw16.TwinWorlds'. -/
def twinWorldsUptoCard : Claim7 := { stood := { row := twinWorldsUptoRow, standIns := [], harness := (true, "d504d3e9656db2d9dac0855e286f820b698b9cc5c71dc062b0abce4ba3214e2c"), looks := true }, kinds := [], alts := [], laidByText := true, laidKinds := [.handle], laidTests := true, laidLooks := .later }
def TwinWorldsUptoCardSaid : Prop := Claim7.holds Tryz.pinned (.plain (OpenSpec.upto twinWorldsSpec)) twinWorldsUptoCard
end Rows
end Go.Proofs.YtjcamacgclipiaaGreatDoor
