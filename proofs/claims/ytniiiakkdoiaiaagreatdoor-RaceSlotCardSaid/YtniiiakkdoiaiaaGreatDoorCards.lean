/-
  DERIVED. GIVEN WITH THE SEED: THE CARDS: each row of YtniiiakkdoiaiaaGreatDoorRows.lean that lists a variable, with what it lists TIED to the program's text (the seventh form; the later family's looks); each row that meets fmt, with fmt's text TOLD by the authors' own Lean function (tested against real Go, not proved from fmt's source: count such statements apart). THE CARD IS WHAT COUNTS. Prove the row's statement (the work); the ties are given (YtniiiakkdoiaiaaGreatDoorTie.lean); close each card by the builder's one call (the guide's Derived/Test/ToyasCard.lean, 'card_holds'). Laid BY PROGRAM, IN A SANDBOX (cutbox-door.mjs). By AI agents, Wed Nov 11 2026. No macro, syntax, notation, axiom, sorry.
-/
import Derived.Test.YtniiiakkdoiaiaaGreatDoorRows
import GoSem.ClaimSeven
namespace Go.Proofs.YtniiiakkdoiaiaaGreatDoor
namespace Rows

/-- THE TIED CARD OF 'messuagelaw16.PicksRounds'. -/
def picksRoundsCard : Claim7 := { stood := { row := picksRoundsRow, standIns := [], harness := (true, "1c83f4dfbcbfaed934cec40c9d2b35637a96dbc4ce1f31d396f73b9811e9fefe"), looks := true }, kinds := [], alts := [], laidByText := true, laidKinds := [.handle], laidTests := true, laidLooks := .later }
def PicksRoundsCardSaid : Prop := Claim7.holds Tryz.pinned (.plain (OpenSpec.ofChange picksRoundsSpec)) picksRoundsCard

/-- THE TIED CARD OF 'messuagelaw16.FairLong'. -/
def fairLongCard : Claim7 := { stood := { row := fairLongRow, standIns := [], harness := (true, "1c83f4dfbcbfaed934cec40c9d2b35637a96dbc4ce1f31d396f73b9811e9fefe"), looks := true }, kinds := [], alts := [], laidByText := true, laidKinds := [.handle], laidTests := true, laidLooks := .later }
def FairLongCardSaid : Prop := Claim7.holds Tryz.pinned (.plain (OpenSpec.ofChange fairLongSpec)) fairLongCard

/-- THE TIED CARD OF 'messuagelaw16.PicksAll'. -/
def picksAllCard : Claim7 := { stood := { row := picksAllRow, standIns := [], harness := (true, "1c83f4dfbcbfaed934cec40c9d2b35637a96dbc4ce1f31d396f73b9811e9fefe"), looks := true }, kinds := [], alts := [], laidByText := true, laidKinds := [.handle], laidTests := true, laidLooks := .later }
def PicksAllCardSaid : Prop := Claim7.holds Tryz.pinned (.plain (OpenSpec.ofChange picksAllSpec)) picksAllCard

/-- THE TIED CARD OF 'messuagelaw16.HistAll'. -/
def histAllCard : Claim7 := { stood := { row := histAllRow, standIns := [], harness := (true, "1c83f4dfbcbfaed934cec40c9d2b35637a96dbc4ce1f31d396f73b9811e9fefe"), looks := true }, kinds := [], alts := [], laidByText := true, laidKinds := [.handle], laidTests := true, laidLooks := .later }
def HistAllCardSaid : Prop := Claim7.holds Tryz.pinned (.plain (OpenSpec.ofChange histAllSpec)) histAllCard

/-- THE TIED CARD OF 'messuagelaw16.KernForm'. -/
def kernFormCard : Claim7 := { stood := { row := kernFormRow, standIns := [], harness := (true, "1c83f4dfbcbfaed934cec40c9d2b35637a96dbc4ce1f31d396f73b9811e9fefe"), looks := true }, kinds := [], alts := [], laidByText := true, laidKinds := [.handle], laidTests := true, laidLooks := .later }
def KernFormCardSaid : Prop := Claim7.holds Tryz.pinned (.plain (OpenSpec.ofChange kernFormSpec)) kernFormCard

/-- THE TIED CARD OF 'messuagelaw16.RaceSlot'. -/
def raceSlotCard : Claim7 := { stood := { row := raceSlotRow, standIns := [], harness := (true, "1c83f4dfbcbfaed934cec40c9d2b35637a96dbc4ce1f31d396f73b9811e9fefe"), looks := true }, kinds := [], alts := [], laidByText := true, laidKinds := [.handle], laidTests := true, laidLooks := .later }
def RaceSlotCardSaid : Prop := Claim7.holds Tryz.pinned (.plain (OpenSpec.ofChange raceSlotSpec)) raceSlotCard

/-- THE TIED CARD OF 'messuagelaw16.KernNone'. -/
def kernNoneCard : Claim7 := { stood := { row := kernNoneRow, standIns := [], harness := (true, "1c83f4dfbcbfaed934cec40c9d2b35637a96dbc4ce1f31d396f73b9811e9fefe"), looks := true }, kinds := [], alts := [], laidByText := true, laidKinds := [.handle], laidTests := true, laidLooks := .later }
def KernNoneCardSaid : Prop := Claim7.holds Tryz.pinned (.plain (OpenSpec.ofChange kernNoneSpec)) kernNoneCard

/-- THE SECOND FORM's CARD OF 'messuagelaw16.PicksRounds'. -/
def picksRoundsUptoCard : Claim7 := { stood := { row := picksRoundsUptoRow, standIns := [], harness := (true, "1c83f4dfbcbfaed934cec40c9d2b35637a96dbc4ce1f31d396f73b9811e9fefe"), looks := true }, kinds := [], alts := [], laidByText := true, laidKinds := [.handle], laidTests := true, laidLooks := .later }
def PicksRoundsUptoCardSaid : Prop := Claim7.holds Tryz.pinned (.plain (OpenSpec.upto picksRoundsSpec)) picksRoundsUptoCard

/-- THE SECOND FORM's CARD OF 'messuagelaw16.FairLong'. -/
def fairLongUptoCard : Claim7 := { stood := { row := fairLongUptoRow, standIns := [], harness := (true, "1c83f4dfbcbfaed934cec40c9d2b35637a96dbc4ce1f31d396f73b9811e9fefe"), looks := true }, kinds := [], alts := [], laidByText := true, laidKinds := [.handle], laidTests := true, laidLooks := .later }
def FairLongUptoCardSaid : Prop := Claim7.holds Tryz.pinned (.plain (OpenSpec.upto fairLongSpec)) fairLongUptoCard

/-- THE SECOND FORM's CARD OF 'messuagelaw16.PicksAll'. -/
def picksAllUptoCard : Claim7 := { stood := { row := picksAllUptoRow, standIns := [], harness := (true, "1c83f4dfbcbfaed934cec40c9d2b35637a96dbc4ce1f31d396f73b9811e9fefe"), looks := true }, kinds := [], alts := [], laidByText := true, laidKinds := [.handle], laidTests := true, laidLooks := .later }
def PicksAllUptoCardSaid : Prop := Claim7.holds Tryz.pinned (.plain (OpenSpec.upto picksAllSpec)) picksAllUptoCard

/-- THE SECOND FORM's CARD OF 'messuagelaw16.HistAll'. -/
def histAllUptoCard : Claim7 := { stood := { row := histAllUptoRow, standIns := [], harness := (true, "1c83f4dfbcbfaed934cec40c9d2b35637a96dbc4ce1f31d396f73b9811e9fefe"), looks := true }, kinds := [], alts := [], laidByText := true, laidKinds := [.handle], laidTests := true, laidLooks := .later }
def HistAllUptoCardSaid : Prop := Claim7.holds Tryz.pinned (.plain (OpenSpec.upto histAllSpec)) histAllUptoCard

/-- THE SECOND FORM's CARD OF 'messuagelaw16.KernForm'. -/
def kernFormUptoCard : Claim7 := { stood := { row := kernFormUptoRow, standIns := [], harness := (true, "1c83f4dfbcbfaed934cec40c9d2b35637a96dbc4ce1f31d396f73b9811e9fefe"), looks := true }, kinds := [], alts := [], laidByText := true, laidKinds := [.handle], laidTests := true, laidLooks := .later }
def KernFormUptoCardSaid : Prop := Claim7.holds Tryz.pinned (.plain (OpenSpec.upto kernFormSpec)) kernFormUptoCard

/-- THE SECOND FORM's CARD OF 'messuagelaw16.RaceSlot'. -/
def raceSlotUptoCard : Claim7 := { stood := { row := raceSlotUptoRow, standIns := [], harness := (true, "1c83f4dfbcbfaed934cec40c9d2b35637a96dbc4ce1f31d396f73b9811e9fefe"), looks := true }, kinds := [], alts := [], laidByText := true, laidKinds := [.handle], laidTests := true, laidLooks := .later }
def RaceSlotUptoCardSaid : Prop := Claim7.holds Tryz.pinned (.plain (OpenSpec.upto raceSlotSpec)) raceSlotUptoCard

/-- THE SECOND FORM's CARD OF 'messuagelaw16.KernNone'. -/
def kernNoneUptoCard : Claim7 := { stood := { row := kernNoneUptoRow, standIns := [], harness := (true, "1c83f4dfbcbfaed934cec40c9d2b35637a96dbc4ce1f31d396f73b9811e9fefe"), looks := true }, kinds := [], alts := [], laidByText := true, laidKinds := [.handle], laidTests := true, laidLooks := .later }
def KernNoneUptoCardSaid : Prop := Claim7.holds Tryz.pinned (.plain (OpenSpec.upto kernNoneSpec)) kernNoneUptoCard
end Rows
end Go.Proofs.YtniiiakkdoiaiaaGreatDoor
