/- The law RaceSlot returns true for every input, and leaves its arguments as they were. -/
import Derived.Test.YtniiiakkdoiaiaaGreatDoorRaceSlot17
set_option linter.all false
set_option maxRecDepth 20000
namespace Go.Proofs.YtniiiakkdoiaiaaGreatDoor
open Go Mb Go.ChangeShapes Go.WideShapes Go.RowKit
theorem jf0:Tryz.pinned.checked.prog.funcNamed Rows.raceSlotRow.func = some 8:=by kernel_rfl
theorem jf1:(Rows.raceSlotRow.wf (OpenSpec.ofChange Rows.raceSlotSpec) && laidOutB Tryz.pinned.checked.prog && mapsRowed Tryz.pinned.checked.prog) = true:=by kernel_rfl
theorem jf2:(Tryz.f8.params.all (Tryz.pinned.checked.prog.readableRec ·) && namedTie Tryz.pinned.checked.prog Rows.raceSlotRow.named Rows.raceSlotSpec.vars && (Rows.raceSlotRow.stops == []) && (Tryz.pinned.checked.prog.stops == []) && (Rows.raceSlotRow.knobs == []) && (Tryz.pinned.checked.prog.stopKnobs == [])) = true:=by kernel_rfl
theorem jf3:(Rows.raceSlotRow.inPlace == Tryz.pinned.checked.prog.inPlace 8) = true:=by kernel_rfl
theorem jf4:(Rows.raceSlotRow.unfollowed == Tryz.pinned.checked.prog.unfollowed 8) = true:=by kernel_rfl
theorem jf5:(Rows.raceSlotRow.recurses == Tryz.pinned.checked.prog.recurses 8) = true:=by kernel_rfl
theorem jf6:(Rows.raceSlotRow.named == Tryz.pinned.checked.prog.varsNamed 8) = true:=by kernel_rfl
theorem jf7:((Rows.raceSlotRow.maps == (Tryz.f8.params.toList++Rows.raceSlotSpec.plain.varTypes Tryz.pinned.checked.prog).any (Tryz.pinned.checked.prog.mapsRec ·)) && (Rows.raceSlotRow.ifaces == (Tryz.f8.params.toList++Rows.raceSlotSpec.plain.varTypes Tryz.pinned.checked.prog).any (Tryz.pinned.checked.prog.ifacesRec ·)) && (Rows.raceSlotRow.mapsOut == Tryz.pinned.checked.prog.mapsAmong Tryz.f8.resultTypes.toList) &&
  (Rows.raceSlotRow.loops == (Tryz.f8.params.toList++Rows.raceSlotSpec.plain.varTypes Tryz.pinned.checked.prog).any (Tryz.pinned.checked.prog.loopsFrom ·)) && (Rows.raceSlotRow.wideKeys == (Tryz.f8.params.toList++Rows.raceSlotSpec.plain.varTypes Tryz.pinned.checked.prog++Tryz.f8.resultTypes.toList).any (Tryz.pinned.checked.prog.wideKeysFrom ·)) &&
  Rows.raceSlotSpec.vars.all (Tryz.pinned.checked.prog.varReadable ·) && Tryz.f8.resultTypes.all (fun t=>Tryz.pinned.checked.prog.readableRec t && decide (t < Tryz.pinned.checked.prog.types.size)) && (Rows.raceSlotRow.ifacesOut == Tryz.f8.resultTypes.toList.any (Tryz.pinned.checked.prog.ifacesRec ·)) && (Rows.raceSlotRow.loopsOut == Tryz.f8.resultTypes.toList.any (Tryz.pinned.checked.prog.loopsFrom ·))) = true:=by kernel_rfl
theorem jf8:(Rows.raceSlotRow.plainKeys == Tryz.pinned.checked.prog.plainKeys) = true:=by kernel_rfl
theorem jf9:(Rows.raceSlotRow.shortTexts.isNone && Tryz.pinned.checked.prog.stopsHeard && Tryz.pinned.checked.prog.mayEnter && (Rows.raceSlotRow.lifted == Tryz.pinned.checked.prog.liftsFinal) && (Tryz.pinned.checked.prog.make == some Rows.raceSlotRow.make) && kindsB Tryz.pinned.checked.prog Tryz.f8 Rows.raceSlotRow && (Rows.raceSlotRow.pinned == Rows.raceSlotRow.pinnedBy) &&
  (Rows.raceSlotRow.veiled == (Tryz.f8.params.toList++Rows.raceSlotSpec.plain.varTypes Tryz.pinned.checked.prog++Tryz.f8.resultTypes.toList).any (Tryz.pinned.checked.prog.veiledRec ·)) && Rows.raceSlotRow.veiledFits Tryz.pinned.checked.prog Tryz.f8.params.toList (Tryz.f8.params.toList++Rows.raceSlotSpec.plain.varTypes Tryz.pinned.checked.prog++Tryz.f8.resultTypes.toList)) = true:=by kernel_rfl
theorem said_8:Rows.RaceSlotSaid :=
  OpenClaim.holds_of_wide 8 Tryz.f8 rfl rfl rfl rfl rfl rfl rfl ⟨rfl,rfl,rfl,rfl,rfl⟩ rfl rfl rfl rfl rfl jf0 Tryz.func8 (joined_split jf1 jf2 jf3 jf4 jf5 jf6 jf7 jf8 jf9)
    (of_decide_eq_true (by kernel_rfl)) (by unfold Func.isWrapper; rw [if_neg (of_decide_eq_false (by kernel_rfl))]; exact ⟨rfl,rfl⟩)
    (fun os started H enc _=>lifted_8 os started H enc)
theorem raceSlot_holds:Rows.RaceSlotCardSaid :=
  Claim7.holds_tied_plain_at .later [] [.handle] true (true, "1c83f4dfbcbfaed934cec40c9d2b35637a96dbc4ce1f31d396f73b9811e9fefe") true
    said_8 (fun _ h=>by cases h) (by kernel_rfl) (fun _ h=>by cases h) raceSlot_row_tie rfl ⟨rfl,rfl⟩ (by kernel_rfl) rfl
    (fun f fn hf hfn=>by
      obtain rfl:f = 8:=Option.some.inj ((show Tryz.prog.funcNamed "messuage/messuagelaw16.RaceSlot" = some 8 by kernel_rfl).symm.trans hf) |>.symm
      obtain rfl:fn = Tryz.f8:=(Option.some.inj (Tryz.func8.symm.trans hfn)).symm
      exact ⟨by kernel_rfl,fun j t ht=>by
        rw [Tryz.params8] at ht
        exact want_all (by kernel_rfl) (j:=j) (t:=t) ht⟩)
    (by kernel_rfl)
end Go.Proofs.YtniiiakkdoiaiaaGreatDoor
