/-
  NARROWER THAN 'FOR EVERY INPUT', by the rows' own cells (each row's printed sentence says how): PicksRounds: laid · FairLong: laid · PicksAll: laid · HistAll: laid · KernForm: laid · RaceSlot: laid · KernNone: laid.
  DERIVED. THE GIVEN ROWS OF THIS SEAT. 7 by the template 'for every input the law returns true; each argument reads behind the call as it read before'; 0 by the template 'total and deterministic' (their statements: YtniiiakkdoiaiaaGreatDoorTotals.lean).
  GIVEN WITH THE SEED: the statements are not yours to turn. If you find one false, say at which input.
  Laid BY PROGRAM, IN A SANDBOX (cutbox-rows.mjs): the forced cells as the released guide's own fill.sh prints them over the translation 21532a0d358032a2… (all of the seat's roots in one cut). By AI agents, Wed Nov 11 2026. No macro, syntax, notation, axiom, sorry.
-/
import Derived.Test.YtniiiakkdoiaiaaGreatDoorChecked
import GoSem.Claim
import GoSem.ClaimJoined
import GoSem.ClaimMapViews
import Derived.JoinedTies
import Derived.KernelRfl
namespace Go.Proofs.YtniiiakkdoiaiaaGreatDoor
/- THE CELL 'sum', in the pinned program and in every row, IS THE sha256 OF THE DUMP (.gsa) THAT YtniiiakkdoiaiaaGreatDoorProg.lean LOADS. Nothing in Lean hashes anything: it is a label: what it is worth is what the hold of that sum in a sandbox is worth. -/
noncomputable def Tryz.pinned : Pinned := { name := "ytniiiakkdoiaiaagreatdoor", sum := "21532a0d358032a2ef919432eb0dce6fb0854f653fdb3369b209ce893c00de0c", checked := Tryz.checked }
namespace Rows
def none {H : Type} : Left H := { results := [], args := [] }

/- WHAT THE LISTED PACKAGE-LEVEL VARIABLES READ AS WHEN THE CALL BEGINS. Each datum BY PROGRAM (the guide's laid-datum.mjs) off the statement by which the dump's own 'gosem.cut.vars' lays the variable. In a bare row this is a premise. The card (YtniiiakkdoiaiaaGreatDoorCards.lean) ties it to the program's text. -/
def laid_errors_errorType {H : Type} : DataW H := .iface "internal/reflectlite.rtype" (.agg [.ptr (.lit (.string [101, 114, 114, 111, 114]))])

/-- 'messuagelaw16.PicksRounds': WHATEVER THE INPUT: true; the input reads as it did. -/
def picksRoundsSpec : ChangeSpec := { name := "picksRounds", fn := fun _ => fun
  | [d1, d2] => { results := [.lit (.bool true)], args := [d1, d2] }
  | _ => none }
def picksRoundsRow : OpenClaim := { program := "ytniiiakkdoiaiaagreatdoor", sum := "21532a0d358032a2ef919432eb0dce6fb0854f653fdb3369b209ce893c00de0c", func := "messuage/messuagelaw16.PicksRounds", spec := "picksRounds", inPlace := ["slices.overlaps[uint64]", "internal/reflectlite.ValueOf", "(internal/reflectlite.Value).Type", "(internal/reflectlite.Value).IsNil", "internal/reflectlite.TypeOf", "(internal/reflectlite.Value).Elem", "(internal/reflectlite.Value).Set"], unfollowed := true, recurses := true, named := ["errors.errorType"], apart := false, laid := [("errors.errorType", laid_errors_errorType)] }
def PicksRoundsSaid : Prop := picksRoundsRow.holds Tryz.pinned (OpenSpec.ofChange picksRoundsSpec)

/-- ITS FALSE NEIGHBOUR: 'it returns false'. Refute it at one input. -/
def picksRoundsWrong : ChangeSpec := { name := "picksRounds", fn := fun _ => fun
  | [d1, d2] => { results := [.lit (.bool false)], args := [d1, d2] }
  | _ => none }
def PicksRoundsWrongFalsely : Prop := picksRoundsRow.holds Tryz.pinned (OpenSpec.ofChange picksRoundsWrong)

/-- 'messuagelaw16.FairLong': WHATEVER THE INPUT: true; the input reads as it did. -/
def fairLongSpec : ChangeSpec := { name := "fairLong", fn := fun _ => fun
  | [d1, d2, d3] => { results := [.lit (.bool true)], args := [d1, d2, d3] }
  | _ => none }
def fairLongRow : OpenClaim := { program := "ytniiiakkdoiaiaagreatdoor", sum := "21532a0d358032a2ef919432eb0dce6fb0854f653fdb3369b209ce893c00de0c", func := "messuage/messuagelaw16.FairLong", spec := "fairLong", inPlace := ["slices.overlaps[uint64]", "internal/reflectlite.ValueOf", "(internal/reflectlite.Value).Type", "(internal/reflectlite.Value).IsNil", "internal/reflectlite.TypeOf", "(internal/reflectlite.Value).Elem", "(internal/reflectlite.Value).Set"], unfollowed := true, recurses := true, named := ["errors.errorType"], apart := false, laid := [("errors.errorType", laid_errors_errorType)] }
def FairLongSaid : Prop := fairLongRow.holds Tryz.pinned (OpenSpec.ofChange fairLongSpec)

/-- ITS FALSE NEIGHBOUR: 'it returns false'. Refute it at one input. -/
def fairLongWrong : ChangeSpec := { name := "fairLong", fn := fun _ => fun
  | [d1, d2, d3] => { results := [.lit (.bool false)], args := [d1, d2, d3] }
  | _ => none }
def FairLongWrongFalsely : Prop := fairLongRow.holds Tryz.pinned (OpenSpec.ofChange fairLongWrong)

/-- 'messuagelaw16.PicksAll': WHATEVER THE INPUT: true; the input reads as it did. -/
def picksAllSpec : ChangeSpec := { name := "picksAll", fn := fun _ => fun
  | [d1, d2, d3, d4, d5] => { results := [.lit (.bool true)], args := [d1, d2, d3, d4, d5] }
  | _ => none }
def picksAllRow : OpenClaim := { program := "ytniiiakkdoiaiaagreatdoor", sum := "21532a0d358032a2ef919432eb0dce6fb0854f653fdb3369b209ce893c00de0c", func := "messuage/messuagelaw16.PicksAll", spec := "picksAll", inPlace := ["slices.overlaps[uint64]", "internal/reflectlite.ValueOf", "(internal/reflectlite.Value).Type", "(internal/reflectlite.Value).IsNil", "internal/reflectlite.TypeOf", "(internal/reflectlite.Value).Elem", "(internal/reflectlite.Value).Set"], unfollowed := true, recurses := true, named := ["errors.errorType"], apart := false, laid := [("errors.errorType", laid_errors_errorType)] }
def PicksAllSaid : Prop := picksAllRow.holds Tryz.pinned (OpenSpec.ofChange picksAllSpec)

/-- ITS FALSE NEIGHBOUR: 'it returns false'. Refute it at one input. -/
def picksAllWrong : ChangeSpec := { name := "picksAll", fn := fun _ => fun
  | [d1, d2, d3, d4, d5] => { results := [.lit (.bool false)], args := [d1, d2, d3, d4, d5] }
  | _ => none }
def PicksAllWrongFalsely : Prop := picksAllRow.holds Tryz.pinned (OpenSpec.ofChange picksAllWrong)

/-- 'messuagelaw16.HistAll': WHATEVER THE INPUT: true; the input reads as it did. -/
def histAllSpec : ChangeSpec := { name := "histAll", fn := fun _ => fun
  | [d1, d2, d3] => { results := [.lit (.bool true)], args := [d1, d2, d3] }
  | _ => none }
def histAllRow : OpenClaim := { program := "ytniiiakkdoiaiaagreatdoor", sum := "21532a0d358032a2ef919432eb0dce6fb0854f653fdb3369b209ce893c00de0c", func := "messuage/messuagelaw16.HistAll", spec := "histAll", inPlace := ["slices.overlaps[uint64]", "internal/reflectlite.ValueOf", "(internal/reflectlite.Value).Type", "(internal/reflectlite.Value).IsNil", "internal/reflectlite.TypeOf", "(internal/reflectlite.Value).Elem", "(internal/reflectlite.Value).Set"], unfollowed := true, recurses := true, named := ["errors.errorType"], apart := false, laid := [("errors.errorType", laid_errors_errorType)] }
def HistAllSaid : Prop := histAllRow.holds Tryz.pinned (OpenSpec.ofChange histAllSpec)

/-- ITS FALSE NEIGHBOUR: 'it returns false'. Refute it at one input. -/
def histAllWrong : ChangeSpec := { name := "histAll", fn := fun _ => fun
  | [d1, d2, d3] => { results := [.lit (.bool false)], args := [d1, d2, d3] }
  | _ => none }
def HistAllWrongFalsely : Prop := histAllRow.holds Tryz.pinned (OpenSpec.ofChange histAllWrong)

/-- 'messuagelaw16.KernForm': WHATEVER THE INPUT: true; the input reads as it did. -/
def kernFormSpec : ChangeSpec := { name := "kernForm", fn := fun _ => fun
  | [d1, d2, d3, d4] => { results := [.lit (.bool true)], args := [d1, d2, d3, d4] }
  | _ => none }
def kernFormRow : OpenClaim := { program := "ytniiiakkdoiaiaagreatdoor", sum := "21532a0d358032a2ef919432eb0dce6fb0854f653fdb3369b209ce893c00de0c", func := "messuage/messuagelaw16.KernForm", spec := "kernForm", inPlace := ["slices.overlaps[uint64]", "internal/reflectlite.ValueOf", "(internal/reflectlite.Value).Type", "(internal/reflectlite.Value).IsNil", "internal/reflectlite.TypeOf", "(internal/reflectlite.Value).Elem", "(internal/reflectlite.Value).Set"], unfollowed := true, recurses := true, named := ["errors.errorType"], apart := false, laid := [("errors.errorType", laid_errors_errorType)] }
def KernFormSaid : Prop := kernFormRow.holds Tryz.pinned (OpenSpec.ofChange kernFormSpec)

/-- ITS FALSE NEIGHBOUR: 'it returns false'. Refute it at one input. -/
def kernFormWrong : ChangeSpec := { name := "kernForm", fn := fun _ => fun
  | [d1, d2, d3, d4] => { results := [.lit (.bool false)], args := [d1, d2, d3, d4] }
  | _ => none }
def KernFormWrongFalsely : Prop := kernFormRow.holds Tryz.pinned (OpenSpec.ofChange kernFormWrong)

/-- 'messuagelaw16.RaceSlot': WHATEVER THE INPUT: true; the input reads as it did. -/
def raceSlotSpec : ChangeSpec := { name := "raceSlot", fn := fun _ => fun
  | [d1, d2, d3] => { results := [.lit (.bool true)], args := [d1, d2, d3] }
  | _ => none }
def raceSlotRow : OpenClaim := { program := "ytniiiakkdoiaiaagreatdoor", sum := "21532a0d358032a2ef919432eb0dce6fb0854f653fdb3369b209ce893c00de0c", func := "messuage/messuagelaw16.RaceSlot", spec := "raceSlot", inPlace := ["slices.overlaps[uint64]", "internal/reflectlite.ValueOf", "(internal/reflectlite.Value).Type", "(internal/reflectlite.Value).IsNil", "internal/reflectlite.TypeOf", "(internal/reflectlite.Value).Elem", "(internal/reflectlite.Value).Set"], unfollowed := true, recurses := true, named := ["errors.errorType"], apart := false, laid := [("errors.errorType", laid_errors_errorType)] }
def RaceSlotSaid : Prop := raceSlotRow.holds Tryz.pinned (OpenSpec.ofChange raceSlotSpec)

/-- ITS FALSE NEIGHBOUR: 'it returns false'. Refute it at one input. -/
def raceSlotWrong : ChangeSpec := { name := "raceSlot", fn := fun _ => fun
  | [d1, d2, d3] => { results := [.lit (.bool false)], args := [d1, d2, d3] }
  | _ => none }
def RaceSlotWrongFalsely : Prop := raceSlotRow.holds Tryz.pinned (OpenSpec.ofChange raceSlotWrong)

/-- 'messuagelaw16.KernNone': WHATEVER THE INPUT: true; the input reads as it did. -/
def kernNoneSpec : ChangeSpec := { name := "kernNone", fn := fun _ => fun
  | [] => { results := [.lit (.bool true)], args := [] }
  | _ => none }
def kernNoneRow : OpenClaim := { program := "ytniiiakkdoiaiaagreatdoor", sum := "21532a0d358032a2ef919432eb0dce6fb0854f653fdb3369b209ce893c00de0c", func := "messuage/messuagelaw16.KernNone", spec := "kernNone", inPlace := ["slices.overlaps[uint64]", "internal/reflectlite.ValueOf", "(internal/reflectlite.Value).Type", "(internal/reflectlite.Value).IsNil", "internal/reflectlite.TypeOf", "(internal/reflectlite.Value).Elem", "(internal/reflectlite.Value).Set"], unfollowed := true, recurses := true, named := ["errors.errorType"], apart := false, laid := [("errors.errorType", laid_errors_errorType)] }
def KernNoneSaid : Prop := kernNoneRow.holds Tryz.pinned (OpenSpec.ofChange kernNoneSpec)

/-- ITS FALSE NEIGHBOUR: 'it returns false'. Refute it at one input. -/
def kernNoneWrong : ChangeSpec := { name := "kernNone", fn := fun _ => fun
  | [] => { results := [.lit (.bool false)], args := [] }
  | _ => none }
def KernNoneWrongFalsely : Prop := kernNoneRow.holds Tryz.pinned (OpenSpec.ofChange kernNoneWrong)

/- THE SECOND FORM. 'bulk': how many values and letters a reading holds, each counted each time it is reached (what is shared counts as often as it is met; a slice's spare places count too). A statement '..UptoSaid' is the law's where the arguments, and the package variables that the reading takes, are together of bulk at most 1048576: NARROWER than '..Said'. Prove '..Said' where nothing that the law and all that it calls make is longer than what came in: it says more and counts as full. Else prove '..UptoSaid'. A law counts once. -/
mutual
def uptoBulk {H : Type} : DataW H → Nat
  | .lit (.string bytes) => bytes.length + 1
  | .lit _ => 1
  | .nil => 1
  | .ptr d => uptoBulk d + 1
  | .slice elems spare => uptoBulkAll elems + uptoBulkAll spare + 1
  | .agg parts => uptoBulkAll parts + 1
  | .iface _ d => uptoBulk d + 1
  | .map entries => uptoBulkEntries entries + 1
  | .held _ => 1
def uptoBulkAll {H : Type} : List (DataW H) → Nat
  | [] => 0
  | d :: r => uptoBulk d + uptoBulkAll r
def uptoBulkEntries {H : Type} : List (Lit × DataW H) → Nat
  | [] => 0
  | x :: r => uptoBulkEntry x + uptoBulkEntries r
def uptoBulkEntry {H : Type} : Lit × DataW H → Nat
  | (.string bytes, d) => bytes.length + uptoBulk d + 1
  | (_, d) => uptoBulk d + 1
 end
def uptoSmall : (H : Type) → List (DataW H) → Bool := fun _ ds => decide (uptoBulkAll ds ≤ 1048576)
def OpenSpec.upto (s : _root_.Go.ChangeSpec) : _root_.Go.OpenSpec := { _root_.Go.OpenSpec.ofChange s with cond := some uptoSmall }

/-- 'messuagelaw16.PicksRounds', WHERE WHAT IT READS IS OF BULK AT MOST 1048576: true; the input reads as it did. -/
def picksRoundsUptoRow : OpenClaim := { program := "ytniiiakkdoiaiaagreatdoor", sum := "21532a0d358032a2ef919432eb0dce6fb0854f653fdb3369b209ce893c00de0c", func := "messuage/messuagelaw16.PicksRounds", spec := "picksRounds", inPlace := ["slices.overlaps[uint64]", "internal/reflectlite.ValueOf", "(internal/reflectlite.Value).Type", "(internal/reflectlite.Value).IsNil", "internal/reflectlite.TypeOf", "(internal/reflectlite.Value).Elem", "(internal/reflectlite.Value).Set"], unfollowed := true, recurses := true, named := ["errors.errorType"], apart := false, laid := [("errors.errorType", laid_errors_errorType)], narrowed := true }
def PicksRoundsUptoSaid : Prop := picksRoundsUptoRow.holds Tryz.pinned (OpenSpec.upto picksRoundsSpec)

/-- 'messuagelaw16.FairLong', WHERE WHAT IT READS IS OF BULK AT MOST 1048576: true; the input reads as it did. -/
def fairLongUptoRow : OpenClaim := { program := "ytniiiakkdoiaiaagreatdoor", sum := "21532a0d358032a2ef919432eb0dce6fb0854f653fdb3369b209ce893c00de0c", func := "messuage/messuagelaw16.FairLong", spec := "fairLong", inPlace := ["slices.overlaps[uint64]", "internal/reflectlite.ValueOf", "(internal/reflectlite.Value).Type", "(internal/reflectlite.Value).IsNil", "internal/reflectlite.TypeOf", "(internal/reflectlite.Value).Elem", "(internal/reflectlite.Value).Set"], unfollowed := true, recurses := true, named := ["errors.errorType"], apart := false, laid := [("errors.errorType", laid_errors_errorType)], narrowed := true }
def FairLongUptoSaid : Prop := fairLongUptoRow.holds Tryz.pinned (OpenSpec.upto fairLongSpec)

/-- 'messuagelaw16.PicksAll', WHERE WHAT IT READS IS OF BULK AT MOST 1048576: true; the input reads as it did. -/
def picksAllUptoRow : OpenClaim := { program := "ytniiiakkdoiaiaagreatdoor", sum := "21532a0d358032a2ef919432eb0dce6fb0854f653fdb3369b209ce893c00de0c", func := "messuage/messuagelaw16.PicksAll", spec := "picksAll", inPlace := ["slices.overlaps[uint64]", "internal/reflectlite.ValueOf", "(internal/reflectlite.Value).Type", "(internal/reflectlite.Value).IsNil", "internal/reflectlite.TypeOf", "(internal/reflectlite.Value).Elem", "(internal/reflectlite.Value).Set"], unfollowed := true, recurses := true, named := ["errors.errorType"], apart := false, laid := [("errors.errorType", laid_errors_errorType)], narrowed := true }
def PicksAllUptoSaid : Prop := picksAllUptoRow.holds Tryz.pinned (OpenSpec.upto picksAllSpec)

/-- 'messuagelaw16.HistAll', WHERE WHAT IT READS IS OF BULK AT MOST 1048576: true; the input reads as it did. -/
def histAllUptoRow : OpenClaim := { program := "ytniiiakkdoiaiaagreatdoor", sum := "21532a0d358032a2ef919432eb0dce6fb0854f653fdb3369b209ce893c00de0c", func := "messuage/messuagelaw16.HistAll", spec := "histAll", inPlace := ["slices.overlaps[uint64]", "internal/reflectlite.ValueOf", "(internal/reflectlite.Value).Type", "(internal/reflectlite.Value).IsNil", "internal/reflectlite.TypeOf", "(internal/reflectlite.Value).Elem", "(internal/reflectlite.Value).Set"], unfollowed := true, recurses := true, named := ["errors.errorType"], apart := false, laid := [("errors.errorType", laid_errors_errorType)], narrowed := true }
def HistAllUptoSaid : Prop := histAllUptoRow.holds Tryz.pinned (OpenSpec.upto histAllSpec)

/-- 'messuagelaw16.KernForm', WHERE WHAT IT READS IS OF BULK AT MOST 1048576: true; the input reads as it did. -/
def kernFormUptoRow : OpenClaim := { program := "ytniiiakkdoiaiaagreatdoor", sum := "21532a0d358032a2ef919432eb0dce6fb0854f653fdb3369b209ce893c00de0c", func := "messuage/messuagelaw16.KernForm", spec := "kernForm", inPlace := ["slices.overlaps[uint64]", "internal/reflectlite.ValueOf", "(internal/reflectlite.Value).Type", "(internal/reflectlite.Value).IsNil", "internal/reflectlite.TypeOf", "(internal/reflectlite.Value).Elem", "(internal/reflectlite.Value).Set"], unfollowed := true, recurses := true, named := ["errors.errorType"], apart := false, laid := [("errors.errorType", laid_errors_errorType)], narrowed := true }
def KernFormUptoSaid : Prop := kernFormUptoRow.holds Tryz.pinned (OpenSpec.upto kernFormSpec)

/-- 'messuagelaw16.RaceSlot', WHERE WHAT IT READS IS OF BULK AT MOST 1048576: true; the input reads as it did. -/
def raceSlotUptoRow : OpenClaim := { program := "ytniiiakkdoiaiaagreatdoor", sum := "21532a0d358032a2ef919432eb0dce6fb0854f653fdb3369b209ce893c00de0c", func := "messuage/messuagelaw16.RaceSlot", spec := "raceSlot", inPlace := ["slices.overlaps[uint64]", "internal/reflectlite.ValueOf", "(internal/reflectlite.Value).Type", "(internal/reflectlite.Value).IsNil", "internal/reflectlite.TypeOf", "(internal/reflectlite.Value).Elem", "(internal/reflectlite.Value).Set"], unfollowed := true, recurses := true, named := ["errors.errorType"], apart := false, laid := [("errors.errorType", laid_errors_errorType)], narrowed := true }
def RaceSlotUptoSaid : Prop := raceSlotUptoRow.holds Tryz.pinned (OpenSpec.upto raceSlotSpec)

/-- 'messuagelaw16.KernNone', WHERE WHAT IT READS IS OF BULK AT MOST 1048576: true; the input reads as it did. -/
def kernNoneUptoRow : OpenClaim := { program := "ytniiiakkdoiaiaagreatdoor", sum := "21532a0d358032a2ef919432eb0dce6fb0854f653fdb3369b209ce893c00de0c", func := "messuage/messuagelaw16.KernNone", spec := "kernNone", inPlace := ["slices.overlaps[uint64]", "internal/reflectlite.ValueOf", "(internal/reflectlite.Value).Type", "(internal/reflectlite.Value).IsNil", "internal/reflectlite.TypeOf", "(internal/reflectlite.Value).Elem", "(internal/reflectlite.Value).Set"], unfollowed := true, recurses := true, named := ["errors.errorType"], apart := false, laid := [("errors.errorType", laid_errors_errorType)], narrowed := true }
def KernNoneUptoSaid : Prop := kernNoneUptoRow.holds Tryz.pinned (OpenSpec.upto kernNoneSpec)

end Rows
end Go.Proofs.YtniiiakkdoiaiaaGreatDoor
