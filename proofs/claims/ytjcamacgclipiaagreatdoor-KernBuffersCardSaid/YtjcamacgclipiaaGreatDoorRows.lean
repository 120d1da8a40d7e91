/-
  NARROWER THAN 'FOR EVERY INPUT', by the rows' own cells (each row's printed sentence says how): KernState: laid · KernBuffers: laid · KernFresh: laid · KernLinear: laid · KernBad: laid · KernFree: laid · KernPair: laid · TwinWorlds: laid.
  DERIVED. THE GIVEN ROWS OF THIS SEAT. 8 by the template 'for every input the law returns true; each argument reads behind the call as it read before'; 0 by the template 'total and deterministic' (their statements: YtjcamacgclipiaaGreatDoorTotals.lean).
  GIVEN WITH THE SEED: the statements are not yours to turn. If you find one false, say at which input.
  Laid BY PROGRAM, IN A SANDBOX (cutbox-rows.mjs): the forced cells as the released guide's own fill.sh prints them over the translation 2ac6b911be11c169… (all of the seat's roots in one cut). By AI agents, Wed Nov 11 2026. No macro, syntax, notation, axiom, sorry.
-/
import Derived.Test.YtjcamacgclipiaaGreatDoorChecked
import GoSem.Claim
import GoSem.ClaimJoined
import GoSem.ClaimMapViews
import Derived.JoinedTies
import Derived.KernelRfl
namespace Go.Proofs.YtjcamacgclipiaaGreatDoor
/- THE CELL 'sum', in the pinned program and in every row, IS THE sha256 OF THE DUMP (.gsa) THAT YtjcamacgclipiaaGreatDoorProg.lean LOADS. Nothing in Lean hashes anything: it is a label: what it is worth is what the hold of that sum in a sandbox is worth. -/
noncomputable def Tryz.pinned : Pinned := { name := "ytjcamacgclipiaagreatdoor", sum := "2ac6b911be11c16993a1d6173acf038a786e30265677e639e7b2196773e94894", checked := Tryz.checked }
namespace Rows
def none {H : Type} : Left H := { results := [], args := [] }

/- WHAT THE LISTED PACKAGE-LEVEL VARIABLES READ AS WHEN THE CALL BEGINS. Each datum BY PROGRAM (the guide's laid-datum.mjs) off the statement by which the dump's own 'gosem.cut.vars' lays the variable. In a bare row this is a premise. The card (YtjcamacgclipiaaGreatDoorCards.lean) ties it to the program's text. -/
def laid_errors_errorType {H : Type} : DataW H := .iface "internal/reflectlite.rtype" (.agg [.ptr (.lit (.string [101, 114, 114, 111, 114]))])

/-- 'messuagelaw16.KernState': WHATEVER THE INPUT: true; the input reads as it did. -/
def kernStateSpec : ChangeSpec := { name := "kernState", fn := fun _ => fun
  | [d1, d2] => { results := [.lit (.bool true)], args := [d1, d2] }
  | _ => none }
def kernStateRow : OpenClaim := { program := "ytjcamacgclipiaagreatdoor", sum := "2ac6b911be11c16993a1d6173acf038a786e30265677e639e7b2196773e94894", func := "messuage/messuagelaw16.KernState", spec := "kernState", inPlace := ["slices.overlaps[uint64]", "internal/reflectlite.ValueOf", "(internal/reflectlite.Value).Type", "(internal/reflectlite.Value).IsNil", "internal/reflectlite.TypeOf", "(internal/reflectlite.Value).Elem", "(internal/reflectlite.Value).Set"], unfollowed := true, recurses := true, named := ["errors.errorType"], apart := false, laid := [("errors.errorType", laid_errors_errorType)] }
def KernStateSaid : Prop := kernStateRow.holds Tryz.pinned (OpenSpec.ofChange kernStateSpec)

/-- ITS FALSE NEIGHBOUR: 'it returns false'. Refute it at one input. -/
def kernStateWrong : ChangeSpec := { name := "kernState", fn := fun _ => fun
  | [d1, d2] => { results := [.lit (.bool false)], args := [d1, d2] }
  | _ => none }
def KernStateWrongFalsely : Prop := kernStateRow.holds Tryz.pinned (OpenSpec.ofChange kernStateWrong)

/-- 'messuagelaw16.KernBuffers': WHATEVER THE INPUT: true; the input reads as it did. -/
def kernBuffersSpec : ChangeSpec := { name := "kernBuffers", fn := fun _ => fun
  | [d1, d2] => { results := [.lit (.bool true)], args := [d1, d2] }
  | _ => none }
def kernBuffersRow : OpenClaim := { program := "ytjcamacgclipiaagreatdoor", sum := "2ac6b911be11c16993a1d6173acf038a786e30265677e639e7b2196773e94894", func := "messuage/messuagelaw16.KernBuffers", spec := "kernBuffers", inPlace := ["slices.overlaps[uint64]", "internal/reflectlite.ValueOf", "(internal/reflectlite.Value).Type", "(internal/reflectlite.Value).IsNil", "internal/reflectlite.TypeOf", "(internal/reflectlite.Value).Elem", "(internal/reflectlite.Value).Set"], unfollowed := true, recurses := true, named := ["errors.errorType"], apart := false, laid := [("errors.errorType", laid_errors_errorType)] }
def KernBuffersSaid : Prop := kernBuffersRow.holds Tryz.pinned (OpenSpec.ofChange kernBuffersSpec)

/-- ITS FALSE NEIGHBOUR: 'it returns false'. Refute it at one input. -/
def kernBuffersWrong : ChangeSpec := { name := "kernBuffers", fn := fun _ => fun
  | [d1, d2] => { results := [.lit (.bool false)], args := [d1, d2] }
  | _ => none }
def KernBuffersWrongFalsely : Prop := kernBuffersRow.holds Tryz.pinned (OpenSpec.ofChange kernBuffersWrong)

/-- 'messuagelaw16.KernFresh': WHATEVER THE INPUT: true; the input reads as it did. -/
def kernFreshSpec : ChangeSpec := { name := "kernFresh", fn := fun _ => fun
  | [d1, d2] => { results := [.lit (.bool true)], args := [d1, d2] }
  | _ => none }
def kernFreshRow : OpenClaim := { program := "ytjcamacgclipiaagreatdoor", sum := "2ac6b911be11c16993a1d6173acf038a786e30265677e639e7b2196773e94894", func := "messuage/messuagelaw16.KernFresh", spec := "kernFresh", inPlace := ["slices.overlaps[uint64]", "internal/reflectlite.ValueOf", "(internal/reflectlite.Value).Type", "(internal/reflectlite.Value).IsNil", "internal/reflectlite.TypeOf", "(internal/reflectlite.Value).Elem", "(internal/reflectlite.Value).Set"], unfollowed := true, recurses := true, named := ["errors.errorType"], apart := false, laid := [("errors.errorType", laid_errors_errorType)] }
def KernFreshSaid : Prop := kernFreshRow.holds Tryz.pinned (OpenSpec.ofChange kernFreshSpec)

/-- ITS FALSE NEIGHBOUR: 'it returns false'. Refute it at one input. -/
def kernFreshWrong : ChangeSpec := { name := "kernFresh", fn := fun _ => fun
  | [d1, d2] => { results := [.lit (.bool false)], args := [d1, d2] }
  | _ => none }
def KernFreshWrongFalsely : Prop := kernFreshRow.holds Tryz.pinned (OpenSpec.ofChange kernFreshWrong)

/-- 'messuagelaw16.KernLinear': WHATEVER THE INPUT: true; the input reads as it did. -/
def kernLinearSpec : ChangeSpec := { name := "kernLinear", fn := fun _ => fun
  | [d1, d2] => { results := [.lit (.bool true)], args := [d1, d2] }
  | _ => none }
def kernLinearRow : OpenClaim := { program := "ytjcamacgclipiaagreatdoor", sum := "2ac6b911be11c16993a1d6173acf038a786e30265677e639e7b2196773e94894", func := "messuage/messuagelaw16.KernLinear", spec := "kernLinear", inPlace := ["slices.overlaps[uint64]", "internal/reflectlite.ValueOf", "(internal/reflectlite.Value).Type", "(internal/reflectlite.Value).IsNil", "internal/reflectlite.TypeOf", "(internal/reflectlite.Value).Elem", "(internal/reflectlite.Value).Set"], unfollowed := true, recurses := true, named := ["errors.errorType"], apart := false, laid := [("errors.errorType", laid_errors_errorType)] }
def KernLinearSaid : Prop := kernLinearRow.holds Tryz.pinned (OpenSpec.ofChange kernLinearSpec)

/-- ITS FALSE NEIGHBOUR: 'it returns false'. Refute it at one input. -/
def kernLinearWrong : ChangeSpec := { name := "kernLinear", fn := fun _ => fun
  | [d1, d2] => { results := [.lit (.bool false)], args := [d1, d2] }
  | _ => none }
def KernLinearWrongFalsely : Prop := kernLinearRow.holds Tryz.pinned (OpenSpec.ofChange kernLinearWrong)

/-- 'messuagelaw16.KernBad': WHATEVER THE INPUT: true; the input reads as it did. -/
def kernBadSpec : ChangeSpec := { name := "kernBad", fn := fun _ => fun
  | [d1, d2, d3] => { results := [.lit (.bool true)], args := [d1, d2, d3] }
  | _ => none }
def kernBadRow : OpenClaim := { program := "ytjcamacgclipiaagreatdoor", sum := "2ac6b911be11c16993a1d6173acf038a786e30265677e639e7b2196773e94894", func := "messuage/messuagelaw16.KernBad", spec := "kernBad", inPlace := ["slices.overlaps[uint64]", "internal/reflectlite.ValueOf", "(internal/reflectlite.Value).Type", "(internal/reflectlite.Value).IsNil", "internal/reflectlite.TypeOf", "(internal/reflectlite.Value).Elem", "(internal/reflectlite.Value).Set"], unfollowed := true, recurses := true, named := ["errors.errorType"], apart := false, laid := [("errors.errorType", laid_errors_errorType)] }
def KernBadSaid : Prop := kernBadRow.holds Tryz.pinned (OpenSpec.ofChange kernBadSpec)

/-- ITS FALSE NEIGHBOUR: 'it returns false'. Refute it at one input. -/
def kernBadWrong : ChangeSpec := { name := "kernBad", fn := fun _ => fun
  | [d1, d2, d3] => { results := [.lit (.bool false)], args := [d1, d2, d3] }
  | _ => none }
def KernBadWrongFalsely : Prop := kernBadRow.holds Tryz.pinned (OpenSpec.ofChange kernBadWrong)

/-- 'messuagelaw16.KernFree': WHATEVER THE INPUT: true; the input reads as it did. -/
def kernFreeSpec : ChangeSpec := { name := "kernFree", fn := fun _ => fun
  | [d1, d2, d3, d4, d5] => { results := [.lit (.bool true)], args := [d1, d2, d3, d4, d5] }
  | _ => none }
def kernFreeRow : OpenClaim := { program := "ytjcamacgclipiaagreatdoor", sum := "2ac6b911be11c16993a1d6173acf038a786e30265677e639e7b2196773e94894", func := "messuage/messuagelaw16.KernFree", spec := "kernFree", inPlace := ["slices.overlaps[uint64]", "internal/reflectlite.ValueOf", "(internal/reflectlite.Value).Type", "(internal/reflectlite.Value).IsNil", "internal/reflectlite.TypeOf", "(internal/reflectlite.Value).Elem", "(internal/reflectlite.Value).Set"], unfollowed := true, recurses := true, named := ["errors.errorType"], apart := false, laid := [("errors.errorType", laid_errors_errorType)] }
def KernFreeSaid : Prop := kernFreeRow.holds Tryz.pinned (OpenSpec.ofChange kernFreeSpec)

/-- ITS FALSE NEIGHBOUR: 'it returns false'. Refute it at one input. -/
def kernFreeWrong : ChangeSpec := { name := "kernFree", fn := fun _ => fun
  | [d1, d2, d3, d4, d5] => { results := [.lit (.bool false)], args := [d1, d2, d3, d4, d5] }
  | _ => none }
def KernFreeWrongFalsely : Prop := kernFreeRow.holds Tryz.pinned (OpenSpec.ofChange kernFreeWrong)

/-- 'messuagelaw16.KernPair': WHATEVER THE INPUT: true; the input reads as it did. -/
def kernPairSpec : ChangeSpec := { name := "kernPair", fn := fun _ => fun
  | [d1, d2] => { results := [.lit (.bool true)], args := [d1, d2] }
  | _ => none }
def kernPairRow : OpenClaim := { program := "ytjcamacgclipiaagreatdoor", sum := "2ac6b911be11c16993a1d6173acf038a786e30265677e639e7b2196773e94894", func := "messuage/messuagelaw16.KernPair", spec := "kernPair", inPlace := ["slices.overlaps[uint64]", "internal/reflectlite.ValueOf", "(internal/reflectlite.Value).Type", "(internal/reflectlite.Value).IsNil", "internal/reflectlite.TypeOf", "(internal/reflectlite.Value).Elem", "(internal/reflectlite.Value).Set"], unfollowed := true, recurses := true, named := ["errors.errorType"], apart := false, laid := [("errors.errorType", laid_errors_errorType)] }
def KernPairSaid : Prop := kernPairRow.holds Tryz.pinned (OpenSpec.ofChange kernPairSpec)

/-- ITS FALSE NEIGHBOUR: 'it returns false'. Refute it at one input. -/
def kernPairWrong : ChangeSpec := { name := "kernPair", fn := fun _ => fun
  | [d1, d2] => { results := [.lit (.bool false)], args := [d1, d2] }
  | _ => none }
def KernPairWrongFalsely : Prop := kernPairRow.holds Tryz.pinned (OpenSpec.ofChange kernPairWrong)

/-- 'messuagelaw16.TwinWorlds': WHATEVER THE INPUT: true; the input reads as it did. -/
def twinWorldsSpec : ChangeSpec := { name := "twinWorlds", fn := fun _ => fun
  | [d1, d2, d3, d4, d5] => { results := [.lit (.bool true)], args := [d1, d2, d3, d4, d5] }
  | _ => none }
def twinWorldsRow : OpenClaim := { program := "ytjcamacgclipiaagreatdoor", sum := "2ac6b911be11c16993a1d6173acf038a786e30265677e639e7b2196773e94894", func := "messuage/messuagelaw16.TwinWorlds", spec := "twinWorlds", inPlace := ["slices.overlaps[uint64]", "internal/reflectlite.ValueOf", "(internal/reflectlite.Value).Type", "(internal/reflectlite.Value).IsNil", "internal/reflectlite.TypeOf", "(internal/reflectlite.Value).Elem", "(internal/reflectlite.Value).Set"], unfollowed := true, recurses := true, named := ["errors.errorType"], apart := false, laid := [("errors.errorType", laid_errors_errorType)] }
def TwinWorldsSaid : Prop := twinWorldsRow.holds Tryz.pinned (OpenSpec.ofChange twinWorldsSpec)

/-- ITS FALSE NEIGHBOUR: 'it returns false'. Refute it at one input. -/
def twinWorldsWrong : ChangeSpec := { name := "twinWorlds", fn := fun _ => fun
  | [d1, d2, d3, d4, d5] => { results := [.lit (.bool false)], args := [d1, d2, d3, d4, d5] }
  | _ => none }
def TwinWorldsWrongFalsely : Prop := twinWorldsRow.holds Tryz.pinned (OpenSpec.ofChange twinWorldsWrong)

/- THE SECOND FORM. 'bulk': how many values and letters a reading holds, each counted each time it is reached (what is shared counts as often as it is met; a slice's spare places count too). A statement '..UptoSaid' is the law's where the arguments, and the package variables that the reading takes, are together of bulk at most 1048576: NARROWER than '..Said'. Prove '..Said' where nothing that the law and all that it calls make is longer than what came in: it says more and counts as full. Else prove '..UptoSaid'. A law counts once. -/
mutual
def uptoBulk {H : Type} : DataW H → Nat
  | .lit (.string bytes) => bytes.length + 1
  | .lit _ => 1
  | .nil => 1
  | .ptr d => uptoBulk d + 1
  | .slice elems spare => uptoBulkAll elems + uptoBulkAll spare + 1
  | .agg parts => uptoBulkAll parts + 1
  | .iface _ d => uptoBulk d + 1
  | .map entries => uptoBulkEntries entries + 1
  | .held _ => 1
def uptoBulkAll {H : Type} : List (DataW H) → Nat
  | [] => 0
  | d :: r => uptoBulk d + uptoBulkAll r
def uptoBulkEntries {H : Type} : List (Lit × DataW H) → Nat
  | [] => 0
  | x :: r => uptoBulkEntry x + uptoBulkEntries r
def uptoBulkEntry {H : Type} : Lit × DataW H → Nat
  | (.string bytes, d) => bytes.length + uptoBulk d + 1
  | (_, d) => uptoBulk d + 1
 end
def uptoSmall : (H : Type) → List (DataW H) → Bool := fun _ ds => decide (uptoBulkAll ds ≤ 1048576)
def OpenSpec.upto (s : _root_.Go.ChangeSpec) : _root_.Go.OpenSpec := { _root_.Go.OpenSpec.ofChange s with cond := some uptoSmall }

/-- 'messuagelaw16.KernState', WHERE WHAT IT READS IS OF BULK AT MOST 1048576: true; the input reads as it did. -/
def kernStateUptoRow : OpenClaim := { program := "ytjcamacgclipiaagreatdoor", sum := "2ac6b911be11c16993a1d6173acf038a786e30265677e639e7b2196773e94894", func := "messuage/messuagelaw16.KernState", spec := "kernState", inPlace := ["slices.overlaps[uint64]", "internal/reflectlite.ValueOf", "(internal/reflectlite.Value).Type", "(internal/reflectlite.Value).IsNil", "internal/reflectlite.TypeOf", "(internal/reflectlite.Value).Elem", "(internal/reflectlite.Value).Set"], unfollowed := true, recurses := true, named := ["errors.errorType"], apart := false, laid := [("errors.errorType", laid_errors_errorType)], narrowed := true }
def KernStateUptoSaid : Prop := kernStateUptoRow.holds Tryz.pinned (OpenSpec.upto kernStateSpec)

/-- 'messuagelaw16.KernBuffers', WHERE WHAT IT READS IS OF BULK AT MOST 1048576: true; the input reads as it did. -/
def kernBuffersUptoRow : OpenClaim := { program := "ytjcamacgclipiaagreatdoor", sum := "2ac6b911be11c16993a1d6173acf038a786e30265677e639e7b2196773e94894", func := "messuage/messuagelaw16.KernBuffers", spec := "kernBuffers", inPlace := ["slices.overlaps[uint64]", "internal/reflectlite.ValueOf", "(internal/reflectlite.Value).Type", "(internal/reflectlite.Value).IsNil", "internal/reflectlite.TypeOf", "(internal/reflectlite.Value).Elem", "(internal/reflectlite.Value).Set"], unfollowed := true, recurses := true, named := ["errors.errorType"], apart := false, laid := [("errors.errorType", laid_errors_errorType)], narrowed := true }
def KernBuffersUptoSaid : Prop := kernBuffersUptoRow.holds Tryz.pinned (OpenSpec.upto kernBuffersSpec)

/-- 'messuagelaw16.KernFresh', WHERE WHAT IT READS IS OF BULK AT MOST 1048576: true; the input reads as it did. -/
def kernFreshUptoRow : OpenClaim := { program := "ytjcamacgclipiaagreatdoor", sum := "2ac6b911be11c16993a1d6173acf038a786e30265677e639e7b2196773e94894", func := "messuage/messuagelaw16.KernFresh", spec := "kernFresh", inPlace := ["slices.overlaps[uint64]", "internal/reflectlite.ValueOf", "(internal/reflectlite.Value).Type", "(internal/reflectlite.Value).IsNil", "internal/reflectlite.TypeOf", "(internal/reflectlite.Value).Elem", "(internal/reflectlite.Value).Set"], unfollowed := true, recurses := true, named := ["errors.errorType"], apart := false, laid := [("errors.errorType", laid_errors_errorType)], narrowed := true }
def KernFreshUptoSaid : Prop := kernFreshUptoRow.holds Tryz.pinned (OpenSpec.upto kernFreshSpec)

/-- 'messuagelaw16.KernLinear', WHERE WHAT IT READS IS OF BULK AT MOST 1048576: true; the input reads as it did. -/
def kernLinearUptoRow : OpenClaim := { program := "ytjcamacgclipiaagreatdoor", sum := "2ac6b911be11c16993a1d6173acf038a786e30265677e639e7b2196773e94894", func := "messuage/messuagelaw16.KernLinear", spec := "kernLinear", inPlace := ["slices.overlaps[uint64]", "internal/reflectlite.ValueOf", "(internal/reflectlite.Value).Type", "(internal/reflectlite.Value).IsNil", "internal/reflectlite.TypeOf", "(internal/reflectlite.Value).Elem", "(internal/reflectlite.Value).Set"], unfollowed := true, recurses := true, named := ["errors.errorType"], apart := false, laid := [("errors.errorType", laid_errors_errorType)], narrowed := true }
def KernLinearUptoSaid : Prop := kernLinearUptoRow.holds Tryz.pinned (OpenSpec.upto kernLinearSpec)

/-- 'messuagelaw16.KernBad', WHERE WHAT IT READS IS OF BULK AT MOST 1048576: true; the input reads as it did. -/
def kernBadUptoRow : OpenClaim := { program := "ytjcamacgclipiaagreatdoor", sum := "2ac6b911be11c16993a1d6173acf038a786e30265677e639e7b2196773e94894", func := "messuage/messuagelaw16.KernBad", spec := "kernBad", inPlace := ["slices.overlaps[uint64]", "internal/reflectlite.ValueOf", "(internal/reflectlite.Value).Type", "(internal/reflectlite.Value).IsNil", "internal/reflectlite.TypeOf", "(internal/reflectlite.Value).Elem", "(internal/reflectlite.Value).Set"], unfollowed := true, recurses := true, named := ["errors.errorType"], apart := false, laid := [("errors.errorType", laid_errors_errorType)], narrowed := true }
def KernBadUptoSaid : Prop := kernBadUptoRow.holds Tryz.pinned (OpenSpec.upto kernBadSpec)

/-- 'messuagelaw16.KernFree', WHERE WHAT IT READS IS OF BULK AT MOST 1048576: true; the input reads as it did. -/
def kernFreeUptoRow : OpenClaim := { program := "ytjcamacgclipiaagreatdoor", sum := "2ac6b911be11c16993a1d6173acf038a786e30265677e639e7b2196773e94894", func := "messuage/messuagelaw16.KernFree", spec := "kernFree", inPlace := ["slices.overlaps[uint64]", "internal/reflectlite.ValueOf", "(internal/reflectlite.Value).Type", "(internal/reflectlite.Value).IsNil", "internal/reflectlite.TypeOf", "(internal/reflectlite.Value).Elem", "(internal/reflectlite.Value).Set"], unfollowed := true, recurses := true, named := ["errors.errorType"], apart := false, laid := [("errors.errorType", laid_errors_errorType)], narrowed := true }
def KernFreeUptoSaid : Prop := kernFreeUptoRow.holds Tryz.pinned (OpenSpec.upto kernFreeSpec)

/-- 'messuagelaw16.KernPair', WHERE WHAT IT READS IS OF BULK AT MOST 1048576: true; the input reads as it did. -/
def kernPairUptoRow : OpenClaim := { program := "ytjcamacgclipiaagreatdoor", sum := "2ac6b911be11c16993a1d6173acf038a786e30265677e639e7b2196773e94894", func := "messuage/messuagelaw16.KernPair", spec := "kernPair", inPlace := ["slices.overlaps[uint64]", "internal/reflectlite.ValueOf", "(internal/reflectlite.Value).Type", "(internal/reflectlite.Value).IsNil", "internal/reflectlite.TypeOf", "(internal/reflectlite.Value).Elem", "(internal/reflectlite.Value).Set"], unfollowed := true, recurses := true, named := ["errors.errorType"], apart := false, laid := [("errors.errorType", laid_errors_errorType)], narrowed := true }
def KernPairUptoSaid : Prop := kernPairUptoRow.holds Tryz.pinned (OpenSpec.upto kernPairSpec)

/-- 'messuagelaw16.TwinWorlds', WHERE WHAT IT READS IS OF BULK AT MOST 1048576: true; the input reads as it did. -/
def twinWorldsUptoRow : OpenClaim := { program := "ytjcamacgclipiaagreatdoor", sum := "2ac6b911be11c16993a1d6173acf038a786e30265677e639e7b2196773e94894", func := "messuage/messuagelaw16.TwinWorlds", spec := "twinWorlds", inPlace := ["slices.overlaps[uint64]", "internal/reflectlite.ValueOf", "(internal/reflectlite.Value).Type", "(internal/reflectlite.Value).IsNil", "internal/reflectlite.TypeOf", "(internal/reflectlite.Value).Elem", "(internal/reflectlite.Value).Set"], unfollowed := true, recurses := true, named := ["errors.errorType"], apart := false, laid := [("errors.errorType", laid_errors_errorType)], narrowed := true }
def TwinWorldsUptoSaid : Prop := twinWorldsUptoRow.holds Tryz.pinned (OpenSpec.upto twinWorldsSpec)

end Rows
end Go.Proofs.YtjcamacgclipiaaGreatDoor
