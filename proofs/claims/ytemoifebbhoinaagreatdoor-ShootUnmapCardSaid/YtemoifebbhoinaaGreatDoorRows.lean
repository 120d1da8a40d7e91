/-
  NARROWER THAN 'FOR EVERY INPUT', by the rows' own cells (each row's printed sentence says how): ShootRevoke: laid · HistTurn: laid · RaceAlloc: laid · RaceAdd: laid · KernLinear: laid · KernBad: laid · KernBuffers: laid · KernState: laid · KernFresh: laid · HistReal: laid · ShootUnmap: laid.
  DERIVED. THE GIVEN ROWS OF THIS SEAT. 11 by the template 'for every input the law returns true; each argument reads behind the call as it read before'; 0 by the template 'total and deterministic' (their statements: YtemoifebbhoinaaGreatDoorTotals.lean).
  GIVEN WITH THE SEED: the statements are not yours to turn. If you find one false, say at which input.
  Laid BY PROGRAM, IN A SANDBOX (cutbox-rows.mjs): the forced cells as the released guide's own fill.sh prints them over the translation 88dd21338c0f6ecf… (all of the seat's roots in one cut). By AI agents, Wed Nov 11 2026. No macro, syntax, notation, axiom, sorry.
-/
import Derived.Test.YtemoifebbhoinaaGreatDoorChecked
import GoSem.Claim
import GoSem.ClaimJoined
import GoSem.ClaimMapViews
import Derived.JoinedTies
import Derived.KernelRfl
namespace Go.Proofs.YtemoifebbhoinaaGreatDoor
/- THE CELL 'sum', in the pinned program and in every row, IS THE sha256 OF THE DUMP (.gsa) THAT YtemoifebbhoinaaGreatDoorProg.lean LOADS. Nothing in Lean hashes anything: it is a label: what it is worth is what the hold of that sum in a sandbox is worth. -/
noncomputable def Tryz.pinned : Pinned := { name := "ytemoifebbhoinaagreatdoor", sum := "88dd21338c0f6ecfa6d4a3be43ff401d8d62fc3300192b6b954e7371b8f8bbbb", checked := Tryz.checked }
namespace Rows
def none {H : Type} : Left H := { results := [], args := [] }

/- WHAT THE LISTED PACKAGE-LEVEL VARIABLES READ AS WHEN THE CALL BEGINS. Each datum BY PROGRAM (the guide's laid-datum.mjs) off the statement by which the dump's own 'gosem.cut.vars' lays the variable. In a bare row this is a premise. The card (YtemoifebbhoinaaGreatDoorCards.lean) ties it to the program's text. -/
def laid_errors_errorType {H : Type} : DataW H := .iface "internal/reflectlite.rtype" (.agg [.ptr (.lit (.string [101, 114, 114, 111, 114]))])

/-- 'messuagelaw16.ShootRevoke': WHATEVER THE INPUT: true; the input reads as it did. -/
def shootRevokeSpec : ChangeSpec := { name := "shootRevoke", fn := fun _ => fun
  | [d1, d2, d3] => { results := [.lit (.bool true)], args := [d1, d2, d3] }
  | _ => none }
def shootRevokeRow : OpenClaim := { program := "ytemoifebbhoinaagreatdoor", sum := "88dd21338c0f6ecfa6d4a3be43ff401d8d62fc3300192b6b954e7371b8f8bbbb", func := "messuage/messuagelaw16.ShootRevoke", spec := "shootRevoke", inPlace := ["slices.overlaps[uint64]", "internal/reflectlite.ValueOf", "(internal/reflectlite.Value).Type", "(internal/reflectlite.Value).IsNil", "internal/reflectlite.TypeOf", "(internal/reflectlite.Value).Elem", "(internal/reflectlite.Value).Set"], unfollowed := true, recurses := true, named := ["errors.errorType"], apart := false, laid := [("errors.errorType", laid_errors_errorType)] }
def ShootRevokeSaid : Prop := shootRevokeRow.holds Tryz.pinned (OpenSpec.ofChange shootRevokeSpec)

/-- ITS FALSE NEIGHBOUR: 'it returns false'. Refute it at one input. -/
def shootRevokeWrong : ChangeSpec := { name := "shootRevoke", fn := fun _ => fun
  | [d1, d2, d3] => { results := [.lit (.bool false)], args := [d1, d2, d3] }
  | _ => none }
def ShootRevokeWrongFalsely : Prop := shootRevokeRow.holds Tryz.pinned (OpenSpec.ofChange shootRevokeWrong)

/-- 'messuagelaw16.HistTurn': WHATEVER THE INPUT: true; the input reads as it did. -/
def histTurnSpec : ChangeSpec := { name := "histTurn", fn := fun _ => fun
  | [d1, d2, d3, d4, d5] => { results := [.lit (.bool true)], args := [d1, d2, d3, d4, d5] }
  | _ => none }
def histTurnRow : OpenClaim := { program := "ytemoifebbhoinaagreatdoor", sum := "88dd21338c0f6ecfa6d4a3be43ff401d8d62fc3300192b6b954e7371b8f8bbbb", func := "messuage/messuagelaw16.HistTurn", spec := "histTurn", inPlace := ["slices.overlaps[uint64]", "internal/reflectlite.ValueOf", "(internal/reflectlite.Value).Type", "(internal/reflectlite.Value).IsNil", "internal/reflectlite.TypeOf", "(internal/reflectlite.Value).Elem", "(internal/reflectlite.Value).Set"], unfollowed := true, recurses := true, named := ["errors.errorType"], apart := false, laid := [("errors.errorType", laid_errors_errorType)] }
def HistTurnSaid : Prop := histTurnRow.holds Tryz.pinned (OpenSpec.ofChange histTurnSpec)

/-- ITS FALSE NEIGHBOUR: 'it returns false'. Refute it at one input. -/
def histTurnWrong : ChangeSpec := { name := "histTurn", fn := fun _ => fun
  | [d1, d2, d3, d4, d5] => { results := [.lit (.bool false)], args := [d1, d2, d3, d4, d5] }
  | _ => none }
def HistTurnWrongFalsely : Prop := histTurnRow.holds Tryz.pinned (OpenSpec.ofChange histTurnWrong)

/-- 'messuagelaw16.RaceAlloc': WHATEVER THE INPUT: true; the input reads as it did. -/
def raceAllocSpec : ChangeSpec := { name := "raceAlloc", fn := fun _ => fun
  | [d1, d2, d3] => { results := [.lit (.bool true)], args := [d1, d2, d3] }
  | _ => none }
def raceAllocRow : OpenClaim := { program := "ytemoifebbhoinaagreatdoor", sum := "88dd21338c0f6ecfa6d4a3be43ff401d8d62fc3300192b6b954e7371b8f8bbbb", func := "messuage/messuagelaw16.RaceAlloc", spec := "raceAlloc", inPlace := ["slices.overlaps[uint64]", "internal/reflectlite.ValueOf", "(internal/reflectlite.Value).Type", "(internal/reflectlite.Value).IsNil", "internal/reflectlite.TypeOf", "(internal/reflectlite.Value).Elem", "(internal/reflectlite.Value).Set"], unfollowed := true, recurses := true, named := ["errors.errorType"], apart := false, laid := [("errors.errorType", laid_errors_errorType)] }
def RaceAllocSaid : Prop := raceAllocRow.holds Tryz.pinned (OpenSpec.ofChange raceAllocSpec)

/-- ITS FALSE NEIGHBOUR: 'it returns false'. Refute it at one input. -/
def raceAllocWrong : ChangeSpec := { name := "raceAlloc", fn := fun _ => fun
  | [d1, d2, d3] => { results := [.lit (.bool false)], args := [d1, d2, d3] }
  | _ => none }
def RaceAllocWrongFalsely : Prop := raceAllocRow.holds Tryz.pinned (OpenSpec.ofChange raceAllocWrong)

/-- 'messuagelaw16.RaceAdd': WHATEVER THE INPUT: true; the input reads as it did. -/
def raceAddSpec : ChangeSpec := { name := "raceAdd", fn := fun _ => fun
  | [d1, d2, d3] => { results := [.lit (.bool true)], args := [d1, d2, d3] }
  | _ => none }
def raceAddRow : OpenClaim := { program := "ytemoifebbhoinaagreatdoor", sum := "88dd21338c0f6ecfa6d4a3be43ff401d8d62fc3300192b6b954e7371b8f8bbbb", func := "messuage/messuagelaw16.RaceAdd", spec := "raceAdd", inPlace := ["slices.overlaps[uint64]", "internal/reflectlite.ValueOf", "(internal/reflectlite.Value).Type", "(internal/reflectlite.Value).IsNil", "internal/reflectlite.TypeOf", "(internal/reflectlite.Value).Elem", "(internal/reflectlite.Value).Set"], unfollowed := true, recurses := true, named := ["errors.errorType"], apart := false, laid := [("errors.errorType", laid_errors_errorType)] }
def RaceAddSaid : Prop := raceAddRow.holds Tryz.pinned (OpenSpec.ofChange raceAddSpec)

/-- ITS FALSE NEIGHBOUR: 'it returns false'. Refute it at one input. -/
def raceAddWrong : ChangeSpec := { name := "raceAdd", fn := fun _ => fun
  | [d1, d2, d3] => { results := [.lit (.bool false)], args := [d1, d2, d3] }
  | _ => none }
def RaceAddWrongFalsely : Prop := raceAddRow.holds Tryz.pinned (OpenSpec.ofChange raceAddWrong)

/-- 'messuagelaw16.KernLinear': WHATEVER THE INPUT: true; the input reads as it did. -/
def kernLinearSpec : ChangeSpec := { name := "kernLinear", fn := fun _ => fun
  | [d1, d2] => { results := [.lit (.bool true)], args := [d1, d2] }
  | _ => none }
def kernLinearRow : OpenClaim := { program := "ytemoifebbhoinaagreatdoor", sum := "88dd21338c0f6ecfa6d4a3be43ff401d8d62fc3300192b6b954e7371b8f8bbbb", func := "messuage/messuagelaw16.KernLinear", spec := "kernLinear", inPlace := ["slices.overlaps[uint64]", "internal/reflectlite.ValueOf", "(internal/reflectlite.Value).Type", "(internal/reflectlite.Value).IsNil", "internal/reflectlite.TypeOf", "(internal/reflectlite.Value).Elem", "(internal/reflectlite.Value).Set"], unfollowed := true, recurses := true, named := ["errors.errorType"], apart := false, laid := [("errors.errorType", laid_errors_errorType)] }
def KernLinearSaid : Prop := kernLinearRow.holds Tryz.pinned (OpenSpec.ofChange kernLinearSpec)

/-- ITS FALSE NEIGHBOUR: 'it returns false'. Refute it at one input. -/
def kernLinearWrong : ChangeSpec := { name := "kernLinear", fn := fun _ => fun
  | [d1, d2] => { results := [.lit (.bool false)], args := [d1, d2] }
  | _ => none }
def KernLinearWrongFalsely : Prop := kernLinearRow.holds Tryz.pinned (OpenSpec.ofChange kernLinearWrong)

/-- 'messuagelaw16.KernBad': WHATEVER THE INPUT: true; the input reads as it did. -/
def kernBadSpec : ChangeSpec := { name := "kernBad", fn := fun _ => fun
  | [d1, d2, d3] => { results := [.lit (.bool true)], args := [d1, d2, d3] }
  | _ => none }
def kernBadRow : OpenClaim := { program := "ytemoifebbhoinaagreatdoor", sum := "88dd21338c0f6ecfa6d4a3be43ff401d8d62fc3300192b6b954e7371b8f8bbbb", func := "messuage/messuagelaw16.KernBad", spec := "kernBad", inPlace := ["slices.overlaps[uint64]", "internal/reflectlite.ValueOf", "(internal/reflectlite.Value).Type", "(internal/reflectlite.Value).IsNil", "internal/reflectlite.TypeOf", "(internal/reflectlite.Value).Elem", "(internal/reflectlite.Value).Set"], unfollowed := true, recurses := true, named := ["errors.errorType"], apart := false, laid := [("errors.errorType", laid_errors_errorType)] }
def KernBadSaid : Prop := kernBadRow.holds Tryz.pinned (OpenSpec.ofChange kernBadSpec)

/-- ITS FALSE NEIGHBOUR: 'it returns false'. Refute it at one input. -/
def kernBadWrong : ChangeSpec := { name := "kernBad", fn := fun _ => fun
  | [d1, d2, d3] => { results := [.lit (.bool false)], args := [d1, d2, d3] }
  | _ => none }
def KernBadWrongFalsely : Prop := kernBadRow.holds Tryz.pinned (OpenSpec.ofChange kernBadWrong)

/-- 'messuagelaw16.KernBuffers': WHATEVER THE INPUT: true; the input reads as it did. -/
def kernBuffersSpec : ChangeSpec := { name := "kernBuffers", fn := fun _ => fun
  | [d1, d2] => { results := [.lit (.bool true)], args := [d1, d2] }
  | _ => none }
def kernBuffersRow : OpenClaim := { program := "ytemoifebbhoinaagreatdoor", sum := "88dd21338c0f6ecfa6d4a3be43ff401d8d62fc3300192b6b954e7371b8f8bbbb", func := "messuage/messuagelaw16.KernBuffers", spec := "kernBuffers", inPlace := ["slices.overlaps[uint64]", "internal/reflectlite.ValueOf", "(internal/reflectlite.Value).Type", "(internal/reflectlite.Value).IsNil", "internal/reflectlite.TypeOf", "(internal/reflectlite.Value).Elem", "(internal/reflectlite.Value).Set"], unfollowed := true, recurses := true, named := ["errors.errorType"], apart := false, laid := [("errors.errorType", laid_errors_errorType)] }
def KernBuffersSaid : Prop := kernBuffersRow.holds Tryz.pinned (OpenSpec.ofChange kernBuffersSpec)

/-- ITS FALSE NEIGHBOUR: 'it returns false'. Refute it at one input. -/
def kernBuffersWrong : ChangeSpec := { name := "kernBuffers", fn := fun _ => fun
  | [d1, d2] => { results := [.lit (.bool false)], args := [d1, d2] }
  | _ => none }
def KernBuffersWrongFalsely : Prop := kernBuffersRow.holds Tryz.pinned (OpenSpec.ofChange kernBuffersWrong)

/-- 'messuagelaw16.KernState': WHATEVER THE INPUT: true; the input reads as it did. -/
def kernStateSpec : ChangeSpec := { name := "kernState", fn := fun _ => fun
  | [d1, d2] => { results := [.lit (.bool true)], args := [d1, d2] }
  | _ => none }
def kernStateRow : OpenClaim := { program := "ytemoifebbhoinaagreatdoor", sum := "88dd21338c0f6ecfa6d4a3be43ff401d8d62fc3300192b6b954e7371b8f8bbbb", func := "messuage/messuagelaw16.KernState", spec := "kernState", inPlace := ["slices.overlaps[uint64]", "internal/reflectlite.ValueOf", "(internal/reflectlite.Value).Type", "(internal/reflectlite.Value).IsNil", "internal/reflectlite.TypeOf", "(internal/reflectlite.Value).Elem", "(internal/reflectlite.Value).Set"], unfollowed := true, recurses := true, named := ["errors.errorType"], apart := false, laid := [("errors.errorType", laid_errors_errorType)] }
def KernStateSaid : Prop := kernStateRow.holds Tryz.pinned (OpenSpec.ofChange kernStateSpec)

/-- ITS FALSE NEIGHBOUR: 'it returns false'. Refute it at one input. -/
def kernStateWrong : ChangeSpec := { name := "kernState", fn := fun _ => fun
  | [d1, d2] => { results := [.lit (.bool false)], args := [d1, d2] }
  | _ => none }
def KernStateWrongFalsely : Prop := kernStateRow.holds Tryz.pinned (OpenSpec.ofChange kernStateWrong)

/-- 'messuagelaw16.KernFresh': WHATEVER THE INPUT: true; the input reads as it did. -/
def kernFreshSpec : ChangeSpec := { name := "kernFresh", fn := fun _ => fun
  | [d1, d2] => { results := [.lit (.bool true)], args := [d1, d2] }
  | _ => none }
def kernFreshRow : OpenClaim := { program := "ytemoifebbhoinaagreatdoor", sum := "88dd21338c0f6ecfa6d4a3be43ff401d8d62fc3300192b6b954e7371b8f8bbbb", func := "messuage/messuagelaw16.KernFresh", spec := "kernFresh", inPlace := ["slices.overlaps[uint64]", "internal/reflectlite.ValueOf", "(internal/reflectlite.Value).Type", "(internal/reflectlite.Value).IsNil", "internal/reflectlite.TypeOf", "(internal/reflectlite.Value).Elem", "(internal/reflectlite.Value).Set"], unfollowed := true, recurses := true, named := ["errors.errorType"], apart := false, laid := [("errors.errorType", laid_errors_errorType)] }
def KernFreshSaid : Prop := kernFreshRow.holds Tryz.pinned (OpenSpec.ofChange kernFreshSpec)

/-- ITS FALSE NEIGHBOUR: 'it returns false'. Refute it at one input. -/
def kernFreshWrong : ChangeSpec := { name := "kernFresh", fn := fun _ => fun
  | [d1, d2] => { results := [.lit (.bool false)], args := [d1, d2] }
  | _ => none }
def KernFreshWrongFalsely : Prop := kernFreshRow.holds Tryz.pinned (OpenSpec.ofChange kernFreshWrong)

/-- 'messuagelaw16.HistReal': WHATEVER THE INPUT: true; the input reads as it did. -/
def histRealSpec : ChangeSpec := { name := "histReal", fn := fun _ => fun
  | [d1, d2] => { results := [.lit (.bool true)], args := [d1, d2] }
  | _ => none }
def histRealRow : OpenClaim := { program := "ytemoifebbhoinaagreatdoor", sum := "88dd21338c0f6ecfa6d4a3be43ff401d8d62fc3300192b6b954e7371b8f8bbbb", func := "messuage/messuagelaw16.HistReal", spec := "histReal", inPlace := ["slices.overlaps[uint64]", "internal/reflectlite.ValueOf", "(internal/reflectlite.Value).Type", "(internal/reflectlite.Value).IsNil", "internal/reflectlite.TypeOf", "(internal/reflectlite.Value).Elem", "(internal/reflectlite.Value).Set"], unfollowed := true, recurses := true, named := ["errors.errorType"], apart := false, laid := [("errors.errorType", laid_errors_errorType)] }
def HistRealSaid : Prop := histRealRow.holds Tryz.pinned (OpenSpec.ofChange histRealSpec)

/-- ITS FALSE NEIGHBOUR: 'it returns false'. Refute it at one input. -/
def histRealWrong : ChangeSpec := { name := "histReal", fn := fun _ => fun
  | [d1, d2] => { results := [.lit (.bool false)], args := [d1, d2] }
  | _ => none }
def HistRealWrongFalsely : Prop := histRealRow.holds Tryz.pinned (OpenSpec.ofChange histRealWrong)

/-- 'messuagelaw16.ShootUnmap': WHATEVER THE INPUT: true; the input reads as it did. -/
def shootUnmapSpec : ChangeSpec := { name := "shootUnmap", fn := fun _ => fun
  | [d1, d2, d3] => { results := [.lit (.bool true)], args := [d1, d2, d3] }
  | _ => none }
def shootUnmapRow : OpenClaim := { program := "ytemoifebbhoinaagreatdoor", sum := "88dd21338c0f6ecfa6d4a3be43ff401d8d62fc3300192b6b954e7371b8f8bbbb", func := "messuage/messuagelaw16.ShootUnmap", spec := "shootUnmap", inPlace := ["slices.overlaps[uint64]", "internal/reflectlite.ValueOf", "(internal/reflectlite.Value).Type", "(internal/reflectlite.Value).IsNil", "internal/reflectlite.TypeOf", "(internal/reflectlite.Value).Elem", "(internal/reflectlite.Value).Set"], unfollowed := true, recurses := true, named := ["errors.errorType"], apart := false, laid := [("errors.errorType", laid_errors_errorType)] }
def ShootUnmapSaid : Prop := shootUnmapRow.holds Tryz.pinned (OpenSpec.ofChange shootUnmapSpec)

/-- ITS FALSE NEIGHBOUR: 'it returns false'. Refute it at one input. -/
def shootUnmapWrong : ChangeSpec := { name := "shootUnmap", fn := fun _ => fun
  | [d1, d2, d3] => { results := [.lit (.bool false)], args := [d1, d2, d3] }
  | _ => none }
def ShootUnmapWrongFalsely : Prop := shootUnmapRow.holds Tryz.pinned (OpenSpec.ofChange shootUnmapWrong)

/- THE SECOND FORM. 'bulk': how many values and letters a reading holds, each counted each time it is reached (what is shared counts as often as it is met; a slice's spare places count too). A statement '..UptoSaid' is the law's where the arguments, and the package variables that the reading takes, are together of bulk at most 1048576: NARROWER than '..Said'. Prove '..Said' where nothing that the law and all that it calls make is longer than what came in: it says more and counts as full. Else prove '..UptoSaid'. A law counts once. -/
mutual
def uptoBulk {H : Type} : DataW H → Nat
  | .lit (.string bytes) => bytes.length + 1
  | .lit _ => 1
  | .nil => 1
  | .ptr d => uptoBulk d + 1
  | .slice elems spare => uptoBulkAll elems + uptoBulkAll spare + 1
  | .agg parts => uptoBulkAll parts + 1
  | .iface _ d => uptoBulk d + 1
  | .map entries => uptoBulkEntries entries + 1
  | .held _ => 1
def uptoBulkAll {H : Type} : List (DataW H) → Nat
  | [] => 0
  | d :: r => uptoBulk d + uptoBulkAll r
def uptoBulkEntries {H : Type} : List (Lit × DataW H) → Nat
  | [] => 0
  | x :: r => uptoBulkEntry x + uptoBulkEntries r
def uptoBulkEntry {H : Type} : Lit × DataW H → Nat
  | (.string bytes, d) => bytes.length + uptoBulk d + 1
  | (_, d) => uptoBulk d + 1
 end
def uptoSmall : (H : Type) → List (DataW H) → Bool := fun _ ds => decide (uptoBulkAll ds ≤ 1048576)
def OpenSpec.upto (s : _root_.Go.ChangeSpec) : _root_.Go.OpenSpec := { _root_.Go.OpenSpec.ofChange s with cond := some uptoSmall }

/-- 'messuagelaw16.ShootRevoke', WHERE WHAT IT READS IS OF BULK AT MOST 1048576: true; the input reads as it did. -/
def shootRevokeUptoRow : OpenClaim := { program := "ytemoifebbhoinaagreatdoor", sum := "88dd21338c0f6ecfa6d4a3be43ff401d8d62fc3300192b6b954e7371b8f8bbbb", func := "messuage/messuagelaw16.ShootRevoke", spec := "shootRevoke", inPlace := ["slices.overlaps[uint64]", "internal/reflectlite.ValueOf", "(internal/reflectlite.Value).Type", "(internal/reflectlite.Value).IsNil", "internal/reflectlite.TypeOf", "(internal/reflectlite.Value).Elem", "(internal/reflectlite.Value).Set"], unfollowed := true, recurses := true, named := ["errors.errorType"], apart := false, laid := [("errors.errorType", laid_errors_errorType)], narrowed := true }
def ShootRevokeUptoSaid : Prop := shootRevokeUptoRow.holds Tryz.pinned (OpenSpec.upto shootRevokeSpec)

/-- 'messuagelaw16.HistTurn', WHERE WHAT IT READS IS OF BULK AT MOST 1048576: true; the input reads as it did. -/
def histTurnUptoRow : OpenClaim := { program := "ytemoifebbhoinaagreatdoor", sum := "88dd21338c0f6ecfa6d4a3be43ff401d8d62fc3300192b6b954e7371b8f8bbbb", func := "messuage/messuagelaw16.HistTurn", spec := "histTurn", inPlace := ["slices.overlaps[uint64]", "internal/reflectlite.ValueOf", "(internal/reflectlite.Value).Type", "(internal/reflectlite.Value).IsNil", "internal/reflectlite.TypeOf", "(internal/reflectlite.Value).Elem", "(internal/reflectlite.Value).Set"], unfollowed := true, recurses := true, named := ["errors.errorType"], apart := false, laid := [("errors.errorType", laid_errors_errorType)], narrowed := true }
def HistTurnUptoSaid : Prop := histTurnUptoRow.holds Tryz.pinned (OpenSpec.upto histTurnSpec)

/-- 'messuagelaw16.RaceAlloc', WHERE WHAT IT READS IS OF BULK AT MOST 1048576: true; the input reads as it did. -/
def raceAllocUptoRow : OpenClaim := { program := "ytemoifebbhoinaagreatdoor", sum := "88dd21338c0f6ecfa6d4a3be43ff401d8d62fc3300192b6b954e7371b8f8bbbb", func := "messuage/messuagelaw16.RaceAlloc", spec := "raceAlloc", inPlace := ["slices.overlaps[uint64]", "internal/reflectlite.ValueOf", "(internal/reflectlite.Value).Type", "(internal/reflectlite.Value).IsNil", "internal/reflectlite.TypeOf", "(internal/reflectlite.Value).Elem", "(internal/reflectlite.Value).Set"], unfollowed := true, recurses := true, named := ["errors.errorType"], apart := false, laid := [("errors.errorType", laid_errors_errorType)], narrowed := true }
def RaceAllocUptoSaid : Prop := raceAllocUptoRow.holds Tryz.pinned (OpenSpec.upto raceAllocSpec)

/-- 'messuagelaw16.RaceAdd', WHERE WHAT IT READS IS OF BULK AT MOST 1048576: true; the input reads as it did. -/
def raceAddUptoRow : OpenClaim := { program := "ytemoifebbhoinaagreatdoor", sum := "88dd21338c0f6ecfa6d4a3be43ff401d8d62fc3300192b6b954e7371b8f8bbbb", func := "messuage/messuagelaw16.RaceAdd", spec := "raceAdd", inPlace := ["slices.overlaps[uint64]", "internal/reflectlite.ValueOf", "(internal/reflectlite.Value).Type", "(internal/reflectlite.Value).IsNil", "internal/reflectlite.TypeOf", "(internal/reflectlite.Value).Elem", "(internal/reflectlite.Value).Set"], unfollowed := true, recurses := true, named := ["errors.errorType"], apart := false, laid := [("errors.errorType", laid_errors_errorType)], narrowed := true }
def RaceAddUptoSaid : Prop := raceAddUptoRow.holds Tryz.pinned (OpenSpec.upto raceAddSpec)

/-- 'messuagelaw16.KernLinear', WHERE WHAT IT READS IS OF BULK AT MOST 1048576: true; the input reads as it did. -/
def kernLinearUptoRow : OpenClaim := { program := "ytemoifebbhoinaagreatdoor", sum := "88dd21338c0f6ecfa6d4a3be43ff401d8d62fc3300192b6b954e7371b8f8bbbb", func := "messuage/messuagelaw16.KernLinear", spec := "kernLinear", inPlace := ["slices.overlaps[uint64]", "internal/reflectlite.ValueOf", "(internal/reflectlite.Value).Type", "(internal/reflectlite.Value).IsNil", "internal/reflectlite.TypeOf", "(internal/reflectlite.Value).Elem", "(internal/reflectlite.Value).Set"], unfollowed := true, recurses := true, named := ["errors.errorType"], apart := false, laid := [("errors.errorType", laid_errors_errorType)], narrowed := true }
def KernLinearUptoSaid : Prop := kernLinearUptoRow.holds Tryz.pinned (OpenSpec.upto kernLinearSpec)

/-- 'messuagelaw16.KernBad', WHERE WHAT IT READS IS OF BULK AT MOST 1048576: true; the input reads as it did. -/
def kernBadUptoRow : OpenClaim := { program := "ytemoifebbhoinaagreatdoor", sum := "88dd21338c0f6ecfa6d4a3be43ff401d8d62fc3300192b6b954e7371b8f8bbbb", func := "messuage/messuagelaw16.KernBad", spec := "kernBad", inPlace := ["slices.overlaps[uint64]", "internal/reflectlite.ValueOf", "(internal/reflectlite.Value).Type", "(internal/reflectlite.Value).IsNil", "internal/reflectlite.TypeOf", "(internal/reflectlite.Value).Elem", "(internal/reflectlite.Value).Set"], unfollowed := true, recurses := true, named := ["errors.errorType"], apart := false, laid := [("errors.errorType", laid_errors_errorType)], narrowed := true }
def KernBadUptoSaid : Prop := kernBadUptoRow.holds Tryz.pinned (OpenSpec.upto kernBadSpec)

/-- 'messuagelaw16.KernBuffers', WHERE WHAT IT READS IS OF BULK AT MOST 1048576: true; the input reads as it did. -/
def kernBuffersUptoRow : OpenClaim := { program := "ytemoifebbhoinaagreatdoor", sum := "88dd21338c0f6ecfa6d4a3be43ff401d8d62fc3300192b6b954e7371b8f8bbbb", func := "messuage/messuagelaw16.KernBuffers", spec := "kernBuffers", inPlace := ["slices.overlaps[uint64]", "internal/reflectlite.ValueOf", "(internal/reflectlite.Value).Type", "(internal/reflectlite.Value).IsNil", "internal/reflectlite.TypeOf", "(internal/reflectlite.Value).Elem", "(internal/reflectlite.Value).Set"], unfollowed := true, recurses := true, named := ["errors.errorType"], apart := false, laid := [("errors.errorType", laid_errors_errorType)], narrowed := true }
def KernBuffersUptoSaid : Prop := kernBuffersUptoRow.holds Tryz.pinned (OpenSpec.upto kernBuffersSpec)

/-- 'messuagelaw16.KernState', WHERE WHAT IT READS IS OF BULK AT MOST 1048576: true; the input reads as it did. -/
def kernStateUptoRow : OpenClaim := { program := "ytemoifebbhoinaagreatdoor", sum := "88dd21338c0f6ecfa6d4a3be43ff401d8d62fc3300192b6b954e7371b8f8bbbb", func := "messuage/messuagelaw16.KernState", spec := "kernState", inPlace := ["slices.overlaps[uint64]", "internal/reflectlite.ValueOf", "(internal/reflectlite.Value).Type", "(internal/reflectlite.Value).IsNil", "internal/reflectlite.TypeOf", "(internal/reflectlite.Value).Elem", "(internal/reflectlite.Value).Set"], unfollowed := true, recurses := true, named := ["errors.errorType"], apart := false, laid := [("errors.errorType", laid_errors_errorType)], narrowed := true }
def KernStateUptoSaid : Prop := kernStateUptoRow.holds Tryz.pinned (OpenSpec.upto kernStateSpec)

/-- 'messuagelaw16.KernFresh', WHERE WHAT IT READS IS OF BULK AT MOST 1048576: true; the input reads as it did. -/
def kernFreshUptoRow : OpenClaim := { program := "ytemoifebbhoinaagreatdoor", sum := "88dd21338c0f6ecfa6d4a3be43ff401d8d62fc3300192b6b954e7371b8f8bbbb", func := "messuage/messuagelaw16.KernFresh", spec := "kernFresh", inPlace := ["slices.overlaps[uint64]", "internal/reflectlite.ValueOf", "(internal/reflectlite.Value).Type", "(internal/reflectlite.Value).IsNil", "internal/reflectlite.TypeOf", "(internal/reflectlite.Value).Elem", "(internal/reflectlite.Value).Set"], unfollowed := true, recurses := true, named := ["errors.errorType"], apart := false, laid := [("errors.errorType", laid_errors_errorType)], narrowed := true }
def KernFreshUptoSaid : Prop := kernFreshUptoRow.holds Tryz.pinned (OpenSpec.upto kernFreshSpec)

/-- 'messuagelaw16.HistReal', WHERE WHAT IT READS IS OF BULK AT MOST 1048576: true; the input reads as it did. -/
def histRealUptoRow : OpenClaim := { program := "ytemoifebbhoinaagreatdoor", sum := "88dd21338c0f6ecfa6d4a3be43ff401d8d62fc3300192b6b954e7371b8f8bbbb", func := "messuage/messuagelaw16.HistReal", spec := "histReal", inPlace := ["slices.overlaps[uint64]", "internal/reflectlite.ValueOf", "(internal/reflectlite.Value).Type", "(internal/reflectlite.Value).IsNil", "internal/reflectlite.TypeOf", "(internal/reflectlite.Value).Elem", "(internal/reflectlite.Value).Set"], unfollowed := true, recurses := true, named := ["errors.errorType"], apart := false, laid := [("errors.errorType", laid_errors_errorType)], narrowed := true }
def HistRealUptoSaid : Prop := histRealUptoRow.holds Tryz.pinned (OpenSpec.upto histRealSpec)

/-- 'messuagelaw16.ShootUnmap', WHERE WHAT IT READS IS OF BULK AT MOST 1048576: true; the input reads as it did. -/
def shootUnmapUptoRow : OpenClaim := { program := "ytemoifebbhoinaagreatdoor", sum := "88dd21338c0f6ecfa6d4a3be43ff401d8d62fc3300192b6b954e7371b8f8bbbb", func := "messuage/messuagelaw16.ShootUnmap", spec := "shootUnmap", inPlace := ["slices.overlaps[uint64]", "internal/reflectlite.ValueOf", "(internal/reflectlite.Value).Type", "(internal/reflectlite.Value).IsNil", "internal/reflectlite.TypeOf", "(internal/reflectlite.Value).Elem", "(internal/reflectlite.Value).Set"], unfollowed := true, recurses := true, named := ["errors.errorType"], apart := false, laid := [("errors.errorType", laid_errors_errorType)], narrowed := true }
def ShootUnmapUptoSaid : Prop := shootUnmapUptoRow.holds Tryz.pinned (OpenSpec.upto shootUnmapSpec)

end Rows
end Go.Proofs.YtemoifebbhoinaaGreatDoor
