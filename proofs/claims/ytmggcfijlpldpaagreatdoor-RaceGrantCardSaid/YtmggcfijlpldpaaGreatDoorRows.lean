/-
  NARROWER THAN 'FOR EVERY INPUT', by the rows' own cells (each row's printed sentence says how): ShootProtect: laid · ShootRevoke: laid · RaceAlloc: laid · RaceGrant: laid · RaceAdd: laid · KernEnds: laid · KernFree: laid · TwinSelf: laid · HistTurn: laid · KernLinear: laid · KernBad: laid.
  DERIVED. THE GIVEN ROWS OF THIS SEAT. 11 by the template 'for every input the law returns true; each argument reads behind the call as it read before'; 0 by the template 'total and deterministic' (their statements: YtmggcfijlpldpaaGreatDoorTotals.lean).
  GIVEN WITH THE SEED: the statements are not yours to turn. If you find one false, say at which input.
  Laid BY PROGRAM, IN A SANDBOX (cutbox-rows.mjs): the forced cells as the released guide's own fill.sh prints them over the translation aa4947736c391dde… (all of the seat's roots in one cut). By AI agents, Wed Nov 11 2026. No macro, syntax, notation, axiom, sorry.
-/
import Derived.Test.YtmggcfijlpldpaaGreatDoorChecked
import GoSem.Claim
import GoSem.ClaimJoined
import GoSem.ClaimMapViews
import Derived.JoinedTies
import Derived.KernelRfl
namespace Go.Proofs.YtmggcfijlpldpaaGreatDoor
/- THE CELL 'sum', in the pinned program and in every row, IS THE sha256 OF THE DUMP (.gsa) THAT YtmggcfijlpldpaaGreatDoorProg.lean LOADS. Nothing in Lean hashes anything: it is a label: what it is worth is what the hold of that sum in a sandbox is worth. -/
noncomputable def Tryz.pinned : Pinned := { name := "ytmggcfijlpldpaagreatdoor", sum := "aa4947736c391dde7716b431f948f808b74170e53fed8b021502facb62d27041", checked := Tryz.checked }
namespace Rows
def none {H : Type} : Left H := { results := [], args := [] }

/- WHAT THE LISTED PACKAGE-LEVEL VARIABLES READ AS WHEN THE CALL BEGINS. Each datum BY PROGRAM (the guide's laid-datum.mjs) off the statement by which the dump's own 'gosem.cut.vars' lays the variable. In a bare row this is a premise. The card (YtmggcfijlpldpaaGreatDoorCards.lean) ties it to the program's text. -/
def laid_errors_errorType {H : Type} : DataW H := .iface "internal/reflectlite.rtype" (.agg [.ptr (.lit (.string [101, 114, 114, 111, 114]))])

/-- 'messuagelaw16.ShootProtect': WHATEVER THE INPUT: true; the input reads as it did. -/
def shootProtectSpec : ChangeSpec := { name := "shootProtect", fn := fun _ => fun
  | [d1, d2, d3] => { results := [.lit (.bool true)], args := [d1, d2, d3] }
  | _ => none }
def shootProtectRow : OpenClaim := { program := "ytmggcfijlpldpaagreatdoor", sum := "aa4947736c391dde7716b431f948f808b74170e53fed8b021502facb62d27041", func := "messuage/messuagelaw16.ShootProtect", spec := "shootProtect", inPlace := ["slices.overlaps[uint64]", "internal/reflectlite.ValueOf", "(internal/reflectlite.Value).Type", "(internal/reflectlite.Value).IsNil", "internal/reflectlite.TypeOf", "(internal/reflectlite.Value).Elem", "(internal/reflectlite.Value).Set"], unfollowed := true, recurses := true, named := ["errors.errorType"], apart := false, laid := [("errors.errorType", laid_errors_errorType)] }
def ShootProtectSaid : Prop := shootProtectRow.holds Tryz.pinned (OpenSpec.ofChange shootProtectSpec)

/-- ITS FALSE NEIGHBOUR: 'it returns false'. Refute it at one input. -/
def shootProtectWrong : ChangeSpec := { name := "shootProtect", fn := fun _ => fun
  | [d1, d2, d3] => { results := [.lit (.bool false)], args := [d1, d2, d3] }
  | _ => none }
def ShootProtectWrongFalsely : Prop := shootProtectRow.holds Tryz.pinned (OpenSpec.ofChange shootProtectWrong)

/-- 'messuagelaw16.ShootRevoke': WHATEVER THE INPUT: true; the input reads as it did. -/
def shootRevokeSpec : ChangeSpec := { name := "shootRevoke", fn := fun _ => fun
  | [d1, d2, d3] => { results := [.lit (.bool true)], args := [d1, d2, d3] }
  | _ => none }
def shootRevokeRow : OpenClaim := { program := "ytmggcfijlpldpaagreatdoor", sum := "aa4947736c391dde7716b431f948f808b74170e53fed8b021502facb62d27041", func := "messuage/messuagelaw16.ShootRevoke", spec := "shootRevoke", inPlace := ["slices.overlaps[uint64]", "internal/reflectlite.ValueOf", "(internal/reflectlite.Value).Type", "(internal/reflectlite.Value).IsNil", "internal/reflectlite.TypeOf", "(internal/reflectlite.Value).Elem", "(internal/reflectlite.Value).Set"], unfollowed := true, recurses := true, named := ["errors.errorType"], apart := false, laid := [("errors.errorType", laid_errors_errorType)] }
def ShootRevokeSaid : Prop := shootRevokeRow.holds Tryz.pinned (OpenSpec.ofChange shootRevokeSpec)

/-- ITS FALSE NEIGHBOUR: 'it returns false'. Refute it at one input. -/
def shootRevokeWrong : ChangeSpec := { name := "shootRevoke", fn := fun _ => fun
  | [d1, d2, d3] => { results := [.lit (.bool false)], args := [d1, d2, d3] }
  | _ => none }
def ShootRevokeWrongFalsely : Prop := shootRevokeRow.holds Tryz.pinned (OpenSpec.ofChange shootRevokeWrong)

/-- 'messuagelaw16.RaceAlloc': WHATEVER THE INPUT: true; the input reads as it did. -/
def raceAllocSpec : ChangeSpec := { name := "raceAlloc", fn := fun _ => fun
  | [d1, d2, d3] => { results := [.lit (.bool true)], args := [d1, d2, d3] }
  | _ => none }
def raceAllocRow : OpenClaim := { program := "ytmggcfijlpldpaagreatdoor", sum := "aa4947736c391dde7716b431f948f808b74170e53fed8b021502facb62d27041", func := "messuage/messuagelaw16.RaceAlloc", spec := "raceAlloc", inPlace := ["slices.overlaps[uint64]", "internal/reflectlite.ValueOf", "(internal/reflectlite.Value).Type", "(internal/reflectlite.Value).IsNil", "internal/reflectlite.TypeOf", "(internal/reflectlite.Value).Elem", "(internal/reflectlite.Value).Set"], unfollowed := true, recurses := true, named := ["errors.errorType"], apart := false, laid := [("errors.errorType", laid_errors_errorType)] }
def RaceAllocSaid : Prop := raceAllocRow.holds Tryz.pinned (OpenSpec.ofChange raceAllocSpec)

/-- ITS FALSE NEIGHBOUR: 'it returns false'. Refute it at one input. -/
def raceAllocWrong : ChangeSpec := { name := "raceAlloc", fn := fun _ => fun
  | [d1, d2, d3] => { results := [.lit (.bool false)], args := [d1, d2, d3] }
  | _ => none }
def RaceAllocWrongFalsely : Prop := raceAllocRow.holds Tryz.pinned (OpenSpec.ofChange raceAllocWrong)

/-- 'messuagelaw16.RaceGrant': WHATEVER THE INPUT: true; the input reads as it did. -/
def raceGrantSpec : ChangeSpec := { name := "raceGrant", fn := fun _ => fun
  | [d1, d2] => { results := [.lit (.bool true)], args := [d1, d2] }
  | _ => none }
def raceGrantRow : OpenClaim := { program := "ytmggcfijlpldpaagreatdoor", sum := "aa4947736c391dde7716b431f948f808b74170e53fed8b021502facb62d27041", func := "messuage/messuagelaw16.RaceGrant", spec := "raceGrant", inPlace := ["slices.overlaps[uint64]", "internal/reflectlite.ValueOf", "(internal/reflectlite.Value).Type", "(internal/reflectlite.Value).IsNil", "internal/reflectlite.TypeOf", "(internal/reflectlite.Value).Elem", "(internal/reflectlite.Value).Set"], unfollowed := true, recurses := true, named := ["errors.errorType"], apart := false, laid := [("errors.errorType", laid_errors_errorType)] }
def RaceGrantSaid : Prop := raceGrantRow.holds Tryz.pinned (OpenSpec.ofChange raceGrantSpec)

/-- ITS FALSE NEIGHBOUR: 'it returns false'. Refute it at one input. -/
def raceGrantWrong : ChangeSpec := { name := "raceGrant", fn := fun _ => fun
  | [d1, d2] => { results := [.lit (.bool false)], args := [d1, d2] }
  | _ => none }
def RaceGrantWrongFalsely : Prop := raceGrantRow.holds Tryz.pinned (OpenSpec.ofChange raceGrantWrong)

/-- 'messuagelaw16.RaceAdd': WHATEVER THE INPUT: true; the input reads as it did. -/
def raceAddSpec : ChangeSpec := { name := "raceAdd", fn := fun _ => fun
  | [d1, d2, d3] => { results := [.lit (.bool true)], args := [d1, d2, d3] }
  | _ => none }
def raceAddRow : OpenClaim := { program := "ytmggcfijlpldpaagreatdoor", sum := "aa4947736c391dde7716b431f948f808b74170e53fed8b021502facb62d27041", func := "messuage/messuagelaw16.RaceAdd", spec := "raceAdd", inPlace := ["slices.overlaps[uint64]", "internal/reflectlite.ValueOf", "(internal/reflectlite.Value).Type", "(internal/reflectlite.Value).IsNil", "internal/reflectlite.TypeOf", "(internal/reflectlite.Value).Elem", "(internal/reflectlite.Value).Set"], unfollowed := true, recurses := true, named := ["errors.errorType"], apart := false, laid := [("errors.errorType", laid_errors_errorType)] }
def RaceAddSaid : Prop := raceAddRow.holds Tryz.pinned (OpenSpec.ofChange raceAddSpec)

/-- ITS FALSE NEIGHBOUR: 'it returns false'. Refute it at one input. -/
def raceAddWrong : ChangeSpec := { name := "raceAdd", fn := fun _ => fun
  | [d1, d2, d3] => { results := [.lit (.bool false)], args := [d1, d2, d3] }
  | _ => none }
def RaceAddWrongFalsely : Prop := raceAddRow.holds Tryz.pinned (OpenSpec.ofChange raceAddWrong)

/-- 'messuagelaw16.KernEnds': WHATEVER THE INPUT: true; the input reads as it did. -/
def kernEndsSpec : ChangeSpec := { name := "kernEnds", fn := fun _ => fun
  | [d1, d2] => { results := [.lit (.bool true)], args := [d1, d2] }
  | _ => none }
def kernEndsRow : OpenClaim := { program := "ytmggcfijlpldpaagreatdoor", sum := "aa4947736c391dde7716b431f948f808b74170e53fed8b021502facb62d27041", func := "messuage/messuagelaw16.KernEnds", spec := "kernEnds", inPlace := ["slices.overlaps[uint64]", "internal/reflectlite.ValueOf", "(internal/reflectlite.Value).Type", "(internal/reflectlite.Value).IsNil", "internal/reflectlite.TypeOf", "(internal/reflectlite.Value).Elem", "(internal/reflectlite.Value).Set"], unfollowed := true, recurses := true, named := ["errors.errorType"], apart := false, laid := [("errors.errorType", laid_errors_errorType)] }
def KernEndsSaid : Prop := kernEndsRow.holds Tryz.pinned (OpenSpec.ofChange kernEndsSpec)

/-- ITS FALSE NEIGHBOUR: 'it returns false'. Refute it at one input. -/
def kernEndsWrong : ChangeSpec := { name := "kernEnds", fn := fun _ => fun
  | [d1, d2] => { results := [.lit (.bool false)], args := [d1, d2] }
  | _ => none }
def KernEndsWrongFalsely : Prop := kernEndsRow.holds Tryz.pinned (OpenSpec.ofChange kernEndsWrong)

/-- 'messuagelaw16.KernFree': WHATEVER THE INPUT: true; the input reads as it did. -/
def kernFreeSpec : ChangeSpec := { name := "kernFree", fn := fun _ => fun
  | [d1, d2, d3, d4, d5] => { results := [.lit (.bool true)], args := [d1, d2, d3, d4, d5] }
  | _ => none }
def kernFreeRow : OpenClaim := { program := "ytmggcfijlpldpaagreatdoor", sum := "aa4947736c391dde7716b431f948f808b74170e53fed8b021502facb62d27041", func := "messuage/messuagelaw16.KernFree", spec := "kernFree", inPlace := ["slices.overlaps[uint64]", "internal/reflectlite.ValueOf", "(internal/reflectlite.Value).Type", "(internal/reflectlite.Value).IsNil", "internal/reflectlite.TypeOf", "(internal/reflectlite.Value).Elem", "(internal/reflectlite.Value).Set"], unfollowed := true, recurses := true, named := ["errors.errorType"], apart := false, laid := [("errors.errorType", laid_errors_errorType)] }
def KernFreeSaid : Prop := kernFreeRow.holds Tryz.pinned (OpenSpec.ofChange kernFreeSpec)

/-- ITS FALSE NEIGHBOUR: 'it returns false'. Refute it at one input. -/
def kernFreeWrong : ChangeSpec := { name := "kernFree", fn := fun _ => fun
  | [d1, d2, d3, d4, d5] => { results := [.lit (.bool false)], args := [d1, d2, d3, d4, d5] }
  | _ => none }
def KernFreeWrongFalsely : Prop := kernFreeRow.holds Tryz.pinned (OpenSpec.ofChange kernFreeWrong)

/-- 'messuagelaw16.TwinSelf': WHATEVER THE INPUT: true; the input reads as it did. -/
def twinSelfSpec : ChangeSpec := { name := "twinSelf", fn := fun _ => fun
  | [d1, d2, d3] => { results := [.lit (.bool true)], args := [d1, d2, d3] }
  | _ => none }
def twinSelfRow : OpenClaim := { program := "ytmggcfijlpldpaagreatdoor", sum := "aa4947736c391dde7716b431f948f808b74170e53fed8b021502facb62d27041", func := "messuage/messuagelaw16.TwinSelf", spec := "twinSelf", inPlace := ["slices.overlaps[uint64]", "internal/reflectlite.ValueOf", "(internal/reflectlite.Value).Type", "(internal/reflectlite.Value).IsNil", "internal/reflectlite.TypeOf", "(internal/reflectlite.Value).Elem", "(internal/reflectlite.Value).Set"], unfollowed := true, recurses := true, named := ["errors.errorType"], apart := false, laid := [("errors.errorType", laid_errors_errorType)] }
def TwinSelfSaid : Prop := twinSelfRow.holds Tryz.pinned (OpenSpec.ofChange twinSelfSpec)

/-- ITS FALSE NEIGHBOUR: 'it returns false'. Refute it at one input. -/
def twinSelfWrong : ChangeSpec := { name := "twinSelf", fn := fun _ => fun
  | [d1, d2, d3] => { results := [.lit (.bool false)], args := [d1, d2, d3] }
  | _ => none }
def TwinSelfWrongFalsely : Prop := twinSelfRow.holds Tryz.pinned (OpenSpec.ofChange twinSelfWrong)

/-- 'messuagelaw16.HistTurn': WHATEVER THE INPUT: true; the input reads as it did. -/
def histTurnSpec : ChangeSpec := { name := "histTurn", fn := fun _ => fun
  | [d1, d2, d3, d4, d5] => { results := [.lit (.bool true)], args := [d1, d2, d3, d4, d5] }
  | _ => none }
def histTurnRow : OpenClaim := { program := "ytmggcfijlpldpaagreatdoor", sum := "aa4947736c391dde7716b431f948f808b74170e53fed8b021502facb62d27041", func := "messuage/messuagelaw16.HistTurn", spec := "histTurn", inPlace := ["slices.overlaps[uint64]", "internal/reflectlite.ValueOf", "(internal/reflectlite.Value).Type", "(internal/reflectlite.Value).IsNil", "internal/reflectlite.TypeOf", "(internal/reflectlite.Value).Elem", "(internal/reflectlite.Value).Set"], unfollowed := true, recurses := true, named := ["errors.errorType"], apart := false, laid := [("errors.errorType", laid_errors_errorType)] }
def HistTurnSaid : Prop := histTurnRow.holds Tryz.pinned (OpenSpec.ofChange histTurnSpec)

/-- ITS FALSE NEIGHBOUR: 'it returns false'. Refute it at one input. -/
def histTurnWrong : ChangeSpec := { name := "histTurn", fn := fun _ => fun
  | [d1, d2, d3, d4, d5] => { results := [.lit (.bool false)], args := [d1, d2, d3, d4, d5] }
  | _ => none }
def HistTurnWrongFalsely : Prop := histTurnRow.holds Tryz.pinned (OpenSpec.ofChange histTurnWrong)

/-- 'messuagelaw16.KernLinear': WHATEVER THE INPUT: true; the input reads as it did. -/
def kernLinearSpec : ChangeSpec := { name := "kernLinear", fn := fun _ => fun
  | [d1, d2] => { results := [.lit (.bool true)], args := [d1, d2] }
  | _ => none }
def kernLinearRow : OpenClaim := { program := "ytmggcfijlpldpaagreatdoor", sum := "aa4947736c391dde7716b431f948f808b74170e53fed8b021502facb62d27041", func := "messuage/messuagelaw16.KernLinear", spec := "kernLinear", inPlace := ["slices.overlaps[uint64]", "internal/reflectlite.ValueOf", "(internal/reflectlite.Value).Type", "(internal/reflectlite.Value).IsNil", "internal/reflectlite.TypeOf", "(internal/reflectlite.Value).Elem", "(internal/reflectlite.Value).Set"], unfollowed := true, recurses := true, named := ["errors.errorType"], apart := false, laid := [("errors.errorType", laid_errors_errorType)] }
def KernLinearSaid : Prop := kernLinearRow.holds Tryz.pinned (OpenSpec.ofChange kernLinearSpec)

/-- ITS FALSE NEIGHBOUR: 'it returns false'. Refute it at one input. -/
def kernLinearWrong : ChangeSpec := { name := "kernLinear", fn := fun _ => fun
  | [d1, d2] => { results := [.lit (.bool false)], args := [d1, d2] }
  | _ => none }
def KernLinearWrongFalsely : Prop := kernLinearRow.holds Tryz.pinned (OpenSpec.ofChange kernLinearWrong)

/-- 'messuagelaw16.KernBad': WHATEVER THE INPUT: true; the input reads as it did. -/
def kernBadSpec : ChangeSpec := { name := "kernBad", fn := fun _ => fun
  | [d1, d2, d3] => { results := [.lit (.bool true)], args := [d1, d2, d3] }
  | _ => none }
def kernBadRow : OpenClaim := { program := "ytmggcfijlpldpaagreatdoor", sum := "aa4947736c391dde7716b431f948f808b74170e53fed8b021502facb62d27041", func := "messuage/messuagelaw16.KernBad", spec := "kernBad", inPlace := ["slices.overlaps[uint64]", "internal/reflectlite.ValueOf", "(internal/reflectlite.Value).Type", "(internal/reflectlite.Value).IsNil", "internal/reflectlite.TypeOf", "(internal/reflectlite.Value).Elem", "(internal/reflectlite.Value).Set"], unfollowed := true, recurses := true, named := ["errors.errorType"], apart := false, laid := [("errors.errorType", laid_errors_errorType)] }
def KernBadSaid : Prop := kernBadRow.holds Tryz.pinned (OpenSpec.ofChange kernBadSpec)

/-- ITS FALSE NEIGHBOUR: 'it returns false'. Refute it at one input. -/
def kernBadWrong : ChangeSpec := { name := "kernBad", fn := fun _ => fun
  | [d1, d2, d3] => { results := [.lit (.bool false)], args := [d1, d2, d3] }
  | _ => none }
def KernBadWrongFalsely : Prop := kernBadRow.holds Tryz.pinned (OpenSpec.ofChange kernBadWrong)

/- THE SECOND FORM. 'bulk': how many values and letters a reading holds, each counted each time it is reached (what is shared counts as often as it is met; a slice's spare places count too). A statement '..UptoSaid' is the law's where the arguments, and the package variables that the reading takes, are together of bulk at most 1048576: NARROWER than '..Said'. Prove '..Said' where nothing that the law and all that it calls make is longer than what came in: it says more and counts as full. Else prove '..UptoSaid'. A law counts once. -/
mutual
def uptoBulk {H : Type} : DataW H → Nat
  | .lit (.string bytes) => bytes.length + 1
  | .lit _ => 1
  | .nil => 1
  | .ptr d => uptoBulk d + 1
  | .slice elems spare => uptoBulkAll elems + uptoBulkAll spare + 1
  | .agg parts => uptoBulkAll parts + 1
  | .iface _ d => uptoBulk d + 1
  | .map entries => uptoBulkEntries entries + 1
  | .held _ => 1
def uptoBulkAll {H : Type} : List (DataW H) → Nat
  | [] => 0
  | d :: r => uptoBulk d + uptoBulkAll r
def uptoBulkEntries {H : Type} : List (Lit × DataW H) → Nat
  | [] => 0
  | x :: r => uptoBulkEntry x + uptoBulkEntries r
def uptoBulkEntry {H : Type} : Lit × DataW H → Nat
  | (.string bytes, d) => bytes.length + uptoBulk d + 1
  | (_, d) => uptoBulk d + 1
 end
def uptoSmall : (H : Type) → List (DataW H) → Bool := fun _ ds => decide (uptoBulkAll ds ≤ 1048576)
def OpenSpec.upto (s : _root_.Go.ChangeSpec) : _root_.Go.OpenSpec := { _root_.Go.OpenSpec.ofChange s with cond := some uptoSmall }

/-- 'messuagelaw16.ShootProtect', WHERE WHAT IT READS IS OF BULK AT MOST 1048576: true; the input reads as it did. -/
def shootProtectUptoRow : OpenClaim := { program := "ytmggcfijlpldpaagreatdoor", sum := "aa4947736c391dde7716b431f948f808b74170e53fed8b021502facb62d27041", func := "messuage/messuagelaw16.ShootProtect", spec := "shootProtect", inPlace := ["slices.overlaps[uint64]", "internal/reflectlite.ValueOf", "(internal/reflectlite.Value).Type", "(internal/reflectlite.Value).IsNil", "internal/reflectlite.TypeOf", "(internal/reflectlite.Value).Elem", "(internal/reflectlite.Value).Set"], unfollowed := true, recurses := true, named := ["errors.errorType"], apart := false, laid := [("errors.errorType", laid_errors_errorType)], narrowed := true }
def ShootProtectUptoSaid : Prop := shootProtectUptoRow.holds Tryz.pinned (OpenSpec.upto shootProtectSpec)

/-- 'messuagelaw16.ShootRevoke', WHERE WHAT IT READS IS OF BULK AT MOST 1048576: true; the input reads as it did. -/
def shootRevokeUptoRow : OpenClaim := { program := "ytmggcfijlpldpaagreatdoor", sum := "aa4947736c391dde7716b431f948f808b74170e53fed8b021502facb62d27041", func := "messuage/messuagelaw16.ShootRevoke", spec := "shootRevoke", inPlace := ["slices.overlaps[uint64]", "internal/reflectlite.ValueOf", "(internal/reflectlite.Value).Type", "(internal/reflectlite.Value).IsNil", "internal/reflectlite.TypeOf", "(internal/reflectlite.Value).Elem", "(internal/reflectlite.Value).Set"], unfollowed := true, recurses := true, named := ["errors.errorType"], apart := false, laid := [("errors.errorType", laid_errors_errorType)], narrowed := true }
def ShootRevokeUptoSaid : Prop := shootRevokeUptoRow.holds Tryz.pinned (OpenSpec.upto shootRevokeSpec)

/-- 'messuagelaw16.RaceAlloc', WHERE WHAT IT READS IS OF BULK AT MOST 1048576: true; the input reads as it did. -/
def raceAllocUptoRow : OpenClaim := { program := "ytmggcfijlpldpaagreatdoor", sum := "aa4947736c391dde7716b431f948f808b74170e53fed8b021502facb62d27041", func := "messuage/messuagelaw16.RaceAlloc", spec := "raceAlloc", inPlace := ["slices.overlaps[uint64]", "internal/reflectlite.ValueOf", "(internal/reflectlite.Value).Type", "(internal/reflectlite.Value).IsNil", "internal/reflectlite.TypeOf", "(internal/reflectlite.Value).Elem", "(internal/reflectlite.Value).Set"], unfollowed := true, recurses := true, named := ["errors.errorType"], apart := false, laid := [("errors.errorType", laid_errors_errorType)], narrowed := true }
def RaceAllocUptoSaid : Prop := raceAllocUptoRow.holds Tryz.pinned (OpenSpec.upto raceAllocSpec)

/-- 'messuagelaw16.RaceGrant', WHERE WHAT IT READS IS OF BULK AT MOST 1048576: true; the input reads as it did. -/
def raceGrantUptoRow : OpenClaim := { program := "ytmggcfijlpldpaagreatdoor", sum := "aa4947736c391dde7716b431f948f808b74170e53fed8b021502facb62d27041", func := "messuage/messuagelaw16.RaceGrant", spec := "raceGrant", inPlace := ["slices.overlaps[uint64]", "internal/reflectlite.ValueOf", "(internal/reflectlite.Value).Type", "(internal/reflectlite.Value).IsNil", "internal/reflectlite.TypeOf", "(internal/reflectlite.Value).Elem", "(internal/reflectlite.Value).Set"], unfollowed := true, recurses := true, named := ["errors.errorType"], apart := false, laid := [("errors.errorType", laid_errors_errorType)], narrowed := true }
def RaceGrantUptoSaid : Prop := raceGrantUptoRow.holds Tryz.pinned (OpenSpec.upto raceGrantSpec)

/-- 'messuagelaw16.RaceAdd', WHERE WHAT IT READS IS OF BULK AT MOST 1048576: true; the input reads as it did. -/
def raceAddUptoRow : OpenClaim := { program := "ytmggcfijlpldpaagreatdoor", sum := "aa4947736c391dde7716b431f948f808b74170e53fed8b021502facb62d27041", func := "messuage/messuagelaw16.RaceAdd", spec := "raceAdd", inPlace := ["slices.overlaps[uint64]", "internal/reflectlite.ValueOf", "(internal/reflectlite.Value).Type", "(internal/reflectlite.Value).IsNil", "internal/reflectlite.TypeOf", "(internal/reflectlite.Value).Elem", "(internal/reflectlite.Value).Set"], unfollowed := true, recurses := true, named := ["errors.errorType"], apart := false, laid := [("errors.errorType", laid_errors_errorType)], narrowed := true }
def RaceAddUptoSaid : Prop := raceAddUptoRow.holds Tryz.pinned (OpenSpec.upto raceAddSpec)

/-- 'messuagelaw16.KernEnds', WHERE WHAT IT READS IS OF BULK AT MOST 1048576: true; the input reads as it did. -/
def kernEndsUptoRow : OpenClaim := { program := "ytmggcfijlpldpaagreatdoor", sum := "aa4947736c391dde7716b431f948f808b74170e53fed8b021502facb62d27041", func := "messuage/messuagelaw16.KernEnds", spec := "kernEnds", inPlace := ["slices.overlaps[uint64]", "internal/reflectlite.ValueOf", "(internal/reflectlite.Value).Type", "(internal/reflectlite.Value).IsNil", "internal/reflectlite.TypeOf", "(internal/reflectlite.Value).Elem", "(internal/reflectlite.Value).Set"], unfollowed := true, recurses := true, named := ["errors.errorType"], apart := false, laid := [("errors.errorType", laid_errors_errorType)], narrowed := true }
def KernEndsUptoSaid : Prop := kernEndsUptoRow.holds Tryz.pinned (OpenSpec.upto kernEndsSpec)

/-- 'messuagelaw16.KernFree', WHERE WHAT IT READS IS OF BULK AT MOST 1048576: true; the input reads as it did. -/
def kernFreeUptoRow : OpenClaim := { program := "ytmggcfijlpldpaagreatdoor", sum := "aa4947736c391dde7716b431f948f808b74170e53fed8b021502facb62d27041", func := "messuage/messuagelaw16.KernFree", spec := "kernFree", inPlace := ["slices.overlaps[uint64]", "internal/reflectlite.ValueOf", "(internal/reflectlite.Value).Type", "(internal/reflectlite.Value).IsNil", "internal/reflectlite.TypeOf", "(internal/reflectlite.Value).Elem", "(internal/reflectlite.Value).Set"], unfollowed := true, recurses := true, named := ["errors.errorType"], apart := false, laid := [("errors.errorType", laid_errors_errorType)], narrowed := true }
def KernFreeUptoSaid : Prop := kernFreeUptoRow.holds Tryz.pinned (OpenSpec.upto kernFreeSpec)

/-- 'messuagelaw16.TwinSelf', WHERE WHAT IT READS IS OF BULK AT MOST 1048576: true; the input reads as it did. -/
def twinSelfUptoRow : OpenClaim := { program := "ytmggcfijlpldpaagreatdoor", sum := "aa4947736c391dde7716b431f948f808b74170e53fed8b021502facb62d27041", func := "messuage/messuagelaw16.TwinSelf", spec := "twinSelf", inPlace := ["slices.overlaps[uint64]", "internal/reflectlite.ValueOf", "(internal/reflectlite.Value).Type", "(internal/reflectlite.Value).IsNil", "internal/reflectlite.TypeOf", "(internal/reflectlite.Value).Elem", "(internal/reflectlite.Value).Set"], unfollowed := true, recurses := true, named := ["errors.errorType"], apart := false, laid := [("errors.errorType", laid_errors_errorType)], narrowed := true }
def TwinSelfUptoSaid : Prop := twinSelfUptoRow.holds Tryz.pinned (OpenSpec.upto twinSelfSpec)

/-- 'messuagelaw16.HistTurn', WHERE WHAT IT READS IS OF BULK AT MOST 1048576: true; the input reads as it did. -/
def histTurnUptoRow : OpenClaim := { program := "ytmggcfijlpldpaagreatdoor", sum := "aa4947736c391dde7716b431f948f808b74170e53fed8b021502facb62d27041", func := "messuage/messuagelaw16.HistTurn", spec := "histTurn", inPlace := ["slices.overlaps[uint64]", "internal/reflectlite.ValueOf", "(internal/reflectlite.Value).Type", "(internal/reflectlite.Value).IsNil", "internal/reflectlite.TypeOf", "(internal/reflectlite.Value).Elem", "(internal/reflectlite.Value).Set"], unfollowed := true, recurses := true, named := ["errors.errorType"], apart := false, laid := [("errors.errorType", laid_errors_errorType)], narrowed := true }
def HistTurnUptoSaid : Prop := histTurnUptoRow.holds Tryz.pinned (OpenSpec.upto histTurnSpec)

/-- 'messuagelaw16.KernLinear', WHERE WHAT IT READS IS OF BULK AT MOST 1048576: true; the input reads as it did. -/
def kernLinearUptoRow : OpenClaim := { program := "ytmggcfijlpldpaagreatdoor", sum := "aa4947736c391dde7716b431f948f808b74170e53fed8b021502facb62d27041", func := "messuage/messuagelaw16.KernLinear", spec := "kernLinear", inPlace := ["slices.overlaps[uint64]", "internal/reflectlite.ValueOf", "(internal/reflectlite.Value).Type", "(internal/reflectlite.Value).IsNil", "internal/reflectlite.TypeOf", "(internal/reflectlite.Value).Elem", "(internal/reflectlite.Value).Set"], unfollowed := true, recurses := true, named := ["errors.errorType"], apart := false, laid := [("errors.errorType", laid_errors_errorType)], narrowed := true }
def KernLinearUptoSaid : Prop := kernLinearUptoRow.holds Tryz.pinned (OpenSpec.upto kernLinearSpec)

/-- 'messuagelaw16.KernBad', WHERE WHAT IT READS IS OF BULK AT MOST 1048576: true; the input reads as it did. -/
def kernBadUptoRow : OpenClaim := { program := "ytmggcfijlpldpaagreatdoor", sum := "aa4947736c391dde7716b431f948f808b74170e53fed8b021502facb62d27041", func := "messuage/messuagelaw16.KernBad", spec := "kernBad", inPlace := ["slices.overlaps[uint64]", "internal/reflectlite.ValueOf", "(internal/reflectlite.Value).Type", "(internal/reflectlite.Value).IsNil", "internal/reflectlite.TypeOf", "(internal/reflectlite.Value).Elem", "(internal/reflectlite.Value).Set"], unfollowed := true, recurses := true, named := ["errors.errorType"], apart := false, laid := [("errors.errorType", laid_errors_errorType)], narrowed := true }
def KernBadUptoSaid : Prop := kernBadUptoRow.holds Tryz.pinned (OpenSpec.upto kernBadSpec)

end Rows
end Go.Proofs.YtmggcfijlpldpaaGreatDoor
