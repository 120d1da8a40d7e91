/-
  The names of package api stand for the document's numbers: the law's two lists of 55 numbers are walked side by side, and no pair of them differs. No condition.
-/
import Derived.Test.YthpacekfjgjajaaRows
import Derived.WalkKit
import Derived.ProofKit
import Derived.OpenShut
import Derived.Deep.QuietTactic
import Derived.BigQuiet
namespace Go.Proofs.Ythpacekfjgjajaa.names
open Go.ChangeShapes Go.WideShapes Go.ChangeAt Go.RowKit
set_option linter.unusedVariables false

theorem own : ownKnob Try.prog.godebug = none := by kernel_rfl

def tb : List Int := [0, 1, 2, 3, 4, 5, 6, 7, 8, 9, 10, 11, 8, 4, 8, 8, 16, 16, 7, 4, 2, 1000, 4000, 1, 2, 1, 2, 3, 4, 5, 6, 7, 8, 9, 10, 20, 21, 22, 23, 1, 2, 3, 4, 1, 2, 3, 4, 1, 2, 3, 4, 5, 6, 7, 8]
def row : Obj := .cells ((tb.map (Value.int .i64)).toArray) 3
theorem row_cell (w : World) (b k : Nat) (hb : w.heap[b]? = some row) (hk : k < 55) : w.cell? ⟨b, k, none⟩ = some (.int .i64 (tb.getD k 0)) := by
  have h : k < tb.length := hk
  simp [World.cell?, hb, row, List.getD, List.getElem?_map, List.getElem?_eq_getElem h]
theorem one (w : World) (o : Obj) : (w.alloc o).heap[w.heap.size]? = some o := by
  show (w.heap.push o)[w.heap.size]? = some o
  simp
theorem keep (w : World) (o p : Obj) (b : Nat) (h : w.heap[b]? = some p) : (w.alloc o).heap[b]? = some p := by
  show (w.heap.push o)[b]? = some p
  obtain ⟨hb, _⟩ := Array.getElem?_eq_some_iff.1 h
  rw [Array.getElem?_push]
  rw [if_neg (by omega)]
  exact h
theorem size (w : World) (o : Obj) : (w.alloc o).heap.size = w.heap.size + 1 := by
  show (w.heap.push o).size = _
  simp
theorem two (w : World) : ((w.alloc row).alloc row).heap[w.heap.size]? = some row ∧ ((w.alloc row).alloc row).heap[w.heap.size + 1]? = some row := by
  refine ⟨keep _ _ _ _ (one w row), ?_⟩
  have h := one (w.alloc row) row
  rw [size] at h
  exact h
set_option maxHeartbeats 400000 in
theorem walk  (w : World) :
    Calls Try.prog 3 #[] w fun e w' => e = .returned (.bool true) ∧ Grown w w' := by
  go_enter Try.func3, Try.ntmps3
  go_wp2
  change Code.wp _ _ _ _ ((w.alloc row).alloc row)
  have h1 := fun k => row_cell ((w.alloc row).alloc row) w.heap.size k (two w).1
  have h2 := fun k => row_cell ((w.alloc row).alloc row) (w.heap.size + 1) k (two w).2
  have hg : Grown w ((w.alloc row).alloc row) := Grown.alloc (Grown.alloc (Grown.refl w) _ 3) _ 3
  generalize (w.alloc row).alloc row = W at *
  go_loopw [3] (fun i wr => ∃ k n : Nat, k ≤ 55 ∧ i = .int .i64 k ∧ wr = W.drewN n) (fun i _ => 55 - (intOf i).toNat)
  case atStart => exact ⟨0, 0, by omega, rfl, rfl⟩
  case round =>
    obtain ⟨k, n, hk, rfl, rfl⟩ := hrel
    by_cases hlt : k < 55
    · have c1 := h1 k hlt
      have c2 := h2 k hlt
      clear h1 h2
      go_wp2
      go_quiet (fail)
      go_wp2
      exact ⟨⟨k + 1, n + nq, by omega, by go_num, rfl⟩, by simp [intOf]; omega⟩
    · clear h1 h2
      go_wp2
      go_ret
      exact ⟨rfl, hg⟩

/-! ### THE ROW's STEP: WRITTEN OUT: LEAVE IT -/
set_option maxRecDepth 100000 in
theorem lifted (os : Os) (started : os.Started) (H : Type) (enc : TypeId × Value → H) :
    ReturnsInHanded {} Try.checked os 3 .any (Rows.namesSpec.pre6 enc Try.prog Try.f3 Rows.namesRow.domain false) (Rows.namesSpec.post enc Try.prog Try.f3 false true false false) := by
  refine returnsInHanded_of_change (C := Try.checked) own started (by kernel_rfl) Try.func3
    (ChangeSpec.witness6 (enc := enc) (C := Try.checked) false ⟨#[], #[], []⟩ 8 (by kernel_rfl) (by kernel_rfl) (by kernel_rfl) (by kernel_rfl)) ?_
  intro W base args ds gs before hval0 hW hcnd _
  have hval : ∀ (j : Nat) t v, Try.f3.params[j]? = some t → args[j]? = some v → Value.okWide Try.prog W .any base t v := hval0
  have hW' := hW
  obtain ⟨p, q, hA0, hV, rfl, hfz, hnd⟩ := hW
  have hA : DataW.TrodAll enc Try.prog W 0 (fun _ => true) true Try.f3.params.toList args.toList ds p := hA0
  rw [Try.params3] at hA hval
  obtain ⟨rfl, rfl, rfl⟩ := trodAll_none hA
  obtain ⟨rfl, rfl⟩ := trodVars_none hV
  clear hA0 hval0
  simp only [List.append_nil] at hW'
  refine (walk  W).mono fun e W' ⟨he, hg⟩ => ?_
  subst he
  exact ⟨_, rfl, post_of_same (pa := []) (pv := []) hW' (fun _ _ _ => (trodAll_cons_mk (shut_bool Try.underlying4 _) trodAll_mk0)) (fun sp _ => rfl) (fun _ _ => rfl) rfl
    (hg.frame _) hg.2.1 (ok_one (by kernel_rfl) rfl (okWide_bool_mk Try.underlying4 _))⟩

theorem over : Rows.namesRow.holds Try.pinned (OpenSpec.ofChange Rows.namesSpec) :=
  OpenClaim.holds_of_wide 3 Try.f3 rfl rfl rfl rfl rfl rfl rfl ⟨rfl, rfl, rfl, rfl, rfl⟩ rfl rfl rfl rfl rfl (by kernel_rfl) Try.func3 (by kernel_rfl)
    (of_decide_eq_true (by kernel_rfl)) (by unfold Func.isWrapper; first | (rw [if_pos (by decide +kernel)]; kernel_rfl) | (rw [if_neg (by decide +kernel)]; exact ⟨rfl, rfl⟩))
    (fun os started H enc _ => lifted os started H enc)

/-- ████ THE STATEMENT ████ -/
theorem proved : Rows.NamesSaid :=
  over
#print axioms proved
end Go.Proofs.Ythpacekfjgjajaa.names
