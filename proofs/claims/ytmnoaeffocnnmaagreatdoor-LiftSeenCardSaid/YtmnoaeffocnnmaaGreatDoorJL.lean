import Derived.Test.YtmnoaeffocnnmaaGreatDoorRows
import Derived.Test.YtmnoaeffocnnmaaGreatDoorProg
import Derived.WalkKit
import Derived.ProofKit
/-
  The closed facts of a row.
-/
namespace Go.Proofs.YtmnoaeffocnnmaaGreatDoor
theorem and2jfLift {a b : Bool} (h : a = true) (k : b = true) : (a && b) = true := by rw [h, k]; rfl
set_option maxRecDepth 100000 in
set_option maxHeartbeats 4000000 in
theorem jfLift : joinedFacts Tryz.prog 4 Tryz.f4 Rows.liftSeenSpec Rows.liftSeenRow = true := by
  unfold joinedFacts
  exact (and2jfLift (and2jfLift (and2jfLift (and2jfLift (and2jfLift (and2jfLift (and2jfLift (and2jfLift (and2jfLift (and2jfLift (and2jfLift (and2jfLift (and2jfLift (and2jfLift (and2jfLift (and2jfLift (and2jfLift (and2jfLift (and2jfLift (and2jfLift (and2jfLift (and2jfLift (and2jfLift (and2jfLift (and2jfLift (and2jfLift (and2jfLift (and2jfLift (and2jfLift (and2jfLift (and2jfLift (by as_aux_lemma => kernel_rfl)
    (by as_aux_lemma => kernel_rfl))
    (by as_aux_lemma => kernel_rfl))
    (by as_aux_lemma => kernel_rfl))
    (by as_aux_lemma => kernel_rfl))
    (by as_aux_lemma => kernel_rfl))
    (by as_aux_lemma => kernel_rfl))
    (by as_aux_lemma => kernel_rfl))
    (by as_aux_lemma => kernel_rfl))
    (by as_aux_lemma => kernel_rfl))
    (by as_aux_lemma => kernel_rfl))
    (by as_aux_lemma => kernel_rfl))
    (by as_aux_lemma => kernel_rfl))
    (by as_aux_lemma => kernel_rfl))
    (by as_aux_lemma => kernel_rfl))
    (by as_aux_lemma => kernel_rfl))
    (by as_aux_lemma => kernel_rfl))
    (by as_aux_lemma => kernel_rfl))
    (by as_aux_lemma => kernel_rfl))
    (by as_aux_lemma => kernel_rfl))
    (by as_aux_lemma => kernel_rfl))
    (by as_aux_lemma => kernel_rfl))
    (by as_aux_lemma => kernel_rfl))
    (by as_aux_lemma => kernel_rfl))
    (by as_aux_lemma => kernel_rfl))
    (by as_aux_lemma => kernel_rfl))
    (by as_aux_lemma => kernel_rfl))
    (by as_aux_lemma => kernel_rfl))
    (by as_aux_lemma => kernel_rfl))
    (by as_aux_lemma => kernel_rfl))
    (by as_aux_lemma => kernel_rfl))
    (by as_aux_lemma => kernel_rfl))
end Go.Proofs.YtmnoaeffocnnmaaGreatDoor
