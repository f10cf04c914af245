import Derived.Test.YtjgbkdbkachciaaGreatDoorRows
import Derived.Test.YtjgbkdbkachciaaGreatDoorProg
import Derived.WalkKit
import Derived.ProofKit
/-
  The closed facts of a row.
-/
namespace Go.Proofs.YtjgbkdbkachciaaGreatDoor
theorem and2jfValues {a b : Bool} (h : a = true) (k : b = true) : (a && b) = true := by rw [h, k]; rfl
set_option maxRecDepth 100000 in
set_option maxHeartbeats 4000000 in
theorem jfValues : joinedFacts Tryz.prog 9 Tryz.f9 Rows.evalValuesSpec Rows.evalValuesRow = true := by
  unfold joinedFacts
  exact (and2jfValues (and2jfValues (and2jfValues (and2jfValues (and2jfValues (and2jfValues (and2jfValues (and2jfValues (and2jfValues (and2jfValues (and2jfValues (and2jfValues (and2jfValues (and2jfValues (and2jfValues (and2jfValues (and2jfValues (and2jfValues (and2jfValues (and2jfValues (and2jfValues (and2jfValues (and2jfValues (and2jfValues (and2jfValues (and2jfValues (and2jfValues (and2jfValues (and2jfValues (and2jfValues (and2jfValues (by as_aux_lemma => kernel_rfl)
    (by as_aux_lemma => kernel_rfl))
    (by as_aux_lemma => kernel_rfl))
    (by as_aux_lemma => kernel_rfl))
    (by as_aux_lemma => kernel_rfl))
    (by as_aux_lemma => kernel_rfl))
    (by as_aux_lemma => kernel_rfl))
    (by as_aux_lemma => kernel_rfl))
    (by as_aux_lemma => kernel_rfl))
    (by as_aux_lemma => kernel_rfl))
    (by as_aux_lemma => kernel_rfl))
    (by as_aux_lemma => kernel_rfl))
    (by as_aux_lemma => kernel_rfl))
    (by as_aux_lemma => kernel_rfl))
    (by as_aux_lemma => kernel_rfl))
    (by as_aux_lemma => kernel_rfl))
    (by as_aux_lemma => kernel_rfl))
    (by as_aux_lemma => kernel_rfl))
    (by as_aux_lemma => kernel_rfl))
    (by as_aux_lemma => kernel_rfl))
    (by as_aux_lemma => kernel_rfl))
    (by as_aux_lemma => kernel_rfl))
    (by as_aux_lemma => kernel_rfl))
    (by as_aux_lemma => kernel_rfl))
    (by as_aux_lemma => kernel_rfl))
    (by as_aux_lemma => kernel_rfl))
    (by as_aux_lemma => kernel_rfl))
    (by as_aux_lemma => kernel_rfl))
    (by as_aux_lemma => kernel_rfl))
    (by as_aux_lemma => kernel_rfl))
    (by as_aux_lemma => kernel_rfl))
    (by as_aux_lemma => kernel_rfl))
end Go.Proofs.YtjgbkdbkachciaaGreatDoor
