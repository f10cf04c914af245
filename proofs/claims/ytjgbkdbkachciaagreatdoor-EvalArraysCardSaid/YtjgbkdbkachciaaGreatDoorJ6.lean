import Derived.Test.YtjgbkdbkachciaaGreatDoorRows
import Derived.Test.YtjgbkdbkachciaaGreatDoorProg
import Derived.WalkKit
import Derived.ProofKit
/-
  The closed facts of a row.
-/
namespace Go.Proofs.YtjgbkdbkachciaaGreatDoor
theorem and2jfArrays {a b : Bool} (h : a = true) (k : b = true) : (a && b) = true := by rw [h, k]; rfl
set_option maxRecDepth 100000 in
set_option maxHeartbeats 4000000 in
theorem jfArrays : joinedFacts Tryz.prog 7 Tryz.f7 Rows.evalArraysSpec Rows.evalArraysRow = true := by
  unfold joinedFacts
  exact (and2jfArrays (and2jfArrays (and2jfArrays (and2jfArrays (and2jfArrays (and2jfArrays (and2jfArrays (and2jfArrays (and2jfArrays (and2jfArrays (and2jfArrays (and2jfArrays (and2jfArrays (and2jfArrays (and2jfArrays (and2jfArrays (and2jfArrays (and2jfArrays (and2jfArrays (and2jfArrays (and2jfArrays (and2jfArrays (and2jfArrays (and2jfArrays (and2jfArrays (and2jfArrays (and2jfArrays (and2jfArrays (and2jfArrays (and2jfArrays (and2jfArrays (by as_aux_lemma => kernel_rfl)
    (by as_aux_lemma => kernel_rfl))
    (by as_aux_lemma => kernel_rfl))
    (by as_aux_lemma => kernel_rfl))
    (by as_aux_lemma => kernel_rfl))
    (by as_aux_lemma => kernel_rfl))
    (by as_aux_lemma => kernel_rfl))
    (by as_aux_lemma => kernel_rfl))
    (by as_aux_lemma => kernel_rfl))
    (by as_aux_lemma => kernel_rfl))
    (by as_aux_lemma => kernel_rfl))
    (by as_aux_lemma => kernel_rfl))
    (by as_aux_lemma => kernel_rfl))
    (by as_aux_lemma => kernel_rfl))
    (by as_aux_lemma => kernel_rfl))
    (by as_aux_lemma => kernel_rfl))
    (by as_aux_lemma => kernel_rfl))
    (by as_aux_lemma => kernel_rfl))
    (by as_aux_lemma => kernel_rfl))
    (by as_aux_lemma => kernel_rfl))
    (by as_aux_lemma => kernel_rfl))
    (by as_aux_lemma => kernel_rfl))
    (by as_aux_lemma => kernel_rfl))
    (by as_aux_lemma => kernel_rfl))
    (by as_aux_lemma => kernel_rfl))
    (by as_aux_lemma => kernel_rfl))
    (by as_aux_lemma => kernel_rfl))
    (by as_aux_lemma => kernel_rfl))
    (by as_aux_lemma => kernel_rfl))
    (by as_aux_lemma => kernel_rfl))
    (by as_aux_lemma => kernel_rfl))
    (by as_aux_lemma => kernel_rfl))
end Go.Proofs.YtjgbkdbkachciaaGreatDoor
