import Derived.Test.YtngglbakkedaiaaGreatDoorRows
import Derived.Test.YtngglbakkedaiaaGreatDoorProg
import Derived.WalkKit
import Derived.ProofKit
set_option linter.all false
namespace Go.Proofs.YtngglbakkedaiaaGreatDoor
theorem and2jfLines {a b : Bool} (h : a = true) (k : b = true) : (a && b) = true := by rw [h, k]; rfl
set_option maxRecDepth 100000 in
set_option maxHeartbeats 4000000 in
theorem jfLines : joinedFacts Tryz.prog 3 Tryz.f3 Rows.compileLinesSpec Rows.compileLinesRow = true := by
  unfold joinedFacts
  exact (and2jfLines (and2jfLines (and2jfLines (and2jfLines (and2jfLines (and2jfLines (and2jfLines (and2jfLines (and2jfLines (and2jfLines (and2jfLines (and2jfLines (and2jfLines (and2jfLines (and2jfLines (and2jfLines (and2jfLines (and2jfLines (and2jfLines (and2jfLines (and2jfLines (and2jfLines (and2jfLines (and2jfLines (and2jfLines (and2jfLines (and2jfLines (and2jfLines (and2jfLines (and2jfLines (and2jfLines (by as_aux_lemma => kernel_rfl)
    (by as_aux_lemma => kernel_rfl))
    (by as_aux_lemma => kernel_rfl))
    (by as_aux_lemma => kernel_rfl))
    (by as_aux_lemma => kernel_rfl))
    (by as_aux_lemma => kernel_rfl))
    (by as_aux_lemma => kernel_rfl))
    (by as_aux_lemma => kernel_rfl))
    (by as_aux_lemma => kernel_rfl))
    (by as_aux_lemma => kernel_rfl))
    (by as_aux_lemma => kernel_rfl))
    (by as_aux_lemma => kernel_rfl))
    (by as_aux_lemma => kernel_rfl))
    (by as_aux_lemma => kernel_rfl))
    (by as_aux_lemma => kernel_rfl))
    (by as_aux_lemma => kernel_rfl))
    (by as_aux_lemma => kernel_rfl))
    (by as_aux_lemma => kernel_rfl))
    (by as_aux_lemma => kernel_rfl))
    (by as_aux_lemma => kernel_rfl))
    (by as_aux_lemma => kernel_rfl))
    (by as_aux_lemma => kernel_rfl))
    (by as_aux_lemma => kernel_rfl))
    (by as_aux_lemma => kernel_rfl))
    (by as_aux_lemma => kernel_rfl))
    (by as_aux_lemma => kernel_rfl))
    (by as_aux_lemma => kernel_rfl))
    (by as_aux_lemma => kernel_rfl))
    (by as_aux_lemma => kernel_rfl))
    (by as_aux_lemma => kernel_rfl))
    (by as_aux_lemma => kernel_rfl))
    (by as_aux_lemma => kernel_rfl))
end Go.Proofs.YtngglbakkedaiaaGreatDoor
