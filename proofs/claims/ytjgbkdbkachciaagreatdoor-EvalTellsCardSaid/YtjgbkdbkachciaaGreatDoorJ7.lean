import Derived.Test.YtjgbkdbkachciaaGreatDoorRows
import Derived.Test.YtjgbkdbkachciaaGreatDoorProg
import Derived.WalkKit
import Derived.ProofKit
set_option linter.all false
namespace Go.Proofs.YtjgbkdbkachciaaGreatDoor
set_option maxRecDepth 100000
set_option maxHeartbeats 16000000
section
theorem kJ {a b:Bool} (h:a=true) (k:b=true):(a&&b)=true:=by rw[h,k];rfl
theorem ah7:joinedFacts Tryz.prog 3 Tryz.f3 Rows.evalTellsSpec Rows.evalTellsRow=true:=by
 unfold joinedFacts;iterate 31 refine kJ ?_ (by as_aux_lemma=>kernel_rfl)
 as_aux_lemma=>kernel_rfl
end
end Go.Proofs.YtjgbkdbkachciaaGreatDoor
