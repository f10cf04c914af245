import Derived.Test.YtngglbakkedaiaaGreatDoorRows
import Derived.Test.YtngglbakkedaiaaGreatDoorProg
import Derived.WalkKit
import Derived.ProofKit
import Derived.SevenTiedAt
set_option linter.all false
namespace Go.Proofs.YtngglbakkedaiaaGreatDoor
set_option maxRecDepth 100000 in
theorem goesNo:false=Rows.compileLinesRow.goesBy Tryz.pinned.checked.prog:=by kernel_rfl
end Go.Proofs.YtngglbakkedaiaaGreatDoor
