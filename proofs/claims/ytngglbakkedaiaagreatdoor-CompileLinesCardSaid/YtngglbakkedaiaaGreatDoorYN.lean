import Derived.Test.YtngglbakkedaiaaGreatDoorRows
import Derived.Test.YtngglbakkedaiaaGreatDoorProg
import Derived.WalkKit
import Derived.ProofKit
import Derived.SevenTiedAt
set_option linter.all false
namespace Go.Proofs.YtngglbakkedaiaaGreatDoor
theorem lnWf:Rows.compileLinesRow.wfByText (OpenSpec.ofChange Rows.compileLinesSpec)=true:=by kernel_rfl
theorem lnMain:Tryz.pinned.checked.prog.mainIs=some (true,"70281f0937f57cf6b3bd2e420756b0aefe25610338660486c6947e7513cfafef".toList):=by kernel_rfl
theorem lnNm:Tryz.prog.funcNamed "counterproof/counterprooflaw18.CompileLines"=some 3:=by kernel_rfl
theorem lnLook:true=Tryz.pinned.checked.prog.looks []:=by kernel_rfl
theorem lnIn:([22,22,4,3,3].all fun u=> !Tryz.prog.wantsStandIn u)=true:=by kernel_rfl
end Go.Proofs.YtngglbakkedaiaaGreatDoor
