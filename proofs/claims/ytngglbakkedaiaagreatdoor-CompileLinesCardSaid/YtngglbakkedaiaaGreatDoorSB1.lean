import Derived.Test.YtngglbakkedaiaaGreatDoorSA
set_option linter.all false
namespace Go.Proofs.YtngglbakkedaiaaGreatDoor
set_option maxRecDepth 1000000 in
theorem p2:segc Tryz.prog 4 AC 31 300 [3,5,238,291,296,300,338] (hds (tl (tl (bd Tryz.f10)))) t2=some (.normal,t3):=by kernel_rfl
end Go.Proofs.YtngglbakkedaiaaGreatDoor
