import Derived.Test.YtngglbakkedaiaaGreatDoorSA
set_option linter.all false
namespace Go.Proofs.YtngglbakkedaiaaGreatDoor
set_option maxRecDepth 1000000 in
theorem q7:segc Tryz.prog 4 AC 59 300 [3,5,238,291,296,300,340,1806,1807] (hds (tl (tl (tl (tl (tl (tl (tl (bd Tryz.f25))))))))) u7=some (.normal,u8):=by kernel_rfl
end Go.Proofs.YtngglbakkedaiaaGreatDoor
