import Derived.Test.YtngglbakkedaiaaGreatDoorSA
set_option linter.all false
namespace Go.Proofs.YtngglbakkedaiaaGreatDoor
set_option maxRecDepth 1000000 in
theorem q3:segc Tryz.prog 4 AC 59 300 [3,5,238,291,296,300,340,515,548,551,596] (hds (tl (tl (tl (bd Tryz.f25))))) u3=some (.normal,u4):=by kernel_rfl
end Go.Proofs.YtngglbakkedaiaaGreatDoor
