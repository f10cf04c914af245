import Derived.Test.YtngglbakkedaiaaGreatDoorSA
set_option linter.all false
namespace Go.Proofs.YtngglbakkedaiaaGreatDoor
set_option maxRecDepth 1000000 in
theorem r1:segc Tryz.prog 4 AC 105 300 [3,1806,2128,2129] (hds (tl (bd Tryz.f11))) w1=some (.normal,w2):=by kernel_rfl
end Go.Proofs.YtngglbakkedaiaaGreatDoor
