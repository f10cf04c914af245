import Derived.Test.YtngglbakkedaiaaGreatDoorSA
set_option linter.all false
namespace Go.Proofs.YtngglbakkedaiaaGreatDoor
set_option maxRecDepth 1000000 in
theorem r3:segc Tryz.prog 4 AC 105 300 [3,1806,2128,2129,2291,2292,2293,2651,2653] (hds (tl (tl (tl (bd Tryz.f11))))) w3=some (.normal,w4):=by kernel_rfl
end Go.Proofs.YtngglbakkedaiaaGreatDoor
