import Derived.Test.YtmnoaeffocnnmaaGreatDoorSA3
namespace Go.Proofs.YtmnoaeffocnnmaaGreatDoor
set_option maxRecDepth 1000000 in
theorem g1:segc Tryz.prog 4 AC 64 300 [3,35,57] (hd (tl (bd Tryz.f13))) s1=some (.normal,s2):=by kernel_rfl
end Go.Proofs.YtmnoaeffocnnmaaGreatDoor
