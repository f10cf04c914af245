import Derived.Test.YtngglbakkedaiaaGreatDoorSA
set_option linter.all false
namespace Go.Proofs.YtngglbakkedaiaaGreatDoor
set_option maxRecDepth 1000000 in
theorem g2:segc Tryz.prog 4 AC 64 300 [3,1806,1808] (hds (tl (tl (bd Tryz.f4)))) s2=some (.normal,s3):=by kernel_rfl
end Go.Proofs.YtngglbakkedaiaaGreatDoor
