import Derived.Test.YtmnoaeffocnnmaaGreatDoorSA3
namespace Go.Proofs.YtmnoaeffocnnmaaGreatDoor
set_option maxRecDepth 1000000 in
theorem c2:segc Tryz.prog 4 AC 57 300 [3,190,191,193,200,205,212,217,221,223,228,233,238,239,242,245,246,253,258,261,262,265,268,269,276,281,284,285,288,293,294,298,303,304,358,359,362,363,370,373,376,377,384,387,393,396,397,404,407,412,415,418,419,426,429,433,434,441,444,445,452,455,458,459,466,469,474,475,483,511,539,569,573,574,577,580,584,589,592,598,599,602,603,626,630,632,633,634,647,648,649,650] (hd (inb (hd (tl (tl (bd Tryz.f22)))))) u2=some (.normal,u3):=by kernel_rfl
end Go.Proofs.YtmnoaeffocnnmaaGreatDoor
