/-
  Proved: for every two lists of numbers, every bool and every two numbers, CompileLines returns true and leaves its arguments as they were. The listed package variables begin as the program's text lays them (the card's tie). No other condition.
-/
import Derived.Test.YtngglbakkedaiaaGreatDoorYM
import Derived.Test.YtngglbakkedaiaaGreatDoorYN
import Derived.Test.YtngglbakkedaiaaGreatDoorYO
set_option linter.all false
namespace Go.Proofs.YtngglbakkedaiaaGreatDoor
open Go.ChangeShapes Go.WideShapes Go.ChangeAt Go.RowKit
theorem compileLines_proved : Rows.CompileLinesCardSaid :=
  Claim7.holds_tied_plain_at .later [] [.data, .data, .data, .data, .sentinel, .sentinel, .pinned] true (true, "70281f0937f57cf6b3bd2e420756b0aefe25610338660486c6947e7513cfafef") true
    compileLines_over (fun _ h => by cases h) lnWf (fun _ h => by cases h) compileLines_row_tie rfl ⟨rfl, rfl⟩ lnMain rfl
    (fun f fn hf hfn => by
      obtain rfl : f = 3 := Option.some.inj (lnNm.symm.trans hf) |>.symm
      obtain rfl : fn = Tryz.f3 := (Option.some.inj (Tryz.func3.symm.trans hfn)).symm
      exact ⟨lnLook, fun j t ht => by
        rw [Tryz.params3] at ht
        have hm : t ∈ [22, 22, 4, 3, 3] := by simpa using Array.mem_of_getElem? ht
        exact (show Tryz.prog.wantsStandIn t = false by simpa using List.all_eq_true.1 lnIn t hm)⟩)
    goesNo
end Go.Proofs.YtngglbakkedaiaaGreatDoor
