import Derived.Test.YtjgbkdbkachciaaGreatDoorK1
/-
  The program of EvalCounts: how it is parsed.
-/
namespace Go.Proofs.YtjgbkdbkachciaaGreatDoor
open Go.RowKit Go.Shelf

def ncText : Str := [105, 110, 116, 32, 102, 40, 105, 110, 116, 32, 110, 41, 32, 123, 32, 105, 102, 32, 40, 110, 32, 61, 61, 32, 48, 41, 32, 123, 32, 114, 101, 116, 117, 114, 110, 32, 48, 59, 32, 125, 32, 114, 101, 116, 117, 114, 110, 32, 102, 40, 110, 32, 45, 32, 49, 41, 32, 43, 32, 49, 59, 32, 125, 32, 105, 110, 116, 32, 109, 97, 105, 110, 40, 41, 32, 123, 32, 105, 110, 116, 32, 120, 59, 32, 105, 110, 116, 32, 115, 59, 32, 120, 32, 61, 32, 114, 101, 97, 100, 40, 41, 59, 32, 119, 104, 105, 108, 101, 32, 40, 120, 32, 62, 32, 48, 41, 32, 123, 32, 115, 32, 61, 32, 115, 32, 43, 32, 120, 59, 32, 120, 32, 61, 32, 120, 32, 45, 32, 49, 59, 32, 125, 32, 112, 114, 105, 110, 116, 40, 115, 41, 59, 32, 114, 101, 116, 117, 114, 110, 32, 102, 40, 114, 101, 97, 100, 40, 41, 41, 59, 32, 125]
def ncToks : List Tok := (scanF 1000 1 ncText).getD []
def ncP : LP := ((pgF 100 100 100 true ncToks).map (·.1)).getD ⟨[], []⟩
def ncUs : List Tok := ((pgF 100 100 100 true ncToks).map (·.2)).getD []
theorem nc_scan : scanF 1000 1 ncText = some ncToks := by kernel_rfl
theorem nc_prog : pgF 100 100 100 true ncToks = some (ncP, ncUs) := by kernel_rfl
theorem nc_ended : Ended ncToks := ended_of (by kernel_rfl)
theorem nc_asc : Asc ncText := asc_of (by decide +kernel)
theorem nc_runs : Runs ncP := Runs.of 1 (by decide +kernel)
end Go.Proofs.YtjgbkdbkachciaaGreatDoor
