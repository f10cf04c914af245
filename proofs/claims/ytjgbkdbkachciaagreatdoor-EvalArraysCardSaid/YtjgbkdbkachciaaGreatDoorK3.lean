import Derived.Test.YtjgbkdbkachciaaGreatDoorK1
/-
  The second program of EvalArrays: how it is parsed, and what it does.
-/
namespace Go.Proofs.YtjgbkdbkachciaaGreatDoor
open Go.RowKit Go.Shelf

def raText : Str := [105, 110, 116, 32, 97, 91, 49, 48, 93, 59, 32, 105, 110, 116, 32, 98, 91, 49, 48, 93, 59, 32, 105, 110, 116, 32, 109, 97, 105, 110, 40, 41, 32, 123, 32, 97, 91, 114, 101, 97, 100, 40, 41, 93, 32, 61, 32, 114, 101, 97, 100, 40, 41, 59, 32, 112, 114, 105, 110, 116, 40, 97, 91, 114, 101, 97, 100, 40, 41, 93, 41, 59, 32, 112, 114, 105, 110, 116, 40, 98, 91, 114, 101, 97, 100, 40, 41, 93, 41, 59, 32, 125]
def raToks : List Tok := (scanF 1000 1 raText).getD []
def raP : LP := ((pgF 100 100 100 true raToks).map (·.1)).getD ⟨[], []⟩
def raUs : List Tok := ((pgF 100 100 100 true raToks).map (·.2)).getD []
theorem ra_scan : scanF 1000 1 raText = some raToks := by kernel_rfl
theorem ra_prog : pgF 100 100 100 true raToks = some (raP, raUs) := by kernel_rfl
theorem ra_ended : Ended raToks := ended_of (by kernel_rfl)
theorem ra_asc : Asc raText := asc_of (by decide +kernel)
theorem ra_runs : Runs raP := Runs.of 0 (by decide +kernel)
def raR (i k v : Int) : LR := if i < 0 ∨ 9 < i then ⟨3, 0, [], 3⟩ else ⟨1, 0, [if i = k then v else 0, 0], 9⟩
theorem ra_run (i k v : Int) (hi : -2 ≤ i ∧ i ≤ 11) (hk : 0 ≤ k ∧ k ≤ 9) : runM raP 2000 [i, v, k, k] 999 = raR i k v := by
  obtain ⟨h1, h2⟩ := hi
  obtain ⟨h3, h4⟩ := hk
  rcases (by omega : (i = -2 ∨ i = -1 ∨ i = 10 ∨ i = 11) ∨ (i = 0 ∨ i = 1 ∨ i = 2 ∨ i = 3 ∨ i = 4 ∨ i = 5 ∨ i = 6 ∨ i = 7 ∨ i = 8 ∨ i = 9)) with hi | hi
  · rcases hi with rfl | rfl | rfl | rfl <;> (show runM _ _ _ _ = _; kernel_rfl)
  · have hk : k = 0 ∨ k = 1 ∨ k = 2 ∨ k = 3 ∨ k = 4 ∨ k = 5 ∨ k = 6 ∨ k = 7 ∨ k = 8 ∨ k = 9 := by omega
    clear h1 h2 h3 h4
    rcases hi with rfl | rfl | rfl | rfl | rfl | rfl | rfl | rfl | rfl | rfl <;> rcases hk with rfl | rfl | rfl | rfl | rfl | rfl | rfl | rfl | rfl | rfl <;> (show runM _ _ _ _ = _; kernel_rfl)
end Go.Proofs.YtjgbkdbkachciaaGreatDoor
