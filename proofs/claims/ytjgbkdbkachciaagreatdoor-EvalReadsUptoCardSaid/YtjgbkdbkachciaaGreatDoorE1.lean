import Derived.Test.YtjgbkdbkachciaaGreatDoorE0
namespace Go.Proofs.YtjgbkdbkachciaaGreatDoor
open Go.RowKit Go.Shelf

/-- statements of what there is -/
theorem stmts30 (c : Sc) (hcf : c.free = false) : ∀ d : Nat, 1 ≤ d → d ≤ 100 → DrTC c d
  | 0, h, _ => absurd h (by decide)
  | d + 1, _, h => stmts30_step c hcf d (fun h1 => stmts30 c hcf d h1 (by omega)) (by omega)
end Go.Proofs.YtjgbkdbkachciaaGreatDoor
