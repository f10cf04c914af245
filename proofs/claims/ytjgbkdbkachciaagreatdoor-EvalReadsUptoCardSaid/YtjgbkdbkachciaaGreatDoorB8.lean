import Derived.Test.YtjgbkdbkachciaaGreatDoorB7
namespace Go.Proofs.YtjgbkdbkachciaaGreatDoor
open Go.RowKit Go.Shelf
attribute [local go_sem] Oper.semAt_some

/-- a list's beginning -/
theorem RInts.take {W : World} {a : Option Addr} {c : Nat} {l : List Int} (h : RInts W (.slice a l.length c) l) {n : Nat} (hn : n ≤ l.length) (h9 : n ≤ 1000000000) : RSlB (· < W.heap.size) 1 RInt W (.slice a n c) (l.take n) := by
  obtain ⟨a', c', hv, hm, h⟩ := h
  obtain ⟨rfl, -, rfl⟩ := Value.slice.inj hv
  have hlen : (l.take n).length = n := by rw [List.length_take]; omega
  refine ⟨a, c, by rw [hlen], by omega, ?_⟩
  rcases Nat.eq_zero_or_pos n with h0 | h0
  · exact .inl (by rw [h0]; rfl)
  rcases h with rfl | ⟨b, o, rfl, h⟩
  · exact .inl (by simp)
  refine .inr ⟨b, o, rfl, ?_, fun i x hx => ?_⟩
  · obtain ⟨C, hC, _⟩ := h 0 (l[0]'(by omega)) (List.getElem?_eq_getElem (by omega))
    exact World.block_lt_of_cell? W _ (hC 0 (by omega))
  · rw [List.getElem?_take] at hx
    split at hx
    · exact h i x hx
    · cases hx
end Go.Proofs.YtjgbkdbkachciaaGreatDoor
