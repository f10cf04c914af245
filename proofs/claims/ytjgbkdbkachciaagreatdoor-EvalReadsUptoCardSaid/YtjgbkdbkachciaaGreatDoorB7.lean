import Derived.Test.YtjgbkdbkachciaaGreatDoorB6
import Derived.Test.YtjgbkdbkachciaaGreatDoorA1
import Derived.Test.YtjgbkdbkachciaaGreatDoorZ7
namespace Go.Proofs.YtjgbkdbkachciaaGreatDoor
open Go.RowKit Go.Shelf

/-! ### what strip leaves may run -/
theorem NumX.J (p : LP) (vs : List Str) : ∀ (d : Nat) (e : LE), NumX d e → exprJ p vs e = 0
  | 0, _, h => h.elim
  | d + 1, e, h => by
    have ho : ownI p vs e = 0 := by
      unfold ownI
      rcases h with ⟨h1, _⟩ | ⟨h1, _⟩ | ⟨h1, _⟩ <;> rw [if_neg (by omega), if_neg (by omega), if_neg (by omega)]
    rw [exprJ_eq, if_pos ho, exprsJ_eq]
    refine firstI_zero fun x hx => ?_
    rcases h with ⟨_, h2⟩ | ⟨_, _, a, h2, h3⟩ | ⟨_, a, b, h2, h3, h4⟩
    · rw [h2] at hx; cases hx
    · rw [h2] at hx
      obtain rfl := List.mem_singleton.1 hx
      exact NumX.J p vs d x h3
    · rw [h2] at hx
      rcases List.mem_cons.1 hx with rfl | hx
      · exact NumX.J p vs d x h3
      · obtain rfl := List.mem_singleton.1 hx
        exact NumX.J p vs d x h4
theorem NumX.XEd (p : LP) : ∀ (d : Nat) (e : LE), NumX d e → XEd p d e
  | 0, _, h => h.elim
  | d + 1, e, h => by
    rcases h with ⟨h1, h2⟩ | ⟨h1, _, a, h2, h3⟩ | ⟨h1, a, b, h2, h3, h4⟩
    · exact ⟨⟨⟨by omega, by omega⟩, fun h => by omega, fun h => by omega, fun h => by omega, fun h => by omega⟩, fun x hx => by rw [h2] at hx; cases hx⟩
    · refine ⟨⟨⟨by omega, by omega⟩, fun _ => by rw [h2]; rfl, fun h => by omega, fun h => by omega, fun h => by omega⟩, fun x hx => ?_⟩
      rw [h2] at hx
      obtain rfl := List.mem_singleton.1 hx
      exact NumX.XEd p d x h3
    · refine ⟨⟨⟨by omega, by omega⟩, fun h => by omega, fun _ => by rw [h2]; rfl, fun h => by omega, fun h => by omega⟩, fun x hx => ?_⟩
      rw [h2] at hx
      rcases List.mem_cons.1 hx with rfl | hx
      · exact NumX.XEd p d x h3
      · obtain rfl := List.mem_singleton.1 hx
        exact NumX.XEd p d x h4
theorem okE_up : ∀ (d : Nat) (e : LE), okE d e → okE (d + 1) e
  | 0, _, h => h.elim
  | d + 1, _, h => ⟨h.1, fun x hx => okE_up d x (h.2 x hx)⟩
theorem okE_le {d d' : Nat} (hd : d ≤ d') {e : LE} (h : okE d e) : okE d' e := by
  induction hd with
  | refl => exact h
  | step _ ih => exact okE_up _ _ ih
/-- one element in a row of its own -/
theorem RSlB.one {α : Type} {B : Nat → Prop} {n : Nat} {t : TypeId} {R : World → (Nat → Value) → α → Prop} {W : World} {g : Nat} {cs : List Value} {x : α} (hr : Row W g t cs) (hB : B g) (hl : cs.length = n) (h : R W (fun j => cs.getD j undef) x) : RSlB B n R W (.slice (some ⟨g, 0, none⟩) 1 1) [x] := by
  refine ⟨_, _, rfl, by simp, .inr ⟨g, 0, rfl, hB, fun i y hy => ?_⟩⟩
  match i, hy with
  | 0, hy =>
    obtain rfl : x = y := by simpa using hy
    refine ⟨fun j => cs.getD j undef, fun j hj => ?_, h⟩
    have hlt : j < cs.length := by omega
    rw [show 0 + 0 * n + j = j by omega, hr.cell, List.getElem?_eq_getElem hlt]
    simp [List.getD, List.getElem?_eq_getElem hlt]
  | i + 1, hy => simp at hy
/-! ### what is drawn, freely -/
def cFree : Sc := ⟨true, fun _ => True, fun _ => True, fun _ n => n ≤ 6⟩
/-- what a strip leaves of an expression -/
def stripE : Nat → LE → LE
  | 0, e => e
  | d + 1, e => if e.kind = 1 ∨ e.kind = 3 ∨ e.kind = 4 then .mk e.kind e.op e.n e.name (e.args.map (stripE d)) else .mk 1 0 5 [] []
theorem expr28 (c : Sc) : ∀ d : Nat, 1 ≤ d → d ≤ 100 → DrC c d
  | 0, h, _ => by omega
  | d + 1, _, h => expr28_step c d (fun h1 => expr28 c d h1 (by omega)) (by omega)
end Go.Proofs.YtjgbkdbkachciaaGreatDoor
