import Derived.Test.YtjgbkdbkachciaaGreatDoorB6
import Derived.Test.YtjgbkdbkachciaaGreatDoorA1
import Derived.Test.YtjgbkdbkachciaaGreatDoorZ7
namespace Go.Proofs.YtjgbkdbkachciaaGreatDoor
open Go.RowKit Go.Shelf

/-! ### what strip leaves may run -/
theorem NumX.J (p : LP) (vs : List Str) : ∀ (d : Nat) (e : LE), NumX d e → exprJ p vs e = 0
  | 0, _, h => h.elim
  | d + 1, e, h => by
    have ho : ownI p vs e = 0 := by
      unfold ownI
      rcases h with ⟨h1, _⟩ | ⟨h1, _⟩ | ⟨h1, _⟩ <;> rw [if_neg (by omega), if_neg (by omega), if_neg (by omega)]
    rw [exprJ_eq, if_pos ho, exprsJ_eq]
    refine firstI_zero fun x hx => ?_
    rcases h with ⟨_, h2⟩ | ⟨_, _, a, h2, h3⟩ | ⟨_, a, b, h2, h3, h4⟩
    · rw [h2] at hx; cases hx
    · rw [h2] at hx
      obtain rfl := List.mem_singleton.1 hx
      exact NumX.J p vs d x h3
    · rw [h2] at hx
      rcases List.mem_cons.1 hx with rfl | hx
      · exact NumX.J p vs d x h3
      · obtain rfl := List.mem_singleton.1 hx
        exact NumX.J p vs d x h4
theorem NumX.XEd (p : LP) : ∀ (d : Nat) (e : LE), NumX d e → XEd p d e
  | 0, _, h => h.elim
  | d + 1, e, h => by
    rcases h with ⟨h1, h2⟩ | ⟨h1, _, a, h2, h3⟩ | ⟨h1, a, b, h2, h3, h4⟩
    · exact ⟨⟨⟨by omega, by omega⟩, fun h => by omega, fun h => by omega, fun h => by omega, fun h => by omega⟩, fun x hx => by rw [h2] at hx; cases hx⟩
    · refine ⟨⟨⟨by omega, by omega⟩, fun _ => by rw [h2]; rfl, fun h => by omega, fun h => by omega, fun h => by omega⟩, fun x hx => ?_⟩
      rw [h2] at hx
      obtain rfl := List.mem_singleton.1 hx
      exact NumX.XEd p d x h3
    · refine ⟨⟨⟨by omega, by omega⟩, fun h => by omega, fun _ => by rw [h2]; rfl, fun h => by omega, fun h => by omega⟩, fun x hx => ?_⟩
      rw [h2] at hx
      rcases List.mem_cons.1 hx with rfl | hx
      · exact NumX.XEd p d x h3
      · obtain rfl := List.mem_singleton.1 hx
        exact NumX.XEd p d x h4
theorem okE_up : ∀ (d : Nat) (e : LE), okE d e → okE (d + 1) e
  | 0, _, h => h.elim
  | d + 1, _, h => ⟨h.1, fun x hx => okE_up d x (h.2 x hx)⟩
theorem okE_le {d d' : Nat} (hd : d ≤ d') {e : LE} (h : okE d e) : okE d' e := by
  induction hd with
  | refl => exact h
  | step _ ih => exact okE_up _ _ ih
theorem vP_runs (d : Nat) (e : LE) (hn : NumX d e) (ho : okE 40 e) : Runs (vP e) := by
  refine main_runs _ (fun x hx => ?_) ?_ (fun x hx => ?_)
  · rw [List.mem_singleton.1 hx]; exact one_okS (.inr rfl) _ ho _
  · unfold functionJ
    show (if twiceB ([] ++ []) || ([] ++ [] : List Str).any _ then (50 : Int) else firstI _ (flatSs false [.mk 8 [] [e] [] []])) = 0
    have tw : twiceB ([] : List Str) = false := by decide +kernel
    rw [if_neg (by rw [List.append_nil, tw]; simp), flat_all _ (fun x hx => by rw [List.mem_singleton.1 hx]; exact ⟨rfl, rfl, .inr rfl⟩)]
    refine firstI_zero fun q hq => ?_
    obtain rfl := List.mem_singleton.1 (show q ∈ [((.mk 8 [] [e] [] [] : LS), false)] from hq)
    have h0 : stmtO (vP e) ([] ++ []) false (.mk 8 [] [e] [] []) = 0 := rfl
    show stmtJ (vP e) ([] ++ []) false (.mk 8 [] [e] [] []) = 0
    rw [stmtJ_0 h0, exprsJ_eq]
    refine firstI_zero fun x hx => ?_
    obtain rfl := List.mem_singleton.1 (show x ∈ [e] from hx)
    exact hn.J _ _ d x
  · rw [List.mem_singleton.1 hx]; exact one_YS _ (.inr rfl) _ ⟨d, hn.XEd _ d e⟩

/-- one element in a row of its own -/
theorem RSlB.one {α : Type} {B : Nat → Prop} {n : Nat} {t : TypeId} {R : World → (Nat → Value) → α → Prop} {W : World} {g : Nat} {cs : List Value} {x : α} (hr : Row W g t cs) (hB : B g) (hl : cs.length = n) (h : R W (fun j => cs.getD j undef) x) : RSlB B n R W (.slice (some ⟨g, 0, none⟩) 1 1) [x] := by
  refine ⟨_, _, rfl, by simp, .inr ⟨g, 0, rfl, hB, fun i y hy => ?_⟩⟩
  match i, hy with
  | 0, hy =>
    obtain rfl : x = y := by simpa using hy
    refine ⟨fun j => cs.getD j undef, fun j hj => ?_, h⟩
    have hlt : j < cs.length := by omega
    rw [show 0 + 0 * n + j = j by omega, hr.cell, List.getElem?_eq_getElem hlt]
    simp [List.getD, List.getElem?_eq_getElem hlt]
  | i + 1, hy => simp at hy
/-- the program that prints an expression, in memory -/
theorem vP_px {W : World} {ab sb fb : Nat} {e : LE} {av : Value} (h1 : Row W ab 31 (eRow e av)) (hx : EX (fun _ => True) W av e) (h2 : Row W sb 54 [I 8, S [], .slice (some ⟨ab, 0, none⟩) 1 1, .slice none 0 0, .slice none 0 0])
    (h3 : Row W fb 52 [S wMain, .slice none 0 0, .slice none 0 0, .slice (some ⟨sb, 0, none⟩) 1 1]) : PX (· < W.heap.size) W (.slice none 0 0) (.slice (some ⟨fb, 0, none⟩) 1 1) (vP e) := by
  obtain ⟨d, hd⟩ := hx
  have hA : EX (fun _ => True) W (.slice (some ⟨ab, 0, none⟩) 1 1) (.mk 0 0 0 [] [e]) := ⟨d + 1, RSlB.one (R := RE (d + 1) _) h1 trivial rfl ⟨rfl, rfl, rfl, rfl, hd⟩⟩
  have hS : SX (fun _ => True) W (.slice (some ⟨sb, 0, none⟩) 1 1) [.mk 8 [] [e] [] []] := ⟨1, RSlB.one (R := RS 1 _) h2 trivial rfl ⟨rfl, rfl, hA, RSlB.nil _ _ _ _, RSlB.nil _ _ _ _⟩⟩
  exact PX.lt (B := fun _ => True) ⟨RSlB.nil _ _ _ _, RSlB.one (R := RF _) h3 trivial rfl ⟨rfl, RSlB.nil _ _ _ _, RSlB.nil _ _ _ _, hS⟩⟩

/-! ### what is drawn, freely -/
def cFree : Sc := ⟨true, fun _ => True, fun _ => True, fun _ n => n ≤ 6⟩
/-- what a strip leaves of an expression -/
def stripE : Nat → LE → LE
  | 0, e => e
  | d + 1, e => if e.kind = 1 ∨ e.kind = 3 ∨ e.kind = 4 then .mk e.kind e.op e.n e.name (e.args.map (stripE d)) else .mk 1 0 5 [] []
theorem expr28 (c : Sc) : ∀ d : Nat, 1 ≤ d → d ≤ 100 → DrC c d
  | 0, h, _ => by omega
  | d + 1, _, h => expr28_step c d (fun h1 => expr28 c d h1 (by omega)) (by omega)
theorem cFree_in (W : World) (sb : Nat) : ScIn cFree sb W (.slice none 0 0) (.slice none 0 0) (.slice none 0 0) :=
  ⟨⟨[], RSlB.nil _ _ _ _, fun h => by cases h⟩, ⟨[], RSlB.nil _ _ _ _, fun h => by cases h⟩, ⟨[], RSlB.nil _ _ _ _, fun h => by cases h⟩, fun _ => ⟨fun _ => trivial, fun _ => trivial, fun _ _ h => h⟩⟩
theorem stripE_ok (c : Sc) : ∀ (d : Nat) (e : LE), DrE c d e → NumX d (stripE d e) ∧ okE d (stripE d e)
  | 0, _, h => h.elim
  | d + 1, e, h => by
    by_cases hk : e.kind = 1 ∨ e.kind = 3 ∨ e.kind = 4
    · rw [stripE, if_pos hk]
      have ih : ∀ x ∈ e.args, NumX d (stripE d x) ∧ okE d (stripE d x) := fun x hx => stripE_ok c d x (h.2 x hx)
      rcases h.1 with ⟨h1, h2, h3, h4, h5⟩ | ⟨h1, _⟩ | ⟨h1, h2, h3, h4, h5⟩ | ⟨h1, h2, h3, h4, h5⟩ | ⟨h1, _⟩ | ⟨h1, _⟩ | ⟨h1, _⟩
      · have ha : e.args = [] := List.length_eq_zero_iff.1 h5
        rw [ha]
        exact ⟨.inl ⟨h1, rfl⟩, .inl ⟨h1, h2, h3, h4, rfl⟩, fun x hx => by cases hx⟩
      · omega
      · obtain ⟨a, ha⟩ := List.length_eq_one_iff.1 h5
        rw [ha] at ih ⊢
        have h6 := ih a (by simp)
        refine ⟨.inr (.inl ⟨h1, fun q => ?_, _, rfl, h6.1⟩), .inr (.inr (.inl ⟨h1, h2, h3, h4, rfl⟩)), fun x hx => ?_⟩
        · show (oneI e.op q).isSome
          rcases h2 with h2 | h2 | h2 <;> rw [h2] <;> rfl
        · obtain rfl := List.mem_singleton.1 (show x ∈ [stripE d a] from hx)
          exact h6.2
      · obtain ⟨a, b, ha⟩ : ∃ a b, e.args = [a, b] := by match e.args, h5 with | [a, b], _ => exact ⟨a, b, rfl⟩
        rw [ha] at ih ⊢
        have h6 := ih a (by simp)
        have h7 := ih b (by simp)
        refine ⟨.inr (.inr ⟨h1, _, _, rfl, h6.1, h7.1⟩), .inr (.inr (.inr (.inl ⟨h1, h2, h3, h4, rfl⟩))), fun x hx => ?_⟩
        rcases List.mem_cons.1 (show x ∈ [stripE d a, stripE d b] from hx) with rfl | hx
        · exact h6.2
        · obtain rfl := List.mem_singleton.1 hx
          exact h7.2
      · omega
      · omega
      · omega
    · rw [stripE, if_neg hk]
      exact ⟨.inl ⟨rfl, rfl⟩, .inl ⟨rfl, (by show (0 : Int) ≤ 5; decide), rfl, rfl, rfl⟩, fun x hx => by cases hx⟩
end Go.Proofs.YtjgbkdbkachciaaGreatDoor
