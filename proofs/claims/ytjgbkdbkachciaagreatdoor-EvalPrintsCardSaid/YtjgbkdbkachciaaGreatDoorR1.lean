import Derived.Test.YtjgbkdbkachciaaGreatDoorQ1
import Derived.Laws.EntriesVeiled
namespace Go.Proofs.YtjgbkdbkachciaaGreatDoor
open Go.RowKit Go.Shelf
attribute [local go_sem] Oper.semAt_some

abbrev S (l : Str) : Value := .string ⟨l.toArray⟩
def twoN (op : Int) : Nat := if op = 1 then 145 else if op = 2 then 146 else if op = 3 then 147 else if op = 4 then 148 else if op = 5 then 149 else if op = 6 then 150 else if op = 7 then 151 else if op = 8 then 152
  else if op = 9 then 153 else if op = 10 then 154 else if op = 11 then 155 else if op = 12 then 157 else if op = 13 then 158 else if op = 14 then 159 else if op = 15 then 160 else if op = 16 then 161 else 0
def oneN (op : Int) : Nat := if op = 17 then 162 else if op = 18 then 163 else if op = 19 then 164 else 0
def fnV (n : Nat) : Value := if n = 0 then .nilFunc else .func (.func n) #[] #[]
def rowV (op : Int) : Value := .agg #[S (signS op), I (levelI op), fnV (twoN op), fnV (oneN op)]

set_option maxRecDepth 100000 in
set_option maxHeartbeats 4000000 in
theorem rowOf_any (op : Int) (w : World) : Calls Tryz.prog 105 #[I op] w fun e w' => e = .returned (rowV op) ∧ Below w.heap.size w w' := by
  have hcs : op = 1 ∨ op = 2 ∨ op = 3 ∨ op = 4 ∨ op = 5 ∨ op = 6 ∨ op = 7 ∨ op = 8 ∨ op = 9 ∨ op = 10 ∨ op = 11 ∨ op = 12 ∨ op = 13 ∨ op = 14 ∨ op = 15 ∨ op = 16 ∨ op = 17 ∨ op = 18 ∨ op = 19 ∨ (op < 1 ∨ 19 < op) := by omega
  rcases hcs with rfl | rfl | rfl | rfl | rfl | rfl | rfl | rfl | rfl | rfl | rfl | rfl | rfl | rfl | rfl | rfl | rfl | rfl | rfl | h
  case' inr.inr.inr.inr.inr.inr.inr.inr.inr.inr.inr.inr.inr.inr.inr.inr.inr.inr.inr =>
    have h1 : (op == 1) = false := beq_eq_false_iff_ne.2 (by omega)
    have h2 : (op == 2) = false := beq_eq_false_iff_ne.2 (by omega)
    have h3 : (op == 3) = false := beq_eq_false_iff_ne.2 (by omega)
    have h4 : (op == 4) = false := beq_eq_false_iff_ne.2 (by omega)
    have h5 : (op == 5) = false := beq_eq_false_iff_ne.2 (by omega)
    have h6 : (op == 6) = false := beq_eq_false_iff_ne.2 (by omega)
    have h7 : (op == 7) = false := beq_eq_false_iff_ne.2 (by omega)
    have h8 : (op == 8) = false := beq_eq_false_iff_ne.2 (by omega)
    have h9 : (op == 9) = false := beq_eq_false_iff_ne.2 (by omega)
    have h10 : (op == 10) = false := beq_eq_false_iff_ne.2 (by omega)
    have h11 : (op == 11) = false := beq_eq_false_iff_ne.2 (by omega)
    have h12 : (op == 12) = false := beq_eq_false_iff_ne.2 (by omega)
    have h13 : (op == 13) = false := beq_eq_false_iff_ne.2 (by omega)
    have h14 : (op == 14) = false := beq_eq_false_iff_ne.2 (by omega)
    have h15 : (op == 15) = false := beq_eq_false_iff_ne.2 (by omega)
    have h16 : (op == 16) = false := beq_eq_false_iff_ne.2 (by omega)
    have h17 : (op == 17) = false := beq_eq_false_iff_ne.2 (by omega)
    have h18 : (op == 18) = false := beq_eq_false_iff_ne.2 (by omega)
    have h19 : (op == 19) = false := beq_eq_false_iff_ne.2 (by omega)
    have hv : rowV op = .agg #[S [], I 0, .nilFunc, .nilFunc] := by
      unfold rowV signS levelI twoN oneN fnV
      simp only [beq_eq_false_iff_ne] at h1 h2 h3 h4 h5 h6 h7 h8 h9 h10 h11 h12 h13 h14 h15 h16 h17 h18 h19
      simp [h1, h2, h3, h4, h5, h6, h7, h8, h9, h10, h11, h12, h13, h14, h15, h16, h17, h18, h19]
      omega
    have HV := Lib.hid hv
    clear hv h
  all_goals
    go_enter Tryz.func105, Tryz.ntmps105
    go_wp2
    refine bodyPost_ret (results_cell_row rfl _ _ w.heap.size 160 _ (0, 0) _ rfl (heap_new _ _) Tryz.underlying160 rfl (by kernel_rfl)) rfl ?_
    exact ⟨by first | rfl | rw [HV.out], below_a1 _ _⟩
end Go.Proofs.YtjgbkdbkachciaaGreatDoor
