import Derived.Test.YtjgbkdbkachciaaGreatDoorR2
/-
  What arith's operators make, as plain functions.
-/
namespace Go.Proofs.YtjgbkdbkachciaaGreatDoor
open Go.RowKit

/-! ### arith -/
def flagI (b : Bool) : Int := if b then 1 else 0

end Go.Proofs.YtjgbkdbkachciaaGreatDoor

namespace Go.Proofs.YtjgbkdbkachciaaGreatDoor
open Go.RowKit Go.Shelf
attribute [local go_sem] Oper.semAt_some

set_option maxRecDepth 100000 in
theorem aflag_any (b : Bool) (w : World) : Calls Tryz.prog 156 #[.bool b] w fun e w' => e = .returned (I (flagI b)) ∧ w' = w := by
  cases b
  · go_enter Tryz.func156, Tryz.ntmps156
    go_wp2
    go_ret
    exact ⟨rfl, rfl⟩
  · go_enter Tryz.func156, Tryz.ntmps156
    go_wp2
    go_ret
    exact ⟨rfl, rfl⟩
theorem and63 (b : Int) : 0 ≤ bits .and .i64 b 63 ∧ bits .and .i64 b 63 ≤ 63 := by
  have h : (BitVec.ofInt 64 b &&& BitVec.ofInt 64 63).toNat ≤ 63 := by rw [BitVec.toNat_and]; exact Nat.le_trans Nat.and_le_right (by decide)
  have h2 : bits .and .i64 b 63 = IntKind.i64.wrap ((BitVec.ofInt 64 b &&& BitVec.ofInt 64 63).toNat : Int) := rfl
  rw [h2, IntKind.wrap_i64]
  obtain ⟨n, hn⟩ : ∃ n, n = (BitVec.ofInt 64 b &&& BitVec.ofInt 64 63).toNat := ⟨_, rfl⟩
  rw [← hn] at h ⊢
  omega
def sh63 (b : Int) : Nat := (bits .and .i64 b 63).toNat
theorem run_shl (a b : Int) (w : World) : (Op.shift .shl .i64 a .i64 (bits .and .i64 b 63)).run Tryz.prog w = .ok (I (wrap64 (a * 2 ^ sh63 b))) w := by
  have h := and63 b
  rw [shift_shl _ _ _ _ h.1 (by show _ ≤ (64 : Int); omega), Sem.run_pure, IntKind.wrap_i64]
  unfold wrap64 sh63
  rfl
theorem run_shr (a b : Int) (w : World) : (Op.shift .shr .i64 a .i64 (bits .and .i64 b 63)).run Tryz.prog w = .ok (I (a / 2 ^ sh63 b)) w := by
  have h := and63 b
  rw [shift_shr _ _ _ _ h.1 (by show _ ≤ (64 : Int); omega), Sem.run_pure]
  rfl
def divF (a b : Int) : Int := if b = 0 then -1 else wrap64 (a.tdiv b)
def remF (a b : Int) : Int := if b = 0 then a else a.tmod b
set_option maxRecDepth 100000 in
theorem op145 (a b : Int) (w : World) : Calls Tryz.prog 145 #[I a, I b] w fun e w' => e = .returned (I (wrap64 (a + b))) ∧ w' = w := by
  go_enter Tryz.func145, Tryz.ntmps145
  go_wp2
  go_ret
  exact ⟨rfl, rfl⟩
set_option maxRecDepth 100000 in
theorem op146 (a b : Int) (w : World) : Calls Tryz.prog 146 #[I a, I b] w fun e w' => e = .returned (I (wrap64 (a - b))) ∧ w' = w := by
  go_enter Tryz.func146, Tryz.ntmps146
  go_wp2
  go_ret
  exact ⟨rfl, rfl⟩
set_option maxRecDepth 100000 in
theorem op147 (a b : Int) (w : World) : Calls Tryz.prog 147 #[I a, I b] w fun e w' => e = .returned (I (wrap64 (a * b))) ∧ w' = w := by
  go_enter Tryz.func147, Tryz.ntmps147
  go_wp2
  go_ret
  exact ⟨rfl, rfl⟩
set_option maxRecDepth 100000 in
theorem op150 (a b : Int) (w : World) : Calls Tryz.prog 150 #[I a, I b] w fun e w' => e = .returned (I (bits .and .i64 a b)) ∧ w' = w := by
  go_enter Tryz.func150, Tryz.ntmps150
  go_wp2
  go_ret
  exact ⟨rfl, rfl⟩
set_option maxRecDepth 100000 in
theorem op151 (a b : Int) (w : World) : Calls Tryz.prog 151 #[I a, I b] w fun e w' => e = .returned (I (bits .or .i64 a b)) ∧ w' = w := by
  go_enter Tryz.func151, Tryz.ntmps151
  go_wp2
  go_ret
  exact ⟨rfl, rfl⟩
set_option maxRecDepth 100000 in
theorem op152 (a b : Int) (w : World) : Calls Tryz.prog 152 #[I a, I b] w fun e w' => e = .returned (I (bits .xor .i64 a b)) ∧ w' = w := by
  go_enter Tryz.func152, Tryz.ntmps152
  go_wp2
  go_ret
  exact ⟨rfl, rfl⟩
set_option maxRecDepth 100000 in
theorem op153 (a b : Int) (w : World) : Calls Tryz.prog 153 #[I a, I b] w fun e w' => e = .returned (I (wrap64 (a * 2 ^ sh63 b))) ∧ w' = w := by
  have hs := run_shl a b
  go_enter Tryz.func153, Tryz.ntmps153
  go_wp2
  go_ret
  exact ⟨rfl, rfl⟩
set_option maxRecDepth 100000 in
theorem op154 (a b : Int) (w : World) : Calls Tryz.prog 154 #[I a, I b] w fun e w' => e = .returned (I (a / 2 ^ sh63 b)) ∧ w' = w := by
  have hs := run_shr a b
  go_enter Tryz.func154, Tryz.ntmps154
  go_wp2
  go_ret
  exact ⟨rfl, rfl⟩
set_option maxRecDepth 100000 in
theorem op155 (a b : Int) (w : World) : Calls Tryz.prog 155 #[I a, I b] w fun e w' => e = .returned (I (flagI (decide (a < b)))) ∧ w' = w := by
  go_enter Tryz.func155, Tryz.ntmps155
  go_wp2_with (first
    | (go_at_call 156; refine (aflag_any _ _).mono ?_; rintro e' w1 ⟨rfl, rfl⟩))
  go_ret
  exact ⟨rfl, rfl⟩
set_option maxRecDepth 100000 in
theorem op157 (a b : Int) (w : World) : Calls Tryz.prog 157 #[I a, I b] w fun e w' => e = .returned (I (flagI (decide (a ≤ b)))) ∧ w' = w := by
  go_enter Tryz.func157, Tryz.ntmps157
  go_wp2_with (first
    | (go_at_call 156; refine (aflag_any _ _).mono ?_; rintro e' w1 ⟨rfl, rfl⟩))
  go_ret
  exact ⟨rfl, rfl⟩
set_option maxRecDepth 100000 in
theorem op158 (a b : Int) (w : World) : Calls Tryz.prog 158 #[I a, I b] w fun e w' => e = .returned (I (flagI (decide (b < a)))) ∧ w' = w := by
  go_enter Tryz.func158, Tryz.ntmps158
  go_wp2_with (first
    | (go_at_call 156; refine (aflag_any _ _).mono ?_; rintro e' w1 ⟨rfl, rfl⟩))
  go_ret
  exact ⟨rfl, rfl⟩
set_option maxRecDepth 100000 in
theorem op159 (a b : Int) (w : World) : Calls Tryz.prog 159 #[I a, I b] w fun e w' => e = .returned (I (flagI (decide (b ≤ a)))) ∧ w' = w := by
  go_enter Tryz.func159, Tryz.ntmps159
  go_wp2_with (first
    | (go_at_call 156; refine (aflag_any _ _).mono ?_; rintro e' w1 ⟨rfl, rfl⟩))
  go_ret
  exact ⟨rfl, rfl⟩
set_option maxRecDepth 100000 in
theorem op160 (a b : Int) (w : World) : Calls Tryz.prog 160 #[I a, I b] w fun e w' => e = .returned (I (flagI (a == b))) ∧ w' = w := by
  go_enter Tryz.func160, Tryz.ntmps160
  go_wp2_with (first
    | (go_at_call 156; refine (aflag_any _ _).mono ?_; rintro e' w1 ⟨rfl, rfl⟩))
  go_ret
  exact ⟨rfl, rfl⟩
set_option maxRecDepth 100000 in
theorem op161 (a b : Int) (w : World) : Calls Tryz.prog 161 #[I a, I b] w fun e w' => e = .returned (I (flagI (a != b))) ∧ w' = w := by
  go_enter Tryz.func161, Tryz.ntmps161
  go_wp2_with (first
    | (go_at_call 156; refine (aflag_any _ _).mono ?_; rintro e' w1 ⟨rfl, rfl⟩))
  go_ret
  exact ⟨rfl, rfl⟩
set_option maxRecDepth 100000 in
theorem op148 (a b : Int) (w : World) : Calls Tryz.prog 148 #[I a, I b] w fun e w' => e = .returned (I (divF a b)) ∧ w' = w := by
  by_cases hb : b = 0
  · have hv : divF a b = -1 := by unfold divF; rw [if_pos hb]
    rw [hv]
    subst hb
    go_enter Tryz.func148, Tryz.ntmps148
    go_wp2
    go_ret
    exact ⟨rfl, rfl⟩
  · have hv : divF a b = wrap64 (a.tdiv b) := by unfold divF; rw [if_neg hb]
    rw [hv]
    have hb2 : (b == 0) = false := beq_eq_false_iff_ne.2 hb
    go_enter Tryz.func148, Tryz.ntmps148
    go_wp2
    go_ret
    exact ⟨rfl, rfl⟩
set_option maxRecDepth 100000 in
theorem op149 (a b : Int) (w : World) : Calls Tryz.prog 149 #[I a, I b] w fun e w' => e = .returned (I (remF a b)) ∧ w' = w := by
  by_cases hb : b = 0
  · have hv : remF a b = a := by unfold remF; rw [if_pos hb]
    rw [hv]
    subst hb
    go_enter Tryz.func149, Tryz.ntmps149
    go_wp2
    go_ret
    exact ⟨rfl, rfl⟩
  · have hv : remF a b = a.tmod b := by unfold remF; rw [if_neg hb]
    rw [hv]
    have hb2 : (b == 0) = false := beq_eq_false_iff_ne.2 hb
    go_enter Tryz.func149, Tryz.ntmps149
    go_wp2
    go_ret
    exact ⟨rfl, rfl⟩
set_option maxRecDepth 100000 in
theorem op162 (a : Int) (w : World) : Calls Tryz.prog 162 #[I a] w fun e w' => e = .returned (I (wrap64 (-a))) ∧ w' = w := by
  go_enter Tryz.func162, Tryz.ntmps162
  go_wp2_with (first
    | (go_at_call 156; refine (aflag_any _ _).mono ?_; rintro e' w1 ⟨rfl, rfl⟩))
  go_ret
  exact ⟨rfl, rfl⟩
set_option maxRecDepth 100000 in
theorem op163 (a : Int) (w : World) : Calls Tryz.prog 163 #[I a] w fun e w' => e = .returned (I (flagI (a == 0))) ∧ w' = w := by
  go_enter Tryz.func163, Tryz.ntmps163
  go_wp2_with (first
    | (go_at_call 156; refine (aflag_any _ _).mono ?_; rintro e' w1 ⟨rfl, rfl⟩))
  go_ret
  exact ⟨rfl, rfl⟩
set_option maxRecDepth 100000 in
theorem op164 (a : Int) (w : World) : Calls Tryz.prog 164 #[I a] w fun e w' => e = .returned (I (bits .xor .i64 (-1) a)) ∧ w' = w := by
  go_enter Tryz.func164, Tryz.ntmps164
  go_wp2_with (first
    | (go_at_call 156; refine (aflag_any _ _).mono ?_; rintro e' w1 ⟨rfl, rfl⟩))
  go_ret
  exact ⟨rfl, rfl⟩
def twoF (op a b : Int) : Int :=
  if op = 1 then wrap64 (a + b)
  else if op = 2 then wrap64 (a - b)
  else if op = 3 then wrap64 (a * b)
  else if op = 4 then divF a b
  else if op = 5 then remF a b
  else if op = 6 then bits .and .i64 a b
  else if op = 7 then bits .or .i64 a b
  else if op = 8 then bits .xor .i64 a b
  else if op = 9 then wrap64 (a * 2 ^ sh63 b)
  else if op = 10 then a / 2 ^ sh63 b
  else if op = 11 then flagI (decide (a < b))
  else if op = 12 then flagI (decide (a ≤ b))
  else if op = 13 then flagI (decide (b < a))
  else if op = 14 then flagI (decide (b ≤ a))
  else if op = 15 then flagI (a == b)
  else flagI (a != b)
def oneF (op a : Int) : Int := if op = 17 then wrap64 (-a) else if op = 18 then flagI (a == 0) else bits .xor .i64 (-1) a
def twoI (op a b : Int) : Option Int := if op < 1 ∨ 16 < op then none else if b = 0 ∧ (op = 4 ∨ op = 5) then none else some (twoF op a b)
def oneI (op a : Int) : Option Int := if op < 17 ∨ 19 < op then none else some (oneF op a)
theorem two_calls (op : Int) (h : 1 ≤ op ∧ op ≤ 16) (a b : Int) (w : World) : Calls Tryz.prog (twoN op) #[I a, I b] w fun e w' => e = .returned (I (twoF op a b)) ∧ w' = w := by
  rcases (by omega : op = 1 ∨ op = 2 ∨ op = 3 ∨ op = 4 ∨ op = 5 ∨ op = 6 ∨ op = 7 ∨ op = 8 ∨ op = 9 ∨ op = 10 ∨ op = 11 ∨ op = 12 ∨ op = 13 ∨ op = 14 ∨ op = 15 ∨ op = 16) with rfl | rfl | rfl | rfl | rfl | rfl | rfl | rfl | rfl | rfl | rfl | rfl | rfl | rfl | rfl | rfl
  · exact op145 a b w
  · exact op146 a b w
  · exact op147 a b w
  · exact op148 a b w
  · exact op149 a b w
  · exact op150 a b w
  · exact op151 a b w
  · exact op152 a b w
  · exact op153 a b w
  · exact op154 a b w
  · exact op155 a b w
  · exact op157 a b w
  · exact op158 a b w
  · exact op159 a b w
  · exact op160 a b w
  · exact op161 a b w
theorem one_calls (op : Int) (h : 17 ≤ op ∧ op ≤ 19) (a : Int) (w : World) : Calls Tryz.prog (oneN op) #[I a] w fun e w' => e = .returned (I (oneF op a)) ∧ w' = w := by
  rcases (by omega : op = 17 ∨ op = 18 ∨ op = 19) with rfl | rfl | rfl
  · exact op162 a w
  · exact op163 a w
  · exact op164 a w
end Go.Proofs.YtjgbkdbkachciaaGreatDoor
