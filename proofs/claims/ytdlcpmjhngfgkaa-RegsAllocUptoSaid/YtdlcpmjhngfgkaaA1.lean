import Derived.Test.YtdlcpmjhngfgkaaProg
import Derived.WalkKit
import Derived.WalkSpells
import Derived.WalkLawsBesides
import Derived.Lib.Hide
namespace Go.Proofs.Ytdlcpmjhngfgkaa
open Go.RowKit

def InI (c : Int) : Prop := -9223372036854775808 ≤ c ∧ c ≤ 9223372036854775807

def pickI (c n : Int) : Int := if c < 0 then (-(c + 1)) % n else c % n
theorem pickI_nonneg (c n : Int) (hn : 1 ≤ n) : 0 ≤ pickI c n ∧ pickI c n < n := by
  unfold pickI; split
  · exact ⟨Int.emod_nonneg _ (by omega), Int.emod_lt_of_pos _ (by omega)⟩
  · exact ⟨Int.emod_nonneg _ (by omega), Int.emod_lt_of_pos _ (by omega)⟩

theorem ret_int {k : IntKind} {a b : Int} (h : a = b) : Ending.returned (.int k a) = .returned (.int k b) := by rw [h]

set_option maxHeartbeats 400000 in
theorem pick_any (c n : Int) (w : World) (hc : InI c) (hn : 1 ≤ n) (hn2 : n ≤ 1000000) :
    Calls Try.prog 28 #[.int .i64 c, .int .i64 n] w fun e w' => e = .returned (.int .i64 (pickI c n)) ∧ w = w' := by
  obtain ⟨h1, h2⟩ := hc
  by_cases h : c < 0
  · go_enter Try.func28, Try.ntmps28
    go_wp2
    go_ret
    exact ⟨ret_int (by rw [pickI, if_pos h, ← Int.neg_tmod, Int.tmod_eq_emod_of_nonneg (by omega)]), rfl⟩
  · go_enter Try.func28, Try.ntmps28
    go_wp2
    go_ret
    exact ⟨ret_int (by rw [pickI, if_neg (by omega)]), rfl⟩

set_option maxHeartbeats 400000 in
theorem pick16_any (c n : Int) (w : World) (hc : InI c) (hn : 1 ≤ n) (hn2 : n ≤ 1000000) :
    Calls Try.prog 7 #[.int .i64 c, .int .i64 n] w fun e w' => e = .returned (.int .i64 (pickI c n)) ∧ w = w' := by
  obtain ⟨h1, h2⟩ := hc
  by_cases h : c < 0
  · go_enter Try.func7, Try.ntmps7
    go_wp2
    go_ret
    exact ⟨ret_int (by rw [pickI, if_pos h, ← Int.neg_tmod, Int.tmod_eq_emod_of_nonneg (by omega)]), rfl⟩
  · go_enter Try.func7, Try.ntmps7
    go_wp2
    go_ret
    exact ⟨ret_int (by rw [pickI, if_neg (by omega)]), rfl⟩

/-- what a kind has -/
def havI (k : Int) : Int :=
  if k = 1 then 33 else if k = 2 then 3 else if k = 3 then 11 else if k = 4 then 23 else if k = 5 then 67 else if k = 6 then 70
  else if k = 7 then 1 else if k = 8 then 2 else if k = 9 then 129 else 0

set_option maxHeartbeats 400000 in
theorem havingOf_any (k : Int) (w : World) :
    Calls Try.prog 50 #[.int .i64 k] w fun e w' => e = .returned (.int .i64 (havI k)) ∧ w = w' := by
  go_enter Try.func50, Try.ntmps50
  go_wp2
  all_goals (go_ret; refine ⟨ret_int ?_, rfl⟩; unfold havI; simp_all)

end Go.Proofs.Ytdlcpmjhngfgkaa
