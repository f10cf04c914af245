import Derived.Test.YtdlcpmjhngfgkaaA2
namespace Go.Proofs.Ytdlcpmjhngfgkaa
open Go.RowKit

theorem havingOf_at (k h : Int) (w : World) (hk : havI k = h) :
    Calls Try.prog 50 #[.int .i64 k] w fun e w' => e = .returned (.int .i64 h) ∧ w = w' := hk ▸ havingOf_any k w

set_option maxHeartbeats 400000 in
theorem has_any (a b : Int) (w : World) :
    Calls Try.prog 51 #[.int .i64 a, .int .i64 b] w fun e w' => e = .returned (.bool (bits BinOp.and IntKind.i64 a b != 0)) ∧ w = w' := by
  go_enter Try.func51, Try.ntmps51
  go_wp2
  go_ret
  exact ⟨rfl, rfl⟩
theorem has_at (a b : Int) (r : Bool) (w : World) (h : (bits BinOp.and IntKind.i64 a b != 0) = r) :
    Calls Try.prog 51 #[.int .i64 a, .int .i64 b] w fun e w' => e = .returned (.bool r) ∧ w = w' := h ▸ has_any a b w

theorem havI_cases (k : Int) : (k = 1 ∧ havI k = 33) ∨ (k = 2 ∧ havI k = 3) ∨ (k = 3 ∧ havI k = 11) ∨ (k = 4 ∧ havI k = 23) ∨ (k = 5 ∧ havI k = 67) ∨
    (k = 6 ∧ havI k = 70) ∨ (k = 7 ∧ havI k = 1) ∨ (k = 8 ∧ havI k = 2) ∨ (k = 9 ∧ havI k = 129) ∨ ((k < 1 ∨ 9 < k) ∧ havI k = 0) := by
  have hk : k = 1 ∨ k = 2 ∨ k = 3 ∨ k = 4 ∨ k = 5 ∨ k = 6 ∨ k = 7 ∨ k = 8 ∨ k = 9 ∨ (k < 1 ∨ 9 < k) := by omega
  rcases hk with rfl | rfl | rfl | rfl | rfl | rfl | rfl | rfl | rfl | h
  · exact .inl ⟨rfl, rfl⟩
  · exact .inr (.inl ⟨rfl, rfl⟩)
  · exact .inr (.inr (.inl ⟨rfl, rfl⟩))
  · exact .inr (.inr (.inr (.inl ⟨rfl, rfl⟩)))
  · exact .inr (.inr (.inr (.inr (.inl ⟨rfl, rfl⟩))))
  · exact .inr (.inr (.inr (.inr (.inr (.inl ⟨rfl, rfl⟩)))))
  · exact .inr (.inr (.inr (.inr (.inr (.inr (.inl ⟨rfl, rfl⟩))))))
  · exact .inr (.inr (.inr (.inr (.inr (.inr (.inr (.inl ⟨rfl, rfl⟩)))))))
  · exact .inr (.inr (.inr (.inr (.inr (.inr (.inr (.inr (.inl ⟨rfl, rfl⟩))))))))
  · refine .inr (.inr (.inr (.inr (.inr (.inr (.inr (.inr (.inr ⟨h, ?_⟩))))))))
    unfold havI
    rw [if_neg (by omega), if_neg (by omega), if_neg (by omega), if_neg (by omega), if_neg (by omega), if_neg (by omega), if_neg (by omega), if_neg (by omega), if_neg (by omega)]

def RetInt (w : World) (x : Int) (e : Ending) (w' : World) : Prop := e = .returned (.int .i64 x) ∧ Below w.heap.size w w'

set_option maxHeartbeats 1000000 in
theorem irSets_any (k d a b op n : Int) (nm : ByteArray) (ag : Value) (w : World) :
    Calls Try.prog 34 #[.agg #[.int .i64 k, .int .i64 d, .int .i64 a, .int .i64 b, .int .i64 op, .int .i64 n, .string nm, ag]] w (RetInt w (setsI k d)) := by
  rcases havI_cases k with ⟨h, g⟩ | ⟨h, g⟩ | ⟨h, g⟩ | ⟨h, g⟩ | ⟨h, g⟩ | ⟨h, g⟩ | ⟨h, g⟩ | ⟨h, g⟩ | ⟨h, g⟩ | ⟨h, g⟩
  all_goals
    have G := Lib.hid g
    have H := Lib.hid h
    clear g h
    go_enter Try.func34, Try.ntmps34
    go_wp2_with (first | (go_at_call 50; refine (havingOf_at _ _ _ G.out).mono ?_; rintro e w' ⟨rfl, rfl⟩) | (go_at_call 51; refine (has_at _ _ true _ (by decide +kernel)).mono ?_; rintro e w' ⟨rfl, rfl⟩) | (go_at_call 51; refine (has_at _ _ false _ (by decide +kernel)).mono ?_; rintro e w' ⟨rfl, rfl⟩))
    go_ret
    refine ⟨ret_int ?_, below_a1 _ _⟩
    have h := H.out
    unfold setsI
    first
    | (rw [if_neg (by omega)]; done)
    | (rw [if_pos (by omega)])

end Go.Proofs.Ytdlcpmjhngfgkaa
