import Derived.Test.YtdlcpmjhngfgkaaJ3
namespace Go.Proofs.Ytdlcpmjhngfgkaa
open Go.RowKit Go.Shelf
attribute [local go_sem] Oper.semAt_some

set_option maxRecDepth 100000 in
set_option maxHeartbeats 8000000 in
theorem may16_any (f : LFlow) (bv : Value) (w : World) (hf : Fine w f bv) : Calls Try.prog 10 #[f.agg bv] w (BoolIs (rmayB f = true) w) := by
  obtain ⟨a0, c0, rfl, hlen⟩ := RSl.form hf.blocks
  have HF := Lib.hid hf
  have hfl := hf.len
  clear hf
  have hn0 := eql58
  have hn1 := neq58
  cases hm : mayB f.blocks
  · have hpos : 0 < f.blocks.length := by
      cases hb : f.blocks with
      | nil => rw [hb] at hm; cases hm
      | cons x r => simp
    have hz : (((f.blocks.length : Nat) : Int) == 0) = false := by rw [beq_eq_false_iff_ne]; omega
    have hno : ¬ rmayB f = true := fun h => by
      unfold rmayB at h
      rw [hm] at h
      simp at h
    have HNO := Lib.hid hno
    have HM := Lib.hid hm
    clear hm hno
    go_enter Try.func10, Try.ntmps10
    go_wp2_with (first
      | (go_at_call 21; refine (live13_no f _ _ (HF.out.below (below_a1 _ _)) HM.out).mono ?_; rintro e w1 ⟨rfl, hb1⟩; rw [World.size_alloc] at hb1; have hl1 := hb1.size; rw [World.size_alloc] at hl1; have hk1 := (hb1.block w.heap.size (by omega)).trans (heap_new _ _); obtain ⟨d0, d1, d2, d3⟩ := flow_cells hk1; have HB1 := Lib.hid hb1; clear hb1 hk1))
    go_ret
    exact boolIs_no HNO.out ((below_a1 w _).trans (HB1.out.mono (by simp)))
  · have HM := Lib.hid hm
    clear hm
    by_cases hbad : f.values < 0 ∨ 50000 < f.values
    · have hno : ¬ rmayB f = true := fun h1 => by
        unfold rmayB at h1
        simp only [Bool.and_eq_true, decide_eq_true_eq] at h1
        omega
      have HNO := Lib.hid hno
      clear hno
      rcases (by omega : ¬ 0 ≤ f.values ∨ (0 ≤ f.values ∧ ¬ f.values ≤ 50000)) with h | ⟨h, h2⟩
      all_goals
        clear hbad
        go_enter Try.func10, Try.ntmps10
        go_wp2_with (first
          | (go_at_call 21; refine (live13_yes f _ _ (HF.out.below (below_a1 _ _)) HM.out).mono ?_; rintro e w1 ⟨g1, L1, rfl, hg1, hlv1, hb1⟩; rw [World.size_alloc] at hb1; have hl1 := hb1.size; rw [World.size_alloc] at hl1; have hk1 := (hb1.block w.heap.size (by omega)).trans (heap_new _ _); obtain ⟨d0, d1, d2, d3⟩ := flow_cells hk1; have HB1 := Lib.hid hb1; clear hb1 hk1 hlv1))
        go_ret
        exact boolIs_no HNO.out ((below_a1 w _).trans (HB1.out.mono (by simp)))
    · have hv0 : 0 ≤ f.values := by omega
      have hv1 : f.values ≤ 50000 := by omega
      clear hbad
      go_enter Try.func10, Try.ntmps10
      go_wp2_with (first
        | (go_at_call 21; refine (live13_yes f _ _ (HF.out.below (below_a1 _ _)) HM.out).mono ?_; rintro e w1 ⟨g1, Ls, rfl, hg1, hlv1, hb1⟩; rw [World.size_alloc] at hb1; have hl1 := hb1.size; rw [World.size_alloc] at hl1; have hk1 := (hb1.block w.heap.size (by omega)).trans (heap_new _ _); obtain ⟨d0, d1, d2, d3⟩ := flow_cells hk1; have hbw1 : Below w.heap.size w w1 := (below_a1 w _).trans (hb1.mono (by omega)); have HBW := Lib.hid hbw1; have hzw := hbw1.size; clear hb1 hk1 hbw1 hlv1)
        | (go_at_call 22; refine (within16_any f _ _ (HF.out.below HBW.out)).mono ?_; rintro e w2 ⟨r2, rfl, hr2, hb2⟩; have HR2 := Lib.hid hr2; have HB2 := Lib.hid hb2; clear hb2 hr2))
      go_ret
      refine ⟨r2, rfl, ?_, HBW.out.trans (HB2.out.mono hzw)⟩
      rw [HR2.out]
      unfold rmayB
      simp only [Bool.and_eq_true, decide_eq_true_eq, Bool.not_eq_true', List.any_eq_false]
      constructor
      · intro h
        refine ⟨⟨⟨by omega, by omega⟩, HM.out⟩, fun v hv => ?_⟩
        have := h v hv
        simpa using this
      · intro h v hv
        have := h.2 v hv
        simpa using this
end Go.Proofs.Ytdlcpmjhngfgkaa
