import Derived.Test.YtdlcpmjhngfgkaaG1
namespace Go.Proofs.Ytdlcpmjhngfgkaa
open Go.RowKit Go.Shelf
attribute [local go_sem] Oper.semAt_some

/-- what the example's cells read -/
def exAgg (w : World) : Value := .agg #[.string ⟨#[102]⟩, .int .i64 1, .int .i64 2, .slice (some ⟨w.heap.size + 1, 0, none⟩) 1 1]
section
variable {w W : World}
theorem exA (h : ExAt w 0 W) (reg : Nat) (hreg : reg ≤ 32) : Calls Try.prog 9 #[exAgg w, .int .i64 reg] W fun e w' => ∃ g, e = .returned (.slice (some ⟨g, 0, none⟩) 2 2) ∧ ExAt w 0 w' :=
  (alloc_len exFlow _ W h.fine ex_may 2 rfl (by omega) reg hreg).mono fun _ _ ⟨g, h1, h2⟩ => ⟨g, h1, h.ext h2⟩
theorem exA33 (h : ExAt w 0 W) : Calls Try.prog 9 #[exAgg w, .int .i64 33] W fun e w' => e = .returned (.slice none 0 0) ∧ ExAt w 0 w' :=
  (alloc_no exFlow _ W h.fine 33 (by omega) (by unfold InI; omega)).mono fun _ _ ⟨h1, h2⟩ => ⟨h1, h.ext h2⟩
theorem exY (h : ExAt w 0 W) : Calls Try.prog 12 #[exAgg w, .slice (some ⟨W.heap.size, 0, none⟩) 2 2] (W.alloc (.cells #[.int .i64 0, .int .i64 0] 3)) fun e w' => e = .returned (.bool true) ∧ ExAt w 0 w' := by
  have hx := h.ext (below_a1 W (.cells #[.int .i64 0, .int .i64 0] 3))
  have hr : Row (W.alloc (.cells #[.int .i64 0, .int .i64 0] 3)) W.heap.size 3 (([0, 0] : List Int).map I) := heap_new _ _
  exact (fits_yes exFlow _ _ hx.fine _ _ (hr.ints (by simp [InI]) (by decide) 2) ex_fits).mono fun _ _ ⟨h1, h2⟩ => ⟨h1, hx.ext h2⟩
theorem exN (h : ExAt w 0 W) : Calls Try.prog 12 #[exAgg w, .slice (some ⟨W.heap.size, 0, none⟩) 1 1] (W.alloc (.cells #[.int .i64 0] 3)) fun e w' => e = .returned (.bool false) ∧ ExAt w 0 w' := by
  have hx := h.ext (below_a1 W (.cells #[.int .i64 0] 3))
  have hr : Row (W.alloc (.cells #[.int .i64 0] 3)) W.heap.size 3 (([0] : List Int).map I) := heap_new _ _
  exact (fits_no exFlow _ _ hx.fine _ _ (hr.ints (by simp [InI]) (by decide) 1) ex_not).mono fun _ _ ⟨h1, h2⟩ => ⟨h1, hx.ext h2⟩
theorem exS3 (h : ExAt w 0 W) : Calls Try.prog 13 #[.slice (some ⟨W.heap.size, 0, none⟩) 3 3] (W.alloc (.cells #[.int .i64 0, .int .i64 (-3), .int .i64 (-1)] 3)) fun e w' => e = .returned (.int .i64 3) ∧ ExAt w 0 w' := by
  have hx := h.ext (below_a1 W (.cells #[.int .i64 0, .int .i64 (-3), .int .i64 (-1)] 3))
  have hr : Row (W.alloc (.cells #[.int .i64 0, .int .i64 (-3), .int .i64 (-1)] 3)) W.heap.size 3 (([0, -3, -1] : List Int).map I) := heap_new _ _
  exact (slots_any _ _ _ (hr.ints (by simp [InI]) (by decide) 3) (by simp)).mono fun _ _ ⟨h1, h2⟩ => ⟨h1, h2 ▸ hx⟩
theorem exS0 (h : ExAt w 0 W) : Calls Try.prog 13 #[.slice none 0 0] W fun e w' => e = .returned (.int .i64 0) ∧ ExAt w 0 w' :=
  (slots_any W (.slice none 0 0) [] ⟨none, 0, rfl, by decide, .inl rfl⟩ (by simp)).mono fun _ _ ⟨h1, h2⟩ => ⟨h1, h2 ▸ h⟩
end

theorem ExAt.cells {w W : World} (h : ExAt w 0 W) : W.cell? ⟨w.heap.size + 1 + 1, 0, none⟩ = some (.string ⟨#[102]⟩) ∧ W.cell? ⟨w.heap.size + 1 + 1, 1, none⟩ = some (.int .i64 1) ∧ W.cell? ⟨w.heap.size + 1 + 1, 2, none⟩ = some (.int .i64 2) ∧ W.cell? ⟨w.heap.size + 1 + 1, 3, none⟩ = some (.slice (some ⟨w.heap.size + 1, 0, none⟩) 1 1) :=
  ⟨h.box.cell 0, h.box.cell 1, h.box.cell 2, h.box.cell 3⟩

set_option maxRecDepth 100000 in
set_option maxHeartbeats 4000000 in
theorem awake_any (w : World) : Calls Try.prog 6 #[] w fun e w' => e = .returned (.bool true) ∧ Below w.heap.size w w' := by
  have hex : ExAt w 0 (((w.alloc (.cells #[.int .i64 4, .int .i64 1, .int .i64 0, .int .i64 0, .int .i64 1, .int .i64 0, .string ⟨#[]⟩, .slice none 0 0] 41)).alloc (.cells #[.slice (some ⟨w.heap.size, 0, none⟩) 1 1, .int .i64 3, .int .i64 1, .int .i64 0, .int .i64 0] 46)).alloc (.cells #[.string ⟨#[102]⟩, .int .i64 1, .int .i64 2, .slice (some ⟨w.heap.size + 1, 0, none⟩) 1 1] 24)) := by
    refine ⟨(below_a2 _ _ _).alloc (by simp; omega) _, heap_old _ _ (heap_old _ _ (heap_new _ _)), heap_old _ _ (heap_new2 _ _ _), ?_⟩
    have := heap_new ((w.alloc (.cells #[.int .i64 4, .int .i64 1, .int .i64 0, .int .i64 0, .int .i64 1, .int .i64 0, .string ⟨#[]⟩, .slice none 0 0] 41)).alloc (.cells #[.slice (some ⟨w.heap.size, 0, none⟩) 1 1, .int .i64 3, .int .i64 1, .int .i64 0, .int .i64 0] 46))
    have h2 := this (.cells #[.string ⟨#[102]⟩, .int .i64 1, .int .i64 2, .slice (some ⟨w.heap.size + 1, 0, none⟩) 1 1] 24)
    simp only [World.size_alloc] at h2
    exact h2
  have HE0 := Lib.hid hex
  clear hex
  go_enter Try.func6, Try.ntmps6
  go_wp2_with (first
    | (go_at_call 9; refine (exA HE0.out 1 (by omega)).mono ?_; rintro e w1 ⟨g1, rfl, hx⟩; obtain ⟨p0, p1, p2, p3⟩ := hx.cells; have HE1 := Lib.hid hx; clear hx HE0)
    | (go_at_call 12; refine (exY HE1.out).mono ?_; rintro e w2 ⟨rfl, hx⟩; clear p0 p1 p2 p3; obtain ⟨p0, p1, p2, p3⟩ := hx.cells; have HE2 := Lib.hid hx; clear hx HE1)
    | (go_at_call 12; refine (exN HE2.out).mono ?_; rintro e w3 ⟨rfl, hx⟩; clear p0 p1 p2 p3; obtain ⟨p0, p1, p2, p3⟩ := hx.cells; have HE3 := Lib.hid hx; clear hx HE2)
    | (go_at_call 13; refine (exS3 HE3.out).mono ?_; rintro e w4 ⟨rfl, hx⟩; clear p0 p1 p2 p3; obtain ⟨p0, p1, p2, p3⟩ := hx.cells; have HE4 := Lib.hid hx; clear hx HE3)
    | (go_at_call 13; refine (exS0 HE4.out).mono ?_; rintro e w5 ⟨rfl, hx⟩; clear p0 p1 p2 p3; obtain ⟨p0, p1, p2, p3⟩ := hx.cells; have HE5 := Lib.hid hx; clear hx HE4)
    | (go_at_call 9; refine (exA33 HE5.out).mono ?_; rintro e w6 ⟨rfl, hx⟩; clear p0 p1 p2 p3; obtain ⟨p0, p1, p2, p3⟩ := hx.cells; have HE6 := Lib.hid hx; clear hx HE5)
    | (go_at_call 9; refine (exA HE6.out 0 (by omega)).mono ?_; rintro e w7 ⟨g7, rfl, hx⟩; have HE7 := Lib.hid hx; clear hx HE6))
  go_ret
  exact ⟨rfl, HE7.out.below⟩
end Go.Proofs.Ytdlcpmjhngfgkaa
