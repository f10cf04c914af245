import Derived.Test.YtdlcpmjhngfgkaaG0
namespace Go.Proofs.Ytdlcpmjhngfgkaa
open Go.RowKit Go.Shelf
attribute [local go_sem] Oper.semAt_some

set_option maxRecDepth 100000 in
set_option maxHeartbeats 4000000 in
/-- too many registers, or fewer than none: nothing -/
theorem alloc_no (f : LFlow) (bv : Value) (w : World) (hf : Fine w f bv) (reg : Int) (hreg : reg < 0 ∨ 32 < reg) (hin : InI reg) :
    Calls Try.prog 9 #[f.agg bv, I reg] w fun e w' => e = .returned (.slice none 0 0) ∧ Below w.heap.size w w' := by
  obtain ⟨a0, c0, rfl, hlen⟩ := RSl.form hf.blocks
  have HF := Lib.hid hf
  clear hf
  unfold InI at hin
  cases hm : rmayB f
  · have HM := Lib.hid hm
    clear hm
    go_enter Try.func9, Try.ntmps9
    go_wp2_with (first
      | (go_at_call 15; refine (rmay_any f _ _ (HF.out.below (below_a1 _ _))).mono ?_; rintro e w1 ⟨rfl, hb1⟩; rw [HM.out]; have HB1 := Lib.hid hb1; clear hb1))
    go_ret
    exact ⟨rfl, (below_a1 w _).trans (HB1.out.mono (by simp))⟩
  · have HM := Lib.hid hm
    clear hm
    by_cases h0 : reg < 0
    · go_enter Try.func9, Try.ntmps9
      go_wp2_with (first
        | (go_at_call 15; refine (rmay_any f _ _ (HF.out.below (below_a1 _ _))).mono ?_; rintro e w1 ⟨rfl, hb1⟩; rw [HM.out]; have HB1 := Lib.hid hb1; clear hb1))
      go_ret
      exact ⟨rfl, (below_a1 w _).trans (HB1.out.mono (by simp))⟩
    · have h32 : 32 < reg := by omega
      clear hreg
      go_enter Try.func9, Try.ntmps9
      go_wp2_with (first
        | (go_at_call 15; refine (rmay_any f _ _ (HF.out.below (below_a1 _ _))).mono ?_; rintro e w1 ⟨rfl, hb1⟩; rw [HM.out]; have HB1 := Lib.hid hb1; clear hb1))
      go_ret
      exact ⟨rfl, (below_a1 w _).trans (HB1.out.mono (by simp))⟩

theorem alloc_len (f : LFlow) (bv : Value) (w : World) (hf : Fine w f bv) (hm : rmayB f = true) (n : Nat) (hv : f.values = n) (hn : n < 20) (reg : Nat) (hreg : reg ≤ 32) :
    Calls Try.prog 9 #[f.agg bv, I reg] w fun e w' => ∃ g, e = .returned (.slice (some ⟨g, 0, none⟩) n n) ∧ Below w.heap.size w w' :=
  (alloc_any f bv w hf hm n hv (sortOk_short hn) reg hreg).mono fun _ _ ⟨g, _, h1, _, _, _, h2⟩ => ⟨g, h1, h2⟩

theorem fits_yes (f : LFlow) (bv : Value) (w : World) (hf : Fine w f bv) (lv : Value) (l : List Int) (hl : RInts w lv l) (h : FitsS f l) :
    Calls Try.prog 12 #[f.agg bv, lv] w fun e w' => e = .returned (.bool true) ∧ Below w.heap.size w w' :=
  (fits_any f bv w hf lv l hl).mono fun _ _ ⟨r, he, hr, hb⟩ => ⟨by rw [he, hr.2 h], hb⟩
theorem fits_no (f : LFlow) (bv : Value) (w : World) (hf : Fine w f bv) (lv : Value) (l : List Int) (hl : RInts w lv l) (h : ¬ FitsS f l) :
    Calls Try.prog 12 #[f.agg bv, lv] w fun e w' => e = .returned (.bool false) ∧ Below w.heap.size w w' :=
  (fits_any f bv w hf lv l hl).mono fun _ _ ⟨r, he, hr, hb⟩ => ⟨by cases r with | false => exact he | true => exact absurd (hr.1 rfl) h, hb⟩

/-- the example lies in memory -/
structure ExAt (w : World) (g : Nat) (W : World) : Prop where
  below : Below w.heap.size w W
  ins : Row W w.heap.size 41 [I 4, I 1, I 0, I 0, I 1, I 0, .string ⟨#[]⟩, .slice none 0 0]
  blk : Row W (w.heap.size + 1) 46 [.slice (some ⟨w.heap.size, 0, none⟩) 1 1, I 3, I 1, I 0, I 0]
  box : Row W (w.heap.size + 1 + 1) 24 [.string ⟨#[102]⟩, I 1, I 2, .slice (some ⟨w.heap.size + 1, 0, none⟩) 1 1]
theorem ExAt.ext {w W W' : World} {g : Nat} (h : ExAt w g W) (hb : Below W.heap.size W W') : ExAt w g W' :=
  ⟨h.below.trans (hb.mono h.below.size), h.ins.ext hb, h.blk.ext hb, h.box.ext hb⟩
theorem ExAt.fine {w W : World} {g : Nat} (h : ExAt w g W) : Fine W exFlow (.slice (some ⟨w.heap.size + 1, 0, none⟩) 1 1) := by
  have hin : ∀ v : Int, -10 ≤ v ∧ v ≤ 10 → InI v := fun v hv => by unfold InI; omega
  refine ⟨⟨_, 1, rfl, by decide, .inr ⟨w.heap.size + 1, 0, rfl, fun i x hx => ?_⟩⟩, by decide, by decide, by decide, fun b hb => ?_⟩
  · have : i = 0 ∧ x = exBlk := by
      cases i with
      | zero => simp [exFlow] at hx; exact ⟨rfl, hx.symm⟩
      | succ i => simp [exFlow] at hx
    obtain ⟨rfl, rfl⟩ := this
    refine ⟨fun j => ([.slice (some ⟨w.heap.size, 0, none⟩) 1 1, I 3, I 1, I 0, I 0] : List Value).getD j undef, fun j hj => ?_, rfl, rfl, rfl, rfl, ⟨⟨_, 1, rfl, by decide, .inr ⟨w.heap.size, 0, rfl, fun i x hx => ?_⟩⟩, ⟨hin 1 (by omega), hin 0 (by omega), hin 0 (by omega)⟩⟩⟩
    · simp only [Nat.zero_add, Nat.zero_mul]
      rw [h.blk.cell]
      rcases (by omega : j = 0 ∨ j = 1 ∨ j = 2 ∨ j = 3 ∨ j = 4) with rfl | rfl | rfl | rfl | rfl <;> rfl
    · have : i = 0 ∧ x = exIns := by
        cases i with
        | zero => simp [exBlk] at hx; exact ⟨rfl, hx.symm⟩
        | succ i => simp [exBlk] at hx
      obtain ⟨rfl, rfl⟩ := this
      refine ⟨fun j => ([I 4, I 1, I 0, I 0, I 1, I 0, .string ⟨#[]⟩, .slice none 0 0] : List Value).getD j undef, fun j hj => ?_, rfl, rfl, rfl, rfl, rfl, rfl, rfl, ⟨hin 1 (by omega), hin 0 (by omega), hin 0 (by omega), ⟨none, 0, rfl, by decide, .inl rfl⟩, by decide⟩⟩
      simp only [Nat.zero_add, Nat.zero_mul]
      rw [h.ins.cell]
      rcases (by omega : j = 0 ∨ j = 1 ∨ j = 2 ∨ j = 3 ∨ j = 4 ∨ j = 5 ∨ j = 6 ∨ j = 7) with rfl | rfl | rfl | rfl | rfl | rfl | rfl | rfl <;> rfl
  · have : b = exBlk := by simpa [exFlow] using hb
    subst this
    decide
end Go.Proofs.Ytdlcpmjhngfgkaa
