import Derived.Test.YtdlcpmjhngfgkaaF9
namespace Go.Proofs.Ytdlcpmjhngfgkaa
open Go.RowKit Go.Shelf
attribute [local go_sem] Oper.semAt_some

theorem flatMap_le {α β : Type} {f : α → List β} {c : Nat} : ∀ (l : List α), (∀ x ∈ l, (f x).length ≤ c) → (l.flatMap f).length ≤ l.length * c
  | [], _ => by simp
  | x :: l, h => by
    rw [List.flatMap_cons, List.length_append, List.length_cons, Nat.succ_mul]
    have h1 := h x (by simp)
    have h2 := flatMap_le l (fun y hy => h y (by simp [hy]))
    omega

theorem uses_len {x : LIns} (g : GoodIns x) : x.uses.length ≤ 2 := by
  unfold LIns.uses UseL
  have := g.len
  split
  · simp
  · split
    · simp
    · split
      · exact this
      · simp
theorem uses_good {x : LIns} (g : GoodIns x) : ∀ v ∈ x.uses, 0 ≤ v ∧ v < 10 := by
  intro v hv
  unfold LIns.uses UseL at hv
  split at hv
  · simp at hv; subst hv; exact g.a
  · split at hv
    · simp at hv; rcases hv with rfl | rfl
      · exact g.a
      · exact g.b
    · split at hv
      · exact g.args v hv
      · cases hv
theorem sets_good {x : LIns} (g : GoodIns x) : ∀ v ∈ x.sets, 0 ≤ v ∧ v < 10 := by
  intro v hv
  unfold LIns.sets setsL at hv
  split at hv
  · cases hv
  · simp at hv; subst hv; exact g.d
theorem setsI_good {x : LIns} (g : GoodIns x) : setsI x.kind x.d < 10 := by
  unfold setsI
  split
  · omega
  · exact g.d.2
theorem wants_good {n : Int} {b : LBlock} (g : GoodBlk n b) : ∀ v ∈ b.term.wants, 0 ≤ v ∧ v < 10 := by
  intro v hv
  unfold LTerm.wants wantsL at hv
  split at hv
  · simp at hv; subst hv; exact g.a
  · cases hv
theorem next_good {n : Int} {b : LBlock} (g : GoodBlk n b) : ∀ v ∈ b.term.next, 0 ≤ v ∧ v < n := by
  intro v hv
  unfold LTerm.next nextL at hv
  split at hv
  · simp at hv; rcases hv with rfl | rfl
    · exact g.to
    · exact g.els
  · split at hv
    · simp at hv; subst hv; exact g.to
    · cases hv

theorem GoodFlow.places {i : Nat} {f : LFlow} (g : GoodFlow i f) : ∀ v ∈ placesL f.blocks, v < 10 := by
  intro v hv
  obtain ⟨b, hb, hv⟩ := List.mem_flatMap.1 hv
  have gb := g.blocks b hb
  rcases List.mem_append.1 hv with hv | hv
  · exact (wants_good gb v hv).2
  · obtain ⟨x, hx, hv⟩ := List.mem_flatMap.1 hv
    have gx := gb.ins x hx
    rcases List.mem_append.1 hv with hv | hv
    · exact (uses_good gx v hv).2
    · obtain rfl := List.mem_singleton.1 hv
      exact setsI_good gx
theorem GoodFlow.may {i : Nat} {f : LFlow} (g : GoodFlow i f) : mayB f.blocks = true := by
  unfold mayB
  rw [List.all_eq_true]
  intro b hb
  have gb := g.blocks b hb
  have hpl : ∀ v : Int, 0 ≤ v ∧ v < 10 → placeB v = true := fun v hv => by unfold placeB; simp; omega
  have hno : ∀ (l : List Int), (∀ v ∈ l, 0 ≤ v ∧ v < 10) → (l.any fun v => !placeB v) = false := fun l hl => by
    rw [List.any_eq_false]
    intro v hv
    rw [hpl v (hl v hv)]
    simp
  unfold mayK mayT mayI
  rw [hno _ (wants_good gb)]
  have h1 : (b.term.next.any (farB f.blocks.length)) = false := by
    rw [List.any_eq_false]
    intro v hv
    have := next_good gb v hv
    unfold farB
    simp
    omega
  rw [h1]
  simp only [Bool.not_false, Bool.true_and, List.all_eq_true]
  intro x hx
  rw [hno _ (uses_good (gb.ins x hx)), hno _ (sets_good (gb.ins x hx))]
  rfl
theorem GoodFlow.rmay {i : Nat} {f : LFlow} (g : GoodFlow i f) : rmayB f = true := by
  unfold rmayB
  rw [g.values, g.may]
  have : ((placesL f.blocks).any fun n => decide ((10 : Int) ≤ n)) = false := by
    rw [List.any_eq_false]
    intro v hv
    have := g.places v hv
    simp; omega
  rw [this]
  rfl
theorem GoodFlow.fine {i : Nat} {f : LFlow} (g : GoodFlow i f) {W : World} {bv : Value} (h : RSl 5 RBlk W bv f.blocks) : Fine W f bv := by
  have hl := g.len
  have hu : ∀ b ∈ f.blocks, (blkUses b).length ≤ 13 := fun b hb => by
    have gb := g.blocks b hb
    unfold blkUses
    rw [List.length_append]
    have h1 := flatMap_le (c := 2) (f := LIns.uses) b.ins (fun x hx => uses_len (gb.ins x hx))
    have h2 := b.term.wants_len
    have := gb.len
    omega
  have hp : ∀ b ∈ f.blocks, (plB b).length ≤ 19 := fun b hb => by
    have gb := g.blocks b hb
    unfold plB
    rw [List.length_append]
    have h1 := flatMap_le (c := 3) (f := plI) b.ins (fun x hx => by unfold plI; rw [List.length_append]; have := uses_len (gb.ins x hx); simp; omega)
    have h2 := b.term.wants_len
    have := gb.len
    omega
  have h1 := flatMap_le (c := 13) f.blocks hu
  have h2 := flatMap_le (c := 19) f.blocks hp
  exact ⟨h, by omega, by unfold allUses; omega, by unfold placesL; omega, fun b hb => by have := (g.blocks b hb).len; omega⟩

/-- what is kept fits -/
theorem Kept.fits {f : LFlow} {n reg : Nat} {out : List Int} (h : Kept (MeetS f) n reg out) (hm : rmayB f = true) (hv : f.values = n) : FitsS f out := ⟨hm, by rw [h.len, hv], h.apart⟩

theorem slots_le {n : Nat} : ∀ (l : List Int) (a : Int), 0 ≤ a → a ≤ n → (∀ p ∈ l, -(n : Int) ≤ p) → l.foldl (fun n p => max n (-p)) a ≤ n ∧ 0 ≤ l.foldl (fun n p => max n (-p)) a
  | [], a, h0, h1, _ => ⟨h1, h0⟩
  | p :: l, a, h0, h1, h => slots_le l (max a (-p)) (by omega) (by have := h p (by simp); omega) (fun q hq => h q (by simp [hq]))

/-! ### the example of chapter 16 -/
def exIns : LIns := ⟨4, 1, 0, 0, 1, 0, ⟨#[]⟩, []⟩
def exBlk : LBlock := ⟨[exIns], ⟨3, 1, 0, 0⟩⟩
def exFlow : LFlow := ⟨⟨#[102]⟩, 1, 2, [exBlk]⟩
theorem ex_may : rmayB exFlow = true := by decide
theorem ex_live {i : Nat} {v : Int} (h : LiveS exFlow.blocks i v) : v = 0 := by
  refine h (fun _ v => v = 0) ?_
  intro i b hb v hv
  have : b = exBlk := by
    cases i with
    | zero => simp [exFlow] at hb; exact hb.symm
    | succ i => simp [exFlow] at hb
  subst this
  rcases hv with h1 | ⟨h1, h2⟩
  · simpa [exIns, LIns.uses, UseL] using h1
  · exfalso
    rcases h1 with ⟨k, hk, _⟩ | h1
    · simp [exBlk, LTerm.next, nextL] at hk
    · simp [exBlk, LTerm.wants, wantsL] at h1
      apply h2
      simp [exIns, LIns.sets, setsL, h1]
theorem ex_after {k : Nat} {v : Int} (h : AfterS exBlk (LiveS exFlow.blocks) k v) : v = 1 := by
  have hd : exBlk.ins.drop (k + 1) = [] := by simp [exBlk]
  unfold AfterS at h
  rw [hd] at h
  rcases h with ⟨k, hk, _⟩ | h1
  · simp [exBlk, LTerm.next, nextL] at hk
  · simpa [exBlk, LTerm.wants, wantsL] using h1
theorem ex_meet (p : Int × Int) : ¬ MeetS exFlow p := by
  rintro (⟨i, b, hb, h⟩ | ⟨_, x, hx, hxp, q, hq0, hq1, hne, _⟩)
  · have : b = exBlk := by
      cases i with
      | zero => simp [exFlow] at hb; exact hb.symm
      | succ i => simp [exFlow] at hb
    subst this
    rcases h with ⟨x, hx, y, hy, hne, _⟩ | ⟨k, hk, ⟨x, hx, y, hy, hne, _⟩ | ⟨ins, hi, h0, x, hx, hne, _⟩⟩
    · exact hne ((ex_live hx).trans (ex_live hy).symm)
    · exact hne ((ex_after hx).trans (ex_after hy).symm)
    · have : ins = exIns := by
        cases k with
        | zero => simp [exBlk] at hi; exact hi.symm
        | succ k => simp [exBlk] at hi
      subst this
      exact hne (by rw [ex_after hx]; rfl)
  · have := ex_live hx
    subst this
    simp only [exFlow] at hq1
    apply hne
    omega
theorem ex_fits : FitsS exFlow [0, 0] := ⟨ex_may, rfl, fun _i _j _p _ h => absurd h (ex_meet _)⟩
theorem ex_not : ¬ FitsS exFlow [0] := fun h => by have := h.2.1; simp [exFlow] at this

end Go.Proofs.Ytdlcpmjhngfgkaa

namespace Go.Proofs.Ytdlcpmjhngfgkaa
open Go.RowKit Go.Shelf
attribute [local go_sem] Oper.semAt_some

set_option maxRecDepth 100000 in
set_option maxHeartbeats 4000000 in
/-- too many registers, or fewer than none: nothing -/
theorem alloc_no (f : LFlow) (bv : Value) (w : World) (hf : Fine w f bv) (reg : Int) (hreg : reg < 0 ∨ 32 < reg) (hin : InI reg) :
    Calls Try.prog 9 #[f.agg bv, I reg] w fun e w' => e = .returned (.slice none 0 0) ∧ Below w.heap.size w w' := by
  obtain ⟨a0, c0, rfl, hlen⟩ := RSl.form hf.blocks
  have HF := Lib.hid hf
  clear hf
  unfold InI at hin
  cases hm : rmayB f
  · have HM := Lib.hid hm
    clear hm
    go_enter Try.func9, Try.ntmps9
    go_wp2_with (first
      | (go_at_call 15; refine (rmay_any f _ _ (HF.out.below (below_a1 _ _))).mono ?_; rintro e w1 ⟨rfl, hb1⟩; rw [HM.out]; have HB1 := Lib.hid hb1; clear hb1))
    go_ret
    exact ⟨rfl, (below_a1 w _).trans (HB1.out.mono (by simp))⟩
  · have HM := Lib.hid hm
    clear hm
    by_cases h0 : reg < 0
    · go_enter Try.func9, Try.ntmps9
      go_wp2_with (first
        | (go_at_call 15; refine (rmay_any f _ _ (HF.out.below (below_a1 _ _))).mono ?_; rintro e w1 ⟨rfl, hb1⟩; rw [HM.out]; have HB1 := Lib.hid hb1; clear hb1))
      go_ret
      exact ⟨rfl, (below_a1 w _).trans (HB1.out.mono (by simp))⟩
    · have h32 : 32 < reg := by omega
      clear hreg
      go_enter Try.func9, Try.ntmps9
      go_wp2_with (first
        | (go_at_call 15; refine (rmay_any f _ _ (HF.out.below (below_a1 _ _))).mono ?_; rintro e w1 ⟨rfl, hb1⟩; rw [HM.out]; have HB1 := Lib.hid hb1; clear hb1))
      go_ret
      exact ⟨rfl, (below_a1 w _).trans (HB1.out.mono (by simp))⟩

theorem alloc_len (f : LFlow) (bv : Value) (w : World) (hf : Fine w f bv) (hm : rmayB f = true) (n : Nat) (hv : f.values = n) (hn : n < 20) (reg : Nat) (hreg : reg ≤ 32) :
    Calls Try.prog 9 #[f.agg bv, I reg] w fun e w' => ∃ g, e = .returned (.slice (some ⟨g, 0, none⟩) n n) ∧ Below w.heap.size w w' :=
  (alloc_any f bv w hf hm n hv (sortOk_short hn) reg hreg).mono fun _ _ ⟨g, _, h1, _, _, _, h2⟩ => ⟨g, h1, h2⟩

theorem fits_yes (f : LFlow) (bv : Value) (w : World) (hf : Fine w f bv) (lv : Value) (l : List Int) (hl : RInts w lv l) (h : FitsS f l) :
    Calls Try.prog 12 #[f.agg bv, lv] w fun e w' => e = .returned (.bool true) ∧ Below w.heap.size w w' :=
  (fits_any f bv w hf lv l hl).mono fun _ _ ⟨r, he, hr, hb⟩ => ⟨by rw [he, hr.2 h], hb⟩
theorem fits_no (f : LFlow) (bv : Value) (w : World) (hf : Fine w f bv) (lv : Value) (l : List Int) (hl : RInts w lv l) (h : ¬ FitsS f l) :
    Calls Try.prog 12 #[f.agg bv, lv] w fun e w' => e = .returned (.bool false) ∧ Below w.heap.size w w' :=
  (fits_any f bv w hf lv l hl).mono fun _ _ ⟨r, he, hr, hb⟩ => ⟨by cases r with | false => exact he | true => exact absurd (hr.1 rfl) h, hb⟩

/-- the example lies in memory -/
structure ExAt (w : World) (g : Nat) (W : World) : Prop where
  below : Below w.heap.size w W
  ins : Row W w.heap.size 41 [I 4, I 1, I 0, I 0, I 1, I 0, .string ⟨#[]⟩, .slice none 0 0]
  blk : Row W (w.heap.size + 1) 46 [.slice (some ⟨w.heap.size, 0, none⟩) 1 1, I 3, I 1, I 0, I 0]
  box : Row W (w.heap.size + 1 + 1) 24 [.string ⟨#[102]⟩, I 1, I 2, .slice (some ⟨w.heap.size + 1, 0, none⟩) 1 1]
theorem ExAt.ext {w W W' : World} {g : Nat} (h : ExAt w g W) (hb : Below W.heap.size W W') : ExAt w g W' :=
  ⟨h.below.trans (hb.mono h.below.size), h.ins.ext hb, h.blk.ext hb, h.box.ext hb⟩
theorem ExAt.fine {w W : World} {g : Nat} (h : ExAt w g W) : Fine W exFlow (.slice (some ⟨w.heap.size + 1, 0, none⟩) 1 1) := by
  have hin : ∀ v : Int, -10 ≤ v ∧ v ≤ 10 → InI v := fun v hv => by unfold InI; omega
  refine ⟨⟨_, 1, rfl, by decide, .inr ⟨w.heap.size + 1, 0, rfl, fun i x hx => ?_⟩⟩, by decide, by decide, by decide, fun b hb => ?_⟩
  · have : i = 0 ∧ x = exBlk := by
      cases i with
      | zero => simp [exFlow] at hx; exact ⟨rfl, hx.symm⟩
      | succ i => simp [exFlow] at hx
    obtain ⟨rfl, rfl⟩ := this
    refine ⟨fun j => ([.slice (some ⟨w.heap.size, 0, none⟩) 1 1, I 3, I 1, I 0, I 0] : List Value).getD j undef, fun j hj => ?_, rfl, rfl, rfl, rfl, ⟨⟨_, 1, rfl, by decide, .inr ⟨w.heap.size, 0, rfl, fun i x hx => ?_⟩⟩, ⟨hin 1 (by omega), hin 0 (by omega), hin 0 (by omega)⟩⟩⟩
    · simp only [Nat.zero_add, Nat.zero_mul]
      rw [h.blk.cell]
      rcases (by omega : j = 0 ∨ j = 1 ∨ j = 2 ∨ j = 3 ∨ j = 4) with rfl | rfl | rfl | rfl | rfl <;> rfl
    · have : i = 0 ∧ x = exIns := by
        cases i with
        | zero => simp [exBlk] at hx; exact ⟨rfl, hx.symm⟩
        | succ i => simp [exBlk] at hx
      obtain ⟨rfl, rfl⟩ := this
      refine ⟨fun j => ([I 4, I 1, I 0, I 0, I 1, I 0, .string ⟨#[]⟩, .slice none 0 0] : List Value).getD j undef, fun j hj => ?_, rfl, rfl, rfl, rfl, rfl, rfl, rfl, ⟨hin 1 (by omega), hin 0 (by omega), hin 0 (by omega), ⟨none, 0, rfl, by decide, .inl rfl⟩, by decide⟩⟩
      simp only [Nat.zero_add, Nat.zero_mul]
      rw [h.ins.cell]
      rcases (by omega : j = 0 ∨ j = 1 ∨ j = 2 ∨ j = 3 ∨ j = 4 ∨ j = 5 ∨ j = 6 ∨ j = 7) with rfl | rfl | rfl | rfl | rfl | rfl | rfl | rfl <;> rfl
  · have : b = exBlk := by simpa [exFlow] using hb
    subst this
    decide
end Go.Proofs.Ytdlcpmjhngfgkaa

namespace Go.Proofs.Ytdlcpmjhngfgkaa
open Go.RowKit Go.Shelf
attribute [local go_sem] Oper.semAt_some

/-- what the example's cells read -/
def exAgg (w : World) : Value := .agg #[.string ⟨#[102]⟩, .int .i64 1, .int .i64 2, .slice (some ⟨w.heap.size + 1, 0, none⟩) 1 1]
section
variable {w W : World}
theorem exA (h : ExAt w 0 W) (reg : Nat) (hreg : reg ≤ 32) : Calls Try.prog 9 #[exAgg w, .int .i64 reg] W fun e w' => ∃ g, e = .returned (.slice (some ⟨g, 0, none⟩) 2 2) ∧ ExAt w 0 w' :=
  (alloc_len exFlow _ W h.fine ex_may 2 rfl (by omega) reg hreg).mono fun _ _ ⟨g, h1, h2⟩ => ⟨g, h1, h.ext h2⟩
theorem exA33 (h : ExAt w 0 W) : Calls Try.prog 9 #[exAgg w, .int .i64 33] W fun e w' => e = .returned (.slice none 0 0) ∧ ExAt w 0 w' :=
  (alloc_no exFlow _ W h.fine 33 (by omega) (by unfold InI; omega)).mono fun _ _ ⟨h1, h2⟩ => ⟨h1, h.ext h2⟩
theorem exY (h : ExAt w 0 W) : Calls Try.prog 12 #[exAgg w, .slice (some ⟨W.heap.size, 0, none⟩) 2 2] (W.alloc (.cells #[.int .i64 0, .int .i64 0] 3)) fun e w' => e = .returned (.bool true) ∧ ExAt w 0 w' := by
  have hx := h.ext (below_a1 W (.cells #[.int .i64 0, .int .i64 0] 3))
  have hr : Row (W.alloc (.cells #[.int .i64 0, .int .i64 0] 3)) W.heap.size 3 (([0, 0] : List Int).map I) := heap_new _ _
  exact (fits_yes exFlow _ _ hx.fine _ _ (hr.ints (by simp [InI]) (by decide) 2) ex_fits).mono fun _ _ ⟨h1, h2⟩ => ⟨h1, hx.ext h2⟩
theorem exN (h : ExAt w 0 W) : Calls Try.prog 12 #[exAgg w, .slice (some ⟨W.heap.size, 0, none⟩) 1 1] (W.alloc (.cells #[.int .i64 0] 3)) fun e w' => e = .returned (.bool false) ∧ ExAt w 0 w' := by
  have hx := h.ext (below_a1 W (.cells #[.int .i64 0] 3))
  have hr : Row (W.alloc (.cells #[.int .i64 0] 3)) W.heap.size 3 (([0] : List Int).map I) := heap_new _ _
  exact (fits_no exFlow _ _ hx.fine _ _ (hr.ints (by simp [InI]) (by decide) 1) ex_not).mono fun _ _ ⟨h1, h2⟩ => ⟨h1, hx.ext h2⟩
theorem exS3 (h : ExAt w 0 W) : Calls Try.prog 13 #[.slice (some ⟨W.heap.size, 0, none⟩) 3 3] (W.alloc (.cells #[.int .i64 0, .int .i64 (-3), .int .i64 (-1)] 3)) fun e w' => e = .returned (.int .i64 3) ∧ ExAt w 0 w' := by
  have hx := h.ext (below_a1 W (.cells #[.int .i64 0, .int .i64 (-3), .int .i64 (-1)] 3))
  have hr : Row (W.alloc (.cells #[.int .i64 0, .int .i64 (-3), .int .i64 (-1)] 3)) W.heap.size 3 (([0, -3, -1] : List Int).map I) := heap_new _ _
  exact (slots_any _ _ _ (hr.ints (by simp [InI]) (by decide) 3) (by simp)).mono fun _ _ ⟨h1, h2⟩ => ⟨h1, h2 ▸ hx⟩
theorem exS0 (h : ExAt w 0 W) : Calls Try.prog 13 #[.slice none 0 0] W fun e w' => e = .returned (.int .i64 0) ∧ ExAt w 0 w' :=
  (slots_any W (.slice none 0 0) [] ⟨none, 0, rfl, by decide, .inl rfl⟩ (by simp)).mono fun _ _ ⟨h1, h2⟩ => ⟨h1, h2 ▸ h⟩
end

theorem ExAt.cells {w W : World} (h : ExAt w 0 W) : W.cell? ⟨w.heap.size + 1 + 1, 0, none⟩ = some (.string ⟨#[102]⟩) ∧ W.cell? ⟨w.heap.size + 1 + 1, 1, none⟩ = some (.int .i64 1) ∧ W.cell? ⟨w.heap.size + 1 + 1, 2, none⟩ = some (.int .i64 2) ∧ W.cell? ⟨w.heap.size + 1 + 1, 3, none⟩ = some (.slice (some ⟨w.heap.size + 1, 0, none⟩) 1 1) :=
  ⟨h.box.cell 0, h.box.cell 1, h.box.cell 2, h.box.cell 3⟩

set_option maxRecDepth 100000 in
set_option maxHeartbeats 4000000 in
theorem awake_any (w : World) : Calls Try.prog 6 #[] w fun e w' => e = .returned (.bool true) ∧ Below w.heap.size w w' := by
  have hex : ExAt w 0 (((w.alloc (.cells #[.int .i64 4, .int .i64 1, .int .i64 0, .int .i64 0, .int .i64 1, .int .i64 0, .string ⟨#[]⟩, .slice none 0 0] 41)).alloc (.cells #[.slice (some ⟨w.heap.size, 0, none⟩) 1 1, .int .i64 3, .int .i64 1, .int .i64 0, .int .i64 0] 46)).alloc (.cells #[.string ⟨#[102]⟩, .int .i64 1, .int .i64 2, .slice (some ⟨w.heap.size + 1, 0, none⟩) 1 1] 24)) := by
    refine ⟨(below_a2 _ _ _).alloc (by simp; omega) _, heap_old _ _ (heap_old _ _ (heap_new _ _)), heap_old _ _ (heap_new2 _ _ _), ?_⟩
    have := heap_new ((w.alloc (.cells #[.int .i64 4, .int .i64 1, .int .i64 0, .int .i64 0, .int .i64 1, .int .i64 0, .string ⟨#[]⟩, .slice none 0 0] 41)).alloc (.cells #[.slice (some ⟨w.heap.size, 0, none⟩) 1 1, .int .i64 3, .int .i64 1, .int .i64 0, .int .i64 0] 46))
    have h2 := this (.cells #[.string ⟨#[102]⟩, .int .i64 1, .int .i64 2, .slice (some ⟨w.heap.size + 1, 0, none⟩) 1 1] 24)
    simp only [World.size_alloc] at h2
    exact h2
  have HE0 := Lib.hid hex
  clear hex
  go_enter Try.func6, Try.ntmps6
  go_wp2_with (first
    | (go_at_call 9; refine (exA HE0.out 1 (by omega)).mono ?_; rintro e w1 ⟨g1, rfl, hx⟩; obtain ⟨p0, p1, p2, p3⟩ := hx.cells; have HE1 := Lib.hid hx; clear hx HE0)
    | (go_at_call 12; refine (exY HE1.out).mono ?_; rintro e w2 ⟨rfl, hx⟩; clear p0 p1 p2 p3; obtain ⟨p0, p1, p2, p3⟩ := hx.cells; have HE2 := Lib.hid hx; clear hx HE1)
    | (go_at_call 12; refine (exN HE2.out).mono ?_; rintro e w3 ⟨rfl, hx⟩; clear p0 p1 p2 p3; obtain ⟨p0, p1, p2, p3⟩ := hx.cells; have HE3 := Lib.hid hx; clear hx HE2)
    | (go_at_call 13; refine (exS3 HE3.out).mono ?_; rintro e w4 ⟨rfl, hx⟩; clear p0 p1 p2 p3; obtain ⟨p0, p1, p2, p3⟩ := hx.cells; have HE4 := Lib.hid hx; clear hx HE3)
    | (go_at_call 13; refine (exS0 HE4.out).mono ?_; rintro e w5 ⟨rfl, hx⟩; clear p0 p1 p2 p3; obtain ⟨p0, p1, p2, p3⟩ := hx.cells; have HE5 := Lib.hid hx; clear hx HE4)
    | (go_at_call 9; refine (exA33 HE5.out).mono ?_; rintro e w6 ⟨rfl, hx⟩; clear p0 p1 p2 p3; obtain ⟨p0, p1, p2, p3⟩ := hx.cells; have HE6 := Lib.hid hx; clear hx HE5)
    | (go_at_call 9; refine (exA HE6.out 0 (by omega)).mono ?_; rintro e w7 ⟨g7, rfl, hx⟩; have HE7 := Lib.hid hx; clear hx HE6))
  go_ret
  exact ⟨rfl, HE7.out.below⟩
end Go.Proofs.Ytdlcpmjhngfgkaa

namespace Go.Proofs.Ytdlcpmjhngfgkaa
open Go.RowKit Go.Shelf
attribute [local go_sem] Oper.semAt_some

theorem RRawB.below {w w' : World} {C : Nat → Value} {b : LBlock} (hb : Below w.heap.size w w') (h : RRawB w C b) : RRawB w' C b := by
  obtain ⟨aa, cc, h0, h1, h2, h3, h4, h5⟩ := h
  exact ⟨aa, cc, h0, h1, h2, h3, h4, h5.below hb⟩

theorem pick16_ex (c n : Int) (w : World) (hc : InI c) (hn : 1 ≤ n) (hn2 : n ≤ 1000000) :
    Calls Try.prog 7 #[.int .i64 c, .int .i64 n] w fun e w' => ∃ r : Nat, e = .returned (I r) ∧ (r : Int) < n ∧ w = w' :=
  (pick16_any c n w hc hn hn2).mono fun _ _ ⟨he, hw⟩ => ⟨(pickI c n).toNat, by rw [he, Int.toNat_of_nonneg (pickI_nonneg c n hn).1], by have := pickI_nonneg c n hn; omega, hw⟩

set_option maxRecDepth 100000 in
set_option maxHeartbeats 4000000 in
theorem enough_any (rv : Value) (raw : List LBlock) (which : Int) (w : World) (hr : RSl 5 RRawB w rv raw) (hw : InI which) :
    Calls Try.prog 5 #[rv, I which] w fun e w' => e = .returned (.bool true) ∧ Below w.heap.size w w' := by
  have HR := Lib.hid hr
  have HW := Lib.hid hw
  obtain ⟨a0, c0, rfl, hlr⟩ := RSl.form hr
  clear hr hw
  have hfd : ∀ (av : Value) (ua : Option Addr) (uc : Nat) (w : World), (Instr.field 30 (.agg #[av, .slice ua 3 uc]) 1).run Try.prog w = .ok (.slice ua 3 uc) w := fun _ _ _ _ => by kernel_rfl
  go_enter Try.func5, Try.ntmps5
  go_wp2_with (first
    | (go_at_call 6; refine (awake_any _).mono ?_; rintro e w1 ⟨rfl, hb1⟩; have HB1 := Lib.hid hb1; clear hb1)
    | (go_at_call 8; refine (fit_any _ raw _ (RSl.below (R := RRawB) (fun hb h => h.below hb) HB1.out HR.out)).mono ?_; rintro e w2 ⟨av, uv, fs, rfl, hfl, hown, hgood, hb2⟩; obtain ⟨ua, uc, rfl⟩ := hown.slice; rw [hfl]; have HFL := Lib.hid hfl; have HOW := Lib.hid hown; have HGD := Lib.hid hgood; have HB2 := Lib.hid hb2; clear hfl hown hgood hb2)
    | (go_at_call 7; (with_reducible refine (pick16_ex which 3 _ HW.out (by omega) (by omega)).mono ?_); rintro e w3 ⟨q, rfl, hq, rfl⟩; have hq3 : q < fs.length := by { have := HFL.out; omega }; obtain ⟨g, c, he, hgb, hcl⟩ := HOW.out.cell fEnc_len hq3; obtain ⟨rfl, rfl⟩ : ua = some ⟨g, 0, none⟩ ∧ uc = c := by { simpa using he }; clear he; obtain ⟨p, hp⟩ : ∃ p, p = fs[q] := ⟨_, rfl⟩; rw [← hp] at hcl; obtain ⟨gf, rf⟩ := HGD.out q p (by rw [hp]; exact List.getElem?_eq_getElem hq3); have d0 := (hcl 0 (by omega)).1; have d1 := (hcl 1 (by omega)).1; have d2 := (hcl 2 (by omega)).1; have d3 := (hcl 3 (by omega)).1; simp only [fEnc, List.getElem?_cons_succ, List.getElem?_cons_zero, Nat.add_zero] at d0 d1 d2 d3; clear hcl hp; obtain ⟨⟨fn, fp, fv, fb⟩, ba, bc⟩ := p; simp only [] at d0 d1 d2 d3 gf rf; obtain rfl : fv = 10 := gf.values; have HGF := Lib.hid gf; have HRF := Lib.hid rf; clear gf rf)
    | (go_at_call 9; refine (alloc_any ⟨fn, fp, 10, fb⟩ _ _ (HGF.out.fine (HRF.out _ (TK.grown (alloc_grown _ _ none) (fun _ _ => NoTag.none _ _)))) HGF.out.rmay 10 rfl (sortOk_short (by omega)) 0 (by omega)).mono ?_; rintro e w4 ⟨ga, out, rfl, hga, hrow, hkept, hb4⟩; have HRW := Lib.hid hrow; have HKP := Lib.hid hkept; have HB4 := Lib.hid hb4; clear hrow hkept hb4))
  have hbox : Row w4 w2.heap.size 24 [.string fn, I fp, I 10, .slice ba fb.length bc] := (HB4.out.block _ (by simp)).trans (heap_new _ _)
  have hln := HKP.out.len
  have hsl : slotsL out ≤ 10 ∧ 0 ≤ slotsL out := slots_le out 0 (by omega) (by omega) (fun p hp => (HKP.out.rng p hp).1)
  have hri : RInts w4 (.slice (some ⟨ga, 0, none⟩) 10 10) out := by
    have := HRW.out.ints (fun x hx => by have := HKP.out.rng x hx; unfold InI; omega) (by omega) 10
    rw [hln] at this
    exact this
  have b2 := hbox.cell 2
  simp only [List.getElem?_cons_succ, List.getElem?_cons_zero] at b2
  obtain ⟨sl, hsl2⟩ : ∃ sl, sl = slotsL out := ⟨_, rfl⟩
  rw [← hsl2] at hsl
  have HSL2 := Lib.hid hsl2
  have HBX := Lib.hid hbox
  have HLN := Lib.hid hln
  have HRI := Lib.hid hri
  obtain ⟨hs1, hs2⟩ := hsl
  clear hbox hln hri hsl2 d0 d1 d2 d3
  refine wp_region_ordW (by kernel_rfl) (fun W => W.cell? ⟨w2.heap.size, 2, none⟩ = some (I 10)) [(0, 0), (0, 1), (0, 2), (0, 3), (0, 4), (0, 5), (0, 6), (0, 7), (0, 8), (0, 9), (0, 10), (0, 12), (0, 13), (1, 11), (0, 14), (0, 15)] (by kernel_rfl) ?hS ?_
  case hS => intro wd hh; simp only [World.cell?, hh] at b2 ⊢; exact b2
  intro wd hh hgd hS
  have hbd : Below w4.heap.size w4 wd := (Below.refl _ w4).grown hgd (Nat.le_refl _) (fun _ e => by cases e)
  have hrd := HRI.out.below hbd
  have hslc := slots_any wd _ out hrd (fun p hp => by have := (HKP.out.rng p hp).1; omega)
  rw [← HSL2.out] at hslc
  have HSC := Lib.hid hslc
  have HBD := Lib.hid hbd
  have HRD := Lib.hid hrd
  clear hh hgd hbd hrd hslc b2
  simp only [pickOps, List.map_cons, List.map_nil, List.getElem?_cons_zero, List.getElem?_cons_succ, Option.getD_some]
  repeat (refine wpOrd_look (v := ?_) (by rfl) ?_ (by assumption) (fun _ _ _ h => h) ?_; rotate_left; (· (intro wS hSw; (try dsimp only at hSw); go_simp; (first | done | with_reducible rfl))); simp only [Act.put, List.setIfInBounds_toArray, List.set_cons_zero, List.set_cons_succ])
  refine wpOrd_turn ?_
  go_wp2_with (first
    | (go_at_call 13; refine HSC.out.mono ?_; rintro e w' ⟨rfl, rfl⟩))
  refine QN_keep hS fun hS => ?_
  repeat (refine wpOrd_look (v := ?_) (by rfl) ?_ (by assumption) (fun _ _ _ h => h) ?_; rotate_left; (· (intro wS hSw; (try dsimp only at hSw); go_simp; (first | done | with_reducible rfl))); simp only [Act.put, List.setIfInBounds_toArray, List.set_cons_zero, List.set_cons_succ])
  refine wpOrd_nil ?_
  go_wp2
  go_loopg [8] 10 (fun gh i wr => ∃ k : Nat, gh + k = 10 ∧ i = I k ∧ wd = wr)
  case atStart => exact ⟨0, by omega, rfl, rfl⟩
  case round =>
    obtain ⟨k, hg, rfl, rfl⟩ := hrel
    by_cases hk : k < 10
    · have hkz : (k : Int) < 10 := by omega
      have hko : k < out.length := by have := HLN.out; omega
      obtain ⟨b5, o5, c5, he, hc, hi⟩ := RInts.at HRD.out hko
      obtain ⟨⟨rfl, rfl⟩, rfl⟩ : (ga = b5 ∧ 0 = o5) ∧ 10 = c5 := by
        have h1 := he
        rw [HLN.out] at h1
        simpa using h1
      have hneg := (HKP.out.rng _ (List.getElem_mem hko)).2
      obtain ⟨x, hx⟩ : ∃ x, x = out[k] := ⟨_, rfl⟩
      rw [← hx] at hc hneg
      have hneg' : x < 0 := by omega
      rw [Nat.zero_add] at hc
      clear he hi hx hneg hko
      go_wp2
      go_roundg (10 - (k + 1))
      case measure => omega
      case rel => exact ⟨k + 1, by omega, by go_num, rfl⟩
    · have hkz : ¬ (k : Int) < 10 := by omega
      have hbx := HBX.out.ext HBD.out
      have b0 := hbx.cell 0
      have b1 := hbx.cell 1
      have b2 := hbx.cell 2
      have b3 := hbx.cell 3
      simp only [List.getElem?_cons_succ, List.getElem?_cons_zero] at b0 b1 b2 b3
      have hfine : Fine wd ⟨fn, fp, 10, fb⟩ (.slice ba fb.length bc) := HGF.out.fine (HRF.out _ (TK.grown (grown_trans (alloc_grown w2 _ none) (below_grown (HB4.out.trans (HBD.out.mono HB4.out.size)) none)) (fun _ _ => NoTag.none _ _)))
      have hfit := fits_yes ⟨fn, fp, 10, fb⟩ _ wd hfine _ out HRD.out (HKP.out.fits HGF.out.rmay rfl)
      have HFT := Lib.hid hfit
      clear hbx hfine hfit
      go_wp2_with (first
        | (go_at_call 12; refine HFT.out.mono ?_; rintro e w9 ⟨rfl, hb9⟩; have HB9 := Lib.hid hb9; clear hb9))
      go_ret
      refine ⟨rfl, ?_⟩
      have h1 := HB1.out
      have h2 := HB2.out
      have h4 := HB4.out
      have h5 := HBD.out
      have h9 := HB9.out
      have z1 := h1.size
      have z2 := h2.size
      have z4 := h4.size
      have z5 := h5.size
      rw [World.size_alloc] at h4 z4
      exact h1.trans ((h2.trans ((below_a1 w2 _).trans ((h4.trans ((h5.trans (h9.mono (by omega))).mono (by omega))).mono (by omega)) |>.mono (by omega))).mono (by omega))
end Go.Proofs.Ytdlcpmjhngfgkaa
