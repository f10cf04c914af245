import Derived.Test.YtdlcpmjhngfgkaaF9
namespace Go.Proofs.Ytdlcpmjhngfgkaa
open Go.RowKit Go.Shelf
attribute [local go_sem] Oper.semAt_some

theorem flatMap_le {α β : Type} {f : α → List β} {c : Nat} : ∀ (l : List α), (∀ x ∈ l, (f x).length ≤ c) → (l.flatMap f).length ≤ l.length * c
  | [], _ => by simp
  | x :: l, h => by
    rw [List.flatMap_cons, List.length_append, List.length_cons, Nat.succ_mul]
    have h1 := h x (by simp)
    have h2 := flatMap_le l (fun y hy => h y (by simp [hy]))
    omega

theorem uses_len {x : LIns} (g : GoodIns x) : x.uses.length ≤ 2 := by
  unfold LIns.uses UseL
  have := g.len
  split
  · simp
  · split
    · simp
    · split
      · exact this
      · simp
theorem uses_good {x : LIns} (g : GoodIns x) : ∀ v ∈ x.uses, 0 ≤ v ∧ v < 10 := by
  intro v hv
  unfold LIns.uses UseL at hv
  split at hv
  · simp at hv; subst hv; exact g.a
  · split at hv
    · simp at hv; rcases hv with rfl | rfl
      · exact g.a
      · exact g.b
    · split at hv
      · exact g.args v hv
      · cases hv
theorem sets_good {x : LIns} (g : GoodIns x) : ∀ v ∈ x.sets, 0 ≤ v ∧ v < 10 := by
  intro v hv
  unfold LIns.sets setsL at hv
  split at hv
  · cases hv
  · simp at hv; subst hv; exact g.d
theorem setsI_good {x : LIns} (g : GoodIns x) : setsI x.kind x.d < 10 := by
  unfold setsI
  split
  · omega
  · exact g.d.2
theorem wants_good {n : Int} {b : LBlock} (g : GoodBlk n b) : ∀ v ∈ b.term.wants, 0 ≤ v ∧ v < 10 := by
  intro v hv
  unfold LTerm.wants wantsL at hv
  split at hv
  · simp at hv; subst hv; exact g.a
  · cases hv
theorem next_good {n : Int} {b : LBlock} (g : GoodBlk n b) : ∀ v ∈ b.term.next, 0 ≤ v ∧ v < n := by
  intro v hv
  unfold LTerm.next nextL at hv
  split at hv
  · simp at hv; rcases hv with rfl | rfl
    · exact g.to
    · exact g.els
  · split at hv
    · simp at hv; subst hv; exact g.to
    · cases hv

theorem GoodFlow.places {i : Nat} {f : LFlow} (g : GoodFlow i f) : ∀ v ∈ placesL f.blocks, v < 10 := by
  intro v hv
  obtain ⟨b, hb, hv⟩ := List.mem_flatMap.1 hv
  have gb := g.blocks b hb
  rcases List.mem_append.1 hv with hv | hv
  · exact (wants_good gb v hv).2
  · obtain ⟨x, hx, hv⟩ := List.mem_flatMap.1 hv
    have gx := gb.ins x hx
    rcases List.mem_append.1 hv with hv | hv
    · exact (uses_good gx v hv).2
    · obtain rfl := List.mem_singleton.1 hv
      exact setsI_good gx
theorem GoodFlow.may {i : Nat} {f : LFlow} (g : GoodFlow i f) : mayB f.blocks = true := by
  unfold mayB
  rw [List.all_eq_true]
  intro b hb
  have gb := g.blocks b hb
  have hpl : ∀ v : Int, 0 ≤ v ∧ v < 10 → placeB v = true := fun v hv => by unfold placeB; simp; omega
  have hno : ∀ (l : List Int), (∀ v ∈ l, 0 ≤ v ∧ v < 10) → (l.any fun v => !placeB v) = false := fun l hl => by
    rw [List.any_eq_false]
    intro v hv
    rw [hpl v (hl v hv)]
    simp
  unfold mayK mayT mayI
  rw [hno _ (wants_good gb)]
  have h1 : (b.term.next.any (farB f.blocks.length)) = false := by
    rw [List.any_eq_false]
    intro v hv
    have := next_good gb v hv
    unfold farB
    simp
    omega
  rw [h1]
  simp only [Bool.not_false, Bool.true_and, List.all_eq_true]
  intro x hx
  rw [hno _ (uses_good (gb.ins x hx)), hno _ (sets_good (gb.ins x hx))]
  rfl
theorem GoodFlow.rmay {i : Nat} {f : LFlow} (g : GoodFlow i f) : rmayB f = true := by
  unfold rmayB
  rw [g.values, g.may]
  have : ((placesL f.blocks).any fun n => decide ((10 : Int) ≤ n)) = false := by
    rw [List.any_eq_false]
    intro v hv
    have := g.places v hv
    simp; omega
  rw [this]
  rfl
theorem GoodFlow.fine {i : Nat} {f : LFlow} (g : GoodFlow i f) {W : World} {bv : Value} (h : RSl 5 RBlk W bv f.blocks) : Fine W f bv := by
  have hl := g.len
  have hu : ∀ b ∈ f.blocks, (blkUses b).length ≤ 13 := fun b hb => by
    have gb := g.blocks b hb
    unfold blkUses
    rw [List.length_append]
    have h1 := flatMap_le (c := 2) (f := LIns.uses) b.ins (fun x hx => uses_len (gb.ins x hx))
    have h2 := b.term.wants_len
    have := gb.len
    omega
  have hp : ∀ b ∈ f.blocks, (plB b).length ≤ 19 := fun b hb => by
    have gb := g.blocks b hb
    unfold plB
    rw [List.length_append]
    have h1 := flatMap_le (c := 3) (f := plI) b.ins (fun x hx => by unfold plI; rw [List.length_append]; have := uses_len (gb.ins x hx); simp; omega)
    have h2 := b.term.wants_len
    have := gb.len
    omega
  have h1 := flatMap_le (c := 13) f.blocks hu
  have h2 := flatMap_le (c := 19) f.blocks hp
  exact ⟨h, by omega, by unfold allUses; omega, by unfold placesL; omega, fun b hb => by have := (g.blocks b hb).len; omega⟩

/-- what is kept fits -/
theorem Kept.fits {f : LFlow} {n reg : Nat} {out : List Int} (h : Kept (MeetS f) n reg out) (hm : rmayB f = true) (hv : f.values = n) : FitsS f out := ⟨hm, by rw [h.len, hv], h.apart⟩

theorem slots_le {n : Nat} : ∀ (l : List Int) (a : Int), 0 ≤ a → a ≤ n → (∀ p ∈ l, -(n : Int) ≤ p) → l.foldl (fun n p => max n (-p)) a ≤ n ∧ 0 ≤ l.foldl (fun n p => max n (-p)) a
  | [], a, h0, h1, _ => ⟨h1, h0⟩
  | p :: l, a, h0, h1, h => slots_le l (max a (-p)) (by omega) (by have := h p (by simp); omega) (fun q hq => h q (by simp [hq]))

/-! ### the example of chapter 16 -/
def exIns : LIns := ⟨4, 1, 0, 0, 1, 0, ⟨#[]⟩, []⟩
def exBlk : LBlock := ⟨[exIns], ⟨3, 1, 0, 0⟩⟩
def exFlow : LFlow := ⟨⟨#[102]⟩, 1, 2, [exBlk]⟩
theorem ex_may : rmayB exFlow = true := by decide
theorem ex_live {i : Nat} {v : Int} (h : LiveS exFlow.blocks i v) : v = 0 := by
  refine h (fun _ v => v = 0) ?_
  intro i b hb v hv
  have : b = exBlk := by
    cases i with
    | zero => simp [exFlow] at hb; exact hb.symm
    | succ i => simp [exFlow] at hb
  subst this
  rcases hv with h1 | ⟨h1, h2⟩
  · simpa [exIns, LIns.uses, UseL] using h1
  · exfalso
    rcases h1 with ⟨k, hk, _⟩ | h1
    · simp [exBlk, LTerm.next, nextL] at hk
    · simp [exBlk, LTerm.wants, wantsL] at h1
      apply h2
      simp [exIns, LIns.sets, setsL, h1]
theorem ex_after {k : Nat} {v : Int} (h : AfterS exBlk (LiveS exFlow.blocks) k v) : v = 1 := by
  have hd : exBlk.ins.drop (k + 1) = [] := by simp [exBlk]
  unfold AfterS at h
  rw [hd] at h
  rcases h with ⟨k, hk, _⟩ | h1
  · simp [exBlk, LTerm.next, nextL] at hk
  · simpa [exBlk, LTerm.wants, wantsL] using h1
theorem ex_meet (p : Int × Int) : ¬ MeetS exFlow p := by
  rintro (⟨i, b, hb, h⟩ | ⟨_, x, hx, hxp, q, hq0, hq1, hne, _⟩)
  · have : b = exBlk := by
      cases i with
      | zero => simp [exFlow] at hb; exact hb.symm
      | succ i => simp [exFlow] at hb
    subst this
    rcases h with ⟨x, hx, y, hy, hne, _⟩ | ⟨k, hk, ⟨x, hx, y, hy, hne, _⟩ | ⟨ins, hi, h0, x, hx, hne, _⟩⟩
    · exact hne ((ex_live hx).trans (ex_live hy).symm)
    · exact hne ((ex_after hx).trans (ex_after hy).symm)
    · have : ins = exIns := by
        cases k with
        | zero => simp [exBlk] at hi; exact hi.symm
        | succ k => simp [exBlk] at hi
      subst this
      exact hne (by rw [ex_after hx]; rfl)
  · have := ex_live hx
    subst this
    simp only [exFlow] at hq1
    apply hne
    omega
theorem ex_fits : FitsS exFlow [0, 0] := ⟨ex_may, rfl, fun i j p _ h => absurd h (ex_meet _)⟩
theorem ex_not : ¬ FitsS exFlow [0] := fun h => by have := h.2.1; simp [exFlow] at this

end Go.Proofs.Ytdlcpmjhngfgkaa
