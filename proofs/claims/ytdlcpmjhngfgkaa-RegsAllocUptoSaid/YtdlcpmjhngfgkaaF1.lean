import Derived.Test.YtdlcpmjhngfgkaaF0
namespace Go.Proofs.Ytdlcpmjhngfgkaa
open Go.RowKit Go.Shelf
attribute [local go_sem] Oper.semAt_some

theorem Row.rsl {α : Type} {R : World → (Nat → Value) → α → Prop} {W : World} {g : Nat} {t : TypeId} {l : List α} (enc : α → Value) (h : Row W g t (l.map enc)) (hR : ∀ x ∈ l, R W (fun _ => enc x) x) (hn : l.length ≤ 140737488351232) (c : Nat) : RSl 1 R W (.slice (some ⟨g, 0, none⟩) l.length c) l := by
  refine ⟨_, c, rfl, hn, .inr ⟨g, 0, rfl, fun i x hx => ⟨fun _ => enc x, fun j hj => ?_, hR x (List.mem_of_getElem? hx)⟩⟩⟩
  obtain rfl : j = 0 := by omega
  rw [h.cell]
  simp [hx]
theorem Row.ints {W : World} {g : Nat} {l : List Int} (h : Row W g 3 (l.map I)) (hi : ∀ x ∈ l, InI x) (hn : l.length ≤ 140737488351232) (c : Nat) : RInts W (.slice (some ⟨g, 0, none⟩) l.length c) l :=
  Row.rsl I h (fun x hx => ⟨rfl, hi x hx⟩) hn c
theorem Row.bools {W : World} {g : Nat} {t : TypeId} {l : List Bool} (h : Row W g t (l.map Value.bool)) (hn : l.length ≤ 140737488351232) (c : Nat) : RSl 1 RBool W (.slice (some ⟨g, 0, none⟩) l.length c) l :=
  Row.rsl Value.bool h (fun _x _hx => rfl) hn c

theorem pairOf_comm (a b : Int) : pairOf a b = pairOf b a := by unfold pairOf; rw [Int.min_comm, Int.max_comm]

/-- values that have a place so far: those that meet are apart -/
structure Col (S : Int × Int → Prop) (n reg : Nat) (order : List Int) (k : Nat) (out : List Int) (done : List Bool) : Prop where
  lo : out.length = n
  ld : done.length = n
  dn : ∀ i : Nat, i < n → (done[i]? = some true ↔ (i : Int) ∈ order.take k)
  rng : ∀ (i : Nat) (p : Int), done[i]? = some true → out[i]? = some p → -(k : Int) ≤ p ∧ p < reg
  apart : ∀ (i j : Nat) (p : Int), done[i]? = some true → done[j]? = some true → i ≠ j → S (pairOf i j) → out[i]? = some p → out[j]? ≠ some p
  inr : ∀ p ∈ out, -(k : Int) ≤ p ∧ p ≤ reg

theorem Col.start (S : Int × Int → Prop) (n reg : Nat) (order : List Int) : Col S n reg order 0 (List.replicate n 0) (List.replicate n false) where
  lo := by simp
  ld := by simp
  dn := fun i hi => by simp [hi]
  rng := fun i p h => by rw [List.getElem?_replicate] at h; split at h <;> simp at h
  apart := fun i j p h => by rw [List.getElem?_replicate] at h; split at h <;> simp at h
  inr := fun p hp => by have := List.eq_of_mem_replicate hp; subst this; omega

theorem Col.had {S : Int × Int → Prop} {n reg : Nat} {order : List Int} {k : Nat} {out : List Int} {done : List Bool} (h : Col S n reg order k out done) (l : List Int) : ∀ p ∈ hadL l out done, -(k : Int) ≤ p := by
  intro p hp
  obtain ⟨v, _, hv⟩ := List.mem_filterMap.1 hp
  split at hv
  · next h1 => exact (h.rng _ p h1 hv).1
  · cases hv

theorem Col.step {S : Int × Int → Prop} {n reg : Nat} {order : List Int} {k : Nat} {out : List Int} {done : List Bool} (h : Col S n reg order k out done) {y : Nat} (hy : y < n) (hk : order[k]? = some (y : Int)) (l : List Int) (hl : ∀ b, b ∈ l ↔ S (pairOf y b)) {p : Int} (hp : p ∉ hadL l out done) (h1 : p < reg) (h2 : -(k : Int) - 1 ≤ p) :
    Col S n reg order (k + 1) (out.set y p) (done.set y true) := by
  have hyo : y < out.length := by rw [h.lo]; exact hy
  have hyd : y < done.length := by rw [h.ld]; exact hy
  have hfar : ∀ (j : Nat) (q : Int), done[j]? = some true → S (pairOf y j) → out[j]? = some q → q ≠ p := by
    rintro j q hj hs hq rfl
    refine hp (List.mem_filterMap.2 ⟨(j : Int), (hl _).2 hs, ?_⟩)
    simp [hj, hq]
  have hdone : ∀ i : Nat, i ≠ y → (done.set y true)[i]? = done[i]? := fun i hi => List.getElem?_set_ne (fun e => hi e.symm)
  have hout : ∀ i : Nat, i ≠ y → (out.set y p)[i]? = out[i]? := fun i hi => List.getElem?_set_ne (fun e => hi e.symm)
  have hself : (out.set y p)[y]? = some p := List.getElem?_set_self hyo
  refine ⟨by rw [List.length_set]; exact h.lo, by rw [List.length_set]; exact h.ld, fun i hi => ?_, fun i q hd hq => ?_, fun i j q hi hj hij hs hq hq' => ?_, fun q hq => ?_⟩
  · rw [List.take_add_one, hk, Option.toList_some, List.mem_append, List.mem_singleton, ← h.dn i hi]
    by_cases e : i = y
    · subst e; rw [List.getElem?_set_self hyd]; simp
    · rw [hdone i e]
      constructor
      · exact .inl
      · rintro (h' | h')
        · exact h'
        · omega
  · by_cases e : i = y
    · subst e; rw [hself] at hq; cases hq; omega
    · rw [hdone i e] at hd; rw [hout i e] at hq; have := h.rng i q hd hq; omega
  · by_cases e : i = y
    · subst e
      rw [hself] at hq; cases hq
      rw [hdone j (fun e => hij e.symm)] at hj
      rw [hout j (fun e => hij e.symm)] at hq'
      exact hfar j _ hj hs hq' rfl
    · by_cases e' : j = y
      · subst e'
        rw [hself] at hq'; cases hq'
        rw [hdone i e] at hi
        rw [hout i e] at hq
        rw [pairOf_comm] at hs
        exact hfar i _ hi hs hq rfl
      · rw [hdone i e] at hi; rw [hdone j e'] at hj; rw [hout i e] at hq; rw [hout j e'] at hq'
        exact h.apart i j q hi hj hij hs hq hq'
  · rcases List.mem_or_eq_of_mem_set hq with h' | rfl
    · have := h.inr q h'; omega
    · omega

/-- where values are kept -/
structure Kept (S : Int × Int → Prop) (n reg : Nat) (out : List Int) : Prop where
  len : out.length = n
  rng : ∀ p ∈ out, -(n : Int) ≤ p ∧ p < reg
  apart : ∀ (i j : Nat) (p : Int), i ≠ j → S (pairOf i j) → out[i]? = some p → out[j]? ≠ some p

theorem Col.all {S : Int × Int → Prop} {n reg : Nat} {order : List Int} {k : Nat} {out : List Int} {done : List Bool} (h : Col S n reg order k out done) (hk : k = n) (hlen : order.length = n) (hall : ∀ i : Nat, i < n → (i : Int) ∈ order) : Kept S n reg out := by
  have hd : ∀ i, i < n → done[i]? = some true := fun i hi => (h.dn i hi).2 (by rw [List.take_of_length_le (by omega)]; exact hall i hi)
  have hlt : ∀ (i : Nat) (p : Int), out[i]? = some p → i < n := fun i p hp => by have := (List.getElem?_eq_some_iff.1 hp).1; rw [h.lo] at this; exact this
  refine ⟨h.lo, fun p hp => ?_, fun i j p hij hs hi hj => h.apart i j p (hd i (hlt i p hi)) (hd j (hlt j p hj)) hij hs hi hj⟩
  obtain ⟨i, hi⟩ := List.getElem?_of_mem hp
  rw [← hk]
  exact h.rng i p (hd i (hlt i p hi)) hi

end Go.Proofs.Ytdlcpmjhngfgkaa
