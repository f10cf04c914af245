import Derived.Test.YtdlcpmjhngfgkaaD8
namespace Go.Proofs.Ytdlcpmjhngfgkaa
open Go.RowKit Go.Shelf
attribute [local go_sem] Oper.semAt_some

/-- slices of ints, each with a row of its own -/
structure Adj (W : World) (base : Nat) (vals : List Value) (lists : List (List Int)) : Prop where
  len : vals.length = lists.length
  own : ∀ (i : Nat) (x : Value) (l : List Int), vals[i]? = some x → lists[i]? = some l → OwnInts W base x l
  apart : ∀ (i j : Nat) (x y : Value), i ≠ j → vals[i]? = some x → vals[j]? = some y → x.ownBlock = none ∨ x.ownBlock ≠ y.ownBlock

theorem Adj.grown {W W' : World} {base : Nat} {vals : List Value} {lists : List (List Int)} {row : Option Nat} (h : Adj W base vals lists) (hg : W.grownBy W' row) (hr : NoTag W row 3) : Adj W' base vals lists :=
  ⟨h.len, fun i x l h1 h2 => (h.own i x l h1 h2).tag hg hr, h.apart⟩

theorem ownsRow_kept' {W W' : World} {row : Option Nat} {base : Nat} {e : TypeId} {size : Nat} {v : Value} {n : Nat} {xs : List Value} (h : W.ownsRow base e size v n xs) (hg : W.grownBy W' row) (hne : v.ownBlock = none ∨ v.ownBlock ≠ row) : W'.ownsRow base e size v n xs := h.kept hg hne

/-- one more int in one of the slices -/
theorem Adj.app {W : World} {base : Nat} {vals : List Value} {lists : List (List Int)} (h : Adj W base vals lists) (ty : TypeId) {i : Nat} {x : Value} {l : List Int} (hx : vals[i]? = some x) (hl : lists[i]? = some l) {g c : Nat} {y : Int} (hg : W.cell? ⟨g, 0, none⟩ = some (I y)) (hn : l.length ≤ 1000000000000) (hbase : base ≤ W.heap.size) :
    ∃ v' w', (Builtin.append_ #[32, 32] ty #[x, .slice (some ⟨g, 0, none⟩) 1 c]).run Try.prog W = .ok v' w' ∧ Adj w' base (vals.set i v') (lists.set i (l ++ [y])) ∧ W.grownBy w' x.ownBlock ∧ (∀ r, x.ownBlock = some r → base ≤ r ∧ r < W.heap.size) ∧ NoTag W x.ownBlock 32 ∧ (∃ a n c, v' = .slice a n c) := by
  have hown := h.own i x l hx hl
  obtain ⟨g', cap, w', h1, h2, h3, h4, h5⟩ := run_appV slInt ty (vs := l.map (Value.int .i64)) (by rw [List.length_map]; exact hown) (c := c) hg rfl (by simp; omega) (by simp [maxLen]; omega) hbase
  have hrb := ownsRow_base hown
  have hi : i < vals.length := (List.getElem?_eq_some_iff.1 hx).1
  have hi' : i < lists.length := (List.getElem?_eq_some_iff.1 hl).1
  refine ⟨_, w', h1, ⟨by simpa using h.len, fun j z m hz hm => ?_, fun j k z u hjk hz hu => ?_⟩, h3, hrb, ownsRow_notag hown (by decide), _, _, _, rfl⟩
  · by_cases hj : j = i
    · subst hj
      rw [List.getElem?_set_self hi] at hz
      rw [List.getElem?_set_self hi'] at hm
      cases hz; cases hm
      unfold OwnInts; rw [List.map_append, List.length_append]; simpa using h2
    · rw [List.getElem?_set_ne (fun e => hj e.symm)] at hz hm
      refine ownsRow_kept' (h.own j z m hz hm) h3 ?_
      exact h.apart j i z x hj hz hx
  · have hnew : ∀ (k : Nat) (u : Value), k ≠ i → vals[k]? = some u → u.ownBlock = none ∨ u.ownBlock ≠ some g' := fun k u hk hu => by
      rcases h4 with h4 | h4
      · rw [← h4]; exact h.apart k i u x hk hu hx
      · cases hb : u.ownBlock with
        | none => exact .inl rfl
        | some r =>
          right
          intro e
          simp only [Option.some.injEq] at e
          have hk' : k < lists.length := by rw [← h.len]; exact (List.getElem?_eq_some_iff.1 hu).1
          have := (ownsRow_base (h.own k u _ hu (List.getElem?_eq_getElem hk')) r hb).2
          omega
    by_cases hj : j = i
    · subst hj
      rw [List.getElem?_set_self hi] at hz
      rw [List.getElem?_set_ne hjk] at hu
      cases hz
      rcases hnew k u (fun e => hjk e.symm) hu with e | e
      · right; rw [e]; simp [Value.ownBlock]
      · right; intro e'; exact e e'.symm
    · rw [List.getElem?_set_ne (fun e => hj e.symm)] at hz
      by_cases hk : k = i
      · subst hk
        rw [List.getElem?_set_self hi] at hu
        cases hu
        exact hnew j z hj hz
      · rw [List.getElem?_set_ne (fun e => hk e.symm)] at hu
        exact h.apart j k z u hjk hz hu

def pairOf (a b : Int) : Int × Int := (min a b, max a b)

/-- which values meet: the map of pairs and the slices of those that each one meets -/
structure Meets (W : World) (base T M P R n : Nat) (pairs : List (Int × Int)) (cs : List Value) (adj : List (List Int)) : Prop where
  box : W.heap[M]? = some (.cells #[.map (some P), .slice (some ⟨R, 0, none⟩) n n] 60 (0, 0))
  set : SetAt W P (pairs.map encPair)
  row : Row W R 32 cs
  len : cs.length = n
  alen : adj.length = n
  rows : Adj W T cs adj
  lo : base ≤ M ∧ base ≤ P ∧ base ≤ R ∧ base ≤ T ∧ T ≤ W.heap.size
  within : ∀ p ∈ pairs, 0 ≤ p.1 ∧ p.1 < p.2 ∧ p.2 < n
  agree : ∀ (a : Nat) (l : List Int), adj[a]? = some l → l.Nodup ∧ ∀ b, b ∈ l ↔ pairOf a b ∈ pairs
  nd : pairs.Nodup

/-- who meets whom stays when others are changed -/
theorem Meets.grown {W W' : World} {base T M P R n : Nat} {pairs : List (Int × Int)} {cs : List Value} {adj : List (List Int)} {row : Option Nat} (h : Meets W base T M P R n pairs cs adj) (hg : W.grownBy W' row) (h3 : NoTag W row 3) (h32 : NoTag W row 32) (h60 : NoTag W row 60) (hP : some P ≠ row) : Meets W' base T M P R n pairs cs adj := by
  refine ⟨grown_old hg h.box (fun e => h60 M e.symm _ _ h.box), h.set.below (hg.block P h.set.lt hP), h.row.kept hg (fun e => h32 R e.symm _ _ h.row), h.len, h.alen, h.rows.grown hg h3, ?_, h.within, h.agree, h.nd⟩
  obtain ⟨h1, h2, h3, h4, h5⟩ := h.lo
  exact ⟨h1, h2, h3, h4, Nat.le_trans h5 hg.size⟩
theorem Meets.ext {W W' : World} {base T M P R n : Nat} {pairs : List (Int × Int)} {cs : List Value} {adj : List (List Int)} (h : Meets W base T M P R n pairs cs adj) (hg : W.grownBy W' none) : Meets W' base T M P R n pairs cs adj :=
  h.grown hg (NoTag.none _ _) (NoTag.none _ _) (NoTag.none _ _) (by simp)

/-- what lay below T lies there, but for the map and the row -/
structure KeptT (T P R : Nat) (w w' : World) : Prop where
  os : w'.os = w.os
  tape : w'.tape = w.tape
  output : w'.output = w.output
  size : w.heap.size ≤ w'.heap.size
  block : ∀ k, k < T → k ≠ P → k ≠ R → w'.heap[k]? = w.heap[k]?
  tag : ∀ (k : Nat) (cs : Array Value) (fr : Nat × Nat), w.heap[k]? = some (.cells cs 46 fr) → w'.heap[k]? = some (.cells cs 46 fr)
theorem KeptT.refl (T P R : Nat) (w : World) : KeptT T P R w w := ⟨rfl, rfl, rfl, Nat.le_refl _, fun _ _ _ _ => rfl, fun _ _ _ h => h⟩
theorem KeptT.trans {T P R : Nat} {a b c : World} (h : KeptT T P R a b) (k : KeptT T P R b c) : KeptT T P R a c :=
  ⟨k.os.trans h.os, k.tape.trans h.tape, k.output.trans h.output, Nat.le_trans h.size k.size, fun i h1 h2 h3 => (k.block i h1 h2 h3).trans (h.block i h1 h2 h3), fun i cs fr h1 => k.tag i cs fr (h.tag i cs fr h1)⟩
theorem KeptT.grown {T P R : Nat} {a b c : World} {row : Option Nat} (h : KeptT T P R a b) (hg : b.grownBy c row) (hT : T ≤ b.heap.size) (hr : ∀ r, row = some r → T ≤ r ∨ r = P ∨ r = R) (ht : NoTag b row 46) : KeptT T P R a c :=
  h.trans ⟨hg.os, hg.tape, hg.output, hg.size, fun k hk h1 h2 => hg.block k (by omega) (fun e => by rcases hr k e.symm with h | h | h <;> omega), fun k cs fr h1 => grown_old hg h1 (fun e => ht k e.symm _ _ h1)⟩

/-- the pairs when a and b meet -/
def meetL (a b : Int) (pairs : List (Int × Int)) : List (Int × Int) := if a = b then pairs else insL (pairOf a b) pairs
theorem mem_meetL {a b : Int} {pairs : List (Int × Int)} {p : Int × Int} : p ∈ meetL a b pairs ↔ p ∈ pairs ∨ (a ≠ b ∧ p = pairOf a b) := by
  unfold meetL
  split
  · next h => constructor
              · exact .inl
              · rintro (h' | ⟨h', _⟩)
                · exact h'
                · exact absurd h h'
  · next h => rw [mem_insL]; constructor
              · rintro (rfl | h')
                · exact .inr ⟨h, rfl⟩
                · exact .inl h'
              · rintro (h' | ⟨_, rfl⟩)
                · exact .inr h'
                · exact .inl rfl

end Go.Proofs.Ytdlcpmjhngfgkaa
