import Derived.Test.YtdlcpmjhngfgkaaD8
namespace Go.Proofs.Ytdlcpmjhngfgkaa
open Go.RowKit Go.Shelf
attribute [local go_sem] Oper.semAt_some

/-- slices of ints, each with a row of its own -/
structure Adj (W : World) (base : Nat) (vals : List Value) (lists : List (List Int)) : Prop where
  len : vals.length = lists.length
  own : ∀ (i : Nat) (x : Value) (l : List Int), vals[i]? = some x → lists[i]? = some l → OwnInts W base x l
  apart : ∀ (i j : Nat) (x y : Value), i ≠ j → vals[i]? = some x → vals[j]? = some y → x.ownBlock = none ∨ x.ownBlock ≠ y.ownBlock

theorem Adj.grown {W W' : World} {base : Nat} {vals : List Value} {lists : List (List Int)} {row : Option Nat} (h : Adj W base vals lists) (hg : W.grownBy W' row) (hr : NoTag W row 3) : Adj W' base vals lists :=
  ⟨h.len, fun i x l h1 h2 => (h.own i x l h1 h2).tag hg hr, h.apart⟩

theorem ownsRow_kept' {W W' : World} {row : Option Nat} {base : Nat} {e : TypeId} {size : Nat} {v : Value} {n : Nat} {xs : List Value} (h : W.ownsRow base e size v n xs) (hg : W.grownBy W' row) (hne : v.ownBlock = none ∨ v.ownBlock ≠ row) : W'.ownsRow base e size v n xs := h.kept hg hne

/-- one more int in one of the slices -/
theorem Adj.app {W : World} {base : Nat} {vals : List Value} {lists : List (List Int)} (h : Adj W base vals lists) (ty : TypeId) {i : Nat} {x : Value} {l : List Int} (hx : vals[i]? = some x) (hl : lists[i]? = some l) {g c : Nat} {y : Int} (hg : W.cell? ⟨g, 0, none⟩ = some (I y)) (hn : l.length ≤ 1000000000000) (hbase : base ≤ W.heap.size) :
    ∃ v' w', (Builtin.append_ #[32, 32] ty #[x, .slice (some ⟨g, 0, none⟩) 1 c]).run Try.prog W = .ok v' w' ∧ Adj w' base (vals.set i v') (lists.set i (l ++ [y])) ∧ W.grownBy w' x.ownBlock ∧ (∀ r, x.ownBlock = some r → base ≤ r ∧ r < W.heap.size) ∧ NoTag W x.ownBlock 32 ∧ (∃ a n c, v' = .slice a n c) := by
  have hown := h.own i x l hx hl
  obtain ⟨g', cap, w', h1, h2, h3, h4, h5⟩ := run_appV slInt ty (vs := l.map (Value.int .i64)) (by rw [List.length_map]; exact hown) (c := c) hg rfl (by simp; omega) (by simp [maxLen]; omega) hbase
  have hrb := ownsRow_base hown
  have hi : i < vals.length := (List.getElem?_eq_some_iff.1 hx).1
  have hi' : i < lists.length := (List.getElem?_eq_some_iff.1 hl).1
  refine ⟨_, w', h1, ⟨by simpa using h.len, fun j z m hz hm => ?_, fun j k z u hjk hz hu => ?_⟩, h3, hrb, ownsRow_notag hown (by decide), _, _, _, rfl⟩
  · by_cases hj : j = i
    · subst hj
      rw [List.getElem?_set_self hi] at hz
      rw [List.getElem?_set_self hi'] at hm
      cases hz; cases hm
      unfold OwnInts; rw [List.map_append, List.length_append]; simpa using h2
    · rw [List.getElem?_set_ne (fun e => hj e.symm)] at hz hm
      refine ownsRow_kept' (h.own j z m hz hm) h3 ?_
      exact h.apart j i z x hj hz hx
  · have hnew : ∀ (k : Nat) (u : Value), k ≠ i → vals[k]? = some u → u.ownBlock = none ∨ u.ownBlock ≠ some g' := fun k u hk hu => by
      rcases h4 with h4 | h4
      · rw [← h4]; exact h.apart k i u x hk hu hx
      · cases hb : u.ownBlock with
        | none => exact .inl rfl
        | some r =>
          right
          intro e
          simp only [Option.some.injEq] at e
          have hk' : k < lists.length := by rw [← h.len]; exact (List.getElem?_eq_some_iff.1 hu).1
          have := (ownsRow_base (h.own k u _ hu (List.getElem?_eq_getElem hk')) r hb).2
          omega
    by_cases hj : j = i
    · subst hj
      rw [List.getElem?_set_self hi] at hz
      rw [List.getElem?_set_ne hjk] at hu
      cases hz
      rcases hnew k u (fun e => hjk e.symm) hu with e | e
      · right; rw [e]; simp [Value.ownBlock]
      · right; intro e'; exact e e'.symm
    · rw [List.getElem?_set_ne (fun e => hj e.symm)] at hz
      by_cases hk : k = i
      · subst hk
        rw [List.getElem?_set_self hi] at hu
        cases hu
        exact hnew j z hj hz
      · rw [List.getElem?_set_ne (fun e => hk e.symm)] at hu
        exact h.apart j k z u hjk hz hu

def pairOf (a b : Int) : Int × Int := (min a b, max a b)

/-- which values meet: the map of pairs and the slices of those that each one meets -/
structure Meets (W : World) (base T M P R n : Nat) (pairs : List (Int × Int)) (cs : List Value) (adj : List (List Int)) : Prop where
  box : W.heap[M]? = some (.cells #[.map (some P), .slice (some ⟨R, 0, none⟩) n n] 60 (0, 0))
  set : SetAt W P (pairs.map encPair)
  row : Row W R 32 cs
  len : cs.length = n
  alen : adj.length = n
  rows : Adj W T cs adj
  lo : base ≤ M ∧ base ≤ P ∧ base ≤ R ∧ base ≤ T ∧ T ≤ W.heap.size
  within : ∀ p ∈ pairs, 0 ≤ p.1 ∧ p.1 < p.2 ∧ p.2 < n
  agree : ∀ (a : Nat) (l : List Int), adj[a]? = some l → l.Nodup ∧ ∀ b, b ∈ l ↔ pairOf a b ∈ pairs
  nd : pairs.Nodup

/-- who meets whom stays when others are changed -/
theorem Meets.grown {W W' : World} {base T M P R n : Nat} {pairs : List (Int × Int)} {cs : List Value} {adj : List (List Int)} {row : Option Nat} (h : Meets W base T M P R n pairs cs adj) (hg : W.grownBy W' row) (h3 : NoTag W row 3) (h32 : NoTag W row 32) (h60 : NoTag W row 60) (hP : some P ≠ row) : Meets W' base T M P R n pairs cs adj := by
  refine ⟨grown_old hg h.box (fun e => h60 M e.symm _ _ h.box), h.set.below (hg.block P h.set.lt hP), h.row.kept hg (fun e => h32 R e.symm _ _ h.row), h.len, h.alen, h.rows.grown hg h3, ?_, h.within, h.agree, h.nd⟩
  obtain ⟨h1, h2, h3, h4, h5⟩ := h.lo
  exact ⟨h1, h2, h3, h4, Nat.le_trans h5 hg.size⟩
theorem Meets.ext {W W' : World} {base T M P R n : Nat} {pairs : List (Int × Int)} {cs : List Value} {adj : List (List Int)} (h : Meets W base T M P R n pairs cs adj) (hg : W.grownBy W' none) : Meets W' base T M P R n pairs cs adj :=
  h.grown hg (NoTag.none _ _) (NoTag.none _ _) (NoTag.none _ _) (by simp)

/-- what lay below T lies there, but for the map and the row -/
structure KeptT (T P R : Nat) (w w' : World) : Prop where
  os : w'.os = w.os
  tape : w'.tape = w.tape
  output : w'.output = w.output
  size : w.heap.size ≤ w'.heap.size
  block : ∀ k, k < T → k ≠ P → k ≠ R → w'.heap[k]? = w.heap[k]?
  tag : ∀ (k : Nat) (cs : Array Value) (fr : Nat × Nat), w.heap[k]? = some (.cells cs 46 fr) → w'.heap[k]? = some (.cells cs 46 fr)
theorem KeptT.refl (T P R : Nat) (w : World) : KeptT T P R w w := ⟨rfl, rfl, rfl, Nat.le_refl _, fun _ _ _ _ => rfl, fun _ _ _ h => h⟩
theorem KeptT.trans {T P R : Nat} {a b c : World} (h : KeptT T P R a b) (k : KeptT T P R b c) : KeptT T P R a c :=
  ⟨k.os.trans h.os, k.tape.trans h.tape, k.output.trans h.output, Nat.le_trans h.size k.size, fun i h1 h2 h3 => (k.block i h1 h2 h3).trans (h.block i h1 h2 h3), fun i cs fr h1 => k.tag i cs fr (h.tag i cs fr h1)⟩
theorem KeptT.grown {T P R : Nat} {a b c : World} {row : Option Nat} (h : KeptT T P R a b) (hg : b.grownBy c row) (hT : T ≤ b.heap.size) (hr : ∀ r, row = some r → T ≤ r ∨ r = P ∨ r = R) (ht : NoTag b row 46) : KeptT T P R a c :=
  h.trans ⟨hg.os, hg.tape, hg.output, hg.size, fun k hk h1 h2 => hg.block k (by omega) (fun e => by rcases hr k e.symm with h | h | h <;> omega), fun k cs fr h1 => grown_old hg h1 (fun e => ht k e.symm _ _ h1)⟩

/-- the pairs when a and b meet -/
def meetL (a b : Int) (pairs : List (Int × Int)) : List (Int × Int) := if a = b then pairs else insL (pairOf a b) pairs
theorem mem_meetL {a b : Int} {pairs : List (Int × Int)} {p : Int × Int} : p ∈ meetL a b pairs ↔ p ∈ pairs ∨ (a ≠ b ∧ p = pairOf a b) := by
  unfold meetL
  split
  · next h => constructor
              · exact .inl
              · rintro (h' | ⟨h', _⟩)
                · exact h'
                · exact absurd h h'
  · next h => rw [mem_insL]; constructor
              · rintro (rfl | h')
                · exact .inr ⟨h, rfl⟩
                · exact .inl h'
              · rintro (h' | ⟨_, rfl⟩)
                · exact .inr h'
                · exact .inl rfl

end Go.Proofs.Ytdlcpmjhngfgkaa

namespace Go.Proofs.Ytdlcpmjhngfgkaa
open Go.RowKit Go.Shelf
attribute [local go_sem] Oper.semAt_some

theorem rgStage_le {ops : Array Oper} {E : List Nat} {i k : Nat} (h : rgStage ops E i k = true) (m : Nat) (h2 : E.countP (fun e => bef ops e i || e == i) + m = E.length) : k ≤ m := by
  unfold rgStage at h
  simp only [Bool.and_eq_true, decide_eq_true_eq] at h
  omega

theorem meets_len {W : World} {base T M P R n : Nat} {pairs : List (Int × Int)} {cs : List Value} {adj : List (List Int)} (h : Meets W base T M P R n pairs cs adj) {a : Nat} {l : List Int} (hl : adj[a]? = some l) (hn : n ≤ 1000000) : l.length ≤ 1000000 := by
  obtain ⟨h1, h2⟩ := h.agree a l hl
  have : l.length ≤ ((List.range n).map (fun i : Nat => (i : Int))).length := nodup_length_le h1 (fun b hb => by
    have := h.within _ ((h2 b).1 hb)
    unfold pairOf at this
    simp only at this
    rw [List.mem_map]
    exact ⟨b.toNat, List.mem_range.2 (by omega), by omega⟩)
  simp at this; omega

def MeetPost (base T M P R n : Nat) (pairs : List (Int × Int)) (w : World) (e : Ending) (w' : World) : Prop :=
  (∃ v, e = .returned v) ∧ ∃ cs adj, Meets w' base T M P R n pairs cs adj ∧ KeptT T P R w w'

set_option maxRecDepth 100000 in
set_option maxHeartbeats 4000000 in
theorem meet_any (base T M P R n : Nat) (pairs : List (Int × Int)) (cs : List Value) (adj : List (List Int)) (w : World) (hm : Meets w base T M P R n pairs cs adj) (hn : n ≤ 1000000) (x y : Nat) (hx : x < n) (hy : y < n) :
    Calls Try.prog 35 #[.pointer (some ⟨M, 0, none⟩), I x, I y] w (MeetPost base T M P R n (meetL x y pairs) w) := by
  have HM := Lib.hid hm
  clear hm
  refine (callsIn_wide (n := 8)).1 ?_
  refine callsIn_of_wp Try.func35 rfl trivial ?_ rfl
  simp only [Try.ntmps35, List.size_toArray, List.length_cons, List.length_nil, Nat.reduceAdd, Nat.reduceSub, Array.replicate_succ, Array.replicate_zero, List.push_toArray, List.append_toArray, List.nil_append, List.cons_append]
  gi_wp2
  obtain ⟨W1, hW1⟩ : ∃ W1, w.alloc (.cells #[.int .i64 (min (x : Int) y), .int .i64 (max (x : Int) y)] 67) = W1 := ⟨_, rfl⟩
  have hM1 : Meets W1 base T M P R n pairs cs adj := by rw [← hW1]; exact HM.out.ext (alloc_grown _ _ none)
  have hB1 : W1.heap[w.heap.size]? = some (.cells #[.int .i64 (min (x : Int) y), .int .i64 (max (x : Int) y)] 67 (0, 0)) := by rw [← hW1]; exact heap_new _ _
  have hb1 : Below w.heap.size w W1 := by rw [← hW1]; exact below_a1 _ _
  rw [hW1]
  clear hW1
  have HM1 := Lib.hid hM1
  have HB1 := Lib.hid hB1
  have HE1 := Lib.hid hb1
  clear hM1 hB1 hb1
  obtain ⟨had, hhad⟩ : ∃ had : Bool, had = decide (pairOf x y ∈ pairs) := ⟨_, rfl⟩
  have hd : ∀ i : Decidable (pairOf x y ∈ pairs), @decide _ i = had := fun i => by rw [hhad]; congr
  have HD := Lib.hid hd
  have HH := Lib.hid hhad
  clear hhad hd
  refine wpIn_region_rvP (by kernel_rfl) [] (by decide) (by kernel_rfl) (by kernel_rfl) (fun vs => by kernel_rfl)
    (fun _ _ W => Below W1.heap.size W1 W)
    (fun W W' => Below W.heap.size W W')
    (fun i v W => match i with
      | 0 => v = .pointer (some ⟨M, 0, none⟩)
      | 1 => v = .pointer (some ⟨M, 0, none⟩)
      | 2 => v = .pointer (some ⟨M, 0, none⟩)
      | 3 => v = .map (some P)
      | 4 => v = encPair (pairOf x y)
      | 5 => v = .tuple #[.agg #[], .bool had]
      | 6 => v = .tuple #[.agg #[], .bool had]
      | 7 => v = .agg #[]
      | 8 => v = .bool had
      | 9 => ∃ r, v = .pointer (some ⟨r, 0, none⟩) ∧ W.heap[r]? = some (.cells #[] 78 (0, 0))
      | 11 => v = .bool had
      | _ => True) ?h0 ?hst ?hop ?hend
  case h0 => exact ⟨rfl, rfl, rfl, Nat.le_refl _, fun _ _ => rfl⟩
  case hst =>
    intro j v W W' hst hΦ
    match j, hΦ with
    | 0, h => exact h
    | 1, h => exact h
    | 2, h => exact h
    | 3, h => exact h
    | 4, h => exact h
    | 5, h => exact h
    | 6, h => exact h
    | 7, h => exact h
    | 8, h => exact h
    | 9, ⟨r, h1, h2⟩ => exact ⟨r, h1, (hst.block r (Array.getElem?_eq_some_iff.1 h2).1).trans h2⟩
    | 10, _ => trivial
    | 11, h => exact h
    | j + 12, _ => trivial
  case hop =>
    refine ⟨?_, ?_, ?_, ?_, ?_, ?_, ?_, ?_, ?_, ?_, ?_, ?_, trivial⟩
    · rintro stg a W4 vs ho hstg hC hΦ hsz hr
      have r1 : a.tmps.getD 0 undef = (.pointer (some ⟨M, 0, none⟩)) := (hr 0 (by simp [Oper.looksAt, Op.operands])).trans (show slotOf _ _ vs _ 0 = (.pointer (some ⟨M, 0, none⟩)) from by kernel_rfl)
      refine rg_val ho rfl (fun _ _ => trivial) (by intro c h; cases h) (v := .pointer (some ⟨M, 0, none⟩)) (W' := W4) ?_ ⟨_, rfl, hC, Below.refl _ _, rfl⟩
      go_simp
    · rintro stg a W4 vs ho hstg hC hΦ hsz hr
      have r1 : a.tmps.getD 17 undef = _ := ((hr 17 (by simp [Oper.looksAt, Op.operands])).trans (show slotOf _ _ vs _ 17 = vs 0 from by kernel_rfl)).trans (hΦ 0 (by kernel_rfl))
      refine rg_val ho rfl (fun _ _ => trivial) (by intro c h; cases h) (v := .pointer (some ⟨M, 0, none⟩)) (W' := W4) ?_ ⟨_, rfl, hC, Below.refl _ _, rfl⟩
      go_simp
    · rintro stg a W4 vs ho hstg hC hΦ hsz hr
      have r1 : a.tmps.getD 18 undef = _ := ((hr 18 (by simp [Oper.looksAt, Op.operands])).trans (show slotOf _ _ vs _ 18 = vs 1 from by kernel_rfl)).trans (hΦ 1 (by kernel_rfl))
      refine rg_val ho rfl (fun _ _ => trivial) (by intro c h; cases h) (v := .pointer (some ⟨M, 0, none⟩)) (W' := W4) ?_ ⟨_, rfl, hC, Below.refl _ _, rfl⟩
      go_simp
    · rintro stg a W4 vs ho hstg hC hΦ hsz hr
      have r1 : a.tmps.getD 19 undef = _ := ((hr 19 (by simp [Oper.looksAt, Op.operands])).trans (show slotOf _ _ vs _ 19 = vs 2 from by kernel_rfl)).trans (hΦ 2 (by kernel_rfl))
      have hc := cell_of_block (HM1.out.ext (below_grown hC none)).box 0
      simp only [List.getElem?_toArray, List.getElem?_cons_zero] at hc
      refine rg_val ho rfl (fun _ _ => trivial) (by intro c h; cases h) (v := .map (some P)) (W' := W4) ?_ ⟨_, rfl, hC, Below.refl _ _, rfl⟩
      go_simp
    · rintro stg a W4 vs ho hstg hC hΦ hsz hr
      have r1 : a.tmps.getD 6 undef = (.pointer (some ⟨w.heap.size, 0, none⟩)) := (hr 6 (by simp [Oper.looksAt, Op.operands])).trans (show slotOf _ _ vs _ 6 = (.pointer (some ⟨w.heap.size, 0, none⟩)) from by kernel_rfl)
      have hbx := grown_old (below_grown hC none) HB1.out (by simp)
      have c0 := cell_of_block hbx 0
      have c1 := cell_of_block hbx 1
      simp only [List.getElem?_toArray, List.getElem?_cons_zero, List.getElem?_cons_succ] at c0 c1
      refine rg_val ho rfl (fun _ _ => trivial) (by intro c h; cases h) (v := encPair (pairOf x y)) (W' := W4) ?_ ⟨_, rfl, hC, Below.refl _ _, rfl⟩
      unfold encPair pairOf
      go_simp
    · rintro stg a W4 vs ho hstg hC hΦ hsz hr
      have r1 : a.tmps.getD 20 undef = _ := ((hr 20 (by simp [Oper.looksAt, Op.operands])).trans (show slotOf _ _ vs _ 20 = vs 3 from by kernel_rfl)).trans (hΦ 3 (by kernel_rfl))
      have r2 : a.tmps.getD 21 undef = _ := ((hr 21 (by simp [Oper.looksAt, Op.operands])).trans (show slotOf _ _ vs _ 21 = vs 4 from by kernel_rfl)).trans (hΦ 4 (by kernel_rfl))
      have hrun := run_lookS keyPair (T := 57) Try.underlying57 (HM1.out.ext (below_grown hC none)).set (pairOf x y)
      rw [HD.out] at hrun
      have e1 : a.eval (.tmp 20) = .map (some P) := r1
      have e2 : a.eval (.tmp 21) = encPair (pairOf x y) := r2
      refine rg_val ho rfl (fun _ _ => trivial) (by intro c h; cases h) (v := .tuple #[.agg #[], .bool had]) (W' := W4) ?_ ⟨_, rfl, hC, Below.refl _ _, rfl⟩
      unfold execOp
      simp only [e1, e2, hrun, Sem.run_bind, Result.andThen_ok, Sem.run_pure]
    · rintro stg a W4 vs ho hstg hC hΦ hsz hr
      have r1 : a.tmps.getD 22 undef = _ := ((hr 22 (by simp [Oper.looksAt, Op.operands])).trans (show slotOf _ _ vs _ 22 = vs 5 from by kernel_rfl)).trans (hΦ 5 (by kernel_rfl))
      refine rg_val ho rfl (fun _ _ => trivial) (by intro c h; cases h) (v := .tuple #[.agg #[], .bool had]) (W' := W4) ?_ ⟨_, rfl, hC, Below.refl _ _, rfl⟩
      go_simp
    · rintro stg a W4 vs ho hstg hC hΦ hsz hr
      have r1 : a.tmps.getD 16 undef = _ := ((hr 16 (by simp [Oper.looksAt, Op.operands])).trans (show slotOf _ _ vs _ 16 = vs 6 from by kernel_rfl)).trans (hΦ 6 (by kernel_rfl))
      refine rg_val ho rfl (fun _ _ => trivial) (by intro c h; cases h) (v := .agg #[]) (W' := W4) ?_ ⟨_, rfl, hC, Below.refl _ _, rfl⟩
      go_simp
    · rintro stg a W4 vs ho hstg hC hΦ hsz hr
      have r1 : a.tmps.getD 16 undef = _ := ((hr 16 (by simp [Oper.looksAt, Op.operands])).trans (show slotOf _ _ vs _ 16 = vs 6 from by kernel_rfl)).trans (hΦ 6 (by kernel_rfl))
      refine rg_val ho rfl (fun _ _ => trivial) (by intro c h; cases h) (v := .bool had) (W' := W4) ?_ ⟨_, rfl, hC, Below.refl _ _, rfl⟩
      go_simp
    · rintro stg a W4 vs ho hstg hC hΦ hsz hr
      refine rg_val ho rfl (fun _ _ => trivial) (by intro c h; cases h) (v := .pointer (some ⟨W4.heap.size, 0, none⟩)) (W' := W4.alloc (.cells #[] 78)) ?_ ⟨_, rfl, hC.alloc hC.size _, below_a1 _ _, W4.heap.size, rfl, heap_new _ _⟩
      go_simp
    · rintro stg a W4 vs ho hstg hC hΦ hsz hr
      have r1 : a.tmps.getD 7 undef = vs 9 := (hr 7 (by simp [Oper.looksAt, Op.operands])).trans (show slotOf _ _ vs _ 7 = vs 9 from by kernel_rfl)
      have r2 : a.tmps.getD 23 undef = _ := ((hr 23 (by simp [Oper.looksAt, Op.operands])).trans (show slotOf _ _ vs _ 23 = vs 7 from by kernel_rfl)).trans (hΦ 7 (by kernel_rfl))
      obtain ⟨r, h9, hr9⟩ := hΦ 9 (by kernel_rfl)
      rw [h9] at r1
      refine rg_skip ho rfl (fun _ _ => trivial) (by intro c h; cases h) (W' := W4) ?_ ⟨_, rfl, hC, Below.refl _ _, trivial⟩
      go_simp
    · rintro stg a W4 vs ho hstg hC hΦ hsz hr
      have r1 : a.tmps.getD 24 undef = _ := ((hr 24 (by simp [Oper.looksAt, Op.operands])).trans (show slotOf _ _ vs _ 24 = vs 8 from by kernel_rfl)).trans (hΦ 8 (by kernel_rfl))
      refine rg_val ho rfl (fun _ _ => trivial) (by intro c h; cases h) (v := .bool had) (W' := W4) ?_ ⟨_, rfl, hC, Below.refl _ _, rfl⟩
      go_simp
  case hend =>
    rintro vs W hC hΦ
    have h11 : vs 11 = .bool had := hΦ 11 (by decide)
    simp only [putAll, Act.put]
    rw [h11]
    have hMW := HM1.out.ext (below_grown hC none)
    have hBW := grown_old (below_grown hC none) HB1.out (by simp)
    have hEW : Below w.heap.size w W := HE1.out.trans (hC.mono HE1.out.size)
    have HMW := Lib.hid hMW
    have HBW := Lib.hid hBW
    have HEW := Lib.hid hEW
    have hlo := hMW.lo
    have hwl := HM.out.lo
    clear hC hΦ hMW hBW hEW h11
    have hret : (had = true ∨ (x : Int) = y) → MeetPost base T M P R n (meetL x y pairs) w (.returned (.tuple #[])) W := fun h => by
      have e : meetL x y pairs = pairs := by
        unfold meetL
        rcases h with h | h
        · split
          · rfl
          · have : pairOf x y ∈ pairs := by rw [HH.out] at h; simpa using h
            simp [insL, this]
        · rw [if_pos h]
      rw [e]
      exact ⟨⟨_, rfl⟩, cs, adj, HMW.out, ⟨HEW.out.os, HEW.out.tape, HEW.out.output, HEW.out.size, fun k hk _ _ => HEW.out.block k (by omega), fun k cs fr h => (HEW.out.block k (Array.getElem?_eq_some_iff.1 h).1).trans h⟩⟩
    have HRT := Lib.hid hret
    clear hret
    cases hb : had
    · by_cases hxy : (x : Int) = y
      · have HXY := Lib.hid hxy
        gi_wp2
        exact bodyPost_ret (results_none rfl _ _ _) rfl (HRT.out (.inr HXY.out))
      · gi_wp2
        refine wpIn_region_rvP (by kernel_rfl) [6] (by decide) (by kernel_rfl) (by kernel_rfl) (fun vs => by kernel_rfl)
          (fun k _ W' => match k with
            | 0 => W.grownBy W' none
            | _ => W.grownBy W' (some P) ∧ SetAt W' P ((insL (pairOf x y) pairs).map encPair) ∧ W.heap.size ≤ W'.heap.size)
          (fun _ _ => True)
          (fun i v _ => match i with
            | 0 => v = .pointer (some ⟨M, 0, none⟩)
            | 1 => v = .pointer (some ⟨M, 0, none⟩)
            | 2 => v = .pointer (some ⟨M, 0, none⟩)
            | 3 => v = .map (some P)
            | 4 => v = encPair (pairOf x y)
            | 5 => v = .agg #[]
            | _ => True) ?h0 ?hst ?hop ?hend
        case h0 => exact ⟨rfl, rfl, rfl, Nat.le_refl _, fun _ _ _ => rfl⟩
        case hst => intro j v W W' _ h; exact h
        case hop =>
          refine ⟨?_, ?_, ?_, ?_, ?_, ?_, ?_, trivial⟩
          · rintro stg a W4 vs ho hstg hC hΦ hsz hr
            have r1 : a.tmps.getD 0 undef = (.pointer (some ⟨M, 0, none⟩)) := (hr 0 (by simp [Oper.looksAt, Op.operands])).trans (show slotOf _ _ vs _ 0 = (.pointer (some ⟨M, 0, none⟩)) from by kernel_rfl)
            refine rg_val ho rfl (fun _ _ => trivial) (by intro c h; cases h) (v := (.pointer (some ⟨M, 0, none⟩))) (W' := W4) ?_ ⟨_, rfl, hC, trivial, rfl⟩
            go_simp
          · rintro stg a W4 vs ho hstg hC hΦ hsz hr
            have r1 : a.tmps.getD 31 undef = _ := ((hr 31 (by simp [Oper.looksAt, Op.operands])).trans (show slotOf _ _ vs _ 31 = vs 0 from by kernel_rfl)).trans (hΦ 0 (by kernel_rfl))
            refine rg_val ho rfl (fun _ _ => trivial) (by intro c h; cases h) (v := (.pointer (some ⟨M, 0, none⟩))) (W' := W4) ?_ ⟨_, rfl, hC, trivial, rfl⟩
            go_simp
          · rintro stg a W4 vs ho hstg hC hΦ hsz hr
            have r1 : a.tmps.getD 32 undef = _ := ((hr 32 (by simp [Oper.looksAt, Op.operands])).trans (show slotOf _ _ vs _ 32 = vs 1 from by kernel_rfl)).trans (hΦ 1 (by kernel_rfl))
            refine rg_val ho rfl (fun _ _ => trivial) (by intro c h; cases h) (v := (.pointer (some ⟨M, 0, none⟩))) (W' := W4) ?_ ⟨_, rfl, hC, trivial, rfl⟩
            go_simp
          · rintro stg a W4 vs ho hstg hC hΦ hsz hr
            obtain rfl := rgStage_k hstg 0 (by kernel_rfl) (by kernel_rfl)
            have r1 : a.tmps.getD 33 undef = _ := ((hr 33 (by simp [Oper.looksAt, Op.operands])).trans (show slotOf _ _ vs _ 33 = vs 2 from by kernel_rfl)).trans (hΦ 2 (by kernel_rfl))
            have hc := cell_of_block (HMW.out.ext hC).box 0
            simp only [List.getElem?_toArray, List.getElem?_cons_zero] at hc
            refine rg_val ho rfl (fun _ _ => trivial) (by intro c h; cases h) (v := (.map (some P))) (W' := W4) ?_ ⟨_, rfl, hC, trivial, rfl⟩
            go_simp
          · rintro stg a W4 vs ho hstg hC hΦ hsz hr
            obtain rfl := rgStage_k hstg 0 (by kernel_rfl) (by kernel_rfl)
            have r1 : a.tmps.getD 6 undef = (.pointer (some ⟨w.heap.size, 0, none⟩)) := (hr 6 (by simp [Oper.looksAt, Op.operands])).trans (show slotOf _ _ vs _ 6 = (.pointer (some ⟨w.heap.size, 0, none⟩)) from by kernel_rfl)
            have hbx := grown_old hC HBW.out (by simp)
            have c0 := cell_of_block hbx 0
            have c1 := cell_of_block hbx 1
            simp only [List.getElem?_toArray, List.getElem?_cons_zero, List.getElem?_cons_succ] at c0 c1
            refine rg_val ho rfl (fun _ _ => trivial) (by intro c h; cases h) (v := encPair (pairOf x y)) (W' := W4) ?_ ⟨_, rfl, hC, trivial, rfl⟩
            unfold encPair pairOf
            go_simp
          · rintro stg a W4 vs ho hstg hC hΦ hsz hr
            refine rg_val ho rfl (fun _ _ => trivial) (by intro c h; cases h) (v := (.agg #[])) (W' := W4) ?_ ⟨_, rfl, hC, trivial, rfl⟩
            go_simp
          · rintro stg a W4 vs ho hstg hC hΦ hsz hr
            obtain rfl := rgStage_k hstg 0 (by kernel_rfl) (by kernel_rfl)
            have r1 : a.tmps.getD 34 undef = _ := ((hr 34 (by simp [Oper.looksAt, Op.operands])).trans (show slotOf _ _ vs _ 34 = vs 3 from by kernel_rfl)).trans (hΦ 3 (by kernel_rfl))
            have r2 : a.tmps.getD 35 undef = _ := ((hr 35 (by simp [Oper.looksAt, Op.operands])).trans (show slotOf _ _ vs _ 35 = vs 4 from by kernel_rfl)).trans (hΦ 4 (by kernel_rfl))
            have r3 : a.tmps.getD 36 undef = _ := ((hr 36 (by simp [Oper.looksAt, Op.operands])).trans (show slotOf _ _ vs _ 36 = vs 5 from by kernel_rfl)).trans (hΦ 5 (by kernel_rfl))
            obtain ⟨w5, hrun, hs5, hg5, hz5⟩ := run_putS keyPair (T := 57) Try.underlying57 (HMW.out.ext hC).set (pairOf x y)
            have e1 : a.eval (.tmp 34) = .map (some P) := r1
            have e2 : a.eval (.tmp 35) = encPair (pairOf x y) := r2
            have e3 : a.eval (.tmp 36) = .agg #[] := r3
            refine rg_skip ho rfl (fun _ _ => trivial) (by intro c h; cases h) (W' := w5) ?_ ⟨_, rfl, ⟨grown_trans (grown_none _ hC) hg5, hs5, Nat.le_trans hC.size hg5.size⟩, trivial, trivial⟩
            unfold execOp
            simp only [e1, e2, e3, hrun, Sem.run_bind, Result.andThen_ok, Sem.run_pure]
        case hend =>
          rintro vs W2 ⟨hg2, hs2, hz2⟩ hΦ
          simp only [putAll, Act.put]
          have ht2 : ∀ e, NoTag W (some P) e := fun e => by
            obtain ⟨_, _, h1, _⟩ := HMW.out.set
            exact NoTag.other e h1 rfl
          have hbox := grown_old hg2 HMW.out.box (fun e => ht2 60 M e.symm _ _ HMW.out.box)
          have hrow := HMW.out.row.kept hg2 (fun e => ht2 32 R e.symm _ _ HMW.out.row)
          have hrows := HMW.out.rows.grown hg2 (ht2 3)
          have HBX := Lib.hid hbox
          have HRW := Lib.hid hrow
          have HRS := Lib.hid hrows
          have HG2 := Lib.hid hg2
          have HS2 := Lib.hid hs2
          clear hΦ hg2 hs2 ht2 hbox hrow hrows
          gi_wp2
          have hxyn : x ≠ y := fun e => hxy (by rw [e])
          have hcl := HMW.out.len
          have hal := HMW.out.alen
          obtain ⟨lx, hlx⟩ : ∃ lx, adj[x]? = some lx := ⟨_, List.getElem?_eq_getElem (by omega)⟩
          obtain ⟨ly, hly⟩ : ∃ ly, adj[y]? = some ly := ⟨_, List.getElem?_eq_getElem (by omega)⟩
          obtain ⟨vx, hcx⟩ : ∃ vx, cs[x]? = some vx := ⟨_, List.getElem?_eq_getElem (by omega)⟩
          obtain ⟨vy, hcy⟩ : ∃ vy, cs[y]? = some vy := ⟨_, List.getElem?_eq_getElem (by omega)⟩
          have hox := HRS.out.own x vx lx hcx hlx
          have hoy := HRS.out.own y vy ly hcy hly
          obtain ⟨xa, xc, rfl⟩ := hox.slice
          obtain ⟨ya, yc, rfl⟩ := hoy.slice
          have hbx := ownsRow_base hox
          have hby := ownsRow_base hoy
          have hlxn : lx.length ≤ 1000000 := meets_len HMW.out hlx hn
          have hlyn : ly.length ≤ 1000000 := meets_len HMW.out hly hn
          have hRl := HRW.out.lt
          have hbb : T ≤ W2.heap.size := Nat.le_trans hlo.2.2.2.2 hz2
          have hx1 : (x : Int) < (n : Int) := by omega
          have hy1 : (y : Int) < (n : Int) := by omega
          have hbg : ∀ (Wa Wb : World) (row : Option Nat), (W2.heap.size ≤ Wa.heap.size ∧ KeptT T P R W2 Wa ∧ Wa.heap[M]? = some (.cells #[.map (some P), .slice (some ⟨R, 0, none⟩) n n] 60 (0, 0)) ∧ SetAt Wa P ((insL (pairOf x y) pairs).map encPair)) → Wa.grownBy Wb row → (∀ r, row = some r → T ≤ r ∨ r = P ∨ r = R) → NoTag Wa row 60 ∧ NoTag Wa row 46 → some P ≠ row →
              (W2.heap.size ≤ Wb.heap.size ∧ KeptT T P R W2 Wb ∧ Wb.heap[M]? = some (.cells #[.map (some P), .slice (some ⟨R, 0, none⟩) n n] 60 (0, 0)) ∧ SetAt Wb P ((insL (pairOf x y) pairs).map encPair)) := fun Wa Wb row h hg hr ht hp =>
            ⟨Nat.le_trans h.1 hg.size, h.2.1.grown hg (Nat.le_trans hbb h.1) hr ht.2, grown_old hg h.2.2.1 (fun e => ht.1 M e.symm _ _ h.2.2.1), h.2.2.2.below (hg.block P h.2.2.2.lt hp)⟩
          have hnm : ∀ (Wa : World) (v : Value) (l : List Int), (W2.heap.size ≤ Wa.heap.size ∧ KeptT T P R W2 Wa ∧ Wa.heap[M]? = some (.cells #[.map (some P), .slice (some ⟨R, 0, none⟩) n n] 60 (0, 0)) ∧ SetAt Wa P ((insL (pairOf x y) pairs).map encPair)) → OwnInts Wa T v l → some P ≠ v.ownBlock := fun Wa v l h ho e => by
            obtain ⟨_, _, h1, _⟩ := h.2.2.2
            rcases ho.2 with ⟨rfl, _⟩ | ⟨g, cap, cur, rfl, _, h2, _⟩
            · cases e
            · simp only [Value.ownBlock, Option.some.injEq] at e
              rw [← e, h1] at h2; cases h2
          let CC : Nat → (Nat → Value) → World → Prop := fun k vs W => (W2.heap.size ≤ W.heap.size ∧ KeptT T P R W2 W ∧ W.heap[M]? = some (.cells #[.map (some P), .slice (some ⟨R, 0, none⟩) n n] 60 (0, 0)) ∧ SetAt W P ((insL (pairOf x y) pairs).map encPair)) ∧ (k ≤ 2 → Row W R 32 cs) ∧ match k with
              | 0 => Adj W T cs adj
              | 1 => Adj W T (cs.set x (vs 19)) (adj.set x (lx ++ [(y : Int)])) ∧ (∃ a n c, vs 19 = .slice a n c)
              | 2 => Adj W T ((cs.set x (vs 19)).set y (vs 29)) ((adj.set x (lx ++ [(y : Int)])).set y (ly ++ [(x : Int)])) ∧ (∃ a n c, vs 19 = .slice a n c) ∧ (∃ a n c, vs 29 = .slice a n c)
              | 3 => Adj W T ((cs.set x (vs 19)).set y (vs 29)) ((adj.set x (lx ++ [(y : Int)])).set y (ly ++ [(x : Int)])) ∧ (∃ a n c, vs 29 = .slice a n c) ∧ Row W R 32 (cs.set x (vs 19))
              | _ => Adj W T ((cs.set x (vs 19)).set y (vs 29)) ((adj.set x (lx ++ [(y : Int)])).set y (ly ++ [(x : Int)])) ∧ Row W R 32 ((cs.set x (vs 19)).set y (vs 29))
          have hgr : ∀ (k : Nat) (vs vs' : Nat → Value) (Wa Wb : World), CC k vs Wa → Wa.grownBy Wb none → (∀ i, vs' i = vs i) → CC k vs' Wb := fun k vs vs' Wa Wb h hg he => by
            obtain rfl : vs' = vs := funext he
            obtain ⟨h1, h2, h3⟩ := h
            refine ⟨hbg Wa Wb none h1 hg (fun _ e => by cases e) ⟨NoTag.none _ _, NoTag.none _ _⟩ (by simp), fun hk => (h2 hk).kept hg (by simp), ?_⟩
            match k, h3 with
            | 0, h3 => exact Adj.grown h3 hg (NoTag.none _ _)
            | 1, h3 => exact ⟨h3.1.grown hg (NoTag.none _ _), h3.2⟩
            | 2, h3 => exact ⟨h3.1.grown hg (NoTag.none _ _), h3.2⟩
            | 3, h3 => exact ⟨h3.1.grown hg (NoTag.none _ _), h3.2.1, h3.2.2.kept hg (by simp)⟩
            | k + 4, h3 => exact ⟨h3.1.grown hg (NoTag.none _ _), h3.2.kept hg (by simp)⟩
          refine wpIn_region_rvP (by kernel_rfl) [19, 29, 31, 33] (by decide) (by kernel_rfl) (by kernel_rfl) (fun vs => by kernel_rfl) CC
            (fun W W' => ∀ (k : Nat) (o : Obj), W2.heap.size ≤ k → W.heap[k]? = some o → W'.heap[k]? = some o)
            (fun i v W => match i with
              | 0 => v = (.pointer (some ⟨M, 0, none⟩))
              | 1 => v = (.pointer (some ⟨M, 0, none⟩))
              | 2 => v = .pointer (some ⟨M, 1, none⟩)
              | 3 => v = (.slice (some ⟨R, 0, none⟩) n n)
              | 4 => v = I x
              | 5 => v = (.pointer (some ⟨M, 0, none⟩))
              | 6 => v = (.pointer (some ⟨M, 0, none⟩))
              | 7 => v = .pointer (some ⟨M, 1, none⟩)
              | 8 => v = (.slice (some ⟨R, 0, none⟩) n n)
              | 9 => v = I y
              | 10 => v = (.pointer (some ⟨M, 0, none⟩))
              | 11 => v = (.pointer (some ⟨M, 0, none⟩))
              | 12 => v = .pointer (some ⟨M, 1, none⟩)
              | 13 => v = (.slice (some ⟨R, 0, none⟩) n n)
              | 14 => v = I x
              | 15 => v = .pointer (some ⟨R, x, none⟩)
              | 16 => v = .slice xa lx.length xc
              | 17 => v = I y
              | 18 => ∃ r, v = .slice (some ⟨r, 0, none⟩) 1 1 ∧ W2.heap.size ≤ r ∧ W.heap[r]? = some (.cells #[I y] 3 (0, 0))
              | 20 => v = (.pointer (some ⟨M, 0, none⟩))
              | 21 => v = (.pointer (some ⟨M, 0, none⟩))
              | 22 => v = .pointer (some ⟨M, 1, none⟩)
              | 23 => v = (.slice (some ⟨R, 0, none⟩) n n)
              | 24 => v = I y
              | 25 => v = .pointer (some ⟨R, y, none⟩)
              | 26 => v = .slice ya ly.length yc
              | 27 => v = I x
              | 28 => ∃ r, v = .slice (some ⟨r, 0, none⟩) 1 1 ∧ W2.heap.size ≤ r ∧ W.heap[r]? = some (.cells #[I x] 3 (0, 0))
              | 30 => v = .pointer (some ⟨R, x, none⟩)
              | 32 => v = .pointer (some ⟨R, y, none⟩)
              | _ => True) ?h0' ?hst' ?hop' ?hend'
          case h0' => exact ⟨hbg W2 _ none ⟨Nat.le_refl _, KeptT.refl _ _ _ _, HBX.out, HS2.out⟩ ⟨rfl, rfl, rfl, Nat.le_refl _, fun _ _ _ => rfl⟩ (fun _ e => by cases e) ⟨NoTag.none _ _, NoTag.none _ _⟩ (by simp), fun _ => HRW.out, HRS.out.grown (row := none) ⟨rfl, rfl, rfl, Nat.le_refl _, fun _ _ _ => rfl⟩ (NoTag.none _ _)⟩
          case hst' =>
            intro j v W W' hst hΦ
            match j, hΦ with
            | 0, h => exact h
            | 1, h => exact h
            | 2, h => exact h
            | 3, h => exact h
            | 4, h => exact h
            | 5, h => exact h
            | 6, h => exact h
            | 7, h => exact h
            | 8, h => exact h
            | 9, h => exact h
            | 10, h => exact h
            | 11, h => exact h
            | 12, h => exact h
            | 13, h => exact h
            | 14, h => exact h
            | 15, h => exact h
            | 16, h => exact h
            | 17, h => exact h
            | 18, ⟨r, h1, h2, h3⟩ => exact ⟨r, h1, h2, hst r _ h2 h3⟩
            | 19, h => exact h
            | 20, h => exact h
            | 21, h => exact h
            | 22, h => exact h
            | 23, h => exact h
            | 24, h => exact h
            | 25, h => exact h
            | 26, h => exact h
            | 27, h => exact h
            | 28, ⟨r, h1, h2, h3⟩ => exact ⟨r, h1, h2, hst r _ h2 h3⟩
            | 29, h => exact h
            | 30, h => exact h
            | 31, h => exact h
            | 32, h => exact h
            | 33, h => exact h
            | j + 34, h => trivial
          case hop' =>
            refine ⟨?_, ?_, ?_, ?_, ?_, ?_, ?_, ?_, ?_, ?_, ?_, ?_, ?_, ?_, ?_, ?_, ?_, ?_, ?_, ?_, ?_, ?_, ?_, ?_, ?_, ?_, ?_, ?_, ?_, ?_, ?_, ?_, ?_, ?_, trivial⟩
            · rintro stg a W4 vs ho hstg hC hΦ hsz hr
              have r1 : a.tmps.getD 0 undef = (.pointer (some ⟨M, 0, none⟩)) := (hr 0 (by simp [Oper.looksAt, Op.operands])).trans (show slotOf _ _ vs _ 0 = (.pointer (some ⟨M, 0, none⟩)) from by kernel_rfl)
              refine rg_val ho rfl (fun _ _ => trivial) (by intro c h; cases h) (v := (.pointer (some ⟨M, 0, none⟩))) (W' := W4) ?_ ⟨_, rfl, hC, fun _ _ _ h => h, rfl⟩
              go_simp
            · rintro stg a W4 vs ho hstg hC hΦ hsz hr
              have r1 : a.tmps.getD 37 undef = _ := ((hr 37 (by simp [Oper.looksAt, Op.operands])).trans (show slotOf _ _ vs _ 37 = vs 0 from by kernel_rfl)).trans (hΦ 0 (by kernel_rfl))
              refine rg_val ho rfl (fun _ _ => trivial) (by intro c h; cases h) (v := (.pointer (some ⟨M, 0, none⟩))) (W' := W4) ?_ ⟨_, rfl, hC, fun _ _ _ h => h, rfl⟩
              go_simp
            · rintro stg a W4 vs ho hstg hC hΦ hsz hr
              have r1 : a.tmps.getD 38 undef = _ := ((hr 38 (by simp [Oper.looksAt, Op.operands])).trans (show slotOf _ _ vs _ 38 = vs 1 from by kernel_rfl)).trans (hΦ 1 (by kernel_rfl))
              refine rg_val ho rfl (fun _ _ => trivial) (by intro c h; cases h) (v := (.pointer (some ⟨M, 1, none⟩))) (W' := W4) ?_ ⟨_, rfl, hC, fun _ _ _ h => h, rfl⟩
              go_simp
            · rintro stg a W4 vs ho hstg hC hΦ hsz hr
              have r1 : a.tmps.getD 39 undef = _ := ((hr 39 (by simp [Oper.looksAt, Op.operands])).trans (show slotOf _ _ vs _ 39 = vs 2 from by kernel_rfl)).trans (hΦ 2 (by kernel_rfl))
              have hc := cell_of_block hC.1.2.2.1 1
              simp only [List.getElem?_toArray, List.getElem?_cons_zero, List.getElem?_cons_succ] at hc
              refine rg_val ho rfl (fun _ _ => trivial) (by intro c h; cases h) (v := (.slice (some ⟨R, 0, none⟩) n n)) (W' := W4) ?_ ⟨_, rfl, hC, fun _ _ _ h => h, rfl⟩
              go_simp
            · rintro stg a W4 vs ho hstg hC hΦ hsz hr
              have r1 : a.tmps.getD 1 undef = (I x) := (hr 1 (by simp [Oper.looksAt, Op.operands])).trans (show slotOf _ _ vs _ 1 = (I x) from by kernel_rfl)
              refine rg_val ho rfl (fun _ _ => trivial) (by intro c h; cases h) (v := (I x)) (W' := W4) ?_ ⟨_, rfl, hC, fun _ _ _ h => h, rfl⟩
              go_simp
            · rintro stg a W4 vs ho hstg hC hΦ hsz hr
              have r1 : a.tmps.getD 0 undef = (.pointer (some ⟨M, 0, none⟩)) := (hr 0 (by simp [Oper.looksAt, Op.operands])).trans (show slotOf _ _ vs _ 0 = (.pointer (some ⟨M, 0, none⟩)) from by kernel_rfl)
              refine rg_val ho rfl (fun _ _ => trivial) (by intro c h; cases h) (v := (.pointer (some ⟨M, 0, none⟩))) (W' := W4) ?_ ⟨_, rfl, hC, fun _ _ _ h => h, rfl⟩
              go_simp
            · rintro stg a W4 vs ho hstg hC hΦ hsz hr
              have r1 : a.tmps.getD 42 undef = _ := ((hr 42 (by simp [Oper.looksAt, Op.operands])).trans (show slotOf _ _ vs _ 42 = vs 5 from by kernel_rfl)).trans (hΦ 5 (by kernel_rfl))
              refine rg_val ho rfl (fun _ _ => trivial) (by intro c h; cases h) (v := (.pointer (some ⟨M, 0, none⟩))) (W' := W4) ?_ ⟨_, rfl, hC, fun _ _ _ h => h, rfl⟩
              go_simp
            · rintro stg a W4 vs ho hstg hC hΦ hsz hr
              have r1 : a.tmps.getD 43 undef = _ := ((hr 43 (by simp [Oper.looksAt, Op.operands])).trans (show slotOf _ _ vs _ 43 = vs 6 from by kernel_rfl)).trans (hΦ 6 (by kernel_rfl))
              refine rg_val ho rfl (fun _ _ => trivial) (by intro c h; cases h) (v := (.pointer (some ⟨M, 1, none⟩))) (W' := W4) ?_ ⟨_, rfl, hC, fun _ _ _ h => h, rfl⟩
              go_simp
            · rintro stg a W4 vs ho hstg hC hΦ hsz hr
              have r1 : a.tmps.getD 44 undef = _ := ((hr 44 (by simp [Oper.looksAt, Op.operands])).trans (show slotOf _ _ vs _ 44 = vs 7 from by kernel_rfl)).trans (hΦ 7 (by kernel_rfl))
              have hc := cell_of_block hC.1.2.2.1 1
              simp only [List.getElem?_toArray, List.getElem?_cons_zero, List.getElem?_cons_succ] at hc
              refine rg_val ho rfl (fun _ _ => trivial) (by intro c h; cases h) (v := (.slice (some ⟨R, 0, none⟩) n n)) (W' := W4) ?_ ⟨_, rfl, hC, fun _ _ _ h => h, rfl⟩
              go_simp
            · rintro stg a W4 vs ho hstg hC hΦ hsz hr
              have r1 : a.tmps.getD 2 undef = (I y) := (hr 2 (by simp [Oper.looksAt, Op.operands])).trans (show slotOf _ _ vs _ 2 = (I y) from by kernel_rfl)
              refine rg_val ho rfl (fun _ _ => trivial) (by intro c h; cases h) (v := (I y)) (W' := W4) ?_ ⟨_, rfl, hC, fun _ _ _ h => h, rfl⟩
              go_simp
            · rintro stg a W4 vs ho hstg hC hΦ hsz hr
              have r1 : a.tmps.getD 0 undef = (.pointer (some ⟨M, 0, none⟩)) := (hr 0 (by simp [Oper.looksAt, Op.operands])).trans (show slotOf _ _ vs _ 0 = (.pointer (some ⟨M, 0, none⟩)) from by kernel_rfl)
              refine rg_val ho rfl (fun _ _ => trivial) (by intro c h; cases h) (v := (.pointer (some ⟨M, 0, none⟩))) (W' := W4) ?_ ⟨_, rfl, hC, fun _ _ _ h => h, rfl⟩
              go_simp
            · rintro stg a W4 vs ho hstg hC hΦ hsz hr
              have r1 : a.tmps.getD 47 undef = _ := ((hr 47 (by simp [Oper.looksAt, Op.operands])).trans (show slotOf _ _ vs _ 47 = vs 10 from by kernel_rfl)).trans (hΦ 10 (by kernel_rfl))
              refine rg_val ho rfl (fun _ _ => trivial) (by intro c h; cases h) (v := (.pointer (some ⟨M, 0, none⟩))) (W' := W4) ?_ ⟨_, rfl, hC, fun _ _ _ h => h, rfl⟩
              go_simp
            · rintro stg a W4 vs ho hstg hC hΦ hsz hr
              have r1 : a.tmps.getD 48 undef = _ := ((hr 48 (by simp [Oper.looksAt, Op.operands])).trans (show slotOf _ _ vs _ 48 = vs 11 from by kernel_rfl)).trans (hΦ 11 (by kernel_rfl))
              refine rg_val ho rfl (fun _ _ => trivial) (by intro c h; cases h) (v := (.pointer (some ⟨M, 1, none⟩))) (W' := W4) ?_ ⟨_, rfl, hC, fun _ _ _ h => h, rfl⟩
              go_simp
            · rintro stg a W4 vs ho hstg hC hΦ hsz hr
              have r1 : a.tmps.getD 49 undef = _ := ((hr 49 (by simp [Oper.looksAt, Op.operands])).trans (show slotOf _ _ vs _ 49 = vs 12 from by kernel_rfl)).trans (hΦ 12 (by kernel_rfl))
              have hc := cell_of_block hC.1.2.2.1 1
              simp only [List.getElem?_toArray, List.getElem?_cons_zero, List.getElem?_cons_succ] at hc
              refine rg_val ho rfl (fun _ _ => trivial) (by intro c h; cases h) (v := (.slice (some ⟨R, 0, none⟩) n n)) (W' := W4) ?_ ⟨_, rfl, hC, fun _ _ _ h => h, rfl⟩
              go_simp
            · rintro stg a W4 vs ho hstg hC hΦ hsz hr
              have r1 : a.tmps.getD 1 undef = (I x) := (hr 1 (by simp [Oper.looksAt, Op.operands])).trans (show slotOf _ _ vs _ 1 = (I x) from by kernel_rfl)
              refine rg_val ho rfl (fun _ _ => trivial) (by intro c h; cases h) (v := (I x)) (W' := W4) ?_ ⟨_, rfl, hC, fun _ _ _ h => h, rfl⟩
              go_simp
            · rintro stg a W4 vs ho hstg hC hΦ hsz hr
              have r1 : a.tmps.getD 50 undef = _ := ((hr 50 (by simp [Oper.looksAt, Op.operands])).trans (show slotOf _ _ vs _ 50 = vs 13 from by kernel_rfl)).trans (hΦ 13 (by kernel_rfl))
              have r2 : a.tmps.getD 51 undef = _ := ((hr 51 (by simp [Oper.looksAt, Op.operands])).trans (show slotOf _ _ vs _ 51 = vs 14 from by kernel_rfl)).trans (hΦ 14 (by kernel_rfl))
              refine rg_val ho rfl (fun _ _ => trivial) (by intro c h; cases h) (v := (.pointer (some ⟨R, x, none⟩))) (W' := W4) ?_ ⟨_, rfl, hC, fun _ _ _ h => h, rfl⟩
              go_simp
            · rintro stg a W4 vs ho hstg hC hΦ hsz hr
              have r1 : a.tmps.getD 52 undef = _ := ((hr 52 (by simp [Oper.looksAt, Op.operands])).trans (show slotOf _ _ vs _ 52 = vs 15 from by kernel_rfl)).trans (hΦ 15 (by kernel_rfl))
              have hk := rgStage_le hstg 0 (by kernel_rfl)
              have hc := (hC.2.1 (by omega)).cell x
              rw [hcx] at hc
              refine rg_val ho rfl (fun _ _ => trivial) (by intro c h; cases h) (v := (.slice xa lx.length xc)) (W' := W4) ?_ ⟨_, rfl, hC, fun _ _ _ h => h, rfl⟩
              go_simp
            · rintro stg a W4 vs ho hstg hC hΦ hsz hr
              have r1 : a.tmps.getD 2 undef = (I y) := (hr 2 (by simp [Oper.looksAt, Op.operands])).trans (show slotOf _ _ vs _ 2 = (I y) from by kernel_rfl)
              refine rg_val ho rfl (fun _ _ => trivial) (by intro c h; cases h) (v := (I y)) (W' := W4) ?_ ⟨_, rfl, hC, fun _ _ _ h => h, rfl⟩
              go_simp
            · rintro stg a W4 vs ho hstg hC hΦ hsz hr
              have r1 : a.tmps.getD 54 undef = _ := ((hr 54 (by simp [Oper.looksAt, Op.operands])).trans (show slotOf _ _ vs _ 54 = vs 17 from by kernel_rfl)).trans (hΦ 17 (by kernel_rfl))
              have h54 : 54 < a.tmps.size := by rw [hsz]; simp
              have r2 : a.tmps[54] = I y := by simpa [Array.getD, h54] using r1
              refine rg_val ho rfl (fun _ _ => trivial) (by intro c h; cases h) (v := .slice (some ⟨W4.heap.size, 0, none⟩) 1 1) (W' := W4.alloc (.cells #[I y] 3)) ?_ ⟨_, rfl, hgr stg vs _ W4 _ hC (alloc_grown _ _ none) (fun _ => rfl), fun _ _ _ h => heap_old _ _ h, W4.heap.size, rfl, hC.1.1, heap_new _ _⟩
              go_simp
            · rintro stg a W4 vs ho hstg hC hΦ hsz hr
              obtain rfl := rgStage_k hstg 0 (by kernel_rfl) (by kernel_rfl)
              have r1 : a.tmps.getD 53 undef = _ := ((hr 53 (by simp [Oper.looksAt, Op.operands, Call.operands])).trans (show slotOf _ _ vs _ 53 = vs 16 from by kernel_rfl)).trans (hΦ 16 (by kernel_rfl))
              have r2 : a.tmps.getD 55 undef = vs 18 := (hr 55 (by simp [Oper.looksAt, Op.operands, Call.operands])).trans (show slotOf _ _ vs _ 55 = vs 18 from by kernel_rfl)
              obtain ⟨r, hv, hrl, hrr⟩ := hΦ 18 (by kernel_rfl)
              rw [hv] at r2
              obtain ⟨hB, hR, hA⟩ := hC
              obtain ⟨v5, w5, hrun, hA5, hg5, hrb, hnt, hsl5⟩ := hA.app 32 hcx hlx (c := 1) (by rw [cell_of_block hrr]; rfl) (by omega) (Nat.le_trans hbb hB.1)
              refine rg_val ho rfl (fun _ _ => trivial) (by intro c h; cases h) (v := v5) (W' := w5) ?_ ⟨_, rfl, ⟨hbg W4 w5 _ hB hg5 (fun r hr => .inl (hrb r hr).1) ⟨ownsRow_notag (hA.own x _ lx hcx hlx) (by decide), ownsRow_notag (hA.own x _ lx hcx hlx) (by decide)⟩ (hnm W4 _ lx hB (hA.own x _ lx hcx hlx)), fun _ => (hR (by omega)).kept hg5 (fun e => hnt R e.symm _ _ (hR (by omega))), hA5, hsl5⟩, fun k o hk h => grown_old hg5 h (fun e => by have := (hbx k e.symm).2; omega), trivial⟩
              exact run_opApp (.tmp 53) (.tmp 55) rfl r1 r2 hrun
            · rintro stg a W4 vs ho hstg hC hΦ hsz hr
              have r1 : a.tmps.getD 0 undef = (.pointer (some ⟨M, 0, none⟩)) := (hr 0 (by simp [Oper.looksAt, Op.operands])).trans (show slotOf _ _ vs _ 0 = (.pointer (some ⟨M, 0, none⟩)) from by kernel_rfl)
              refine rg_val ho rfl (fun _ _ => trivial) (by intro c h; cases h) (v := (.pointer (some ⟨M, 0, none⟩))) (W' := W4) ?_ ⟨_, rfl, hC, fun _ _ _ h => h, rfl⟩
              go_simp
            · rintro stg a W4 vs ho hstg hC hΦ hsz hr
              have r1 : a.tmps.getD 57 undef = _ := ((hr 57 (by simp [Oper.looksAt, Op.operands])).trans (show slotOf _ _ vs _ 57 = vs 20 from by kernel_rfl)).trans (hΦ 20 (by kernel_rfl))
              refine rg_val ho rfl (fun _ _ => trivial) (by intro c h; cases h) (v := (.pointer (some ⟨M, 0, none⟩))) (W' := W4) ?_ ⟨_, rfl, hC, fun _ _ _ h => h, rfl⟩
              go_simp
            · rintro stg a W4 vs ho hstg hC hΦ hsz hr
              have r1 : a.tmps.getD 58 undef = _ := ((hr 58 (by simp [Oper.looksAt, Op.operands])).trans (show slotOf _ _ vs _ 58 = vs 21 from by kernel_rfl)).trans (hΦ 21 (by kernel_rfl))
              refine rg_val ho rfl (fun _ _ => trivial) (by intro c h; cases h) (v := (.pointer (some ⟨M, 1, none⟩))) (W' := W4) ?_ ⟨_, rfl, hC, fun _ _ _ h => h, rfl⟩
              go_simp
            · rintro stg a W4 vs ho hstg hC hΦ hsz hr
              have r1 : a.tmps.getD 59 undef = _ := ((hr 59 (by simp [Oper.looksAt, Op.operands])).trans (show slotOf _ _ vs _ 59 = vs 22 from by kernel_rfl)).trans (hΦ 22 (by kernel_rfl))
              have hc := cell_of_block hC.1.2.2.1 1
              simp only [List.getElem?_toArray, List.getElem?_cons_zero, List.getElem?_cons_succ] at hc
              refine rg_val ho rfl (fun _ _ => trivial) (by intro c h; cases h) (v := (.slice (some ⟨R, 0, none⟩) n n)) (W' := W4) ?_ ⟨_, rfl, hC, fun _ _ _ h => h, rfl⟩
              go_simp
            · rintro stg a W4 vs ho hstg hC hΦ hsz hr
              have r1 : a.tmps.getD 2 undef = (I y) := (hr 2 (by simp [Oper.looksAt, Op.operands])).trans (show slotOf _ _ vs _ 2 = (I y) from by kernel_rfl)
              refine rg_val ho rfl (fun _ _ => trivial) (by intro c h; cases h) (v := (I y)) (W' := W4) ?_ ⟨_, rfl, hC, fun _ _ _ h => h, rfl⟩
              go_simp
            · rintro stg a W4 vs ho hstg hC hΦ hsz hr
              have r1 : a.tmps.getD 60 undef = _ := ((hr 60 (by simp [Oper.looksAt, Op.operands])).trans (show slotOf _ _ vs _ 60 = vs 23 from by kernel_rfl)).trans (hΦ 23 (by kernel_rfl))
              have r2 : a.tmps.getD 61 undef = _ := ((hr 61 (by simp [Oper.looksAt, Op.operands])).trans (show slotOf _ _ vs _ 61 = vs 24 from by kernel_rfl)).trans (hΦ 24 (by kernel_rfl))
              refine rg_val ho rfl (fun _ _ => trivial) (by intro c h; cases h) (v := (.pointer (some ⟨R, y, none⟩))) (W' := W4) ?_ ⟨_, rfl, hC, fun _ _ _ h => h, rfl⟩
              go_simp
            · rintro stg a W4 vs ho hstg hC hΦ hsz hr
              have r1 : a.tmps.getD 62 undef = _ := ((hr 62 (by simp [Oper.looksAt, Op.operands])).trans (show slotOf _ _ vs _ 62 = vs 25 from by kernel_rfl)).trans (hΦ 25 (by kernel_rfl))
              have hk := rgStage_le hstg 1 (by kernel_rfl)
              have hc := (hC.2.1 (by omega)).cell y
              rw [hcy] at hc
              refine rg_val ho rfl (fun _ _ => trivial) (by intro c h; cases h) (v := (.slice ya ly.length yc)) (W' := W4) ?_ ⟨_, rfl, hC, fun _ _ _ h => h, rfl⟩
              go_simp
            · rintro stg a W4 vs ho hstg hC hΦ hsz hr
              have r1 : a.tmps.getD 1 undef = (I x) := (hr 1 (by simp [Oper.looksAt, Op.operands])).trans (show slotOf _ _ vs _ 1 = (I x) from by kernel_rfl)
              refine rg_val ho rfl (fun _ _ => trivial) (by intro c h; cases h) (v := (I x)) (W' := W4) ?_ ⟨_, rfl, hC, fun _ _ _ h => h, rfl⟩
              go_simp
            · rintro stg a W4 vs ho hstg hC hΦ hsz hr
              have r1 : a.tmps.getD 64 undef = _ := ((hr 64 (by simp [Oper.looksAt, Op.operands])).trans (show slotOf _ _ vs _ 64 = vs 27 from by kernel_rfl)).trans (hΦ 27 (by kernel_rfl))
              have h64 : 64 < a.tmps.size := by rw [hsz]; simp
              have r2 : a.tmps[64] = I x := by simpa [Array.getD, h64] using r1
              refine rg_val ho rfl (fun _ _ => trivial) (by intro c h; cases h) (v := .slice (some ⟨W4.heap.size, 0, none⟩) 1 1) (W' := W4.alloc (.cells #[I x] 3)) ?_ ⟨_, rfl, hgr stg vs _ W4 _ hC (alloc_grown _ _ none) (fun _ => rfl), fun _ _ _ h => heap_old _ _ h, W4.heap.size, rfl, hC.1.1, heap_new _ _⟩
              go_simp
            · rintro stg a W4 vs ho hstg hC hΦ hsz hr
              obtain rfl := rgStage_k hstg 1 (by kernel_rfl) (by kernel_rfl)
              have r1 : a.tmps.getD 63 undef = _ := ((hr 63 (by simp [Oper.looksAt, Op.operands, Call.operands])).trans (show slotOf _ _ vs _ 63 = vs 26 from by kernel_rfl)).trans (hΦ 26 (by kernel_rfl))
              have r2 : a.tmps.getD 65 undef = vs 28 := (hr 65 (by simp [Oper.looksAt, Op.operands, Call.operands])).trans (show slotOf _ _ vs _ 65 = vs 28 from by kernel_rfl)
              obtain ⟨r, hv, hrl, hrr⟩ := hΦ 28 (by kernel_rfl)
              rw [hv] at r2
              obtain ⟨hB, hR, hA, hs19⟩ := hC
              have hcy' : (cs.set x (vs 19))[y]? = some (.slice ya ly.length yc) := by rw [List.getElem?_set_ne hxyn]; exact hcy
              have hly' : (adj.set x (lx ++ [(y : Int)]))[y]? = some ly := by rw [List.getElem?_set_ne hxyn]; exact hly
              obtain ⟨v5, w5, hrun, hA5, hg5, hrb, hnt, hsl5⟩ := hA.app 32 hcy' hly' (c := 1) (by rw [cell_of_block hrr]; rfl) (by omega) (Nat.le_trans hbb hB.1)
              refine rg_val ho rfl (fun _ _ => trivial) (by intro c h; cases h) (v := v5) (W' := w5) ?_ ⟨_, rfl, ⟨hbg W4 w5 _ hB hg5 (fun r hr => .inl (hrb r hr).1) ⟨ownsRow_notag (hA.own y _ ly hcy' hly') (by decide), ownsRow_notag (hA.own y _ ly hcy' hly') (by decide)⟩ (hnm W4 _ ly hB (hA.own y _ ly hcy' hly')), fun _ => (hR (by omega)).kept hg5 (fun e => hnt R e.symm _ _ (hR (by omega))), hA5, hs19, hsl5⟩, fun k o hk h => grown_old hg5 h (fun e => by have := (hby k e.symm).2; omega), trivial⟩
              exact run_opApp (.tmp 63) (.tmp 65) rfl r1 r2 hrun
            · rintro stg a W4 vs ho hstg hC hΦ hsz hr
              have r1 : a.tmps.getD 40 undef = _ := ((hr 40 (by simp [Oper.looksAt, Op.operands])).trans (show slotOf _ _ vs _ 40 = vs 3 from by kernel_rfl)).trans (hΦ 3 (by kernel_rfl))
              have r2 : a.tmps.getD 41 undef = _ := ((hr 41 (by simp [Oper.looksAt, Op.operands])).trans (show slotOf _ _ vs _ 41 = vs 4 from by kernel_rfl)).trans (hΦ 4 (by kernel_rfl))
              refine rg_val ho rfl (fun _ _ => trivial) (by intro c h; cases h) (v := (.pointer (some ⟨R, x, none⟩))) (W' := W4) ?_ ⟨_, rfl, hC, fun _ _ _ h => h, rfl⟩
              go_simp
            · rintro stg a W4 vs ho hstg hC hΦ hsz hr
              obtain rfl := rgStage_k hstg 2 (by kernel_rfl) (by kernel_rfl)
              have r1 : a.tmps.getD 67 undef = _ := ((hr 67 (by simp [Oper.looksAt, Op.operands])).trans (show slotOf _ _ vs _ 67 = vs 30 from by kernel_rfl)).trans (hΦ 30 (by kernel_rfl))
              have r2 : a.tmps.getD 56 undef = vs 19 := (hr 56 (by simp [Oper.looksAt, Op.operands])).trans (show slotOf _ _ vs _ 56 = vs 19 from by kernel_rfl)
              obtain ⟨hB, hR, hA, ⟨sa, sn, sc, hs19⟩, hs29⟩ := hC
              have hR' := hR (by omega)
              have hc := hR'.cell x
              have hf := hR'.frozen x
              rw [hcx] at hc
              have hg5 := setCell_grown W4 R x (vs 19)
              refine rg_skip ho rfl (fun _ _ => trivial) (by intro c h; cases h) (W' := W4.setCell ⟨R, x, none⟩ (vs 19)) ?_ ⟨_, rfl, ⟨hbg W4 _ _ hB hg5 (fun r hr => by cases hr; exact .inr (.inr rfl)) ⟨NoTag.box 60 hR' (by decide), NoTag.box 46 hR' (by decide)⟩ (fun e => by simp only [Option.some.injEq] at e; obtain ⟨_, _, h1, _⟩ := hB.2.2.2; rw [e, show W4.heap[R]? = _ from hR'] at h1; cases h1), fun h => absurd h (by decide), hA.grown hg5 (NoTag.box 3 hR' (by decide)), hs29, hR'.set x _⟩, fun k o hk h => grown_old hg5 h (by simp; omega), trivial⟩
              rw [hs19] at r2 ⊢
              go_simp
            · rintro stg a W4 vs ho hstg hC hΦ hsz hr
              have r1 : a.tmps.getD 45 undef = _ := ((hr 45 (by simp [Oper.looksAt, Op.operands])).trans (show slotOf _ _ vs _ 45 = vs 8 from by kernel_rfl)).trans (hΦ 8 (by kernel_rfl))
              have r2 : a.tmps.getD 46 undef = _ := ((hr 46 (by simp [Oper.looksAt, Op.operands])).trans (show slotOf _ _ vs _ 46 = vs 9 from by kernel_rfl)).trans (hΦ 9 (by kernel_rfl))
              refine rg_val ho rfl (fun _ _ => trivial) (by intro c h; cases h) (v := (.pointer (some ⟨R, y, none⟩))) (W' := W4) ?_ ⟨_, rfl, hC, fun _ _ _ h => h, rfl⟩
              go_simp
            · rintro stg a W4 vs ho hstg hC hΦ hsz hr
              obtain rfl := rgStage_k hstg 3 (by kernel_rfl) (by kernel_rfl)
              have r1 : a.tmps.getD 68 undef = _ := ((hr 68 (by simp [Oper.looksAt, Op.operands])).trans (show slotOf _ _ vs _ 68 = vs 32 from by kernel_rfl)).trans (hΦ 32 (by kernel_rfl))
              have r2 : a.tmps.getD 66 undef = vs 29 := (hr 66 (by simp [Oper.looksAt, Op.operands])).trans (show slotOf _ _ vs _ 66 = vs 29 from by kernel_rfl)
              obtain ⟨hB, _, hA, ⟨sa, sn, sc, hs29⟩, hR'⟩ := hC
              have hc := hR'.cell y
              have hf := hR'.frozen y
              rw [List.getElem?_set_ne hxyn, hcy] at hc
              have hg5 := setCell_grown W4 R y (vs 29)
              refine rg_skip ho rfl (fun _ _ => trivial) (by intro c h; cases h) (W' := W4.setCell ⟨R, y, none⟩ (vs 29)) ?_ ⟨_, rfl, ⟨hbg W4 _ _ hB hg5 (fun r hr => by cases hr; exact .inr (.inr rfl)) ⟨NoTag.box 60 hR' (by decide), NoTag.box 46 hR' (by decide)⟩ (fun e => by simp only [Option.some.injEq] at e; obtain ⟨_, _, h1, _⟩ := hB.2.2.2; rw [e, show W4.heap[R]? = _ from hR'] at h1; cases h1), fun h => absurd h (by decide), hA.grown hg5 (NoTag.box 3 hR' (by decide)), hR'.set y _⟩, fun k o hk h => grown_old hg5 h (by simp; omega), trivial⟩
              rw [hs29] at r2 ⊢
              go_simp
          case hend' =>
            rintro vs W5 ⟨hB, _, hA, hR⟩ hΦ
            simp only [putAll, Act.put]
            have hnp : pairOf x y ∉ pairs := by rw [HH.out] at hb; simpa using hb
            have hpp : meetL x y pairs = insL (pairOf x y) pairs := by unfold meetL; rw [if_neg hxy]
            have hmem : ∀ p, p ∈ insL (pairOf x y) pairs ↔ p = pairOf x y ∨ p ∈ pairs := fun p => mem_insL
            obtain ⟨hnx, hax⟩ := HMW.out.agree x lx hlx
            obtain ⟨hny, hay⟩ := HMW.out.agree y ly hly
            refine bodyPost_end (results_none rfl _ _ _) rfl ?_
            refine ⟨⟨_, rfl⟩, _, _, ⟨hB.2.2.1, by rw [hpp]; exact hB.2.2.2, hR, by simp [hcl], by simp [hal], hA, ⟨hlo.1, hlo.2.1, hlo.2.2.1, hlo.2.2.2.1, Nat.le_trans hbb hB.1⟩, fun p hp => ?_, fun a l hl => ?_, by rw [hpp]; exact nodup_insL HMW.out.nd⟩, ?_⟩
            · rw [hpp, hmem] at hp
              rcases hp with rfl | hp
              · unfold pairOf; simp only; omega
              · exact HMW.out.within p hp
            · rw [hpp]
              by_cases hay' : a = y
              · subst hay'
                rw [List.getElem?_set_self (by rw [List.length_set]; omega)] at hl
                cases hl
                refine ⟨?_, fun b => ?_⟩
                · rw [List.nodup_append]
                  refine ⟨hny, by simp, fun u hu v hv e => ?_⟩
                  simp at hv; subst hv; subst e
                  apply hnp
                  have := (hay _).1 hu
                  unfold pairOf at this ⊢
                  rwa [Int.min_comm, Int.max_comm] at this
                · rw [List.mem_append, hay b, hmem, List.mem_singleton]
                  have : pairOf a b = pairOf x a ↔ b = x := by unfold pairOf; simp only [Prod.mk.injEq]; omega
                  rw [this]; exact Or.comm
              · rw [List.getElem?_set_ne (fun e => hay' e.symm)] at hl
                by_cases hax' : a = x
                · subst hax'
                  rw [List.getElem?_set_self (by omega)] at hl
                  cases hl
                  refine ⟨?_, fun b => ?_⟩
                  · rw [List.nodup_append]
                    refine ⟨hnx, by simp, fun u hu v hv e => ?_⟩
                    simp at hv; subst hv; subst e
                    exact hnp ((hax _).1 hu)
                  · rw [List.mem_append, hax b, hmem, List.mem_singleton]
                    have : pairOf a b = pairOf a y ↔ b = y := by unfold pairOf; simp only [Prod.mk.injEq]; omega
                    rw [this]; exact Or.comm
                · rw [List.getElem?_set_ne (fun e => hax' e.symm)] at hl
                  obtain ⟨h1, h2⟩ := HMW.out.agree a l hl
                  refine ⟨h1, fun b => ?_⟩
                  rw [h2 b, hmem]
                  have : pairOf a b ≠ pairOf x y := by unfold pairOf; simp only [ne_eq, Prod.mk.injEq]; omega
                  simp [this]
            · have h0 : KeptT T P R w W := ⟨HEW.out.os, HEW.out.tape, HEW.out.output, HEW.out.size, fun k hk _ _ => HEW.out.block k (by omega), fun k cs fr h => (HEW.out.block k (Array.getElem?_eq_some_iff.1 h).1).trans h⟩
              have h46 : NoTag W (some P) 46 := by
                obtain ⟨_, _, h1, _⟩ := HMW.out.set
                exact NoTag.other 46 h1 rfl
              exact (h0.grown HG2.out hlo.2.2.2.2 (fun r e => by cases e; exact .inr (.inl rfl)) h46).trans hB.2.1
    · have HB := Lib.hid hb
      gi_wp2
      exact bodyPost_ret (results_none rfl _ _ _) rfl (HRT.out (.inl HB.out))

end Go.Proofs.Ytdlcpmjhngfgkaa

namespace Go.Proofs.Ytdlcpmjhngfgkaa
open Go.RowKit Go.Shelf

theorem meet_I (base T M P R n : Nat) (pairs : List (Int × Int)) (cs : List Value) (adj : List (List Int)) (w : World) (hm : Meets w base T M P R n pairs cs adj) (hn : n ≤ 1000000) (a b : Int) (ha : 0 ≤ a ∧ a < n) (hb : 0 ≤ b ∧ b < n) :
    Calls Try.prog 35 #[.pointer (some ⟨M, 0, none⟩), I a, I b] w (MeetPost base T M P R n (meetL a b pairs) w) := by
  obtain ⟨x, rfl⟩ : ∃ x : Nat, a = (x : Int) := ⟨a.toNat, by omega⟩
  obtain ⟨y, rfl⟩ : ∃ y : Nat, b = (y : Int) := ⟨b.toNat, by omega⟩
  exact meet_any base T M P R n pairs cs adj w hm hn x y (by omega) (by omega)

def AllMeet (l : List Int) (p : Int × Int) : Prop := ∃ a ∈ l, ∃ b ∈ l, a ≠ b ∧ p = pairOf a b

def MeetsPost (base T M P R n : Nat) (pairs : List (Int × Int)) (S : Int × Int → Prop) (w : World) (w' : World) : Prop :=
  ∃ pairs' cs adj, Meets w' base T M P R n pairs' cs adj ∧ (∀ p, p ∈ pairs' ↔ p ∈ pairs ∨ S p) ∧ KeptT T P R w w'

set_option maxRecDepth 100000 in
set_option maxHeartbeats 4000000 in
theorem mall_any (base T M P R n : Nat) (pairs : List (Int × Int)) (cs : List Value) (adj : List (List Int)) (w : World) (hm : Meets w base T M P R n pairs cs adj) (hn : n ≤ 1000000) (lv : Value) (l : List Int) (hl : ∀ w', KeptT T P R w w' → RInts w' lv l) (hcap : CapOk lv l) (hr : ∀ v ∈ l, 0 ≤ v ∧ v < n) :
    Calls Try.prog 33 #[.pointer (some ⟨M, 0, none⟩), lv] w fun e w' => (∃ v, e = .returned v) ∧ MeetsPost base T M P R n pairs (AllMeet l) w w' := by
  obtain ⟨a0, c0, rfl, hcl⟩ := hcap
  have hlen : l.length ≤ 140737488351232 := by obtain ⟨_, _, _, h⟩ := RSl.form (hl w (KeptT.refl _ _ _ _)); exact h
  have HM := Lib.hid hm
  have HL := Lib.hid hl
  have HR := Lib.hid hr
  clear hm hl hr
  go_enter Try.func33, Try.ntmps33
  go_wp2
  go_loopg [10] l.length (fun gh i wr => ∃ k : Nat, gh + k = l.length ∧ i = I k ∧ MeetsPost base T M P R n pairs (AllMeet (l.take k)) w wr)
  case atStart => exact ⟨0, rfl, rfl, pairs, cs, adj, HM.out, fun p => by simp [AllMeet], KeptT.refl _ _ _ _⟩
  case round =>
    obtain ⟨k, hg, rfl, p1, cs1, adj1, hm1, hp1, hk1⟩ := hrel
    obtain ⟨wo, rfl⟩ : ∃ wo, wo = wr := ⟨_, rfl⟩
    have HM1 := Lib.hid hm1
    have HP1 := Lib.hid hp1
    have HK1 := Lib.hid hk1
    clear hm1 hp1 hk1
    by_cases hlt : k < l.length
    · obtain ⟨b, o, c, he, hc, hi⟩ := RInts.at (HL.out wo HK1.out) hlt
      obtain ⟨rfl, rfl⟩ : a0 = some ⟨b, o, none⟩ ∧ c0 = c := by simpa using he
      clear he
      have hkc : (k : Int) ≤ (c0 : Int) := by omega
      have hc0 : ¬ c0 = 0 := by omega
      go_wp2
      go_loopg [19] k (fun gh i wr => ∃ j : Nat, gh + j = k ∧ i = I j ∧ MeetsPost base T M P R n pairs (fun p => AllMeet (l.take k) p ∨ ∃ b ∈ l.take j, l[k] ≠ b ∧ p = pairOf l[k] b) w wr)
      case atStart => exact ⟨0, rfl, rfl, p1, cs1, adj1, HM1.out, fun p => by rw [HP1.out p]; simp, HK1.out⟩
      case round =>
        obtain ⟨j, hg', rfl, p2, cs2, adj2, hm2, hp2, hk2⟩ := hrel
        obtain ⟨wx, rfl⟩ : ∃ wx, wx = wr := ⟨_, rfl⟩
        have HM2 := Lib.hid hm2
        have HP2 := Lib.hid hp2
        have HK2 := Lib.hid hk2
        clear hm2 hp2 hk2
        by_cases hlt' : j < k
        · obtain ⟨b', o', c', he, hc', hi'⟩ := RInts.at (HL.out wx HK2.out) (show j < l.length by omega)
          obtain ⟨⟨rfl, rfl⟩, rfl⟩ : (b = b' ∧ o = o') ∧ c0 = c' := by simpa using he
          clear he
          have hjl : j < l.length := by omega
          have HRK := Lib.hid (HR.out l[k] (List.getElem_mem hlt))
          have HRJ := Lib.hid (HR.out l[j] (List.getElem_mem hjl))
          go_wp2_with (first
            | (go_at_call 35; refine (meet_I base T M P R n p2 cs2 adj2 _ HM2.out hn l[k] l[j] HRK.out HRJ.out).mono ?_; rintro e w3 ⟨⟨v3, rfl⟩, cs3, adj3, hm3, hk3⟩; have HM3 := Lib.hid hm3; have HK3 := Lib.hid hk3; clear hm3 hk3))
          go_roundg (k - (j + 1))
          case measure => omega
          case rel =>
            refine ⟨j + 1, by omega, by go_num, _, cs3, adj3, HM3.out, fun p => ?_, HK2.out.trans HK3.out⟩
            rw [mem_meetL, HP2.out p, List.take_add_one, List.getElem?_eq_getElem hjl]
            simp only [Option.toList_some, List.mem_append, List.mem_singleton]
            constructor
            · rintro ((h | h | ⟨b, hb, h⟩) | ⟨h1, h2⟩)
              · exact .inl h
              · exact .inr (.inl h)
              · exact .inr (.inr ⟨b, .inl hb, h⟩)
              · exact .inr (.inr ⟨_, .inr rfl, h1, h2⟩)
            · rintro (h | h | ⟨b, hb | rfl, h⟩)
              · exact .inl (.inl h)
              · exact .inl (.inr (.inl h))
              · exact .inl (.inr (.inr ⟨b, hb, h⟩))
              · exact .inr h
        · have hjk : j = k := by omega
          subst hjk
          go_wp2
          go_roundg (l.length - (j + 1))
          case measure => omega
          case rel =>
            refine ⟨j + 1, by omega, by go_num, p2, cs2, adj2, HM2.out, fun p => ?_, HK2.out⟩
            rw [HP2.out p, List.take_add_one, List.getElem?_eq_getElem hlt]
            unfold AllMeet
            simp only [Option.toList_some, List.mem_append, List.mem_singleton]
            constructor
            · rintro (h | ⟨a, ha, b, hb, h⟩ | ⟨b, hb, h⟩)
              · exact .inl h
              · exact .inr ⟨a, .inl ha, b, .inl hb, h⟩
              · exact .inr ⟨_, .inr rfl, b, .inl hb, h⟩
            · rintro (h | ⟨a, ha | rfl, b, hb | rfl, h1, h2⟩)
              · exact .inl h
              · exact .inr (.inl ⟨a, ha, b, hb, h1, h2⟩)
              · exact .inr (.inr ⟨a, ha, fun e => h1 e.symm, by rw [h2]; unfold pairOf; rw [Int.min_comm, Int.max_comm]⟩)
              · exact .inr (.inr ⟨b, hb, h1, h2⟩)
              · exact absurd rfl h1
    · go_wp2
      refine bodyPost_end (results_none rfl _ _ _) rfl ?_
      refine ⟨⟨_, rfl⟩, p1, cs1, adj1, HM1.out, fun p => ?_, HK1.out⟩
      rw [HP1.out p, List.take_of_length_le (by omega)]

end Go.Proofs.Ytdlcpmjhngfgkaa
