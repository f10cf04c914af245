import Derived.Test.YtdlcpmjhngfgkaaC7
import Derived.Test.YtdlcpmjhngfgkaaB0
namespace Go.Proofs.Ytdlcpmjhngfgkaa
open Go.RowKit Go.Shelf
attribute [local go_sem] Oper.semAt_some

structure LFlow where
  name : ByteArray
  params : Int
  values : Int
  blocks : List LBlock
abbrev LFlow.cells (f : LFlow) (bv : Value) : Array Value := #[.string f.name, .int .i64 f.params, .int .i64 f.values, bv]
abbrev LFlow.agg (f : LFlow) (bv : Value) : Value := .agg #[.string f.name, .int .i64 f.params, .int .i64 f.values, bv]

/-- the state of wanted: boxes at fixed places above w -/
structure WSt (w : World) (f : LFlow) (bv : Value) (bs : List Nat) (Ls : List (List Int)) (W : World) : Prop where
  below : Below w.heap.size w W
  fbox : W.heap[w.heap.size]? = some (.cells (f.cells bv) 24 (0, 0))
  out : Boxed W (w.heap.size + 2) 84 (.slice (some ⟨w.heap.size + 1, 0, none⟩) bs.length bs.length)
  row : Row W (w.heap.size + 1) 86 (bs.map fun b => .map (some b))
  len : bs.length = Ls.length
  nd : bs.Nodup
  big : ∀ b ∈ bs, w.heap.size + 2 < b
  set : ∀ (i b : Nat) (l : List Int), bs[i]? = some b → Ls[i]? = some l → SetAt W b (l.map I) ∧ l.Nodup


theorem WSt.grown {w : World} {f : LFlow} {bv : Value} {bs : List Nat} {Ls : List (List Int)} {W W' : World} {row : Option Nat} (h : WSt w f bv bs Ls W) (hg : W.grownBy W' row) (hr : ∀ r, row = some r → w.heap.size + 2 < r ∧ r ∉ bs) : WSt w f bv bs Ls W' := by
  have hne : ∀ k, k ≤ w.heap.size + 2 → some k ≠ row := fun k hk e => by have := (hr k e.symm).1; omega
  refine ⟨h.below.grown hg h.below.size (fun k hk => by have := (hr k hk).1; omega), ?_, h.out.kept hg (hne _ (by omega)), h.row.kept hg (hne _ (by omega)), h.len, h.nd, h.big, fun i b l h1 h2 => ?_⟩
  · exact grown_old hg h.fbox (hne _ (by omega))
  · obtain ⟨h3, h4⟩ := h.set i b l h1 h2
    exact ⟨h3.below (hg.block b h3.lt (fun e => (hr b e.symm).2 (List.mem_of_getElem? h1))), h4⟩
theorem WSt.alloc {w : World} {f : LFlow} {bv : Value} {bs : List Nat} {Ls : List (List Int)} {W : World} (h : WSt w f bv bs Ls W) (o : Obj) : WSt w f bv bs Ls (W.alloc o) := h.grown (alloc_grown W o none) (fun _ e => by cases e)
theorem WSt.ext {w : World} {f : LFlow} {bv : Value} {bs : List Nat} {Ls : List (List Int)} {W W' : World} (h : WSt w f bv bs Ls W) (hb : Below W.heap.size W W') : WSt w f bv bs Ls W' := h.grown (below_grown hb none) (fun _ e => by cases e)
theorem sum_zero (l : List Nat) (h : ∀ x ∈ l, x = 0) : l.sum = 0 := by
  induction l with
  | nil => rfl
  | cons x l ih => rw [List.sum_cons, h x List.mem_cons_self, ih (fun y hy => h y (List.mem_cons_of_mem _ hy))]

def totL (Ls : List (List Int)) : Nat := (Ls.map List.length).sum

def WantedPost (f : LFlow) (w : World) (e : Ending) (w' : World) : Prop :=
  ∃ (lv : Value) (bs : List Nat) (Ls : List (List Int)), e = .returned lv ∧ Lives w' lv bs Ls ∧ bs.length = f.blocks.length ∧ (∀ b ∈ bs, w.heap.size ≤ b) ∧ (∀ i v, i < f.blocks.length → (asS Ls i v ↔ LiveS f.blocks i v)) ∧ Below w.heap.size w w'

/-- what holds between two passes -/
structure OInv (w : World) (f : LFlow) (bv : Value) (bs : List Nat) (gh : Nat) (ag : Bool) (Ba : Nat) (Ls : List (List Int)) (ds : List Nat) (W : World) : Prop where
  st : WSt w f bv bs Ls W
  agb : Boxed W Ba 4 (.bool ag)
  ba : w.heap.size + 2 < Ba
  live : ∀ i v, asS Ls i v → LiveS f.blocks i v
  mrk : ∀ d ∈ ds, W.heap[d]? = some (.deferred (some []))
  mkn : ds.Nodup
  mkb : ∀ d ∈ ds, w.heap.size + 2 < d
  yes : ag = true → gh = f.blocks.length * (allUses f.blocks).length + 1 - totL Ls
  no : ag = false → gh = 0 ∧ ClosedS f.blocks (asS Ls)

/-- what holds between two rounds of a pass: pre are the blocks that have come -/
structure PInv (w : World) (f : LFlow) (bv : Value) (bs : List Nat) (Ba B1 N0 : Nat) (Ls0 : List (List Int)) (ds : List Nat) (pre : List (ABlk w f.blocks)) (ag : Bool) (Ls : List (List Int)) (W : World) : Prop where
  st : WSt w f bv bs Ls W
  agb : Boxed W Ba 4 (.bool ag)
  ba : w.heap.size + 2 < Ba ∧ Ba < N0
  it : Boxed W B1 22 bv
  b1 : w.heap.size + 2 < B1 ∧ B1 < N0 ∧ B1 ≠ Ba
  live : ∀ i v, asS Ls i v → LiveS f.blocks i v
  mrk : ∀ d ∈ ds, W.heap[d]? = some (.deferred (some []))
  mkb : ∀ d ∈ ds, w.heap.size + 2 < d ∧ d < N0
  bsb : ∀ b ∈ bs, b < N0
  tot : totL Ls0 ≤ totL Ls
  yes : ag = true → totL Ls0 < totL Ls
  no : ag = false → Ls = Ls0 ∧ ∀ p ∈ pre, ∀ v, beginS p.1.2.1 (asS Ls0) v → asS Ls0 p.1.1 v

theorem PInv.grown {w : World} {f : LFlow} {bv : Value} {bs : List Nat} {Ba B1 N0 : Nat} {Ls0 : List (List Int)} {ds : List Nat} {pre : List (ABlk w f.blocks)} {ag : Bool} {Ls : List (List Int)} {W W' : World} {row : Option Nat} (h : PInv w f bv bs Ba B1 N0 Ls0 ds pre ag Ls W) (hg : W.grownBy W' row) (hr : ∀ r, row = some r → N0 ≤ r) : PInv w f bv bs Ba B1 N0 Ls0 ds pre ag Ls W' := by
  have hne : ∀ k, k < N0 → some k ≠ row := fun k hk e => by have := hr k e.symm; omega
  exact ⟨h.st.grown hg (fun r e => ⟨by have := hr r e; have := h.ba; omega, fun hb => by have := hr r e; have := h.bsb r hb; omega⟩), h.agb.kept hg (hne _ h.ba.2), h.ba, h.it.kept hg (hne _ h.b1.2.1), h.b1, h.live, fun d hd => grown_old hg (h.mrk d hd) (hne _ (h.mkb d hd).2), h.mkb, h.bsb, h.tot, h.yes, h.no⟩

theorem nodup_length_le {l m : List Int} (hn : l.Nodup) (h : ∀ x ∈ l, x ∈ m) : l.length ≤ m.length := by
  induction l generalizing m with
  | nil => simp
  | cons x l ih =>
    rw [List.nodup_cons] at hn
    have hx := h x List.mem_cons_self
    have := ih hn.2 (m := m.erase x) (fun y hy => (List.mem_erase_of_ne (by rintro rfl; exact hn.1 hy)).2 (h y (List.mem_cons_of_mem _ hy)))
    rw [List.length_erase_of_mem hx] at this
    have := List.length_pos_of_mem hx
    simp; omega
theorem sum_le (l : List Nat) (n : Nat) (h : ∀ x ∈ l, x ≤ n) : l.sum ≤ l.length * n := by
  induction l with
  | nil => simp
  | cons x l ih =>
    have h1 := h x List.mem_cons_self
    have h2 := ih (fun y hy => h y (List.mem_cons_of_mem _ hy))
    rw [List.sum_cons, List.length_cons, Nat.succ_mul]; omega
theorem tot_le {w : World} {f : LFlow} {bv : Value} {bs : List Nat} {Ls : List (List Int)} {W : World} (h : WSt w f bv bs Ls W) (hb : bs.length = f.blocks.length) (hl : ∀ i v, asS Ls i v → LiveS f.blocks i v) : totL Ls ≤ f.blocks.length * (allUses f.blocks).length := by
  have h1 := sum_le (Ls.map List.length) (allUses f.blocks).length (fun x hx => by
    obtain ⟨l, hl', rfl⟩ := List.mem_map.1 hx
    obtain ⟨i, hi, e⟩ := List.getElem_of_mem hl'
    have hib : i < bs.length := by rw [h.len]; exact hi
    have hnd := (h.set i bs[i] l (List.getElem?_eq_getElem hib) (by rw [List.getElem?_eq_getElem hi, e])).2
    exact nodup_length_le hnd (fun v hv => LiveS_uses (hl i v ⟨l, by rw [List.getElem?_eq_getElem hi, e], hv⟩)))
  unfold totL
  rw [List.length_map, ← h.len, hb] at h1
  exact h1
theorem all_come {w : World} {bl : List LBlock} {ys : List (ABlk w bl)} (hS : ys.map (fun p => (p.1.1, p.1.2.1)) = (bl.zipIdx.map fun p => (p.2, p.1)).reverse) {i : Nat} {b : LBlock} (hb : bl[i]? = some b) : ∃ p ∈ ys, p.1.1 = i ∧ p.1.2.1 = b := by
  have : (i, b) ∈ ys.map (fun p => (p.1.1, p.1.2.1)) := by
    rw [hS, List.mem_reverse, List.mem_map]
    exact ⟨(b, i), List.mem_zipIdx_iff_getElem?.2 hb, rfl⟩
  obtain ⟨p, hp, e⟩ := List.mem_map.1 this
  simp only [Prod.mk.injEq] at e
  exact ⟨p, hp, e.1, e.2⟩

def foldI {w : World} (l0 : List Int) (pre : List (AIns w)) : List Int := pre.foldl (fun s p => stepL p.1.2.1 s) l0
theorem foldI_snoc {w : World} (l0 : List Int) (pre : List (AIns w)) (x : AIns w) : foldI l0 (pre ++ [x]) = stepL x.1.2.1 (foldI l0 pre) := by simp [foldI]

/-- what holds between two instructions of a round -/
structure QInv (w : World) (f : LFlow) (bv : Value) (bs : List Nat) (Ba B1 N0 : Nat) (Ls0 : List (List Int)) (ds : List Nat) (pre : List (ABlk w f.blocks)) (ag : Bool) (Ls : List (List Int)) (W1 : World) (blk : LBlock) (iv : Value) (Bb g B8 B2 N2 : Nat) (S : List Int) (W : World) : Prop where
  p : PInv w f bv bs Ba B1 N0 Ls0 ds pre ag Ls W
  set : SetAt W g (S.map I)
  nd : S.Nodup
  b8 : Boxed W B8 86 (.map (some g))
  b2 : Boxed W B2 42 iv
  bb : W.heap[Bb]? = some (.cells #[iv, .int .i64 blk.term.kind, .int .i64 blk.term.a, .int .i64 blk.term.to, .int .i64 blk.term.els] 46 (0, 0))
  lo : N0 ≤ Bb ∧ N0 ≤ g ∧ N0 ≤ B8 ∧ N0 ≤ B2 ∧ Bb < N2 ∧ g < N2 ∧ B8 < N2 ∧ B2 < N2 ∧ N0 ≤ N2 ∧ W1.heap.size ≤ N2 ∧ W1.heap.size ≤ g
  bel : Below w.heap.size W1 W
  keep : KeepsFrom N0 W1 W
  it : W.heap[B1]? = W1.heap[B1]?

theorem QInv.grown {w : World} {f : LFlow} {bv : Value} {bs : List Nat} {Ba B1 N0 : Nat} {Ls0 : List (List Int)} {ds : List Nat} {pre : List (ABlk w f.blocks)} {ag : Bool} {Ls : List (List Int)} {W1 : World} {blk : LBlock} {iv : Value} {Bb g B8 B2 N2 : Nat} {S : List Int} {W W' : World} {row : Option Nat}
    (h : QInv w f bv bs Ba B1 N0 Ls0 ds pre ag Ls W1 blk iv Bb g B8 B2 N2 S W) (hg : W.grownBy W' row) (hr : ∀ r, row = some r → N2 ≤ r) : QInv w f bv bs Ba B1 N0 Ls0 ds pre ag Ls W1 blk iv Bb g B8 B2 N2 S W' := by
  have hlo := h.lo
  have hne : ∀ k, k < N2 → some k ≠ row := fun k hk e => by have := hr k e.symm; omega
  refine ⟨h.p.grown hg (fun r e => by have := hr r e; omega), h.set.below (hg.block g h.set.lt (hne _ (by omega))), h.nd, h.b8.kept hg (hne _ (by omega)), h.b2.kept hg (hne _ (by omega)), grown_old hg h.bb (hne _ (by omega)), h.lo, ?_, ?_, ?_⟩
  · refine h.bel.grown hg ?_ (fun k hk => ?_)
    · have := h.p.st.below.size; omega
    · have := hr k hk; have := h.p.ba; omega
  · refine ⟨Nat.le_trans h.keep.size hg.size, fun k o hk h1 h2 => ?_⟩
    have h3 := h.keep.same k o hk h1 h2
    exact grown_old hg h3 (hne _ (by have := (Array.getElem?_eq_some_iff.1 h1).1; omega))
  · rw [hg.block B1 h.p.it.lt (hne _ (by have := h.p.b1; omega))]; exact h.it

theorem QInv.stepped {w : World} {f : LFlow} {bv : Value} {bs : List Nat} {Ba B1 N0 : Nat} {Ls0 : List (List Int)} {ds : List Nat} {pre : List (ABlk w f.blocks)} {ag : Bool} {Ls : List (List Int)} {W1 : World} {blk : LBlock} {iv : Value} {Bb g B8 B2 N2 : Nat} {S S' : List Int} {W W' : World}
    (h : QInv w f bv bs Ba B1 N0 Ls0 ds pre ag Ls W1 blk iv Bb g B8 B2 N2 S W) (hg : W.grownBy W' (some g)) (hs : SetAt W' g (S'.map I)) (hn : S'.Nodup) : QInv w f bv bs Ba B1 N0 Ls0 ds pre ag Ls W1 blk iv Bb g B8 B2 N2 S' W' := by
  have hlo := h.lo
  have hnc : ∀ {k : Nat} {c : Array Value} {t : TypeId} {fr : Nat × Nat}, W.heap[k]? = some (.cells c t fr) → some k ≠ some g := fun hk e => by
    simp only [Option.some.injEq] at e
    obtain ⟨_, _, h1, _⟩ := h.set
    rw [e, h1] at hk; cases hk
  refine ⟨h.p.grown hg (fun r e => by cases e; omega), hs, hn, h.b8.kept hg (hnc h.b8), h.b2.kept hg (hnc h.b2), grown_old hg h.bb (hnc h.bb), h.lo, ?_, ?_, ?_⟩
  · refine h.bel.grown hg ?_ (fun k hk => ?_)
    · have := h.p.st.below.size; omega
    · cases hk; have := h.p.ba; omega
  · refine ⟨Nat.le_trans h.keep.size hg.size, fun k o hk h1 h2 => ?_⟩
    have h3 := h.keep.same k o hk h1 h2
    exact grown_old hg h3 (by have := (Array.getElem?_eq_some_iff.1 h1).1; simp; omega)
  · rw [hg.block B1 h.p.it.lt (hnc h.p.it)]; exact h.it

theorem WSt.put {w : World} {f : LFlow} {bv : Value} {bs : List Nat} {Ls : List (List Int)} {W W' : World} {i b : Nat} {l l' : List Int} (h : WSt w f bv bs Ls W) (hi : i < Ls.length) (hb : bs[i]? = some b) (_hl : Ls[i]? = some l) (hs : SetAt W' b (l'.map I)) (hn : l'.Nodup) (hg : W.grownBy W' (some b)) : WSt w f bv bs (Ls.set i l') W' := by
  have hbig := h.big b (List.mem_of_getElem? hb)
  have hne : ∀ k, k ≤ w.heap.size + 2 → some k ≠ some b := fun k hk e => by simp only [Option.some.injEq] at e; omega
  refine ⟨h.below.grown hg h.below.size (fun k hk => by cases hk; omega), grown_old hg h.fbox (hne _ (by omega)), h.out.kept hg (hne _ (by omega)), h.row.kept hg (hne _ (by omega)), by simpa using h.len, h.nd, h.big, fun j c m h1 h2 => ?_⟩
  by_cases hji : j = i
  · subst hji
    rw [hb] at h1; cases h1
    rw [List.getElem?_set_self hi] at h2; cases h2
    exact ⟨hs, hn⟩
  · rw [List.getElem?_set_ne (fun e => hji e.symm)] at h2
    obtain ⟨h3, h4⟩ := h.set j c m h1 h2
    refine ⟨h3.below (hg.block c h3.lt ?_), h4⟩
    intro e
    simp only [Option.some.injEq] at e
    subst e
    have hj := (List.getElem?_eq_some_iff.1 h1).1
    have hi' := (List.getElem?_eq_some_iff.1 hb).1
    exact hji ((List.getElem_inj (h₀ := hj) (h₁ := hi') h.nd).1 (by rw [(List.getElem?_eq_some_iff.1 h1).2, (List.getElem?_eq_some_iff.1 hb).2]))

theorem totL_set {Ls : List (List Int)} {i : Nat} {l : List Int} (h : Ls[i]? = some l) (l' : List Int) : totL (Ls.set i l') + l.length = totL Ls + l'.length := by
  induction Ls generalizing i with
  | nil => simp at h
  | cons x Ls ih =>
    cases i with
    | zero => simp at h; subst h; simp [totL]; omega
    | succ i =>
      have := ih (i := i) (by simpa using h)
      simp only [totL, List.set_cons_succ, List.map_cons, List.sum_cons] at this ⊢
      omega
theorem set_same {Ls : List (List Int)} {i : Nat} {l : List Int} (h : Ls[i]? = some l) : Ls.set i l = Ls := by
  apply List.ext_getElem?
  intro j
  by_cases hj : i = j
  · subst hj
    rw [List.getElem?_set_self (List.getElem?_eq_some_iff.1 h).1, h]
  · rw [List.getElem?_set_ne hj]
theorem insL_len (y : Int) (S : List Int) : S.length ≤ (insL y S).length := by unfold insL; split <;> simp
theorem insAll_le : ∀ (l S : List Int), S.length ≤ (insAll l S).length
  | [], _ => Nat.le_refl _
  | y :: l, S => Nat.le_trans (insL_len y S) (insAll_le l (insL y S))
theorem insAll_same : ∀ (l S : List Int), (insAll l S).length ≤ S.length → insAll l S = S ∧ ∀ x ∈ l, x ∈ S
  | [], _, _ => ⟨rfl, by simp⟩
  | y :: l, S, h => by
    have e : insAll (y :: l) S = insAll l (insL y S) := rfl
    rw [e] at h ⊢
    have h1 := insAll_le l (insL y S)
    by_cases hy : y ∈ S
    · have h2 : insL y S = S := by simp [insL, hy]
      rw [h2] at h ⊢
      obtain ⟨h3, h4⟩ := insAll_same l S h
      refine ⟨h3, fun x hx => ?_⟩
      rcases List.mem_cons.1 hx with rfl | hx
      · exact hy
      · exact h4 x hx
    · have h2 : insL y S = S ++ [y] := by simp [insL, hy]
      rw [h2] at h1
      simp at h1
      rw [h2] at h
      omega

theorem WSt.lives {w : World} {f : LFlow} {bv : Value} {bs : List Nat} {Ls : List (List Int)} {W : World} (h : WSt w f bv bs Ls W) (hl : bs.length ≤ 140737488351232) : Lives W (.slice (some ⟨w.heap.size + 1, 0, none⟩) bs.length bs.length) bs Ls := by
  refine ⟨⟨_, _, rfl, hl, .inr ⟨w.heap.size + 1, 0, rfl, fun i x hx => ⟨fun _ => .map (some x), fun j hj => ?_, rfl⟩⟩⟩, h.len, h.nd, h.set⟩
  obtain rfl : j = 0 := by omega
  have := h.row.cell i
  rw [List.getElem?_map, hx] at this
  simpa using this

/-- what holds at the end of a round, but for what again says -/
structure RInv (w : World) (f : LFlow) (bv : Value) (bs : List Nat) (Ba B1 N0 : Nat) (ds : List Nat) (W1 : World) (ag : Bool) (Ls : List (List Int)) (W : World) : Prop where
  st : WSt w f bv bs Ls W
  agb : Boxed W Ba 4 (.bool ag)
  it : Boxed W B1 22 bv
  mrk : ∀ d ∈ ds, W.heap[d]? = some (.deferred (some []))
  bel : Below w.heap.size W1 W
  keep : KeepsFrom N0 W1 W
  itk : W.heap[B1]? = W1.heap[B1]?

theorem allUses_in {w : World} {bv : Value} {bl : List LBlock} (h : RSl 5 RBlk w bv bl) : ∀ v ∈ allUses bl, InI v := by
  intro v hv
  obtain ⟨b, hb, hv⟩ := List.mem_flatMap.1 hv
  obtain ⟨i, hi, rfl⟩ := List.getElem_of_mem hb
  obtain ⟨_, _, _, C, _, _, _, _, _, _, gb⟩ := RSl.at h hi
  rcases List.mem_append.1 hv with hv | hv
  · obtain ⟨x, hx, hv⟩ := List.mem_flatMap.1 hv
    obtain ⟨j, hj, rfl⟩ := List.getElem_of_mem hx
    obtain ⟨_, _, _, C', _, _, _, _, _, _, _, _, _, gi⟩ := RSl.at gb.ins hj
    exact gi.uses v hv
  · exact gb.term.wants v hv

/-- steps from behind, over what Backward handed on -/
theorem mem_foldI {w : World} {blk : LBlock} {ys : List (AIns w)} (hS : ys.map (fun p => (p.1.1, p.1.2.1)) = (blk.ins.zipIdx.map fun p => (p.2, p.1)).reverse) {l0 : List Int} {L : Nat → Int → Prop} (hn : l0.Nodup) (h : ∀ v, v ∈ l0 ↔ endS blk.term L v) (v : Int) : v ∈ foldI l0 ys ↔ beginS blk L v := by
  have h1 : ys.map (fun p => p.1.2.1) = blk.ins.reverse := by
    have := congrArg (List.map Prod.snd) hS
    rw [List.map_map, List.map_reverse, List.map_map] at this
    have e : (Prod.snd ∘ fun p : LIns × Nat => (p.2, p.1)) = Prod.fst := rfl
    rw [e, List.zipIdx_map_fst] at this
    exact this
  have h2 : foldI l0 ys = (ys.map (fun p => p.1.2.1)).foldl (fun s x => stepL x s) l0 := by unfold foldI; rw [List.foldl_map]
  rw [h2, h1, mem_foldl hn h, List.reverse_reverse]
  rfl

/-- the frame between two passes -/
def OFrame (w : World) (f : LFlow) (bv : Value) (Ba : Nat) (ds : List Nat) (a : Act) : Prop :=
  ∃ u4 u6 u7 u8 u9 u10 u11 u12 u13 u14 u15 u16 u17 u18 u19 u20 u21 u22 u23 u24 u25 u26 u27 u28 u29 u30 u31 u32 u33 u34 u35 u36 u37 u38 u39 u40 u41 u42 u43 u44 u45 u46 u47 u48 u49 u50 u51 u52 u53 : Value, a = { tmps := #[f.agg bv, .pointer (some ⟨w.heap.size, 0, none⟩), .slice none 0 0, .pointer (some ⟨w.heap.size + 1 + 1, 0, none⟩), u4, .pointer (some ⟨Ba, 0, none⟩), u6, u7, u8, u9, u10, u11, u12, u13, u14, u15, u16, u17, u18, u19, u20, u21, u22, u23, u24, u25, u26, u27, u28, u29, u30, u31, u32, u33, u34, u35, u36, u37, u38, u39, u40, u41, u42, u43, u44, u45, u46, u47, u48, u49, u50, u51, u52, u53], defers := marks ds }

set_option maxRecDepth 100000 in
set_option maxHeartbeats 4000000 in
theorem wanted_any (f : LFlow) (bv : Value) (w : World) (hbv : RSl 5 RBlk w bv f.blocks) (hsz : f.blocks.length ≤ 1000000000) (hU : (allUses f.blocks).length ≤ 1000000000000) (hnext : ∀ b ∈ f.blocks, ∀ k ∈ b.term.next, 0 ≤ k ∧ k < f.blocks.length) :
    Calls Try.prog 46 #[f.agg bv] w (WantedPost f w) := by
  have hmm := @run_makeMap Try.prog
  obtain ⟨a0, c0, rfl, _⟩ := hbv.form
  have HBV := Lib.hid hbv
  have HNX := Lib.hid hnext
  clear hbv hnext
  refine (callsIn_wide (n := 8)).1 ?_
  refine callsIn_of_wp_marks Try.func46 rfl trivial ?_ rfl
  simp only [Try.ntmps46, List.size_toArray, List.length_cons, List.length_nil, Nat.reduceAdd, Nat.reduceSub, Array.replicate_succ, Array.replicate_zero, List.push_toArray, List.append_toArray, List.nil_append, List.cons_append]
  gi_wp2_with (first
    | (gi_at_make; refine wpListIn_make1 (z := .map none) slSet (by kernel_rfl) rfl rfl _ _ rfl f.blocks.length rfl rfl (by omega) (by omega) ?_)
    | gi_in)
  gi_loopg [17] f.blocks.length (fun gh i wr => ∃ (k : Nat) (bs : List Nat), k ≤ f.blocks.length ∧ gh = f.blocks.length - k ∧ i = I k ∧ bs.length = k ∧ Below w.heap.size w wr ∧ wr.heap[w.heap.size]? = some (.cells (f.cells (.slice a0 f.blocks.length c0)) 24 (0, 0)) ∧
      Boxed wr (w.heap.size + 2) 84 (.slice (some ⟨w.heap.size + 1, 0, none⟩) f.blocks.length f.blocks.length) ∧ Row wr (w.heap.size + 1) 86 ((bs.map fun b => .map (some b)) ++ List.replicate (f.blocks.length - k) (.map none)) ∧ bs.Nodup ∧ (∀ b ∈ bs, w.heap.size + 2 < b) ∧ (∀ b ∈ bs, SetAt wr b (([] : List Int).map I)))
  case atStart =>
    refine ⟨0, [], Nat.zero_le _, rfl, rfl, rfl, ?_, ?_, ?_, ?_, by simp, by simp, by simp⟩
    · exact (below_a2 _ _ _).alloc (by simp; omega) _
    · exact heap_old _ _ (heap_old _ _ (heap_new _ _))
    · have := Boxed.new ((w.alloc (.cells (f.cells (.slice a0 f.blocks.length c0)) 24)).alloc (.cells (List.replicate f.blocks.length (Value.map none)).toArray 86)) 84 (.slice (some ⟨w.heap.size + 1, 0, none⟩) f.blocks.length f.blocks.length)
      simp only [World.size_alloc] at this
      exact this
    · simp only [List.map_nil, List.nil_append, Nat.sub_zero]
      exact heap_old _ _ (heap_new2 _ _ _)
  case round =>
    obtain ⟨k, bs, hk, hg, rfl, hl, hb, hfb, hout, hrow, hnd, hbig, hset⟩ := hrel
    have hsz2 := hout.lt
    have hcout := hout.cell
    have HB := Lib.hid hb
    have HG := Lib.hid hg
    have HL := Lib.hid hl
    have HF := Lib.hid hfb
    have HO := Lib.hid hout
    have HR := Lib.hid hrow
    have HN := Lib.hid hnd
    have HBG := Lib.hid hbig
    have HS := Lib.hid hset
    clear hb hg hl hfb hout hrow hnd hbig hset
    by_cases hlt : k < f.blocks.length
    · have HR1 := Lib.hid (HR.out.ext (below_a1 wr (.map #[] 0)))
      have hck := HR1.out.cell k
      rw [List.getElem?_append_right (by simp [HL.out]), List.getElem?_replicate, if_pos (by simp [HL.out]; omega)] at hck
      have hfk := HR1.out.frozen k
      gi_wp2
      gi_roundg (f.blocks.length - (k + 1))
      case measure => have := HG.out; omega
      case rel =>
        have hle := HB.out.size
        refine ⟨k + 1, bs ++ [wr.heap.size], by omega, rfl, by go_num, by simp [HL.out], ?_, ?_, ?_, ?_, ?_, ?_, ?_⟩
        · exact (HB.out.alloc hle _).setCell (p := ⟨w.heap.size + 1, k, none⟩) (by simp) _
        · rw [Below.heap_setCell _ _ _ _ (by simp)]; exact heap_old _ _ HF.out
        · exact (HO.out.alloc _).kept (setCell_grown _ _ _ _) (by simp)
        · have := HR1.out.set k (.map (some wr.heap.size))
          rw [List.set_append_right _ _ (by simp [HL.out])] at this
          have e1 : f.blocks.length - k = (f.blocks.length - (k + 1)) + 1 := by omega
          rw [e1, List.replicate_succ] at this
          simpa [HL.out] using this
        · rw [List.nodup_append]
          refine ⟨HN.out, by simp, ?_⟩
          rintro x hx y hy rfl
          have := (HS.out x hx).lt
          simp at hy; omega
        · intro b hb
          rcases List.mem_append.1 hb with hb | hb
          · exact HBG.out b hb
          · simp at hb; omega
        · intro b hb
          rcases List.mem_append.1 hb with hb | hb
          · exact ((HS.out b hb).ext (below_a1 _ _)).below ((setCell_grown _ _ _ _).block b (by have := (HS.out b hb).lt; simp; omega) (by have := HBG.out b hb; simp; omega))
          · simp only [List.mem_singleton] at hb; subst hb
            exact (setAt_new wr).below ((setCell_grown _ _ _ _).block _ (by simp) (by simp; omega))
    · have hkl : k = f.blocks.length := by omega
      have hw : WSt w f (.slice a0 f.blocks.length c0) bs (bs.map fun _ => []) wr := by
        refine ⟨HB.out, HF.out, ?_, ?_, by simp, HN.out, HBG.out, ?_⟩
        · rw [HL.out, hkl]; exact HO.out
        · have := HR.out; rw [hkl] at this; simpa using this
        · intro i b l h1 h2
          rw [List.getElem?_map, h1] at h2
          simp at h2; subst h2
          exact ⟨HS.out b (List.mem_of_getElem? h1), by simp⟩
      have hbl : bs.length = f.blocks.length := by rw [HL.out, hkl]
      have HW := Lib.hid hw
      have HBL := Lib.hid hbl
      clear hbl
      clear HB HG HF HO HR HN HBG HS hw HL
      gi_wp2
      refine wpIn_loop_ghost (fun gh a W => ∃ ag Ba Ls ds, OInv w f (.slice a0 f.blocks.length c0) bs gh ag Ba Ls ds W ∧ OFrame w f (.slice a0 f.blocks.length c0) Ba ds a) (f.blocks.length * (allUses f.blocks).length + 1) ?start ?round
      case start =>
        refine ⟨true, wr.heap.size, bs.map (fun _ => []), [], ⟨?_, ?_, ?_, ?_, by simp, by simp, by simp, ?_, by simp⟩, ?_⟩
        · exact HW.out.alloc _
        · exact Boxed.new _ _ _
        · exact HW.out.out.lt
        · rintro i v ⟨l, h1, h2⟩
          rw [List.getElem?_map] at h1
          cases hb : bs[i]? with
          | none => rw [hb] at h1; cases h1
          | some b => rw [hb] at h1; simp at h1; subst h1; cases h2
        · intro _
          have : totL (bs.map fun _ => []) = 0 := by unfold totL; rw [List.map_map]; exact sum_zero _ (by simp)
          rw [this]; rfl
        · unfold OFrame
          (repeat apply Exists.intro)
          rfl
      case round =>
        rintro gh a W ⟨ag, Ba, Ls, ds, hinv, hfr⟩
        unfold OFrame at hfr
        obtain ⟨u4, u6, u7, u8, u9, u10, u11, u12, u13, u14, u15, u16, u17, u18, u19, u20, u21, u22, u23, u24, u25, u26, u27, u28, u29, u30, u31, u32, u33, u34, u35, u36, u37, u38, u39, u40, u41, u42, u43, u44, u45, u46, u47, u48, u49, u50, u51, u52, u53, rfl⟩ := hfr
        have HINV := Lib.hid hinv
        clear hinv
        cases ag
        · have hc := HINV.out.agb.cell
          have hco := HINV.out.st.out.cell
          gi_wp2
          show LeavesInM _ _ _ _ _ _ (marks ds) _ _
          refine leaves_marks ds W HINV.out.mrk HINV.out.mkn (fun w' hw hs ho ht hu => ?_)
          have hI := HINV.out
          have hgw : ∀ k, k ≤ w.heap.size + 2 → w'.heap[k]? = W.heap[k]? := fun k hk => hw k (fun hd => by have := hI.mkb k hd; omega)
          refine ⟨_, results_tmp rfl _ _ _, .slice (some ⟨w.heap.size + 1, 0, none⟩) bs.length bs.length, bs, Ls, rfl, ⟨?_, hI.st.len, hI.st.nd, ?_⟩, HBL.out, fun b hb => by have := hI.st.big b hb; omega, ?_, ?_⟩
          · refine ⟨_, _, rfl, by rw [HBL.out]; omega, .inr ⟨w.heap.size + 1, 0, rfl, fun i x hx => ⟨fun _ => .map (some x), fun j hj => ?_, rfl⟩⟩⟩
            obtain rfl : j = 0 := by omega
            have hr : Row w' (w.heap.size + 1) 86 (bs.map fun b => .map (some b)) := (hgw _ (by omega)).trans hI.st.row
            have := hr.cell i
            rw [List.getElem?_map, hx] at this
            simpa using this
          · intro i b l h1 h2
            obtain ⟨h3, h4⟩ := hI.st.set i b l h1 h2
            refine ⟨h3.below (hw b (fun hd => ?_)), h4⟩
            have := hI.mrk b hd
            obtain ⟨_, _, h5, _⟩ := h3
            rw [this] at h5; cases h5
          · intro i v hi
            refine ⟨hI.live i v, fun h => h _ (hI.no rfl).2⟩
          · refine ⟨ho.trans hI.st.below.os, ht.trans hI.st.below.tape, hu.trans hI.st.below.output, by rw [hs]; exact hI.st.below.size, fun k hk => (hgw k (by omega)).trans (hI.st.below.block k hk)⟩
        · have hI := HINV.out
          have hc := hI.agb.cell
          have hfz := hI.agb.frozen
          have hba := hI.ba
          have hbal := hI.agb.lt
          have hle := hI.st.below.size
          have hg1 := setCell_grown W Ba 0 (.bool false)
          have hbn : Ba ∉ bs := fun hb => by
            obtain ⟨i, hi, e⟩ := List.getElem_of_mem hb
            obtain ⟨⟨_, _, h5, _⟩, _⟩ := hI.st.set i Ba _ (by rw [← e]; exact List.getElem?_eq_getElem hi) (List.getElem?_eq_getElem (by rw [← hI.st.len]; exact hi))
            rw [show W.heap[Ba]? = _ from hI.agb] at h5; cases h5
          have hfc : (W.setCell ⟨Ba, 0, none⟩ (.bool false)).cell? ⟨w.heap.size, 3, none⟩ = some (.slice a0 f.blocks.length c0) := by
            rw [cell_of_block (grown_old hg1 hI.st.fbox (by simp; omega))]; rfl
          clear hI
          gi_wp2_with (first
            | (refine ⟨trivial, ?_⟩; gi_at_call 64; refine (callsIn_wide.2 (backB_any _ _ _ _)).mono ?_; rintro e w' ⟨rfl, rfl⟩)
            | gi_in)
          have hI := HINV.out
          have hg2 := grown_trans hg1 (alloc_grown (W.setCell ⟨Ba, 0, none⟩ (.bool false)) (.cells #[.slice a0 f.blocks.length c0] 22) (some Ba))
          have hsW : (W.setCell ⟨Ba, 0, none⟩ (.bool false)).heap.size = W.heap.size := by simp [World.setCell]
          have bN := Boxed.new (W.setCell ⟨Ba, 0, none⟩ (.bool false)) 22 (.slice a0 f.blocks.length c0)
          rw [hsW] at bN
          have bA := (hI.agb.set (.bool false)).alloc (.cells #[.slice a0 f.blocks.length c0] 22)
          have hsz0 : ((W.setCell ⟨Ba, 0, none⟩ (.bool false)).alloc (.cells #[.slice a0 f.blocks.length c0] 22)).heap.size = W.heap.size + 1 := by simp [World.setCell]
          obtain ⟨W0, hW0⟩ : ∃ W0, (W.setCell ⟨Ba, 0, none⟩ (.bool false)).alloc (.cells #[.slice a0 f.blocks.length c0] 22) = W0 := ⟨_, rfl⟩
          rw [hW0] at hg2 bN bA hsz0 ⊢
          clear hW0
          have hbsl : ∀ b ∈ bs, b < W.heap.size := fun b hb => by
            obtain ⟨i, hi, e⟩ := List.getElem_of_mem hb
            exact (hI.st.set i b _ (by rw [← e]; exact List.getElem?_eq_getElem hi) (List.getElem?_eq_getElem (by rw [← hI.st.len]; exact hi))).1.lt
          have hmd : ∀ d ∈ ds, d ≠ Ba ∧ d < W.heap.size := fun d hd => ⟨(fun e => by have := hI.mrk d hd; rw [e, show W.heap[Ba]? = _ from hI.agb] at this; cases this), (Array.getElem?_eq_some_iff.1 (hI.mrk d hd)).1⟩
          have hP0 : PInv w f (.slice a0 f.blocks.length c0) bs Ba W.heap.size W0.heap.size Ls ds [] false Ls W0 :=
            ⟨hI.st.grown hg2 (fun r e => by cases e; exact ⟨hba, hbn⟩), bA, ⟨hba, by omega⟩, bN, ⟨by omega, by omega, by omega⟩, hI.live, fun d hd => grown_old hg2 (hI.mrk d hd) (by simpa using (hmd d hd).1), fun d hd => ⟨hI.mkb d hd, by have := (hmd d hd).2; omega⟩, fun b hb => by have := hbsl b hb; omega, Nat.le_refl _, by simp, fun _ => ⟨rfl, by simp⟩⟩
          clear hI
          refine wpIn_rangeFunc_ownH rfl (by omega) (gf := 73) (lb := #[.pointer (some ⟨W.heap.size, 0, none⟩)]) rfl trivial (enters_of Try.func73 (by kernel_rfl) rfl)
            (backB_stops Fence.wide (8 - 1) trivial rfl (by omega) W.heap.size (.slice a0 f.blocks.length c0) f.blocks w W0 hP0.st.below HBV.out bN) KpB_t (KpB_b (by omega) (by omega)) (Below.refl _ _) (fun _ => rfl)
            (fun pre W1 => ∃ ag1 Ls1, PInv w f (.slice a0 f.blocks.length c0) bs Ba W.heap.size W0.heap.size Ls ds pre ag1 Ls1 W1)
            (fun _ _ _ => False)
            (fun s X Y row hs hg hr => by obtain ⟨ag1, Ls1, h⟩ := hs; exact ⟨ag1, Ls1, h.grown hg (fun r e => (hr r e).1)⟩)
            (fun _ _ _ _ _ hs _ _ => hs)
            ⟨false, Ls, hP0⟩
            (fun x a' W1 => ∃ Bb, W0.heap.size ≤ Bb ∧ W1.heap[Bb]? = some (.cells #[x.1.2.2, .int .i64 x.1.2.1.term.kind, .int .i64 x.1.2.1.term.a, .int .i64 x.1.2.1.term.to, .int .i64 x.1.2.1.term.els] 46 (0, 0)) ∧ a' = { tmps := #[f.agg (.slice a0 f.blocks.length c0), .pointer (some ⟨w.heap.size, 0, none⟩), .slice none 0 0, .pointer (some ⟨w.heap.size + 1 + 1, 0, none⟩), u4, .pointer (some ⟨Ba, 0, none⟩), .int .i64 (x.1.1 : Int), .pointer (some ⟨Bb, 0, none⟩), u8, u9, u10, u11, u12, u13, u14, u15, u16, u17, u18, u19, u20, u21, u22, u23, u24, .bool true, .pointer (some ⟨w.heap.size, 3, none⟩), .slice a0 f.blocks.length c0, .func (.func 73) #[] #[.pointer (some ⟨W.heap.size, 0, none⟩)], .int .i64 (x.1.1 : Int), x.1.2.1.agg x.1.2.2, u31, u32, u33, u34, u35, u36, u37, u38, u39, u40, u41, u42, u43, u44, u45, u46, u47, u48, u49, u50, u51, u52, u53], defers := [] })
            (fun x a' _ X Y row hs hg hr => by
              obtain ⟨Bb, h1, h2, h3⟩ := hs
              refine ⟨Bb, h1, grown_old hg h2 (fun e => ?_), h3⟩
              obtain ⟨_, o, ho, hc⟩ := hr Bb e.symm
              rw [h2] at ho; cases ho; cases hc)
            ?assign ?body ?done ?stop
          case assign =>
            rintro l pre ⟨⟨idx, blk, iv⟩, hx, gx⟩ W1 K ⟨ag1, Ls1, h⟩ hK
            have hf : ∃ ai ci, iv = .slice ai blk.ins.length ci := by obtain ⟨ai, ci, h, _⟩ := RSl.form gx.ins; exact ⟨ai, ci, h⟩
            obtain ⟨ai, ci, rfl⟩ := hf
            have HK := Lib.hid hK
            have HP := Lib.hid h
            clear hK h
            dsimp only [encBlk]
            gi_wp2
            have h := HP.out
            have hlt : W.heap.size < W1.heap.size := h.it.lt
            have hsl : W0.heap.size ≤ W1.heap.size := by omega
            exact HK.out _ _ ((KeepsOthers.alloc _ _).from _) ⟨(Below.refl _ W1).alloc h.st.below.size _, Below.heap_alloc _ _ _ hlt⟩ ⟨ag1, Ls1, h.grown (alloc_grown _ _ none) (fun _ e => by cases e)⟩ ⟨W1.heap.size, hsl, heap_new _ _, rfl⟩
          case done =>
            rintro D ys W1 hD hS ⟨ag1, Ls1, h⟩ hKD
            have hc := h.agb.cell
            have HP := Lib.hid h
            have HD := Lib.hid hKD
            clear h hKD
            gi_wp2
            have h := HP.out
            have hDl := (Array.getElem?_eq_some_iff.1 HD.out).1
            have htot : totL Ls1 ≤ f.blocks.length * (allUses f.blocks).length := tot_le h.st HBL.out h.live
            have hgh := HINV.out.yes rfl
            refine ⟨if ag1 then f.blocks.length * (allUses f.blocks).length + 1 - totL Ls1 else 0, ?_, ag1, W1.heap.size, Ls1, D :: ds, ⟨h.st.alloc _, Boxed.new _ _ _, h.st.out.lt, h.live, ?_, ?_, ?_, ?_, ?_⟩, ?_⟩
            · have h1 := h.tot
              cases ag1
              · simp; omega
              · have h2 := h.yes rfl
                simp; omega
            · intro d hd
              rcases List.mem_cons.1 hd with rfl | hd
              · exact heap_old _ _ HD.out
              · exact heap_old _ _ (h.mrk d hd)
            · rw [List.nodup_cons]
              exact ⟨fun hd => by have := (h.mkb D hd).2; omega, HINV.out.mkn⟩
            · intro d hd
              rcases List.mem_cons.1 hd with rfl | hd
              · have := h.b1.1; omega
              · exact (h.mkb d hd).1
            · rintro rfl; rfl
            · rintro rfl
              obtain ⟨rfl, h3⟩ := h.no rfl
              refine ⟨rfl, fun i b hb v hv => ?_⟩
              obtain ⟨p, hp, e1, e2⟩ := all_come hS hb
              rw [← e1]
              exact h3 p hp v (by rw [e2]; exact hv)
            · unfold OFrame
              (repeat apply Exists.intro)
              rfl
          case stop =>
            rintro D c pre W1 _ _ h _
            exact h.elim
          case body =>
            rintro l pre ⟨⟨idx, blk, iv⟩, hx, gx⟩ a' W1 hl ⟨r, hr⟩ ⟨ag1, Ls1, h⟩ ⟨Bb, hBb, hblk, rfl⟩ hlen
            have hf : ∃ ai ci, iv = .slice ai blk.ins.length ci := by obtain ⟨ai, ci, h, _⟩ := RSl.form gx.ins; exact ⟨ai, ci, h⟩
            obtain ⟨ai, ci, rfl⟩ := hf
            dsimp only at hblk
            have hco := h.st.out.cell
            have c0' := cell_of_block hblk 0
            have c1' := cell_of_block hblk 1
            have c2' := cell_of_block hblk 2
            have c3' := cell_of_block hblk 3
            have c4' := cell_of_block hblk 4
            simp only [List.getElem?_toArray, List.getElem?_cons_succ, List.getElem?_cons_zero] at c0' c1' c2' c3' c4'
            have hbl' : Bb < W1.heap.size := (Array.getElem?_eq_some_iff.1 hblk).1
            have HP := Lib.hid h
            have HBK := Lib.hid hblk
            have HX : Hid (f.blocks[idx]? = some blk) := hx
            have gx' : GBlk w blk (.slice ai blk.ins.length ci) := gx
            have HR := Lib.hid hr
            have hnx : Hid (∀ k ∈ blk.term.next, 0 ≤ k ∧ k < bs.length) := fun k hk => by have := HNX.out blk (List.mem_of_getElem? hx) k hk; rw [HBL.out]; exact this
            clear h hblk hr hc hfz hfc
            dsimp only
            gi_wp2_with (first
              | (refine ⟨trivial, ?_⟩; gi_at_call 65; refine (CallsIn.inRound l (callsIn_wide.2 (end_any blk _ _ bs Ls1 _ gx'.term (HP.out.st.lives (by rw [HBL.out]; omega)) hnx.out))).mono ?_; rintro e w2 ⟨g, l0, rfl, hgl, hs2, hnd2, hm2, hb2⟩; have hc2 := (hb2.cell (p := ⟨Bb, 0, none⟩) hbl').trans c0'; have hz2 := hb2.size; have hc3 : (w2.alloc (.cells #[.map (some g)] 86)).cell? ⟨Bb, 0, none⟩ = some (.slice ai blk.ins.length ci) := ((below_a1 w2 _).cell (p := ⟨Bb, 0, none⟩) (show Bb < w2.heap.size by omega)).trans hc2; have HS2 := Lib.hid hs2; have HN2 := Lib.hid hnd2; have HM2 := Lib.hid hm2; have HB2 := Lib.hid hb2; clear hs2 hnd2 hm2 hb2)
              | (refine ⟨trivial, ?_⟩; gi_at_call 66; refine (CallsIn.inRound l (callsIn_wide.2 (backI_any _ _ _ _))).mono ?_; rintro e w' ⟨rfl, rfl⟩)
              | gi_in)
            have hb2 := HB2.out
            have hP := HP.out
            have hg2 : W1.grownBy ((w2.alloc (.cells #[.map (some g)] 86)).alloc (.cells #[.slice ai blk.ins.length ci] 42)) none := grown_trans (below_grown hb2 none) (grown_trans (alloc_grown _ _ _) (alloc_grown _ _ _))
            have hgs := HS2.out.lt
            have hN0 : W0.heap.size ≤ W1.heap.size := by omega
            have hQ : QInv w f (.slice a0 f.blocks.length c0) bs Ba W.heap.size W0.heap.size Ls ds pre ag1 Ls1 W1 blk (.slice ai blk.ins.length ci) Bb g w2.heap.size (w2.heap.size + 1) (w2.heap.size + 1 + 1) l0 ((w2.alloc (.cells #[.map (some g)] 86)).alloc (.cells #[.slice ai blk.ins.length ci] 42)) := by
              refine ⟨hP.grown hg2 (fun _ e => by cases e), (HS2.out.ext (below_a1 _ _)).ext (below_a1 _ _), HN2.out, (Boxed.new _ _ _).alloc _, ?_, grown_old hg2 HBK.out (by simp), ⟨hBb, by omega, by omega, by omega, by omega, by omega, by omega, by omega, by omega, by omega, hgl⟩, ?_, ?_, ?_⟩
              · have := Boxed.new (w2.alloc (.cells #[.map (some g)] 86)) 42 (.slice ai blk.ins.length ci)
                rwa [World.size_alloc] at this
              · exact (Below.refl _ _).grown hg2 hP.st.below.size (fun _ e => by cases e)
              · exact ⟨hg2.size, fun k o _ h1 _ => grown_old hg2 h1 (by simp)⟩
              · exact hg2.block _ hP.it.lt (by simp)
            have hsz2 : ((w2.alloc (.cells #[.map (some g)] 86)).alloc (.cells #[.slice ai blk.ins.length ci] 42)).heap.size = w2.heap.size + 1 + 1 := by simp
            have hr2 : ((w2.alloc (.cells #[.map (some g)] 86)).alloc (.cells #[.slice ai blk.ins.length ci] 42)).heap[l]? = some (.loop r) := grown_old hg2 HR.out (by simp)
            obtain ⟨W2, hW2⟩ : ∃ W2, (w2.alloc (.cells #[.map (some g)] 86)).alloc (.cells #[.slice ai blk.ins.length ci] 42) = W2 := ⟨_, rfl⟩
            rw [hW2] at hQ hsz2 hr2 ⊢
            clear hW2 hP hb2 hg2
            rw [← hsz2] at hQ
            refine wpIn_rangeFunc_ownN (l₀ := l) (r₀ := r) rfl hr2 (by omega) (gf := 75) (lb := #[.pointer (some ⟨w2.heap.size + 1, 0, none⟩)]) rfl trivial (enters_of Try.func75 (by kernel_rfl) rfl)
              ((backI_stops Fence.wide (6 - 1) trivial rfl (by omega) (w2.heap.size + 1) (.slice ai blk.ins.length ci) blk.ins w W2 hQ.p.st.below gx'.ins hQ.b2).inRound l) KpB_t (KpB_b hQ.p.st.below.size (by omega)) (Below.refl _ _) (fun _ => rfl)
              (fun pre' W' => QInv w f (.slice a0 f.blocks.length c0) bs Ba W.heap.size W0.heap.size Ls ds pre ag1 Ls1 W1 blk (.slice ai blk.ins.length ci) Bb g w2.heap.size (w2.heap.size + 1) W2.heap.size (foldI l0 pre') W')
              (fun _ _ _ => False)
              (fun s X Y row hs hg hr => hs.grown hg (fun r e => (hr r e).1))
              (fun _ _ _ _ _ hs _ _ => hs)
              hQ
              (fun y a'' W' => ∃ Bx, W2.heap.size ≤ Bx ∧ W'.heap[Bx]? = some (.cells #[.int .i64 y.1.2.1.kind, .int .i64 y.1.2.1.d, .int .i64 y.1.2.1.a, .int .i64 y.1.2.1.b, .int .i64 y.1.2.1.op, .int .i64 y.1.2.1.n, .string y.1.2.1.name, y.1.2.2] 41 (0, 0)) ∧ a'' = { tmps := #[f.agg (.slice a0 f.blocks.length c0), .pointer (some ⟨w.heap.size, 0, none⟩), .slice none 0 0, .pointer (some ⟨w.heap.size + 1 + 1, 0, none⟩), u4, .pointer (some ⟨Ba, 0, none⟩), .int .i64 (idx : Int), .pointer (some ⟨Bb, 0, none⟩), .pointer (some ⟨w2.heap.size, 0, none⟩), u9, .pointer (some ⟨Bx, 0, none⟩), u11, u12, u13, u14, u15, u16, u17, u18, u19, u20, u21, u22, u23, u24, .bool true, .pointer (some ⟨w.heap.size, 3, none⟩), .slice a0 f.blocks.length c0, .func (.func 73) #[] #[.pointer (some ⟨W.heap.size, 0, none⟩)], .int .i64 (idx : Int), blk.agg (.slice ai blk.ins.length ci), blk.agg (.slice ai blk.ins.length ci), .slice (some ⟨w.heap.size + 1, 0, none⟩) bs.length bs.length, .map (some g), .pointer (some ⟨Bb, 0, none⟩), .slice ai blk.ins.length ci, .func (.func 75) #[] #[.pointer (some ⟨w2.heap.size + 1, 0, none⟩)], .int .i64 (y.1.1 : Int), y.1.2.1.agg y.1.2.2, u39, u40, u41, u42, u43, u44, u45, u46, u47, u48, u49, u50, u51, u52, u53], defers := [] })
              (fun x a' _ X Y row hs hg hr => by
                obtain ⟨Bb, h1, h2, h3⟩ := hs
                refine ⟨Bb, h1, grown_old hg h2 (fun e => ?_), h3⟩
                obtain ⟨_, o, ho, hc⟩ := hr Bb e.symm
                rw [h2] at ho; cases ho; cases hc)
              ?assign2 ?body2 ?done2 ?stop2
            case assign2 =>
              rintro l2 pre' ⟨⟨jx, ins, av⟩, gi⟩ W3 K hq hK
              have hf : ∃ aa ca, av = .slice aa ins.args.length ca := by obtain ⟨ai, ci, h, _⟩ := RSl.form gi.args; exact ⟨ai, ci, h⟩
              obtain ⟨aa, ca, rfl⟩ := hf
              have HK := Lib.hid hK
              have HQ := Lib.hid hq
              clear hK hq
              dsimp only [encIns]
              gi_wp2
              have hq := HQ.out
              have hsz3 : W2.heap.size ≤ W3.heap.size := by have := hq.b2.lt; omega
              exact HK.out _ _ ((KeepsOthers.alloc _ _).from _) ⟨(Below.refl _ W3).alloc hq.p.st.below.size _, Below.heap_alloc _ _ _ hq.b2.lt⟩ (hq.grown (alloc_grown _ _ none) (fun _ e => by cases e)) ⟨W3.heap.size, hsz3, heap_new _ _, rfl⟩
            case body2 =>
              rintro l2 pre' ⟨⟨jx, ins, av⟩, gi⟩ a'' W3 _ _ hq ⟨Bx, hBx, hins, rfl⟩ _
              dsimp only at hins
              have c8 := hq.b8.cell
              have d0 := cell_of_block hins 0
              have d1 := cell_of_block hins 1
              have d2 := cell_of_block hins 2
              have d3 := cell_of_block hins 3
              have d4 := cell_of_block hins 4
              have d5 := cell_of_block hins 5
              have d6 := cell_of_block hins 6
              have d7 := cell_of_block hins 7
              simp only [List.getElem?_toArray, List.getElem?_cons_succ, List.getElem?_cons_zero] at d0 d1 d2 d3 d4 d5 d6 d7
              have HQ := Lib.hid hq
              have GI : Hid (GIns W3 ins av) := GIns.below hq.p.st.below gi
              clear hq hins
              dsimp only
              gi_wp2_with (first
                | (refine ⟨trivial, ?_⟩; gi_at_call 67; refine (CallsIn.inRound l2 (callsIn_wide.2 (step_any g _ ins av _ HQ.out.set GI.out))).mono ?_; rintro e w4 ⟨rfl, hs4, hg4⟩; have HS4 := Lib.hid hs4; have HG4 := Lib.hid hg4; clear hs4 hg4)
                | gi_in)
              have hq := HQ.out
              have hlo := hq.lo
              refine ⟨⟨HG4.out.size, fun k o hk h1 h2 => grown_old HG4.out h1 (by simp; omega)⟩, ⟨(Below.refl _ _).grown HG4.out hq.p.st.below.size (fun k e => by cases e; have := hq.p.ba; omega), HG4.out.block _ hq.b2.lt (by simp; omega)⟩, ?_⟩
              show QInv _ _ _ _ _ _ _ _ _ _ _ _ _ _ _ _ _ _ _ _ (foldI l0 (pre' ++ [_])) _
              rw [foldI_snoc]
              exact hq.stepped HG4.out HS4.out (nodup_stepL hq.nd)
            case done2 =>
              rintro ys' W3 hS' hq
              have HQ := Lib.hid hq
              have HSS := Lib.hid hS'
              clear hq hS'
              gi_wp2
              have hmS : ∀ v, v ∈ foldI l0 ys' ↔ beginS blk (asS Ls1) v := mem_foldI HSS.out HN2.out (fun v => by rw [HM2.out]; rfl)
              have hidx : idx < f.blocks.length := (List.getElem?_eq_some_iff.1 HX.out).1
              have hidb : idx < bs.length := by rw [HBL.out]; exact hidx
              have hidl : idx < Ls1.length := by rw [← HQ.out.p.st.len]; exact hidb
              have hlive : ∀ v, v ∈ foldI l0 ys' → LiveS f.blocks idx v := fun v hv => LiveS_closed f.blocks idx blk HX.out v (beginS_mono HQ.out.p.live v ((hmS v).1 hv))
              have hSin : ∀ v ∈ foldI l0 ys', InI v := fun v hv => allUses_in HBV.out v (LiveS_uses (hlive v hv))
              have hSlen : (foldI l0 ys').length ≤ 1000000000000 := Nat.le_trans (nodup_length_le HQ.out.nd (fun v hv => LiveS_uses (hlive v hv))) hU
              obtain ⟨S, hS⟩ : ∃ S, S = foldI l0 ys' := ⟨_, rfl⟩
              rw [← hS] at hmS hlive hSin hSlen HQ
              have hidx' := hidl
              obtain ⟨bi, hbi⟩ : ∃ bi, bs[idx]? = some bi := ⟨_, List.getElem?_eq_getElem hidb⟩
              obtain ⟨li, hli⟩ : ∃ li, Ls1[idx]? = some li := ⟨_, List.getElem?_eq_getElem hidl⟩
              obtain ⟨b, hb⟩ : ∃ b : Bool, b = decide (li.length < (insAll (sortL S) li).length) := ⟨_, rfl⟩
              refine wpIn_region_rgL (by kernel_rfl) [6, 10] (by decide) (by kernel_rfl) (by kernel_rfl)
                (fun k W4 => if k = 0 then QInv w f (.slice a0 f.blocks.length c0) bs Ba W.heap.size W0.heap.size Ls ds pre ag1 Ls1 W1 blk (.slice ai blk.ins.length ci) Bb g w2.heap.size (w2.heap.size + 1) W2.heap.size S W4 ∧ W3.heap.size ≤ W4.heap.size
                  else if k = 1 then RInv w f (.slice a0 f.blocks.length c0) bs Ba W.heap.size W0.heap.size ds W1 ag1 (Ls1.set idx (insAll (sortL S) li)) W4
                  else RInv w f (.slice a0 f.blocks.length c0) bs Ba W.heap.size W0.heap.size ds W1 (b || ag1) (Ls1.set idx (insAll (sortL S) li)) W4)
                (fun W4 W5 => ∀ k o, W3.heap.size ≤ k → W4.heap[k]? = some o → W5.heap[k]? = some o)
                (fun i v W4 => match i with
                  | 0 => v = .slice (some ⟨w.heap.size + 1, 0, none⟩) bs.length bs.length
                  | 1 => v = .int .i64 (idx : Int)
                  | 2 => v = .pointer (some ⟨w.heap.size + 1, idx, none⟩)
                  | 3 => v = .map (some bi)
                  | 4 => v = .map (some g)
                  | 5 => OwnInts W4 W3.heap.size v (sortL S)
                  | 6 => v = .bool b
                  | 7 => v = .bool b
                  | 8 => v = if b then undef else .bool ag1
                  | 9 => v = .bool (b || ag1)
                  | _ => True) ?h0 ?hst ?hop ?hend
              case h0 => exact ⟨HQ.out.grown (row := none) ⟨rfl, rfl, rfl, Nat.le_refl _, fun _ _ _ => rfl⟩ (fun _ e => by cases e), Nat.le_refl _⟩
              case hst =>
                intro j v W4 W5 hst hΦ
                match j, hΦ with
                | 0, h => exact h
                | 1, h => exact h
                | 2, h => exact h
                | 3, h => exact h
                | 4, h => exact h
                | 5, h =>
                  refine ⟨h.1, h.2.imp id ?_⟩
                  rintro ⟨g', cap, cur, h1, h2, h3, h4⟩
                  exact ⟨g', cap, cur, h1, h2, hst g' _ h2 h3, h4⟩
                | 6, h => exact h
                | 7, h => exact h
                | 8, h => exact h
                | 9, h => exact h
                | j + 10, h => trivial
              case hop =>
                refine ⟨?_, ?_, ?_, ?_, ?_, ?_, ?_, ?_, ?_, ?_, ?_, trivial⟩
                · rintro k a W4 vs ho hstg hC hΦ hsz hr
                  obtain rfl := rgStage_k hstg 0 (by kernel_rfl) (by kernel_rfl)
                  have r3 : a.tmps.getD 3 undef = _ := (hr 3 (by simp [Oper.looksAt, Op.operands])).trans (show slotOf _ _ vs _ 3 = .pointer (some ⟨w.heap.size + 1 + 1, 0, none⟩) from by kernel_rfl)
                  have hc := hC.1.p.st.out.cell
                  refine rg_val ho rfl (fun _ _ => trivial) (by intro c h; cases h) (v := .slice (some ⟨w.heap.size + 1, 0, none⟩) bs.length bs.length) (W' := W4) ?_ ⟨_, rfl, hC, fun _ _ _ h => h, rfl⟩
                  go_simp
                · rintro k a W4 vs ho hstg hC hΦ hsz hr
                  obtain rfl := rgStage_k hstg 0 (by kernel_rfl) (by kernel_rfl)
                  have r6 : a.tmps.getD 6 undef = _ := (hr 6 (by simp [Oper.looksAt, Op.operands])).trans (show slotOf _ _ vs _ 6 = .int .i64 (idx : Int) from by kernel_rfl)
                  refine rg_val ho rfl (fun _ _ => trivial) (by intro c h; cases h) (v := .int .i64 (idx : Int)) (W' := W4) ?_ ⟨_, rfl, hC, fun _ _ _ h => h, rfl⟩
                  go_simp
                · rintro k a W4 vs ho hstg hC hΦ hsz hr
                  obtain rfl := rgStage_k hstg 0 (by kernel_rfl) (by kernel_rfl)
                  have r42 : a.tmps.getD 42 undef = _ := ((hr 42 (by simp [Oper.looksAt, Op.operands])).trans (show slotOf _ _ vs _ 42 = vs 0 from by kernel_rfl)).trans (hΦ 0 (by kernel_rfl))
                  have r43 : a.tmps.getD 43 undef = _ := ((hr 43 (by simp [Oper.looksAt, Op.operands])).trans (show slotOf _ _ vs _ 43 = vs 1 from by kernel_rfl)).trans (hΦ 1 (by kernel_rfl))
                  have h1 : (idx : Int) < (bs.length : Int) := by omega
                  refine rg_val ho rfl (fun _ _ => trivial) (by intro c h; cases h) (v := .pointer (some ⟨w.heap.size + 1, idx, none⟩)) (W' := W4) ?_ ⟨_, rfl, hC, fun _ _ _ h => h, rfl⟩
                  go_simp
                · rintro k a W4 vs ho hstg hC hΦ hsz hr
                  obtain rfl := rgStage_k hstg 0 (by kernel_rfl) (by kernel_rfl)
                  have r44 : a.tmps.getD 44 undef = _ := ((hr 44 (by simp [Oper.looksAt, Op.operands])).trans (show slotOf _ _ vs _ 44 = vs 2 from by kernel_rfl)).trans (hΦ 2 (by kernel_rfl))
                  have hc := hC.1.p.st.row.cell idx
                  rw [List.getElem?_map, hbi, Option.map_some] at hc
                  refine rg_val ho rfl (fun _ _ => trivial) (by intro c h; cases h) (v := .map (some bi)) (W' := W4) ?_ ⟨_, rfl, hC, fun _ _ _ h => h, rfl⟩
                  go_simp
                · rintro k a W4 vs ho hstg hC hΦ hsz hr
                  obtain rfl := rgStage_k hstg 0 (by kernel_rfl) (by kernel_rfl)
                  have r8 : a.tmps.getD 8 undef = _ := (hr 8 (by simp [Oper.looksAt, Op.operands])).trans (show slotOf _ _ vs _ 8 = .pointer (some ⟨w2.heap.size, 0, none⟩) from by kernel_rfl)
                  have hc := hC.1.b8.cell
                  refine rg_val ho rfl (fun _ _ => trivial) (by intro c h; cases h) (v := .map (some g)) (W' := W4) ?_ ⟨_, rfl, hC, fun _ _ _ h => h, rfl⟩
                  go_simp
                · rintro k a W4 vs ho hstg hC hΦ hsz hr
                  obtain rfl := rgStage_k hstg 0 (by kernel_rfl) (by kernel_rfl)
                  have r46 : a.tmps.getD 46 undef = _ := ((hr 46 (by simp [Oper.looksAt, Op.operands, Call.operands])).trans (show slotOf _ _ vs _ 46 = vs 4 from by kernel_rfl)).trans (hΦ 4 (by kernel_rfl))
                  refine rg_call ho rfl (fun _ _ => trivial) (by intro c h; cases h) (f := 47) (args := #[.map (some g)]) (W' := W4) ?_ (fun _ => by omega) (CallsIn.inRound l (callsIn_wide.2 (rising_any g S W4 hC.1.set hC.1.nd hSlen hSin))) ?_
                  · go_simp
                  · rintro e w5 ⟨v5, rfl, own5, hb5⟩
                    refine ⟨v5, rfl, v5, rfl, ⟨hC.1.grown (below_grown hb5 none) (fun _ e => by cases e), Nat.le_trans hC.2 hb5.size⟩, fun k o _ hk => ?_, own5.mono hC.2⟩
                    rw [hb5.block k (Array.getElem?_eq_some_iff.1 hk).1]; exact hk
                · rintro k a W4 vs ho hstg hC hΦ hsz hr
                  obtain rfl := rgStage_k hstg 0 (by kernel_rfl) (by kernel_rfl)
                  have r45 : a.tmps.getD 45 undef = _ := ((hr 45 (by simp [Oper.looksAt, Op.operands, Call.operands])).trans (show slotOf _ _ vs _ 45 = vs 3 from by kernel_rfl)).trans (hΦ 3 (by kernel_rfl))
                  have r47 : a.tmps.getD 47 undef = _ := (hr 47 (by simp [Oper.looksAt, Op.operands, Call.operands])).trans (show slotOf _ _ vs _ 47 = vs 5 from by kernel_rfl)
                  have own5 : OwnInts W4 W3.heap.size (vs 5) (sortL S) := hΦ 5 (by kernel_rfl)
                  have hq := hC.1
                  obtain ⟨hsb, hndb⟩ := hq.p.st.set idx bi li hbi hli
                  have hlo := hq.lo
                  have hbin : bi < W0.heap.size := hq.p.bsb bi (List.mem_of_getElem? hbi)
                  have hbig := hq.p.st.big bi (List.mem_of_getElem? hbi)
                  have hsl : (sortL S).length = S.length := (List.mergeSort_perm S _).length_eq
                  refine rg_call ho rfl (fun _ _ => trivial) (by intro c h; cases h) (f := 68) (args := #[.map (some bi), vs 5]) (W' := W4) ?_ (fun _ => by omega) (CallsIn.inRound l (callsIn_wide.2 (add_any bi li (vs 5) (sortL S) W4 hsb (own5.reads (fun v hv => hSin v (mem_sortL.1 hv)) (by omega))))) ?_
                  · go_simp
                  · rintro e w5 ⟨rfl, hs5, hg5, hz5⟩
                    rw [← hb]
                    have hnc : ∀ {k : Nat} {c : Array Value} {t : TypeId} {fr : Nat × Nat}, W4.heap[k]? = some (.cells c t fr) → some k ≠ some bi := fun hk e => by
                      simp only [Option.some.injEq] at e
                      obtain ⟨_, _, h1, _⟩ := hsb
                      rw [e, h1] at hk; cases hk
                    refine ⟨_, rfl, .bool b, rfl, ⟨?_, hq.p.agb.kept hg5 (hnc hq.p.agb), hq.p.it.kept hg5 (hnc hq.p.it), fun d hd => grown_old hg5 (hq.p.mrk d hd) (fun e => ?_), ?_, ?_, ?_⟩, fun k o hk h1 => ?_, rfl⟩
                    · exact hq.p.st.put hidx' hbi hli hs5 (nodup_insAll hndb) hg5
                    · simp only [Option.some.injEq] at e
                      obtain ⟨_, _, h1, _⟩ := hsb
                      have := hq.p.mrk d hd
                      rw [e, h1] at this; cases this
                    · exact hq.bel.grown hg5 hq.p.st.below.size (fun k e => by cases e; omega)
                    · refine ⟨Nat.le_trans hq.keep.size hg5.size, fun k o hk h1 h2 => ?_⟩
                      exact grown_old hg5 (hq.keep.same k o hk h1 h2) (by simp; omega)
                    · rw [hg5.block _ hq.p.it.lt (hnc hq.p.it)]; exact hq.it
                    · exact grown_old hg5 h1 (by have := HQ.out.b2.lt; simp; omega)
                · rintro k a W4 vs ho hstg hC hΦ hsz hr
                  obtain rfl := rgStage_k hstg 1 (by kernel_rfl) (by kernel_rfl)
                  have r48 : a.tmps.getD 48 undef = _ := ((hr 48 (by simp [Oper.looksAt, Op.operands])).trans (show slotOf _ _ vs _ 48 = vs 6 from by kernel_rfl)).trans (hΦ 6 (by kernel_rfl))
                  refine rg_val ho rfl (fun _ _ => trivial) (by intro c h; cases h) (v := .bool b) (W' := W4) ?_ ⟨_, rfl, hC, fun _ _ _ h => h, rfl⟩
                  go_simp
                · rintro k a W4 vs ho hstg hC hΦ hsz hr
                  obtain rfl := rgStage_k hstg 1 (by kernel_rfl) (by kernel_rfl)
                  have r49 : a.tmps.getD 49 undef = _ := ((hr 49 (by simp [Oper.looksAt, Op.operands])).trans (show slotOf _ _ vs _ 49 = vs 7 from by kernel_rfl)).trans (hΦ 7 (by kernel_rfl))
                  have r5 : a.tmps.getD 5 undef = _ := (hr 5 (by simp [Oper.looksAt, Op.operands])).trans (show slotOf _ _ vs _ 5 = .pointer (some ⟨Ba, 0, none⟩) from by kernel_rfl)
                  have hds : 49 < a.tmps.size := by rw [hsz]; simp
                  have hc := (show RInv _ _ _ _ _ _ _ _ _ ag1 _ W4 from hC).agb.cell
                  cases hb' : b with
                  | true =>
                    rw [hb'] at r49
                    exact rg_no ho rfl (j := 7) (d := 49) (by kernel_rfl) hds r49 (by decide) (fun _ _ => trivial) ⟨_, rfl, hC, fun _ _ _ h => h, rfl⟩
                  | false =>
                    rw [hb'] at r49
                    refine rg_yes ho rfl (j := 7) (d := 49) (by kernel_rfl) hds r49 (fun _ _ => trivial) (by intro c h; cases h) (v := .bool ag1) (W' := W4) ?_ ⟨_, rfl, hC, fun _ _ _ h => h, rfl⟩
                    go_simp
                · rintro k a W4 vs ho hstg hC hΦ hsz hr
                  obtain rfl := rgStage_k hstg 1 (by kernel_rfl) (by kernel_rfl)
                  have r49 : a.tmps.getD 49 undef = _ := ((hr 49 (by simp [Oper.looksAt, Op.operands])).trans (show slotOf _ _ vs _ 49 = vs 7 from by kernel_rfl)).trans (hΦ 7 (by kernel_rfl))
                  have r50 : a.tmps.getD 50 undef = _ := ((hr 50 (by simp [Oper.looksAt, Op.operands])).trans (show slotOf _ _ vs _ 50 = vs 8 from by kernel_rfl)).trans (hΦ 8 (by kernel_rfl))
                  refine rg_val ho rfl (fun _ _ => trivial) (by intro c h; cases h) (v := .bool (b || ag1)) (W' := W4) ?_ ⟨_, rfl, hC, fun _ _ _ h => h, rfl⟩
                  cases hb' : b <;> rw [hb'] at r49 r50 <;> go_simp
                · rintro k a W4 vs ho hstg hC hΦ hsz hr
                  obtain rfl := rgStage_k hstg 1 (by kernel_rfl) (by kernel_rfl)
                  have r51 : a.tmps.getD 51 undef = _ := ((hr 51 (by simp [Oper.looksAt, Op.operands])).trans (show slotOf _ _ vs _ 51 = vs 9 from by kernel_rfl)).trans (hΦ 9 (by kernel_rfl))
                  have r5 : a.tmps.getD 5 undef = _ := (hr 5 (by simp [Oper.looksAt, Op.operands])).trans (show slotOf _ _ vs _ 5 = .pointer (some ⟨Ba, 0, none⟩) from by kernel_rfl)
                  have hR : RInv w f (.slice a0 f.blocks.length c0) bs Ba W.heap.size W0.heap.size ds W1 ag1 (Ls1.set idx (insAll (sortL S) li)) W4 := hC
                  have hc := hR.agb.cell
                  have hfz := hR.agb.frozen
                  have hg5 := setCell_grown W4 Ba 0 (.bool (b || ag1))
                  have hP := HQ.out.p
                  have hnd : ∀ d ∈ ds, some d ≠ some Ba := fun d hd e => by
                    simp only [Option.some.injEq] at e
                    have := hR.mrk d hd
                    rw [e, show W4.heap[Ba]? = _ from hR.agb] at this; cases this
                  have hnb : Ba ∉ bs := hbn
                  refine rg_skip ho rfl (fun _ _ => trivial) (by intro c h; cases h) (W' := W4.setCell ⟨Ba, 0, none⟩ (.bool (b || ag1))) ?_ ⟨_, rfl, ⟨?_, hR.agb.set _, hR.it.kept hg5 (by simpa using hP.b1.2.2), fun d hd => grown_old hg5 (hR.mrk d hd) (hnd d hd), ?_, ?_, ?_⟩, fun k o hk h1 => ?_, trivial⟩
                  · go_simp
                  · exact hR.st.grown hg5 (fun r e => by cases e; exact ⟨hba, hnb⟩)
                  · exact hR.bel.setCell (p := ⟨Ba, 0, none⟩) (by simp; omega) _
                  · refine ⟨Nat.le_trans hR.keep.size hg5.size, fun k o hk h1 h2 => ?_⟩
                    exact grown_old hg5 (hR.keep.same k o hk h1 h2) (by have := hP.ba; simp; omega)
                  · rw [hg5.block _ hR.it.lt (by simpa using hP.b1.2.2)]; exact hR.itk
                  · exact grown_old hg5 h1 (by have := hP.ba; have := HQ.out.b2.lt; have := HQ.out.lo; simp; omega)
              case hend =>
                intro vs W4 hC hΦ
                have hR : RInv w f (.slice a0 f.blocks.length c0) bs Ba W.heap.size W0.heap.size ds W1 (b || ag1) (Ls1.set idx (insAll (sortL S) li)) W4 := hC
                have hP := HQ.out.p
                have htot := totL_set hli (insAll (sortL S) li)
                have hlen := insAll_le (sortL S) li
                refine ⟨hR.keep, ⟨hR.bel, hR.itk⟩, b || ag1, Ls1.set idx (insAll (sortL S) li), ⟨hR.st, hR.agb, hP.ba, hR.it, hP.b1, ?_, hR.mrk, hP.mkb, hP.bsb, ?_, ?_, ?_⟩⟩
                · rintro i v ⟨l, h1, h2⟩
                  by_cases hi : i = idx
                  · subst hi
                    rw [List.getElem?_set_self hidl] at h1; cases h1
                    rcases mem_insAll.1 h2 with h3 | h3
                    · exact hlive v (mem_sortL.1 h3)
                    · exact hP.live i v ⟨li, hli, h3⟩
                  · rw [List.getElem?_set_ne (fun e => hi e.symm)] at h1
                    exact hP.live i v ⟨l, h1, h2⟩
                · have := hP.tot; omega
                · intro hor
                  have h1 := hP.tot
                  cases hb' : b with
                  | true =>
                    rw [hb'] at hb
                    have := of_decide_eq_true hb.symm
                    omega
                  | false =>
                    rw [hb', Bool.false_or] at hor
                    have := hP.yes hor
                    omega
                · intro hor
                  rw [Bool.or_eq_false_iff] at hor
                  obtain ⟨h1, h2⟩ := hor
                  rw [h1] at hb
                  have h3 := of_decide_eq_false hb.symm
                  obtain ⟨h4, h5⟩ := insAll_same (sortL S) li (by omega)
                  obtain ⟨h6, h7⟩ := hP.no h2
                  rw [h4, set_same hli]
                  refine ⟨h6, ?_⟩
                  intro p hp v hv
                  rcases List.mem_append.1 hp with hp | hp
                  · exact h7 p hp v hv
                  · rw [List.mem_singleton] at hp
                    subst hp
                    have h8 : v ∈ S := (hmS v).2 (by rw [h6]; exact hv)
                    exact ⟨li, by rw [← h6]; exact hli, h5 v (mem_sortL.2 h8)⟩
            case stop2 =>
              rintro c pre' W3 _ h
              exact h.elim

end Go.Proofs.Ytdlcpmjhngfgkaa
