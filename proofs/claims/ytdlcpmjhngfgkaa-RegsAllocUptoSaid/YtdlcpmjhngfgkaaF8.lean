import Derived.Test.YtdlcpmjhngfgkaaF7
namespace Go.Proofs.Ytdlcpmjhngfgkaa
open Go.RowKit Go.Shelf
attribute [local go_sem] Oper.semAt_some

/-- an array with some cells in others' places -/
def spl : Array Value → Nat → List Value → Array Value
  | c, _, [] => c
  | c, o, v :: r => spl (c.setIfInBounds o v) (o + 1) r
theorem spl_size : ∀ (vs : List Value) (c : Array Value) (o : Nat), (spl c o vs).size = c.size
  | [], _, _ => rfl
  | v :: r, c, o => by unfold spl; rw [spl_size r]; simp
theorem spl_get : ∀ (vs : List Value) (c : Array Value) (o m : Nat), (spl c o vs)[m]? = if o ≤ m ∧ m < o + vs.length ∧ m < c.size then vs[m - o]? else c[m]?
  | [], c, o, m => by
    rw [if_neg (by simp; omega)]; rfl
  | v :: r, c, o, m => by
    unfold spl
    rw [spl_get r, Array.size_setIfInBounds]
    by_cases h1 : o = m
    · subst h1
      rw [if_neg (by omega)]
      by_cases h2 : o < c.size
      · rw [if_pos (by simp; omega)]; simp [h2]
      · rw [if_neg (by omega)]; simp [h2]
    · rw [Array.getElem?_setIfInBounds_ne h1]
      by_cases h2 : o + 1 ≤ m ∧ m < o + 1 + r.length ∧ m < c.size
      · rw [if_pos h2, if_pos (by simp only [List.length_cons]; omega), show m - o = (m - (o + 1)) + 1 by omega]
        simp
      · rw [if_neg h2, if_neg (by simp only [List.length_cons]; omega)]
theorem setCell_heap {W : World} {g o : Nat} {cur : Array Value} {t : TypeId} {fr : Nat × Nat} (h : W.heap[g]? = some (.cells cur t fr)) (v : Value) : (W.setCell ⟨g, o, none⟩ v).heap[g]? = some (.cells (cur.setIfInBounds o v) t fr) := by
  obtain ⟨hlt, hk⟩ := Array.getElem?_eq_some_iff.1 h
  show (W.heap.modify g _)[g]? = _
  rw [Array.getElem?_eq_getElem (by rw [Array.size_modify]; exact hlt), Array.getElem_modify_self, hk]
  simp
theorem setCells_heap {g : Nat} {t : TypeId} {fr : Nat × Nat} : ∀ (vs : List Value) {W : World} {o : Nat} {cur : Array Value}, W.heap[g]? = some (.cells cur t fr) → (W.setCells g o vs).heap[g]? = some (.cells (spl cur o vs) t fr)
  | [], _, _, _, h => h
  | v :: r, _W, _o, _cur, h => setCells_heap r (setCell_heap h v)
theorem setCells_grown {g : Nat} : ∀ (vs : List Value) (W : World) (o : Nat), W.grownBy (W.setCells g o vs) (some g)
  | [], W, _ => grown_refl W _
  | v :: r, W, o => grown_trans (setCell_grown W g o v) (setCells_grown r _ _)

/-- one element in another's place -/
theorem OwnS.set {α : Type} {k e : Nat} {enc : α → List Value} {W : World} {base g cap : Nat} {l : List α} (h : OwnS k e enc W base (.slice (some ⟨g, 0, none⟩) l.length cap) l) (hk : ∀ x, (enc x).length = k) (hk0 : 0 < k) {i : Nat} (hi : i < l.length) (y : α) :
    OwnS k e enc (W.setCells g (i * k) (enc y)) base (.slice (some ⟨g, 0, none⟩) l.length cap) (l.set i y) := by
  rcases h.2 with ⟨h0, _⟩ | ⟨g', cap', cur, hv, hb, hg, hc, hm, hs, ht⟩
  · cases h0
  · obtain ⟨rfl, rfl⟩ : g = g' ∧ cap = cap' := by simpa using hv
    refine ⟨flat_len hk _, .inr ⟨g, cap, spl cur (i * k) (enc y), by rw [List.length_set], hb, setCells_heap _ hg, by rw [List.length_set]; exact hc, hm, by rw [spl_size]; exact hs, ?_⟩⟩
    rw [List.length_set]
    refine List.ext_getElem? fun m => ?_
    rw [List.getElem?_take]
    have hfl := flat_len hk (l.set i y)
    rw [List.length_set] at hfl
    by_cases hmn : m < l.length * k
    · rw [if_pos hmn]
      have hmd : m / k * k + m % k = m := by rw [Nat.mul_comm]; exact Nat.div_add_mod m k
      have hmk : m % k < k := Nat.mod_lt _ hk0
      have hq : m / k < l.length := (Nat.div_lt_iff_lt_mul hk0).2 hmn
      have h1 := flat_get hk (l.set i y) (m / k) (m % k) hmk
      have h2 := flat_get hk l (m / k) (m % k) hmk
      rw [hmd] at h1 h2
      rw [h1]
      have hcs : m < cur.size := by
        have : l.length * k ≤ cap * k := Nat.mul_le_mul_right k hc
        omega
      rw [Array.getElem?_toList, spl_get, hk]
      by_cases hqi : m / k = i
      · rw [hqi, List.getElem?_set_self hi, if_pos ⟨by rw [hqi] at hmd; omega, by rw [hqi] at hmd; omega, hcs⟩]
        simp only [Option.bind_some]
        congr 1
        rw [hqi] at hmd; omega
      · rw [List.getElem?_set_ne (fun e => hqi e.symm), ← h2, if_neg ?_, ← ht, List.getElem?_take, if_pos hmn, Array.getElem?_toList]
        intro ⟨h3, h4, _⟩
        apply hqi
        have h5 : (m / k) < i + 1 := (Nat.div_lt_iff_lt_mul hk0).2 (by rw [Nat.succ_mul]; omega)
        have h6 : i ≤ m / k := (Nat.le_div_iff_mul_le hk0).2 (by omega)
        omega
    · rw [if_neg hmn, List.getElem?_eq_none (by omega)]

/-- a block and where its instructions lie -/
abbrev BlkP := LBlock × Option Addr × Nat
abbrev BlkP.iv (p : BlkP) : Value := .slice p.2.1 p.1.ins.length p.2.2
def bEnc (p : BlkP) : List Value := [p.iv, I p.1.term.kind, I p.1.term.a, I p.1.term.to, I p.1.term.els]
theorem bEnc_len (p : BlkP) : (bEnc p).length = 5 := rfl
theorem bEnc_one (p : BlkP) : ∀ u ∈ bEnc p, u.oneCell' = true := by intro u hu; simp [bEnc] at hu; rcases hu with rfl | rfl | rfl | rfl | rfl <;> rfl
def RawOk (w : World) (p : BlkP) : Prop := RSl 8 RRaw w p.iv p.1.ins ∧ InI p.1.term.kind ∧ InI p.1.term.a ∧ InI p.1.term.to ∧ InI p.1.term.els
/-- a raw block -/
def RRawB (w : World) (C : Nat → Value) (b : LBlock) : Prop := ∃ aa cc, C 0 = .slice aa b.ins.length cc ∧ C 1 = I b.term.kind ∧ C 2 = I b.term.a ∧ C 3 = I b.term.to ∧ C 4 = I b.term.els ∧ RawOk w (b, aa, cc)
def GoodOk (n : Int) (W : World) (p : BlkP) : Prop := GoodBlk n p.1 ∧ ∀ W', TK [41, 3] W W' → RSl 8 RIns W' p.iv p.1.ins
theorem GoodOk.tk {n : Int} {W W' : World} {p : BlkP} (h : GoodOk n W p) (hk : TK [41, 3] W W') : GoodOk n W' p := ⟨h.1, fun W'' h' => h.2 W'' (hk.trans h')⟩
theorem RRaw.any {w w' : World} {C : Nat → Value} {x : LIns} (h : RRaw w C x) : RRaw w' C x := h
theorem RawOk.below {w W : World} {p : BlkP} (h : RawOk w p) (hb : Below w.heap.size w W) : RawOk W p := ⟨RSl.below (R := RRaw) (fun _ h => h) hb h.1, h.2⟩

/-- the state while a function's blocks are laid -/
structure FlowInv (W0 : World) (nm : ByteArray) (k : Int) (ps : List BlkP) (bv : Value) (W : World) : Prop where
  below : Below W0.heap.size W0 W
  box : W.heap[W0.heap.size]? = some (.cells #[.string nm, I k, I 10, bv] 24 (0, 0))
  own : OwnS 5 46 bEnc W (W0.heap.size + 1) bv ps

section
variable {W0 W W' : World} {nm : ByteArray} {k : Int} {ps : List BlkP} {bv : Value}
theorem FlowInv.ext (h : FlowInv W0 nm k ps bv W) (hg : W.grownBy W' none) : FlowInv W0 nm k ps bv W' :=
  ⟨h.below.grown hg h.below.size (fun _ e => by cases e), grown_old hg h.box (by simp), h.own.tag hg (NoTag.none _ _)⟩
theorem FlowInv.app (h : FlowInv W0 nm k ps bv W) {v' : Value} {p : BlkP} (ho : OwnS 5 46 bEnc W' (W0.heap.size + 1) v' (ps ++ [p])) (hg : W.grownBy W' bv.ownBlock) :
    FlowInv W0 nm k (ps ++ [p]) v' (W'.setCell ⟨W0.heap.size, 3, none⟩ v') := by
  have ha : some W0.heap.size ≠ bv.ownBlock := h.own.apart (by omega)
  have hc := setCell_grown W' W0.heap.size 3 v'
  have hrow : Row W' W0.heap.size 24 [.string nm, I k, I 10, bv] := grown_old hg h.box ha
  exact ⟨(h.below.grown hg h.below.size (fun r e => by have := (ownsRow_base h.own r e).1; omega)).setCell (Nat.le_refl _) _, hrow.set 3 v', ho.tag hc (NoTag.box 46 hrow (by decide))⟩
theorem FlowInv.put0 {g cap : Nat} (h : FlowInv W0 nm k ps (.slice (some ⟨g, 0, none⟩) ps.length cap) W) {i : Nat} (hi : i < ps.length) (p : BlkP) :
    FlowInv W0 nm k (ps.set i p) (.slice (some ⟨g, 0, none⟩) (ps.set i p).length cap) (W.setCells g (i * 5) (bEnc p)) ∧ TK [41, 3] W (W.setCells g (i * 5) (bEnc p)) := by
  have hb := ownsRow_base h.own g rfl
  have hg := setCells_grown (g := g) (bEnc p) W (i * 5)
  have hnt : ∀ t, t ≠ 46 → NoTag W (some g) t := fun t ht => by
    have := ownsRow_notag h.own (t := t) (fun e => ht e.symm)
    exact this
  refine ⟨⟨h.below.grown hg h.below.size (fun r e => by cases e; omega), ?_, ?_⟩, TK.grown hg (fun t ht => hnt t (by rintro rfl; simp at ht))⟩
  · rw [List.length_set]; exact grown_old hg h.box (by simp; omega)
  · have := h.own.set bEnc_len (by decide) hi p
    rw [List.length_set]
    exact this
theorem FlowInv.put {g cap n : Nat} (hn : ps.length = n) (h : FlowInv W0 nm k ps (.slice (some ⟨g, 0, none⟩) n cap) W) {i : Nat} (hi : i < ps.length) (p : BlkP) :
    FlowInv W0 nm k (ps.set i p) (.slice (some ⟨g, 0, none⟩) n cap) (W.setCells g (i * 5) (bEnc p)) ∧ TK [41, 3] W (W.setCells g (i * 5) (bEnc p)) := by
  subst hn
  have := h.put0 hi p
  rw [List.length_set] at this
  exact this
end

end Go.Proofs.Ytdlcpmjhngfgkaa
