import Derived.Test.YtdlcpmjhngfgkaaD0
import Derived.Test.YtdlcpmjhngfgkaaD1
import Derived.Test.YtdlcpmjhngfgkaaC9
namespace Go.Proofs.Ytdlcpmjhngfgkaa
open Go.RowKit Go.Shelf
attribute [local go_sem] Oper.semAt_some

/-- the row that is changed is none of type e -/
def NoTag (W : World) (row : Option Nat) (e : TypeId) : Prop := ∀ r, row = some r → ∀ c fr, W.heap[r]? ≠ some (.cells c e fr)
theorem NoTag.none (W : World) (e : TypeId) : NoTag W none e := fun _ h => by cases h
theorem NoTag.of {W : World} {r : Nat} {o : Obj} {e : TypeId} (h : W.heap[r]? = some o) (ho : ∀ c fr, o ≠ .cells c e fr) : NoTag W (some r) e := fun r' e' c fr h' => by
  cases e'; rw [h] at h'; exact ho c fr (by simpa using h')
theorem NoTag.other {W : World} {r : Nat} {o : Obj} (e : TypeId) (h : W.heap[r]? = some o) (ho : o.isCells = false) : NoTag W (some r) e :=
  NoTag.of h (fun c fr e => by rw [e] at ho; cases ho)
theorem NoTag.box {W : World} {r : Nat} {cs : Array Value} {t : TypeId} {fr : Nat × Nat} (e : TypeId) (h : W.heap[r]? = some (.cells cs t fr)) (ho : t ≠ e) : NoTag W (some r) e :=
  NoTag.of h (fun c fr e => by simp at e; exact ho e.2.1)
theorem boxed_tag {W W' : World} {row : Option Nat} {B : Nat} {t : TypeId} {v : Value} (h : Boxed W B t v) (hg : W.grownBy W' row) (hr : NoTag W row t) : Boxed W' B t v :=
  h.kept hg (fun e => hr B e.symm _ _ h)
theorem ownsRow_tag {W W' : World} {row : Option Nat} {base : Nat} {e : TypeId} {size : Nat} {v : Value} {n : Nat} {xs : List Value} (h : W.ownsRow base e size v n xs) (hg : W.grownBy W' row) (hr : NoTag W row e) : W'.ownsRow base e size v n xs := by
  refine h.kept hg ?_
  rcases h.2 with ⟨rfl, _⟩ | ⟨g, cap, cur, rfl, _, hgb, _⟩
  · exact .inl rfl
  · refine .inr fun e' => ?_
    simp only [Value.ownBlock] at e'
    exact hr g e'.symm _ _ hgb
theorem OwnInts.tag {W W' : World} {row : Option Nat} {base : Nat} {v : Value} {l : List Int} (h : OwnInts W base v l) (hg : W.grownBy W' row) (hr : NoTag W row 3) : OwnInts W' base v l := ownsRow_tag h hg hr

/-- append of one value of one cell -/
theorem run_appV {t e bytes : Nat} (S : SlT t e 1 bytes) {w : World} (ty : TypeId) {base : Nat} {v : Value} {vs : List Value} (hown : w.ownsRow base e 1 v vs.length vs) {g c : Nat} {x : Value} (hc : w.cell? ⟨g, 0, none⟩ = some x) (h1 : x.oneCell' = true)
    (hb : (vs.length + 1) * bytes ≤ 140737488355328) (h63 : vs.length + 1 ≤ maxLen) (hbase : base ≤ w.heap.size) :
    ∃ g' cap w', (Builtin.append_ #[t, t] ty #[v, .slice (some ⟨g, 0, none⟩) 1 c]).run Try.prog w = .ok (.slice (some ⟨g', 0, none⟩) (vs.length + 1) cap) w' ∧
      w'.ownsRow base e 1 (.slice (some ⟨g', 0, none⟩) (vs.length + 1) cap) (vs.length + 1) (vs ++ [x]) ∧ w.grownBy w' v.ownBlock ∧ (v.ownBlock = some g' ∨ g' = w.heap.size) ∧ g' < w'.heap.size := by
  obtain ⟨i, z, hi, hz, hsz, hby, hzs⟩ := S.hi
  refine run_append_lies (P := Try.prog) w t ty base e i z 1 bytes S.ht hi hz hsz hby hzs S.pos v vs.length vs hown ⟨g, 0, none⟩ 1 c [x] rfl ?_ ?_ (by decide) h63 hb hbase w.heap.size rfl
  · intro j u hu
    cases j with
    | zero => simp at hu; subst hu; exact hc
    | succ j => simp at hu
  · simpa using h1

theorem run_opApp {t : TypeId} {o : Oper} {ev : Operand → Value} (s x : Operand) (ho : o.op = .call { callee := .builtin .append, args := #[s, x], argTypes := #[t, t] }) {sv xv v : Value} {w w' : World} (hs : ev s = sv) (hx : ev x = xv)
    (hr : (Builtin.append_ #[t, t] o.type #[sv, xv]).run Try.prog w = .ok v w') : (execOp ev o).run Try.prog w = .ok (.value v) w' := by
  unfold execOp
  simp only [ho, resolve, invoke, builtin, Sem.run_bind, Sem.run_pure, Result.andThen_ok, List.map_toArray, List.map_cons, List.map_nil, hs, hx, hr]

/-- a slice of slices of ints, all of them new -/
def OwnLists (W : World) (base : Nat) (v : Value) (Ls : List (List Int)) : Prop :=
  ∃ vs : List Value, W.ownsRow base 32 1 v vs.length vs ∧ vs.length = Ls.length ∧ ∀ (i : Nat) (x : Value) (l : List Int), vs[i]? = some x → Ls[i]? = some l → OwnInts W base x l
theorem OwnLists.tag {W W' : World} {row : Option Nat} {base : Nat} {v : Value} {Ls : List (List Int)} (h : OwnLists W base v Ls) (hg : W.grownBy W' row) (h3 : NoTag W row 3) (h32 : NoTag W row 32) : OwnLists W' base v Ls := by
  obtain ⟨vs, h1, h2, h4⟩ := h
  exact ⟨vs, ownsRow_tag h1 hg h32, h2, fun i x l hx hl => (h4 i x l hx hl).tag hg h3⟩
theorem OwnInts.slice {W : World} {base : Nat} {v : Value} {l : List Int} (h : OwnInts W base v l) : ∃ a c, v = .slice a l.length c := by
  rcases h.2 with ⟨rfl, h0⟩ | ⟨g, cap, _, rfl, _⟩
  · exact ⟨_, _, by rw [h0]⟩
  · exact ⟨_, _, rfl⟩
/-- the row of a slice that owns one -/
theorem ownsRow_notag {W : World} {base : Nat} {e : TypeId} {size : Nat} {v : Value} {n : Nat} {xs : List Value} (h : W.ownsRow base e size v n xs) {t : TypeId} (ht : e ≠ t) : NoTag W v.ownBlock t := by
  rcases h.2 with ⟨rfl, _⟩ | ⟨g, cap, cur, rfl, _, hgb, _⟩
  · exact NoTag.none _ _
  · exact NoTag.box t hgb ht
theorem ownsRow_base {W : World} {base : Nat} {e : TypeId} {size : Nat} {v : Value} {n : Nat} {xs : List Value} (h : W.ownsRow base e size v n xs) : ∀ k, v.ownBlock = some k → base ≤ k ∧ k < W.heap.size := by
  intro k hk
  rcases h.2 with ⟨rfl, _⟩ | ⟨g, cap, cur, rfl, hb, hgb, _⟩
  · cases hk
  · simp [Value.ownBlock] at hk; subst hk; exact ⟨hb, (Array.getElem?_eq_some_iff.1 hgb).1⟩

/-- a slice that is not empty, with its row; and what it is when the row is turned round -/
theorem OwnLists.rev {W : World} {base : Nat} {v : Value} {Ls : List (List Int)} (h : OwnLists W base v Ls) (hl : 0 < Ls.length) : ∃ g cap cs, v = .slice (some ⟨g, 0, none⟩) Ls.length cap ∧ base ≤ g ∧ Row W g 32 cs ∧ Ls.length ≤ cs.length ∧ (∀ v ∈ cs.take Ls.length, ∃ a m c, v = .slice a m c) ∧
    ∀ W', W.grownBy W' (some g) → Row W' g 32 ((cs.take Ls.length).reverse ++ cs.drop Ls.length) → OwnLists W' base v Ls.reverse := by
  obtain ⟨vs, ⟨h1, h2⟩, h3, h4⟩ := h
  rcases h2 with ⟨_, h0⟩ | ⟨g, cap, cur, rfl, hb, hg, hc, hm, hs, ht⟩
  · omega
  · rw [Nat.mul_one] at ht hs
    have hlen : vs.length ≤ cur.toList.length := by simp [hs]; exact hc
    have hall : ∀ (i : Nat) (x : Value), vs[i]? = some x → ∃ l, Ls[i]? = some l ∧ OwnInts W base x l := fun i x hx => by
      have hi := (List.getElem?_eq_some_iff.1 hx).1
      exact ⟨Ls[i], List.getElem?_eq_getElem (by omega), h4 i x _ hx (List.getElem?_eq_getElem (by omega))⟩
    refine ⟨g, cap, cur.toList, by rw [h3], hb, hg, by omega, fun v hv => ?_, fun W' hgr hrow => ?_⟩
    · rw [← h3, ht] at hv
      obtain ⟨i, hi, rfl⟩ := List.getElem_of_mem hv
      obtain ⟨l, _, ho⟩ := hall i _ (List.getElem?_eq_getElem hi)
      obtain ⟨a, c, e⟩ := ho.slice
      exact ⟨a, _, c, e⟩
    · rw [← h3, ht] at hrow
      refine ⟨vs.reverse, ⟨by simp, .inr ⟨g, cap, _, by rw [List.length_reverse], hb, hrow, by rw [List.length_reverse]; exact hc, hm, ?_, ?_⟩⟩, by simp [h3], fun i x l hx hl' => ?_⟩
      · simp [hs]; omega
      · simp
      · rw [List.getElem?_reverse (by have := (List.getElem?_eq_some_iff.1 hx).1; simpa using this)] at hx
        rw [List.getElem?_reverse (by have := (List.getElem?_eq_some_iff.1 hl').1; simpa using this)] at hl'
        rw [h3] at hx
        exact (h4 _ x l hx hl').tag hgr (NoTag.box 3 hg (by decide))

/-- what a run keeps while a range over instructions goes on -/
def KK (w : World) (N Bi : Nat) (W W' : World) : Prop := KeepsFrom N W W' ∧ KpB w.heap.size Bi W W'
theorem KK.refl (w : World) (N Bi : Nat) (W : World) : KK w N Bi W W := ⟨KeepsFrom.refl _ _, Below.refl _ _, rfl⟩
theorem KK.grown {w : World} {N Bi : Nat} {W W' W'' : World} {row : Option Nat} (h : KK w N Bi W W') (hg : W'.grownBy W'' row) (hle : w.heap.size ≤ W'.heap.size) (hB : Bi < W'.heap.size)
    (hr : ∀ r, row = some r → w.heap.size ≤ r ∧ r ≠ Bi ∧ (r < N ∨ ∃ o, W'.heap[r]? = some o ∧ o.isCells = true)) : KK w N Bi W W'' := by
  refine ⟨⟨Nat.le_trans h.1.size hg.size, fun k o hk h1 h2 => ?_⟩, h.2.1.grown hg hle (fun k hk => (hr k hk).1), ?_⟩
  · have h3 := h.1.same k o hk h1 h2
    refine grown_old hg h3 (fun e => ?_)
    rcases (hr k e.symm).2.2 with h4 | ⟨o', h4, h5⟩
    · omega
    · rw [h3] at h4; cases h4; rw [h2] at h5; cases h5
  · rw [hg.block Bi hB (fun e => (hr Bi e.symm).2.1 rfl)]; exact h.2.2

/-- the state of after: ov is what the box holds, nv is the slice -/
structure AInv (w : World) (iv : Value) (B5 B6 Bi g N : Nat) (ov nv : Value) (Ls : List (List Int)) (S : List Int) (W : World) : Prop where
  below : Below w.heap.size w W
  set : SetAt W g (S.map I)
  nd : S.Nodup
  b5 : Boxed W B5 86 (.map (some g))
  b6 : Boxed W B6 58 ov
  bi : Boxed W Bi 42 iv
  own : OwnLists W w.heap.size nv Ls
  lo : w.heap.size ≤ g ∧ w.heap.size ≤ B5 ∧ w.heap.size ≤ B6 ∧ w.heap.size ≤ Bi ∧ g < N ∧ B5 < N ∧ B6 < N ∧ Bi < N ∧ N ≤ W.heap.size

theorem AInv.grown {w : World} {iv : Value} {B5 B6 Bi g N : Nat} {ov nv : Value} {Ls : List (List Int)} {S : List Int} {W W' : World} {row : Option Nat} (h : AInv w iv B5 B6 Bi g N ov nv Ls S W) (hg : W.grownBy W' row)
    (hr : ∀ r, row = some r → N ≤ r ∧ ∃ o, W.heap[r]? = some o ∧ o.isCells = false) : AInv w iv B5 B6 Bi g N ov nv Ls S W' := by
  have hlo := h.lo
  have ht : ∀ e, NoTag W row e := fun e r hre => by
    obtain ⟨_, o, ho, hc⟩ := hr r hre
    exact NoTag.other e ho hc r rfl
  refine ⟨h.below.grown hg h.below.size (fun k hk => by have := (hr k hk).1; omega), h.set.below (hg.block g h.set.lt (fun e => by have := (hr g e.symm).1; omega)), h.nd, boxed_tag h.b5 hg (ht _), boxed_tag h.b6 hg (ht _), boxed_tag h.bi hg (ht _), h.own.tag hg (ht _) (ht _), ?_⟩
  have := hg.size
  omega
theorem AInv.ext {w : World} {iv : Value} {B5 B6 Bi g N : Nat} {ov nv : Value} {Ls : List (List Int)} {S : List Int} {W W' : World} (h : AInv w iv B5 B6 Bi g N ov nv Ls S W) (hg : W.grownBy W' none) : AInv w iv B5 B6 Bi g N ov nv Ls S W' :=
  h.grown hg (fun _ e => by cases e)
/-- the set is stepped -/
theorem AInv.stepped {w : World} {iv : Value} {B5 B6 Bi g N : Nat} {ov nv : Value} {Ls : List (List Int)} {S S' : List Int} {W W' : World} (h : AInv w iv B5 B6 Bi g N ov nv Ls S W) (hg : W.grownBy W' (some g)) (hs : SetAt W' g (S'.map I)) (hn : S'.Nodup) : AInv w iv B5 B6 Bi g N ov nv Ls S' W' := by
  have hlo := h.lo
  have ht : ∀ e, NoTag W (some g) e := fun e => by
    obtain ⟨_, _, h1, _⟩ := h.set
    exact NoTag.other e h1 rfl
  have := hg.size
  exact ⟨h.below.grown hg h.below.size (fun k hk => by cases hk; omega), hs, hn, boxed_tag h.b5 hg (ht _), boxed_tag h.b6 hg (ht _), boxed_tag h.bi hg (ht _), h.own.tag hg (ht _) (ht _), by omega⟩
/-- another slice stands for what was -/
theorem AInv.appended {w : World} {iv : Value} {B5 B6 Bi g N : Nat} {ov nv nv' : Value} {Ls Ls' : List (List Int)} {S : List Int} {W W' : World} {row : Option Nat} (h : AInv w iv B5 B6 Bi g N ov nv Ls S W) (hg : W.grownBy W' row)
    (hr : ∀ r, row = some r → w.heap.size ≤ r ∧ ∃ c fr, W.heap[r]? = some (.cells c 32 fr)) (ho : OwnLists W' w.heap.size nv' Ls') : AInv w iv B5 B6 Bi g N ov nv' Ls' S W' := by
  have hlo := h.lo
  have ht : ∀ e, 32 ≠ e → NoTag W row e := fun e he r hre => by
    obtain ⟨_, c, fr, ho⟩ := hr r hre
    exact NoTag.box e ho he r rfl
  have := hg.size
  refine ⟨h.below.grown hg h.below.size (fun k hk => (hr k hk).1), h.set.below (hg.block g h.set.lt (fun e => ?_)), h.nd, boxed_tag h.b5 hg (ht _ (by decide)), boxed_tag h.b6 hg (ht _ (by decide)), boxed_tag h.bi hg (ht _ (by decide)), ho, by omega⟩
  obtain ⟨_, c, fr, h1⟩ := hr g e.symm
  obtain ⟨_, _, h2, _⟩ := h.set
  rw [h1] at h2; cases h2
/-- the box holds the slice again -/
theorem AInv.stored {w : World} {iv : Value} {B5 B6 Bi g N : Nat} {ov nv : Value} {Ls : List (List Int)} {S : List Int} {W : World} (h : AInv w iv B5 B6 Bi g N ov nv Ls S W) : AInv w iv B5 B6 Bi g N nv nv Ls S (W.setCell ⟨B6, 0, none⟩ nv) := by
  have hlo := h.lo
  have hg := setCell_grown W B6 0 nv
  have ht : ∀ e, 58 ≠ e → NoTag W (some B6) e := fun e he => NoTag.box e h.b6 he
  have := hg.size
  refine ⟨h.below.grown hg h.below.size (fun k hk => by cases hk; omega), h.set.below (hg.block g h.set.lt (fun e => ?_)), h.nd, boxed_tag h.b5 hg (ht _ (by decide)), h.b6.set nv, boxed_tag h.bi hg (ht _ (by decide)), h.own.tag hg (ht _ (by decide)) (ht _ (by decide)), by omega⟩
  obtain ⟨_, _, h2, _⟩ := h.set
  cases e
  rw [show W.heap[B6]? = _ from h.b6] at h2; cases h2

def foldX {w : World} {xs : List LIns} (l0 : List Int) (pre : List (AInX w xs)) : List Int := pre.foldl (fun s p => stepL p.1.2.1 s) l0
theorem foldX_snoc {w : World} {xs : List LIns} (l0 : List Int) (pre : List (AInX w xs)) (x : AInX w xs) : foldX l0 (pre ++ [x]) = stepL x.1.2.1 (foldX l0 pre) := by simp [foldX]
theorem foldX_in {w : World} {xs : List LIns} {U : List Int} (hu : ∀ x ∈ xs, ∀ v ∈ x.uses, v ∈ U) {l0 : List Int} (h0 : ∀ v ∈ l0, v ∈ U) (hn : l0.Nodup) (pre : List (AInX w xs)) : (foldX l0 pre).Nodup ∧ ∀ v ∈ foldX l0 pre, v ∈ U := by
  induction pre generalizing l0 with
  | nil => exact ⟨hn, h0⟩
  | cons x pre ih =>
    refine ih (l0 := stepL x.1.2.1 l0) (fun v hv => ?_) (nodup_stepL hn)
    rcases (mem_stepL hn).1 hv with h | ⟨h, _⟩
    · exact hu _ (List.mem_of_getElem? x.2.2) v h
    · exact h0 v h

/-- what after has, from behind, when some instructions have come -/
def aftR {w : World} {xs : List LIns} (l0 : List Int) (pre : List (AInX w xs)) : List (List Int) := (List.range (pre.length + 1)).map fun j => sortL (foldX l0 (pre.take (j - 1)))
theorem aftR_snoc {w : World} {xs : List LIns} (l0 : List Int) (pre : List (AInX w xs)) (x : AInX w xs) : aftR l0 (pre ++ [x]) = aftR l0 pre ++ [sortL (foldX l0 pre)] := by
  unfold aftR
  rw [List.length_append, List.length_singleton, List.range_succ (n := pre.length + 1), List.map_append]
  congr 1
  · apply List.map_congr_left
    intro j hj
    rw [List.mem_range] at hj
    rw [List.take_append_of_le_length (by omega)]
  · simp
theorem aftR_nil {w : World} {xs : List LIns} (l0 : List Int) : aftR l0 ([] : List (AInX w xs)) = [sortL l0] := by simp [aftR, foldX]

/-- behind instruction k of a block (at its length: ahead of the end) -/
def AfterS (b : LBlock) (L : Nat → Int → Prop) (k : Nat) : Int → Prop := (b.ins.drop (k + 1)).foldr aheadS (endS b.term L)

theorem aftR_mem {w : World} {blk : LBlock} {ys : List (AInX w blk.ins)} (hS : ys.map (fun p => (p.1.1, p.1.2.1)) = (blk.ins.zipIdx.map fun p => (p.2, p.1)).reverse) {l0 : List Int} {L : Nat → Int → Prop} (hn : l0.Nodup) (h : ∀ v, v ∈ l0 ↔ endS blk.term L v) :
    (aftR l0 ys).reverse.length = blk.ins.length + 1 ∧ ∀ k l, (aftR l0 ys).reverse[k]? = some l → l.Nodup ∧ ∀ v, v ∈ l ↔ AfterS blk L k v := by
  have h1 : ys.map (fun p => p.1.2.1) = blk.ins.reverse := by
    have := congrArg (List.map Prod.snd) hS
    rw [List.map_map, List.map_reverse, List.map_map] at this
    have e : (Prod.snd ∘ fun p : LIns × Nat => (p.2, p.1)) = Prod.fst := rfl
    rw [e, List.zipIdx_map_fst] at this
    exact this
  have hlen : ys.length = blk.ins.length := by have := congrArg List.length h1; simpa using this
  refine ⟨by simp [aftR, hlen], fun k l hk => ?_⟩
  have hkl : k < blk.ins.length + 1 := by
    have := (List.getElem?_eq_some_iff.1 hk).1
    simpa [aftR, hlen] using this
  rw [List.getElem?_reverse (by simpa [aftR, hlen] using hkl)] at hk
  simp only [aftR, List.length_map, List.length_range, List.getElem?_map] at hk
  rw [List.getElem?_range (by omega)] at hk
  simp only [Option.map_some, Option.some.injEq] at hk
  subst hk
  have hf : ∀ m, foldX l0 (ys.take m) = ((ys.map (fun p => p.1.2.1)).take m).foldl (fun s x => stepL x s) l0 := fun m => by
    unfold foldX; rw [← List.map_take, List.foldl_map]
  rw [hf, h1, List.take_reverse, hlen]
  refine ⟨?_, fun v => ?_⟩
  · exact (List.mergeSort_perm _ _).nodup_iff.2 (nodup_foldl hn)
  · rw [mem_sortL, mem_foldl hn h, List.reverse_reverse]
    unfold AfterS
    have : blk.ins.length - (blk.ins.length + 1 - 1 - k - 1) = k + 1 ∨ (k = blk.ins.length ∧ blk.ins.length - (blk.ins.length + 1 - 1 - k - 1) = k) := by omega
    rcases this with e | ⟨e1, e2⟩
    · rw [e]
    · rw [e2, e1, List.drop_length, List.drop_of_length_le (by omega)]

end Go.Proofs.Ytdlcpmjhngfgkaa
