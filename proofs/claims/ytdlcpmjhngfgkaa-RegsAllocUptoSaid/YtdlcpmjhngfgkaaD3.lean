import Derived.Test.YtdlcpmjhngfgkaaD0
import Derived.Test.YtdlcpmjhngfgkaaD1
import Derived.Test.YtdlcpmjhngfgkaaC9
namespace Go.Proofs.Ytdlcpmjhngfgkaa
open Go.RowKit Go.Shelf
attribute [local go_sem] Oper.semAt_some

/-- the row that is changed is none of type e -/
def NoTag (W : World) (row : Option Nat) (e : TypeId) : Prop := ∀ r, row = some r → ∀ c fr, W.heap[r]? ≠ some (.cells c e fr)
theorem NoTag.none (W : World) (e : TypeId) : NoTag W none e := fun _ h => by cases h
theorem NoTag.of {W : World} {r : Nat} {o : Obj} {e : TypeId} (h : W.heap[r]? = some o) (ho : ∀ c fr, o ≠ .cells c e fr) : NoTag W (some r) e := fun r' e' c fr h' => by
  cases e'; rw [h] at h'; exact ho c fr (by simpa using h')
theorem NoTag.other {W : World} {r : Nat} {o : Obj} (e : TypeId) (h : W.heap[r]? = some o) (ho : o.isCells = false) : NoTag W (some r) e :=
  NoTag.of h (fun c fr e => by rw [e] at ho; cases ho)
theorem NoTag.box {W : World} {r : Nat} {cs : Array Value} {t : TypeId} {fr : Nat × Nat} (e : TypeId) (h : W.heap[r]? = some (.cells cs t fr)) (ho : t ≠ e) : NoTag W (some r) e :=
  NoTag.of h (fun c fr e => by simp at e; exact ho e.2.1)
theorem boxed_tag {W W' : World} {row : Option Nat} {B : Nat} {t : TypeId} {v : Value} (h : Boxed W B t v) (hg : W.grownBy W' row) (hr : NoTag W row t) : Boxed W' B t v :=
  h.kept hg (fun e => hr B e.symm _ _ h)
theorem ownsRow_tag {W W' : World} {row : Option Nat} {base : Nat} {e : TypeId} {size : Nat} {v : Value} {n : Nat} {xs : List Value} (h : W.ownsRow base e size v n xs) (hg : W.grownBy W' row) (hr : NoTag W row e) : W'.ownsRow base e size v n xs := by
  refine h.kept hg ?_
  rcases h.2 with ⟨rfl, _⟩ | ⟨g, cap, cur, rfl, _, hgb, _⟩
  · exact .inl rfl
  · refine .inr fun e' => ?_
    simp only [Value.ownBlock] at e'
    exact hr g e'.symm _ _ hgb
theorem OwnInts.tag {W W' : World} {row : Option Nat} {base : Nat} {v : Value} {l : List Int} (h : OwnInts W base v l) (hg : W.grownBy W' row) (hr : NoTag W row 3) : OwnInts W' base v l := ownsRow_tag h hg hr

/-- append of one value of one cell -/
theorem run_appV {t e bytes : Nat} (S : SlT t e 1 bytes) {w : World} (ty : TypeId) {base : Nat} {v : Value} {vs : List Value} (hown : w.ownsRow base e 1 v vs.length vs) {g c : Nat} {x : Value} (hc : w.cell? ⟨g, 0, none⟩ = some x) (h1 : x.oneCell' = true)
    (hb : (vs.length + 1) * bytes ≤ 140737488355328) (h63 : vs.length + 1 ≤ maxLen) (hbase : base ≤ w.heap.size) :
    ∃ g' cap w', (Builtin.append_ #[t, t] ty #[v, .slice (some ⟨g, 0, none⟩) 1 c]).run Try.prog w = .ok (.slice (some ⟨g', 0, none⟩) (vs.length + 1) cap) w' ∧
      w'.ownsRow base e 1 (.slice (some ⟨g', 0, none⟩) (vs.length + 1) cap) (vs.length + 1) (vs ++ [x]) ∧ w.grownBy w' v.ownBlock ∧ (v.ownBlock = some g' ∨ g' = w.heap.size) ∧ g' < w'.heap.size := by
  obtain ⟨i, z, hi, hz, hsz, hby, hzs⟩ := S.hi
  refine run_append_lies (P := Try.prog) w t ty base e i z 1 bytes S.ht hi hz hsz hby hzs S.pos v vs.length vs hown ⟨g, 0, none⟩ 1 c [x] rfl ?_ ?_ (by decide) h63 hb hbase w.heap.size rfl
  · intro j u hu
    cases j with
    | zero => simp at hu; subst hu; exact hc
    | succ j => simp at hu
  · simpa using h1

theorem run_opApp {t : TypeId} {o : Oper} {ev : Operand → Value} (s x : Operand) (ho : o.op = .call { callee := .builtin .append, args := #[s, x], argTypes := #[t, t] }) {sv xv v : Value} {w w' : World} (hs : ev s = sv) (hx : ev x = xv)
    (hr : (Builtin.append_ #[t, t] o.type #[sv, xv]).run Try.prog w = .ok v w') : (execOp ev o).run Try.prog w = .ok (.value v) w' := by
  unfold execOp
  simp only [ho, resolve, invoke, builtin, Sem.run_bind, Sem.run_pure, Result.andThen_ok, List.map_toArray, List.map_cons, List.map_nil, hs, hx, hr]

/-- a slice of slices of ints, all of them new -/
def OwnLists (W : World) (base : Nat) (v : Value) (Ls : List (List Int)) : Prop :=
  ∃ vs : List Value, W.ownsRow base 32 1 v vs.length vs ∧ vs.length = Ls.length ∧ ∀ (i : Nat) (x : Value) (l : List Int), vs[i]? = some x → Ls[i]? = some l → OwnInts W base x l
theorem OwnLists.tag {W W' : World} {row : Option Nat} {base : Nat} {v : Value} {Ls : List (List Int)} (h : OwnLists W base v Ls) (hg : W.grownBy W' row) (h3 : NoTag W row 3) (h32 : NoTag W row 32) : OwnLists W' base v Ls := by
  obtain ⟨vs, h1, h2, h4⟩ := h
  exact ⟨vs, ownsRow_tag h1 hg h32, h2, fun i x l hx hl => (h4 i x l hx hl).tag hg h3⟩
theorem OwnInts.slice {W : World} {base : Nat} {v : Value} {l : List Int} (h : OwnInts W base v l) : ∃ a c, v = .slice a l.length c := by
  rcases h.2 with ⟨rfl, h0⟩ | ⟨g, cap, _, rfl, _⟩
  · exact ⟨_, _, by rw [h0]⟩
  · exact ⟨_, _, rfl⟩
/-- the row of a slice that owns one -/
theorem ownsRow_notag {W : World} {base : Nat} {e : TypeId} {size : Nat} {v : Value} {n : Nat} {xs : List Value} (h : W.ownsRow base e size v n xs) {t : TypeId} (ht : e ≠ t) : NoTag W v.ownBlock t := by
  rcases h.2 with ⟨rfl, _⟩ | ⟨g, cap, cur, rfl, _, hgb, _⟩
  · exact NoTag.none _ _
  · exact NoTag.box t hgb ht
theorem ownsRow_base {W : World} {base : Nat} {e : TypeId} {size : Nat} {v : Value} {n : Nat} {xs : List Value} (h : W.ownsRow base e size v n xs) : ∀ k, v.ownBlock = some k → base ≤ k ∧ k < W.heap.size := by
  intro k hk
  rcases h.2 with ⟨rfl, _⟩ | ⟨g, cap, cur, rfl, hb, hgb, _⟩
  · cases hk
  · simp [Value.ownBlock] at hk; subst hk; exact ⟨hb, (Array.getElem?_eq_some_iff.1 hgb).1⟩

/-- a slice that is not empty, with its row; and what it is when the row is turned round -/
theorem OwnLists.rev {W : World} {base : Nat} {v : Value} {Ls : List (List Int)} (h : OwnLists W base v Ls) (hl : 0 < Ls.length) : ∃ g cap cs, v = .slice (some ⟨g, 0, none⟩) Ls.length cap ∧ base ≤ g ∧ Row W g 32 cs ∧ Ls.length ≤ cs.length ∧ (∀ v ∈ cs.take Ls.length, ∃ a m c, v = .slice a m c) ∧
    ∀ W', W.grownBy W' (some g) → Row W' g 32 ((cs.take Ls.length).reverse ++ cs.drop Ls.length) → OwnLists W' base v Ls.reverse := by
  obtain ⟨vs, ⟨h1, h2⟩, h3, h4⟩ := h
  rcases h2 with ⟨_, h0⟩ | ⟨g, cap, cur, rfl, hb, hg, hc, hm, hs, ht⟩
  · omega
  · rw [Nat.mul_one] at ht hs
    have hlen : vs.length ≤ cur.toList.length := by simp [hs]; exact hc
    have hall : ∀ (i : Nat) (x : Value), vs[i]? = some x → ∃ l, Ls[i]? = some l ∧ OwnInts W base x l := fun i x hx => by
      have hi := (List.getElem?_eq_some_iff.1 hx).1
      exact ⟨Ls[i], List.getElem?_eq_getElem (by omega), h4 i x _ hx (List.getElem?_eq_getElem (by omega))⟩
    refine ⟨g, cap, cur.toList, by rw [h3], hb, hg, by omega, fun v hv => ?_, fun W' hgr hrow => ?_⟩
    · rw [← h3, ht] at hv
      obtain ⟨i, hi, rfl⟩ := List.getElem_of_mem hv
      obtain ⟨l, _, ho⟩ := hall i _ (List.getElem?_eq_getElem hi)
      obtain ⟨a, c, e⟩ := ho.slice
      exact ⟨a, _, c, e⟩
    · rw [← h3, ht] at hrow
      refine ⟨vs.reverse, ⟨by simp, .inr ⟨g, cap, _, by rw [List.length_reverse], hb, hrow, by rw [List.length_reverse]; exact hc, hm, ?_, ?_⟩⟩, by simp [h3], fun i x l hx hl' => ?_⟩
      · simp [hs]; omega
      · simp
      · rw [List.getElem?_reverse (by have := (List.getElem?_eq_some_iff.1 hx).1; simpa using this)] at hx
        rw [List.getElem?_reverse (by have := (List.getElem?_eq_some_iff.1 hl').1; simpa using this)] at hl'
        rw [h3] at hx
        exact (h4 _ x l hx hl').tag hgr (NoTag.box 3 hg (by decide))

/-- what a run keeps while a range over instructions goes on -/
def KK (w : World) (N Bi : Nat) (W W' : World) : Prop := KeepsFrom N W W' ∧ KpB w.heap.size Bi W W'
theorem KK.refl (w : World) (N Bi : Nat) (W : World) : KK w N Bi W W := ⟨KeepsFrom.refl _ _, Below.refl _ _, rfl⟩
theorem KK.grown {w : World} {N Bi : Nat} {W W' W'' : World} {row : Option Nat} (h : KK w N Bi W W') (hg : W'.grownBy W'' row) (hle : w.heap.size ≤ W'.heap.size) (hB : Bi < W'.heap.size)
    (hr : ∀ r, row = some r → w.heap.size ≤ r ∧ r ≠ Bi ∧ (r < N ∨ ∃ o, W'.heap[r]? = some o ∧ o.isCells = true)) : KK w N Bi W W'' := by
  refine ⟨⟨Nat.le_trans h.1.size hg.size, fun k o hk h1 h2 => ?_⟩, h.2.1.grown hg hle (fun k hk => (hr k hk).1), ?_⟩
  · have h3 := h.1.same k o hk h1 h2
    refine grown_old hg h3 (fun e => ?_)
    rcases (hr k e.symm).2.2 with h4 | ⟨o', h4, h5⟩
    · omega
    · rw [h3] at h4; cases h4; rw [h2] at h5; cases h5
  · rw [hg.block Bi hB (fun e => (hr Bi e.symm).2.1 rfl)]; exact h.2.2

/-- the state of after: ov is what the box holds, nv is the slice -/
structure AInv (w : World) (iv : Value) (B5 B6 Bi g N : Nat) (ov nv : Value) (Ls : List (List Int)) (S : List Int) (W : World) : Prop where
  below : Below w.heap.size w W
  set : SetAt W g (S.map I)
  nd : S.Nodup
  b5 : Boxed W B5 86 (.map (some g))
  b6 : Boxed W B6 58 ov
  bi : Boxed W Bi 42 iv
  own : OwnLists W w.heap.size nv Ls
  lo : w.heap.size ≤ g ∧ w.heap.size ≤ B5 ∧ w.heap.size ≤ B6 ∧ w.heap.size ≤ Bi ∧ g < N ∧ B5 < N ∧ B6 < N ∧ Bi < N ∧ N ≤ W.heap.size

theorem AInv.grown {w : World} {iv : Value} {B5 B6 Bi g N : Nat} {ov nv : Value} {Ls : List (List Int)} {S : List Int} {W W' : World} {row : Option Nat} (h : AInv w iv B5 B6 Bi g N ov nv Ls S W) (hg : W.grownBy W' row)
    (hr : ∀ r, row = some r → N ≤ r ∧ ∃ o, W.heap[r]? = some o ∧ o.isCells = false) : AInv w iv B5 B6 Bi g N ov nv Ls S W' := by
  have hlo := h.lo
  have ht : ∀ e, NoTag W row e := fun e r hre => by
    obtain ⟨_, o, ho, hc⟩ := hr r hre
    exact NoTag.other e ho hc r rfl
  refine ⟨h.below.grown hg h.below.size (fun k hk => by have := (hr k hk).1; omega), h.set.below (hg.block g h.set.lt (fun e => by have := (hr g e.symm).1; omega)), h.nd, boxed_tag h.b5 hg (ht _), boxed_tag h.b6 hg (ht _), boxed_tag h.bi hg (ht _), h.own.tag hg (ht _) (ht _), ?_⟩
  have := hg.size
  omega
theorem AInv.ext {w : World} {iv : Value} {B5 B6 Bi g N : Nat} {ov nv : Value} {Ls : List (List Int)} {S : List Int} {W W' : World} (h : AInv w iv B5 B6 Bi g N ov nv Ls S W) (hg : W.grownBy W' none) : AInv w iv B5 B6 Bi g N ov nv Ls S W' :=
  h.grown hg (fun _ e => by cases e)
/-- the set is stepped -/
theorem AInv.stepped {w : World} {iv : Value} {B5 B6 Bi g N : Nat} {ov nv : Value} {Ls : List (List Int)} {S S' : List Int} {W W' : World} (h : AInv w iv B5 B6 Bi g N ov nv Ls S W) (hg : W.grownBy W' (some g)) (hs : SetAt W' g (S'.map I)) (hn : S'.Nodup) : AInv w iv B5 B6 Bi g N ov nv Ls S' W' := by
  have hlo := h.lo
  have ht : ∀ e, NoTag W (some g) e := fun e => by
    obtain ⟨_, _, h1, _⟩ := h.set
    exact NoTag.other e h1 rfl
  have := hg.size
  exact ⟨h.below.grown hg h.below.size (fun k hk => by cases hk; omega), hs, hn, boxed_tag h.b5 hg (ht _), boxed_tag h.b6 hg (ht _), boxed_tag h.bi hg (ht _), h.own.tag hg (ht _) (ht _), by omega⟩
/-- another slice stands for what was -/
theorem AInv.appended {w : World} {iv : Value} {B5 B6 Bi g N : Nat} {ov nv nv' : Value} {Ls Ls' : List (List Int)} {S : List Int} {W W' : World} {row : Option Nat} (h : AInv w iv B5 B6 Bi g N ov nv Ls S W) (hg : W.grownBy W' row)
    (hr : ∀ r, row = some r → w.heap.size ≤ r ∧ ∃ c fr, W.heap[r]? = some (.cells c 32 fr)) (ho : OwnLists W' w.heap.size nv' Ls') : AInv w iv B5 B6 Bi g N ov nv' Ls' S W' := by
  have hlo := h.lo
  have ht : ∀ e, 32 ≠ e → NoTag W row e := fun e he r hre => by
    obtain ⟨_, c, fr, ho⟩ := hr r hre
    exact NoTag.box e ho he r rfl
  have := hg.size
  refine ⟨h.below.grown hg h.below.size (fun k hk => (hr k hk).1), h.set.below (hg.block g h.set.lt (fun e => ?_)), h.nd, boxed_tag h.b5 hg (ht _ (by decide)), boxed_tag h.b6 hg (ht _ (by decide)), boxed_tag h.bi hg (ht _ (by decide)), ho, by omega⟩
  obtain ⟨_, c, fr, h1⟩ := hr g e.symm
  obtain ⟨_, _, h2, _⟩ := h.set
  rw [h1] at h2; cases h2
/-- the box holds the slice again -/
theorem AInv.stored {w : World} {iv : Value} {B5 B6 Bi g N : Nat} {ov nv : Value} {Ls : List (List Int)} {S : List Int} {W : World} (h : AInv w iv B5 B6 Bi g N ov nv Ls S W) : AInv w iv B5 B6 Bi g N nv nv Ls S (W.setCell ⟨B6, 0, none⟩ nv) := by
  have hlo := h.lo
  have hg := setCell_grown W B6 0 nv
  have ht : ∀ e, 58 ≠ e → NoTag W (some B6) e := fun e he => NoTag.box e h.b6 he
  have := hg.size
  refine ⟨h.below.grown hg h.below.size (fun k hk => by cases hk; omega), h.set.below (hg.block g h.set.lt (fun e => ?_)), h.nd, boxed_tag h.b5 hg (ht _ (by decide)), h.b6.set nv, boxed_tag h.bi hg (ht _ (by decide)), h.own.tag hg (ht _ (by decide)) (ht _ (by decide)), by omega⟩
  obtain ⟨_, _, h2, _⟩ := h.set
  cases e
  rw [show W.heap[B6]? = _ from h.b6] at h2; cases h2

def foldX {w : World} {xs : List LIns} (l0 : List Int) (pre : List (AInX w xs)) : List Int := pre.foldl (fun s p => stepL p.1.2.1 s) l0
theorem foldX_snoc {w : World} {xs : List LIns} (l0 : List Int) (pre : List (AInX w xs)) (x : AInX w xs) : foldX l0 (pre ++ [x]) = stepL x.1.2.1 (foldX l0 pre) := by simp [foldX]
theorem foldX_in {w : World} {xs : List LIns} {U : List Int} (hu : ∀ x ∈ xs, ∀ v ∈ x.uses, v ∈ U) {l0 : List Int} (h0 : ∀ v ∈ l0, v ∈ U) (hn : l0.Nodup) (pre : List (AInX w xs)) : (foldX l0 pre).Nodup ∧ ∀ v ∈ foldX l0 pre, v ∈ U := by
  induction pre generalizing l0 with
  | nil => exact ⟨hn, h0⟩
  | cons x pre ih =>
    refine ih (l0 := stepL x.1.2.1 l0) (fun v hv => ?_) (nodup_stepL hn)
    rcases (mem_stepL hn).1 hv with h | ⟨h, _⟩
    · exact hu _ (List.mem_of_getElem? x.2.2) v h
    · exact h0 v h

/-- what after has, from behind, when some instructions have come -/
def aftR {w : World} {xs : List LIns} (l0 : List Int) (pre : List (AInX w xs)) : List (List Int) := (List.range (pre.length + 1)).map fun j => sortL (foldX l0 (pre.take (j - 1)))
theorem aftR_snoc {w : World} {xs : List LIns} (l0 : List Int) (pre : List (AInX w xs)) (x : AInX w xs) : aftR l0 (pre ++ [x]) = aftR l0 pre ++ [sortL (foldX l0 pre)] := by
  unfold aftR
  rw [List.length_append, List.length_singleton, List.range_succ (n := pre.length + 1), List.map_append]
  congr 1
  · apply List.map_congr_left
    intro j hj
    rw [List.mem_range] at hj
    rw [List.take_append_of_le_length (by omega)]
  · simp
theorem aftR_nil {w : World} {xs : List LIns} (l0 : List Int) : aftR l0 ([] : List (AInX w xs)) = [sortL l0] := by simp [aftR, foldX]

/-- behind instruction k of a block (at its length: ahead of the end) -/
def AfterS (b : LBlock) (L : Nat → Int → Prop) (k : Nat) : Int → Prop := (b.ins.drop (k + 1)).foldr aheadS (endS b.term L)

theorem aftR_mem {w : World} {blk : LBlock} {ys : List (AInX w blk.ins)} (hS : ys.map (fun p => (p.1.1, p.1.2.1)) = (blk.ins.zipIdx.map fun p => (p.2, p.1)).reverse) {l0 : List Int} {L : Nat → Int → Prop} (hn : l0.Nodup) (h : ∀ v, v ∈ l0 ↔ endS blk.term L v) :
    (aftR l0 ys).reverse.length = blk.ins.length + 1 ∧ ∀ k l, (aftR l0 ys).reverse[k]? = some l → l.Nodup ∧ ∀ v, v ∈ l ↔ AfterS blk L k v := by
  have h1 : ys.map (fun p => p.1.2.1) = blk.ins.reverse := by
    have := congrArg (List.map Prod.snd) hS
    rw [List.map_map, List.map_reverse, List.map_map] at this
    have e : (Prod.snd ∘ fun p : LIns × Nat => (p.2, p.1)) = Prod.fst := rfl
    rw [e, List.zipIdx_map_fst] at this
    exact this
  have hlen : ys.length = blk.ins.length := by have := congrArg List.length h1; simpa using this
  refine ⟨by simp [aftR, hlen], fun k l hk => ?_⟩
  have hkl : k < blk.ins.length + 1 := by
    have := (List.getElem?_eq_some_iff.1 hk).1
    simpa [aftR, hlen] using this
  rw [List.getElem?_reverse (by simpa [aftR, hlen] using hkl)] at hk
  simp only [aftR, List.length_map, List.length_range, List.getElem?_map] at hk
  rw [List.getElem?_range (by omega)] at hk
  simp only [Option.map_some, Option.some.injEq] at hk
  subst hk
  have hf : ∀ m, foldX l0 (ys.take m) = ((ys.map (fun p => p.1.2.1)).take m).foldl (fun s x => stepL x s) l0 := fun m => by
    unfold foldX; rw [← List.map_take, List.foldl_map]
  rw [hf, h1, List.take_reverse, hlen]
  refine ⟨?_, fun v => ?_⟩
  · exact (List.mergeSort_perm _ _).nodup_iff.2 (nodup_foldl hn)
  · rw [mem_sortL, mem_foldl hn h, List.reverse_reverse]
    unfold AfterS
    have : blk.ins.length - (blk.ins.length + 1 - 1 - k - 1) = k + 1 ∨ (k = blk.ins.length ∧ blk.ins.length - (blk.ins.length + 1 - 1 - k - 1) = k) := by omega
    rcases this with e | ⟨e1, e2⟩
    · rw [e]
    · rw [e2, e1, List.drop_length, List.drop_of_length_le (by omega)]

end Go.Proofs.Ytdlcpmjhngfgkaa

namespace Go.Proofs.Ytdlcpmjhngfgkaa
open Go.RowKit Go.Shelf
attribute [local go_sem] Oper.semAt_some

def AfterPost (b : LBlock) (L : Nat → Int → Prop) (w : World) (e : Ending) (w' : World) : Prop :=
  ∃ (v : Value) (Ls : List (List Int)), e = .returned v ∧ OwnLists w' w.heap.size v Ls ∧ Ls.length = b.ins.length + 1 ∧ (∀ (k : Nat) (l : List Int), Ls[k]? = some l → l.Nodup ∧ ∀ v, v ∈ l ↔ AfterS b L k v) ∧ Below w.heap.size w w'

set_option maxRecDepth 100000 in
set_option maxHeartbeats 4000000 in
theorem after_any (b : LBlock) (iv lv : Value) (bs : List Nat) (Ls0 : List (List Int)) (w : World) (gb : GBlk w b iv) (hl : Lives w lv bs Ls0) (hn : ∀ k ∈ b.term.next, 0 ≤ k ∧ k < bs.length)
    (U : List Int) (hU : U.length ≤ 1000000000000) (hUi : ∀ v ∈ U, InI v) (hu1 : ∀ x ∈ b.ins, ∀ v ∈ x.uses, v ∈ U) (hu2 : ∀ v, endS b.term (asS Ls0) v → v ∈ U) (hbl : b.ins.length ≤ 1000000000) :
    Calls Try.prog 49 #[b.agg iv, lv] w (AfterPost b (asS Ls0) w) := by
  obtain ⟨ai, ci, rfl, _⟩ := RSl.form gb.ins
  obtain ⟨al, cl, rfl, _⟩ := RSl.form hl.1
  have HGB := Lib.hid gb
  have HL := Lib.hid hl
  have HN := Lib.hid hn
  have HU2 := Lib.hid hu2
  clear gb hl hn hu2
  refine (callsIn_wide (n := 8)).1 ?_
  refine callsIn_of_wp_marks Try.func49 rfl trivial ?_ rfl
  simp only [Try.ntmps49, List.size_toArray, List.length_cons, List.length_nil, Nat.reduceAdd, Nat.reduceSub, Array.replicate_succ, Array.replicate_zero, List.push_toArray, List.append_toArray, List.nil_append, List.cons_append]
  gi_wp2_with (first
    | (refine ⟨trivial, ?_⟩; gi_at_call 65; refine (callsIn_wide.2 (end_any b _ _ bs Ls0 _ HGB.out.term (HL.out.below (below_a1 _ _)) HN.out)).mono ?_; rintro e w1 ⟨g, l0, rfl, hgl, hs1, hnd1, hm1, hb1⟩; have hl0u : ∀ v ∈ l0, v ∈ U := (fun v hv => HU2.out v ((hm1 v).1 hv)); have hl0n := Nat.le_trans (nodup_length_le hnd1 hl0u) hU; have hc0 := (hb1.cell (p := ⟨w.heap.size, 0, none⟩) (by simp)).trans (cell_of_block (heap_new w _) 0); have hlt1 := hb1.size; simp only [World.size_alloc] at hgl hlt1; simp only [List.getElem?_toArray, List.getElem?_cons_zero] at hc0; have hgl' := hs1.lt; have HS1 := Lib.hid hs1; have HN1 := Lib.hid hnd1; have HM1 := Lib.hid hm1; have HB1 := Lib.hid hb1; clear hs1 hnd1 hm1 hb1)
    | (refine ⟨trivial, ?_⟩; gi_at_call 47; refine (callsIn_wide.2 (rising_any g l0 _ (HS1.out.ext (below_a1 _ _)) HN1.out hl0n (fun v hv => hUi v (hl0u v hv)))).mono ?_; rintro e w2 ⟨v2, rfl, own2, hb2⟩; have hc0 := (hb2.cell (p := ⟨w.heap.size, 0, none⟩) (by simp; omega)).trans (((below_a1 w1 (.cells #[.map (some g)] 86)).cell (p := ⟨w.heap.size, 0, none⟩) (show w.heap.size < w1.heap.size by omega)).trans hc0); have hlt2 := hb2.size; simp only [World.size_alloc] at hlt2; have hz2 : w.heap.size < w2.heap.size := (by omega); obtain ⟨a2, c2, rfl⟩ := own2.slice; have HO2 := Lib.hid own2; have HB2 := Lib.hid hb2; clear own2 hb2)
    | (refine ⟨trivial, ?_⟩; gi_at_call 66; refine (callsIn_wide.2 (backI_any _ _ _ _)).mono ?_; rintro e w' ⟨rfl, rfl⟩)
    | gi_in)
  have hI : AInv w (.slice ai b.ins.length ci) w1.heap.size (w2.heap.size + 1) (w2.heap.size + 1 + 1) g (w2.heap.size + 1 + 1 + 1) (.slice (some ⟨w2.heap.size, 0, none⟩) 1 1) (.slice (some ⟨w2.heap.size, 0, none⟩) 1 1) [sortL l0] l0 (((w2.alloc (.cells #[.slice a2 (sortL l0).length c2] 32)).alloc (.cells #[.slice (some ⟨w2.heap.size, 0, none⟩) 1 1] 58)).alloc (.cells #[.slice ai b.ins.length ci] 42)) := by
    have b01 : Below w.heap.size w w1 := (below_a1 w _).trans (HB1.out.mono (by simp))
    have b02 : Below w.heap.size w w2 := (b01.alloc (by omega) _).trans (HB2.out.mono (by simp; omega))
    have g12 : w1.grownBy w2 none := grown_trans (alloc_grown w1 (.cells #[.map (some g)] 86) none) (below_grown HB2.out none)
    have g2 : w2.grownBy (((w2.alloc (.cells #[.slice a2 (sortL l0).length c2] 32)).alloc (.cells #[.slice (some ⟨w2.heap.size, 0, none⟩) 1 1] 58)).alloc (.cells #[.slice ai b.ins.length ci] 42)) none := grown_trans (grown_trans (alloc_grown _ _ none) (alloc_grown _ _ none)) (alloc_grown _ _ none)
    refine ⟨((b02.alloc (by omega) _).alloc (by simp; omega) _).alloc (by simp; omega) _, (HS1.out.below (g12.block _ (by omega) (by simp))).below (g2.block _ (by omega) (by simp)), HN1.out, ?_, ?_, ?_, ?_, by simp; omega⟩
    · exact ((Boxed.new w1 86 (.map (some g))).kept (below_grown HB2.out none) (by simp)).kept g2 (by simp)
    · refine Boxed.alloc ?_ _
      have := Boxed.new (w2.alloc (.cells #[.slice a2 (sortL l0).length c2] 32)) 58 (.slice (some ⟨w2.heap.size, 0, none⟩) 1 1)
      rwa [World.size_alloc] at this
    · have := Boxed.new ((w2.alloc (.cells #[.slice a2 (sortL l0).length c2] 32)).alloc (.cells #[.slice (some ⟨w2.heap.size, 0, none⟩) 1 1] 58)) 42 (.slice ai b.ins.length ci)
      rwa [World.size_alloc, World.size_alloc] at this
    · refine ⟨[.slice a2 (sortL l0).length c2], ⟨rfl, .inr ⟨w2.heap.size, 1, #[.slice a2 (sortL l0).length c2], rfl, by omega, heap_old _ _ (heap_old _ _ (heap_new _ _)), Nat.le_refl _, by decide, rfl, rfl⟩⟩, rfl, fun i x l h1 h2 => ?_⟩
      cases i with
      | zero =>
        simp at h1 h2
        subst h1 h2
        exact OwnInts.tag (HO2.out.mono (by simp; omega)) g2 (NoTag.none _ _)
      | succ i => simp at h1
  obtain ⟨W0, hW0⟩ : ∃ W0, ((w2.alloc (.cells #[.slice a2 (sortL l0).length c2] 32)).alloc (.cells #[.slice (some ⟨w2.heap.size, 0, none⟩) 1 1] 58)).alloc (.cells #[.slice ai b.ins.length ci] 42) = W0 := ⟨_, rfl⟩
  have hsz0 : W0.heap.size = w2.heap.size + 1 + 1 + 1 := by rw [← hW0]; simp
  rw [hW0] at hI ⊢
  clear hW0
  rw [← hsz0] at hI
  refine wpIn_rangeFunc_ownH rfl (by omega) (gf := 75) (lb := #[.pointer (some ⟨w2.heap.size + 1 + 1, 0, none⟩)]) rfl trivial (enters_of Try.func75 (by kernel_rfl) rfl)
    (backX_stops Fence.wide (8 - 1) trivial rfl (by omega) (w2.heap.size + 1 + 1) (.slice ai b.ins.length ci) b.ins w W0 hI.below HGB.out.ins hI.bi) KpB_t (KpB_b hI.below.size (by omega)) (Below.refl _ _) (fun _ => rfl)
    (fun pre W' => ∃ ov, AInv w (.slice ai b.ins.length ci) w1.heap.size (w2.heap.size + 1) (w2.heap.size + 1 + 1) g W0.heap.size ov ov (aftR l0 pre) (foldX l0 pre) W')
    (fun _ _ _ => False)
    (fun s X Y row hs hg hr => by obtain ⟨ov, hs⟩ := hs; exact ⟨ov, hs.grown hg hr⟩)
    (fun _ _ _ _ _ hs _ _ => hs)
    ⟨_, by rw [aftR_nil]; exact hI⟩
    (fun y a'' W' => ∃ Bx, W0.heap.size ≤ Bx ∧ W'.heap[Bx]? = some (.cells #[.int .i64 y.1.2.1.kind, .int .i64 y.1.2.1.d, .int .i64 y.1.2.1.a, .int .i64 y.1.2.1.b, .int .i64 y.1.2.1.op, .int .i64 y.1.2.1.n, .string y.1.2.1.name, y.1.2.2] 41 (0, 0)) ∧ a'' = { tmps := #[b.agg (.slice ai b.ins.length ci), .slice al bs.length cl, .pointer (some ⟨w.heap.size, 0, none⟩), undef, .slice none 0 0, .pointer (some ⟨w1.heap.size, 0, none⟩), .pointer (some ⟨w2.heap.size + 1, 0, none⟩), undef, .pointer (some ⟨Bx, 0, none⟩), b.agg (.slice ai b.ins.length ci), .slice al bs.length cl, .map (some g), .map (some g), .slice a2 (sortL l0).length c2, .slice (some ⟨w2.heap.size, 0, none⟩) 1 1, .pointer (some ⟨w.heap.size, 0, none⟩), .slice ai b.ins.length ci, .func (.func 75) #[] #[.pointer (some ⟨w2.heap.size + 1 + 1, 0, none⟩)], .int .i64 (y.1.1 : Int), y.1.2.1.agg y.1.2.2, undef, undef, undef, undef, undef, undef, undef, undef, undef, undef, undef], defers := [] })
    (fun x a' _ X Y row hs hg hr => by
      obtain ⟨Bb, h1, h2, h3⟩ := hs
      refine ⟨Bb, h1, grown_old hg h2 (fun e => ?_), h3⟩
      obtain ⟨_, o, ho, hc⟩ := hr Bb e.symm
      rw [h2] at ho; cases ho; cases hc)
    ?assign ?body ?done ?stop
  case assign =>
    rintro l2 pre ⟨⟨jx, ins, av⟩, gi, hgi⟩ W3 K ⟨ov, hq⟩ hK
    have hf : ∃ aa ca, av = .slice aa ins.args.length ca := by obtain ⟨ai, ci, h, _⟩ := RSl.form gi.args; exact ⟨ai, ci, h⟩
    obtain ⟨aa, ca, rfl⟩ := hf
    have HK := Lib.hid hK
    have HQ := Lib.hid hq
    clear hK hq
    dsimp only [encInX]
    gi_wp2
    have hq := HQ.out
    have hlo := hq.lo
    exact HK.out _ _ ((KeepsOthers.alloc _ _).from _) ⟨(Below.refl _ W3).alloc hq.below.size _, Below.heap_alloc _ _ _ hq.bi.lt⟩ ⟨ov, hq.ext (alloc_grown _ _ none)⟩ ⟨W3.heap.size, by omega, heap_new _ _, rfl⟩
  case body =>
    rintro l2 pre ⟨⟨jx, ins, av⟩, gi, hgi⟩ a'' W3 hl2 ⟨r2, hr2⟩ ⟨ov, hq⟩ ⟨Bx, hBx, hins, rfl⟩ hlen
    have hins' := hins
    dsimp only at hins hins'
    obtain ⟨hSn, hSu⟩ := foldX_in hu1 hl0u HN1.out pre
    have hSl := Nat.le_trans (nodup_length_le hSn hSu) hU
    have hSi : ∀ v ∈ foldX l0 pre, InI v := fun v hv => hUi v (hSu v hv)
    have hLl : (aftR l0 pre).length = pre.length + 1 := by simp [aftR]
    have HQ := Lib.hid hq
    have HI := Lib.hid hins
    have hBlt : Bx < W3.heap.size := (Array.getElem?_eq_some_iff.1 hins).1
    have hN3 := hq.lo
    clear hq hins
    obtain ⟨S, hS⟩ : ∃ S, S = foldX l0 pre := ⟨_, rfl⟩
    obtain ⟨Ls, hLs⟩ : ∃ Ls, Ls = aftR l0 pre := ⟨_, rfl⟩
    rw [← hS] at hSn hSl hSi HQ
    rw [← hLs] at hLl HQ
    dsimp only
    gi_wp2
    refine wpIn_region_rvL (by kernel_rfl) [4, 5] (by decide) (by kernel_rfl) (by kernel_rfl)
      (fun k vs W => KK w W0.heap.size (w2.heap.size + 1 + 1) W3 W ∧ W3.heap.size ≤ W.heap.size ∧ W.heap[Bx]? = W3.heap[Bx]? ∧ match k with
        | 0 => AInv w (.slice ai b.ins.length ci) w1.heap.size (w2.heap.size + 1) (w2.heap.size + 1 + 1) g W0.heap.size ov ov Ls S W
        | 1 => AInv w (.slice ai b.ins.length ci) w1.heap.size (w2.heap.size + 1) (w2.heap.size + 1 + 1) g W0.heap.size ov (vs 4) (Ls ++ [sortL S]) S W ∧ ∃ g' c', vs 4 = .slice (some ⟨g', 0, none⟩) (Ls.length + 1) c'
        | _ => AInv w (.slice ai b.ins.length ci) w1.heap.size (w2.heap.size + 1) (w2.heap.size + 1 + 1) g W0.heap.size (vs 4) (vs 4) (Ls ++ [sortL S]) S W)
      (fun W W' => ∀ (k : Nat) (o : Obj), W3.heap.size ≤ k → W.heap[k]? = some o → W'.heap[k]? = some o)
      (fun i v W => match i with
        | 0 => v = ov
        | 1 => v = .map (some g)
        | 2 => OwnInts W W3.heap.size v (sortL S)
        | 3 => ∃ r x, v = .slice (some ⟨r, 0, none⟩) 1 1 ∧ W3.heap.size ≤ r ∧ W.heap[r]? = some (.cells #[x] 32 (0, 0)) ∧ OwnInts W W3.heap.size x (sortL S)
        | _ => True) ?h0 ?hst ?hop ?hend
    case h0 =>
      have hg : W3.grownBy { W3 with drawn := W3.drawn + 1 } none := ⟨rfl, rfl, rfl, Nat.le_refl _, fun _ _ _ => rfl⟩
      exact ⟨(KK.refl _ _ _ _).grown hg HQ.out.below.size HQ.out.bi.lt (fun _ e => by cases e), Nat.le_refl _, rfl, HQ.out.ext hg⟩
    case hst =>
      have hoi : ∀ {W W' : World} {v : Value}, (∀ (k : Nat) (o : Obj), W3.heap.size ≤ k → W.heap[k]? = some o → W'.heap[k]? = some o) → OwnInts W W3.heap.size v (sortL S) → OwnInts W' W3.heap.size v (sortL S) := by
        rintro W W' v hst ⟨h1, h2⟩
        refine ⟨h1, h2.imp id ?_⟩
        rintro ⟨g', cap, cur, h1, h2, h3, h4⟩
        exact ⟨g', cap, cur, h1, h2, hst g' _ h2 h3, h4⟩
      intro j v W W' hst hΦ
      match j, hΦ with
      | 0, h => exact h
      | 1, h => exact h
      | 2, h => exact hoi hst h
      | 3, ⟨r, x, h1, h2, h3, h4⟩ => exact ⟨r, x, h1, h2, hst r _ h2 h3, hoi hst h4⟩
      | j + 4, h => trivial
    case hop =>
      refine ⟨?_, ?_, ?_, ?_, ?_, ?_, trivial⟩
      · rintro stg a W4 vs ho hstg hC hΦ hsz hr
        obtain rfl := rgStage_k hstg 0 (by kernel_rfl) (by kernel_rfl)
        have r6 : a.tmps.getD 6 undef = (.pointer (some ⟨w2.heap.size + 1, 0, none⟩)) := (hr 6 (by simp [Oper.looksAt, Op.operands])).trans (show slotOf _ _ vs _ 6 = (.pointer (some ⟨w2.heap.size + 1, 0, none⟩)) from by kernel_rfl)
        obtain ⟨hK, hle, hbx, hA⟩ := hC
        have hc := hA.b6.cell
        obtain ⟨vs0, hv0, _⟩ := hA.own
        have hov : ∃ a n c, ov = .slice a n c := by
          rcases hv0.2 with ⟨rfl, _⟩ | ⟨g, cap, _, rfl, _⟩
          · exact ⟨_, _, _, rfl⟩
          · exact ⟨_, _, _, rfl⟩
        obtain ⟨oa, on, oc, rfl⟩ := hov
        refine rg_val ho rfl (fun _ _ => trivial) (by intro c h; cases h) (v := .slice oa on oc) (W' := W4) ?_ ⟨_, rfl, ⟨hK, hle, hbx, hA⟩, fun _ _ _ h => h, rfl⟩
        go_simp
      · rintro stg a W4 vs ho hstg hC hΦ hsz hr
        obtain rfl := rgStage_k hstg 0 (by kernel_rfl) (by kernel_rfl)
        have r5 : a.tmps.getD 5 undef = (.pointer (some ⟨w1.heap.size, 0, none⟩)) := (hr 5 (by simp [Oper.looksAt, Op.operands])).trans (show slotOf _ _ vs _ 5 = (.pointer (some ⟨w1.heap.size, 0, none⟩)) from by kernel_rfl)
        have hc := hC.2.2.2.b5.cell
        refine rg_val ho rfl (fun _ _ => trivial) (by intro c h; cases h) (v := .map (some g)) (W' := W4) ?_ ⟨_, rfl, hC, fun _ _ _ h => h, rfl⟩
        go_simp
      · rintro stg a W4 vs ho hstg hC hΦ hsz hr
        obtain rfl := rgStage_k hstg 0 (by kernel_rfl) (by kernel_rfl)
        have r1 : a.tmps.getD 21 undef = _ := ((hr 21 (by simp [Oper.looksAt, Op.operands, Call.operands])).trans (show slotOf _ _ vs _ 21 = vs 1 from by kernel_rfl)).trans (hΦ 1 (by kernel_rfl))
        obtain ⟨hK, hle, hbx, hA⟩ := hC
        refine rg_call ho rfl (fun _ _ => trivial) (by intro c h; cases h) (f := 47) (args := #[.map (some g)]) (W' := W4) ?_ (fun _ => by omega) (CallsIn.inRound l2 (callsIn_wide.2 (rising_any g S W4 hA.set hSn hSl hSi))) ?_
        · go_simp
        · rintro e w5 ⟨v5, rfl, own5, hb5⟩
          have hg5 := below_grown hb5 none
          refine ⟨v5, rfl, v5, rfl, ⟨hK.grown hg5 hA.below.size hA.bi.lt (fun _ e => by cases e), Nat.le_trans hle hb5.size, (hb5.block Bx (by omega)).trans hbx, hA.ext hg5⟩, fun k o _ hk => ?_, own5.mono hle⟩
          rw [hb5.block k (Array.getElem?_eq_some_iff.1 hk).1]; exact hk
      · rintro stg a W4 vs ho hstg hC hΦ hsz hr
        obtain rfl := rgStage_k hstg 0 (by kernel_rfl) (by kernel_rfl)
        have r1 : a.tmps.getD 22 undef = vs 2 := (hr 22 (by simp [Oper.looksAt, Op.operands])).trans (show slotOf _ _ vs _ 22 = vs 2 from by kernel_rfl)
        have own5 : OwnInts W4 W3.heap.size (vs 2) (sortL S) := hΦ 2 (by kernel_rfl)
        obtain ⟨hK, hle, hbx, hA⟩ := hC
        obtain ⟨xa, xc, hx⟩ := own5.slice
        rw [hx] at r1 own5
        have hg5 := alloc_grown W4 (.cells #[.slice xa (sortL S).length xc] 32) none
        refine rg_val ho rfl (fun _ _ => trivial) (by intro c h; cases h) (v := .slice (some ⟨W4.heap.size, 0, none⟩) 1 1) (W' := W4.alloc (.cells #[.slice xa (sortL S).length xc] 32)) ?_ ⟨_, rfl, ⟨hK.grown hg5 hA.below.size hA.bi.lt (fun _ e => by cases e), by simp; omega, (hg5.block Bx (by omega) (by simp)).trans hbx, hA.ext hg5⟩, fun k o _ hk => heap_old _ _ hk, W4.heap.size, _, rfl, hle, heap_new _ _, own5.tag hg5 (NoTag.none _ _)⟩
        have h22 : 22 < a.tmps.size := by rw [hsz]; simp
        have r2 : a.tmps[22] = .slice xa (sortL S).length xc := by simpa [Array.getD, h22] using r1
        go_simp
      · rintro stg a W4 vs ho hstg hC hΦ hsz hr
        obtain rfl := rgStage_k hstg 0 (by kernel_rfl) (by kernel_rfl)
        have r1 : a.tmps.getD 20 undef = _ := ((hr 20 (by simp [Oper.looksAt, Op.operands, Call.operands])).trans (show slotOf _ _ vs _ 20 = vs 0 from by kernel_rfl)).trans (hΦ 0 (by kernel_rfl))
        have r2 : a.tmps.getD 23 undef = vs 3 := (hr 23 (by simp [Oper.looksAt, Op.operands, Call.operands])).trans (show slotOf _ _ vs _ 23 = vs 3 from by kernel_rfl)
        obtain ⟨rr, x, hv3, hrr, hrow, ownx⟩ := hΦ 3 (by kernel_rfl)
        rw [hv3] at r2
        obtain ⟨hK, hle, hbx, hA⟩ := hC
        obtain ⟨xs, hown, hxl, hel⟩ := hA.own
        obtain ⟨xs3, hown3, _⟩ := HQ.out.own
        have hb3 := ownsRow_base hown3
        have hx1 : x.oneCell' = true := by obtain ⟨_, _, rfl⟩ := ownx.slice; rfl
        obtain ⟨g', cap, w5, hrun, hown5, hg5, hat5, hlt5⟩ := run_appV slInts 58 hown (g := rr) (c := 1) (x := x) (by rw [cell_of_block hrow]; rfl) hx1 (by omega) (by unfold maxLen; omega) hA.below.size
        have hnt3 := ownsRow_notag hown (t := 3) (by decide)
        have hrc : ∀ r, ov.ownBlock = some r → w.heap.size ≤ r ∧ ∃ c fr, W4.heap[r]? = some (.cells c 32 fr) := fun r hr => by
          rcases hown.2 with ⟨rfl, _⟩ | ⟨g, cap, cur, rfl, h1, h2, _⟩
          · cases hr
          · simp only [Value.ownBlock, Option.some.injEq] at hr; subst hr; exact ⟨h1, _, _, h2⟩
        have hL5 : OwnLists w5 w.heap.size (.slice (some ⟨g', 0, none⟩) (xs.length + 1) cap) (Ls ++ [sortL S]) := by
          refine ⟨xs ++ [x], by rw [List.length_append]; exact hown5, by simp [hxl], fun i y l h1 h2 => ?_⟩
          by_cases hi : i < xs.length
          · rw [List.getElem?_append_left hi] at h1
            rw [List.getElem?_append_left (by omega)] at h2
            exact (hel i y l h1 h2).tag hg5 hnt3
          · rw [List.getElem?_append_right (by omega)] at h1
            rw [List.getElem?_append_right (by omega)] at h2
            have h0 : i - xs.length = 0 := by
              have := (List.getElem?_eq_some_iff.1 h1).1; simp at this; omega
            rw [h0] at h1
            rw [← hxl, h0] at h2
            simp at h1 h2; subst h1 h2
            exact (ownx.mono (by omega)).tag hg5 hnt3
        have hne : ∀ k, W3.heap.size ≤ k → some k ≠ ov.ownBlock := fun k hk e => by have := (hb3 k e.symm).2; omega
        refine rg_val ho rfl (fun _ _ => trivial) (by intro c h; cases h) (v := .slice (some ⟨g', 0, none⟩) (xs.length + 1) cap) (W' := w5) ?_ ⟨_, rfl, ⟨hK.grown hg5 hA.below.size hA.bi.lt (fun r hr => ⟨(hrc r hr).1, ?_, .inr ?_⟩), Nat.le_trans hle hg5.size, (hg5.block Bx (by omega) (fun e => ?_)).trans hbx, hA.appended hg5 hrc hL5, g', cap, by rw [hxl]; rfl⟩, fun k o hk h => grown_old hg5 h (hne k hk), trivial⟩
        · exact run_opApp (.tmp 20) (.tmp 23) rfl r1 r2 hrun
        · rintro rfl
          obtain ⟨_, c, fr, h⟩ := hrc _ hr
          rw [show W4.heap[w2.heap.size + 1 + 1]? = _ from hA.bi] at h; cases h
        · obtain ⟨_, c, fr, h⟩ := hrc r hr
          exact ⟨_, h, rfl⟩
        · obtain ⟨_, c, fr, h⟩ := hrc _ e.symm
          rw [hbx, HI.out] at h; cases h
      · rintro stg a W4 vs ho hstg hC hΦ hsz hr
        obtain rfl := rgStage_k hstg 1 (by kernel_rfl) (by kernel_rfl)
        have r6 : a.tmps.getD 6 undef = (.pointer (some ⟨w2.heap.size + 1, 0, none⟩)) := (hr 6 (by simp [Oper.looksAt, Op.operands])).trans (show slotOf _ _ vs _ 6 = (.pointer (some ⟨w2.heap.size + 1, 0, none⟩)) from by kernel_rfl)
        have r1 : a.tmps.getD 24 undef = vs 4 := (hr 24 (by simp [Oper.looksAt, Op.operands])).trans (show slotOf _ _ vs _ 24 = vs 4 from by kernel_rfl)
        obtain ⟨hK, hle, hbx, hA, g', c', hv4⟩ := hC
        have hc := hA.b6.cell
        have hf := hA.b6.frozen
        have hov : ∃ a n c, ov = .slice a n c := by
          obtain ⟨xs3, hv0, _⟩ := HQ.out.own
          rcases hv0.2 with ⟨rfl, _⟩ | ⟨g, cap, _, rfl, _⟩
          · exact ⟨_, _, _, rfl⟩
          · exact ⟨_, _, _, rfl⟩
        obtain ⟨oa, on, oc, rfl⟩ := hov
        have hst := hA.stored
        have hg5 := setCell_grown W4 (w2.heap.size + 1) 0 (vs 4)
        refine rg_skip ho rfl (fun _ _ => trivial) (by intro c h; cases h) (W' := W4.setCell ⟨w2.heap.size + 1, 0, none⟩ (vs 4)) ?_ ⟨_, rfl, ⟨hK.grown hg5 hA.below.size hA.bi.lt (fun r hr => by cases hr; exact ⟨by omega, by omega, .inl (by omega)⟩), Nat.le_trans hle hg5.size, (hg5.block Bx (by omega) (by simp; omega)).trans hbx, hst⟩, fun k o hk h => grown_old hg5 h (by simp; omega), trivial⟩
        rw [hv4] at r1 ⊢
        go_simp
    case hend =>
      rintro vs W ⟨hK, hle, hbx, hA⟩ hΦ
      dsimp only [List.length_cons, List.length_nil] at hA
      generalize hs : slotOf _ _ vs (fun _ => true) = s
      simp only [List.size_toArray, List.length_cons, List.length_nil, Nat.reduceAdd, List.range, List.range.loop, List.map_cons, List.map_nil]
      have s5 : s 5 = .pointer (some ⟨w1.heap.size, 0, none⟩) := by rw [← hs]; kernel_rfl
      have s8 : s 8 = .pointer (some ⟨Bx, 0, none⟩) := by rw [← hs]; kernel_rfl
      rw [s5, s8]
      clear hs s5 s8
      have hins := hbx.trans HI.out
      have c8 := hA.b5.cell
      have d0 := cell_of_block hins 0
      have d1 := cell_of_block hins 1
      have d2 := cell_of_block hins 2
      have d3 := cell_of_block hins 3
      have d4 := cell_of_block hins 4
      have d5 := cell_of_block hins 5
      have d6 := cell_of_block hins 6
      have d7 := cell_of_block hins 7
      simp only [List.getElem?_toArray, List.getElem?_cons_succ, List.getElem?_cons_zero] at d0 d1 d2 d3 d4 d5 d6 d7
      have GI : Hid (GIns W ins av) := GIns.below hA.below gi
      have HA := Lib.hid hA
      have HK := Lib.hid hK
      obtain ⟨v4, hv4⟩ : ∃ v4, v4 = vs 4 := ⟨_, rfl⟩
      rw [← hv4] at HA
      clear hA hK hΦ hins hv4
      gi_wp2_with (first
        | (refine ⟨trivial, ?_⟩; gi_at_call 67; refine (CallsIn.inRound l2 (callsIn_wide.2 (step_any g _ ins av _ HA.out.set GI.out))).mono ?_; rintro e w4 ⟨rfl, hs4, hg4⟩; have HS4 := Lib.hid hs4; have HG4 := Lib.hid hg4; clear hs4 hg4)
        | gi_in)
      have hA := HA.out
      have hk := HK.out.grown HG4.out hA.below.size hA.bi.lt (fun r e => by cases e; exact ⟨by omega, by omega, .inl (by omega)⟩)
      refine ⟨hk.1, hk.2, v4, ?_⟩
      rw [aftR_snoc, foldX_snoc, ← hLs, ← hS]
      exact hA.stepped HG4.out HS4.out (nodup_stepL hSn)
  case done =>
    rintro D xs W hD hxs ⟨ov, hA⟩ hdef
    obtain ⟨hal, hav⟩ := aftR_mem (L := asS Ls0) hxs HN1.out (fun v => HM1.out v)
    rw [List.length_reverse] at hal
    have hbl' : (aftR l0 xs).length ≤ 1000000000000 := by omega
    obtain ⟨Lx, hLx⟩ : ∃ Lx, Lx = aftR l0 xs := ⟨_, rfl⟩
    rw [← hLx] at hal hav hA hbl'
    clear hLx
    obtain ⟨gr, cap, cs, rfl, hgb, hrow, hcs, hsl, hrev⟩ := hA.own.rev (by omega)
    have HAL := Lib.hid hal
    clear hal
    have HA := Lib.hid hA
    have HX := Lib.hid hxs
    have HD := Lib.hid hdef
    have HV := Lib.hid hrev
    have c6 := hA.b6.cell
    clear hA hxs hdef hrev
    dsimp only
    gi_wp2_with (first
      | (refine ⟨trivial, ?_⟩; gi_at_call 71; refine (callsIn_wide.2 (reverse_any W gr Lx.length cap cs hrow hcs hbl' hsl)).mono ?_; rintro e w4 ⟨⟨v4, rfl⟩, hg4, hr4⟩; have c6' := (boxed_tag HA.out.b6 hg4 (NoTag.box 58 hrow (by decide))).cell; have HG4 := Lib.hid hg4; have HR4 := Lib.hid hr4; clear hg4 hr4)
      | gi_in)
    have hL := HV.out w4 HG4.out HR4.out
    have hd4 : w4.heap[D]? = some (.deferred (some [])) := grown_old HG4.out HD.out (fun e => by
      simp only [Option.some.injEq] at e
      have := HD.out
      rw [e, show W.heap[gr]? = _ from hrow] at this; cases this)
    have hb4 := HA.out.below.grown HG4.out HA.out.below.size (fun k hk => by cases hk; exact hgb)
    have hlo := HA.out.lo
    show LeavesInM _ _ _ _ _ _ (marks [D]) _ _
    refine leaves_marks [D] w4 (by simpa using hd4) (by simp) (fun w' hw hs ho ht hu => ?_)
    have hgD : w4.grownBy w' (some D) := ⟨ho, ht, hu, by rw [hs]; exact Nat.le_refl _, fun k _ hk => hw k (by simp; rintro rfl; exact hk rfl)⟩
    refine ⟨_, results_tmp rfl _ _ _, .slice (some ⟨gr, 0, none⟩) Lx.length cap, Lx.reverse, rfl, hL.tag hgD (NoTag.other _ hd4 rfl) (NoTag.other _ hd4 rfl), by rw [List.length_reverse]; exact HAL.out, hav, ?_⟩
    exact hb4.grown hgD hb4.size (fun k hk => by cases hk; omega)
  case stop =>
    rintro D c pre W1 _ _ h _
    exact h.elim

end Go.Proofs.Ytdlcpmjhngfgkaa
