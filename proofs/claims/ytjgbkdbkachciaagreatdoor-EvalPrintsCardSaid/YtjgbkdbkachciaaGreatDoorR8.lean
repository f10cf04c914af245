import Derived.Test.YtjgbkdbkachciaaGreatDoorR7
namespace Go.Proofs.YtjgbkdbkachciaaGreatDoor
open Go.RowKit Go.Shelf
attribute [local go_sem] Oper.semAt_some

/-- tokens in a row -/
def Toks (W : World) (tb o : Nat) (ts : List Tok) : Prop := ∀ (i : Nat) (t : Tok), ts[i]? = some t → ∀ j, j < 4 → W.cell? ⟨tb, o + i * 4 + j, none⟩ = (tEnc t)[j]?
/-- the parser, with so much left -/
def PS (W : World) (pb tb : Nat) (ts : List Tok) : Prop := ∃ o c, ts.length ≤ c ∧ W.heap[pb]? = some (.cells #[.slice (some ⟨tb, o, none⟩) ts.length c] 117 (0, 0)) ∧ tb ≠ pb ∧ Toks W tb o ts
theorem Toks.ext {W W' : World} {tb o : Nat} {ts : List Tok} {row : Option Nat} (h : Toks W tb o ts) (hg : W.grownBy W' row) (hr : some tb ≠ row) : Toks W' tb o ts := fun i t ht j hj => by
  have h1 := h i t ht j hj
  have : j < (tEnc t).length := hj
  rw [List.getElem?_eq_getElem this] at h1 ⊢
  exact gcell h1 hg hr
theorem PS.ext {W W' : World} {pb tb : Nat} {ts : List Tok} (h : PS W pb tb ts) (hb : Below W.heap.size W W') : PS W' pb tb ts := by
  obtain ⟨o, c, h1, h2, h3, h4⟩ := h
  exact ⟨o, c, h1, (hb.block pb (Array.getElem?_eq_some_iff.1 h2).1).trans h2, h3, h4.ext (below_grown hb none) (by simp)⟩
theorem PS.lt {W : World} {pb tb : Nat} {ts : List Tok} (h : PS W pb tb ts) : pb < W.heap.size := by
  obtain ⟨o, c, h1, h2, h3, h4⟩ := h
  exact (Array.getElem?_eq_some_iff.1 h2).1
theorem PS.tlt {W : World} {pb tb : Nat} {t : Tok} {ts : List Tok} (h : PS W pb tb (t :: ts)) : tb < W.heap.size := by
  obtain ⟨o, c, h1, h2, h3, h4⟩ := h
  have := h4 0 t rfl 0 (by omega)
  exact World.block_lt_of_cell? W ⟨tb, o + 0 * 4 + 0, none⟩ this
/-- what a step of the parser changes -/
def PG (w : World) (pb tb : Nat) (ts : List Tok) (w' : World) : Prop := w.grownBy w' (some pb) ∧ PS w' pb tb ts
theorem PG.trans {a b c : World} {pb tb : Nat} {ts us : List Tok} (h : PG a pb tb ts b) (k : PG b pb tb us c) : PG a pb tb us c := ⟨grown_trans h.1 k.1, k.2⟩
theorem PG.below {a b c : World} {pb tb : Nat} {ts : List Tok} (h : PG a pb tb ts b) (hb : Below b.heap.size b c) : PG a pb tb ts c := ⟨grown_trans h.1 (below_grown hb _), h.2.ext hb⟩
theorem PG.start {a b : World} {pb tb : Nat} {ts : List Tok} (h : PS a pb tb ts) (hb : Below a.heap.size a b) : PG a pb tb ts b := ⟨below_grown hb _, h.ext hb⟩

theorem results_cellA {P : Program} {fn : Func} {p : Tmp} {ty : TypeId} (h : fn.results = #[.cell p ty]) (tmps : Array Value) (w : World) (g : Nat) (t : TypeId) (cs : Array Value) (fr : Nat × Nat) (d : TypeDesc)
    (hp : tmps.getD p undef = .pointer (some ⟨g, 0, none⟩)) (hg : w.heap[g]? = some (.cells cs t fr))
    (hu : P.underlying ty = some d) (hd : (match d with | .struct _ | .array _ _ => true | _ => false) = true) (hi : (P.info? ty).map (·.size) = some cs.size) :
    (results fn tmps).run P w = .ok (.agg cs) w := results_cell_row h tmps w g t cs fr d hp hg hu hd hi

set_option maxRecDepth 100000 in
set_option maxHeartbeats 2000000 in
theorem next_yes (pb tb : Nat) (t : Tok) (r : List Tok) (w : World) (h : PS w pb tb (t :: r)) :
    Calls Tryz.prog 70 #[.pointer (some ⟨pb, 0, none⟩)] w fun e w' => e = .returned (TokV t) ∧ Below w.heap.size w w' := by
  obtain ⟨o, c, h1, h2, h3, h4⟩ := h
  have hpl : pb < w.heap.size := (Array.getElem?_eq_some_iff.1 h2).1
  have t0 := h4 0 t rfl 0 (by omega)
  have t1 := h4 0 t rfl 1 (by omega)
  have t2 := h4 0 t rfl 2 (by omega)
  have t3 := h4 0 t rfl 3 (by omega)
  have hl : ∀ x v, w.cell? ⟨tb, x, none⟩ = some v → (w.alloc (.cells #[I 0, S [], I 0, I 0] 119)).cell? ⟨tb, x, none⟩ = some v := fun x v hv => ((below_a1 w _).cell (p := ⟨tb, x, none⟩) (World.block_lt_of_cell? _ _ hv)).trans hv
  simp only [tEnc, List.getElem?_cons_succ, List.getElem?_cons_zero, Nat.zero_mul, Nat.add_zero] at t0 t1 t2 t3
  replace t0 := hl _ _ t0
  replace t1 := hl _ _ t1
  replace t2 := hl _ _ t2
  replace t3 := hl _ _ t3
  have c0 : (w.alloc (.cells #[I 0, S [], I 0, I 0] 119)).cell? ⟨pb, 0, none⟩ = some (.slice (some ⟨tb, o, none⟩) (r.length + 1) c) := by
    rw [cell_of_block (heap_old _ _ h2)]; rfl
  have hrl : (0 : Int) < (r.length : Int) + 1 := by omega
  clear hl h2 h4
  go_enter Tryz.func70, Tryz.ntmps70
  go_wp2
  refine bodyPost_ret (results_cell_row rfl _ _ w.heap.size 119 _ (0, 0) _ rfl (heap_new _ _) Tryz.underlying119 rfl (by kernel_rfl)) rfl ?_
  exact ⟨rfl, below_a1 _ _⟩

set_option maxRecDepth 100000 in
set_option maxHeartbeats 2000000 in
theorem is_yes (pb tb : Nat) (t : Tok) (r : List Tok) (x : Str) (w : World) (h : PS w pb tb (t :: r)) :
    Calls Tryz.prog 112 #[.pointer (some ⟨pb, 0, none⟩), S x] w fun e w' => e = .returned (.bool (tokIs t x)) ∧ Below w.heap.size w w' := by
  have HN := Lib.hid (next_yes pb tb t r w h)
  clear h
  obtain ⟨tk, tt, tn, tl⟩ := t
  rcases (by omega : tk = 2 ∨ tk = 4 ∨ (tk ≠ 2 ∧ tk ≠ 4)) with rfl | rfl | ⟨h2, h4⟩
  case' inr.inr =>
    have h2' : (tk == 2) = false := beq_eq_false_iff_ne.2 h2
    have h4' : (tk == 4) = false := beq_eq_false_iff_ne.2 h4
    have H24 := Lib.hid (And.intro h2 h4)
    clear h2 h4
  all_goals
    go_enter Tryz.func112, Tryz.ntmps112
    go_wp2_with (first
      | (go_at_call 70; refine HN.out.mono ?_; rintro e w1 ⟨rfl, hb1⟩; have HB1 := Lib.hid hb1; have hz1 := hb1.size; clear hb1))
    go_ret
    refine ⟨congrArg (fun b => Ending.returned (Value.bool b)) ?_, HB1.out.trans ((below_a1 _ _).mono hz1)⟩
    unfold tokIs
    have hb : (tt == x) = decide (tt = x) := by rw [Bool.eq_iff_iff]; simp
    first | (simp [hb]; done) | (simp [H24.out.1, H24.out.2]; done)

set_option maxRecDepth 100000 in
set_option maxHeartbeats 2000000 in
theorem take_no (pb tb : Nat) (t : Tok) (r : List Tok) (x : Str) (w : World) (h : PS w pb tb (t :: r)) (hx : tokIs t x = false) :
    Calls Tryz.prog 74 #[.pointer (some ⟨pb, 0, none⟩), S x] w fun e w' => e = .returned (.bool false) ∧ Below w.heap.size w w' := by
  have HI := Lib.hid (is_yes pb tb t r x w h)
  have HX := Lib.hid hx
  clear h hx
  go_enter Tryz.func74, Tryz.ntmps74
  go_wp2_with (first
    | (go_at_call 112; refine HI.out.mono ?_; rintro e w1 ⟨rfl, hb1⟩; rw [HX.out]; have HB1 := Lib.hid hb1; clear hb1))
  go_ret
  exact ⟨rfl, HB1.out⟩

theorem Toks.tail {W : World} {tb o : Nat} {t : Tok} {r : List Tok} (h : Toks W tb o (t :: r)) : Toks W tb (o + 4) r := fun i x hx j hj => by
  have := h (i + 1) x (by simpa using hx) j hj
  rw [← this]
  congr 2
  omega
/-- p.left = p.left[1:] -/
theorem PG.drop {w w1 : World} {pb tb : Nat} {t : Tok} {r : List Tok} {o c : Nat} (hb : Below w.heap.size w w1) (_hpl : pb < w.heap.size) (h1 : (t :: r).length ≤ c) (h2 : w1.heap[pb]? = some (.cells #[.slice (some ⟨tb, o, none⟩) (t :: r).length c] 117 (0, 0))) (h3 : tb ≠ pb) (h4 : Toks w1 tb o (t :: r)) :
    PG w pb tb r (w1.setCell ⟨pb, 0, none⟩ (.slice (some ⟨tb, o + 4, none⟩) r.length (c - 1))) := by
  have hg := setCell_grown w1 pb 0 (.slice (some ⟨tb, o + 4, none⟩) r.length (c - 1))
  refine ⟨grown_trans (below_grown hb _) hg, o + 4, c - 1, by simp at h1; omega, ?_, h3, h4.tail.ext hg (by simp; exact h3)⟩
  have hr : Row w1 pb 117 [.slice (some ⟨tb, o, none⟩) (t :: r).length c] := h2
  have := hr.set 0 (.slice (some ⟨tb, o + 4, none⟩) r.length (c - 1))
  exact this

set_option maxRecDepth 100000 in
set_option maxHeartbeats 2000000 in
theorem take_yes (pb tb : Nat) (t : Tok) (r : List Tok) (x : Str) (w : World) (h : PS w pb tb (t :: r)) (hx : tokIs t x = true) (hr : r ≠ []) :
    Calls Tryz.prog 74 #[.pointer (some ⟨pb, 0, none⟩), S x] w fun e w' => e = .returned (.bool true) ∧ PG w pb tb r w' := by
  have hpl := h.lt
  have hrp : 0 < r.length := List.length_pos_iff.2 hr
  clear hr
  have HI := Lib.hid (is_yes pb tb t r x w h)
  have HP := Lib.hid h
  have HX := Lib.hid hx
  clear h hx
  go_enter Tryz.func74, Tryz.ntmps74
  go_upto_region 3 with (first
    | (go_at_call 112; refine HI.out.mono ?_; rintro e w1 ⟨rfl, hb1⟩; rw [HX.out]; have HB1 := Lib.hid hb1; have HP1 := Lib.hid (HP.out.ext hb1); clear hb1))
  obtain ⟨o, c, h1, h2, h3, h4⟩ := HP1.out
  have c0 := cell_of_block h2 0
  have f0 : w1.frozen? ⟨pb, 0, none⟩ = false := Row.frozen (cs := [.slice (some ⟨tb, o, none⟩) (t :: r).length c]) h2 0
  simp only [List.getElem?_toArray, List.getElem?_cons_zero, List.length_cons] at c0
  have hc1 : r.length + 1 ≤ c := h1
  have hcz : ((r.length : Int) + 1) ≤ (c : Int) := by omega
  have hc2 : ¬ c = 1 := by omega
  have H2 := Lib.hid h2
  have H4 := Lib.hid h4
  have H3 := Lib.hid h3
  clear h2 h4 h3 h1
  go_wp2
  go_ret
  refine ⟨rfl, ?_⟩
  exact PG.drop HB1.out hpl (by simpa using hc1) H2.out H3.out H4.out
end Go.Proofs.YtjgbkdbkachciaaGreatDoor
