import Derived.Test.YtjgbkdbkachciaaGreatDoorR7
namespace Go.Proofs.YtjgbkdbkachciaaGreatDoor
open Go.RowKit Go.Shelf
attribute [local go_sem] Oper.semAt_some

/-- tokens in a row -/
def Toks (W : World) (tb o : Nat) (ts : List Tok) : Prop := ∀ (i : Nat) (t : Tok), ts[i]? = some t → ∀ j, j < 4 → W.cell? ⟨tb, o + i * 4 + j, none⟩ = (tEnc t)[j]?
/-- the parser, with so much left -/
def PS (W : World) (pb tb : Nat) (ts : List Tok) : Prop := ∃ o c, ts.length ≤ c ∧ W.heap[pb]? = some (.cells #[.slice (some ⟨tb, o, none⟩) ts.length c] 117 (0, 0)) ∧ tb ≠ pb ∧ Toks W tb o ts
theorem Toks.ext {W W' : World} {tb o : Nat} {ts : List Tok} {row : Option Nat} (h : Toks W tb o ts) (hg : W.grownBy W' row) (hr : some tb ≠ row) : Toks W' tb o ts := fun i t ht j hj => by
  have h1 := h i t ht j hj
  have : j < (tEnc t).length := hj
  rw [List.getElem?_eq_getElem this] at h1 ⊢
  exact gcell h1 hg hr
theorem PS.ext {W W' : World} {pb tb : Nat} {ts : List Tok} (h : PS W pb tb ts) (hb : Below W.heap.size W W') : PS W' pb tb ts := by
  obtain ⟨o, c, h1, h2, h3, h4⟩ := h
  exact ⟨o, c, h1, (hb.block pb (Array.getElem?_eq_some_iff.1 h2).1).trans h2, h3, h4.ext (below_grown hb none) (by simp)⟩
theorem PS.lt {W : World} {pb tb : Nat} {ts : List Tok} (h : PS W pb tb ts) : pb < W.heap.size := by
  obtain ⟨o, c, h1, h2, h3, h4⟩ := h
  exact (Array.getElem?_eq_some_iff.1 h2).1
theorem PS.tlt {W : World} {pb tb : Nat} {t : Tok} {ts : List Tok} (h : PS W pb tb (t :: ts)) : tb < W.heap.size := by
  obtain ⟨o, c, h1, h2, h3, h4⟩ := h
  have := h4 0 t rfl 0 (by omega)
  exact World.block_lt_of_cell? W ⟨tb, o + 0 * 4 + 0, none⟩ this
/-- what a step of the parser changes -/
def PG (w : World) (pb tb : Nat) (ts : List Tok) (w' : World) : Prop := w.grownBy w' (some pb) ∧ PS w' pb tb ts
theorem PG.trans {a b c : World} {pb tb : Nat} {ts us : List Tok} (h : PG a pb tb ts b) (k : PG b pb tb us c) : PG a pb tb us c := ⟨grown_trans h.1 k.1, k.2⟩
theorem PG.below {a b c : World} {pb tb : Nat} {ts : List Tok} (h : PG a pb tb ts b) (hb : Below b.heap.size b c) : PG a pb tb ts c := ⟨grown_trans h.1 (below_grown hb _), h.2.ext hb⟩
theorem PG.start {a b : World} {pb tb : Nat} {ts : List Tok} (h : PS a pb tb ts) (hb : Below a.heap.size a b) : PG a pb tb ts b := ⟨below_grown hb _, h.ext hb⟩

theorem results_cellA {P : Program} {fn : Func} {p : Tmp} {ty : TypeId} (h : fn.results = #[.cell p ty]) (tmps : Array Value) (w : World) (g : Nat) (t : TypeId) (cs : Array Value) (fr : Nat × Nat) (d : TypeDesc)
    (hp : tmps.getD p undef = .pointer (some ⟨g, 0, none⟩)) (hg : w.heap[g]? = some (.cells cs t fr))
    (hu : P.underlying ty = some d) (hd : (match d with | .struct _ | .array _ _ => true | _ => false) = true) (hi : (P.info? ty).map (·.size) = some cs.size) :
    (results fn tmps).run P w = .ok (.agg cs) w := results_cell_row h tmps w g t cs fr d hp hg hu hd hi

set_option maxRecDepth 100000 in
set_option maxHeartbeats 2000000 in
theorem next_yes (pb tb : Nat) (t : Tok) (r : List Tok) (w : World) (h : PS w pb tb (t :: r)) :
    Calls Tryz.prog 70 #[.pointer (some ⟨pb, 0, none⟩)] w fun e w' => e = .returned (TokV t) ∧ Below w.heap.size w w' := by
  obtain ⟨o, c, h1, h2, h3, h4⟩ := h
  have hpl : pb < w.heap.size := (Array.getElem?_eq_some_iff.1 h2).1
  have t0 := h4 0 t rfl 0 (by omega)
  have t1 := h4 0 t rfl 1 (by omega)
  have t2 := h4 0 t rfl 2 (by omega)
  have t3 := h4 0 t rfl 3 (by omega)
  have hl : ∀ x v, w.cell? ⟨tb, x, none⟩ = some v → (w.alloc (.cells #[I 0, S [], I 0, I 0] 119)).cell? ⟨tb, x, none⟩ = some v := fun x v hv => ((below_a1 w _).cell (p := ⟨tb, x, none⟩) (World.block_lt_of_cell? _ _ hv)).trans hv
  simp only [tEnc, List.getElem?_cons_succ, List.getElem?_cons_zero, Nat.zero_mul, Nat.add_zero] at t0 t1 t2 t3
  replace t0 := hl _ _ t0
  replace t1 := hl _ _ t1
  replace t2 := hl _ _ t2
  replace t3 := hl _ _ t3
  have c0 : (w.alloc (.cells #[I 0, S [], I 0, I 0] 119)).cell? ⟨pb, 0, none⟩ = some (.slice (some ⟨tb, o, none⟩) (r.length + 1) c) := by
    rw [cell_of_block (heap_old _ _ h2)]; rfl
  have hrl : (0 : Int) < (r.length : Int) + 1 := by omega
  clear hl h2 h4
  go_enter Tryz.func70, Tryz.ntmps70
  go_wp2
  refine bodyPost_ret (results_cell_row rfl _ _ w.heap.size 119 _ (0, 0) _ rfl (heap_new _ _) Tryz.underlying119 rfl (by kernel_rfl)) rfl ?_
  exact ⟨rfl, below_a1 _ _⟩

set_option maxRecDepth 100000 in
set_option maxHeartbeats 2000000 in
theorem is_yes (pb tb : Nat) (t : Tok) (r : List Tok) (x : Str) (w : World) (h : PS w pb tb (t :: r)) :
    Calls Tryz.prog 112 #[.pointer (some ⟨pb, 0, none⟩), S x] w fun e w' => e = .returned (.bool (tokIs t x)) ∧ Below w.heap.size w w' := by
  have HN := Lib.hid (next_yes pb tb t r w h)
  clear h
  obtain ⟨tk, tt, tn, tl⟩ := t
  rcases (by omega : tk = 2 ∨ tk = 4 ∨ (tk ≠ 2 ∧ tk ≠ 4)) with rfl | rfl | ⟨h2, h4⟩
  case' inr.inr =>
    have h2' : (tk == 2) = false := beq_eq_false_iff_ne.2 h2
    have h4' : (tk == 4) = false := beq_eq_false_iff_ne.2 h4
    have H24 := Lib.hid (And.intro h2 h4)
    clear h2 h4
  all_goals
    go_enter Tryz.func112, Tryz.ntmps112
    go_wp2_with (first
      | (go_at_call 70; refine HN.out.mono ?_; rintro e w1 ⟨rfl, hb1⟩; have HB1 := Lib.hid hb1; have hz1 := hb1.size; clear hb1))
    go_ret
    refine ⟨congrArg (fun b => Ending.returned (Value.bool b)) ?_, HB1.out.trans ((below_a1 _ _).mono hz1)⟩
    unfold tokIs
    have hb : (tt == x) = decide (tt = x) := by rw [Bool.eq_iff_iff]; simp
    first | (simp [hb]; done) | (simp [H24.out.1, H24.out.2]; done)

set_option maxRecDepth 100000 in
set_option maxHeartbeats 2000000 in
theorem take_no (pb tb : Nat) (t : Tok) (r : List Tok) (x : Str) (w : World) (h : PS w pb tb (t :: r)) (hx : tokIs t x = false) :
    Calls Tryz.prog 74 #[.pointer (some ⟨pb, 0, none⟩), S x] w fun e w' => e = .returned (.bool false) ∧ Below w.heap.size w w' := by
  have HI := Lib.hid (is_yes pb tb t r x w h)
  have HX := Lib.hid hx
  clear h hx
  go_enter Tryz.func74, Tryz.ntmps74
  go_wp2_with (first
    | (go_at_call 112; refine HI.out.mono ?_; rintro e w1 ⟨rfl, hb1⟩; rw [HX.out]; have HB1 := Lib.hid hb1; clear hb1))
  go_ret
  exact ⟨rfl, HB1.out⟩

theorem Toks.tail {W : World} {tb o : Nat} {t : Tok} {r : List Tok} (h : Toks W tb o (t :: r)) : Toks W tb (o + 4) r := fun i x hx j hj => by
  have := h (i + 1) x (by simpa using hx) j hj
  rw [← this]
  congr 2
  omega
/-- p.left = p.left[1:] -/
theorem PG.drop {w w1 : World} {pb tb : Nat} {t : Tok} {r : List Tok} {o c : Nat} (hb : Below w.heap.size w w1) (_hpl : pb < w.heap.size) (h1 : (t :: r).length ≤ c) (h2 : w1.heap[pb]? = some (.cells #[.slice (some ⟨tb, o, none⟩) (t :: r).length c] 117 (0, 0))) (h3 : tb ≠ pb) (h4 : Toks w1 tb o (t :: r)) :
    PG w pb tb r (w1.setCell ⟨pb, 0, none⟩ (.slice (some ⟨tb, o + 4, none⟩) r.length (c - 1))) := by
  have hg := setCell_grown w1 pb 0 (.slice (some ⟨tb, o + 4, none⟩) r.length (c - 1))
  refine ⟨grown_trans (below_grown hb _) hg, o + 4, c - 1, by simp at h1; omega, ?_, h3, h4.tail.ext hg (by simp; exact h3)⟩
  have hr : Row w1 pb 117 [.slice (some ⟨tb, o, none⟩) (t :: r).length c] := h2
  have := hr.set 0 (.slice (some ⟨tb, o + 4, none⟩) r.length (c - 1))
  exact this

set_option maxRecDepth 100000 in
set_option maxHeartbeats 2000000 in
theorem take_yes (pb tb : Nat) (t : Tok) (r : List Tok) (x : Str) (w : World) (h : PS w pb tb (t :: r)) (hx : tokIs t x = true) (hr : r ≠ []) :
    Calls Tryz.prog 74 #[.pointer (some ⟨pb, 0, none⟩), S x] w fun e w' => e = .returned (.bool true) ∧ PG w pb tb r w' := by
  have hpl := h.lt
  have hrp : 0 < r.length := List.length_pos_iff.2 hr
  clear hr
  have HI := Lib.hid (is_yes pb tb t r x w h)
  have HP := Lib.hid h
  have HX := Lib.hid hx
  clear h hx
  go_enter Tryz.func74, Tryz.ntmps74
  go_upto_region 3 with (first
    | (go_at_call 112; refine HI.out.mono ?_; rintro e w1 ⟨rfl, hb1⟩; rw [HX.out]; have HB1 := Lib.hid hb1; have HP1 := Lib.hid (HP.out.ext hb1); clear hb1))
  obtain ⟨o, c, h1, h2, h3, h4⟩ := HP1.out
  have c0 := cell_of_block h2 0
  have f0 : w1.frozen? ⟨pb, 0, none⟩ = false := Row.frozen (cs := [.slice (some ⟨tb, o, none⟩) (t :: r).length c]) h2 0
  simp only [List.getElem?_toArray, List.getElem?_cons_zero, List.length_cons] at c0
  have hc1 : r.length + 1 ≤ c := h1
  have hcz : ((r.length : Int) + 1) ≤ (c : Int) := by omega
  have hc2 : ¬ c = 1 := by omega
  have H2 := Lib.hid h2
  have H4 := Lib.hid h4
  have H3 := Lib.hid h3
  clear h2 h4 h3 h1
  go_wp2
  go_ret
  refine ⟨rfl, ?_⟩
  exact PG.drop HB1.out hpl (by simpa using hc1) H2.out H3.out H4.out
end Go.Proofs.YtjgbkdbkachciaaGreatDoor

namespace Go.Proofs.YtjgbkdbkachciaaGreatDoor
open Go.RowKit Go.Shelf
attribute [local go_sem] Oper.semAt_some

theorem row_f0 (s l a b : Value) (w : World) : (Instr.field 160 (.agg #[s, l, a, b]) 0).run Tryz.prog w = .ok s w := by kernel_rfl
theorem row_f1 (s l a b : Value) (w : World) : (Instr.field 160 (.agg #[s, l, a, b]) 1).run Tryz.prog w = .ok l w := by kernel_rfl
set_option maxRecDepth 100000 in
theorem sign_any (op : Int) (w : World) : Calls Tryz.prog 267 #[I op] w fun e w' => (∃ b : Bool, e = .returned (.tuple #[S (signS op), .bool b])) ∧ Below w.heap.size w w' := by
  have hfd := row_f0
  go_enter Tryz.func267, Tryz.ntmps267
  go_wp2_with (first
    | (go_at_call 105; refine (rowOf_any op w).mono ?_; rintro e w1 ⟨rfl, hb1⟩; rw [show rowV op = .agg #[S (signS op), I (levelI op), fnV (twoN op), fnV (oneN op)] from rfl]; have HB1 := Lib.hid hb1; clear hb1))
  all_goals
    go_ret2
    exact ⟨⟨_, rfl⟩, HB1.out⟩
set_option maxRecDepth 100000 in
theorem level_any (op : Int) (w : World) : Calls Tryz.prog 144 #[I op] w fun e w' => e = .returned (I (levelI op)) ∧ Below w.heap.size w w' := by
  have hfd := row_f1
  go_enter Tryz.func144, Tryz.ntmps144
  go_wp2_with (first
    | (go_at_call 105; refine (rowOf_any op w).mono ?_; rintro e w1 ⟨rfl, hb1⟩; rw [show rowV op = .agg #[S (signS op), I (levelI op), fnV (twoN op), fnV (oneN op)] from rfl]; have HB1 := Lib.hid hb1; clear hb1))
  go_ret
  exact ⟨rfl, HB1.out⟩

/-- so many words ahead -/
def wantF : List Str → List Tok → Option (List Tok)
  | [], ts => some ts
  | _ :: _, [] => none
  | x :: xs, t :: r => if tokIs t x then wantF xs r else none
theorem wantF_ne {xs : List Str} {ts us : List Tok} (h : wantF xs ts = some us) (hu : us ≠ []) : ts ≠ [] := by
  rintro rfl
  cases xs with
  | nil => cases h; exact hu rfl
  | cons x xs => cases h

theorem hs_kept {w w' : World} {sb pb : Nat} {t : TypeId} {cs : List Value} (h : Row w sb t cs) (hg : w.grownBy w' (some pb)) (hne : sb ≠ pb) : Row w' sb t cs := h.kept hg (by simpa using hne)

set_option maxRecDepth 100000 in
set_option maxHeartbeats 2000000 in
theorem want_yes (pb tb sb n c : Nat) (xs : List Str) (ts us : List Tok) (w : World) (h : PS w pb tb ts) (hs : Row w sb 9 (xs.map S)) (hn : n = xs.length) (hw : wantF xs ts = some us) (hu : us ≠ []) (hl : xs.length ≤ 1000) :
    Calls Tryz.prog 72 #[.pointer (some ⟨pb, 0, none⟩), .slice (some ⟨sb, 0, none⟩) n c] w fun e w' => (∃ v, e = .returned v) ∧ PG w pb tb us w' := by
  have hne : sb ≠ pb := fun e => by
    obtain ⟨o, c, h1, h2, h3, h4⟩ := h
    have h5 : w.heap[pb]? = some (.cells (xs.map S).toArray 9 (0, 0)) := by rw [← e]; exact hs
    have h6 := h2.symm.trans h5
    simp at h6
  have HP := Lib.hid h
  have HS := Lib.hid hs
  have HW := Lib.hid hw
  subst hn
  clear h hs hw
  go_enter Tryz.func72, Tryz.ntmps72
  go_wp2
  go_loopg [8] xs.length (fun gh v wr => ∃ (i : Nat) (rest : List Tok), gh + i = xs.length ∧ v = I i ∧ PG w pb tb rest wr ∧ Hid (wantF (xs.drop i) rest = some us))
  case atStart => exact ⟨0, ts, rfl, rfl, PG.start HP.out (Below.refl _ _), Lib.hid (by simpa using HW.out)⟩
  case round =>
    obtain ⟨i, rest, hg, rfl, hpg, HX⟩ := hrel
    obtain ⟨wo, rfl⟩ : ∃ wo, wo = wr := ⟨_, rfl⟩
    have HG := Lib.hid hpg
    have hso := hs_kept HS.out hpg.1 hne
    clear hpg
    by_cases hlt : i < xs.length
    · have hltz : (i : Int) < (xs.length : Int) := by omega
      obtain ⟨x, hx⟩ : ∃ x, x = xs[i] := ⟨_, rfl⟩
      have hd : xs.drop i = x :: xs.drop (i + 1) := by rw [hx]; exact List.drop_eq_getElem_cons hlt
      have hc := hso.cell i
      rw [List.getElem?_map, List.getElem?_eq_getElem hlt, ← hx] at hc
      simp only [Option.map_some] at hc
      have hX := HX.out
      rw [hd] at hX
      cases rest with
      | nil => cases hX
      | cons t r =>
        rw [wantF] at hX
        split at hX
        · next htk =>
          have hrne := wantF_ne hX hu
          have HTK := Lib.hid (take_yes pb tb t r x wo HG.out.2 htk hrne)
          have HNX := Lib.hid hX
          clear hX hd hx HX htk hso
          go_wp2_with (first
            | (go_at_call 74; refine HTK.out.mono ?_; rintro e w1 ⟨rfl, hp1⟩; have HP1 := Lib.hid hp1; clear hp1))
          go_roundg (xs.length - (i + 1))
          case measure => omega
          case rel => exact ⟨i + 1, r, by omega, by go_num, HG.out.trans HP1.out, HNX⟩
        · cases hX
    · have hX := HX.out
      rw [List.drop_of_length_le (by omega)] at hX
      have hru : rest = us := by cases hX; rfl
      have HRU := Lib.hid hru
      clear hX hru hso HX
      go_wp2
      go_end0
      exact ⟨⟨_, rfl⟩, by rw [← HRU.out]; exact HG.out⟩
end Go.Proofs.YtjgbkdbkachciaaGreatDoor

namespace Go.Proofs.YtjgbkdbkachciaaGreatDoor
open Go.RowKit Go.Shelf
attribute [local go_sem] Oper.semAt_some

theorem tok_f0 (a b c d : Value) (w : World) : (Instr.field 119 (.agg #[a, b, c, d]) 0).run Tryz.prog w = .ok a w := by kernel_rfl
theorem tok_f1 (a b c d : Value) (w : World) : (Instr.field 119 (.agg #[a, b, c, d]) 1).run Tryz.prog w = .ok b w := by kernel_rfl
theorem tok_f2 (a b c d : Value) (w : World) : (Instr.field 119 (.agg #[a, b, c, d]) 2).run Tryz.prog w = .ok c w := by kernel_rfl

/-- a row that is the call's own is changed -/
theorem grown_new {a b c : World} {row : Option Nat} {k : Nat} (h : a.grownBy b row) (hr : a.heap.size ≤ k) (hg : b.grownBy c (some k)) : a.grownBy c row :=
  ⟨hg.os.trans h.os, hg.tape.trans h.tape, hg.output.trans h.output, Nat.le_trans h.size hg.size, fun i hi hne => (hg.block i (Nat.lt_of_lt_of_le hi h.size) (by simp; omega)).trans (h.block i hi hne)⟩
theorem PG.new {a b c : World} {pb tb row : Nat} {ts : List Tok} (h : PG a pb tb ts b) (hr : a.heap.size ≤ row) (hg : b.grownBy c (some row)) (ht : tb < a.heap.size) (hpb : pb < a.heap.size) : PG a pb tb ts c := by
  obtain ⟨h1, o, c', h2, h3, h4, h5⟩ := h
  exact ⟨grown_new h1 hr hg, o, c', h2, grown_old hg h3 (by simp; omega), h4, h5.ext hg (by simp; omega)⟩

set_option maxRecDepth 100000 in
set_option maxHeartbeats 2000000 in
theorem kind_yes (pb tb : Nat) (t : Tok) (r : List Tok) (w : World) (h : PS w pb tb (t :: r)) (hr : r ≠ []) :
    Calls Tryz.prog 75 #[.pointer (some ⟨pb, 0, none⟩), I t.kind] w fun e w' => e = .returned (TokV t) ∧ PG w pb tb r w' := by
  have hpl := h.lt
  have htl := h.tlt
  have hrp : 0 < r.length := List.length_pos_iff.2 hr
  clear hr
  have HP := Lib.hid h
  have HN := Lib.hid (next_yes pb tb t r _ (h.ext (below_a1 w (.cells #[I 0, S [], I 0, I 0] 119))))
  have hkk : (t.kind != t.kind) = false := by simp
  clear h
  go_enter Tryz.func75, Tryz.ntmps75
  go_upto_region 4 with (first
    | (go_at_call 70; refine HN.out.mono ?_; rintro e w1 ⟨rfl, hb1⟩; rw [World.size_alloc] at hb1; have hz1 := hb1.size; rw [World.size_alloc] at hz1; have hk1 := (hb1.block w.heap.size (by omega)).trans (heap_new _ _); have HK1 := Lib.hid hk1; have HB1 := Lib.hid ((below_a1 w _).trans (hb1.mono (by omega))); clear hb1 hk1))
  obtain ⟨w2, hw2⟩ : ∃ w2, w2 = w1.alloc (.cells #[.int .i64 t.kind, .string ⟨t.text.toArray⟩, .int .i64 t.n, .int .i64 t.line] 119) := ⟨_, rfl⟩
  have hb2 : Below w1.heap.size w1 w2 := by rw [hw2]; exact below_a1 _ _
  have hk2 : w2.heap[w1.heap.size]? = some (.cells #[.int .i64 t.kind, .string ⟨t.text.toArray⟩, .int .i64 t.n, .int .i64 t.line] 119 (0, 0)) := by rw [hw2]; exact heap_new _ _
  rw [← hw2]
  have hb02 := HB1.out.trans (hb2.mono HB1.out.size)
  have hk20 := (hb2.block w.heap.size (by omega)).trans HK1.out
  have hz2 := hb2.size
  obtain ⟨o, c, h1, h2, h3, h4⟩ := HP.out.ext hb02
  have c0 := cell_of_block h2 0
  have f0 : w2.frozen? ⟨pb, 0, none⟩ = false := Row.frozen (cs := [.slice (some ⟨tb, o, none⟩) (t :: r).length c]) h2 0
  simp only [List.getElem?_toArray, List.getElem?_cons_zero, List.length_cons] at c0
  have hc1 : r.length + 1 ≤ c := h1
  have hcz : ((r.length : Int) + 1) ≤ (c : Int) := by omega
  have hc2 : ¬ c = 1 := by omega
  have HB02 := Lib.hid hb02
  have HK20 := Lib.hid hk20
  have HK2 := Lib.hid hk2
  have H2 := Lib.hid h2
  have H4 := Lib.hid h4
  have H3 := Lib.hid h3
  clear h2 h4 h3 h1 hw2 hb2 hk2 hb02 hk20
  go_upto_region 5 with (fail)
  obtain ⟨w3, hw3⟩ : ∃ w3, w3 = w2.setCell ⟨pb, 0, none⟩ (.slice (some ⟨tb, o + 4, none⟩) r.length (c - 1)) := ⟨_, rfl⟩
  have hpg : PG w pb tb r w3 := by rw [hw3]; exact PG.drop HB02.out hpl (by simpa using hc1) H2.out H3.out H4.out
  have hg3 : w2.grownBy w3 (some pb) := by rw [hw3]; exact setCell_grown _ _ _ _
  have hk3 := grown_old hg3 HK2.out (by simp; omega)
  have hk30 := grown_old hg3 HK20.out (by simp; omega)
  rw [← hw3]
  have HPG := Lib.hid hpg
  have HK30 := Lib.hid hk30
  have e0 := cell_of_block hk3 0
  have e1 := cell_of_block hk3 1
  have e2 := cell_of_block hk3 2
  have e3 := cell_of_block hk3 3
  simp only [List.getElem?_toArray, List.getElem?_cons_succ, List.getElem?_cons_zero] at e0 e1 e2 e3
  clear hw3 hpg hk3 hk30 c0 f0 hg3
  go_wp2_with (first
    | (refine wpList_store_row rfl 119 (.tmp 4) (.tmp 22) rfl w.heap.size _ rfl rfl 119 _ HK30.out (by kernel_rfl) (by rfl) (by simp [Value.oneCell']) ?_))
  refine bodyPost_ret (results_cell_row rfl _ _ w.heap.size 119 _ (0, 0) _ rfl (setRow_heap _ _ _ _ _ _ HK30.out) Tryz.underlying119 rfl (by kernel_rfl)) rfl ?_
  exact ⟨rfl, PG.new HPG.out (row := w.heap.size) (Nat.le_refl _) ⟨rfl, rfl, rfl, by simp, fun i _ hi => setRow_other _ _ _ _ (fun e => hi (by rw [e]))⟩ htl hpl⟩
end Go.Proofs.YtjgbkdbkachciaaGreatDoor

namespace Go.Proofs.YtjgbkdbkachciaaGreatDoor
open Go.RowKit Go.Shelf
attribute [local go_sem] Oper.semAt_some

set_option maxRecDepth 100000 in
theorem pname_yes (pb tb : Nat) (t : Tok) (r : List Tok) (w : World) (h : PS w pb tb (t :: r)) (hr : r ≠ []) (hk : t.kind = 1) :
    Calls Tryz.prog 73 #[.pointer (some ⟨pb, 0, none⟩)] w fun e w' => e = .returned (S t.text) ∧ PG w pb tb r w' := by
  have hc := kind_yes pb tb t r w h hr
  rw [hk] at hc
  have HC := Lib.hid hc
  have hfd := tok_f1
  clear hc h hr hk
  go_enter Tryz.func73, Tryz.ntmps73
  go_wp2_with (first
    | (go_at_call 75; refine HC.out.mono ?_; rintro e w1 ⟨rfl, hp1⟩; have HP1 := Lib.hid hp1; clear hp1))
  go_ret
  exact ⟨rfl, HP1.out⟩

theorem unAt_succ (t : Tok) (k : Nat) (op : Int) : unAt t (k + 1) op = if tokIs t (signS op) then op else unAt t k (op + 1) := rfl
theorem binAt_succ (lv : Int) (t : Tok) (k : Nat) (op : Int) : binAt lv t (k + 1) op = if (tokIs t (signS op) && decide (lv ≤ levelI op)) = true then op else binAt lv t k (op + 1) := rfl

set_option maxRecDepth 100000 in
set_option maxHeartbeats 2000000 in
theorem unary_yes (pb tb : Nat) (t : Tok) (r : List Tok) (w : World) (h : PS w pb tb (t :: r)) (hr : r ≠ []) :
    Calls Tryz.prog 265 #[.pointer (some ⟨pb, 0, none⟩)] w fun e w' => e = .returned (I (unAt t 3 17)) ∧ PG w pb tb (if unAt t 3 17 = 0 then t :: r else r) w' := by
  obtain ⟨R, hR⟩ : ∃ R, R = unAt t 3 17 := ⟨_, rfl⟩
  rw [← hR]
  obtain ⟨us, hus⟩ : ∃ us, us = (if R = 0 then t :: r else r) := ⟨_, rfl⟩
  rw [← hus]
  have HUS := Lib.hid hus
  have HP := Lib.hid h
  have HRR := Lib.hid hR
  have HNE := Lib.hid hr
  clear h hR hr hus
  go_enter Tryz.func265, Tryz.ntmps265
  go_wp2
  go_loopg [3] 3 (fun gh v wr => ∃ i : Nat, gh + i = 3 ∧ v = I (17 + (i : Int)) ∧ Below w.heap.size w wr ∧ Hid (unAt t gh (17 + (i : Int)) = R))
  case atStart => exact ⟨0, rfl, rfl, Below.refl _ _, Lib.hid HRR.out.symm⟩
  case round =>
    obtain ⟨i, hg, rfl, hb, HX⟩ := hrel
    obtain ⟨wo, rfl⟩ : ∃ wo, wo = wr := ⟨_, rfl⟩
    have HB := Lib.hid hb
    have HPO := Lib.hid (HP.out.ext hb)
    clear hb
    obtain ⟨op, hop⟩ : ∃ op : Int, op = 17 + (i : Int) := ⟨_, rfl⟩
    rw [← hop] at HX ⊢
    have hop1 : 17 ≤ op := by omega
    have hop2 : op ≤ 20 := by omega
    by_cases hlt : i < 3
    · have hltz : op ≤ 19 := by omega
      obtain ⟨g1, rfl⟩ : ∃ g1, gk = g1 + 1 := ⟨gk - 1, by omega⟩
      have hX := HX.out
      rw [unAt_succ] at hX
      have HO := Lib.hid hop
      cases htk : tokIs t (signS op)
      · rw [htk] at hX
        simp only [Bool.false_eq_true, if_false] at hX
        have HTK := Lib.hid htk
        have HX2 := Lib.hid hX
        clear hX HX htk hop
        go_wp2_with (first
          | (go_at_call 267; refine (sign_any op wo).mono ?_; rintro e w1 ⟨⟨b1, rfl⟩, hb1⟩; have HB1 := Lib.hid (HB.out.trans (hb1.mono HB.out.size)); have HP1 := Lib.hid (HPO.out.ext hb1); clear hb1)
          | (go_at_call 74; refine (take_no pb tb t r (signS op) w1 HP1.out HTK.out).mono ?_; rintro e w2 ⟨rfl, hb2⟩; have HB2 := Lib.hid (HB1.out.trans (hb2.mono HB1.out.size)); clear hb2))
        go_roundg g1
        case measure => omega
        case rel => exact ⟨i + 1, by omega, by rw [HO.out]; go_num, HB2.out, by rw [show 17 + ((i + 1 : Nat) : Int) = op + 1 by have := HO.out; omega]; exact HX2⟩
      · rw [htk] at hX
        simp only [if_true] at hX
        have HTK := Lib.hid htk
        have HX2 := Lib.hid hX
        clear hX HX htk hop
        go_wp2_with (first
          | (go_at_call 267; refine (sign_any op wo).mono ?_; rintro e w1 ⟨⟨b1, rfl⟩, hb1⟩; have HB1 := Lib.hid (HB.out.trans (hb1.mono HB.out.size)); have HP1 := Lib.hid (HPO.out.ext hb1); clear hb1)
          | (go_at_call 74; refine (take_yes pb tb t r (signS op) w1 HP1.out HTK.out HNE.out).mono ?_; rintro e w2 ⟨rfl, hp2⟩; have HP2 := Lib.hid hp2; clear hp2))
        go_ret
        refine ⟨by rw [HX2.out]; rfl, ?_⟩
        rw [HUS.out, if_neg (by rw [← HX2.out]; omega)]
        exact ⟨grown_trans (below_grown HB1.out _) HP2.out.1, HP2.out.2⟩
    · have hltz : ¬ op ≤ 19 := by omega
      obtain rfl : gk = 0 := by omega
      have HX2 := Lib.hid (show (0 : Int) = R from HX.out)
      clear HX hop
      go_wp2
      go_ret
      refine ⟨by rw [← HX2.out]; rfl, ?_⟩
      rw [HUS.out, if_pos HX2.out.symm]
      exact PG.start HP.out HB.out

set_option maxRecDepth 100000 in
set_option maxHeartbeats 2000000 in
theorem binary_yes (pb tb : Nat) (lv : Int) (t : Tok) (r : List Tok) (w : World) (h : PS w pb tb (t :: r)) :
    Calls Tryz.prog 258 #[.pointer (some ⟨pb, 0, none⟩), I lv] w fun e w' => e = .returned (I (binAt lv t 16 1)) ∧ Below w.heap.size w w' := by
  obtain ⟨R, hR⟩ : ∃ R, R = binAt lv t 16 1 := ⟨_, rfl⟩
  rw [← hR]
  have HP := Lib.hid h
  have HRR := Lib.hid hR
  clear h hR
  go_enter Tryz.func258, Tryz.ntmps258
  go_wp2
  go_loopg [5] 16 (fun gh v wr => ∃ i : Nat, gh + i = 16 ∧ v = I (1 + (i : Int)) ∧ Below w.heap.size w wr ∧ Hid (binAt lv t gh (1 + (i : Int)) = R))
  case atStart => exact ⟨0, rfl, rfl, Below.refl _ _, Lib.hid HRR.out.symm⟩
  case round =>
    obtain ⟨i, hg, rfl, hb, HX⟩ := hrel
    obtain ⟨wo, rfl⟩ : ∃ wo, wo = wr := ⟨_, rfl⟩
    have HB := Lib.hid hb
    have HPO := Lib.hid (HP.out.ext hb)
    clear hb
    obtain ⟨op, hop⟩ : ∃ op : Int, op = 1 + (i : Int) := ⟨_, rfl⟩
    rw [← hop] at HX ⊢
    have hop1 : 1 ≤ op := by omega
    have hop2 : op ≤ 17 := by omega
    by_cases hlt : i < 16
    · have hltz : op ≤ 16 := by omega
      obtain ⟨g1, rfl⟩ : ∃ g1, gk = g1 + 1 := ⟨gk - 1, by omega⟩
      have hX := HX.out
      rw [binAt_succ] at hX
      have HO := Lib.hid hop
      cases htk : tokIs t (signS op)
      · rw [htk] at hX
        simp only [Bool.false_and, Bool.false_eq_true, if_false] at hX
        have HTK := Lib.hid htk
        have HX2 := Lib.hid hX
        clear hX HX htk hop
        go_wp2_with (first
          | (go_at_call 267; refine (sign_any op wo).mono ?_; rintro e w1 ⟨⟨b1, rfl⟩, hb1⟩; have HB1 := Lib.hid (HB.out.trans (hb1.mono HB.out.size)); have HP1 := Lib.hid (HPO.out.ext hb1); clear hb1)
          | (go_at_call 112; refine (is_yes pb tb t r (signS op) w1 HP1.out).mono ?_; rintro e w2 ⟨rfl, hb2⟩; rw [HTK.out]; have HB2 := Lib.hid (HB1.out.trans (hb2.mono HB1.out.size)); clear hb2))
        go_roundg g1
        case measure => omega
        case rel => exact ⟨i + 1, by omega, by rw [HO.out]; go_num, HB2.out, by rw [show 1 + ((i + 1 : Nat) : Int) = op + 1 by have := HO.out; omega]; exact HX2⟩
      · rw [htk] at hX
        simp only [Bool.true_and, decide_eq_true_eq] at hX
        by_cases hlev : lv ≤ levelI op
        · rw [if_pos hlev] at hX
          have HTK := Lib.hid htk
          have HX2 := Lib.hid hX
          clear hX HX htk hop
          go_wp2_with (first
            | (go_at_call 267; refine (sign_any op wo).mono ?_; rintro e w1 ⟨⟨b1, rfl⟩, hb1⟩; have HB1 := Lib.hid (HB.out.trans (hb1.mono HB.out.size)); have HP1 := Lib.hid (HPO.out.ext hb1); clear hb1)
            | (go_at_call 112; refine (is_yes pb tb t r (signS op) w1 HP1.out).mono ?_; rintro e w2 ⟨rfl, hb2⟩; rw [HTK.out]; have HB2 := Lib.hid (HB1.out.trans (hb2.mono HB1.out.size)); clear hb2)
            | (go_at_call 144; refine (level_any op w2).mono ?_; rintro e w3 ⟨rfl, hb3⟩; have HB3 := Lib.hid (HB2.out.trans (hb3.mono HB2.out.size)); clear hb3))
          go_ret
          exact ⟨by rw [← HX2.out]; rfl, HB3.out⟩
        · rw [if_neg hlev] at hX
          have HTK := Lib.hid htk
          have HX2 := Lib.hid hX
          clear hX HX htk hop
          go_wp2_with (first
            | (go_at_call 267; refine (sign_any op wo).mono ?_; rintro e w1 ⟨⟨b1, rfl⟩, hb1⟩; have HB1 := Lib.hid (HB.out.trans (hb1.mono HB.out.size)); have HP1 := Lib.hid (HPO.out.ext hb1); clear hb1)
            | (go_at_call 112; refine (is_yes pb tb t r (signS op) w1 HP1.out).mono ?_; rintro e w2 ⟨rfl, hb2⟩; rw [HTK.out]; have HB2 := Lib.hid (HB1.out.trans (hb2.mono HB1.out.size)); clear hb2)
            | (go_at_call 144; refine (level_any op w2).mono ?_; rintro e w3 ⟨rfl, hb3⟩; have HB3 := Lib.hid (HB2.out.trans (hb3.mono HB2.out.size)); clear hb3))
          go_roundg g1
          case measure => omega
          case rel => exact ⟨i + 1, by omega, by rw [HO.out]; go_num, HB3.out, by rw [show 1 + ((i + 1 : Nat) : Int) = op + 1 by have := HO.out; omega]; exact HX2⟩
    · have hltz : ¬ op ≤ 16 := by omega
      obtain rfl : gk = 0 := by omega
      have HX2 := Lib.hid (show (0 : Int) = R from HX.out)
      clear HX hop
      go_wp2
      go_ret
      exact ⟨by rw [← HX2.out]; rfl, HB.out⟩
end Go.Proofs.YtjgbkdbkachciaaGreatDoor
