import Derived.Test.YtjgbkdbkachciaaGreatDoorR9
namespace Go.Proofs.YtjgbkdbkachciaaGreatDoor
open Go.RowKit Go.Shelf
attribute [local go_sem] Oper.semAt_some

theorem tok_f0 (a b c d : Value) (w : World) : (Instr.field 119 (.agg #[a, b, c, d]) 0).run Tryz.prog w = .ok a w := by kernel_rfl
theorem tok_f1 (a b c d : Value) (w : World) : (Instr.field 119 (.agg #[a, b, c, d]) 1).run Tryz.prog w = .ok b w := by kernel_rfl
theorem tok_f2 (a b c d : Value) (w : World) : (Instr.field 119 (.agg #[a, b, c, d]) 2).run Tryz.prog w = .ok c w := by kernel_rfl

/-- a row that is the call's own is changed -/
theorem grown_new {a b c : World} {row : Option Nat} {k : Nat} (h : a.grownBy b row) (hr : a.heap.size ≤ k) (hg : b.grownBy c (some k)) : a.grownBy c row :=
  ⟨hg.os.trans h.os, hg.tape.trans h.tape, hg.output.trans h.output, Nat.le_trans h.size hg.size, fun i hi hne => (hg.block i (Nat.lt_of_lt_of_le hi h.size) (by simp; omega)).trans (h.block i hi hne)⟩
theorem PG.new {a b c : World} {pb tb row : Nat} {ts : List Tok} (h : PG a pb tb ts b) (hr : a.heap.size ≤ row) (hg : b.grownBy c (some row)) (ht : tb < a.heap.size) (hpb : pb < a.heap.size) : PG a pb tb ts c := by
  obtain ⟨h1, o, c', h2, h3, h4, h5⟩ := h
  exact ⟨grown_new h1 hr hg, o, c', h2, grown_old hg h3 (by simp; omega), h4, h5.ext hg (by simp; omega)⟩

set_option maxRecDepth 100000 in
set_option maxHeartbeats 2000000 in
theorem kind_yes (pb tb : Nat) (t : Tok) (r : List Tok) (w : World) (h : PS w pb tb (t :: r)) (hr : r ≠ []) :
    Calls Tryz.prog 75 #[.pointer (some ⟨pb, 0, none⟩), I t.kind] w fun e w' => e = .returned (TokV t) ∧ PG w pb tb r w' := by
  have hpl := h.lt
  have htl := h.tlt
  have hrp : 0 < r.length := List.length_pos_iff.2 hr
  clear hr
  have HP := Lib.hid h
  have HN := Lib.hid (next_yes pb tb t r _ (h.ext (below_a1 w (.cells #[I 0, S [], I 0, I 0] 119))))
  have hkk : (t.kind != t.kind) = false := by simp
  clear h
  go_enter Tryz.func75, Tryz.ntmps75
  go_upto_region 4 with (first
    | (go_at_call 70; refine HN.out.mono ?_; rintro e w1 ⟨rfl, hb1⟩; rw [World.size_alloc] at hb1; have hz1 := hb1.size; rw [World.size_alloc] at hz1; have hk1 := (hb1.block w.heap.size (by omega)).trans (heap_new _ _); have HK1 := Lib.hid hk1; have HB1 := Lib.hid ((below_a1 w _).trans (hb1.mono (by omega))); clear hb1 hk1))
  obtain ⟨w2, hw2⟩ : ∃ w2, w2 = w1.alloc (.cells #[.int .i64 t.kind, .string ⟨t.text.toArray⟩, .int .i64 t.n, .int .i64 t.line] 119) := ⟨_, rfl⟩
  have hb2 : Below w1.heap.size w1 w2 := by rw [hw2]; exact below_a1 _ _
  have hk2 : w2.heap[w1.heap.size]? = some (.cells #[.int .i64 t.kind, .string ⟨t.text.toArray⟩, .int .i64 t.n, .int .i64 t.line] 119 (0, 0)) := by rw [hw2]; exact heap_new _ _
  rw [← hw2]
  have hb02 := HB1.out.trans (hb2.mono HB1.out.size)
  have hk20 := (hb2.block w.heap.size (by omega)).trans HK1.out
  have hz2 := hb2.size
  obtain ⟨o, c, h1, h2, h3, h4⟩ := HP.out.ext hb02
  have c0 := cell_of_block h2 0
  have f0 : w2.frozen? ⟨pb, 0, none⟩ = false := Row.frozen (cs := [.slice (some ⟨tb, o, none⟩) (t :: r).length c]) h2 0
  simp only [List.getElem?_toArray, List.getElem?_cons_zero, List.length_cons] at c0
  have hc1 : r.length + 1 ≤ c := h1
  have hcz : ((r.length : Int) + 1) ≤ (c : Int) := by omega
  have hc2 : ¬ c = 1 := by omega
  have HB02 := Lib.hid hb02
  have HK20 := Lib.hid hk20
  have HK2 := Lib.hid hk2
  have H2 := Lib.hid h2
  have H4 := Lib.hid h4
  have H3 := Lib.hid h3
  clear h2 h4 h3 h1 hw2 hb2 hk2 hb02 hk20
  go_upto_region 5 with (fail)
  obtain ⟨w3, hw3⟩ : ∃ w3, w3 = w2.setCell ⟨pb, 0, none⟩ (.slice (some ⟨tb, o + 4, none⟩) r.length (c - 1)) := ⟨_, rfl⟩
  have hpg : PG w pb tb r w3 := by rw [hw3]; exact PG.drop HB02.out hpl (by simpa using hc1) H2.out H3.out H4.out
  have hg3 : w2.grownBy w3 (some pb) := by rw [hw3]; exact setCell_grown _ _ _ _
  have hk3 := grown_old hg3 HK2.out (by simp; omega)
  have hk30 := grown_old hg3 HK20.out (by simp; omega)
  rw [← hw3]
  have HPG := Lib.hid hpg
  have HK30 := Lib.hid hk30
  have e0 := cell_of_block hk3 0
  have e1 := cell_of_block hk3 1
  have e2 := cell_of_block hk3 2
  have e3 := cell_of_block hk3 3
  simp only [List.getElem?_toArray, List.getElem?_cons_succ, List.getElem?_cons_zero] at e0 e1 e2 e3
  clear hw3 hpg hk3 hk30 c0 f0 hg3
  go_wp2_with (first
    | (refine wpList_store_row rfl 119 (.tmp 4) (.tmp 22) rfl w.heap.size _ rfl rfl 119 _ HK30.out (by kernel_rfl) (by rfl) (by simp [Value.oneCell']) ?_))
  refine bodyPost_ret (results_cell_row rfl _ _ w.heap.size 119 _ (0, 0) _ rfl (setRow_heap _ _ _ _ _ _ HK30.out) Tryz.underlying119 rfl (by kernel_rfl)) rfl ?_
  exact ⟨rfl, PG.new HPG.out (row := w.heap.size) (Nat.le_refl _) ⟨rfl, rfl, rfl, by simp, fun i _ hi => setRow_other _ _ _ _ (fun e => hi (by rw [e]))⟩ htl hpl⟩
end Go.Proofs.YtjgbkdbkachciaaGreatDoor
