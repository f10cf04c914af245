import Derived.Test.YtjgbkdbkachciaaGreatDoorB7
namespace Go.Proofs.YtjgbkdbkachciaaGreatDoor
open Go.RowKit Go.Shelf
attribute [local go_sem] Oper.semAt_some

/-- a list's beginning -/
theorem RInts.take {W : World} {a : Option Addr} {c : Nat} {l : List Int} (h : RInts W (.slice a l.length c) l) {n : Nat} (hn : n ≤ l.length) (h9 : n ≤ 1000000000) : RSlB (· < W.heap.size) 1 RInt W (.slice a n c) (l.take n) := by
  obtain ⟨a', c', hv, hm, h⟩ := h
  obtain ⟨rfl, -, rfl⟩ := Value.slice.inj hv
  have hlen : (l.take n).length = n := by rw [List.length_take]; omega
  refine ⟨a, c, by rw [hlen], by omega, ?_⟩
  rcases Nat.eq_zero_or_pos n with h0 | h0
  · exact .inl (by rw [h0]; rfl)
  rcases h with rfl | ⟨b, o, rfl, h⟩
  · exact .inl (by simp)
  refine .inr ⟨b, o, rfl, ?_, fun i x hx => ?_⟩
  · obtain ⟨C, hC, _⟩ := h 0 (l[0]'(by omega)) (List.getElem?_eq_getElem (by omega))
    exact World.block_lt_of_cell? W _ (hC 0 (by omega))
  · rw [List.getElem?_take] at hx
    split at hx
    · exact h i x hx
    · cases hx
set_option maxRecDepth 100000 in
set_option maxHeartbeats 4000000 in
/-- an expression of raw numbers, and raw names -/
theorem expr19_any (W : World) (v : Value) (l : List Int) (hl : RInts W v l) (hc : ∃ a c, v = .slice a l.length c ∧ l.length ≤ c) :
    Calls Tryz.prog 19 #[v] W fun en w' => ∃ (e : LE) (av : Value), en = .returned (eV e av) ∧ DrE cFree 6 e ∧ EX (W.heap.size ≤ ·) w' av e ∧ Below W.heap.size W w' := by
  obtain ⟨a, c, rfl, hlc⟩ := hc
  have hlt : ∀ n, n ≤ l.length → n ≤ 1000000000 → RSlB (· < W.heap.size) 1 RInt W (.slice a n c) (l.take n) := fun n h1 h2 => RInts.take hl h1 h2
  obtain ⟨L, hL⟩ : ∃ n, n = l.length := ⟨_, rfl⟩
  rw [← hL] at hlc hlt ⊢
  have HLT := Lib.hid hlt
  have HLN := Lib.hid hL
  clear hl hlt hL
  obtain ⟨w1, hw1⟩ : ∃ w1, w1 = (W.alloc (.cells eZ 31)).alloc (.cells #[.slice a L c, .int .i64 0] 61) := ⟨_, rfl⟩
  have hwe := hw1.symm
  have hb1 : Below W.heap.size W w1 := by rw [hw1]; exact below_a2 _ _ _
  have hr1 : Row w1 W.heap.size 31 [I 0, I 0, I 0, S [], .slice none 0 0] := by rw [hw1]; exact heap_old _ _ (heap_new _ _)
  have hr2 : Row w1 (W.heap.size + 1) 61 [.slice a L c, I 0] := by rw [hw1]; exact heap_at (by simp)
  have HB1 := Lib.hid hb1
  have HR1 := Lib.hid hr1
  have HR2 := Lib.hid hr2
  clear hw1 hb1 hr1 hr2
  have hrun : ∀ (n : Nat) (w2 : World), n ≤ 1000000000 → n ≤ L → Below W.heap.size W w2 → Row w2 W.heap.size 31 [I 0, I 0, I 0, S [], .slice none 0 0] → Row w2 (W.heap.size + 1) 61 [.slice a n c, I 0] → Calls Tryz.prog 28 #[.agg #[.slice none 0 0, .slice none 0 0, .slice none 0 0, .bool true, .bool false], .pointer (some ⟨W.heap.size + 1, 0, none⟩), I 6] w2
      fun en w' => ∃ (e : LE) (aa : Option Addr) (ac : Nat), en = .returned (eV e (.slice aa e.args.length ac)) ∧ DrE cFree 6 e ∧ EX (W.heap.size + 1 ≤ ·) w' (.slice aa e.args.length ac) e ∧ Below W.heap.size W w' ∧ Row w' W.heap.size 31 [I 0, I 0, I 0, S [], .slice none 0 0] := by
    intro n w2 hn hnL hb hr hs
    have hlen : (l.take n).length = n := by rw [List.length_take, ← HLN.out]; omega
    have hsrc : Src (W.heap.size + 1) w2 := ⟨.slice a n c, l.take n, 0, hs, ((HLT.out n hnL hn).grown (below_grown hb none) (fun r e => by cases e) (fun _ _ h => h)).weak (fun b hb => by omega) (fun _ _ h => h), Nat.zero_le _⟩
    refine (expr28 cFree 6 (by decide) (by decide) (W.heap.size + 1) w2 (.slice none 0 0) (.slice none 0 0) (.slice none 0 0) false (cFree_in _ _) hsrc).mono ?_
    rintro en w3 ⟨e, av, rfl, hd, hx, hg⟩
    obtain ⟨aa, ac, rfl⟩ := hx.slice
    have := hr.lt
    exact ⟨e, aa, ac, rfl, hd, hx.weak (fun b hb => (by omega : W.heap.size + 1 ≤ b)), hb.grown hg.1 hb.size (fun r e => by cases e; omega), hg.row hr (by omega)⟩
  have HRUN := Lib.hid hrun
  clear hrun
  by_cases hL : 100 < L
  · have hLz : (100 : Int) < (L : Int) := by omega
    have hc100 : 100 ≤ c := by omega
    go_enter Tryz.func19, Tryz.ntmps19
    go_upto_region 3 with (fail)
    have c0 := HR2.out.cell 0
    have f0 := HR2.out.frozen 0
    simp only [List.getElem?_cons_zero] at c0
    go_upto_region 4 with (fail)
    obtain ⟨w2, hw2⟩ : ∃ w2, w2 = w1.setCell ⟨W.heap.size + 1, 0, none⟩ (.slice a 100 c) := ⟨_, rfl⟩
    have hg2 : w1.grownBy w2 (some (W.heap.size + 1)) := by rw [hw2]; exact setCell_grown _ _ _ _
    have hs2 : Row w2 (W.heap.size + 1) 61 [.slice a 100 c, I 0] := by rw [hw2]; exact HR2.out.set 0 _
    rw [← hw2]
    have HC := Lib.hid (HRUN.out 100 w2 (by omega) (by omega) (HB1.out.grown hg2 HB1.out.size (fun r e => by cases e; omega)) (HR1.out.kept hg2 (by simp)) hs2)
    clear hw2 hg2 hs2 c0 f0
    go_wp2_with (first
      | (go_at_call 28; refine HC.out.mono ?_; rintro e' w3 ⟨e, aa, ac, rfl, hd, hx, hb, hr⟩; have HD := Lib.hid hd; have HX := Lib.hid hx; have HB := Lib.hid hb; have HR := Lib.hid hr; clear hd hx hb hr)
      | (refine store_first 31 (.tmp 2) (.tmp 17) rfl ?_; refine wpList_store_row rfl 31 (.tmp 2) (.tmp 17) rfl W.heap.size _ rfl rfl 31 #[I 0, I 0, I 0, S [], .slice none 0 0] HR.out (by kernel_rfl) (by rfl) (by simp [Value.oneCell']) ?_))
    refine bodyPost_ret (results_cell_row rfl _ _ W.heap.size 31 _ (0, 0) _ rfl (setRow_heap _ _ _ _ _ _ HR.out) Tryz.underlying31 rfl (by kernel_rfl)) rfl ?_
    exact ⟨e, _, rfl, HD.out, (EX.grown HX.out setRow_grown (fun r e => by cases e; omega)).weak (fun b hb => (by omega : W.heap.size ≤ b)), HB.out.grown setRow_grown HB.out.size (fun r e => by cases e; omega)⟩
  · have hLz : ¬ (100 : Int) < (L : Int) := by omega
    have HC := Lib.hid (HRUN.out L w1 (by omega) (Nat.le_refl _) HB1.out HR1.out HR2.out)
    go_enter Tryz.func19, Tryz.ntmps19
    go_wp2_with (first
      | (go_at_call 28; refine HC.out.mono ?_; rintro e' w2 ⟨e, aa, ac, rfl, hd, hx, hb, hr⟩; have HD := Lib.hid hd; have HX := Lib.hid hx; have HB := Lib.hid hb; have HR := Lib.hid hr; clear hd hx hb hr)
      | (refine store_first 31 (.tmp 2) (.tmp 17) rfl ?_; refine wpList_store_row rfl 31 (.tmp 2) (.tmp 17) rfl W.heap.size _ rfl rfl 31 #[I 0, I 0, I 0, S [], .slice none 0 0] HR.out (by kernel_rfl) (by rfl) (by simp [Value.oneCell']) ?_))
    refine bodyPost_ret (results_cell_row rfl _ _ W.heap.size 31 _ (0, 0) _ rfl (setRow_heap _ _ _ _ _ _ HR.out) Tryz.underlying31 rfl (by kernel_rfl)) rfl ?_
    exact ⟨e, _, rfl, HD.out, (EX.grown HX.out setRow_grown (fun r e => by cases e; omega)).weak (fun b hb => (by omega : W.heap.size ≤ b)), HB.out.grown setRow_grown HB.out.size (fun r e => by cases e; omega)⟩
end Go.Proofs.YtjgbkdbkachciaaGreatDoor
