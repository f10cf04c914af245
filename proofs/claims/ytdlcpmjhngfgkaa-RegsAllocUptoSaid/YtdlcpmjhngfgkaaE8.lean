import Derived.Test.YtdlcpmjhngfgkaaE7
namespace Go.Proofs.Ytdlcpmjhngfgkaa
open Go.RowKit Go.Shelf
attribute [local go_sem] Oper.semAt_some

theorem allMeet_iff {q : List Int} {S : Int → Prop} (h : ∀ x, x ∈ q ↔ S x) (p : Int × Int) : AllMeet q p ↔ ∃ x, S x ∧ ∃ y, S y ∧ x ≠ y ∧ p = pairOf x y := by
  unfold AllMeet
  constructor
  · rintro ⟨a, ha, b, hb, h1, h2⟩
    exact ⟨a, (h a).1 ha, b, (h b).1 hb, h1, h2⟩
  · rintro ⟨a, ha, b, hb, h1, h2⟩
    exact ⟨a, (h a).2 ha, b, (h b).2 hb, h1, h2⟩
theorem lt_succ_or {P : Nat → Prop} (j : Nat) : (∃ i, i < j + 1 ∧ P i) ↔ (∃ i, i < j ∧ P i) ∨ P j := by
  constructor
  · rintro ⟨i, hi, h⟩
    by_cases e : i = j
    · subst e; exact .inr h
    · exact .inl ⟨i, by omega, h⟩
  · rintro (⟨i, hi, h⟩ | h)
    · exact ⟨i, by omega, h⟩
    · exact ⟨j, by omega, h⟩
theorem aft_last {f : LFlow} {blk : LBlock} {j : Nat} {q : List Int} (hj : j = blk.ins.length) (hq : ∀ x, x ∈ q ↔ AfterS blk (LiveS f.blocks) j x) {A : Prop} (p : Int × Int) : ((A ∨ ∃ j', j' < j ∧ AftM f blk j' p) ∨ AllMeet q p) ↔ (A ∨ ∃ j', j' < j + 1 ∧ AftM f blk j' p) := by
  rw [lt_succ_or, or_assoc, allMeet_iff hq]
  refine or_congr Iff.rfl (or_congr Iff.rfl ?_)
  unfold AftM
  rw [show blk.ins[j]? = none from List.getElem?_eq_none (by omega)]
  simp
theorem aft_none {f : LFlow} {blk : LBlock} {j : Nat} {ins : LIns} {d : Int} {q : List Int} (hj : j < blk.ins.length) (hi : ins = blk.ins[j]) (hd : d = setsI ins.kind ins.d) (hd0 : ¬ 0 ≤ d) (hq : ∀ x, x ∈ q ↔ AfterS blk (LiveS f.blocks) j x) {A : Prop} (p : Int × Int) : ((A ∨ ∃ j', j' < j ∧ AftM f blk j' p) ∨ AllMeet q p) ↔ (A ∨ ∃ j', j' < j + 1 ∧ AftM f blk j' p) := by
  rw [lt_succ_or, or_assoc, allMeet_iff hq]
  refine or_congr Iff.rfl (or_congr Iff.rfl ?_)
  unfold AftM
  rw [List.getElem?_eq_getElem hj, ← hi]
  constructor
  · exact .inl
  · rintro (h | ⟨_, h1, h2, _⟩)
    · exact h
    · cases h1; exact absurd (hd ▸ h2) hd0
theorem aft_set {f : LFlow} {blk : LBlock} {j r : Nat} {ins : LIns} {d : Int} {q : List Int} (hr : q.length ≤ r) (hj : j < blk.ins.length) (hi : ins = blk.ins[j]) (hd : d = setsI ins.kind ins.d) (hd0 : 0 ≤ d) (hq : ∀ x, x ∈ q ↔ AfterS blk (LiveS f.blocks) j x) {A : Prop} (p : Int × Int) : (((A ∨ ∃ j', j' < j ∧ AftM f blk j' p) ∨ AllMeet q p) ∨ ∃ x ∈ q.take r, x ≠ d ∧ p = pairOf x d) ↔ (A ∨ ∃ j', j' < j + 1 ∧ AftM f blk j' p) := by
  rw [lt_succ_or, or_assoc, or_assoc, allMeet_iff hq, List.take_of_length_le hr]
  refine or_congr Iff.rfl (or_congr Iff.rfl ?_)
  unfold AftM
  rw [List.getElem?_eq_getElem hj, ← hi]
  refine or_congr Iff.rfl ?_
  constructor
  · rintro ⟨x, hx, h1, h2⟩
    exact ⟨ins, rfl, hd ▸ hd0, x, (hq x).1 hx, hd ▸ h1, hd ▸ h2⟩
  · rintro ⟨_, h1, _, x, hx, h2, h3⟩
    cases h1
    exact ⟨x, (hq x).2 hx, hd ▸ h2, hd ▸ h3⟩
theorem take_or {q : List Int} {r : Nat} {d : Int} (hr : r < q.length) {A : Prop} (p : Int × Int) : ((A ∨ ∃ x ∈ q.take r, x ≠ d ∧ p = pairOf x d) ∨ (q[r] ≠ d ∧ p = pairOf q[r] d)) ↔ (A ∨ ∃ x ∈ q.take (r + 1), x ≠ d ∧ p = pairOf x d) := by
  rw [or_assoc]
  refine or_congr Iff.rfl ?_
  rw [List.take_add_one, List.getElem?_eq_getElem hr]
  simp only [Option.toList_some, List.mem_append, List.mem_singleton]
  constructor
  · rintro (⟨x, hx, h⟩ | h)
    · exact ⟨x, .inl hx, h⟩
    · exact ⟨_, .inr rfl, h⟩
  · rintro ⟨x, hx | rfl, h⟩
    · exact .inl ⟨x, hx, h⟩
    · exact .inr h
theorem blk_step {f : LFlow} {blk : LBlock} {k j : Nat} (hk : k < f.blocks.length) (hb : blk = f.blocks[k]) (hj : j = blk.ins.length + 1) (p : Int × Int) : (((∃ i, i < k ∧ BlkM f i p) ∨ LiveM f k p) ∨ ∃ j', j' < j ∧ AftM f blk j' p) ↔ ∃ i, i < k + 1 ∧ BlkM f i p := by
  rw [lt_succ_or, or_assoc]
  refine or_congr Iff.rfl ?_
  unfold BlkM
  rw [List.getElem?_eq_getElem hk, ← hb]
  constructor
  · rintro (h | ⟨j', h1, h2⟩)
    · exact ⟨blk, rfl, .inl h⟩
    · exact ⟨blk, rfl, .inr ⟨j', by omega, h2⟩⟩
  · rintro ⟨b, h1, h | ⟨j', h2, h3⟩⟩
    · exact .inl h
    · cases h1; exact .inr ⟨j', by omega, h3⟩
theorem blk_all {f : LFlow} {k : Nat} (hk : f.blocks.length ≤ k) (p : Int × Int) : (∃ i, i < k ∧ BlkM f i p) ↔ ∃ i, BlkM f i p := by
  constructor
  · rintro ⟨i, _, h⟩; exact ⟨i, h⟩
  · rintro ⟨i, b, h1, h2⟩
    have := (List.getElem?_eq_some_iff.1 h1).1
    exact ⟨i, by omega, b, h1, h2⟩
theorem all_none {f : LFlow} {k : Nat} (hk : f.blocks.length ≤ k) (h0 : f.blocks.length = 0) (p : Int × Int) : (p ∈ [] ∨ ∃ i, i < k ∧ BlkM f i p) ↔ MeetS f p := by
  unfold MeetS
  rw [blk_all hk, h0]
  simp
theorem all_some {f : LFlow} {k r : Nat} {l : List Int} (hk : f.blocks.length ≤ k) (h0 : 0 < f.blocks.length) (hr : l.length ≤ r) (hl : ∀ x, x ∈ l ↔ LiveS f.blocks 0 x) (p : Int × Int) : (p ∈ [] ∨ ((∃ i, i < k ∧ BlkM f i p) ∨ ∃ x ∈ l.take r, x < f.params ∧ ∃ q, 0 ≤ q ∧ q < min f.params f.values ∧ x ≠ q ∧ p = pairOf x q)) ↔ MeetS f p := by
  unfold MeetS ParM
  rw [blk_all hk, List.take_of_length_le hr]
  simp only [List.not_mem_nil, false_or, h0, true_and, hl]

theorem par_zero {A : Prop} {z a : Int} {B : Int → Prop} : A ↔ (A ∨ (z < a ∧ ∃ q, 0 ≤ q ∧ q < ((0 : Nat) : Int) ∧ B q)) := by
  constructor
  · exact .inl
  · rintro (h | ⟨_, q, h1, h2, _⟩)
    · exact h
    · omega
theorem par_not {A : Prop} {z a : Int} (h : ¬ z < a) {B C : Prop} : (A ∨ (z < a ∧ B)) ↔ (A ∨ (z < a ∧ C)) := by
  constructor
  · rintro (h' | ⟨h', _⟩)
    · exact .inl h'
    · exact absurd h' h
  · rintro (h' | ⟨h', _⟩)
    · exact .inl h'
    · exact absurd h' h
theorem par_step {A : Prop} {z a : Int} (hz : z < a) {s : Nat} {p : Int × Int} : ((A ∨ (z < a ∧ ∃ q, 0 ≤ q ∧ q < (s : Int) ∧ z ≠ q ∧ p = pairOf z q)) ∨ (z ≠ (s : Int) ∧ p = pairOf z s)) ↔ (A ∨ (z < a ∧ ∃ q, 0 ≤ q ∧ q < ((s + 1 : Nat) : Int) ∧ z ≠ q ∧ p = pairOf z q)) := by
  rw [or_assoc]
  refine or_congr Iff.rfl ?_
  constructor
  · rintro (⟨_, q, h1, h2, h3⟩ | h)
    · exact ⟨hz, q, h1, by omega, h3⟩
    · exact ⟨hz, s, by omega, by omega, h⟩
  · rintro ⟨_, q, h1, h2, h3⟩
    by_cases e : q = s
    · subst e; exact .inr h3
    · exact .inl ⟨hz, q, h1, by omega, h3⟩
theorem par_take {A : Prop} {l : List Int} {r : Nat} {z : Int} (hr : r < l.length) (hz : z = l[r]) {a b : Int} {s : Nat} (hs : (s : Int) = max 0 (min a b)) {p : Int × Int} : ((A ∨ ∃ x ∈ l.take r, x < a ∧ ∃ q, 0 ≤ q ∧ q < min a b ∧ x ≠ q ∧ p = pairOf x q) ∨ (z < a ∧ ∃ q, 0 ≤ q ∧ q < (s : Int) ∧ z ≠ q ∧ p = pairOf z q)) ↔
    (A ∨ ∃ x ∈ l.take (r + 1), x < a ∧ ∃ q, 0 ≤ q ∧ q < min a b ∧ x ≠ q ∧ p = pairOf x q) := by
  rw [or_assoc]
  refine or_congr Iff.rfl ?_
  rw [List.take_add_one, List.getElem?_eq_getElem hr, ← hz]
  simp only [Option.toList_some, List.mem_append, List.mem_singleton]
  constructor
  · rintro (⟨x, hx, h⟩ | ⟨h1, q, h2, h3, h4⟩)
    · exact ⟨x, .inl hx, h⟩
    · exact ⟨z, .inr rfl, h1, q, h2, by omega, h4⟩
  · rintro ⟨x, hx | rfl, h1, q, h2, h3, h4⟩
    · exact .inl ⟨x, hx, h1, q, h2, h3, h4⟩
    · exact .inr ⟨h1, q, h2, by omega, h4⟩

set_option maxRecDepth 100000 in
set_option maxHeartbeats 4000000 in
theorem meets_any (f : LFlow) (bv : Value) (w : World) (hf : Fine w f bv) (hm : mayB f.blocks = true) (n : Nat) (hv : f.values = n) (hn : n ≤ 50000) (hpl : ∀ v ∈ placesL f.blocks, v < n) :
    Calls Try.prog 16 #[f.agg bv] w fun e w' => ∃ T M P R pairs cs adj, e = .returned (.pointer (some ⟨M, 0, none⟩)) ∧ Meets w' w.heap.size T M P R n pairs cs adj ∧ (∀ p, p ∈ pairs ↔ MeetS f p) ∧ Below w.heap.size w w' := by
  have hmm := @run_makeMap Try.prog
  obtain ⟨a0, c0, rfl, hlen⟩ := RSl.form hf.blocks
  have HF := Lib.hid hf
  have HM := Lib.hid hm
  have HPL := Lib.hid hpl
  have HV := Lib.hid hv
  have hvc : Value.int .i64 f.values = I n := by rw [hv]
  clear hf hm hpl hv
  refine (callsIn_wide (n := 8)).1 ?_
  refine callsIn_of_wp Try.func16 rfl trivial ?_ rfl
  simp only [Try.ntmps16, List.size_toArray, List.length_cons, List.length_nil, Nat.reduceAdd, Nat.reduceSub, Array.replicate_succ, Array.replicate_zero, List.push_toArray, List.append_toArray, List.nil_append, List.cons_append]
  gi_wp2_with (first
    | (gi_at_make; refine wpListIn_make1 (z := .slice none 0 0) slInts (by kernel_rfl) rfl rfl _ _ rfl n rfl rfl (by omega) (by omega) ?_)
    | gi_in)
  obtain ⟨W0, hW0⟩ : ∃ W0, ((((w.alloc (.cells #[.string f.name, .int .i64 f.params, I n, .slice a0 f.blocks.length c0] 24)).alloc (.map #[] 0)).alloc (.cells (Array.replicate n (.slice none 0 0)) 32)).alloc (.cells #[.map (some (w.heap.size + 1)), .slice (some ⟨w.heap.size + 1 + 1, 0, none⟩) n n] 60)) = W0 := ⟨_, rfl⟩
  rw [hW0]
  have hq : W0.heap.size = w.heap.size + 4 ∧ Below w.heap.size w W0 ∧ W0.heap[w.heap.size]? = some (.cells (f.cells (.slice a0 f.blocks.length c0)) 24 (0, 0)) ∧ W0.heap[w.heap.size + 1]? = some (.map #[] 0) ∧ Row W0 (w.heap.size + 2) 32 (List.replicate n (.slice none 0 0)) ∧ W0.heap[w.heap.size + 3]? = some (.cells #[.map (some (w.heap.size + 1)), .slice (some ⟨w.heap.size + 2, 0, none⟩) n n] 60 (0, 0)) := by
    subst hW0
    refine ⟨by simp, ((below_a2 w _ _).alloc (by simp; omega) _).alloc (by simp; omega) _, ?_, ?_, ?_, ?_⟩
    · have : f.cells (.slice a0 f.blocks.length c0) = #[.string f.name, .int .i64 f.params, I n, .slice a0 f.blocks.length c0] := by rw [← hvc]
      rw [this]
      exact heap_old _ _ (heap_old _ _ (heap_old _ _ (heap_new _ _)))
    · exact heap_old _ _ (heap_old _ _ (heap_new2 _ _ _))
    · refine heap_old _ _ ?_
      have := heap_new ((w.alloc (.cells #[.string f.name, .int .i64 f.params, I n, .slice a0 f.blocks.length c0] 24)).alloc (.map #[] 0)) (.cells (Array.replicate n (Value.slice none 0 0)) 32)
      simpa using this
    · have := heap_new (((w.alloc (.cells #[.string f.name, .int .i64 f.params, I n, .slice a0 f.blocks.length c0] 24)).alloc (.map #[] 0)).alloc (.cells (Array.replicate n (Value.slice none 0 0)) 32)) (.cells #[.map (some (w.heap.size + 1)), .slice (some ⟨w.heap.size + 1 + 1, 0, none⟩) n n] 60)
      simpa using this
  have HQ := Lib.hid hq
  clear hq hW0 hvc
  have hfb : ∀ W, Below (w.heap.size + 4) W0 W → W.heap[w.heap.size]? = some (.cells (f.cells (.slice a0 f.blocks.length c0)) 24 (0, 0)) ∧ Below w.heap.size w W ∧ w.heap.size + 4 ≤ W.heap.size := fun W h =>
    ⟨(h.block _ (by omega)).trans HQ.out.2.2.1, HQ.out.2.1.trans (h.mono (by omega)), by have := h.size; rw [HQ.out.1] at this; exact this⟩
  have HFB := Lib.hid hfb
  clear hfb
  refine wpIn_region_rvP (by kernel_rfl) [] (by decide) (by kernel_rfl) (by kernel_rfl) (fun vs => by kernel_rfl)
    (fun k vs W => Below (w.heap.size + 4) W0 W)
    (fun W W' => Below W.heap.size W W')
    (fun i v W => match i with
      | 0 => v = f.agg (.slice a0 f.blocks.length c0)
      | 1 => ∃ g Ls, v = .slice (some ⟨g, 0, none⟩) f.blocks.length f.blocks.length ∧ w.heap.size + 4 ≤ g ∧ IsLive f W v Ls
      | 2 => v = f.agg (.slice a0 f.blocks.length c0)
      | 3 => ∃ base LLs, w.heap.size + 4 ≤ base ∧ IsAll f base W v LLs
      | 4 => ∃ g Ls, v = .slice (some ⟨g, 0, none⟩) f.blocks.length f.blocks.length ∧ w.heap.size + 4 ≤ g ∧ IsLive f W v Ls
      | 5 => ∃ base LLs, w.heap.size + 4 ≤ base ∧ IsAll f base W v LLs
      | _ => True) ?h0 ?hst ?hop ?hend
  case h0 => exact ⟨rfl, rfl, rfl, Nat.le_refl _, fun _ _ => rfl⟩
  case hst =>
    intro j v W W' hst hΦ
    match j, hΦ with
    | 0, h => exact h
    | 1, ⟨g, Ls, h1, h2, h3⟩ => exact ⟨g, Ls, h1, h2, h3.1.below hst, h3.2⟩
    | 2, h => exact h
    | 3, ⟨b, Ls, h1, h2⟩ => exact ⟨b, Ls, h1, h2.1, h2.2.1.below hst, h2.2.2⟩
    | 4, ⟨g, Ls, h1, h2, h3⟩ => exact ⟨g, Ls, h1, h2, h3.1.below hst, h3.2⟩
    | 5, ⟨b, Ls, h1, h2⟩ => exact ⟨b, Ls, h1, h2.1, h2.2.1.below hst, h2.2.2⟩
    | j + 6, h => trivial
  case hop =>
    refine ⟨?_, ?_, ?_, ?_, ?_, ?_, trivial⟩
    · rintro stg a W4 vs ho hstg hC hΦ hsz hr
      have r1 : a.tmps.getD 1 undef = (.pointer (some ⟨w.heap.size, 0, none⟩)) := (hr 1 (by simp [Oper.looksAt, Op.operands])).trans (show slotOf _ _ vs _ 1 = (.pointer (some ⟨w.heap.size, 0, none⟩)) from by kernel_rfl)
      obtain ⟨hk, hb, hl⟩ := HFB.out W4 hC
      have d0 := cell_of_block hk 0
      have d1 := cell_of_block hk 1
      have d2 := cell_of_block hk 2
      have d3 := cell_of_block hk 3
      simp only [List.getElem?_toArray, List.getElem?_cons_succ, List.getElem?_cons_zero] at d0 d1 d2 d3
      refine rg_val ho rfl (fun _ _ => trivial) (by intro c h; cases h) (v := f.agg (.slice a0 f.blocks.length c0)) (W' := W4) ?_ ⟨_, rfl, hC, Below.refl _ _, rfl⟩
      go_simp
    · rintro stg a W4 vs ho hstg hC hΦ hsz hr
      have r1 : a.tmps.getD 22 undef = _ := ((hr 22 (by simp [Oper.looksAt, Op.operands, Call.operands])).trans (show slotOf _ _ vs _ 22 = vs 0 from by kernel_rfl)).trans (hΦ 0 (by kernel_rfl))
      obtain ⟨hk, hb, hl⟩ := HFB.out W4 hC
      refine rg_call ho rfl (fun _ _ => trivial) (by intro c h; cases h) (f := 29) (args := #[f.agg (.slice a0 f.blocks.length c0)]) (W' := W4) ?_ (fun _ => by omega) (callsIn_wide.2 (live_yes f _ W4 (HF.out.below hb) HM.out)) ?_
      · go_simp
      · rintro e w5 ⟨g, Ls, rfl, hg, hL, hb5⟩
        exact ⟨_, rfl, _, rfl, hC.trans (hb5.mono hl), hb5, g, Ls, rfl, by omega, hL⟩
    · rintro stg a W4 vs ho hstg hC hΦ hsz hr
      have r1 : a.tmps.getD 1 undef = (.pointer (some ⟨w.heap.size, 0, none⟩)) := (hr 1 (by simp [Oper.looksAt, Op.operands])).trans (show slotOf _ _ vs _ 1 = (.pointer (some ⟨w.heap.size, 0, none⟩)) from by kernel_rfl)
      obtain ⟨hk, hb, hl⟩ := HFB.out W4 hC
      have d0 := cell_of_block hk 0
      have d1 := cell_of_block hk 1
      have d2 := cell_of_block hk 2
      have d3 := cell_of_block hk 3
      simp only [List.getElem?_toArray, List.getElem?_cons_succ, List.getElem?_cons_zero] at d0 d1 d2 d3
      refine rg_val ho rfl (fun _ _ => trivial) (by intro c h; cases h) (v := f.agg (.slice a0 f.blocks.length c0)) (W' := W4) ?_ ⟨_, rfl, hC, Below.refl _ _, rfl⟩
      go_simp
    · rintro stg a W4 vs ho hstg hC hΦ hsz hr
      have r1 : a.tmps.getD 24 undef = _ := ((hr 24 (by simp [Oper.looksAt, Op.operands, Call.operands])).trans (show slotOf _ _ vs _ 24 = vs 2 from by kernel_rfl)).trans (hΦ 2 (by kernel_rfl))
      obtain ⟨hk, hb, hl⟩ := HFB.out W4 hC
      refine rg_call ho rfl (fun _ _ => trivial) (by intro c h; cases h) (f := 32) (args := #[f.agg (.slice a0 f.blocks.length c0)]) (W' := W4) ?_ (fun _ => by omega) (callsIn_wide.2 (all_yes f _ W4 (HF.out.below hb) HM.out)) ?_
      · go_simp
      · rintro e w5 ⟨v, LLs, rfl, hL, hb5⟩
        exact ⟨_, rfl, _, rfl, hC.trans (hb5.mono hl), hb5, _, LLs, by omega, hL⟩
    · rintro stg a W4 vs ho hstg hC hΦ hsz hr
      have r1 : a.tmps.getD 23 undef = vs 1 := (hr 23 (by simp [Oper.looksAt, Op.operands])).trans (show slotOf _ _ vs _ 23 = vs 1 from by kernel_rfl)
      obtain ⟨g, Ls, h1, h2, h3⟩ := hΦ 1 (by kernel_rfl)
      rw [h1] at r1 h3
      refine rg_val ho rfl (fun _ _ => trivial) (by intro c h; cases h) (v := .slice (some ⟨g, 0, none⟩) f.blocks.length f.blocks.length) (W' := W4) ?_ ⟨_, rfl, hC, Below.refl _ _, g, Ls, rfl, h2, h3⟩
      go_simp
    · rintro stg a W4 vs ho hstg hC hΦ hsz hr
      have r1 : a.tmps.getD 25 undef = vs 3 := (hr 25 (by simp [Oper.looksAt, Op.operands])).trans (show slotOf _ _ vs _ 25 = vs 3 from by kernel_rfl)
      obtain ⟨b, Ls, h1, h2⟩ := hΦ 3 (by kernel_rfl)
      obtain ⟨xa, xc, hx, _⟩ := RSl.form h2.2.1
      rw [hx] at r1 h2
      refine rg_val ho rfl (fun _ _ => trivial) (by intro c h; cases h) (v := .slice xa Ls.length xc) (W' := W4) ?_ ⟨_, rfl, hC, Below.refl _ _, b, Ls, h1, h2⟩
      go_simp
  case hend =>
    rintro vs W2 hC hΦ
    obtain ⟨g, Ls, hv4, hgl, hlive⟩ := hΦ 4 (by decide)
    obtain ⟨base, LLs, hba, hall⟩ := hΦ 5 (by decide)
    obtain ⟨aa, ca, hv5, _⟩ := RSl.form hall.2.1
    simp only [putAll, Act.put]
    rw [hv4] at hlive
    rw [hv5] at hall
    obtain ⟨hk, hb, hl⟩ := HFB.out W2 hC
    have hT : Told f w W2 n (w.heap.size + 1 + 1 + 1) (w.heap.size + 1) (w.heap.size + 2) (.slice a0 f.blocks.length c0) (.slice (some ⟨g, 0, none⟩) f.blocks.length f.blocks.length) (.slice aa LLs.length ca) Ls LLs :=
      ⟨hb, hl, hk, (hC.block _ (by omega)).trans HQ.out.2.2.2.1, (hC.block _ (by omega)).trans HQ.out.2.2.2.2.1, (hC.block _ (by omega)).trans HQ.out.2.2.2.2.2, hlive, fun ad m c e => by cases e; exact hgl, ⟨base, hba, hall⟩, by omega, HM.out, HPL.out⟩
    rw [hv4, hv5, hall.2.2.1]
    rw [hall.2.2.1] at hT
    generalize w.heap.size + 1 + 1 + 1 = M at hT ⊢
    generalize w.heap.size + 1 = P at hT
    generalize w.heap.size + 2 = R at hT
    have HT := Lib.hid hT
    have d1 := cell_of_block hk 1
    have d2 := cell_of_block hk 2
    have d3 := cell_of_block hk 3
    simp only [List.getElem?_toArray, List.getElem?_cons_succ, List.getElem?_cons_zero] at d1 d2 d3
    clear hT hk hb hC hΦ hv4 hv5 hlive hall hba hgl HFB HQ hl
    have hn' : n ≤ 1000000 := by omega
    gi_wp2
    gi_loopg [29] f.blocks.length (fun gh i wr => ∃ k : Nat, gh + k = f.blocks.length ∧ i = I k ∧ MeetsPost w.heap.size W2.heap.size M P R n [] (fun p => ∃ i, i < k ∧ BlkM f i p) W2 wr)
    case atStart => exact ⟨0, rfl, rfl, HT.out.rest⟩
    case round =>
      obtain ⟨k, hg, rfl, hmp⟩ := hrel
      obtain ⟨wo, rfl⟩ : ∃ wo, wo = wr := ⟨_, rfl⟩
      have HMP := Lib.hid hmp
      have HBE := Lib.hid (HT.out.kbelow hmp.kept)
      clear hmp
      by_cases hlt : k < f.blocks.length
      · obtain ⟨b1, o1, c1, C, he, hC, h1', h2', h3', h4', gb⟩ := RSl.at HF.out.blocks hlt
        obtain ⟨rfl, rfl⟩ : a0 = some ⟨b1, o1, none⟩ ∧ c0 = c1 := by simpa using he
        obtain ⟨la, lc, l, hlm, hlr, hlcap, hlw⟩ := HT.out.live_at hlt
        obtain ⟨ba, oa, b2, o2, c2, rfl, haw, haj⟩ := HT.out.all_at hlt
        obtain ⟨blk, hblk⟩ : ∃ blk, blk = f.blocks[k] := ⟨_, rfl⟩
        rw [← hblk] at h1' h2' h3' h4' gb haw haj
        have hcell : ∀ j, j < 5 → wo.cell? ⟨b1, o1 + k * 5 + j, none⟩ = some (C j) := fun j hj => by
          rw [HBE.out.cell (p := ⟨b1, o1 + k * 5 + j, none⟩) (World.block_lt_of_cell? w _ (hC j hj))]; exact hC j hj
        obtain ⟨ai, ci, hiv, hilen⟩ := RSl.form gb.ins
        have e0 := hcell 0 (by decide); rw [hiv] at e0 gb
        have e1 := hcell 1 (by decide); rw [h1'] at e1
        have e2 := hcell 2 (by decide); rw [h2'] at e2
        have e3 := hcell 3 (by decide); rw [h3'] at e3
        have e4 := hcell 4 (by decide); rw [h4'] at e4
        simp only [Nat.add_zero] at e0
        have HGB := Lib.hid gb
        have HBK := Lib.hid hblk
        have hle := HBE.out.size
        have HLM := Lib.hid hlm
        have HLR := Lib.hid hlr
        have HLW := Lib.hid hlw
        have HLC := Lib.hid hlcap
        have HAW := Lib.hid haw
        have HAJ := Lib.hid haj
        have hlc := (hlw wo HMP.out.kept).1
        have hll : l.length ≤ 140737488351232 := by obtain ⟨_, _, _, h⟩ := RSl.form (hlw wo HMP.out.kept).2; exact h
        have hlt2 : (k : Int) < (f.blocks.length : Int) := by omega
        have hglt : g < wo.heap.size := World.block_lt_of_cell? wo _ hlc
        clear hC hcell h1' h2' h3' h4' he gb hiv hblk hlm hlr hlw hlcap haw haj
        gi_wp2_with (first
          | (refine ⟨trivial, ?_⟩; gi_at_call 33; refine (callsIn_wide.2 (mall_P w.heap.size W2.heap.size M P R n _ W2 _ (HMP.out.grown (alloc_grown _ _ none)) hn' _ l (fun w' hk => (HLW.out w' hk).2) HLC.out HLR.out)).mono ?_; rintro e w1 ⟨⟨v1, rfl⟩, hm1, hk1⟩; have hx1 := hk1.tag _ _ _ (heap_new wo _); have ha1 := HAW.out w1 hm1.kept; have HM1 := Lib.hid hm1; have HX1 := Lib.hid hx1; clear hm1 hk1 hx1)
          | gi_in)
        gi_loopg [45] (blk.ins.length + 1) (fun gh i wr => ∃ j : Nat, gh + j = blk.ins.length + 1 ∧ i = I j ∧ MeetsPost w.heap.size W2.heap.size M P R n [] (fun p => ((∃ i, i < k ∧ BlkM f i p) ∨ LiveM f k p) ∨ ∃ j', j' < j ∧ AftM f blk j' p) W2 wr ∧ wr.heap[wo.heap.size]? = some (.cells #[.slice ai blk.ins.length ci, I blk.term.kind, I blk.term.a, I blk.term.to, I blk.term.els] 46 (0, 0)))
        case atStart =>
          refine ⟨0, by omega, rfl, HM1.out.iff (fun p => ?_), HX1.out⟩
          simp only [Nat.not_lt_zero, false_and, exists_false, or_false]
          refine or_congr Iff.rfl ?_
          unfold AllMeet LiveM
          constructor
          · rintro ⟨a, ha, b, hb, h1, h2⟩
            exact ⟨a, (HLM.out a).1 ha, b, (HLM.out b).1 hb, h1, h2⟩
          · rintro ⟨a, ha, b, hb, h1, h2⟩
            exact ⟨a, (HLM.out a).2 ha, b, (HLM.out b).2 hb, h1, h2⟩
        case round =>
          obtain ⟨j, hg', rfl, hmx, hbx⟩ := hrel
          obtain ⟨wx, rfl⟩ : ∃ wx, wx = wr := ⟨_, rfl⟩
          have HMX := Lib.hid hmx
          have HBX := Lib.hid hbx
          clear hmx hbx
          by_cases hlt' : j < blk.ins.length + 1
          · obtain ⟨ya, yc, q, hqm, hqr, hqc, hqw⟩ := HAJ.out j hlt'
            have hqcell := (hqw wx HMX.out.kept).1
            have hql : q.length ≤ 140737488351232 := by obtain ⟨_, _, _, h⟩ := RSl.form (hqw wx HMX.out.kept).2; exact h
            have HQM := Lib.hid hqm
            have HQR := Lib.hid hqr
            have HQC := Lib.hid hqc
            have HQW := Lib.hid hqw
            have hj2 : (j : Int) < ((blk.ins.length + 1 : Nat) : Int) := by omega
            have hj3 : (j : Int) < (blk.ins.length : Int) + 1 := by omega
            clear hqm hqr hqc hqw
            by_cases hje : j = blk.ins.length
            · have hjb : ((j : Int) == (blk.ins.length : Int)) = true := by rw [hje]; simp
              have HJE := Lib.hid hje
              clear hje
              gi_wp2_with (first
                | (refine ⟨trivial, ?_⟩; gi_at_call 33; refine (callsIn_wide.2 (mall_P w.heap.size W2.heap.size M P R n _ W2 _ HMX.out hn' _ q (fun w' hk => (HQW.out w' hk).2) HQC.out HQR.out)).mono ?_; rintro e w3 ⟨⟨v3, rfl⟩, hm3, hk3⟩; have hx3 := hk3.tag _ _ _ HBX.out; have d0 := cell_of_block hx3 0; simp only [List.getElem?_toArray, List.getElem?_cons_zero] at d0; have HM3 := Lib.hid hm3; have HX3 := Lib.hid hx3; clear hm3 hk3 hx3)
                | gi_in)
              gi_roundg (blk.ins.length + 1 - (j + 1))
              case measure => omega
              case rel => exact ⟨j + 1, by omega, by go_num, HM3.out.iff (fun p => aft_last HJE.out HQM.out p), HX3.out⟩
            · have hjb : ((j : Int) == (blk.ins.length : Int)) = false := by simp only [beq_eq_false_iff_ne, ne_eq]; omega
              have hji : j < blk.ins.length := by omega
              have hji2 : (j : Int) < (blk.ins.length : Int) := by omega
              clear hje
              obtain ⟨b3, o3, c3, C, he, hC, h0', h1', h2', h3', h4', h5', h6', gi⟩ := RSl.at HGB.out.ins hji
              obtain ⟨rfl, rfl⟩ : ai = some ⟨b3, o3, none⟩ ∧ ci = c3 := by simpa using he
              obtain ⟨ins, hins⟩ : ∃ ins, ins = blk.ins[j] := ⟨_, rfl⟩
              rw [← hins] at h0' h1' h2' h3' h4' h5' h6' gi
              obtain ⟨aa, ca', hav, halen⟩ := RSl.form gi.args
              have hcell : ∀ W3, Below w.heap.size w W3 → ∀ i, i < 8 → W3.cell? ⟨b3, o3 + j * 8 + i, none⟩ = some (C i) := fun W3 hb i hi => by
                rw [hb.cell (p := ⟨b3, o3 + j * 8 + i, none⟩) (World.block_lt_of_cell? w _ (hC i hi))]; exact hC i hi
              have hcells : ∀ W3, Below w.heap.size w W3 → W3.cell? ⟨b3, o3 + j * 8, none⟩ = some (I ins.kind) ∧ W3.cell? ⟨b3, o3 + j * 8 + 1, none⟩ = some (I ins.d) ∧ W3.cell? ⟨b3, o3 + j * 8 + 2, none⟩ = some (I ins.a) ∧ W3.cell? ⟨b3, o3 + j * 8 + 3, none⟩ = some (I ins.b) ∧ W3.cell? ⟨b3, o3 + j * 8 + 4, none⟩ = some (I ins.op) ∧ W3.cell? ⟨b3, o3 + j * 8 + 5, none⟩ = some (I ins.n) ∧ W3.cell? ⟨b3, o3 + j * 8 + 6, none⟩ = some (.string ins.name) ∧ W3.cell? ⟨b3, o3 + j * 8 + 7, none⟩ = some (.slice aa ins.args.length ca') := fun W3 hb => by
                have e0 := hcell W3 hb 0 (by decide); rw [h0'] at e0
                have e1 := hcell W3 hb 1 (by decide); rw [h1'] at e1
                have e2 := hcell W3 hb 2 (by decide); rw [h2'] at e2
                have e3 := hcell W3 hb 3 (by decide); rw [h3'] at e3
                have e4 := hcell W3 hb 4 (by decide); rw [h4'] at e4
                have e5 := hcell W3 hb 5 (by decide); rw [h5'] at e5
                have e6 := hcell W3 hb 6 (by decide); rw [h6'] at e6
                have e7 := hcell W3 hb 7 (by decide); rw [hav] at e7
                exact ⟨e0, e1, e2, e3, e4, e5, e6, e7⟩
              have HCE := Lib.hid hcells
              have HIN := Lib.hid hins
              have hdn : setsI ins.kind ins.d < n := HPL.out _ (sets_places (b := blk) (by rw [HBK.out]; exact List.getElem_mem hlt) (by rw [hins]; exact List.getElem_mem hji))
              clear hC hcell h0' h1' h2' h3' h4' h5' h6' he gi hav hins hcells e0 e1 e2 e3 e4
              obtain ⟨d, hd⟩ : ∃ d, d = setsI ins.kind ins.d := ⟨_, rfl⟩
              rw [← hd] at hdn
              have HD := Lib.hid hd
              clear hd
              by_cases hd0 : 0 ≤ d
              · gi_wp2_with (first
                  | (refine ⟨trivial, ?_⟩; gi_at_call 33; refine (callsIn_wide.2 (mall_P w.heap.size W2.heap.size M P R n _ W2 _ HMX.out hn' _ q (fun w' hk => (HQW.out w' hk).2) HQC.out HQR.out)).mono ?_; rintro e w3 ⟨⟨v3, rfl⟩, hm3, hk3⟩; have hx3 := hk3.tag _ _ _ HBX.out; have d0 := cell_of_block hx3 0; simp only [List.getElem?_toArray, List.getElem?_cons_zero] at d0; obtain ⟨e0, e1, e2, e3, e4, e5, e6, e7⟩ := HCE.out w3 (HT.out.kbelow hm3.kept); have HM3 := Lib.hid hm3; have HX3 := Lib.hid hx3; clear hm3 hk3 hx3)
                  | (refine ⟨trivial, ?_⟩; gi_at_call 34; refine (callsIn_wide.2 (irSets_any _ _ _ _ _ _ _ _ _)).mono ?_; rintro e w4 ⟨rfl, hb4⟩; rw [← HD.out]; have hg4 := below_grown hb4 none; have HM4 := Lib.hid (HM3.out.grown hg4); have HX4 := Lib.hid (grown_old hg4 HX3.out (by simp)); clear hb4 hg4 e0 e1 e2 e3 e4 e5 e6 e7)
                  | gi_in)
                gi_loopg [68] q.length (fun gh i wr => ∃ r : Nat, gh + r = q.length ∧ i = I r ∧ MeetsPost w.heap.size W2.heap.size M P R n [] (fun p => ((((∃ i, i < k ∧ BlkM f i p) ∨ LiveM f k p) ∨ ∃ j', j' < j ∧ AftM f blk j' p) ∨ AllMeet q p) ∨ ∃ x ∈ q.take r, x ≠ d ∧ p = pairOf x d) W2 wr ∧ wr.heap[wo.heap.size]? = some (.cells #[.slice (some ⟨b3, o3, none⟩) blk.ins.length ci, I blk.term.kind, I blk.term.a, I blk.term.to, I blk.term.els] 46 (0, 0)))
                case atStart => exact ⟨0, by omega, rfl, HM4.out.iff (fun p => by simp), HX4.out⟩
                case round =>
                  obtain ⟨r, hg'', rfl, hmy, hby⟩ := hrel
                  obtain ⟨wy, rfl⟩ : ∃ wy, wy = wr := ⟨_, rfl⟩
                  have HMY := Lib.hid hmy
                  have HBY := Lib.hid hby
                  clear hmy hby
                  by_cases hrl : r < q.length
                  · obtain ⟨b4, o4, c4, he, hc, hi⟩ := RInts.at (HQW.out wy HMY.out.kept).2 hrl
                    obtain ⟨rfl, rfl⟩ : ya = some ⟨b4, o4, none⟩ ∧ yc = c4 := by simpa using he
                    clear he
                    have HRR := Lib.hid (HQR.out q[r] (List.getElem_mem hrl))
                    gi_wp2_with (first
                      | (refine ⟨trivial, ?_⟩; gi_at_call 35; refine (callsIn_wide.2 (meet_P w.heap.size W2.heap.size M P R n _ W2 _ HMY.out hn' q[r] d HRR.out ⟨hd0, hdn⟩)).mono ?_; rintro e w5 ⟨⟨v5, rfl⟩, hm5, hk5⟩; have HM5 := Lib.hid hm5; have HX5 := Lib.hid (hk5.tag _ _ _ HBY.out); clear hm5 hk5)
                      | gi_in)
                    gi_roundg (q.length - (r + 1))
                    case measure => omega
                    case rel => exact ⟨r + 1, by omega, by go_num, HM5.out.iff (fun p => take_or hrl p), HX5.out⟩
                  · gi_wp2
                    gi_roundg (blk.ins.length + 1 - (j + 1))
                    case measure => omega
                    case rel => exact ⟨j + 1, by omega, by go_num, HMY.out.iff (fun p => aft_set (show q.length ≤ r by omega) hji HIN.out HD.out hd0 HQM.out p), HBY.out⟩
              · gi_wp2_with (first
                  | (refine ⟨trivial, ?_⟩; gi_at_call 33; refine (callsIn_wide.2 (mall_P w.heap.size W2.heap.size M P R n _ W2 _ HMX.out hn' _ q (fun w' hk => (HQW.out w' hk).2) HQC.out HQR.out)).mono ?_; rintro e w3 ⟨⟨v3, rfl⟩, hm3, hk3⟩; have hx3 := hk3.tag _ _ _ HBX.out; have d0 := cell_of_block hx3 0; simp only [List.getElem?_toArray, List.getElem?_cons_zero] at d0; obtain ⟨e0, e1, e2, e3, e4, e5, e6, e7⟩ := HCE.out w3 (HT.out.kbelow hm3.kept); have HM3 := Lib.hid hm3; have HX3 := Lib.hid hx3; clear hm3 hk3 hx3)
                  | (refine ⟨trivial, ?_⟩; gi_at_call 34; refine (callsIn_wide.2 (irSets_any _ _ _ _ _ _ _ _ _)).mono ?_; rintro e w4 ⟨rfl, hb4⟩; rw [← HD.out]; have hg4 := below_grown hb4 none; have HM4 := Lib.hid (HM3.out.grown hg4); have HX4 := Lib.hid (grown_old hg4 HX3.out (by simp)); clear hb4 hg4 e0 e1 e2 e3 e4 e5 e6 e7)
                  | gi_in)
                gi_roundg (blk.ins.length + 1 - (j + 1))
                case measure => omega
                case rel => exact ⟨j + 1, by omega, by go_num, HM4.out.iff (fun p => aft_none hji HIN.out HD.out (by omega) HQM.out p), HX4.out⟩
          · gi_wp2
            gi_roundg (f.blocks.length - (k + 1))
            case measure => omega
            case rel => exact ⟨k + 1, by omega, by go_num, HMX.out.iff (fun p => blk_step hlt HBK.out (by omega) p)⟩
      · by_cases h0 : f.blocks.length = 0
        · have hk0 : ((f.blocks.length : Int) == 0) = true := by rw [h0]; rfl
          have H0 := Lib.hid h0
          clear h0
          gi_wp2
          refine bodyPost_ret (results_tmp rfl _ _ _) rfl ?_
          obtain ⟨pairs, cs, adj, hmm', hp, hk⟩ := HMP.out
          exact ⟨_, _, _, _, pairs, cs, adj, rfl, hmm', fun p => by rw [hp p]; exact all_none (by have := H0.out; omega) H0.out p, HBE.out⟩
        · have hk0 : ((f.blocks.length : Int) == 0) = false := by simp only [beq_eq_false_iff_ne, ne_eq]; omega
          have h0' : 0 < f.blocks.length := by omega
          obtain ⟨la, lc, l, hlm, hlr, hlcap, hlw⟩ := HT.out.live_at h0'
          have hlc := (hlw wo HMP.out.kept).1
          have hll : l.length ≤ 140737488351232 := by obtain ⟨_, _, _, h⟩ := RSl.form (hlw wo HMP.out.kept).2; exact h
          have HLM := Lib.hid hlm
          have HLR := Lib.hid hlr
          have HLW := Lib.hid hlw
          clear hlm hlr hlw hlcap
          have h0i : (0 : Int) < (f.blocks.length : Int) := by omega
          gi_wp2
          gi_loopg [87] l.length (fun gh i wr => ∃ r : Nat, gh + r = l.length ∧ i = I r ∧ MeetsPost w.heap.size W2.heap.size M P R n [] (fun p => (∃ i, i < k ∧ BlkM f i p) ∨ ∃ x ∈ l.take r, x < f.params ∧ ∃ q, 0 ≤ q ∧ q < min f.params f.values ∧ x ≠ q ∧ p = pairOf x q) W2 wr)
          case atStart => exact ⟨0, by omega, rfl, HMP.out.iff (fun p => by simp)⟩
          case round =>
            obtain ⟨r, hg'', rfl, hmy⟩ := hrel
            obtain ⟨wy, rfl⟩ : ∃ wy, wy = wr := ⟨_, rfl⟩
            have HMY := Lib.hid hmy
            have hfl := HT.out.kflow hmy.kept
            have f1 := cell_of_block hfl 1
            have f2 := cell_of_block hfl 2
            simp only [List.getElem?_toArray, List.getElem?_cons_succ, List.getElem?_cons_zero] at f1 f2
            clear hmy hfl
            by_cases hrl : r < l.length
            · obtain ⟨b4, o4, c4, he, hc, hi⟩ := RInts.at (HLW.out wy HMY.out.kept).2 hrl
              obtain ⟨rfl, rfl⟩ : la = some ⟨b4, o4, none⟩ ∧ lc = c4 := by simpa using he
              clear he
              have HRR := Lib.hid (HLR.out l[r] (List.getElem_mem hrl))
              obtain ⟨z, hz⟩ : ∃ z, z = l[r] := ⟨_, rfl⟩
              rw [← hz] at hc hi HRR
              have HZ := Lib.hid hz
              clear hz
              have hvv := HV.out
              have HVV := Lib.hid hvv
              clear hvv
              gi_wp2
              gi_loopg [96] (min f.params f.values).toNat (fun gh i wr => ∃ s : Nat, gh + s = (min f.params f.values).toNat ∧ i = I s ∧ MeetsPost w.heap.size W2.heap.size M P R n [] (fun p => ((∃ i, i < k ∧ BlkM f i p) ∨ ∃ x ∈ l.take r, x < f.params ∧ ∃ q, 0 ≤ q ∧ q < min f.params f.values ∧ x ≠ q ∧ p = pairOf x q) ∨ (z < f.params ∧ ∃ q, 0 ≤ q ∧ q < (s : Int) ∧ z ≠ q ∧ p = pairOf z q)) W2 wr)
              case atStart => exact ⟨0, by omega, rfl, HMY.out.iff (fun p => par_zero)⟩
              case round =>
                obtain ⟨s, hg3, rfl, hmz⟩ := hrel
                obtain ⟨wz, rfl⟩ : ∃ wz, wz = wr := ⟨_, rfl⟩
                have HMZ := Lib.hid hmz
                have hfl := HT.out.kflow hmz.kept
                have f1 := cell_of_block hfl 1
                have f2 := cell_of_block hfl 2
                simp only [List.getElem?_toArray, List.getElem?_cons_succ, List.getElem?_cons_zero] at f1 f2
                clear hmz hfl
                by_cases hsl : (s : Int) < min f.params f.values
                · have hsn : (s : Int) < 50000 := by have := HVV.out; omega
                  by_cases hzp : z < f.params
                  · gi_wp2_with (first
                      | (refine ⟨trivial, ?_⟩; gi_at_call 35; refine (callsIn_wide.2 (meet_P w.heap.size W2.heap.size M P R n _ W2 _ HMZ.out hn' z s HRR.out (by have := HVV.out; omega))).mono ?_; rintro e w5 ⟨⟨v5, rfl⟩, hm5, hk5⟩; have HM5 := Lib.hid hm5; clear hm5 hk5)
                      | gi_in)
                    gi_roundg ((min f.params f.values).toNat - (s + 1))
                    case measure => omega
                    case rel => exact ⟨s + 1, by omega, by go_num, HM5.out.iff (fun p => par_step hzp)⟩
                  · gi_wp2
                    gi_roundg ((min f.params f.values).toNat - (s + 1))
                    case measure => omega
                    case rel => exact ⟨s + 1, by omega, by go_num, HMZ.out.iff (fun p => par_not (by omega))⟩
                · gi_wp2
                  gi_roundg (l.length - (r + 1))
                  case measure => omega
                  case rel => exact ⟨r + 1, by omega, by go_num, HMZ.out.iff (fun p => par_take hrl HZ.out (by omega))⟩
            · gi_wp2
              refine bodyPost_ret (results_tmp rfl _ _ _) rfl ?_
              obtain ⟨pairs, cs, adj, hmm', hp, hk⟩ := HMY.out
              exact ⟨_, _, _, _, pairs, cs, adj, rfl, hmm', fun p => by rw [hp p]; exact all_some (by omega) h0' (by omega) HLM.out p, HT.out.kbelow hk⟩

end Go.Proofs.Ytdlcpmjhngfgkaa
