import Derived.Test.YtdlcpmjhngfgkaaD5
namespace Go.Proofs.Ytdlcpmjhngfgkaa
open Go.RowKit Go.Shelf
attribute [local go_sem] Oper.semAt_some

theorem slLists : SlT 71 58 1 24 := SlT.mk' (z := .slice none 0 0) Try.underlying71 (by kernel_rfl) rfl (by decide)
/-- the slice's block is none below base -/
def FromB (base : Nat) (v : Value) : Prop := ∀ ad m c, v = .slice (some ad) m c → base ≤ ad.block
def RLLst (base : Nat) (w : World) (C : Nat → Value) (l : List (List Int)) : Prop := RLs w (C 0) l ∧ FromB base (C 0)
def RLLs (base : Nat) : World → Value → List (List (List Int)) → Prop := RSl 1 (RLLst base)
theorem RLLs.below {base : Nat} {w w' : World} (hb : Below w.heap.size w w') {v : Value} {l : List (List (List Int))} (h : RLLs base w v l) : RLLs base w' v l :=
  RSl.below (R := RLLst base) (fun hb h => ⟨RLs.below hb h.1, h.2⟩) hb h
theorem OwnLists.from {W : World} {base : Nat} {v : Value} {Ls : List (List Int)} (h : OwnLists W base v Ls) : FromB base v := by
  obtain ⟨vs, h1, _⟩ := h
  rintro ad m c rfl
  rcases h1.2 with ⟨h, _⟩ | ⟨g, cap, _, h, hb, _⟩
  · cases h
  · cases h; exact hb

theorem OwnLists.slice {W : World} {base : Nat} {v : Value} {Ls : List (List Int)} (h : OwnLists W base v Ls) : ∃ a c, v = .slice a Ls.length c := by
  obtain ⟨vs, h1, h2, _⟩ := h
  rcases h1.2 with ⟨rfl, h⟩ | ⟨g, cap, _, rfl, _⟩
  · exact ⟨_, _, by rw [← h2, h]⟩
  · exact ⟨_, _, by rw [← h2]⟩
theorem OwnLists.mono {W : World} {base base' : Nat} {v : Value} {Ls : List (List Int)} (h : OwnLists W base v Ls) (hb : base' ≤ base) : OwnLists W base' v Ls := by
  obtain ⟨vs, h1, h2, h3⟩ := h
  exact ⟨vs, ⟨h1.1, h1.2.imp id fun ⟨g, cap, cur, e1, e2, e3⟩ => ⟨g, cap, cur, e1, Nat.le_trans hb e2, e3⟩⟩, h2, fun i x l hx hl => (h3 i x l hx hl).mono hb⟩
theorem OwnLists.reads {W : World} {base : Nat} {v : Value} {Ls : List (List Int)} (h : OwnLists W base v Ls) (hn : Ls.length ≤ 140737488351232) (hi : ∀ l ∈ Ls, (∀ x ∈ l, InI x) ∧ l.length ≤ 140737488351232) : RLs W v Ls := by
  obtain ⟨vs, h1, h2, h3⟩ := h
  rcases h1.2 with ⟨rfl, h0⟩ | ⟨g, cap, cur, rfl, hb, hg, hc, hm, hs, ht⟩
  · have : Ls = [] := List.eq_nil_of_length_eq_zero (by omega)
    subst this
    exact ⟨_, _, rfl, by simp, .inl rfl⟩
  · refine ⟨_, cap, by rw [h2], hn, .inr ⟨g, 0, rfl, fun i l hl => ?_⟩⟩
    have hlt := (List.getElem?_eq_some_iff.1 hl).1
    have hv : i < vs.length := by omega
    refine ⟨fun _ => vs[i], fun j hj => ?_, ?_⟩
    · obtain rfl : j = 0 := by omega
      rw [cell_of_block hg]
      rw [Nat.mul_one] at ht
      have : cur.toList[i]? = vs[i]? := by rw [← ht, List.getElem?_take, if_pos hv]
      rw [List.getElem?_eq_getElem hv] at this
      simpa using this
    · have ho := h3 i _ l (List.getElem?_eq_getElem hv) hl
      exact ⟨ho.reads (hi l (List.mem_of_getElem? hl)).1 (hi l (List.mem_of_getElem? hl)).2, ho.cap⟩

/-- a row of slices of slices of ints, the first k of them filled in -/
structure MRow (W : World) (base g n k : Nat) (cs : List Value) (Lx : List (List (List Int))) : Prop where
  row : Row W g 58 cs
  len : cs.length = n
  lk : Lx.length = k
  kn : k ≤ n
  sl : ∀ v ∈ cs, ∃ a n c, v = .slice a n c
  own : ∀ (i : Nat) (x : Value) (l : List (List Int)), cs[i]? = some x → Lx[i]? = some l → OwnLists W base x l

theorem MRow.grown {W W' : World} {base g n k : Nat} {cs : List Value} {Lx : List (List (List Int))} (h : MRow W base g n k cs Lx) (hg : W.grownBy W' none) : MRow W' base g n k cs Lx :=
  ⟨h.row.kept hg (by simp), h.len, h.lk, h.kn, h.sl, fun i x l h1 h2 => (h.own i x l h1 h2).tag hg (NoTag.none _ _) (NoTag.none _ _)⟩
theorem MRow.put {W : World} {base g n k : Nat} {cs : List Value} {Lx : List (List (List Int))} (h : MRow W base g n k cs Lx) (hk : k < n) {v : Value} {l : List (List Int)} (hv : OwnLists W base v l) : MRow (W.setCell ⟨g, k, none⟩ v) base g n (k + 1) (cs.set k v) (Lx ++ [l]) := by
  have hg := setCell_grown W g k v
  have ht := NoTag.box 3 h.row (by decide)
  have ht' := NoTag.box 32 h.row (by decide)
  refine ⟨h.row.set k v, by simpa using h.len, by simp [h.lk], hk, fun x hx => ?_, fun i x m h1 h2 => ?_⟩
  · rcases List.mem_or_eq_of_mem_set hx with hx | rfl
    · exact h.sl x hx
    · obtain ⟨a, c, e⟩ := hv.slice
      exact ⟨a, _, c, e⟩
  · by_cases hi : i = k
    · subst hi
      rw [List.getElem?_set_self (by rw [h.len]; exact hk)] at h1
      rw [List.getElem?_append_right (by rw [h.lk]; exact Nat.le_refl _), h.lk] at h2
      simp at h1 h2
      subst h1 h2
      exact hv.tag hg ht ht'
    · rw [List.getElem?_set_ne (fun e => hi e.symm)] at h1
      have : i < Lx.length := by
        have := (List.getElem?_eq_some_iff.1 h2).1
        simp [h.lk] at this ⊢; omega
      rw [List.getElem?_append_left this] at h2
      exact (h.own i x m h1 h2).tag hg ht ht'
theorem MRow.reads {W : World} {base g n : Nat} {cs : List Value} {Lx : List (List (List Int))} (h : MRow W base g n n cs Lx) (hn : n ≤ 140737488351232) (hi : ∀ Ls ∈ Lx, Ls.length ≤ 140737488351232 ∧ ∀ l ∈ Ls, (∀ x ∈ l, InI x) ∧ l.length ≤ 140737488351232) : RLLs base W (.slice (some ⟨g, 0, none⟩) n n) Lx := by
  refine ⟨_, n, by rw [h.lk], by rw [h.lk]; exact hn, .inr ⟨g, 0, rfl, fun i l hl => ?_⟩⟩
  have hlt := (List.getElem?_eq_some_iff.1 hl).1
  have hlt' : i < cs.length := by rw [h.len, ← h.lk]; exact hlt
  refine ⟨fun _ => cs[i], fun j hj => ?_, ?_⟩
  · obtain rfl : j = 0 := by omega
    rw [h.row.cell]
    simp [List.getElem?_eq_getElem hlt']
  · have ho := h.own i _ l (List.getElem?_eq_getElem hlt') hl
    exact ⟨ho.reads (hi l (List.mem_of_getElem? hl)).1 (hi l (List.mem_of_getElem? hl)).2, ho.from⟩

theorem foldr_congr' (l : List LIns) {S S' : Int → Prop} (h : ∀ v, S v ↔ S' v) (v : Int) : l.foldr aheadS S v ↔ l.foldr aheadS S' v :=
  ⟨foldr_mono l (fun v => (h v).1) v, foldr_mono l (fun v => (h v).2) v⟩
theorem AfterS_congr {b : LBlock} {L L' : Nat → Int → Prop} (h : ∀ k ∈ b.term.next, ∀ v, L k.toNat v ↔ L' k.toNat v) (k : Nat) (v : Int) : AfterS b L k v ↔ AfterS b L' k v := by
  refine foldr_congr' _ (fun v => ?_) v
  unfold endS
  constructor
  · rintro (⟨k, hk, h1⟩ | h1)
    · exact .inl ⟨k, hk, (h k hk v).1 h1⟩
    · exact .inr h1
  · rintro (⟨k, hk, h1⟩ | h1)
    · exact .inl ⟨k, hk, (h k hk v).2 h1⟩
    · exact .inr h1

theorem AfterS_uses {bl : List LBlock} {b : LBlock} (hb : b ∈ bl) {k : Nat} {v : Int} (h : AfterS b (LiveS bl) k v) : v ∈ allUses bl := by
  refine foldr_uses _ _ (· ∈ allUses bl) (fun u hu => ?_) (fun x hx u hu => ?_) v h
  · rcases hu with ⟨k, _, hu⟩ | hu
    · exact LiveS_uses hu
    · exact List.mem_flatMap.2 ⟨b, hb, List.mem_append_right _ hu⟩
  · exact List.mem_flatMap.2 ⟨b, hb, List.mem_append_left _ (List.mem_flatMap.2 ⟨x, List.mem_of_mem_drop hx, hu⟩)⟩

def AllPost (f : LFlow) (w : World) (e : Ending) (w' : World) : Prop :=
  ∃ v, e = .returned v ∧ Below w.heap.size w w' ∧ ((mayB f.blocks = false ∧ v = .slice none 0 0) ∨ (mayB f.blocks = true ∧ ∃ (LLs : List (List (List Int))), FromB (w.heap.size + 1) v ∧ RLLs (w.heap.size + 1) w' v LLs ∧ LLs.length = f.blocks.length ∧
    ∀ (i : Nat) (b : LBlock) (Ls : List (List Int)), f.blocks[i]? = some b → LLs[i]? = some Ls → Ls.length = b.ins.length + 1 ∧ ∀ (k : Nat) (l : List Int), Ls[k]? = some l → l.Nodup ∧ ∀ x, x ∈ l ↔ AfterS b (LiveS f.blocks) k x))

set_option maxRecDepth 100000 in
set_option maxHeartbeats 4000000 in
theorem all_any (f : LFlow) (bv : Value) (w : World) (hbv : RSl 5 RBlk w bv f.blocks) (hszf : f.blocks.length ≤ 1000000000) (hU : (allUses f.blocks).length ≤ 1000000000000) (hil : ∀ b ∈ f.blocks, b.ins.length ≤ 1000000000) :
    Calls Try.prog 32 #[f.agg bv] w (AllPost f w) := by
  obtain ⟨a0, c0, rfl, hlen⟩ := RSl.form hbv
  have HBV := Lib.hid hbv
  clear hbv
  refine (callsIn_wide (n := 8)).1 ?_
  refine callsIn_of_wp Try.func32 rfl trivial ?_ rfl
  simp only [Try.ntmps32, List.size_toArray, List.length_cons, List.length_nil, Nat.reduceAdd, Nat.reduceSub, Array.replicate_succ, Array.replicate_zero, List.push_toArray, List.append_toArray, List.nil_append, List.cons_append]
  cases hm : mayB f.blocks
  · have HM := Lib.hid hm
    clear hm
    gi_wp2_with (first
      | (refine ⟨trivial, ?_⟩; gi_at_call 45; refine (callsIn_wide.2 (fmay_any f _ _ (RSl.below (R := RBlk) (fun hb h => h.below hb) (below_a1 _ _) HBV.out))).mono ?_; rintro e w1 ⟨rfl, hb1⟩; rw [HM.out]; have HB1 := Lib.hid hb1; clear hb1)
      | gi_in)
    refine bodyPost_ret (results_tmp rfl _ _ _) rfl ?_
    exact ⟨_, rfl, (below_a1 w _).trans (HB1.out.mono (by simp)), .inl ⟨HM.out, rfl⟩⟩
  · have HM := Lib.hid hm
    have HNX := Lib.hid (may_next hm)
    have HUS := Lib.hid (may_uses hm)
    clear hm
    gi_wp2_with (first
      | (refine ⟨trivial, ?_⟩; gi_at_call 45; refine (callsIn_wide.2 (fmay_any f _ _ (RSl.below (R := RBlk) (fun hb h => h.below hb) (below_a1 _ _) HBV.out))).mono ?_; rintro e w1 ⟨rfl, hb1⟩; rw [HM.out]; rw [World.size_alloc] at hb1; have HB1 := Lib.hid hb1; clear hb1)
      | gi_in)
    have hfb : ∀ W, Below (w.heap.size + 1) (w.alloc (.cells (f.cells (.slice a0 f.blocks.length c0)) 24)) W → W.heap[w.heap.size]? = some (.cells (f.cells (.slice a0 f.blocks.length c0)) 24 (0, 0)) ∧ Below w.heap.size w W ∧ w.heap.size + 1 ≤ W.heap.size := fun W h =>
      ⟨(h.block _ (by omega)).trans (heap_new _ _), (below_a1 w _).trans (h.mono (by omega)), by have := h.size; simpa using this⟩
    have HFB := Lib.hid hfb
    clear hfb
    refine wpIn_region_rvL (by kernel_rfl) [] (by decide) (by kernel_rfl) (by kernel_rfl)
      (fun k vs W => Below (w.heap.size + 1) (w.alloc (.cells (f.cells (.slice a0 f.blocks.length c0)) 24)) W)
      (fun W W' => Below W.heap.size W W')
      (fun i v W => match i with
        | 0 => v = f.agg (.slice a0 f.blocks.length c0)
        | 1 => ∃ bs L0, Lives W v bs L0 ∧ bs.length = f.blocks.length ∧ (∀ i v, i < f.blocks.length → (asS L0 i v ↔ LiveS f.blocks i v))
        | 2 => v = .pointer (some ⟨w.heap.size, 3, none⟩)
        | 3 => v = .slice a0 f.blocks.length c0
        | 4 => v = I f.blocks.length
        | 5 => ∃ g, v = .slice (some ⟨g, 0, none⟩) f.blocks.length f.blocks.length ∧ w.heap.size < g ∧ Row W g 58 (List.replicate f.blocks.length (.slice none 0 0))
        | 6 => ∃ bs L0, Lives W v bs L0 ∧ bs.length = f.blocks.length ∧ (∀ i v, i < f.blocks.length → (asS L0 i v ↔ LiveS f.blocks i v))
        | 7 => ∃ g, v = .slice (some ⟨g, 0, none⟩) f.blocks.length f.blocks.length ∧ w.heap.size < g ∧ Row W g 58 (List.replicate f.blocks.length (.slice none 0 0))
        | _ => True) ?h0 ?hst ?hop ?hend
    case h0 => exact HB1.out.trans ⟨rfl, rfl, rfl, Nat.le_refl _, fun _ _ => rfl⟩
    case hst =>
      intro j v W W' hst hΦ
      match j, hΦ with
      | 0, h => exact h
      | 1, ⟨bs, L0, h1, h2, h3⟩ => exact ⟨bs, L0, h1.below hst, h2, h3⟩
      | 2, h => exact h
      | 3, h => exact h
      | 4, h => exact h
      | 5, ⟨g, h1, h2, h3⟩ => exact ⟨g, h1, h2, h3.ext hst⟩
      | 6, ⟨bs, L0, h1, h2, h3⟩ => exact ⟨bs, L0, h1.below hst, h2, h3⟩
      | 7, ⟨g, h1, h2, h3⟩ => exact ⟨g, h1, h2, h3.ext hst⟩
      | j + 8, h => trivial
    case hop =>
      refine ⟨?_, ?_, ?_, ?_, ?_, ?_, ?_, ?_, trivial⟩
      · rintro stg a W4 vs ho hstg hC hΦ hsz hr
        have r1 : a.tmps.getD 1 undef = (.pointer (some ⟨w.heap.size, 0, none⟩)) := (hr 1 (by simp [Oper.looksAt, Op.operands])).trans (show slotOf _ _ vs _ 1 = (.pointer (some ⟨w.heap.size, 0, none⟩)) from by kernel_rfl)
        obtain ⟨hk, hb, hl⟩ := HFB.out W4 hC
        have d0 := cell_of_block hk 0
        have d1 := cell_of_block hk 1
        have d2 := cell_of_block hk 2
        have d3 := cell_of_block hk 3
        simp only [List.getElem?_toArray, List.getElem?_cons_succ, List.getElem?_cons_zero] at d0 d1 d2 d3
        refine rg_val ho rfl (fun _ _ => trivial) (by intro c h; cases h) (v := f.agg (.slice a0 f.blocks.length c0)) (W' := W4) ?_ ⟨_, rfl, hC, Below.refl _ _, rfl⟩
        go_simp
      · rintro stg a W4 vs ho hstg hC hΦ hsz hr
        have r1 : a.tmps.getD 10 undef = _ := ((hr 10 (by simp [Oper.looksAt, Op.operands, Call.operands])).trans (show slotOf _ _ vs _ 10 = vs 0 from by kernel_rfl)).trans (hΦ 0 (by kernel_rfl))
        obtain ⟨hk, hb, hl⟩ := HFB.out W4 hC
        refine rg_call ho rfl (fun _ _ => trivial) (by intro c h; cases h) (f := 46) (args := #[f.agg (.slice a0 f.blocks.length c0)]) (W' := W4) ?_ (fun _ => by omega) (callsIn_wide.2 (wanted_any f _ W4 (RSl.below (R := RBlk) (fun hb h => h.below hb) hb HBV.out) hszf hU HNX.out)) ?_
        · go_simp
        · rintro e w5 ⟨lv, bs, L0, rfl, hL, hbl, _, hlive, hb5⟩
          exact ⟨lv, rfl, lv, rfl, hC.trans (hb5.mono hl), hb5, bs, L0, hL, hbl, hlive⟩
      · rintro stg a W4 vs ho hstg hC hΦ hsz hr
        have r1 : a.tmps.getD 1 undef = (.pointer (some ⟨w.heap.size, 0, none⟩)) := (hr 1 (by simp [Oper.looksAt, Op.operands])).trans (show slotOf _ _ vs _ 1 = (.pointer (some ⟨w.heap.size, 0, none⟩)) from by kernel_rfl)
        refine rg_val ho rfl (fun _ _ => trivial) (by intro c h; cases h) (v := .pointer (some ⟨w.heap.size, 3, none⟩)) (W' := W4) ?_ ⟨_, rfl, hC, Below.refl _ _, rfl⟩
        go_simp
      · rintro stg a W4 vs ho hstg hC hΦ hsz hr
        have r1 : a.tmps.getD 12 undef = _ := ((hr 12 (by simp [Oper.looksAt, Op.operands])).trans (show slotOf _ _ vs _ 12 = vs 2 from by kernel_rfl)).trans (hΦ 2 (by kernel_rfl))
        obtain ⟨hk, hb, hl⟩ := HFB.out W4 hC
        have d3 := cell_of_block hk 3
        simp only [List.getElem?_toArray, List.getElem?_cons_succ, List.getElem?_cons_zero] at d3
        refine rg_val ho rfl (fun _ _ => trivial) (by intro c h; cases h) (v := .slice a0 f.blocks.length c0) (W' := W4) ?_ ⟨_, rfl, hC, Below.refl _ _, rfl⟩
        go_simp
      · rintro stg a W4 vs ho hstg hC hΦ hsz hr
        have r1 : a.tmps.getD 13 undef = _ := ((hr 13 (by simp [Oper.looksAt, Op.operands, Call.operands])).trans (show slotOf _ _ vs _ 13 = vs 3 from by kernel_rfl)).trans (hΦ 3 (by kernel_rfl))
        refine rg_val ho rfl (fun _ _ => trivial) (by intro c h; cases h) (v := I f.blocks.length) (W' := W4) ?_ ⟨_, rfl, hC, Below.refl _ _, rfl⟩
        go_simp
      · rintro stg a W4 vs ho hstg hC hΦ hsz hr
        have r1 : a.tmps.getD 14 undef = _ := ((hr 14 (by simp [Oper.looksAt, Op.operands])).trans (show slotOf _ _ vs _ 14 = vs 4 from by kernel_rfl)).trans (hΦ 4 (by kernel_rfl))
        obtain ⟨hk, hb, hl⟩ := HFB.out W4 hC
        have hrun := run_make1 (w := W4) slLists (z := .slice none 0 0) (by kernel_rfl) rfl f.blocks.length (by omega) (by omega)
        have r1' : a.eval (.tmp 14) = I f.blocks.length := r1
        refine rg_val ho rfl (fun _ _ => trivial) (by intro c h; cases h) (v := .slice (some ⟨W4.heap.size, 0, none⟩) f.blocks.length f.blocks.length) (W' := W4.alloc (.cells (List.replicate f.blocks.length (.slice none 0 0)).toArray 58)) ?_ ⟨_, rfl, hC.alloc hl _, below_a1 _ _, W4.heap.size, rfl, by omega, Row.new _ _ _⟩
        unfold execOp
        simp [r1', hrun, Result.andThen]
      · rintro stg a W4 vs ho hstg hC hΦ hsz hr
        have r1 : a.tmps.getD 11 undef = vs 1 := (hr 11 (by simp [Oper.looksAt, Op.operands])).trans (show slotOf _ _ vs _ 11 = vs 1 from by kernel_rfl)
        obtain ⟨bs, L0, h1, h2, h3⟩ := hΦ 1 (by kernel_rfl)
        obtain ⟨al, cl, hv, hbn⟩ := RSl.form h1.sl
        rw [hv] at r1 h1
        refine rg_val ho rfl (fun _ _ => trivial) (by intro c h; cases h) (v := .slice al bs.length cl) (W' := W4) ?_ ⟨_, rfl, hC, Below.refl _ _, bs, L0, h1, h2, h3⟩
        go_simp
      · rintro stg a W4 vs ho hstg hC hΦ hsz hr
        have r1 : a.tmps.getD 15 undef = vs 5 := (hr 15 (by simp [Oper.looksAt, Op.operands])).trans (show slotOf _ _ vs _ 15 = vs 5 from by kernel_rfl)
        obtain ⟨g, h1, h2, h3⟩ := hΦ 5 (by kernel_rfl)
        rw [h1] at r1
        refine rg_val ho rfl (fun _ _ => trivial) (by intro c h; cases h) (v := .slice (some ⟨g, 0, none⟩) f.blocks.length f.blocks.length) (W' := W4) ?_ ⟨_, rfl, hC, Below.refl _ _, g, rfl, h2, h3⟩
        go_simp
    case hend =>
      rintro vs W hC hΦ
      obtain ⟨bs, L0, hL, hbl, hlive⟩ := hΦ 6 (by decide)
      obtain ⟨g, hg7, hgl, hrow⟩ := hΦ 7 (by decide)
      obtain ⟨al, cl, hv6, hbn⟩ := RSl.form hL.sl
      generalize hs : slotOf _ _ vs (fun _ => true) = s
      simp only [List.size_toArray, List.length_cons, List.length_nil, Nat.reduceAdd, List.range, List.range.loop, List.map_cons, List.map_nil]
      have s1 : s 1 = .pointer (some ⟨w.heap.size, 0, none⟩) := by rw [← hs]; kernel_rfl
      have s3 : s 3 = vs 6 := by rw [← hs]; kernel_rfl
      have s4 : s 4 = vs 7 := by rw [← hs]; kernel_rfl
      rw [s1, s3, s4]
      clear hs s1 s3 s4
      rw [hg7, hv6]
      rw [hv6] at hL
      obtain ⟨hk, hb, hl⟩ := HFB.out W hC
      have d3 := cell_of_block hk 3
      simp only [List.getElem?_toArray, List.getElem?_cons_succ, List.getElem?_cons_zero] at d3
      have HC := Lib.hid hC
      have HL := Lib.hid hL
      have HBL := Lib.hid hbl
      have HLV := Lib.hid hlive
      have HRW := Lib.hid hrow
      clear hΦ hC hL hbl hlive hrow hg7 hv6 hk
      gi_wp2
      gi_loopg [19] f.blocks.length (fun gh i wr => ∃ (k : Nat) (cs : List Value) (Lx : List (List (List Int))), gh + k = f.blocks.length ∧ i = I k ∧ Below (w.heap.size + 1) (w.alloc (.cells (f.cells (.slice a0 f.blocks.length c0)) 24)) wr ∧ MRow wr (w.heap.size + 1) g f.blocks.length k cs Lx ∧ Lives wr (.slice al bs.length cl) bs L0 ∧
        ∀ (i : Nat) (b : LBlock) (Ls : List (List Int)), f.blocks[i]? = some b → Lx[i]? = some Ls → Ls.length = b.ins.length + 1 ∧ ∀ (k : Nat) (l : List Int), Ls[k]? = some l → l.Nodup ∧ ∀ x, x ∈ l ↔ AfterS b (LiveS f.blocks) k x)
      case atStart =>
        refine ⟨0, _, [], rfl, rfl, HC.out, ⟨HRW.out, by simp, rfl, Nat.zero_le _, fun v hv => ⟨_, _, _, List.eq_of_mem_replicate hv⟩, fun i x l _ h => by simp at h⟩, HL.out, fun i b l _ h => by simp at h⟩
      case round =>
        obtain ⟨k, cs, Lx, hg, rfl, hbe, hrow, hlv, hlx⟩ := hrel
        have HBE := Lib.hid hbe
        have HRW' := Lib.hid hrow
        have HLV' := Lib.hid hlv
        have HLX := Lib.hid hlx
        clear hbe hrow hlv hlx
        obtain ⟨hkr, hbr, hlr⟩ := HFB.out wr HBE.out
        by_cases hlt : k < f.blocks.length
        · obtain ⟨b1, o1, c1, C, he, hCC, h1', h2', h3', h4', gb⟩ := RSl.at HBV.out hlt
          obtain ⟨rfl, rfl⟩ : a0 = some ⟨b1, o1, none⟩ ∧ c0 = c1 := by simpa using he
          obtain ⟨blk, hblk⟩ : ∃ blk, blk = f.blocks[k] := ⟨_, rfl⟩
          rw [← hblk] at h1' h2' h3' h4' gb
          have hcell : ∀ j, j < 5 → wr.cell? ⟨b1, o1 + k * 5 + j, none⟩ = some (C j) := fun j hj => by
            rw [hbr.cell (p := ⟨b1, o1 + k * 5 + j, none⟩) (World.block_lt_of_cell? w _ (hCC j hj))]; exact hCC j hj
          obtain ⟨ai, ci, hiv, hilen⟩ := RSl.form gb.ins
          have e0 := hcell 0 (by decide); rw [hiv] at e0 gb
          have e1 := hcell 1 (by decide); rw [h1'] at e1
          have e2 := hcell 2 (by decide); rw [h2'] at e2
          have e3 := hcell 3 (by decide); rw [h3'] at e3
          have e4 := hcell 4 (by decide); rw [h4'] at e4
          simp only [Nat.add_zero] at e0
          have hbm : blk ∈ f.blocks := by rw [hblk]; exact List.getElem_mem hlt
          have hu1 : ∀ x ∈ blk.ins, ∀ v ∈ x.uses, v ∈ allUses f.blocks := fun x hx v hv => List.mem_flatMap.2 ⟨blk, hbm, List.mem_append_left _ (List.mem_flatMap.2 ⟨x, hx, hv⟩)⟩
          have hcg : ∀ k ∈ blk.term.next, ∀ v, asS L0 k.toNat v ↔ LiveS f.blocks k.toNat v := fun k hk v => by
            have := HNX.out blk hbm k hk
            exact HLV.out k.toNat v (by omega)
          have hu2 : ∀ v, endS blk.term (asS L0) v → v ∈ allUses f.blocks := fun v hv => by
            rcases hv with ⟨k, hk, hv⟩ | hv
            · exact LiveS_uses ((hcg k hk v).1 hv)
            · exact List.mem_flatMap.2 ⟨blk, hbm, List.mem_append_right _ hv⟩
          have hUi : ∀ v ∈ allUses f.blocks, InI v := fun v hv => by have := HUS.out v hv; unfold InI; omega
          have hnb : ∀ k ∈ blk.term.next, 0 ≤ k ∧ k < bs.length := fun k hk => by have := HNX.out blk hbm k hk; rw [HBL.out]; exact this
          have HGB := Lib.hid (gb.below (hbr.trans ((below_a1 wr (.cells #[.slice ai blk.ins.length ci, I blk.term.kind, I blk.term.a, I blk.term.to, I blk.term.els] 46)).mono (by omega))))
          have HH := Lib.hid (And.intro hu1 (And.intro hu2 (And.intro hUi hnb)))
          have HCG := Lib.hid hcg
          have HBK := Lib.hid hblk
          have hgl' := HRW'.out.row.lt
          have hcl := HRW'.out.len
          have hib := hil blk hbm
          have hks : ∃ a n c, wr.cell? ⟨g, k, none⟩ = some (.slice a n c) := by
            obtain ⟨a, n, c, h⟩ := HRW'.out.sl (cs[k]'(by omega)) (List.getElem_mem _)
            exact ⟨a, n, c, by rw [HRW'.out.row.cell, List.getElem?_eq_getElem (by omega), h]⟩
          obtain ⟨ka, kn, kc, hkc⟩ := hks
          have hlt'' : (k : Int) < (f.blocks.length : Int) := by omega
          clear hCC hcell h1' h2' h3' h4' he gb hiv hu1 hu2 hUi hnb hcg hblk hbm
          gi_wp2_with (first
            | (refine ⟨trivial, ?_⟩; gi_at_call 49; refine (callsIn_wide.2 (after_any blk _ _ bs L0 _ HGB.out (HLV'.out.below (below_a1 _ _)) HH.out.2.2.2 (allUses f.blocks) hU HH.out.2.2.1 HH.out.1 HH.out.2.1 hib)).mono ?_; rintro e w3 ⟨v3, L3, rfl, own3, hl3, hm3, hb3⟩; rw [World.size_alloc] at own3 hb3; obtain ⟨a3, c3, rfl⟩ := own3.slice; have hg3 := grown_trans (alloc_grown wr _ none) (below_grown (hb3.mono (Nat.le_of_eq (World.size_alloc _ _))) none); have hkc3 := (hg3.cell_far ⟨g, k, none⟩ hgl' (by simp)).trans hkc; have hfz3 := ((HRW'.out.grown hg3).row.frozen k); have HO3 := Lib.hid own3; have HB3 := Lib.hid hb3; have HG3 := Lib.hid hg3; have HL3 := Lib.hid hl3; have HM3 := Lib.hid hm3; clear own3 hb3 hg3 hl3 hm3)
            | gi_in)
          have hr3 := HRW'.out.grown HG3.out
          have ho3 : OwnLists w3 (w.heap.size + 1) _ L3 := HO3.out.mono (by omega)
          have hb13 : Below wr.heap.size wr w3 := (below_a1 wr _).trans (HB3.out.mono (by omega))
          gi_roundg (f.blocks.length - (k + 1))
          case measure => omega
          case rel =>
            refine ⟨k + 1, _, _, by omega, by go_num, ?_, hr3.put hlt ho3, ?_, fun i b Ls hb hl => ?_⟩
            · exact (HBE.out.trans (hb13.mono (by omega))).grown (setCell_grown _ _ _ _) (by have := hb13.size; omega) (fun r e => by cases e; omega)
            · exact (HLV'.out.below hb13).kept (setCell_grown _ _ _ _) hr3.row hr3.sl
            · by_cases hi : i < Lx.length
              · rw [List.getElem?_append_left hi] at hl
                exact HLX.out i b Ls hb hl
              · have hlk := HRW'.out.lk
                rw [List.getElem?_append_right (by omega)] at hl
                have h0 : i - Lx.length = 0 := by have := (List.getElem?_eq_some_iff.1 hl).1; simp at this; omega
                rw [h0] at hl
                simp at hl
                have : i = k := by omega
                subst this
                rw [List.getElem?_eq_getElem hlt] at hb
                have hb' : b = blk := by rw [HBK.out]; simpa using hb.symm
                subst hb'
                subst hl
                refine ⟨HL3.out, fun k l hl => ?_⟩
                obtain ⟨h1, h2⟩ := HM3.out k l hl
                exact ⟨h1, fun x => (h2 x).trans (AfterS_congr HCG.out k x)⟩
        · have hkn : k = f.blocks.length := by have := HRW'.out.kn; omega
          subst hkn
          gi_wp2
          refine bodyPost_ret (results_tmp rfl _ _ _) rfl ?_
          have hr := HRW'.out
          refine ⟨_, rfl, hbr, .inr ⟨HM.out, Lx, (by rintro ad m c e; cases e; exact hgl), hr.reads (by omega) (fun Ls hl => ?_), hr.lk, HLX.out⟩⟩
          obtain ⟨i, hi, e⟩ := List.getElem_of_mem hl
          have hi' : i < f.blocks.length := by rw [← hr.lk]; exact hi
          obtain ⟨h1, h2⟩ := HLX.out i f.blocks[i] Ls (List.getElem?_eq_getElem hi') (by rw [List.getElem?_eq_getElem hi, e])
          have hib := hil f.blocks[i] (List.getElem_mem hi')
          refine ⟨by omega, fun l hl => ?_⟩
          obtain ⟨j, hj, e'⟩ := List.getElem_of_mem hl
          obtain ⟨h3, h4⟩ := h2 j l (by rw [List.getElem?_eq_getElem hj, e'])
          have hu : ∀ x ∈ l, x ∈ allUses f.blocks := fun x hx => AfterS_uses (List.getElem_mem hi') ((h4 x).1 hx)
          exact ⟨fun x hx => by have := HUS.out x (hu x hx); unfold InI; omega, by have := nodup_length_le h3 hu; omega⟩

end Go.Proofs.Ytdlcpmjhngfgkaa
