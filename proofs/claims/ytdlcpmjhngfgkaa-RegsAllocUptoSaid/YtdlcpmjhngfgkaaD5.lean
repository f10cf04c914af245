import Derived.Test.YtdlcpmjhngfgkaaD4
namespace Go.Proofs.Ytdlcpmjhngfgkaa
open Go.RowKit Go.Shelf
attribute [local go_sem] Oper.semAt_some


/-- a slice has room for what it holds -/
def CapOk (v : Value) (l : List Int) : Prop := ∃ a c, v = .slice a l.length c ∧ l.length ≤ c
theorem OwnInts.cap {W : World} {base : Nat} {v : Value} {l : List Int} (h : OwnInts W base v l) : CapOk v l := by
  rcases h.2 with ⟨rfl, h0⟩ | ⟨g, cap, _, rfl, _, _, hc, _⟩
  · exact ⟨_, _, by rw [h0], by omega⟩
  · exact ⟨_, _, rfl, hc⟩
def RLst (w : World) (C : Nat → Value) (l : List Int) : Prop := RInts w (C 0) l ∧ CapOk (C 0) l
def RLs : World → Value → List (List Int) → Prop := RSl 1 RLst
theorem RLs.below {w w' : World} (hb : Below w.heap.size w w') {v : Value} {l : List (List Int)} (h : RLs w v l) : RLs w' v l :=
  RSl.below (R := RLst) (fun hb h => ⟨RInts.below hb h.1, h.2⟩) hb h

theorem Lives.kept {W W' : World} {lv : Value} {bs : List Nat} {Ls : List (List Int)} (h : Lives W lv bs Ls) {g : Nat} {t : TypeId} {cs : List Value} (hg : W.grownBy W' (some g)) (hr : Row W g t cs) (hs : ∀ v ∈ cs, ∃ a n c, v = .slice a n c) : Lives W' lv bs Ls := by
  have hcell : ∀ {p : Addr} {m : Option Nat}, W.cell? p = some (.map m) → W'.cell? p = some (.map m) := fun {p m} hp => by
    refine (hg.cell_far p (World.block_lt_of_cell? W _ hp) (fun e => ?_)).trans hp
    simp only [Option.some.injEq] at e
    obtain ⟨b, o, i⟩ := p
    simp only at e
    subst e
    unfold World.cell? at hp
    simp only [show W.heap[b]? = _ from hr] at hp
    cases i with
    | none =>
      simp at hp
      obtain ⟨a, n, c, h⟩ := hs _ (List.mem_of_getElem? hp)
      cases h
    | some i => simp at hp
  obtain ⟨⟨a, c, h1, h2, h3⟩, hl, hn, hset⟩ := h
  refine ⟨⟨a, c, h1, h2, h3.imp id ?_⟩, hl, hn, fun i b l hb hl => ?_⟩
  · rintro ⟨b, o, ha, h⟩
    refine ⟨b, o, ha, fun i x hx => ?_⟩
    obtain ⟨C, hC, hr⟩ := h i x hx
    refine ⟨C, fun j hj => ?_, hr⟩
    obtain rfl : j = 0 := by omega
    have := hC 0 (by omega)
    unfold RMap at hr
    rw [hr] at this ⊢
    exact hcell this
  · obtain ⟨h4, h5⟩ := hset i b l hb hl
    refine ⟨h4.below (hg.block b h4.lt (fun e => ?_)), h5⟩
    simp only [Option.some.injEq] at e
    obtain ⟨_, _, h6, _⟩ := h4
    rw [e, show W.heap[g]? = _ from hr] at h6; cases h6

/-- a row of slices of ints, the first k of them filled in -/
structure LRow (W : World) (base g n k : Nat) (cs : List Value) (Lx : List (List Int)) : Prop where
  row : Row W g 32 cs
  len : cs.length = n
  lk : Lx.length = k
  kn : k ≤ n
  sl : ∀ v ∈ cs, ∃ a n c, v = .slice a n c
  own : ∀ (i : Nat) (x : Value) (l : List Int), cs[i]? = some x → Lx[i]? = some l → OwnInts W base x l

theorem LRow.grown {W W' : World} {base g n k : Nat} {cs : List Value} {Lx : List (List Int)} (h : LRow W base g n k cs Lx) (hg : W.grownBy W' none) : LRow W' base g n k cs Lx :=
  ⟨h.row.kept hg (by simp), h.len, h.lk, h.kn, h.sl, fun i x l h1 h2 => (h.own i x l h1 h2).tag hg (NoTag.none _ _)⟩
theorem LRow.put {W : World} {base g n k : Nat} {cs : List Value} {Lx : List (List Int)} (h : LRow W base g n k cs Lx) (hk : k < n) {v : Value} {l : List Int} (hv : OwnInts W base v l) : LRow (W.setCell ⟨g, k, none⟩ v) base g n (k + 1) (cs.set k v) (Lx ++ [l]) := by
  have hg := setCell_grown W g k v
  have ht := NoTag.box 3 h.row (by decide)
  refine ⟨h.row.set k v, by simpa using h.len, by simp [h.lk], hk, fun x hx => ?_, fun i x m h1 h2 => ?_⟩
  · rcases List.mem_or_eq_of_mem_set hx with hx | rfl
    · exact h.sl x hx
    · obtain ⟨a, c, e⟩ := hv.slice
      exact ⟨a, _, c, e⟩
  · by_cases hi : i = k
    · subst hi
      rw [List.getElem?_set_self (by rw [h.len]; exact hk)] at h1
      rw [List.getElem?_append_right (by rw [h.lk]; exact Nat.le_refl _), h.lk] at h2
      simp at h1 h2
      subst h1 h2
      exact hv.tag hg ht
    · rw [List.getElem?_set_ne (fun e => hi e.symm)] at h1
      have : i < Lx.length := by
        have := (List.getElem?_eq_some_iff.1 h2).1
        simp [h.lk] at this ⊢; omega
      rw [List.getElem?_append_left this] at h2
      exact (h.own i x m h1 h2).tag hg ht
theorem LRow.reads {W : World} {base g n : Nat} {cs : List Value} {Lx : List (List Int)} (h : LRow W base g n n cs Lx) (hn : n ≤ 140737488351232) (hi : ∀ l ∈ Lx, (∀ x ∈ l, InI x) ∧ l.length ≤ 140737488351232) : RLs W (.slice (some ⟨g, 0, none⟩) n n) Lx := by
  refine ⟨_, n, by rw [h.lk], by rw [h.lk]; exact hn, .inr ⟨g, 0, rfl, fun i l hl => ?_⟩⟩
  have hlt := (List.getElem?_eq_some_iff.1 hl).1
  have hlt' : i < cs.length := by rw [h.len, ← h.lk]; exact hlt
  refine ⟨fun _ => cs[i], fun j hj => ?_, ?_⟩
  · obtain rfl : j = 0 := by omega
    rw [h.row.cell]
    simp [List.getElem?_eq_getElem hlt']
  · have ho := h.own i _ l (List.getElem?_eq_getElem hlt') hl
    exact ⟨ho.reads (hi l (List.mem_of_getElem? hl)).1 (hi l (List.mem_of_getElem? hl)).2, ho.cap⟩

/-- what is known of a function that may be -/
theorem may_next {bl : List LBlock} (h : mayB bl = true) : ∀ b ∈ bl, ∀ k ∈ b.term.next, 0 ≤ k ∧ k < bl.length := by
  intro b hb k hk
  have h1 := List.all_eq_true.1 h b hb
  unfold mayK mayT at h1
  simp only [Bool.and_eq_true, Bool.not_eq_true', List.any_eq_false] at h1
  have h2 := h1.1.1 k hk
  unfold farB at h2
  simp only [Bool.or_eq_true, decide_eq_true_eq] at h2
  omega
theorem may_uses {bl : List LBlock} (h : mayB bl = true) : ∀ v ∈ allUses bl, 0 ≤ v ∧ v < 50000 := by
  intro v hv
  obtain ⟨b, hb, hv⟩ := List.mem_flatMap.1 hv
  have h1 := List.all_eq_true.1 h b hb
  unfold mayK mayT mayI at h1
  simp only [Bool.and_eq_true, Bool.not_eq_true', List.any_eq_false, List.all_eq_true, Bool.not_eq_true, placeB] at h1
  rcases List.mem_append.1 hv with hv | hv
  · obtain ⟨x, hx, hv⟩ := List.mem_flatMap.1 hv
    have := (h1.2 x hx).1 v hv
    simpa using this
  · have := h1.1.2 v hv
    simpa using this

def LivePost (f : LFlow) (w : World) (e : Ending) (w' : World) : Prop :=
  ∃ v, e = .returned v ∧ Below w.heap.size w w' ∧ ((mayB f.blocks = false ∧ v = .slice none 0 0) ∨ (mayB f.blocks = true ∧ ∃ (g : Nat) (Ls : List (List Int)), v = .slice (some ⟨g, 0, none⟩) f.blocks.length f.blocks.length ∧ w.heap.size ≤ g ∧ RLs w' v Ls ∧ Ls.length = f.blocks.length ∧
    ∀ (i : Nat) (l : List Int), Ls[i]? = some l → l.Nodup ∧ ∀ x, x ∈ l ↔ LiveS f.blocks i x))

set_option maxRecDepth 100000 in
set_option maxHeartbeats 4000000 in
theorem live_any (f : LFlow) (bv : Value) (w : World) (hbv : RSl 5 RBlk w bv f.blocks) (hsz : f.blocks.length ≤ 1000000000) (hU : (allUses f.blocks).length ≤ 1000000000000) :
    Calls Try.prog 29 #[f.agg bv] w (LivePost f w) := by
  obtain ⟨a0, c0, rfl, hlen⟩ := RSl.form hbv
  have HBV := Lib.hid hbv
  clear hbv
  cases hm : mayB f.blocks
  · have HM := Lib.hid hm
    clear hm
    go_enter Try.func29, Try.ntmps29
    go_wp2_with (first
      | (go_at_call 45; refine (fmay_any f _ _ (RSl.below (R := RBlk) (fun hb h => h.below hb) (below_a1 _ _) HBV.out)).mono ?_; rintro e w1 ⟨rfl, hb1⟩; rw [HM.out]; have HB1 := Lib.hid hb1; clear hb1))
    go_ret
    exact ⟨_, rfl, (below_a1 w _).trans (HB1.out.mono (by simp)), .inl ⟨HM.out, rfl⟩⟩
  · have HM := Lib.hid hm
    have HNX := Lib.hid (may_next hm)
    have HUS := Lib.hid (may_uses hm)
    clear hm
    go_enter Try.func29, Try.ntmps29
    go_wp2_with (first
      | (go_at_call 45; refine (fmay_any f _ _ (RSl.below (R := RBlk) (fun hb h => h.below hb) (below_a1 _ _) HBV.out)).mono ?_; rintro e w1 ⟨rfl, hb1⟩; rw [HM.out]; have hl1 := hb1.size; rw [World.size_alloc] at hb1 hl1; have hz1 : w.heap.size < w1.heap.size := (by omega); have hk1 := (hb1.block w.heap.size (by omega)).trans (heap_new _ _); have d0 := cell_of_block hk1 0; have d1 := cell_of_block hk1 1; have d2 := cell_of_block hk1 2; have d3 := cell_of_block hk1 3; simp only [List.getElem?_toArray, List.getElem?_cons_succ, List.getElem?_cons_zero] at d0 d1 d2 d3; have HB1 := Lib.hid hb1; clear hb1 hk1)
      | (at_make; refine wpList_make1 (z := .slice none 0 0) slInts (by kernel_rfl) rfl rfl _ _ rfl f.blocks.length rfl rfl (by omega) (by omega) ?_)
      | (go_at_call 46; refine (wanted_any f _ _ (RSl.below (R := RBlk) (fun hb h => h.below hb) ((((below_a1 w (.cells (f.cells (.slice a0 f.blocks.length c0)) 24)).trans (HB1.out.mono (Nat.le_succ _))).alloc (Nat.le_of_lt hz1) _)) HBV.out) hsz hU HNX.out).mono ?_; rintro e w2 ⟨lv, bs, L0, rfl, hL, hbl, hbb, hlive, hb2⟩; have hl2 := hb2.size; rw [World.size_alloc] at hb2 hl2; obtain ⟨al, cl, rfl, hbn⟩ := RSl.form hL.sl; have HL := Lib.hid hL; have HBL := Lib.hid hbl; have HLV := Lib.hid hlive; have HB2 := Lib.hid hb2; clear hL hbl hbb hlive hb2))
    have hbw2 : Below w.heap.size w w2 := (((below_a1 w _).trans (HB1.out.mono (Nat.le_succ _))).alloc (Nat.le_of_lt hz1) _).trans (HB2.out.mono (by omega))
    have hrow0 : LRow w2 w.heap.size w1.heap.size f.blocks.length 0 (List.replicate f.blocks.length (.slice none 0 0)) [] := by
      refine ⟨?_, by simp, rfl, Nat.zero_le _, fun v hv => ?_, fun i x l _ h => by simp at h⟩
      · exact (HB2.out.block _ (by omega)).trans (heap_new _ _)
      · have := List.eq_of_mem_replicate hv
        exact ⟨_, _, _, this⟩
    have HBW2 := Lib.hid hbw2
    have HR0 := Lib.hid hrow0
    clear hbw2 hrow0
    go_loopg [16] f.blocks.length (fun gh i wr => ∃ (k : Nat) (cs : List Value) (Lx : List (List Int)), gh + k = f.blocks.length ∧ i = I k ∧ Below w.heap.size w wr ∧ LRow wr w.heap.size w1.heap.size f.blocks.length k cs Lx ∧ Lives wr (.slice al bs.length cl) bs L0 ∧ ∀ (i : Nat) (l : List Int), Lx[i]? = some l → ∃ m, L0[i]? = some m ∧ l = sortL m ∧ m.Nodup)
    case atStart => exact ⟨0, _, [], rfl, rfl, HBW2.out, HR0.out, HL.out, fun i l h => by simp at h⟩
    case round =>
      obtain ⟨k, cs, Lx, hg, rfl, hbe, hrow, hlv, hlx⟩ := hrel
      have HBE := Lib.hid hbe
      have HRW := Lib.hid hrow
      have HLV' := Lib.hid hlv
      have HLX := Lib.hid hlx
      clear hbe hrow hlv hlx
      by_cases hlt : k < bs.length
      · have hlt' : k < f.blocks.length := by have := HBL.out; omega
        obtain ⟨b1, o1, c1, C, he, hC, hm⟩ := RSl.at HLV'.out.sl hlt
        obtain ⟨rfl, rfl⟩ : al = some ⟨b1, o1, none⟩ ∧ cl = c1 := by simpa using he
        have e0 := hC 0 (by decide)
        rw [show C 0 = _ from hm] at e0
        simp only [Nat.mul_one, Nat.add_zero] at e0
        have hL0 : k < L0.length := by rw [← HLV'.out.len]; exact hlt
        obtain ⟨hset, hnd⟩ := HLV'.out.set k bs[k] L0[k] (List.getElem?_eq_getElem hlt) (List.getElem?_eq_getElem hL0)
        obtain ⟨S, hS⟩ : ∃ S, S = L0[k] := ⟨_, rfl⟩
        obtain ⟨bk, hbk⟩ : ∃ bk, bk = bs[k] := ⟨_, rfl⟩
        rw [← hS] at hset hnd
        rw [← hbk] at hset e0
        have hSu : ∀ v ∈ S, v ∈ allUses f.blocks := fun v hv => LiveS_uses ((HLV.out k v hlt').1 ⟨S, by rw [hS]; exact List.getElem?_eq_getElem hL0, hv⟩)
        have hSi : ∀ v ∈ S, InI v := fun v hv => by have := HUS.out v (hSu v hv); unfold InI; omega
        have hSl := Nat.le_trans (nodup_length_le hnd hSu) hU
        have HS := Lib.hid hS
        have HST := Lib.hid hset
        have hle := HBE.out.size
        have hgl := HRW.out.row.lt
        have hcl := HRW.out.len
        have hfz := HRW.out.row.frozen k
        clear he hC hm hS hset hbk
        have hks : ∃ a n c, wr.cell? ⟨w1.heap.size, k, none⟩ = some (.slice a n c) := by
          obtain ⟨a, n, c, h⟩ := HRW.out.sl (cs[k]'(by omega)) (List.getElem_mem _)
          exact ⟨a, n, c, by rw [HRW.out.row.cell, List.getElem?_eq_getElem (by omega), h]⟩
        obtain ⟨ka, kn, kc, hkc⟩ := hks
        have hlt'' : (k : Int) < (f.blocks.length : Int) := by omega
        go_wp2_with (first
          | (go_at_call 47; refine (rising_any bk S _ HST.out hnd hSl hSi).mono ?_; rintro e w3 ⟨v3, rfl, own3, hb3⟩; obtain ⟨a3, c3, rfl⟩ := own3.slice; have hkc3 := (hb3.cell (p := ⟨w1.heap.size, k, none⟩) hgl).trans hkc; have hfz3 := ((HRW.out.grown (below_grown hb3 none)).row.frozen k); have HO3 := Lib.hid own3; have HB3 := Lib.hid hb3; clear own3 hb3))
        have hg3 := below_grown HB3.out none
        have hr3 := HRW.out.grown hg3
        have ho3 : OwnInts w3 w.heap.size _ (sortL S) := HO3.out.mono hle
        go_roundg (f.blocks.length - (k + 1))
        case measure => omega
        case rel =>
          refine ⟨k + 1, _, _, by omega, by go_num, ?_, hr3.put hlt' ho3, ?_, fun i l hl => ?_⟩
          · exact (HBE.out.trans (HB3.out.mono hle)).grown (setCell_grown _ _ _ _) (Nat.le_trans hle HB3.out.size) (fun r e => by cases e; omega)
          · exact (HLV'.out.below HB3.out).kept (setCell_grown _ _ _ _) hr3.row hr3.sl
          · by_cases hi : i < Lx.length
            · rw [List.getElem?_append_left hi] at hl
              exact HLX.out i l hl
            · have hlk := HRW.out.lk
              rw [List.getElem?_append_right (by omega)] at hl
              have h0 : i - Lx.length = 0 := by have := (List.getElem?_eq_some_iff.1 hl).1; simp at this; omega
              rw [h0] at hl
              simp at hl
              have : i = k := by omega
              subst this
              exact ⟨S, by rw [HS.out]; exact List.getElem?_eq_getElem hL0, hl.symm, hnd⟩
      · have hkn : k = f.blocks.length := by have := HBL.out; have := HRW.out.kn; omega
        subst hkn
        go_wp2
        go_ret
        have hr := HRW.out
        have hmem : ∀ (i : Nat) (l : List Int), Lx[i]? = some l → l.Nodup ∧ ∀ x, x ∈ l ↔ LiveS f.blocks i x := fun i l hl => by
          obtain ⟨m, h1, rfl, h2⟩ := HLX.out i l hl
          have hi : i < f.blocks.length := by have := (List.getElem?_eq_some_iff.1 hl).1; rw [hr.lk] at this; exact this
          refine ⟨(List.mergeSort_perm _ _).nodup_iff.2 h2, fun x => ?_⟩
          rw [mem_sortL, ← HLV.out i x hi]
          exact ⟨fun h => ⟨m, h1, h⟩, fun ⟨m', h3, h4⟩ => by rw [h1] at h3; cases h3; exact h4⟩
        refine ⟨_, rfl, HBE.out, .inr ⟨HM.out, w1.heap.size, Lx, rfl, Nat.le_of_lt hz1, hr.reads (by omega) (fun l hl => ?_), hr.lk, hmem⟩⟩
        obtain ⟨i, hi, e⟩ := List.getElem_of_mem hl
        obtain ⟨h1, h2⟩ := hmem i l (by rw [List.getElem?_eq_getElem hi, e])
        have hu : ∀ x ∈ l, x ∈ allUses f.blocks := fun x hx => LiveS_uses ((h2 x).1 hx)
        exact ⟨fun x hx => by have := HUS.out x (hu x hx); unfold InI; omega, by have := nodup_length_le h1 hu; omega⟩

end Go.Proofs.Ytdlcpmjhngfgkaa
