import Derived.Test.YtdlcpmjhngfgkaaI6
import Derived.Test.YtdlcpmjhngfgkaaS0
namespace Go.Proofs.Ytdlcpmjhngfgkaa
open Go.RowKit Go.Shelf
attribute [local go_sem] Oper.semAt_some

theorem LRow.upd {W : World} {base g n : Nat} {cs : List Value} {Lx : List (List Int)} (h : LRow W base g n n cs Lx) {k : Nat} (hk : k < n) {v : Value} {l : List Int} (hv : OwnInts W base v l) : LRow (W.setCell ⟨g, k, none⟩ v) base g n n (cs.set k v) (Lx.set k l) := by
  have hg := setCell_grown W g k v
  have ht := NoTag.box 3 h.row (by decide)
  refine ⟨h.row.set k v, by simpa using h.len, by simp [h.lk], h.kn, fun x hx => ?_, fun i x m h1 h2 => ?_⟩
  · rcases List.mem_or_eq_of_mem_set hx with hx | rfl
    · exact h.sl x hx
    · obtain ⟨a, c, e⟩ := hv.slice
      exact ⟨a, _, c, e⟩
  · by_cases hi : i = k
    · subst hi
      rw [List.getElem?_set_self (by rw [h.len]; exact hk)] at h1
      rw [List.getElem?_set_self (by rw [h.lk]; exact hk)] at h2
      simp at h1 h2
      subst h1 h2
      exact hv.tag hg ht
    · rw [List.getElem?_set_ne (fun e => hi e.symm)] at h1 h2
      exact (h.own i x m h1 h2).tag hg ht

/-- rows that are on their way to what is wanted -/
structure LvInv (bl : List LBlock) (Lx : List (List Int)) : Prop where
  len : Lx.length = bl.length
  sorted : ∀ l ∈ Lx, l.Pairwise (· < ·)
  sound : ∀ i v, asS Lx i v → LiveS bl i v
  within : ∀ i b, bl[i]? = some b → ∀ v, asS Lx i v → beginS b (asS Lx) v
def tot3 (Lx : List (List Int)) : Nat := (Lx.map List.length).sum

theorem tot3_set : ∀ (Lx : List (List Int)) (k : Nat) (hk : k < Lx.length) (l : List Int), tot3 (Lx.set k l) + Lx[k].length = tot3 Lx + l.length
  | x :: r, 0, _, l => by simp [tot3]; omega
  | x :: r, k + 1, hk, l => by
    have := tot3_set r k (by simpa using hk) l
    simp only [tot3, List.set_cons_succ, List.map_cons, List.sum_cons, List.getElem_cons_succ] at this ⊢
    omega
theorem tot3_le {U : Nat} : ∀ (Lx : List (List Int)), (∀ l ∈ Lx, l.length ≤ U) → tot3 Lx ≤ Lx.length * U
  | [], _ => by simp [tot3]
  | x :: r, h => by
    have h1 := h x (by simp)
    have h2 := tot3_le r (fun l hl => h l (by simp [hl]))
    simp only [tot3, List.map_cons, List.sum_cons, List.length_cons, Nat.succ_mul] at h2 ⊢
    omega

theorem asS_set {Lx : List (List Int)} {k : Nat} (hk : k < Lx.length) {l : List Int} (h : ∀ v ∈ Lx[k], v ∈ l) (i : Nat) (v : Int) (hv : asS Lx i v) : asS (Lx.set k l) i v := by
  obtain ⟨m, hm, hv⟩ := hv
  by_cases hi : i = k
  · subst hi
    rw [List.getElem?_eq_getElem hk] at hm
    cases hm
    exact ⟨l, by rw [List.getElem?_set_self hk], h v hv⟩
  · exact ⟨m, by rw [List.getElem?_set_ne (fun e => hi e.symm)]; exact hm, hv⟩
theorem asS_of_set {Lx : List (List Int)} {k : Nat} {l : List Int} {i : Nat} {v : Int} (hv : asS (Lx.set k l) i v) : (i = k ∧ v ∈ l) ∨ asS Lx i v := by
  obtain ⟨m, hm, hv⟩ := hv
  by_cases hi : i = k
  · subst hi
    have hk := (List.getElem?_eq_some_iff.1 hm).1
    rw [List.length_set] at hk
    rw [List.getElem?_set_self hk] at hm
    cases hm
    exact .inl ⟨rfl, hv⟩
  · rw [List.getElem?_set_ne (fun e => hi e.symm)] at hm
    exact .inr ⟨m, hm, hv⟩

theorem LvInv.sub {bl : List LBlock} {Lx : List (List Int)} (h : LvInv bl Lx) {k : Nat} (hk : k < bl.length) {l : List Int} (hr : Ris l (beginS bl[k] (asS Lx))) (hk' : k < Lx.length) : ∀ v ∈ Lx[k], v ∈ l := fun v hv =>
  (hr.mem v).2 (h.within k _ (List.getElem?_eq_getElem hk) v ((asS_some hk' v).2 hv))
theorem LvInv.upd {bl : List LBlock} {Lx : List (List Int)} (h : LvInv bl Lx) {k : Nat} (hk : k < bl.length) {l : List Int} (hr : Ris l (beginS bl[k] (asS Lx))) : LvInv bl (Lx.set k l) := by
  have hk' : k < Lx.length := by rw [h.len]; exact hk
  have hm := asS_set hk' (h.sub hk hr hk')
  refine ⟨by simpa using h.len, fun m hm => ?_, fun i v hv => ?_, fun i b hb v hv => ?_⟩
  · rcases List.mem_or_eq_of_mem_set hm with hm | rfl
    · exact h.sorted m hm
    · exact hr.sorted
  · rcases asS_of_set hv with ⟨rfl, hv2⟩ | hv2
    · exact LiveS_closed bl i _ (List.getElem?_eq_getElem hk) v (beginS_mono (fun j u hu => h.sound j u hu) v ((hr.mem v).1 hv2))
    · exact h.sound i v hv2
  · refine beginS_mono hm v ?_
    rcases asS_of_set hv with ⟨rfl, hv2⟩ | hv2
    · rw [List.getElem?_eq_getElem hk] at hb
      cases hb
      exact (hr.mem v).1 hv2
    · exact h.within i b hb v hv2
theorem LvInv.grows {bl : List LBlock} {Lx : List (List Int)} (h : LvInv bl Lx) {k : Nat} (hk : k < bl.length) {l : List Int} (hr : Ris l (beginS bl[k] (asS Lx))) (hk' : k < Lx.length) (hne : l.length ≠ Lx[k].length) : tot3 Lx < tot3 (Lx.set k l) := by
  have h1 := tot3_set Lx k hk' l
  have h2 := nodup_length_le ((h.sorted _ (List.getElem_mem hk')).imp (fun h => by omega)) (h.sub hk hr hk')
  omega
theorem sub_eq {l m : List Int} (hl : l.Nodup) (_hm : m.Nodup) (h : ∀ v ∈ l, v ∈ m) (he : m.length = l.length) : ∀ v ∈ m, v ∈ l := by
  intro v hv
  refine Classical.byContradiction fun hn => ?_
  have := nodup_length_le (l := v :: l) (m := m) (List.nodup_cons.2 ⟨hn, hl⟩) (fun x hx => by
    rcases List.mem_cons.1 hx with rfl | hx
    · exact hv
    · exact h x hx)
  simp at this
  omega
theorem LvInv.same {bl : List LBlock} {Lx : List (List Int)} (h : LvInv bl Lx) {k : Nat} (hk : k < bl.length) {l : List Int} (hr : Ris l (beginS bl[k] (asS Lx))) (hk' : k < Lx.length) (he : l.length = Lx[k].length) : ∀ v, beginS bl[k] (asS Lx) v → asS Lx k v := fun v hv =>
  (asS_some hk' v).2 (sub_eq ((h.sorted _ (List.getElem_mem hk')).imp (fun h => by omega)) hr.nodup (h.sub hk hr hk') he v ((hr.mem v).2 hv))
theorem LvInv.done {bl : List LBlock} {Lx : List (List Int)} (h : LvInv bl Lx) (hc : ∀ (k : Nat) (hk : k < bl.length) v, beginS bl[k] (asS Lx) v → asS Lx k v) : ∀ (i : Nat) (l : List Int), Lx[i]? = some l → l.Nodup ∧ ∀ x, x ∈ l ↔ LiveS bl i x := fun i l hl => by
  have hi := (List.getElem?_eq_some_iff.1 hl).1
  refine ⟨(h.sorted l (List.mem_of_getElem? hl)).imp (fun h => by omega), fun x => ⟨fun hx => h.sound i x ⟨l, hl, hx⟩, fun hx => ?_⟩⟩
  have h1 : asS Lx i x := hx (asS Lx) (fun j b hb v hv => by
    have hj := (List.getElem?_eq_some_iff.1 hb).1
    refine hc j hj v ?_
    rw [(List.getElem?_eq_some_iff.1 hb).2]
    exact hv)
  obtain ⟨m, hm, hv⟩ := h1
  rw [hl] at hm
  cases hm
  exact hv
theorem LvInv.zero (bl : List LBlock) : LvInv bl (List.replicate bl.length []) := by
  have hno : ∀ i v, ¬ asS (List.replicate bl.length []) i v := fun i v ⟨l, hl, hv⟩ => by
    have := List.eq_of_mem_replicate (List.mem_of_getElem? hl)
    subst this
    cases hv
  exact ⟨by simp, fun l hl => by rw [List.eq_of_mem_replicate hl]; exact List.Pairwise.nil, fun i v h => absurd h (hno i v), fun i b _ v h => absurd h (hno i v)⟩
theorem LvInv.small {bl : List LBlock} {Lx : List (List Int)} (h : LvInv bl Lx) : ∀ l ∈ Lx, (∀ v ∈ l, v ∈ allUses bl) ∧ l.length ≤ (allUses bl).length := fun l hl => by
  obtain ⟨i, hi⟩ := List.getElem?_of_mem hl
  have h1 : ∀ v ∈ l, v ∈ allUses bl := fun v hv => LiveS_uses (h.sound i v ⟨l, hi, hv⟩)
  exact ⟨h1, nodup_length_le ((h.sorted l hl).imp (fun h => by omega)) h1⟩
end Go.Proofs.Ytdlcpmjhngfgkaa

namespace Go.Proofs.Ytdlcpmjhngfgkaa
open Go.RowKit Go.Shelf
attribute [local go_sem] Oper.semAt_some

theorem slice_of_len {W : World} {base g n : Nat} {cs : List Value} {Lx : List (List Int)} (h : LRow W base g n n cs Lx) {k : Nat} (hk : k < n) (hk' : k < Lx.length) : ∃ a c, W.cell? ⟨g, k, none⟩ = some (.slice a Lx[k].length c) := by
  have hkc : k < cs.length := by rw [h.len]; exact hk
  obtain ⟨a, c, e⟩ := (h.own k cs[k] Lx[k] (List.getElem?_eq_getElem hkc) (List.getElem?_eq_getElem hk')).slice
  exact ⟨a, c, by rw [h.row.cell, List.getElem?_eq_getElem hkc, e]⟩

set_option maxRecDepth 100000 in
set_option maxHeartbeats 8000000 in
/-- what is wanted at each block's beginning, as the document has it -/
theorem live13_any (f : LFlow) (bv : Value) (w : World) (hbv : RSl 5 RBlk w bv f.blocks) (hsz : f.blocks.length ≤ 1000000000) (hU : (allUses f.blocks).length ≤ 1000000000000) :
    Calls Try.prog 21 #[f.agg bv] w (LivePost f w) := by
  obtain ⟨a0, c0, rfl, hlen⟩ := RSl.form hbv
  have HBV := Lib.hid hbv
  clear hbv
  cases hm : mayB f.blocks
  · have HM := Lib.hid hm
    clear hm
    go_enter Try.func21, Try.ntmps21
    go_wp2_with (first
      | (go_at_call 38; refine (may13_any f _ _ (RSl.below (R := RBlk) (fun hb h => h.below hb) (below_a1 _ _) HBV.out)).mono ?_; rintro e w1 ⟨rfl, hb1⟩; rw [HM.out]; have HB1 := Lib.hid hb1; clear hb1))
    go_ret
    exact ⟨_, rfl, (below_a1 w _).trans (HB1.out.mono (by simp)), .inl ⟨HM.out, rfl⟩⟩
  · have HM := Lib.hid hm
    have HNX := Lib.hid (may_next hm)
    have HUS := Lib.hid (may_uses hm)
    clear hm
    go_enter Try.func21, Try.ntmps21
    go_wp2_with (first
      | (go_at_call 38; refine (may13_any f _ _ (RSl.below (R := RBlk) (fun hb h => h.below hb) (below_a1 _ _) HBV.out)).mono ?_; rintro e w1 ⟨rfl, hb1⟩; rw [HM.out]; have hl1 := hb1.size; rw [World.size_alloc] at hb1 hl1; have hz1 : w.heap.size < w1.heap.size := (by omega); have hk1 := (hb1.block w.heap.size (by omega)).trans (heap_new _ _); have d0 := cell_of_block hk1 0; have d1 := cell_of_block hk1 1; have d2 := cell_of_block hk1 2; have d3 := cell_of_block hk1 3; simp only [List.getElem?_toArray, List.getElem?_cons_succ, List.getElem?_cons_zero] at d0 d1 d2 d3; have HB1 := Lib.hid hb1; have HK1 := Lib.hid hk1; clear hb1 hk1)
      | (at_make; refine wpList_make1 (z := .slice none 0 0) slInts (by kernel_rfl) rfl rfl _ _ rfl f.blocks.length rfl rfl (by omega) (by omega) ?_))
    obtain ⟨w2, hw2⟩ : ∃ w2, w2 = w1.alloc (.cells (Array.replicate f.blocks.length (.slice none 0 0)) 32) := ⟨_, rfl⟩
    have hb2 : Below w.heap.size w w2 := by rw [hw2]; exact ((below_a1 w _).trans (HB1.out.mono (Nat.le_succ _))).alloc (Nat.le_of_lt hz1) _
    have hfb : w2.heap[w.heap.size]? = some (.cells (f.cells (.slice a0 f.blocks.length c0)) 24 (0, 0)) := by rw [hw2]; exact heap_old _ _ HK1.out
    have hrow0 : LRow w2 w.heap.size w1.heap.size f.blocks.length f.blocks.length (List.replicate f.blocks.length (.slice none 0 0)) (List.replicate f.blocks.length []) := by
      refine ⟨by rw [hw2]; unfold Row; rw [List.toArray_replicate]; exact heap_new _ _, by simp, by simp, Nat.le_refl _, fun v hv => ⟨_, _, _, List.eq_of_mem_replicate hv⟩, fun i x l h1 h2 => ?_⟩
      rw [List.eq_of_mem_replicate (List.mem_of_getElem? h1), List.eq_of_mem_replicate (List.mem_of_getElem? h2)]
      exact OwnInts.nil _ _
    have hle12 : w1.heap.size < w2.heap.size := by rw [hw2]; simp
    rw [← hw2]
    have HB2 := Lib.hid hb2
    have HFB2 := Lib.hid hfb
    have HR0 := Lib.hid hrow0
    clear hw2 hb2 hfb hrow0 d0 d1 d2 d3
    obtain ⟨B, hB⟩ : ∃ B, B = f.blocks.length * (allUses f.blocks).length := ⟨_, rfl⟩
    have HBB := Lib.hid hB
    clear hB
    go_loopg [5] (B + 1) (fun gh mv wr => ∃ (cs : List Value) (Lx : List (List Int)) (more : Bool), mv = .bool more ∧ gh = (B - tot3 Lx) + (if more then 1 else 0) ∧ Below w.heap.size w wr ∧ wr.heap[w.heap.size]? = some (.cells (f.cells (.slice a0 f.blocks.length c0)) 24 (0, 0)) ∧ w1.heap.size < wr.heap.size ∧ LRow wr w.heap.size w1.heap.size f.blocks.length f.blocks.length cs Lx ∧ LvInv f.blocks Lx ∧ (more = false → ∀ (k : Nat) (hk : k < f.blocks.length) v, beginS f.blocks[k] (asS Lx) v → asS Lx k v))
    case atStart => exact ⟨_, _, true, rfl, by simp [tot3], HB2.out, HFB2.out, hle12, HR0.out, LvInv.zero _, by simp⟩
    case round =>
      obtain ⟨cs, Lx, more, rfl, hgh, hbe, hfb, hw1, hrow, hinv, hdone⟩ := hrel
      have HGH := Lib.hid hgh
      have HBE := Lib.hid hbe
      have HFB := Lib.hid hfb
      have HRW := Lib.hid hrow
      have HIV := Lib.hid hinv
      have HDN := Lib.hid hdone
      clear hgh hbe hfb hrow hinv hdone
      cases more
      · go_wp2
        go_ret
        have hmem := HIV.out.done (HDN.out (by simp))
        refine ⟨_, rfl, HBE.out, .inr ⟨HM.out, w1.heap.size, Lx, rfl, Nat.le_of_lt hz1, HRW.out.reads (by omega) (fun l hl => ?_), HRW.out.lk, hmem⟩⟩
        have := HIV.out.small l hl
        exact ⟨fun x hx => by have := HUS.out x (this.1 x hx); unfold InI; omega, by have := this.2; omega⟩
      · go_wp2
        go_loopg [5, 6] f.blocks.length (fun gh' mv i wr => ∃ (k : Nat) (cs' : List Value) (Lx' : List (List Int)) (more : Bool), gh' + k = f.blocks.length ∧ i = I k ∧ mv = .bool more ∧ Below w.heap.size w wr ∧ wr.heap[w.heap.size]? = some (.cells (f.cells (.slice a0 f.blocks.length c0)) 24 (0, 0)) ∧ w1.heap.size < wr.heap.size ∧ LRow wr w.heap.size w1.heap.size f.blocks.length f.blocks.length cs' Lx' ∧ LvInv f.blocks Lx' ∧
          (more = true → tot3 Lx < tot3 Lx') ∧ (more = false → Lx' = Lx ∧ ∀ (j : Nat) (hj : j < f.blocks.length), j < k → ∀ v, beginS f.blocks[j] (asS Lx') v → asS Lx' j v))
        case atStart => exact ⟨0, cs, Lx, false, rfl, rfl, rfl, HBE.out, HFB.out, hw1, HRW.out, HIV.out, by simp, fun _ => ⟨rfl, fun j _ h => by omega⟩⟩
        case round =>
          obtain ⟨k, cs', Lx', more, hg', rfl, rfl, hbe, hfb, hw1', hrow, hinv, hyes, hno⟩ := hrel
          obtain ⟨wo, rfl⟩ : ∃ wo, wo = wr := ⟨_, rfl⟩
          have d3 := cell_of_block hfb 3
          simp only [List.getElem?_toArray, List.getElem?_cons_succ, List.getElem?_cons_zero] at d3
          have HBE' := Lib.hid hbe
          have HFB' := Lib.hid hfb
          have HRW' := Lib.hid hrow
          have HIV' := Lib.hid hinv
          have HYES := Lib.hid hyes
          have HNO := Lib.hid hno
          have hle := hbe.size
          clear hbe hfb hrow hinv hyes hno
          by_cases hlt : k < f.blocks.length
          · obtain ⟨b1, o1, c1, C, he, hC, h1', h2', h3', h4', gb⟩ := RSl.at HBV.out hlt
            obtain ⟨rfl, rfl⟩ : a0 = some ⟨b1, o1, none⟩ ∧ c0 = c1 := by simpa using he
            obtain ⟨blk, hblk⟩ : ∃ blk, blk = f.blocks[k] := ⟨_, rfl⟩
            rw [← hblk] at h1' h2' h3' h4' gb
            have hcell : ∀ j, j < 5 → wo.cell? ⟨b1, o1 + k * 5 + j, none⟩ = some (C j) := fun j hj => by
              rw [HBE'.out.cell (p := ⟨b1, o1 + k * 5 + j, none⟩) (World.block_lt_of_cell? w _ (hC j hj))]; exact hC j hj
            obtain ⟨ai, ci, hiv, hilen⟩ := RSl.form gb.ins
            have e0 := hcell 0 (by decide); rw [hiv] at e0 gb
            have e1 := hcell 1 (by decide); rw [h1'] at e1
            have e2 := hcell 2 (by decide); rw [h2'] at e2
            have e3 := hcell 3 (by decide); rw [h3'] at e3
            have e4 := hcell 4 (by decide); rw [h4'] at e4
            simp only [Nat.add_zero] at e0
            have HGB := Lib.hid (gb.below HBE'.out)
            have hbm : blk ∈ f.blocks := by rw [hblk]; exact List.getElem_mem hlt
            have HBM := Lib.hid hbm
            have HBK := Lib.hid hblk
            have hlx : k < Lx'.length := by rw [HIV'.out.len]; exact hlt
            have HLX := Lib.hid hlx
            obtain ⟨la, lc, hlc⟩ := slice_of_len HRW'.out hlt hlx
            have hgl := HRW'.out.row.lt
            have hltz : (k : Int) < (f.blocks.length : Int) := by omega
            have hrd : RLs wo (.slice (some ⟨w1.heap.size, 0, none⟩) f.blocks.length f.blocks.length) Lx' := HRW'.out.reads (by omega) (fun l hl => by
              have := HIV'.out.small l hl
              exact ⟨fun x hx => by have := HUS.out x (this.1 x hx); unfold InI; omega, by have := this.2; omega⟩)
            have HRD := Lib.hid hrd
            have HLC := Lib.hid hlc
            clear hC hcell h1' h2' h3' h4' he gb hiv hblk hbm hlc hrd
            have hbg : Calls Try.prog 39 #[blk.agg (.slice ai blk.ins.length ci), .slice (some ⟨w1.heap.size, 0, none⟩) f.blocks.length f.blocks.length] wo (RetRis wo (beginS blk (asS Lx'))) :=
              begin13_any blk _ _ Lx' wo HGB.out HRD.out (fun q hq => by rw [HIV'.out.len]; exact HNX.out blk HBM.out q hq) (allUses f.blocks) hU (fun v hv => by have := HUS.out v hv; omega) (fun l hl => (HIV'.out.small l hl).1)
                (fun x hx v hv => List.mem_flatMap.2 ⟨blk, HBM.out, List.mem_append_left _ (List.mem_flatMap.2 ⟨x, hx, hv⟩)⟩) (fun v hv => List.mem_flatMap.2 ⟨blk, HBM.out, List.mem_append_right _ hv⟩)
            have HBG := Lib.hid hbg
            clear hbg
            obtain ⟨m, hm⟩ : ∃ m, m = (Lx'[k]'HLX.out).length := ⟨_, rfl⟩
            have HMM := Lib.hid hm
            have hlc := HLC.out
            rw [← hm] at hlc
            have HLC2 := Lib.hid hlc
            clear hm hlc HLC
            go_wp2_with (first
              | (go_at_call 39; refine HBG.out.mono ?_; rintro e w4 ⟨v4, l4, rfl, own4, hr4, hb4⟩; have hlc4 := (hb4.cell (p := ⟨w1.heap.size, k, none⟩) hgl).trans HLC2.out; have hfz4 := ((HRW'.out.grown (below_grown hb4 none)).row.frozen k); obtain ⟨a4, c4, rfl⟩ := own4.slice; have HO4 := Lib.hid own4; have HR4 := Lib.hid hr4; have HB4 := Lib.hid hb4; clear own4 hr4 hb4; by_cases hne : l4.length = m; rotate_left))
            · -- another length: a row is laid anew
              have hne' : ((l4.length : Int) != (m : Int)) = true := by simp; omega
              have hnn : l4.length ≠ (Lx'[k]'HLX.out).length := by rw [← HMM.out]; exact hne
              have HNN := Lib.hid hnn
              clear hne hnn
              go_wp2
              go_roundg (f.blocks.length - (k + 1))
              case measure => omega
              case rel =>
                have hg4 := below_grown HB4.out none
                have hr4 : Ris l4 (beginS f.blocks[k] (asS Lx')) := by rw [← HBK.out]; exact HR4.out
                refine ⟨k + 1, _, Lx'.set k l4, true, by omega, by go_num, rfl, ?_, ?_, ?_, (HRW'.out.grown hg4).upd hlt (HO4.out.mono hle), HIV'.out.upd hlt hr4, fun _ => ?_, by simp⟩
                · exact (HBE'.out.trans (HB4.out.mono hle)).grown (setCell_grown _ _ _ _) (Nat.le_trans hle HB4.out.size) (fun r e => by cases e; omega)
                · exact grown_old (setCell_grown _ _ _ _) ((HB4.out.block _ (by omega)).trans HFB'.out) (by simp; omega)
                · have := HB4.out.size
                  simp; omega
                · have h1 := HIV'.out.grows hlt hr4 HLX.out HNN.out
                  cases more
                  · rw [← (HNO.out (by simp)).1]; exact h1
                  · have := HYES.out (by simp); omega
            · -- the same length: nothing new
              have hne' : ((l4.length : Int) != (m : Int)) = false := by simp; omega
              have hnn : l4.length = (Lx'[k]'HLX.out).length := by rw [← HMM.out]; exact hne
              have HNN := Lib.hid hnn
              clear hne hnn
              go_wp2
              go_roundg (f.blocks.length - (k + 1))
              case measure => omega
              case rel =>
                have hg4 := below_grown HB4.out none
                have hr4 : Ris l4 (beginS f.blocks[k] (asS Lx')) := by rw [← HBK.out]; exact HR4.out
                refine ⟨k + 1, cs', Lx', more, by omega, by go_num, rfl, HBE'.out.trans (HB4.out.mono hle), (HB4.out.block _ (by omega)).trans HFB'.out, by have := HB4.out.size; omega, HRW'.out.grown hg4, HIV'.out, HYES.out, fun hm => ⟨(HNO.out hm).1, fun j hj hjk v hv => ?_⟩⟩
                by_cases hjk' : j < k
                · exact (HNO.out hm).2 j hj hjk' v hv
                · obtain rfl : j = k := by omega
                  exact HIV'.out.same hlt hr4 HLX.out HNN.out v hv
          · go_wp2
            go_roundg ((B - tot3 Lx') + (if more then 1 else 0))
            case measure =>
              have h1 := tot3_le Lx' (fun l hl => (HIV'.out.small l hl).2)
              rw [HIV'.out.len, ← HBB.out] at h1
              have h2 := HGH.out
              simp at h2
              cases more
              · have h3 := (HNO.out (by simp)).1
                rw [h3]; simp; omega
              · have h3 := HYES.out (by simp)
                simp; omega
            case rel => exact ⟨cs', Lx', more, rfl, rfl, HBE'.out, HFB'.out, hw1', HRW'.out, HIV'.out, fun hm k' hk' v hv => (HNO.out hm).2 k' hk' (by omega) v hv⟩
end Go.Proofs.Ytdlcpmjhngfgkaa

namespace Go.Proofs.Ytdlcpmjhngfgkaa
open Go.RowKit Go.Shelf
attribute [local go_sem] Oper.semAt_some

theorem endS_live {bl : List LBlock} {b : LBlock} {Ls : List (List Int)} (hn : ∀ k ∈ b.term.next, 0 ≤ k ∧ k < bl.length) (hl : Ls.length = bl.length) (h : ∀ (i : Nat) (l : List Int), Ls[i]? = some l → l.Nodup ∧ ∀ x, x ∈ l ↔ LiveS bl i x) (v : Int) :
    endS b.term (asS Ls) v ↔ endS b.term (LiveS bl) v := by
  have hk : ∀ k ∈ b.term.next, ∀ v, asS Ls k.toNat v ↔ LiveS bl k.toNat v := fun k hk v => by
    have := hn k hk
    have hi : k.toNat < Ls.length := by omega
    rw [asS_some hi]
    exact (h _ _ (List.getElem?_eq_getElem hi)).2 v
  unfold endS
  constructor
  · rintro (⟨k, h1, h2⟩ | h)
    · exact .inl ⟨k, h1, (hk k h1 v).1 h2⟩
    · exact .inr h
  · rintro (⟨k, h1, h2⟩ | h)
    · exact .inl ⟨k, h1, (hk k h1 v).2 h2⟩
    · exact .inr h

def After13Post (f : LFlow) (b : LBlock) (w : World) (e : Ending) (w' : World) : Prop :=
  ∃ v Ls, e = .returned v ∧ Below w.heap.size w w' ∧ RLs w' v Ls ∧ Ls.length = b.ins.length + 1 ∧ ∀ (k : Nat) (l : List Int), Ls[k]? = some l → l.Nodup ∧ ∀ x, x ∈ l ↔ AfterS b (LiveS f.blocks) k x

theorem flow_cells {W : World} {B : Nat} {f : LFlow} {bv : Value} {fr : Nat × Nat} (h : W.heap[B]? = some (.cells (f.cells bv) 24 fr)) :
    W.cell? ⟨B, 0, none⟩ = some (.string f.name) ∧ W.cell? ⟨B, 1, none⟩ = some (I f.params) ∧ W.cell? ⟨B, 2, none⟩ = some (I f.values) ∧ W.cell? ⟨B, 3, none⟩ = some bv := by
  have h0 := cell_of_block h 0
  have h1 := cell_of_block h 1
  have h2 := cell_of_block h 2
  have h3 := cell_of_block h 3
  exact ⟨h0, h1, h2, h3⟩

theorem live13_yes (f : LFlow) (bv : Value) (w : World) (hf : Fine w f bv) (hm : mayB f.blocks = true) : Calls Try.prog 21 #[f.agg bv] w fun e w' => ∃ (g : Nat) (Ls : List (List Int)), e = .returned (.slice (some ⟨g, 0, none⟩) f.blocks.length f.blocks.length) ∧ w.heap.size ≤ g ∧ IsLive f w' (.slice (some ⟨g, 0, none⟩) f.blocks.length f.blocks.length) Ls ∧ Below w.heap.size w w' := by
  refine (live13_any f bv w hf.blocks hf.len hf.uses).mono ?_
  rintro e w1 ⟨v1, rfl, hb1, ⟨hm', _⟩ | ⟨_, g, Ls, rfl, hgl, h⟩⟩
  · rw [hm] at hm'; cases hm'
  · exact ⟨g, Ls, rfl, hgl, h, hb1⟩

/-- what is written when a value is laid into rows of slices -/
theorem Ris.aft {b : LBlock} {L : Nat → Int → Prop} {k : Nat} {l : List Int} (h : Ris l ((b.ins.drop (k + 1)).foldr aheadS (endS b.term L))) : l.Nodup ∧ ∀ x, x ∈ l ↔ AfterS b L k x := ⟨h.nodup, h.mem⟩

set_option maxRecDepth 100000 in
set_option maxHeartbeats 8000000 in
theorem after13_any (f : LFlow) (bv : Value) (w : World) (hf : Fine w f bv) (hm : mayB f.blocks = true) (i : Nat) (hi : i < f.blocks.length) :
    Calls Try.prog 24 #[f.agg bv, I i] w (After13Post f f.blocks[i] w) := by
  obtain ⟨a0, c0, rfl, hlen⟩ := RSl.form hf.blocks
  obtain ⟨b1, o1, c1, C, he, hC, h1', h2', h3', h4', gb⟩ := RSl.at hf.blocks hi
  obtain ⟨rfl, rfl⟩ : a0 = some ⟨b1, o1, none⟩ ∧ c0 = c1 := by simpa using he
  obtain ⟨blk, hblk⟩ : ∃ blk, blk = f.blocks[i] := ⟨_, rfl⟩
  rw [← hblk] at h1' h2' h3' h4' gb
  rw [← hblk]
  obtain ⟨ai, ci, hiv, hilen⟩ := RSl.form gb.ins
  have hbm : blk ∈ f.blocks := by rw [hblk]; exact List.getElem_mem hi
  have hil := hf.ins blk hbm
  have hne : f.blocks.length ≤ 1000000000 := hf.len
  have HU := Lib.hid hf.uses
  have HNX := Lib.hid (may_next hm blk hbm)
  have HUS := Lib.hid (may_uses hm)
  have HF := Lib.hid hf
  have HM := Lib.hid hm
  have HBM := Lib.hid hbm
  have hCw : ∀ W, Below w.heap.size w W → W.cell? ⟨b1, o1 + i * 5, none⟩ = some (.slice ai blk.ins.length ci) ∧ W.cell? ⟨b1, o1 + i * 5 + 1, none⟩ = some (I blk.term.kind) ∧ W.cell? ⟨b1, o1 + i * 5 + 2, none⟩ = some (I blk.term.a) ∧ W.cell? ⟨b1, o1 + i * 5 + 3, none⟩ = some (I blk.term.to) ∧ W.cell? ⟨b1, o1 + i * 5 + 4, none⟩ = some (I blk.term.els) := fun W h => by
    have hc : ∀ j, j < 5 → W.cell? ⟨b1, o1 + i * 5 + j, none⟩ = some (C j) := fun j hj => by
      rw [h.cell (p := ⟨b1, o1 + i * 5 + j, none⟩) (World.block_lt_of_cell? w _ (hC j hj))]; exact hC j hj
    refine ⟨?_, ?_, ?_, ?_, ?_⟩
    · rw [← hiv]; exact hc 0 (by omega)
    · rw [← h1']; exact hc 1 (by omega)
    · rw [← h2']; exact hc 2 (by omega)
    · rw [← h3']; exact hc 3 (by omega)
    · rw [← h4']; exact hc 4 (by omega)
  have HCW := Lib.hid hCw
  rw [hiv] at gb
  have HGB := Lib.hid gb
  have hiz : (i : Int) < (f.blocks.length : Int) := by omega
  have hi0 : (0 : Int) ≤ (i : Int) := by omega
  have hiz' : ¬ (f.blocks.length : Int) ≤ (i : Int) := by omega
  clear hf hm hbm hCw hC h1' h2' h3' h4' gb hiv he hblk
  go_enter Try.func24, Try.ntmps24
  go_upto_region 5 with (first
    | (go_at_call 38; refine (may13_any f _ _ (RSl.below (R := RBlk) (fun hb h => h.below hb) (below_a1 _ _) HF.out.blocks)).mono ?_; rintro e w1 ⟨rfl, hb1⟩; rw [HM.out]; have hl1 := hb1.size; rw [World.size_alloc] at hb1 hl1; have hk1 := (hb1.block w.heap.size (by omega)).trans (heap_new _ _); obtain ⟨d0, d1, d2, d3⟩ := flow_cells hk1; have hbw1 : Below w.heap.size w w1 := (below_a1 w _).trans (hb1.mono (by omega)); obtain ⟨e0, e1, e2, e3, e4⟩ := HCW.out w1 hbw1; have HB1 := Lib.hid hbw1; have HK1 := Lib.hid hk1; clear hb1 hk1 hbw1))
  obtain ⟨w2, hw2⟩ : ∃ w2, w2 = w1.alloc (.cells #[.slice ai blk.ins.length ci, I blk.term.kind, I blk.term.a, I blk.term.to, I blk.term.els] 46) := ⟨_, rfl⟩
  rw [← hw2]
  have hk2 : w2.heap[w.heap.size]? = some (.cells (f.cells (.slice (some ⟨b1, o1, none⟩) f.blocks.length c0)) 24 (0, 0)) := by rw [hw2]; exact heap_old _ _ HK1.out
  have hq2 : w2.heap[w1.heap.size]? = some (.cells #[.slice ai blk.ins.length ci, I blk.term.kind, I blk.term.a, I blk.term.to, I blk.term.els] 46 (0, 0)) := by rw [hw2]; exact heap_new _ _
  have hb2 : Below w.heap.size w w2 := by rw [hw2]; exact HB1.out.alloc (by have := HB1.out.size; omega) _
  have hz2 : w1.heap.size < w2.heap.size := by rw [hw2]; simp
  clear hw2 d0 d1 d2 d3 e0 e1 e2 e3 e4
  obtain ⟨d0, d1, d2, d3⟩ := flow_cells hk2
  obtain ⟨q0, q1, q2, q3, q4⟩ := blk_cells hq2
  have HK2 := Lib.hid hk2
  have HQ2 := Lib.hid hq2
  have HB2 := Lib.hid hb2
  clear hk2 hq2 hb2
  refine wp_region_ordW (by kernel_rfl) (fun W => W.cell? ⟨w.heap.size, 0, none⟩ = some (.string f.name) ∧ W.cell? ⟨w.heap.size, 1, none⟩ = some (I f.params) ∧ W.cell? ⟨w.heap.size, 2, none⟩ = some (I f.values) ∧ W.cell? ⟨w.heap.size, 3, none⟩ = some (.slice (some ⟨b1, o1, none⟩) f.blocks.length c0) ∧
      W.cell? ⟨w1.heap.size, 0, none⟩ = some (.slice ai blk.ins.length ci) ∧ W.cell? ⟨w1.heap.size, 1, none⟩ = some (I blk.term.kind) ∧ W.cell? ⟨w1.heap.size, 2, none⟩ = some (I blk.term.a) ∧ W.cell? ⟨w1.heap.size, 3, none⟩ = some (I blk.term.to) ∧ W.cell? ⟨w1.heap.size, 4, none⟩ = some (I blk.term.els))
    [(0, 0), (0, 1), (1, 2), (1, 3), (0, 4)] (by kernel_rfl) ?hS ?_
  case hS => intro wd hh; simp only [World.cell?, hh] at d0 d1 d2 d3 q0 q1 q2 q3 q4 ⊢; exact ⟨d0, d1, d2, d3, q0, q1, q2, q3, q4⟩
  intro wd hh hgd hS
  have hkd : wd.heap[w.heap.size]? = some (.cells (f.cells (.slice (some ⟨b1, o1, none⟩) f.blocks.length c0)) 24 (0, 0)) := grown_old hgd HK2.out (by simp)
  have hqd : wd.heap[w1.heap.size]? = some (.cells #[.slice ai blk.ins.length ci, I blk.term.kind, I blk.term.a, I blk.term.to, I blk.term.els] 46 (0, 0)) := grown_old hgd HQ2.out (by simp)
  have hbd : Below w.heap.size w wd := HB2.out.grown hgd HB2.out.size (fun _ e => by cases e)
  have hzd : w1.heap.size < wd.heap.size := by have := hgd.size; omega
  have HKD := Lib.hid hkd
  have HQD := Lib.hid hqd
  have HBD := Lib.hid hbd
  clear hh hgd hkd hqd hbd d0 d1 d2 d3 q0 q1 q2 q3 q4
  simp only [pickOps, List.map_cons, List.map_nil, List.getElem?_cons_zero, List.getElem?_cons_succ, Option.getD_some]
  repeat (refine wpOrd_look (v := ?_) (by rfl) ?_ (by assumption) (fun _ _ _ h => h) ?_; rotate_left; (· (intro wS hSw; (try dsimp only at hSw); go_simp; (first | done | with_reducible rfl))); simp only [Act.put, List.setIfInBounds_toArray, List.set_cons_zero, List.set_cons_succ])
  refine wpOrd_turn ?_
  go_wp2_with (first
    | (go_at_call 21; refine (live13_yes f _ wd (HF.out.below HBD.out) HM.out).mono ?_; rintro e w3 ⟨g3, Ls, rfl, hg3, ⟨hrl, hll, hmem⟩, hb3⟩; have HRL := Lib.hid hrl; have HLL := Lib.hid hll; have HME := Lib.hid hmem; have HB3 := Lib.hid hb3; clear hrl hll hmem hb3 hS))
  have hk3 := (HB3.out.block w.heap.size (by omega)).trans HKD.out
  have hq3 := (HB3.out.block w1.heap.size (by omega)).trans HQD.out
  have HK3 := Lib.hid hk3
  have HQ3 := Lib.hid hq3
  have hz3 := HB3.out.size
  refine QN_keep ?_ fun hS => ?_
  · obtain ⟨d0, d1, d2, d3⟩ := flow_cells hk3
    obtain ⟨q0, q1, q2, q3, q4⟩ := blk_cells hq3
    exact ⟨d0, d1, d2, d3, q0, q1, q2, q3, q4⟩
  clear hS hk3 hq3
  refine wpOrd_turn ?_
  go_wp2_with (first
    | (go_at_call 41; refine (end13_any blk _ _ Ls w3 HGB.out.term HRL.out (fun k hk => by rw [HLL.out]; exact HNX.out k hk) (allUses f.blocks) HU.out (fun l hl v hv => by { obtain ⟨j, hj⟩ := List.getElem?_of_mem hl; exact LiveS_uses (((HME.out j l hj).2 v).1 hv) })).mono ?_; rintro e w4 ⟨v4, l4, rfl, own4, hr4, hb4⟩; have HO4 := Lib.hid own4; have HR4 : Hid (Ris l4 (endS blk.term (LiveS f.blocks))) := Lib.hid (hr4.iff (endS_live HNX.out HLL.out HME.out)); have HB4 := Lib.hid hb4; clear own4 hr4 hb4))
  have hk4 := (HB4.out.block w.heap.size (by omega)).trans HK3.out
  have hq4 := (HB4.out.block w1.heap.size (by omega)).trans HQ3.out
  have HQ4 := Lib.hid hq4
  have hz4 := HB4.out.size
  refine QN_keep ?_ fun hS => ?_
  · obtain ⟨d0, d1, d2, d3⟩ := flow_cells hk4
    obtain ⟨q0, q1, q2, q3, q4⟩ := blk_cells hq4
    exact ⟨d0, d1, d2, d3, q0, q1, q2, q3, q4⟩
  obtain ⟨a4, c4, rfl⟩ := HO4.out.slice
  repeat (refine wpOrd_look (v := ?_) (by rfl) ?_ (by assumption) (fun _ _ _ h => h) ?_; rotate_left; (· (intro wS hSw; (try dsimp only at hSw); go_simp; (first | done | with_reducible rfl))); simp only [Act.put, List.setIfInBounds_toArray, List.set_cons_zero, List.set_cons_succ])
  refine wpOrd_nil ?_
  clear hS hk4
  obtain ⟨q0, q1, q2, q3, q4⟩ := blk_cells hq4
  clear hq4
  go_upto_region 7 with (first
    | (at_make; refine wpList_make1 (z := .slice none 0 0) slInts (by kernel_rfl) rfl rfl _ _ rfl (blk.ins.length + 1) rfl rfl (by omega) (by omega) ?_))
  obtain ⟨w5, hw5⟩ : ∃ w5, w5 = w4.alloc (.cells (Array.replicate (blk.ins.length + 1) (.slice none 0 0)) 32) := ⟨_, rfl⟩
  rw [← hw5]
  have hq5 : w5.heap[w1.heap.size]? = some (.cells #[.slice ai blk.ins.length ci, I blk.term.kind, I blk.term.a, I blk.term.to, I blk.term.els] 46 (0, 0)) := by rw [hw5]; exact heap_old _ _ HQ4.out
  have hbw4 : Below w.heap.size w w4 := HBD.out.trans ((HB3.out.trans (HB4.out.mono hz3)).mono HBD.out.size)
  have hb5 : Below w.heap.size w w5 := by rw [hw5]; exact hbw4.alloc hbw4.size _
  have hz5 : w4.heap.size < w5.heap.size := by rw [hw5]; simp
  have hrow0 : LRow w5 w.heap.size w4.heap.size (blk.ins.length + 1) (blk.ins.length + 1) (List.replicate (blk.ins.length + 1) (.slice none 0 0)) (List.replicate (blk.ins.length + 1) []) := by
    refine ⟨by rw [hw5]; unfold Row; rw [List.toArray_replicate]; exact heap_new _ _, by simp, by simp, Nat.le_refl _, fun v hv => ⟨_, _, _, List.eq_of_mem_replicate hv⟩, fun i x l h1 h2 => ?_⟩
    rw [List.eq_of_mem_replicate (List.mem_of_getElem? h1), List.eq_of_mem_replicate (List.mem_of_getElem? h2)]
    exact OwnInts.nil _ _
  have ho5 : OwnInts w5 w.heap.size (.slice a4 l4.length c4) l4 := by rw [hw5]; exact OwnInts.tag (OwnInts.mono HO4.out (by have := HBD.out.size; omega)) (alloc_grown _ _ none) (NoTag.none _ _)
  have hfz := hrow0.row.frozen blk.ins.length
  obtain ⟨ka, kc, hkc⟩ := slice_of_len hrow0 (k := blk.ins.length) (by omega) (by simp)
  clear hw5 q0 q1 q2 q3 q4
  obtain ⟨q0, q1, q2, q3, q4⟩ := blk_cells hq5
  have HQ5 := Lib.hid hq5
  have HB5 := Lib.hid hb5
  have HO5 := Lib.hid ho5
  have HRW0 := Lib.hid hrow0
  have hlen1 : (blk.ins.length : Int) < (blk.ins.length : Int) + 1 := by omega
  clear hq5 hb5 ho5 hrow0 hbw4
  go_upto_region 8 with (fail)
  obtain ⟨w6, hw6⟩ : ∃ w6, w6 = w5.setCell ⟨w4.heap.size, blk.ins.length, none⟩ (.slice a4 l4.length c4) := ⟨_, rfl⟩
  rw [← hw6]
  have hg6 : w5.grownBy w6 (some w4.heap.size) := by rw [hw6]; exact setCell_grown _ _ _ _
  have hrow6 : LRow w6 w.heap.size w4.heap.size (blk.ins.length + 1) (blk.ins.length + 1) ((List.replicate (blk.ins.length + 1) (.slice none 0 0)).set blk.ins.length (.slice a4 l4.length c4)) ((List.replicate (blk.ins.length + 1) []).set blk.ins.length l4) := by rw [hw6]; exact HRW0.out.upd (by omega) HO5.out
  have hq6 : w6.heap[w1.heap.size]? = some (.cells #[.slice ai blk.ins.length ci, I blk.term.kind, I blk.term.a, I blk.term.to, I blk.term.els] 46 (0, 0)) := grown_old hg6 HQ5.out (by simp; omega)
  have hb6 : Below w.heap.size w w6 := HB5.out.grown hg6 HB5.out.size (fun k e => by cases e; have := HBD.out.size; omega)
  have ho6 : OwnInts w6 w.heap.size (.slice a4 l4.length c4) l4 := HO5.out.tag hg6 (NoTag.box 3 HRW0.out.row (by decide))
  clear q0 q1 q2 q3 q4 hkc hfz hw6
  obtain ⟨q0, q1, q2, q3, q4⟩ := blk_cells hq6
  have HQ6 := Lib.hid hq6
  have HB6 := Lib.hid hb6
  have HO6 := Lib.hid ho6
  have HRW6 := Lib.hid hrow6
  have HG6 := Lib.hid hg6
  have hgw : w.heap.size ≤ w4.heap.size := by have := HBD.out.size; omega
  have hz6 : w4.heap.size < w6.heap.size := by have := hg6.size; omega
  clear hq6 hb6 ho6 hrow6 hg6
  go_wp2
  clear q0 q1 q2 q3 q4
  go_loopg [7, 9] blk.ins.length (fun gh ov i wr => ∃ (m : Nat) (l' : List Int) (cs : List Value) (Lx : List (List Int)), m = gh ∧ m ≤ blk.ins.length ∧ i = I ((m : Int) - 1) ∧ Below w.heap.size w wr ∧ wr.heap[w1.heap.size]? = some (.cells #[.slice ai blk.ins.length ci, I blk.term.kind, I blk.term.a, I blk.term.to, I blk.term.els] 46 (0, 0)) ∧ w4.heap.size < wr.heap.size ∧
    LRow wr w.heap.size w4.heap.size (blk.ins.length + 1) (blk.ins.length + 1) cs Lx ∧ OwnInts wr w.heap.size ov l' ∧ Ris l' ((blk.ins.drop m).foldr aheadS (endS blk.term (LiveS f.blocks))) ∧ (∀ (j : Nat) (l : List Int), m ≤ j → Lx[j]? = some l → l.Nodup ∧ ∀ x, x ∈ l ↔ AfterS blk (LiveS f.blocks) j x))
  case atStart =>
    refine ⟨blk.ins.length, l4, _, _, rfl, Nat.le_refl _, rfl, HB6.out, HQ6.out, hz6, HRW6.out, HO6.out, by rw [List.drop_length]; exact HR4.out, fun j l hj hl => ?_⟩
    have hjl := (List.getElem?_eq_some_iff.1 hl).1
    simp at hjl
    obtain rfl : j = blk.ins.length := by omega
    rw [List.getElem?_set_self (by simp)] at hl
    cases hl
    refine Ris.aft ?_
    rw [List.drop_of_length_le (by omega)]
    exact HR4.out
  case round =>
    obtain ⟨m, l', cs, Lx, rfl, hm, rfl, hb, hq, hz, hrow, ho, hr, hdn⟩ := hrel
    obtain ⟨wo, rfl⟩ : ∃ wo, wo = wr := ⟨_, rfl⟩
    have hall : ∀ v, (blk.ins.drop m).foldr aheadS (endS blk.term (LiveS f.blocks)) v → v ∈ allUses f.blocks := foldr_uses _ _ (· ∈ allUses f.blocks) (fun u hu => by
      rcases hu with ⟨k, _, hu⟩ | hu
      · exact LiveS_uses hu
      · exact List.mem_flatMap.2 ⟨blk, HBM.out, List.mem_append_right _ hu⟩) (fun x hx v hv => List.mem_flatMap.2 ⟨blk, HBM.out, List.mem_append_left _ (List.mem_flatMap.2 ⟨x, List.mem_of_mem_drop hx, hv⟩)⟩)
    have hl' : l'.length ≤ 1000000000000 := Nat.le_trans (hr.len (U := allUses f.blocks) hall) HU.out
    have hpos : ∀ v, (blk.ins.drop m).foldr aheadS (endS blk.term (LiveS f.blocks)) v → 0 ≤ v := fun v hv => (HUS.out v (hall v hv)).1
    have hin : ∀ v ∈ l', InI v := fun v hv => by have := HUS.out v (hall v ((hr.mem v).1 hv)); unfold InI; omega
    obtain ⟨oa, oc, rfl⟩ := ho.slice
    have HIN := Lib.hid hin
    have HB := Lib.hid hb
    have HQ := Lib.hid hq
    have HO := Lib.hid ho
    have HR := Lib.hid hr
    have HP := Lib.hid hpos
    have HRW := Lib.hid hrow
    have HDN := Lib.hid hdn
    have hz0 := hb.size
    clear hb ho hr hin hall hpos hrow hdn
    cases m with
    | zero =>
      clear hq
      go_wp2
      go_ret
      have hlen := HRW.out.lk
      have hread := HRW.out.reads (by omega) (fun l hl => by
        obtain ⟨j, hj⟩ := List.getElem?_of_mem hl
        have hjl := (List.getElem?_eq_some_iff.1 hj).1
        obtain ⟨h1, h2⟩ := HDN.out j l (Nat.zero_le _) hj
        have hu : ∀ x ∈ l, x ∈ allUses f.blocks := fun x hx => AfterS_uses HBM.out ((h2 x).1 hx)
        exact ⟨fun x hx => by have := HUS.out x (hu x hx); unfold InI; omega, by have h3 := nodup_length_le h1 hu; have h4 := HU.out; omega⟩)
      exact ⟨_, Lx, rfl, HB.out, hread, hlen, fun k l hl => HDN.out k l (Nat.zero_le _) hl⟩
    | succ m =>
      have hlt : m < blk.ins.length := by omega
      obtain ⟨q0, q1, q2, q3, q4⟩ := blk_cells hq
      obtain ⟨b2, o2, c2, C, he, hC, h0', h1', h2', h3', h4', h5', h6', gi⟩ := RSl.at HGB.out.ins hlt
      obtain ⟨rfl, rfl⟩ : ai = some ⟨b2, o2, none⟩ ∧ ci = c2 := by simpa using he
      have hdr : blk.ins.drop m = blk.ins[m] :: blk.ins.drop (m + 1) := List.drop_eq_getElem_cons hlt
      obtain ⟨ins, hins⟩ : ∃ ins, ins = blk.ins[m] := ⟨_, rfl⟩
      rw [← hins] at h0' h1' h2' h3' h4' h5' h6' gi hdr
      obtain ⟨aa, ca, hav, halen⟩ := RSl.form gi.args
      have hlxl : m < Lx.length := by rw [HRW.out.lk]; omega
      obtain ⟨ka, kc, hkc⟩ := slice_of_len HRW.out (k := m) (by omega) hlxl
      have hfz := HRW.out.row.frozen m
      -- the world behind the store
      obtain ⟨w7, hw7⟩ : ∃ w7, w7 = wo.setCell ⟨w4.heap.size, m, none⟩ (.slice oa l'.length oc) := ⟨_, rfl⟩
      have hg7 : wo.grownBy w7 (some w4.heap.size) := by rw [hw7]; exact setCell_grown _ _ _ _
      have hrow7 : LRow w7 w.heap.size w4.heap.size (blk.ins.length + 1) (blk.ins.length + 1) (cs.set m (.slice oa l'.length oc)) (Lx.set m l') := by rw [hw7]; exact HRW.out.upd (by omega) HO.out
      have hq7 : w7.heap[w1.heap.size]? = some (.cells #[.slice (some ⟨b2, o2, none⟩) blk.ins.length ci, I blk.term.kind, I blk.term.a, I blk.term.to, I blk.term.els] 46 (0, 0)) := grown_old hg7 hq (by simp; omega)
      have hb7 : Below w.heap.size w w7 := HB.out.grown hg7 hz0 (fun k e => by cases e; omega)
      have ho7 : OwnInts w7 w.heap.size (.slice oa l'.length oc) l' := HO.out.tag hg7 (NoTag.box 3 HRW.out.row (by decide))
      have hri7 : RInts w7 (.slice oa l'.length oc) l' := ho7.reads HIN.out (by omega)
      have hcell : ∀ i, i < 8 → w7.cell? ⟨b2, o2 + m * 8 + i, none⟩ = some (C i) := fun i hi => by
        rw [hb7.cell (p := ⟨b2, o2 + m * 8 + i, none⟩) (World.block_lt_of_cell? w _ (hC i hi))]; exact hC i hi
      obtain ⟨r0, _⟩ := blk_cells hq7
      have e0 := hcell 0 (by decide); rw [h0'] at e0
      have e1 := hcell 1 (by decide); rw [h1'] at e1
      have e2 := hcell 2 (by decide); rw [h2'] at e2
      have e3 := hcell 3 (by decide); rw [h3'] at e3
      have e4 := hcell 4 (by decide); rw [h4'] at e4
      have e5 := hcell 5 (by decide); rw [h5'] at e5
      have e6 := hcell 6 (by decide); rw [h6'] at e6
      have e7 := hcell 7 (by decide); rw [hav] at e7 gi
      simp only [Nat.add_zero] at e0
      have HGI := Lib.hid (gi.below hb7)
      have hul := ins.uses_len gi.len
      have HUL := Lib.hid hul
      have HDR := Lib.hid hdr
      have HRW7 := Lib.hid hrow7
      have HQ7 := Lib.hid hq7
      have HB7 := Lib.hid hb7
      have HO7 := Lib.hid ho7
      have HRI7 := Lib.hid hri7
      have HG7 := Lib.hid hg7
      have hz7 : w4.heap.size < w7.heap.size := by have := hg7.size; omega
      have hm1 : ((m + 1 : Nat) : Int) - 1 = (m : Int) := by omega
      have hm0 : (0 : Int) ≤ (m : Int) := by omega
      have hm2 : (m : Int) < (blk.ins.length : Int) := by omega
      have hm3 : (m : Int) < (blk.ins.length : Int) + 1 := by omega
      rw [hm1]
      have HW7 := Lib.hid hw7
      clear hC hcell h0' h1' h2' h3' h4' h5' h6' he gi hav hins hul hdr hm1 hrow7 hq7 hb7 ho7 hri7 hg7 hw7 hq q0 q1 q2 q3 q4
      go_upto_region 12 with (fail)
      rw [← HW7.out]
      clear hkc hfz
      go_wp2_with (first
        | (go_at_call 42; refine (ahead13_any ins (.slice aa ins.args.length ca) w7 HGI.out _ l' _ HRI7.out HR.out HP.out (by have := HUL.out; omega)).mono ?_; rintro e w8 ⟨v8, l8, rfl, own8, hr8, hb8⟩; have HO8 := Lib.hid own8; have HR8 := Lib.hid hr8; have HB8 := Lib.hid hb8; clear own8 hr8 hb8))
      go_roundg m
      case measure => omega
      case rel =>
        have hz8 := HB8.out.size
        refine ⟨m, l8, _, _, rfl, by omega, rfl, HB7.out.trans (HB8.out.mono HB7.out.size), (HB8.out.block _ (by omega)).trans HQ7.out, by omega, HRW7.out.grown (below_grown HB8.out none), HO8.out.mono HB7.out.size, by rw [HDR.out]; exact HR8.out, fun j l hj hl => ?_⟩
        by_cases hjm : j = m
        · subst hjm
          rw [List.getElem?_set_self hlxl] at hl
          cases hl
          exact Ris.aft HR.out
        · rw [List.getElem?_set_ne (fun e => hjm e.symm)] at hl
          exact HDN.out j l (by omega) hl
end Go.Proofs.Ytdlcpmjhngfgkaa
