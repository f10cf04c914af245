import Derived.Test.YtdlcpmjhngfgkaaI5
import Derived.Test.YtdlcpmjhngfgkaaE9
import Derived.Deep.DeepCutAuto
namespace Go.Proofs.Ytdlcpmjhngfgkaa
open Go.RowKit Go.Shelf
attribute [local go_sem] Oper.semAt_some

theorem sets10_at (k d a b op n : Int) (nm : ByteArray) (ag : Value) (s : Int) (w : World) (h : setsI k d = s) :
    Calls Try.prog 25 #[.agg #[I k, I d, I a, I b, I op, I n, .string nm, ag]] w (RetInt w s) := h ▸ sets10_any k d a b op n nm ag w

theorem below_drewN' {B : Nat} {a w : World} (h : Below B a w) (q : Nat) : Below B a (w.drewN q) := h.trans ⟨rfl, rfl, rfl, Nat.le_refl _, fun _ _ => rfl⟩

theorem far_not {n : Nat} {b : LBlock} {v : Int} (hv : v ∈ b.term.next) (h : v < 0 ∨ (n : Int) ≤ v) : mayK n b = false := by
  unfold mayK mayT
  have : b.term.next.any (farB n) = true := by
    rw [List.any_eq_true]
    exact ⟨v, hv, by unfold farB; simpa using h⟩
  rw [this]; rfl
theorem want_not {n : Nat} {b : LBlock} (hw : wantsB b.term.kind = true) (h : b.term.a < 0 ∨ 50000 ≤ b.term.a) : mayK n b = false := by
  unfold mayK mayT
  have : (b.term.wants.any fun v => !placeB v) = true := by
    rw [wantsB_yes hw, List.any_eq_true]
    exact ⟨b.term.a, by simp, by unfold placeB; simp; omega⟩
  rw [this]; simp
theorem use_not {x : LIns} {v : Int} (hv : v ∈ x.uses) (h : v < 0 ∨ 50000 ≤ v) : mayI x = false := by
  unfold mayI
  have : (x.uses.any fun v => !placeB v) = true := by
    rw [List.any_eq_true]
    exact ⟨v, hv, by unfold placeB; simp; omega⟩
  rw [this]; rfl
theorem set_not {x : LIns} (hk : ¬ (x.kind < 1 ∨ 9 < x.kind ∨ x.kind = 6 ∨ x.kind = 8)) (h : x.d < 0 ∨ 50000 ≤ x.d) : mayI x = false := by
  unfold mayI
  have : (x.sets.any fun v => !placeB v) = true := by
    unfold LIns.sets setsL
    rw [if_neg hk, List.any_eq_true]
    exact ⟨x.d, by simp, by unfold placeB; simp; omega⟩
  rw [this]; simp
theorem mayI_mk {x : LIns} (hu : ∀ v ∈ x.uses, 0 ≤ v ∧ v < 50000) (hs : (x.kind < 1 ∨ 9 < x.kind ∨ x.kind = 6 ∨ x.kind = 8) ∨ (0 ≤ x.d ∧ x.d < 50000)) : mayI x = true := by
  unfold mayI
  have h1 : (x.uses.any fun v => !placeB v) = false := by
    rw [List.any_eq_false]
    intro v hv
    have := hu v hv
    unfold placeB; simp; omega
  have h2 : (x.sets.any fun v => !placeB v) = false := by
    rw [List.any_eq_false]
    intro v hv
    unfold LIns.sets setsL at hv
    split at hv
    · cases hv
    · next hk =>
      simp at hv; subst hv
      unfold placeB; simp
      rcases hs with h | h
      · exact absurd h hk
      · omega
  rw [h1, h2]; rfl
theorem mayK_mk {n : Nat} {b : LBlock} (hn : ∀ v ∈ b.term.next, 0 ≤ v ∧ v < n) (hw : wantsB b.term.kind = true → 0 ≤ b.term.a ∧ b.term.a < 50000) (hi : ∀ x ∈ b.ins, mayI x = true) : mayK n b = true := by
  unfold mayK mayT
  have h1 : b.term.next.any (farB n) = false := by
    rw [List.any_eq_false]
    intro v hv
    have := hn v hv
    unfold farB; simp; omega
  have h2 : (b.term.wants.any fun v => !placeB v) = false := by
    rw [List.any_eq_false]
    intro v hv
    cases hb : wantsB b.term.kind
    · rw [wantsB_no hb] at hv; cases hv
    · rw [wantsB_yes hb] at hv
      simp at hv; subst hv
      have := hw hb
      unfold placeB; simp; omega
  rw [h1, h2]
  simpa using hi
theorem set_cases (x : LIns) : ((x.kind < 1 ∧ setsI x.kind x.d = -1) ∨ (9 < x.kind ∧ setsI x.kind x.d = -1) ∨ (x.kind = 6 ∧ setsI x.kind x.d = -1) ∨ (x.kind = 8 ∧ setsI x.kind x.d = -1) ∨
    (¬ (x.kind < 1 ∨ 9 < x.kind ∨ x.kind = 6 ∨ x.kind = 8) ∧ 0 ≤ x.d ∧ x.d < 50000 ∧ setsI x.kind x.d = x.d)) ∨
    (¬ (x.kind < 1 ∨ 9 < x.kind ∨ x.kind = 6 ∨ x.kind = 8) ∧ setsI x.kind x.d = x.d ∧ (50000 ≤ x.d ∨ x.d < -1 ∨ x.d = -1)) := by
  unfold setsI
  by_cases h : x.kind < 1 ∨ 9 < x.kind ∨ x.kind = 6 ∨ x.kind = 8
  · rw [if_pos h]; omega
  · rw [if_neg h]; omega

set_option maxRecDepth 100000 in
set_option maxHeartbeats 8000000 in
/-- may a function be? -/
theorem may13_any (f : LFlow) (bv : Value) (w : World) (hbv : RSl 5 RBlk w bv f.blocks) :
    Calls Try.prog 38 #[f.agg bv] w fun e w' => e = .returned (.bool (mayB f.blocks)) ∧ Below w.heap.size w w' := by
  obtain ⟨a0, c0, rfl, hlen⟩ := RSl.form hbv
  have HBV := Lib.hid hbv
  clear hbv
  go_enter Try.func38, Try.ntmps38
  go_wp2
  go_loopg [3] f.blocks.length (fun gh i wr => ∃ k : Nat, gh + k = f.blocks.length ∧ i = I k ∧ Below w.heap.size w wr ∧ wr.heap[w.heap.size]? = some (.cells (f.cells (.slice a0 f.blocks.length c0)) 24 (0, 0)) ∧ ∀ b ∈ f.blocks.take k, mayK f.blocks.length b = true)
  case atStart => exact ⟨0, rfl, rfl, below_a1 _ _, heap_new _ _, by simp⟩
  case round =>
    obtain ⟨k, hg, rfl, hbe, hfb, hno⟩ := hrel
    obtain ⟨wo, rfl⟩ : ∃ wo, wo = wr := ⟨_, rfl⟩
    have HNO := Lib.hid hno
    have HBE := Lib.hid hbe
    have HFB := Lib.hid hfb
    have bf3 := cell_of_block hfb 3
    simp only [List.getElem?_toArray, List.getElem?_cons_succ, List.getElem?_cons_zero] at bf3
    clear hno hbe hfb
    by_cases hlt : k < f.blocks.length
    · obtain ⟨b1, o1, c1, C, he, hC, h1', h2', h3', h4', gb⟩ := RSl.at HBV.out hlt
      obtain ⟨rfl, rfl⟩ : a0 = some ⟨b1, o1, none⟩ ∧ c0 = c1 := by simpa using he
      obtain ⟨blk, hblk⟩ : ∃ blk, blk = f.blocks[k] := ⟨_, rfl⟩
      rw [← hblk] at h1' h2' h3' h4' gb
      have hcell : ∀ j, j < 5 → wo.cell? ⟨b1, o1 + k * 5 + j, none⟩ = some (C j) := fun j hj => by
        rw [HBE.out.cell (p := ⟨b1, o1 + k * 5 + j, none⟩) (World.block_lt_of_cell? w _ (hC j hj))]; exact hC j hj
      obtain ⟨ai, ci, hiv, hilen⟩ := RSl.form gb.ins
      have e0 := hcell 0 (by decide); rw [hiv] at e0 gb
      have e1 := hcell 1 (by decide); rw [h1'] at e1
      have e2 := hcell 2 (by decide); rw [h2'] at e2
      have e3 := hcell 3 (by decide); rw [h3'] at e3
      have e4 := hcell 4 (by decide); rw [h4'] at e4
      simp only [Nat.add_zero] at e0
      have HGB := Lib.hid gb
      have HBK := Lib.hid hblk
      have hle := HBE.out.size
      have hfl : w.heap.size < wo.heap.size := (Array.getElem?_eq_some_iff.1 HFB.out).1
      clear hC hcell h1' h2' h3' h4' he gb hiv hblk
      -- what is known in each world from here on
      have hKit : ∀ W, Below (wo.heap.size + 1) (wo.alloc (.cells #[.slice ai blk.ins.length ci, I blk.term.kind, I blk.term.a, I blk.term.to, I blk.term.els] 46)) W →
          W.cell? ⟨w.heap.size, 3, none⟩ = some (.slice (some ⟨b1, o1, none⟩) f.blocks.length c0) ∧ W.cell? ⟨wo.heap.size, 0, none⟩ = some (.slice ai blk.ins.length ci) ∧ W.cell? ⟨wo.heap.size, 1, none⟩ = some (I blk.term.kind) ∧ W.cell? ⟨wo.heap.size, 2, none⟩ = some (I blk.term.a) ∧ W.cell? ⟨wo.heap.size, 3, none⟩ = some (I blk.term.to) ∧ W.cell? ⟨wo.heap.size, 4, none⟩ = some (I blk.term.els) ∧ Below w.heap.size w W ∧ W.heap[w.heap.size]? = some (.cells (f.cells (.slice (some ⟨b1, o1, none⟩) f.blocks.length c0)) 24 (0, 0)) := fun W h => by
        have hf := (h.block w.heap.size (by omega)).trans (heap_old _ _ HFB.out)
        have hk := (h.block wo.heap.size (by omega)).trans (heap_new _ _)
        obtain ⟨d0, d1, d2, d3, d4⟩ := blk_cells hk
        exact ⟨cell_of_block hf 3, d0, d1, d2, d3, d4, (HBE.out.alloc hle _).trans (h.mono (by omega)), hf⟩
      have HK := Lib.hid hKit
      clear hKit
      go_wp2_with (first
        | (go_at_call 54; refine (next10_any _ _ _ _ _).mono ?_; rintro e w1 ⟨v1, rfl, own1, hb1⟩; rw [World.size_alloc] at hb1; have hz1 := hb1.size; simp only [World.size_alloc] at hz1; clear bf3 e0 e1 e2 e3 e4; obtain ⟨bf3, d0, d1, d2, d3, d4, _, _⟩ := HK.out w1 hb1; have HB1 := Lib.hid hb1; have HR1 : Hid (RInts w1 v1 blk.term.next) := Lib.hid (OwnInts.reads own1 HGB.out.term.next (by have := LTerm.next_len blk.term; omega)); obtain ⟨a1, c1', rfl⟩ := OwnInts.slice own1; clear own1 hb1))
      clear d0 d1 d2 d3 d4 bf3
      have hnl := LTerm.next_len blk.term
      go_loopg [6] blk.term.next.length (fun gh i wr => ∃ j : Nat, gh + j = blk.term.next.length ∧ i = I j ∧ Below w1.heap.size w1 wr ∧ ∀ v ∈ blk.term.next.take j, 0 ≤ v ∧ v < f.blocks.length)
      case atStart => exact ⟨0, rfl, rfl, Below.refl _ _, by simp⟩
      case round =>
        obtain ⟨j, hg', rfl, hbj, hnj⟩ := hrel
        obtain ⟨wj, rfl⟩ : ∃ wj, wj = wr := ⟨_, rfl⟩
        have hbj' := HB1.out.trans (hbj.mono (by omega))
        obtain ⟨bf3, d0, d1, d2, d3, d4, hbw, hfj⟩ := HK.out wj hbj'
        have HBJ := Lib.hid hbj
        have HBJ' := Lib.hid hbj'
        have HBW := Lib.hid hbw
        have HNJ := Lib.hid hnj
        clear hbj hbj' hbw hnj hfj
        by_cases hlj : j < blk.term.next.length
        · have hlj' : j < (nextL blk.term.kind blk.term.to blk.term.els).length := hlj
          obtain ⟨nb, no, nc, he, hc, _⟩ := RInts.at (HR1.out.below HBJ.out) hlj
          obtain ⟨rfl, rfl⟩ : a1 = some ⟨nb, no, none⟩ ∧ c1' = nc := by
            simp only [LTerm.next] at he
            simpa using he
          have hmem := List.getElem_mem hlj
          obtain ⟨v, hv⟩ : ∃ v, v = blk.term.next[j]'hlj := ⟨_, rfl⟩
          replace hc : wj.cell? ⟨nb, no + j, none⟩ = some (I v) := by rw [hv]; exact hc
          rw [← hv] at hmem
          have HM := Lib.hid hmem
          have HV := Lib.hid hv
          clear he hmem hv
          rcases (by omega : v < 0 ∨ (0 ≤ v ∧ (f.blocks.length : Int) ≤ v) ∨ (0 ≤ v ∧ v < (f.blocks.length : Int))) with hv | ⟨hv0, hv⟩ | ⟨hv0, hv⟩
          · have hd : decide (v < 0) = true := by simpa using hv
            go_wp2
            go_quiet (fail)
            go_wp2
            go_ret
            refine ⟨?_, below_drewN' HBW.out _⟩
            rw [mayB_not hlt (by rw [← HBK.out]; exact far_not HM.out (.inl hv))]; rfl
          · have hd : decide (v < 0) = false := by simpa using hv0
            go_wp2
            go_quiet (fail)
            go_wp2
            go_ret
            refine ⟨?_, below_drewN' HBW.out _⟩
            rw [mayB_not hlt (by rw [← HBK.out]; exact far_not HM.out (.inr hv))]; rfl
          · have hd : decide (v < 0) = false := by simpa using hv0
            have hv' : ¬ (f.blocks.length : Int) ≤ v := by omega
            go_wp2
            go_quiet (fail)
            go_wp2
            go_roundg (blk.term.next.length - (j + 1))
            case measure => omega
            case rel =>
              refine ⟨j + 1, by omega, by go_num, below_drewN' HBJ.out _, fun u hu => ?_⟩
              rw [List.take_add_one, List.getElem?_eq_getElem hlj, ← HV.out] at hu
              simp only [Option.toList_some, List.mem_append, List.mem_singleton] at hu
              rcases hu with hu | rfl
              · exact HNJ.out u hu
              · exact ⟨hv0, hv⟩
        · have hlj' : ¬ j < (nextL blk.term.kind blk.term.to blk.term.els).length := hlj
          have hnext : ∀ v ∈ blk.term.next, 0 ≤ v ∧ v < f.blocks.length := fun v hv => HNJ.out v (by rw [List.take_of_length_le (by omega)]; exact hv)
          have HNX := Lib.hid hnext
          have hzj := HBJ.out.size
          clear hnext
          -- the end's own
          by_cases hwb : wantsB blk.term.kind = true ∧ (blk.term.a < 0 ∨ 50000 ≤ blk.term.a)
          · obtain ⟨hw, ha⟩ := hwb
            have HW := Lib.hid hw
            have HA := Lib.hid ha
            clear hw
            rcases (by omega : blk.term.a < 0 ∨ (0 ≤ blk.term.a ∧ 50000 ≤ blk.term.a)) with hv | ⟨hv0, hv⟩
            · have hd : decide (blk.term.a < 0) = true := by simpa using hv
              clear ha
              go_wp2_with (first
                | (go_at_call 55; refine (wants13_at blk.term _ wj HW.out).mono ?_; rintro e w4 ⟨rfl, hb4⟩; clear d0 d1 d2 d3 d4 bf3; obtain ⟨bf3, d0, d1, d2, d3, d4, hbw, _⟩ := HK.out w4 (HBJ'.out.trans (hb4.mono (by omega))); have HBW4 := Lib.hid hbw; clear hb4 hbw))
              go_ret
              refine ⟨?_, HBW4.out⟩
              rw [mayB_not hlt (by rw [← HBK.out]; exact want_not HW.out HA.out)]; rfl
            · have hd : decide (blk.term.a < 0) = false := by simpa using hv0
              clear ha
              go_wp2_with (first
                | (go_at_call 55; refine (wants13_at blk.term _ wj HW.out).mono ?_; rintro e w4 ⟨rfl, hb4⟩; clear d0 d1 d2 d3 d4 bf3; obtain ⟨bf3, d0, d1, d2, d3, d4, hbw, _⟩ := HK.out w4 (HBJ'.out.trans (hb4.mono (by omega))); have HBW4 := Lib.hid hbw; clear hb4 hbw))
              go_ret
              refine ⟨?_, HBW4.out⟩
              rw [mayB_not hlt (by rw [← HBK.out]; exact want_not HW.out HA.out)]; rfl
          · have hwa : wantsB blk.term.kind = true → 0 ≤ blk.term.a ∧ blk.term.a < 50000 := fun h => by
              have : ¬ (blk.term.a < 0 ∨ 50000 ≤ blk.term.a) := fun h' => hwb ⟨h, h'⟩
              omega
            have HWA := Lib.hid hwa
            have hwc : wantsB blk.term.kind = false ∨ (wantsB blk.term.kind = true ∧ decide (blk.term.a < 0) = false ∧ ¬ 50000 ≤ blk.term.a) := by
              cases hc : wantsB blk.term.kind
              · exact .inl rfl
              · have := hwa hc
                refine .inr ⟨rfl, by simp; omega, by omega⟩
            clear hwb hwa
            have HWC := Lib.hid hwc
            clear hwc
            go_upto_region 11 with (fail)
            go_cut [60] (fun s60 wc => s60 = .bool false ∧ Below wj.heap.size wj wc)
            case first =>
              rcases HWC.out with hw | ⟨hw, hd, hv⟩
              all_goals
                have HW := Lib.hid hw
                clear hw
                go_wp2_with (first
                  | (go_at_call 55; refine (wants13_at blk.term _ wj HW.out).mono ?_; rintro e w4 ⟨rfl, hb4⟩; clear d0 d1 d2 d3 d4 bf3; obtain ⟨bf3, d0, d1, d2, d3, d4, hbw, _⟩ := HK.out w4 (HBJ'.out.trans (hb4.mono (by omega))); have HB4 := Lib.hid hb4; clear hb4 hbw))
                go_meet
                exact ⟨by first | rfl | (simp; omega), HB4.out⟩
            case rest =>
              obtain ⟨rfl, hb4⟩ := hcut
              obtain ⟨w4, rfl⟩ : ∃ w4, w4 = wc := ⟨_, rfl⟩
              have hz4 := hb4.size
              have HBK4 := Lib.hid (HBJ'.out.trans (hb4.mono (by omega)))
              clear hb4
              go_wp2
              clear hnl d0 d1 d2 d3 d4 bf3
              go_loopg [7] blk.ins.length (fun gh i wr => ∃ j : Nat, gh + j = blk.ins.length ∧ i = I j ∧ Below w4.heap.size w4 wr ∧ ∀ x ∈ blk.ins.take j, mayI x = true)
              case atStart => exact ⟨0, rfl, rfl, Below.refl _ _, by simp⟩
              case round =>
                obtain ⟨j2, hg2, rfl, hbx, hnx⟩ := hrel
                obtain ⟨wx, rfl⟩ : ∃ wx, wx = wr := ⟨_, rfl⟩
                obtain ⟨bf3, d0, d1, d2, d3, d4, hbw, hfx⟩ := HK.out wx (HBK4.out.trans (hbx.mono (by omega)))
                have HBX4 := Lib.hid hbx
                have HNI := Lib.hid hnx
                have hbox := (World.block_lt_of_cell? wx _ d0)
                clear hnx hbx bf3 d1 d2 d3 d4
                by_cases hlx : j2 < blk.ins.length
                · obtain ⟨b2, o2, c2, C, he, hC, h0', h1', h2', h3', h4', h5', h6', gi⟩ := RSl.at HGB.out.ins hlx
                  obtain ⟨rfl, rfl⟩ : ai = some ⟨b2, o2, none⟩ ∧ ci = c2 := by simpa using he
                  obtain ⟨ins, hins⟩ : ∃ ins, ins = blk.ins[j2] := ⟨_, rfl⟩
                  rw [← hins] at h0' h1' h2' h3' h4' h5' h6' gi
                  obtain ⟨aa, ca, hav, halen⟩ := RSl.form gi.args
                  rw [hav] at gi
                  have hcell : ∀ i, i < 8 → wx.cell? ⟨b2, o2 + j2 * 8 + i, none⟩ = some (C i) := fun i hi => by
                    rw [hbw.cell (p := ⟨b2, o2 + j2 * 8 + i, none⟩) (World.block_lt_of_cell? w _ (hC i hi))]; exact hC i hi
                  have hKit2 : ∀ W, Below wx.heap.size wx W → W.cell? ⟨wo.heap.size, 0, none⟩ = some (.slice (some ⟨b2, o2, none⟩) blk.ins.length ci) ∧ W.cell? ⟨b2, o2 + j2 * 8, none⟩ = some (I ins.kind) ∧ W.cell? ⟨b2, o2 + j2 * 8 + 1, none⟩ = some (I ins.d) ∧ W.cell? ⟨b2, o2 + j2 * 8 + 2, none⟩ = some (I ins.a) ∧ W.cell? ⟨b2, o2 + j2 * 8 + 3, none⟩ = some (I ins.b) ∧
                      W.cell? ⟨b2, o2 + j2 * 8 + 4, none⟩ = some (I ins.op) ∧ W.cell? ⟨b2, o2 + j2 * 8 + 5, none⟩ = some (I ins.n) ∧ W.cell? ⟨b2, o2 + j2 * 8 + 6, none⟩ = some (.string ins.name) ∧ W.cell? ⟨b2, o2 + j2 * 8 + 7, none⟩ = some (.slice aa ins.args.length ca) := fun W h => by
                    have hc : ∀ i, i < 8 → W.cell? ⟨b2, o2 + j2 * 8 + i, none⟩ = some (C i) := fun i hi => by
                      rw [h.cell (p := ⟨b2, o2 + j2 * 8 + i, none⟩) (World.block_lt_of_cell? wx _ (hcell i hi))]; exact hcell i hi
                    refine ⟨(h.cell (p := ⟨wo.heap.size, 0, none⟩) hbox).trans d0, ?_, ?_, ?_, ?_, ?_, ?_, ?_, ?_⟩
                    · rw [← h0']; exact hc 0 (by omega)
                    · rw [← h1']; exact hc 1 (by omega)
                    · rw [← h2']; exact hc 2 (by omega)
                    · rw [← h3']; exact hc 3 (by omega)
                    · rw [← h4']; exact hc 4 (by omega)
                    · rw [← h5']; exact hc 5 (by omega)
                    · rw [← h6']; exact hc 6 (by omega)
                    · rw [← hav]; exact hc 7 (by omega)
                  have HK2 := Lib.hid hKit2
                  have HGI := Lib.hid (gi.below hbw)
                  have HIN := Lib.hid hins
                  have HBWX := Lib.hid hbw
                  have hilx := hilen
                  clear hC hcell h0' h1' h2' h3' h4' h5' h6' he gi hav hins hbw hKit2 d0 hfx
                  obtain ⟨d0, e0, e1, e2, e3, e4, e5, e6, e7⟩ := HK2.out wx (Below.refl _ _)
                  rcases set_cases ins with hcs | hcs
                  · -- its place may be
                    have hkd : (ins.kind < 1 ∨ 9 < ins.kind ∨ ins.kind = 6 ∨ ins.kind = 8) ∨ (0 ≤ ins.d ∧ ins.d < 50000) := by omega
                    have hcs2 : (setsI ins.kind ins.d = -1 ∧ ¬ 1 ≤ ins.kind ∧ (ins.kind != 6) = true ∧ (ins.kind != 8) = true) ∨ (setsI ins.kind ins.d = -1 ∧ 1 ≤ ins.kind ∧ ¬ ins.kind ≤ 9 ∧ (ins.kind != 6) = true ∧ (ins.kind != 8) = true) ∨ (setsI ins.kind ins.d = -1 ∧ (ins.kind != 6) = false) ∨
                        (setsI ins.kind ins.d = -1 ∧ (ins.kind != 6) = true ∧ (ins.kind != 8) = false) ∨ (setsI ins.kind ins.d = ins.d ∧ ¬ 50000 ≤ ins.d ∧ ¬ ins.d < -1 ∧ (ins.d == -1) = false) := by
                      simp only [bne_iff_ne, ne_eq, bne_eq_false_iff_eq, beq_eq_false_iff_ne]
                      omega
                    have HKD := Lib.hid hkd
                    have HCS := Lib.hid hcs2
                    clear hkd hcs hcs2
                    go_upto_region 17 with (first
                      | (go_at_call 40; refine (uses10_any _ _ _ _ _ _ _ _ _ _ HGI.out.args HGI.out.len).mono ?_; rintro e w5 ⟨v5, rfl, own5, hb5⟩; clear d0 e0 e1 e2 e3 e4 e5 e6 e7; obtain ⟨d0, e0, e1, e2, e3, e4, e5, e6, e7⟩ := HK2.out w5 hb5; have HB5 := Lib.hid hb5; have HR5 : Hid (RInts w5 v5 ins.uses) := Lib.hid (OwnInts.reads own5 HGI.out.uses (by have := LIns.uses_len ins HGI.out.len; omega)); obtain ⟨a5, c5, rfl⟩ := OwnInts.slice own5; have HBX := Lib.hid (Below.refl w5.heap.size w5); clear own5 hb5))
                    go_cut [89] (fun s wc => s = .bool false ∧ Below w5.heap.size w5 wc)
                    case first =>
                      rcases HCS.out with ⟨hs, h1, h6, h8⟩ | ⟨hs, h1, h9, h6, h8⟩ | ⟨hs, h6⟩ | ⟨hs, h6, h8⟩ | ⟨hs, hd2, hd3, hd4⟩
                      all_goals
                        have HSV := Lib.hid hs
                        clear hs
                        go_wp2_with (first
                          | (go_at_call 25; refine (sets10_at _ _ _ _ _ _ _ _ _ _ HSV.out).mono ?_; rintro e w6 ⟨rfl, hb6⟩; have hbn := HBX.out.trans (hb6.mono HBX.out.size); clear HBX; have HBX := Lib.hid hbn; clear d0 e0 e1 e2 e3 e4 e5 e6 e7; obtain ⟨d0, e0, e1, e2, e3, e4, e5, e6, e7⟩ := HK2.out w6 (HB5.out.trans (hbn.mono HB5.out.size)); clear hb6 hbn))
                        go_meet
                        exact ⟨by first | rfl | (simp; omega), HBX.out⟩
                    case rest =>
                      obtain ⟨rfl, hbn⟩ := hcut
                      clear HBX d0 e0 e1 e2 e3 e4 e5 e6 e7
                      have HBX := Lib.hid hbn
                      obtain ⟨d0, e0, e1, e2, e3, e4, e5, e6, e7⟩ := HK2.out wc (HB5.out.trans (hbn.mono HB5.out.size))
                      clear hbn
                      go_upto_region 19 with (fail)
                      go_cut [132] (fun s wc => s = .bool false ∧ Below w5.heap.size w5 wc)
                      case first =>
                        rcases HCS.out with ⟨hs, h1, h6, h8⟩ | ⟨hs, h1, h9, h6, h8⟩ | ⟨hs, h6⟩ | ⟨hs, h6, h8⟩ | ⟨hs, hd2, hd3, hd4⟩
                        all_goals
                          have HSV := Lib.hid hs
                          clear hs
                          go_wp2_with (first
                            | (go_at_call 25; refine (sets10_at _ _ _ _ _ _ _ _ _ _ HSV.out).mono ?_; rintro e w6 ⟨rfl, hb6⟩; have hbn := HBX.out.trans (hb6.mono HBX.out.size); clear HBX; have HBX := Lib.hid hbn; clear d0 e0 e1 e2 e3 e4 e5 e6 e7; obtain ⟨d0, e0, e1, e2, e3, e4, e5, e6, e7⟩ := HK2.out w6 (HB5.out.trans (hbn.mono HB5.out.size)); clear hb6 hbn))
                          go_meet
                          exact ⟨by first | rfl | (simp; omega), HBX.out⟩
                      case rest =>
                        obtain ⟨rfl, hbn⟩ := hcut
                        clear HBX d0 e0 e1 e2 e3 e4 e5 e6 e7
                        have HBX := Lib.hid hbn
                        obtain ⟨d0, e0, e1, e2, e3, e4, e5, e6, e7⟩ := HK2.out wc (HB5.out.trans (hbn.mono HB5.out.size))
                        clear hbn
                        go_wp2
                        clear d0 e0 e1 e2 e3 e4 e5 e6 e7
                        have hul : ins.uses.length ≤ 1000000000000 := LIns.uses_len ins HGI.out.len
                        go_loopg [9] ins.uses.length (fun gh i wr => ∃ m : Nat, gh + m = ins.uses.length ∧ i = I m ∧ Below w5.heap.size w5 wr ∧ ∀ v ∈ ins.uses.take m, 0 ≤ v ∧ v < 50000)
                        case atStart => exact ⟨0, rfl, rfl, HBX.out, by simp⟩
                        case round =>
                          obtain ⟨m, hgm, rfl, hbm, hnm⟩ := hrel
                          obtain ⟨wu, rfl⟩ : ∃ wu, wu = wr := ⟨_, rfl⟩
                          have HBM := Lib.hid hbm
                          have HNM := Lib.hid hnm
                          have hxu : Below wx.heap.size wx wu := HB5.out.trans (hbm.mono HB5.out.size)
                          have HXU := Lib.hid hxu
                          obtain ⟨d0, _⟩ := HK2.out wu hxu
                          clear hbm hnm hxu
                          by_cases hlm : m < ins.uses.length
                          · have hlm' : m < (UseL ins.kind ins.a ins.b ins.args).length := hlm
                            obtain ⟨nb, no, nc, he, hc, _⟩ := RInts.at (HR5.out.below HBM.out) hlm
                            obtain ⟨rfl, rfl⟩ : a5 = some ⟨nb, no, none⟩ ∧ c5 = nc := by
                              simp only [LIns.uses] at he
                              simpa using he
                            have hmem := List.getElem_mem hlm
                            obtain ⟨v, hv⟩ : ∃ v, v = ins.uses[m]'hlm := ⟨_, rfl⟩
                            replace hc : wu.cell? ⟨nb, no + m, none⟩ = some (I v) := by rw [hv]; exact hc
                            rw [← hv] at hmem
                            have HM := Lib.hid hmem
                            have HV := Lib.hid hv
                            clear he hmem hv
                            rcases (by omega : v < 0 ∨ (0 ≤ v ∧ 50000 ≤ v) ∨ (0 ≤ v ∧ v < 50000)) with hv | ⟨hv0, hv⟩ | ⟨hv0, hv⟩
                            · have hd : decide (v < 0) = true := by simpa using hv
                              go_wp2
                              go_ret
                              refine ⟨?_, HBWX.out.trans (HXU.out.mono HBWX.out.size)⟩
                              rw [mayB_not hlt (by rw [← HBK.out]; exact mayK_not hlx (by rw [← HIN.out]; exact use_not HM.out (.inl hv)))]; rfl
                            · have hd : decide (v < 0) = false := by simpa using hv0
                              go_wp2
                              go_ret
                              refine ⟨?_, HBWX.out.trans (HXU.out.mono HBWX.out.size)⟩
                              rw [mayB_not hlt (by rw [← HBK.out]; exact mayK_not hlx (by rw [← HIN.out]; exact use_not HM.out (.inr hv)))]; rfl
                            · have hd : decide (v < 0) = false := by simpa using hv0
                              have hv' : ¬ 50000 ≤ v := by omega
                              go_wp2
                              go_roundg (ins.uses.length - (m + 1))
                              case measure => omega
                              case rel =>
                                refine ⟨m + 1, by omega, by go_num, HBM.out, fun u hu => ?_⟩
                                rw [List.take_add_one, List.getElem?_eq_getElem hlm, ← HV.out] at hu
                                simp only [Option.toList_some, List.mem_append, List.mem_singleton] at hu
                                rcases hu with hu | rfl
                                · exact HNM.out u hu
                                · exact ⟨hv0, hv⟩
                          · have hlm' : ¬ m < (UseL ins.kind ins.a ins.b ins.args).length := hlm
                            go_wp2
                            go_roundg (blk.ins.length - (j2 + 1))
                            case measure => omega
                            case rel =>
                              refine ⟨j2 + 1, by omega, by go_num, HBX4.out.trans (HXU.out.mono HBX4.out.size), fun u hu => ?_⟩
                              rw [List.take_add_one, List.getElem?_eq_getElem hlx, ← HIN.out] at hu
                              simp only [Option.toList_some, List.mem_append, List.mem_singleton] at hu
                              rcases hu with hu | rfl
                              · exact HNI.out u hu
                              · refine mayI_mk (fun v hv => HNM.out v (by rw [List.take_of_length_le (by omega)]; exact hv)) HKD.out
                  · -- its place may not be
                    obtain ⟨hk, hs, hcd⟩ := hcs
                    have hkd : mayI ins = false := set_not hk (by omega)
                    have HSV := Lib.hid hs
                    have HKD := Lib.hid hkd
                    have h1 : 1 ≤ ins.kind := by omega
                    have h9 : ins.kind ≤ 9 := by omega
                    have h6 : (ins.kind != 6) = true := by simp; omega
                    have h8 : (ins.kind != 8) = true := by simp; omega
                    clear hs hkd hk
                    have hcd2 : (50000 ≤ ins.d) ∨ (¬ 50000 ≤ ins.d ∧ ins.d < -1) ∨ (¬ 50000 ≤ ins.d ∧ ¬ ins.d < -1 ∧ (ins.d == -1) = true) := by simp; omega
                    clear hcd
                    rcases hcd2 with hd | ⟨hd, hd2⟩ | ⟨hd, hd2, hd3⟩
                    all_goals
                      go_wp2_with (first
                        | (go_at_call 40; refine (uses10_any _ _ _ _ _ _ _ _ _ _ HGI.out.args HGI.out.len).mono ?_; rintro e w5 ⟨v5, rfl, own5, hb5⟩; clear d0 e0 e1 e2 e3 e4 e5 e6 e7; obtain ⟨d0, e0, e1, e2, e3, e4, e5, e6, e7⟩ := HK2.out w5 hb5; have HB5 := Lib.hid hb5; have HR5 : Hid (RInts w5 v5 ins.uses) := Lib.hid (OwnInts.reads own5 HGI.out.uses (by have := LIns.uses_len ins HGI.out.len; omega)); obtain ⟨a5, c5, rfl⟩ := OwnInts.slice own5; have HBX := Lib.hid (Below.refl w5.heap.size w5); clear own5 hb5)
                        | (go_at_call 25; refine (sets10_at _ _ _ _ _ _ _ _ _ _ HSV.out).mono ?_; rintro e w6 ⟨rfl, hb6⟩; have hbn := HBX.out.trans (hb6.mono HBX.out.size); clear HBX; have HBX := Lib.hid hbn; clear d0 e0 e1 e2 e3 e4 e5 e6 e7; obtain ⟨d0, e0, e1, e2, e3, e4, e5, e6, e7⟩ := HK2.out w6 (HB5.out.trans (hbn.mono HB5.out.size)); clear hb6 hbn))
                      go_ret
                      refine ⟨?_, HBWX.out.trans ((HB5.out.trans (HBX.out.mono HB5.out.size)).mono HBWX.out.size)⟩
                      rw [mayB_not hlt (by rw [← HBK.out]; exact mayK_not hlx (by rw [← HIN.out]; exact HKD.out))]; rfl
                · go_wp2
                  go_roundg (f.blocks.length - (k + 1))
                  case measure => omega
                  case rel =>
                    refine ⟨k + 1, by omega, by go_num, hbw, hfx, fun x hx => ?_⟩
                    rw [List.take_add_one, List.getElem?_eq_getElem hlt] at hx
                    simp only [Option.toList_some, List.mem_append, List.mem_singleton] at hx
                    rcases hx with hx | rfl
                    · exact HNO.out x hx
                    · rw [← HBK.out]
                      refine mayK_mk HNX.out HWA.out (fun x hx => HNI.out x ?_)
                      rw [List.take_of_length_le (by omega)]; exact hx
    · go_wp2
      go_ret
      refine ⟨?_, HBE.out⟩
      have : mayB f.blocks = true := by
        unfold mayB
        rw [List.all_eq_true]
        intro b hb
        exact HNO.out b (by rw [List.take_of_length_le (by omega)]; exact hb)
      rw [this]; rfl
end Go.Proofs.Ytdlcpmjhngfgkaa
