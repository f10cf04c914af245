import Derived.Test.YtdlcpmjhngfgkaaJ2
namespace Go.Proofs.Ytdlcpmjhngfgkaa
open Go.RowKit Go.Shelf
attribute [local go_sem] Oper.semAt_some

theorem live13_no (f : LFlow) (bv : Value) (w : World) (hf : Fine w f bv) (hm : mayB f.blocks = false) : Calls Try.prog 21 #[f.agg bv] w fun e w' => e = .returned (.slice none 0 0) ∧ Below w.heap.size w w' := by
  refine (live13_any f bv w hf.blocks hf.len hf.uses).mono ?_
  rintro e w1 ⟨v1, rfl, hb1, ⟨_, rfl⟩ | ⟨hm', _⟩⟩
  · exact ⟨rfl, hb1⟩
  · rw [hm] at hm'; cases hm'

/-- lives and what is behind, with a wrong list: it is told so -/
theorem boolIs_no {S : Prop} {w w' : World} (h : ¬ S) (hb : Below w.heap.size w w') : BoolIs S w (.returned (.bool false)) w' := ⟨false, rfl, ⟨fun h => (by cases h), fun h' => absurd h' h⟩, hb⟩

/-- the state of Fits while it looks -/
structure FtSt (w : World) (f : LFlow) (bv lv gv : Value) (l : List Int) (Ls : List (List Int)) (W : World) : Prop where
  below : Below w.heap.size w W
  box : W.heap[w.heap.size]? = some (.cells (f.cells bv) 24 (0, 0))
  live : RLs W gv Ls
  l : RInts W lv l
theorem FtSt.ext {w : World} {f : LFlow} {bv lv gv : Value} {l : List Int} {Ls : List (List Int)} {W W' : World} (h : FtSt w f bv lv gv l Ls W) (hb : Below W.heap.size W W') : FtSt w f bv lv gv l Ls W' :=
  ⟨h.below.trans (hb.mono h.below.size), (hb.block _ (Array.getElem?_eq_some_iff.1 h.box).1).trans h.box, h.live.below hb, h.l.below hb⟩
theorem below_drewQ (W : World) (q : Nat) : Below W.heap.size W (W.drewN q) := ⟨rfl, rfl, rfl, Nat.le_refl _, fun _ _ => rfl⟩

set_option maxRecDepth 100000 in
set_option maxHeartbeats 8000000 in
theorem fits16_any (f : LFlow) (bv : Value) (w : World) (hf : Fine w f bv) (lv : Value) (l : List Int) (hl : RInts w lv l) : Calls Try.prog 11 #[f.agg bv, lv] w (BoolIs (FitsS f l) w) := by
  obtain ⟨a0, c0, rfl, hlen⟩ := RSl.form hf.blocks
  obtain ⟨la, lc, rfl, hll⟩ := RSl.form hl
  have HF := Lib.hid hf
  have HL := Lib.hid hl
  have hfl := hf.len
  clear hf hl
  have hn0 := eql58
  have hn1 := neq58
  cases hm : mayB f.blocks
  · have hpos : 0 < f.blocks.length := by
      cases hb : f.blocks with
      | nil => rw [hb] at hm; cases hm
      | cons x r => simp
    have HM := Lib.hid hm
    clear hm
    go_enter Try.func11, Try.ntmps11
    go_wp2_with (first
      | (go_at_call 21; refine (live13_no f _ _ (HF.out.below (below_a1 _ _)) HM.out).mono ?_; rintro e w1 ⟨rfl, hb1⟩; rw [World.size_alloc] at hb1; have hl1 := hb1.size; rw [World.size_alloc] at hl1; have hk1 := (hb1.block w.heap.size (by omega)).trans (heap_new _ _); obtain ⟨d0, d1, d2, d3⟩ := flow_cells hk1; have HB1 := Lib.hid hb1; clear hb1 hk1))
    go_ret
    refine boolIs_no (fun h => ?_) ((below_a1 w _).trans (HB1.out.mono (by simp)))
    have := h.1
    unfold rmayB at this
    rw [HM.out] at this
    simp at this
  · have HM := Lib.hid hm
    clear hm
    by_cases hbad : f.values < 0 ∨ 50000 < f.values ∨ (l.length : Int) ≠ f.values
    · have hno : ¬ FitsS f l := fun h => by
        have h1 := h.1
        have h2 := h.2.1
        unfold rmayB at h1
        simp only [Bool.and_eq_true, decide_eq_true_eq] at h1
        omega
      have HNO := Lib.hid hno
      clear hno
      rcases (by omega : f.values < 0 ∨ (¬ f.values < 0 ∧ 50000 < f.values) ∨ (¬ f.values < 0 ∧ ¬ 50000 < f.values ∧ (l.length : Int) ≠ f.values)) with h | ⟨h, h2⟩ | ⟨h, h2, h3⟩
      case' inr.inr => replace h3 : ((l.length : Int) != f.values) = true := by simpa using h3
      all_goals
        clear hbad
        go_enter Try.func11, Try.ntmps11
        go_wp2_with (first
          | (go_at_call 21; refine (live13_yes f _ _ (HF.out.below (below_a1 _ _)) HM.out).mono ?_; rintro e w1 ⟨g1, L1, rfl, hg1, hlv1, hb1⟩; rw [World.size_alloc] at hb1; have hl1 := hb1.size; rw [World.size_alloc] at hl1; have hk1 := (hb1.block w.heap.size (by omega)).trans (heap_new _ _); obtain ⟨d0, d1, d2, d3⟩ := flow_cells hk1; have HB1 := Lib.hid hb1; clear hb1 hk1 hlv1))
        go_ret
        exact boolIs_no HNO.out ((below_a1 w _).trans (HB1.out.mono (by simp)))
    · have hv0 : ¬ f.values < 0 := by omega
      have hv1 : ¬ 50000 < f.values := by omega
      have hv2 : ((l.length : Int) != f.values) = false := by simp; omega
      have hvl : (l.length : Int) = f.values := by omega
      have HVL := Lib.hid hvl
      clear hbad hvl
      go_enter Try.func11, Try.ntmps11
      go_wp2_with (first
        | (go_at_call 21; refine (live13_yes f _ _ (HF.out.below (below_a1 _ _)) HM.out).mono ?_; rintro e w1 ⟨g1, Ls, rfl, hg1, ⟨hrl, hll1, hmem⟩, hb1⟩; rw [World.size_alloc] at hb1; have hl1 := hb1.size; rw [World.size_alloc] at hl1; have hk1 := (hb1.block w.heap.size (by omega)).trans (heap_new _ _); obtain ⟨d0, d1, d2, d3⟩ := flow_cells hk1; have hbw1 : Below w.heap.size w w1 := (below_a1 w _).trans (hb1.mono (by omega)); have hst : FtSt w f (.slice a0 f.blocks.length c0) (.slice la l.length lc) (.slice (some ⟨g1, 0, none⟩) f.blocks.length f.blocks.length) l Ls w1 := ⟨hbw1, hk1, hrl, HL.out.below hbw1⟩; have HST := Lib.hid hst; have HLL := Lib.hid hll1; have HME := Lib.hid hmem; clear hb1 hk1 hbw1 hst hrl hll1 hmem)
        | (go_at_call 22; refine (within16_any f _ _ (HF.out.below HST.out.below)).mono ?_; rintro e w2 ⟨r2, rfl, hr2, hb2⟩; have hst2 := HST.out.ext hb2; have HST2 := Lib.hid hst2; have HR2 := Lib.hid hr2; clear d0 d1 d2 d3; obtain ⟨d0, d1, d2, d3⟩ := flow_cells hst2.box; clear hb2 hst2 hr2; cases r2))
      · go_ret
        refine boolIs_no (fun h => ?_) HST2.out.below
        have h1 := h.1
        unfold rmayB at h1
        simp only [Bool.and_eq_true, decide_eq_true_eq, Bool.not_eq_true', List.any_eq_false] at h1
        have := HR2.out.2 (fun v hv => by have := h1.2 v hv; simpa using this)
        cases this
      · have hrm : rmayB f = true := by
          unfold rmayB
          simp only [Bool.and_eq_true, decide_eq_true_eq, Bool.not_eq_true', List.any_eq_false]
          refine ⟨⟨⟨by omega, by omega⟩, HM.out⟩, fun v hv => ?_⟩
          have := HR2.out.1 (by simp) v hv
          simpa using this
        have HRM := Lib.hid hrm
        clear hrm HR2 d0 d1 d2 d3 HST
        go_loopg [7] f.blocks.length (fun gh i wr => ∃ k : Nat, gh + k = f.blocks.length ∧ i = I k ∧ FtSt w f (.slice a0 f.blocks.length c0) (.slice la l.length lc) (.slice (some ⟨g1, 0, none⟩) f.blocks.length f.blocks.length) l Ls wr ∧ ∀ (i : Nat) (b : LBlock), i < k → f.blocks[i]? = some b → BlkOk f l i b)
        case atStart => exact ⟨0, rfl, rfl, HST2.out, fun i b h => by omega⟩
        case round =>
          obtain ⟨k, hg, rfl, hst, hok⟩ := hrel
          obtain ⟨wo, rfl⟩ : ∃ wo, wo = wr := ⟨_, rfl⟩
          have HSO := Lib.hid hst
          have HOK := Lib.hid hok
          obtain ⟨d0, d1, d2, d3⟩ := flow_cells hst.box
          clear hst hok
          by_cases hlt : k < f.blocks.length
          · have hLk : k < Ls.length := by rw [HLL.out]; exact hlt
            have hltz : (k : Int) < (f.blocks.length : Int) := by omega
            obtain ⟨gb', go', gc', xa, xc, hge, hgc, hgr⟩ := RLs.at HSO.out.live hLk
            obtain ⟨⟨rfl, rfl⟩, rfl⟩ : (g1 = gb' ∧ 0 = go') ∧ f.blocks.length = gc' := by
              rw [HLL.out] at hge
              simpa using hge
            rw [Nat.zero_add] at hgc
            obtain ⟨row, hrow⟩ : ∃ row, row = Ls[k] := ⟨_, rfl⟩
            have hmemk := (HME.out k row (by rw [hrow]; exact List.getElem?_eq_getElem hLk)).2
            rw [← hrow] at hgc hgr
            have hrr : ∀ x ∈ row, 0 ≤ x ∧ x < l.length := fun x hx => by
              have := live_rng HRM.out ((hmemk x).1 hx)
              have h2 := HVL.out
              omega
            obtain ⟨blk, hblk⟩ : ∃ blk, blk = f.blocks[k] := ⟨_, rfl⟩
            have hbk : f.blocks[k]? = some blk := by rw [hblk]; exact List.getElem?_eq_getElem hlt
            have hbm : blk ∈ f.blocks := by rw [hblk]; exact List.getElem_mem hlt
            have HBK := Lib.hid hbk
            have HBM := Lib.hid hbm
            have HBL := Lib.hid hblk
            have HCI := Lib.hid (clash_iff hmemk l)
            have HGR := Lib.hid hgr
            have HRR := Lib.hid hrr
            have hbad : ¬ BlkOk f l k blk → ¬ FitsS f l := fun h h' => h (fitsS_blk HRM.out HVL.out h' hbk)
            have HBAD := Lib.hid hbad
            clear hge hrow hmemk hgr hrr hblk hbk hbm hbad
            go_wp2_with (first
              | (go_at_call 23; refine (clash16_any _ _ row l wo HGR.out HSO.out.l HRR.out).mono ?_; rintro e w3 ⟨r3, rfl, hr3, hb3⟩; have hst3 := HSO.out.ext hb3; have HS3 := Lib.hid hst3; have HR3 := Lib.hid hr3; clear d0 d1 d2 d3 hgc; obtain ⟨d0, d1, d2, d3⟩ := flow_cells hst3.box; clear hb3 hst3 hr3; cases r3)
              | (go_at_call 24; refine (after13_any f _ w3 (HF.out.below HS3.out.below) HM.out k hlt).mono ?_; rintro e w4 ⟨v4, L4, rfl, hb4, hrl4, hl4, hm4⟩; have hst4 := HS3.out.ext hb4; have HS4 := Lib.hid hst4; rw [← HBL.out] at hl4 hm4; have HRL4 := Lib.hid hrl4; have HL4 := Lib.hid hl4; have HM4 := Lib.hid hm4; obtain ⟨a4, c4, rfl, _⟩ := RSl.form hrl4; clear hb4 hst4 hrl4 hl4 hm4))
            · have hlive : ¬ ClashS (LiveS f.blocks k) l := fun h => by
                have := HR3.out.2 (HCI.out.2 h)
                cases this
              have HLV := Lib.hid hlive
              have hil := HF.out.ins blk HBM.out
              obtain ⟨n4, hn4⟩ : ∃ n4, n4 = L4.length := ⟨_, rfl⟩
              rw [← hn4]
              have hnn : n4 = blk.ins.length + 1 := by rw [hn4]; exact HL4.out
              have HNN := Lib.hid hnn
              have HN4 := Lib.hid hn4
              have hn4l : n4 ≤ 1000000001 := by omega
              clear hlive d0 d1 d2 d3 HR3 hnn hn4
              go_loopg [9] n4 (fun gh i wr => ∃ j : Nat, gh + j = n4 ∧ i = I j ∧ Below w4.heap.size w4 wr ∧ ∀ q, q < j → ¬ ClashS (AfterS blk (LiveS f.blocks) q) l)
              case atStart => exact ⟨0, by omega, rfl, Below.refl _ _, fun q h => by omega⟩
              case round =>
                obtain ⟨j, hg2, rfl, hbj, hnj⟩ := hrel
                obtain ⟨wj, rfl⟩ : ∃ wj, wj = wr := ⟨_, rfl⟩
                have HBJ := Lib.hid hbj
                have HNJ := Lib.hid hnj
                have HSJ := Lib.hid (HS4.out.ext hbj)
                clear hbj hnj
                by_cases hlj : j < n4
                · have hjz : (j : Int) < (n4 : Int) := by omega
                  have hLj : j < L4.length := by rw [← HN4.out]; exact hlj
                  obtain ⟨rb, ro, rc, ya, yc, hre, hrc, hrr⟩ := RLs.at (HRL4.out.below HBJ.out) hLj
                  obtain ⟨rfl, rfl⟩ : a4 = some ⟨rb, ro, none⟩ ∧ c4 = rc := by simpa using hre
                  obtain ⟨row4, hrow4⟩ : ∃ row4, row4 = L4[j] := ⟨_, rfl⟩
                  have hm4 := (HM4.out j row4 (by rw [hrow4]; exact List.getElem?_eq_getElem hLj)).2
                  rw [← hrow4] at hrc hrr
                  have hr4 : ∀ x ∈ row4, 0 ≤ x ∧ x < l.length := fun x hx => by
                    have := aft_rng HRM.out HBM.out ((hm4 x).1 hx)
                    have h2 := HVL.out
                    omega
                  have HCI4 := Lib.hid (clash_iff hm4 l)
                  have HRR4 := Lib.hid hrr
                  have HR4 := Lib.hid hr4
                  clear hre hrow4 hm4 hrr hr4
                  go_wp2_with (first
                    | (go_at_call 23; refine (clash16_any _ _ row4 l wj HRR4.out HSJ.out.l HR4.out).mono ?_; rintro e w5 ⟨r5, rfl, hr5, hb5⟩; have HB5 := Lib.hid hb5; have HR5 := Lib.hid hr5; clear hb5 hr5; cases r5))
                  · go_roundg (n4 - (j + 1))
                    case measure => omega
                    case rel =>
                      refine ⟨j + 1, by omega, by go_num, HBJ.out.trans (HB5.out.mono HBJ.out.size), fun q hq => ?_⟩
                      by_cases hqj : q < j
                      · exact HNJ.out q hqj
                      · obtain rfl : q = j := by omega
                        intro h
                        have := HR5.out.2 (HCI4.out.2 h)
                        cases this
                  · go_ret
                    refine boolIs_no (HBAD.out fun h => h.aft j (by have := HNN.out; omega) (HCI4.out.1 (HR5.out.1 (by simp)))) (HSJ.out.below.trans (HB5.out.mono HSJ.out.below.size))
                · have haft : ∀ q, q ≤ blk.ins.length → ¬ ClashS (AfterS blk (LiveS f.blocks) q) l := fun q hq => HNJ.out q (by have := HNN.out; omega)
                  have HAF := Lib.hid haft
                  have hjz : ¬ (j : Int) < (n4 : Int) := by omega
                  have hst := HSJ.out
                  obtain ⟨b1, o1, c1, C, he, hC, _, _, _, _, gb⟩ := RSl.at HF.out.blocks hlt
                  obtain ⟨rfl, rfl⟩ : a0 = some ⟨b1, o1, none⟩ ∧ c0 = c1 := by simpa using he
                  rw [← HBL.out] at gb
                  obtain ⟨ai, ci, hiv, hilen⟩ := RSl.form gb.ins
                  have hbx := hC 0 (by decide)
                  rw [hiv] at hbx gb
                  simp only [Nat.add_zero] at hbx
                  have HGB := Lib.hid gb
                  have HBX := Lib.hid hbx
                  have hj0 := HBJ.out.size
                  clear haft hst hC hiv he gb hbx
                  go_wp2
                  go_loopg [10] blk.ins.length (fun gh i wr => ∃ j : Nat, gh + j = blk.ins.length ∧ i = I j ∧ Below w4.heap.size w4 wr ∧ ∀ (q : Nat) (ins : LIns), q < j → blk.ins[q]? = some ins → SetOk f l blk q ins)
                  case atStart => exact ⟨0, rfl, rfl, HBJ.out, fun q ins h => by omega⟩
                  case round =>
                    obtain ⟨j2, hg3, rfl, hbj2, hnj2⟩ := hrel
                    obtain ⟨wx, rfl⟩ : ∃ wx, wx = wr := ⟨_, rfl⟩
                    have hsx := HS4.out.ext hbj2
                    obtain ⟨d0, d1, d2, d3⟩ := flow_cells hsx.box
                    have e0 := (hsx.below.cell (p := ⟨b1, o1 + k * 5, none⟩) (World.block_lt_of_cell? w _ HBX.out)).trans HBX.out
                    have HBJ2 := Lib.hid hbj2
                    have HNJ2 := Lib.hid hnj2
                    have HSX := Lib.hid hsx
                    clear hbj2 hnj2 hsx
                    by_cases hlx : j2 < blk.ins.length
                    · obtain ⟨b2, o2, c2, C, he, hC, h0', h1', h2', h3', h4', h5', h6', gi⟩ := RSl.at HGB.out.ins hlx
                      obtain ⟨rfl, rfl⟩ : ai = some ⟨b2, o2, none⟩ ∧ ci = c2 := by simpa using he
                      obtain ⟨ins, hins⟩ : ∃ ins, ins = blk.ins[j2] := ⟨_, rfl⟩
                      have hinq : blk.ins[j2]? = some ins := by rw [hins]; exact List.getElem?_eq_getElem hlx
                      rw [← hins] at h0' h1' h2' h3' h4' h5' h6' gi
                      obtain ⟨aa, ca, hav, halen⟩ := RSl.form gi.args
                      have hcell : ∀ i, i < 8 → wx.cell? ⟨b2, o2 + j2 * 8 + i, none⟩ = some (C i) := fun i hi => by
                        rw [HSX.out.below.cell (p := ⟨b2, o2 + j2 * 8 + i, none⟩) (World.block_lt_of_cell? w _ (hC i hi))]; exact hC i hi
                      have i0 := hcell 0 (by decide); rw [h0'] at i0
                      have i1 := hcell 1 (by decide); rw [h1'] at i1
                      have i2 := hcell 2 (by decide); rw [h2'] at i2
                      have i3 := hcell 3 (by decide); rw [h3'] at i3
                      have i4 := hcell 4 (by decide); rw [h4'] at i4
                      have i5 := hcell 5 (by decide); rw [h5'] at i5
                      have i6 := hcell 6 (by decide); rw [h6'] at i6
                      have i7 := hcell 7 (by decide); rw [hav] at i7
                      simp only [Nat.add_zero] at i0
                      obtain ⟨d, hd⟩ : ∃ d, setsI ins.kind ins.d = d := ⟨_, rfl⟩
                      have hdr : d < l.length := by
                        have h1 := set_rng HRM.out HBM.out (List.mem_of_getElem? hinq)
                        have h2 := HVL.out
                        omega
                      have HD := Lib.hid hd
                      have HIQ := Lib.hid hinq
                      have hLj : j2 < L4.length := by have := HNN.out; have := HN4.out; omega
                      obtain ⟨rb, ro, rc, ya, yc, hre, hrc, hrr⟩ := RLs.at HRL4.out hLj
                      obtain ⟨rfl, rfl⟩ : a4 = some ⟨rb, ro, none⟩ ∧ c4 = rc := by simpa using hre
                      obtain ⟨row4, hrow4⟩ : ∃ row4, row4 = L4[j2] := ⟨_, rfl⟩
                      have hm4 := (HM4.out j2 row4 (by rw [hrow4]; exact List.getElem?_eq_getElem hLj)).2
                      rw [← hrow4] at hrc hrr
                      have hr4 : ∀ x ∈ row4, 0 ≤ x ∧ x < l.length := fun x hx => by
                        have := aft_rng HRM.out HBM.out ((hm4 x).1 hx)
                        have h2 := HVL.out
                        omega
                      have hr4l : row4.length ≤ 140737488351232 := by obtain ⟨_, _, _, h, _⟩ := hrr; exact h
                      have HM4R := Lib.hid hm4
                      have HRR4 := Lib.hid hrr
                      have HR4 := Lib.hid hr4
                      have HRC := Lib.hid hrc
                      have hjz2 : (j2 : Int) < (n4 : Int) := by have := HNN.out; omega
                      clear hC hcell h0' h1' h2' h3' h4' h5' h6' he gi hav hins hinq hd hre hrow4 hm4 hrr hr4 hrc
                      go_wp2_with (first
                        | (go_at_call 25; refine (sets10_at _ _ _ _ _ _ _ _ _ _ HD.out).mono ?_; rintro e w6 ⟨rfl, hb6⟩; have hb46 := HBJ2.out.trans (hb6.mono HBJ2.out.size); have HB6 := Lib.hid hb46; clear hb6 hb46 d0 d1 d2 d3 e0 i0 i1 i2 i3 i4 i5 i6 i7))
                      go_loopg [12] row4.length (fun gh i wr => ∃ m : Nat, gh + m = row4.length ∧ i = I m ∧ Below w4.heap.size w4 wr ∧ (0 ≤ d → ∀ x ∈ row4.take m, x ≠ d → l[x.toNat]? ≠ l[d.toNat]?))
                      case atStart => exact ⟨0, rfl, rfl, HB6.out, by simp⟩
                      case round =>
                        obtain ⟨m, hgm, rfl, hbm2, hnm⟩ := hrel
                        obtain ⟨wu, rfl⟩ : ∃ wu, wu = wr := ⟨_, rfl⟩
                        have hrcu := (hbm2.cell (p := ⟨rb, ro + j2, none⟩) (World.block_lt_of_cell? w4 _ HRC.out)).trans HRC.out
                        have HBU := Lib.hid hbm2
                        have HNU := Lib.hid hnm
                        have HSU := Lib.hid (HS4.out.ext hbm2)
                        clear hbm2 hnm
                        by_cases hgo : m < row4.length ∧ 0 ≤ d
                        · obtain ⟨hlm, hd0⟩ := hgo
                          obtain ⟨dn, rfl⟩ : ∃ dn : Nat, d = (dn : Int) := ⟨d.toNat, by omega⟩
                          have hdl : dn < l.length := by omega
                          have hdz : (dn : Int) < (l.length : Int) := by omega
                          obtain ⟨x, hx⟩ : ∃ x : Nat, row4[m] = (x : Int) := ⟨row4[m].toNat, by have := HR4.out _ (List.getElem_mem hlm); omega⟩
                          have hxr := HR4.out _ (List.getElem_mem hlm)
                          rw [hx] at hxr
                          have hxl : x < l.length := by omega
                          have hxz : (x : Int) < (l.length : Int) := by omega
                          obtain ⟨nb, no, nc, hne, hnc, _⟩ := RInts.at (HRR4.out.below HBU.out) hlm
                          obtain ⟨rfl, rfl⟩ : ya = some ⟨nb, no, none⟩ ∧ yc = nc := by simpa using hne
                          rw [hx] at hnc
                          obtain ⟨pb, po, pc, hpe, hpx, _⟩ := RInts.at HSU.out.l hxl
                          obtain ⟨rfl, rfl⟩ : la = some ⟨pb, po, none⟩ ∧ lc = pc := by simpa using hpe
                          obtain ⟨pb', po', pc', hpe', hpd, _⟩ := RInts.at HSU.out.l hdl
                          obtain ⟨⟨rfl, rfl⟩, rfl⟩ : (pb = pb' ∧ po = po') ∧ lc = pc' := by simpa using hpe'
                          obtain ⟨p, hpp⟩ : ∃ p, p = l[x] := ⟨_, rfl⟩
                          obtain ⟨q, hqq⟩ : ∃ q, q = l[dn] := ⟨_, rfl⟩
                          rw [← hpp] at hpx
                          rw [← hqq] at hpd
                          have HPP := Lib.hid hpp
                          have HQQ := Lib.hid hqq
                          have HX := Lib.hid hx
                          have hmem : AfterS blk (LiveS f.blocks) j2 (x : Int) := (HM4R.out _).1 (by rw [← hx]; exact List.getElem_mem hlm)
                          have HMEM := Lib.hid hmem
                          clear hx hne hpe hpe' hpp hqq hmem
                          by_cases hxd : x = dn
                          · subst hxd
                            have hxe : ((x : Int) != (x : Int)) = false := by simp
                            go_wp2
                            go_quiet (fail)
                            go_wp2
                            go_roundg (row4.length - (m + 1))
                            case measure => omega
                            case rel =>
                              refine ⟨m + 1, by omega, by go_num, below_drewN' HBU.out _, fun h0 z hz hzd => ?_⟩
                              rw [List.take_add_one, List.getElem?_eq_getElem hlm, HX.out] at hz
                              simp only [Option.toList_some, List.mem_append, List.mem_singleton] at hz
                              rcases hz with hz | rfl
                              · exact HNU.out h0 z hz hzd
                              · exact absurd rfl hzd
                          · have hxe : ((x : Int) != (dn : Int)) = true := by simp; omega
                            by_cases hpq : p = q
                            · have hpe : (p == q) = true := by simpa using hpq
                              have HPQ := Lib.hid hpq
                              have HXD := Lib.hid hxd
                              clear hpq hxd
                              go_wp2
                              go_quiet (fail)
                              go_wp2
                              go_ret
                              refine boolIs_no (HBAD.out fun h => ?_) (below_drewN' HSU.out.below _)
                              have h1 := h.set j2 ins HIQ.out
                              unfold SetOk at h1
                              rw [HD.out] at h1
                              refine h1 (by omega) (x : Int) HMEM.out (fun e => HXD.out (by omega)) ?_
                              rw [Int.toNat_natCast, Int.toNat_natCast, List.getElem?_eq_getElem hxl, List.getElem?_eq_getElem hdl, ← HPP.out, ← HQQ.out, HPQ.out]
                            · have hpe : (p == q) = false := by simpa using hpq
                              have HPQ := Lib.hid hpq
                              have HXD := Lib.hid hxd
                              clear hpq hxd
                              go_wp2
                              go_quiet (fail)
                              go_wp2
                              go_roundg (row4.length - (m + 1))
                              case measure => omega
                              case rel =>
                                refine ⟨m + 1, by omega, by go_num, below_drewN' HBU.out _, fun h0 z hz hzd => ?_⟩
                                rw [List.take_add_one, List.getElem?_eq_getElem hlm, HX.out] at hz
                                simp only [Option.toList_some, List.mem_append, List.mem_singleton] at hz
                                rcases hz with hz | rfl
                                · exact HNU.out h0 z hz hzd
                                · rw [Int.toNat_natCast, Int.toNat_natCast, List.getElem?_eq_getElem hxl, List.getElem?_eq_getElem hdl, ← HPP.out, ← HQQ.out]
                                  exact fun e => HPQ.out (Option.some.inj e)
                        · have hok2 : SetOk f l blk j2 ins := fun h0 x hx hxd => by
                            rw [HD.out] at h0 hxd ⊢
                            exact HNU.out h0 x (by rw [List.take_of_length_le (by omega)]; exact (HM4R.out x).2 hx) hxd
                          have HOK2 := Lib.hid hok2
                          have hw2 : (¬ m < row4.length) ∨ (m < row4.length ∧ ¬ 0 ≤ d) := by omega
                          clear hgo hok2
                          rcases hw2 with h | ⟨h, h2⟩
                          all_goals
                            go_wp2
                            go_roundg (blk.ins.length - (j2 + 1))
                            case measure => omega
                            case rel =>
                              refine ⟨j2 + 1, by omega, by go_num, HBU.out, fun q ins' hq hi => ?_⟩
                              by_cases hqj : q < j2
                              · exact HNJ2.out q ins' hqj hi
                              · obtain rfl : q = j2 := by omega
                                rw [HIQ.out] at hi
                                cases hi
                                exact HOK2.out
                    · go_wp2
                      go_roundg (f.blocks.length - (k + 1))
                      case measure => omega
                      case rel =>
                        refine ⟨k + 1, by omega, by go_num, HSX.out, fun i b hi hb => ?_⟩
                        by_cases hik : i < k
                        · exact HOK.out i b hik hb
                        · obtain rfl : i = k := by omega
                          rw [HBK.out] at hb
                          cases hb
                          exact ⟨HLV.out, HAF.out, fun q ins hq => HNJ2.out q ins (by have := (List.getElem?_eq_some_iff.1 hq).1; omega) hq⟩
            · go_ret
              exact boolIs_no (HBAD.out fun h => h.live (HCI.out.1 (HR3.out.1 (by simp)))) HS3.out.below
          · have hltz : ¬ (k : Int) < (f.blocks.length : Int) := by omega
            have hall : ∀ (i : Nat) (b : LBlock), f.blocks[i]? = some b → BlkOk f l i b := fun i b hb => HOK.out i b (by have := (List.getElem?_eq_some_iff.1 hb).1; omega) hb
            have HALL := Lib.hid hall
            obtain ⟨N, hN⟩ : ∃ N, N = (min f.params f.values).toNat := ⟨_, rfl⟩
            have hNv : N ≤ 50000 := by omega
            have hlt2 : ∀ a : Nat, a < N ↔ (a : Int) < f.params ∧ (a : Int) < f.values := fun a => by omega
            have HN := Lib.hid hlt2
            clear hall hN hlt2 HOK d0 d1 d2 d3
            obtain ⟨d0, d1, d2, d3⟩ := flow_cells HSO.out.box
            go_wp2
            clear d0 d1 d2 d3
            go_loopg [13] N (fun gh i wr => ∃ a : Nat, gh + a = N ∧ i = I a ∧ FtSt w f (.slice a0 f.blocks.length c0) (.slice la l.length lc) (.slice (some ⟨g1, 0, none⟩) f.blocks.length f.blocks.length) l Ls wr ∧ ∀ a' b' : Nat, a' < a → b' < N → ParOk f l a' b')
            case atStart => exact ⟨0, rfl, rfl, HSO.out, fun a' b' h => by omega⟩
            case round =>
              obtain ⟨a, hga, rfl, hsa, hpa⟩ := hrel
              obtain ⟨wa, rfl⟩ : ∃ wa, wa = wr := ⟨_, rfl⟩
              obtain ⟨d0, d1, d2, d3⟩ := flow_cells hsa.box
              have HSA := Lib.hid hsa
              have HPA := Lib.hid hpa
              clear hsa hpa
              by_cases hlA : a < N
              · obtain ⟨ha1, ha2⟩ := (HN.out a).1 hlA
                go_wp2
                clear d0 d1 d2 d3
                go_loopg [14] N (fun gh i wr => ∃ b : Nat, gh + b = N ∧ i = I b ∧ FtSt w f (.slice a0 f.blocks.length c0) (.slice la l.length lc) (.slice (some ⟨g1, 0, none⟩) f.blocks.length f.blocks.length) l Ls wr ∧ ∀ b' : Nat, b' < b → ParOk f l a b')
                case atStart => exact ⟨0, rfl, rfl, HSA.out, fun b' h => by omega⟩
                case round =>
                  obtain ⟨b, hgb, rfl, hsb, hpb⟩ := hrel
                  obtain ⟨wb, rfl⟩ : ∃ wb, wb = wr := ⟨_, rfl⟩
                  obtain ⟨d0, d1, d2, d3⟩ := flow_cells hsb.box
                  have HSB := Lib.hid hsb
                  have HPB := Lib.hid hpb
                  clear hsb hpb
                  by_cases hlB : b < N
                  · obtain ⟨hb1, hb2⟩ := (HN.out b).1 hlB
                    have hal : a < l.length := by have := HVL.out; omega
                    have hbl : b < l.length := by have := HVL.out; omega
                    have hstep : ParOk f l a b → ∀ b' : Nat, b' < b + 1 → ParOk f l a b' := fun h b' hb' => by
                      by_cases hbb : b' < b
                      · exact HPB.out b' hbb
                      · obtain rfl : b' = b := by omega
                        exact h
                    have HSTEP := Lib.hid hstep
                    have hfalse : ¬ ParOk f l a b → ¬ FitsS f l := fun h h' => h (fitsS_par HRM.out HVL.out h' ⟨ha1, ha2⟩ ⟨hb1, hb2⟩)
                    have HFALSE := Lib.hid hfalse
                    clear hstep hfalse
                    by_cases hab : a = b
                    · subst hab
                      have hne : ((a : Int) != (a : Int)) = false := by simp
                      go_wp2
                      go_quiet (fail)
                      go_wp2
                      go_roundg (N - (a + 1))
                      case measure => omega
                      case rel => exact ⟨a + 1, by omega, by go_num, HSB.out.ext (below_drewQ _ _), HSTEP.out (fun h => absurd rfl h)⟩
                    · have hne : ((a : Int) != (b : Int)) = true := by simp; omega
                      have HAB := Lib.hid hab
                      clear hab
                      by_cases hpos : 0 < f.blocks.length
                      · have hL0 : 0 < Ls.length := by rw [HLL.out]; exact hpos
                        obtain ⟨gb', go', gc', xa, xc, hge, hgc, hgr⟩ := RLs.at HSB.out.live hL0
                        obtain ⟨⟨rfl, rfl⟩, rfl⟩ : (g1 = gb' ∧ 0 = go') ∧ f.blocks.length = gc' := by
                          rw [HLL.out] at hge
                          simpa using hge
                        rw [Nat.zero_add] at hgc
                        obtain ⟨row, hrow⟩ : ∃ row, row = Ls[0] := ⟨_, rfl⟩
                        have hmemk := (HME.out 0 row (by rw [hrow]; exact List.getElem?_eq_getElem hL0)).2
                        rw [← hrow] at hgc hgr
                        have hwq : ∀ q, RInts (wb.drewN q) (.slice xa row.length xc) row := fun q => hgr.below (below_drewQ _ _)
                        have HGR := Lib.hid hwq
                        have HMK := Lib.hid hmemk
                        clear hge hrow hmemk hgr hwq
                        by_cases hin : (a : Int) ∈ row
                        · have HIN := Lib.hid hin
                          clear hin
                          obtain ⟨pb, po, pc, hpe, hpx, _⟩ := RInts.at HSB.out.l hal
                          obtain ⟨rfl, rfl⟩ : la = some ⟨pb, po, none⟩ ∧ lc = pc := by simpa using hpe
                          obtain ⟨pb', po', pc', hpe', hpd, _⟩ := RInts.at HSB.out.l hbl
                          obtain ⟨⟨rfl, rfl⟩, rfl⟩ : (pb = pb' ∧ po = po') ∧ lc = pc' := by simpa using hpe'
                          obtain ⟨p, hpp⟩ : ∃ p, p = l[a] := ⟨_, rfl⟩
                          obtain ⟨q, hqq⟩ : ∃ q, q = l[b] := ⟨_, rfl⟩
                          rw [← hpp] at hpx
                          rw [← hqq] at hpd
                          have HPP := Lib.hid hpp
                          have HQQ := Lib.hid hqq
                          have haz : (a : Int) < (l.length : Int) := by omega
                          have hbz : (b : Int) < (l.length : Int) := by omega
                          clear hpe hpe' hpp hqq
                          by_cases hpq : p = q
                          · have hpe : (p == q) = true := by simpa using hpq
                            have HPQ := Lib.hid hpq
                            clear hpq
                            go_wp2
                            go_quiet ((go_at_call 26; exact Calls.quiet_of ((wanted16_yes _ row a _ (HGR.out _) HIN.out).mono fun _ _ ⟨he, hw⟩ => ⟨he, 0, hw⟩)))
                            go_wp2
                            go_ret
                            refine boolIs_no (HFALSE.out fun h => ?_) (below_drewN' HSB.out.below _)
                            refine h (fun e => HAB.out e) hpos ((HMK.out _).1 HIN.out) ?_
                            rw [List.getElem?_eq_getElem hal, List.getElem?_eq_getElem hbl, ← HPP.out, ← HQQ.out, HPQ.out]
                          · have hpe : (p == q) = false := by simpa using hpq
                            have HPQ := Lib.hid hpq
                            clear hpq
                            go_wp2
                            go_quiet ((go_at_call 26; exact Calls.quiet_of ((wanted16_yes _ row a _ (HGR.out _) HIN.out).mono fun _ _ ⟨he, hw⟩ => ⟨he, 0, hw⟩)))
                            go_wp2
                            go_roundg (N - (b + 1))
                            case measure => omega
                            case rel =>
                              refine ⟨b + 1, by omega, by go_num, HSB.out.ext (below_drewQ _ _), HSTEP.out fun _ _ _ => ?_⟩
                              rw [List.getElem?_eq_getElem hal, List.getElem?_eq_getElem hbl, ← HPP.out, ← HQQ.out]
                              exact fun e => HPQ.out (Option.some.inj e)
                        · have HIN := Lib.hid hin
                          clear hin
                          go_wp2
                          go_quiet ((go_at_call 26; exact Calls.quiet_of ((wanted16_no _ row a _ (HGR.out _) HIN.out).mono fun _ _ ⟨he, hw⟩ => ⟨he, 0, hw⟩)))
                          go_wp2
                          go_roundg (N - (b + 1))
                          case measure => omega
                          case rel => exact ⟨b + 1, by omega, by go_num, HSB.out.ext (below_drewQ _ _), HSTEP.out fun _ _ h => absurd ((HMK.out _).2 h) HIN.out⟩
                      · go_wp2
                        go_quiet (fail)
                        go_wp2
                        go_roundg (N - (b + 1))
                        case measure => omega
                        case rel => exact ⟨b + 1, by omega, by go_num, HSB.out.ext (below_drewQ _ _), HSTEP.out fun _ h => absurd h hpos⟩
                  · have hno : ¬ ((b : Int) < f.params ∧ (b : Int) < f.values) := fun h => hlB ((HN.out b).2 h)
                    have hw2 : (¬ (b : Int) < f.params) ∨ ((b : Int) < f.params ∧ ¬ (b : Int) < f.values) := by omega
                    clear hno
                    rcases hw2 with h | ⟨h, h2⟩
                    all_goals
                      go_wp2
                      go_roundg (N - (a + 1))
                      case measure => omega
                      case rel =>
                        refine ⟨a + 1, by omega, by go_num, HSB.out, fun a' b' ha' hb' => ?_⟩
                        by_cases haa : a' < a
                        · exact HPA.out a' b' haa hb'
                        · obtain rfl : a' = a := by omega
                          exact HPB.out b' (by omega)
              · have hno : ¬ ((a : Int) < f.params ∧ (a : Int) < f.values) := fun h => hlA ((HN.out a).2 h)
                have hw2 : (¬ (a : Int) < f.params) ∨ ((a : Int) < f.params ∧ ¬ (a : Int) < f.values) := by omega
                have hfit : FitsS f l := fitsS_mk HRM.out HVL.out HALL.out (fun a' b' h1 h2 => HPA.out a' b' (by have := (HN.out a').2 h1; omega) ((HN.out b').2 h2))
                have HFIT := Lib.hid hfit
                clear hno hfit
                rcases hw2 with h | ⟨h, h2⟩
                all_goals
                  go_wp2
                  go_ret
                  exact ⟨true, rfl, ⟨fun _ => HFIT.out, fun _ => rfl⟩, HSA.out.below⟩
end Go.Proofs.Ytdlcpmjhngfgkaa
