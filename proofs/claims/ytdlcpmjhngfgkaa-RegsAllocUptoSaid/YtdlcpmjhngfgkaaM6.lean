import Derived.Test.YtdlcpmjhngfgkaaM5
import Derived.Test.YtdlcpmjhngfgkaaM3
import Derived.Test.YtdlcpmjhngfgkaaK1
import Derived.Deep.DeepCutAuto
namespace Go.Proofs.Ytdlcpmjhngfgkaa
open Go.RowKit Go.Shelf
attribute [local go_sem] Oper.semAt_some

theorem may16_b (f : LFlow) (bv : Value) (w : World) (hf : Fine w f bv) (r : Bool) (h : rmayB f = r) :
    Calls Try.prog 10 #[f.agg bv] w fun e w' => e = .returned (.bool r) ∧ Below w.heap.size w w' :=
  (may16_any f bv w hf).mono fun _ _ ⟨r', he, hr, hb⟩ => ⟨by subst h; cases r' <;> cases hm : rmayB f <;> simp_all, hb⟩

theorem cell_kept {W W' : World} (hb : Below W.heap.size W W') {p : Addr} {x : Value} (h : W.cell? p = some x) : W'.cell? p = some x := (hb.cell (World.block_lt_of_cell? _ _ h)).trans h

/-- two functions in a row -/
structure LwSt (W : World) (G : Nat) (f : LFlow) (bv : Value) (g : LFlow) (gv : Value) : Prop where
  row : Row W G 24 [.string f.name, I f.params, I f.values, bv, .string g.name, I g.params, I g.values, gv]
  f : Fine W f bv
  g : Fine W g gv
theorem LwSt.ext {W W' : World} {G : Nat} {f g : LFlow} {bv gv : Value} (h : LwSt W G f bv g gv) (hb : Below W.heap.size W W') : LwSt W' G f bv g gv := ⟨h.row.ext hb, h.f.below hb, h.g.below hb⟩
theorem LwSt.at {W : World} {G : Nat} {f g : LFlow} {bv gv : Value} (h : LwSt W G f bv g gv) {k : Nat} (hk : k < 2) :
    ∃ (x : LFlow) (xv : Value), W.cell? ⟨G, k * 4, none⟩ = some (.string x.name) ∧ W.cell? ⟨G, k * 4 + 1, none⟩ = some (I x.params) ∧ W.cell? ⟨G, k * 4 + 2, none⟩ = some (I x.values) ∧ W.cell? ⟨G, k * 4 + 3, none⟩ = some xv ∧ Fine W x xv := by
  rcases (by omega : k = 0 ∨ k = 1) with rfl | rfl
  · exact ⟨f, bv, h.row.cell 0, h.row.cell 1, h.row.cell 2, h.row.cell 3, h.f⟩
  · exact ⟨g, gv, h.row.cell 4, h.row.cell 5, h.row.cell 6, h.row.cell 7, h.g⟩

set_option maxRecDepth 100000 in
set_option maxHeartbeats 8000000 in
theorem law3_any (f : LFlow) (bv rv : Value) (raw : List LBlock) (which regs : Int) (w : World) (hf : Fine w f bv) (hr : RSl 5 RRawB w rv raw) (hw : InI which) (hg : InI regs) :
    Calls Try.prog 3 #[f.agg bv, rv, I which, I regs] w fun e w' => e = .returned (.bool true) ∧ Below w.heap.size w w' := by
  obtain ⟨a1, c1, rfl, hlen⟩ := RSl.form hf.blocks
  obtain ⟨a0, c0, rfl, hlr⟩ := RSl.form hr
  have HF := Lib.hid hf
  have HR := Lib.hid hr
  have HW := Lib.hid hw
  have HG := Lib.hid hg
  clear hf hr hw hg
  by_cases hbig : 20 < (f.blocks.length : Int) ∨ 50 < f.values
  · rcases (by omega : (20 < (f.blocks.length : Int)) ∨ (¬ (20 < (f.blocks.length : Int)) ∧ 50 < f.values)) with h | ⟨h, h2⟩
    all_goals
      clear hbig
      go_enter Try.func3, Try.ntmps3
      go_wp2_with (first
        | (go_at_call 6; refine (awake_any _).mono ?_; rintro e w1 ⟨rfl, hb1⟩; rw [World.size_alloc] at hb1; have hk1 := (hb1.block w.heap.size (by omega)).trans (heap_new _ _); obtain ⟨d0, d1, d2, d3⟩ := flow_cells hk1; have HB1 := Lib.hid hb1; clear hb1 hk1))
      go_ret
      exact ⟨rfl, (below_a1 w _).trans (HB1.out.mono (by omega))⟩
  · have hb20 : ¬ (20 < (f.blocks.length : Int)) := by omega
    have hv50 : ¬ 50 < f.values := by omega
    obtain ⟨q, hq⟩ : ∃ q : Nat, pickI which 3 = (q : Int) := ⟨(pickI which 3).toNat, by have := pickI_nonneg which 3 (by omega); omega⟩
    have hq3 : q < 3 := by have := pickI_nonneg which 3 (by omega); omega
    have hpick : ∀ W, Calls Try.prog 7 #[I which, I 3] W fun e w' => e = .returned (I q) ∧ W = w' := fun W => by
      rw [← hq]; exact pick16_any which 3 W HW.out (by omega) (by omega)
    have HPK := Lib.hid hpick
    clear hbig hpick hq
    go_enter Try.func3, Try.ntmps3
    go_upto_region 6 with (first
      | (go_at_call 6; refine (awake_any _).mono ?_; rintro e w1 ⟨rfl, hb1⟩; rw [World.size_alloc] at hb1; have hl1 := hb1.size; rw [World.size_alloc] at hl1; have hk1 := (hb1.block w.heap.size (by omega)).trans (heap_new _ _); obtain ⟨d0, d1, d2, d3⟩ := flow_cells hk1; have HK1 := Lib.hid hk1; have HB1 := Lib.hid ((below_a1 w _).trans (hb1.mono (by omega))); clear hb1 hk1)
      | (go_at_call 7; (with_reducible refine (pick16_ex regs 35 _ HG.out (by omega) (by omega)).mono ?_); rintro e w3 ⟨r, rfl, hr35, rfl⟩)
      | (go_at_call 8; refine (fit2_any _ raw _ (RSl.below (R := RRawB) (fun hb h => h.below hb) HB1.out HR.out)).mono ?_; rintro e w2 ⟨av, uv, fs, rfl, hfl, hown, hgood, hb2, aa, al, ac, rfl⟩; obtain ⟨ua, uc, rfl⟩ := hown.slice; rw [hfl]; have HFL := Lib.hid hfl; have HOW := Lib.hid hown; have HGD := Lib.hid hgood; have HB2 := Lib.hid hb2; clear hfl hown hgood hb2 d0 d1 d2 d3))
    have hq3' : q < fs.length := by have := HFL.out; omega
    obtain ⟨g, c, he, hgb, hcl⟩ := HOW.out.cell fEnc_len hq3'
    obtain ⟨rfl, rfl⟩ : ua = some ⟨g, 0, none⟩ ∧ uc = c := by simpa using he
    clear he
    obtain ⟨p, hp⟩ : ∃ p, p = fs[q] := ⟨_, rfl⟩
    rw [← hp] at hcl
    obtain ⟨gf, rf⟩ := HGD.out q p (by rw [hp]; exact List.getElem?_eq_getElem hq3')
    have d0 := (hcl 0 (by omega)).1
    have d1 := (hcl 1 (by omega)).1
    have d2 := (hcl 2 (by omega)).1
    have d3 := (hcl 3 (by omega)).1
    simp only [fEnc, List.getElem?_cons_succ, List.getElem?_cons_zero, Nat.add_zero] at d0 d1 d2 d3
    clear hcl hp
    obtain ⟨⟨fn, fp, fv, fb⟩, ba, bc⟩ := p
    simp only [] at d0 d1 d2 d3 gf rf
    have hg2 : Fine w2 ⟨fn, fp, fv, fb⟩ (.slice ba fb.length bc) := gf.fine (rf _ (TK.refl _ _))
    have HG2 := Lib.hid hg2
    clear gf rf hg2 hq3'
    obtain ⟨z, hz⟩ : ∃ z : Int, z = (r : Int) - 1 := ⟨_, rfl⟩
    rw [← hz]
    have hz0 : -1 ≤ z := by omega
    have hz1 : z ≤ 33 := by omega
    have hqz : (q : Int) < 3 := by omega
    clear hz hr35
    obtain ⟨w3, hw3⟩ : ∃ w3, w3 = w2.alloc (.cells #[.slice aa al ac, .slice (some ⟨g, 0, none⟩) 3 uc] 30) := ⟨_, rfl⟩
    have hb23 : Below w2.heap.size w2 w3 := by rw [hw3]; exact below_a1 _ _
    have hgl : ∀ j x, w2.cell? ⟨g, j, none⟩ = some x → w3.cell? ⟨g, j, none⟩ = some x := fun j x h => (hb23.cell (p := ⟨g, j, none⟩) (World.block_lt_of_cell? _ _ h)).trans h
    have e0 := hgl _ _ d0
    have e1 := hgl _ _ d1
    have e2 := hgl _ _ d2
    have e3 := hgl _ _ d3
    have e4 : w3.cell? ⟨w2.heap.size, 1, none⟩ = some (.slice (some ⟨g, 0, none⟩) 3 uc) := by rw [hw3]; exact cell_of_block (heap_new _ _) 1
    have hk3 : w3.heap[w.heap.size]? = some (.cells (f.cells (.slice a1 f.blocks.length c1)) 24 (0, 0)) := by
      have h1 := HB2.out
      have h2 := (h1.block w.heap.size (by omega)).trans HK1.out
      exact (hb23.block w.heap.size (by have := h1.size; omega)).trans h2
    obtain ⟨b0, b1, b2, b3⟩ := flow_cells hk3
    have hb03 : Below w.heap.size w w3 := HB1.out.trans ((HB2.out.trans (hb23.mono HB2.out.size)).mono HB1.out.size)
    have HB03 := Lib.hid hb03
    have HF3 := Lib.hid (HF.out.below hb03)
    have HG3 := Lib.hid (HG2.out.below hb23)
    rw [← hw3]
    clear hgl d0 d1 d2 d3 hb23 hk3 hb03 hw3 HG2 HK1
    refine wp_region_ordW (by kernel_rfl) (fun W => (W.cell? ⟨w.heap.size, 0, none⟩ = some (.string f.name) ∧ W.cell? ⟨w.heap.size, 1, none⟩ = some (I f.params) ∧ W.cell? ⟨w.heap.size, 2, none⟩ = some (I f.values) ∧ W.cell? ⟨w.heap.size, 3, none⟩ = some (.slice a1 f.blocks.length c1)) ∧ W.cell? ⟨w2.heap.size, 1, none⟩ = some (.slice (some ⟨g, 0, none⟩) 3 uc) ∧ W.cell? ⟨g, q * 4, none⟩ = some (.string fn) ∧ W.cell? ⟨g, q * 4 + 1, none⟩ = some (I fp) ∧ W.cell? ⟨g, q * 4 + 2, none⟩ = some (I fv) ∧ W.cell? ⟨g, q * 4 + 3, none⟩ = some (.slice ba fb.length bc))
      [(0, 0), (0, 1), (0, 2), (0, 3), (0, 9), (1, 4), (0, 5), (0, 6), (1, 7), (0, 8)] (by kernel_rfl) ?hS ?_
    case hS => intro wd hh; simp only [World.cell?, hh] at b0 b1 b2 b3 e0 e1 e2 e3 e4 ⊢; exact ⟨⟨b0, b1, b2, b3⟩, e4, e0, e1, e2, e3⟩
    intro wd hh hgd hS
    have hb3d : Below w3.heap.size w3 wd := (Below.refl _ w3).grown hgd (Nat.le_refl _) (fun _ e => by cases e)
    have HB3D := Lib.hid hb3d
    clear hh hgd hb3d b0 b1 b2 b3 e0 e1 e2 e3 e4
    simp only [pickOps, List.map_cons, List.map_nil, List.getElem?_cons_zero, List.getElem?_cons_succ, Option.getD_some]
    repeat (refine wpOrd_look (v := ?_) (by rfl) ?_ (by assumption) (fun _ _ _ h => h) ?_; rotate_left; (· (intro wS hSw; (try dsimp only at hSw); go_simp; (first | done | with_reducible rfl))); simp only [Act.put, List.setIfInBounds_toArray, List.set_cons_zero, List.set_cons_succ])
    refine wpOrd_turn ?_
    go_wp2_with (first
      | (go_at_call 7; refine (HPK.out wd).mono ?_; rintro e w4 ⟨rfl, rfl⟩))
    refine QN_keep hS fun hS => ?_
    repeat (refine wpOrd_look (v := ?_) (by rfl) ?_ (by assumption) (fun _ _ _ h => h) ?_; rotate_left; (· (intro wS hSw; (try dsimp only at hSw); go_simp; (first | done | with_reducible rfl))); simp only [Act.put, List.setIfInBounds_toArray, List.set_cons_zero, List.set_cons_succ])
    refine wpOrd_turn ?_
    go_wp2
    obtain ⟨W4, hW4⟩ : ∃ W4, W4 = wd.alloc (.cells #[.string f.name, I f.params, I f.values, .slice a1 f.blocks.length c1, .string fn, I fp, I fv, .slice ba fb.length bc] 24) := ⟨_, rfl⟩
    have hb4 : Below wd.heap.size wd W4 := by rw [hW4]; exact below_a1 _ _
    have hrow4 : Row W4 wd.heap.size 24 [.string f.name, I f.params, I f.values, .slice a1 f.blocks.length c1, .string fn, I fp, I fv, .slice ba fb.length bc] := by rw [hW4]; exact heap_new _ _
    rw [← hW4]
    refine QN_keep ⟨⟨cell_kept hb4 hS.1.1, cell_kept hb4 hS.1.2.1, cell_kept hb4 hS.1.2.2.1, cell_kept hb4 hS.1.2.2.2⟩, cell_kept hb4 hS.2.1, cell_kept hb4 hS.2.2.1, cell_kept hb4 hS.2.2.2.1, cell_kept hb4 hS.2.2.2.2.1, cell_kept hb4 hS.2.2.2.2.2⟩ fun hS => ?_
    repeat (refine wpOrd_look (v := ?_) (by rfl) ?_ (by assumption) (fun _ _ _ h => h) ?_; rotate_left; (· (intro wS hSw; (try dsimp only at hSw); go_simp; (first | done | with_reducible rfl))); simp only [Act.put, List.setIfInBounds_toArray, List.set_cons_zero, List.set_cons_succ])
    refine wpOrd_nil ?_
    have hb34 : Below w3.heap.size w3 W4 := HB3D.out.trans (hb4.mono HB3D.out.size)
    have hlw : LwSt W4 wd.heap.size f (.slice a1 f.blocks.length c1) ⟨fn, fp, fv, fb⟩ (.slice ba fb.length bc) := ⟨hrow4, HF3.out.below hb34, HG3.out.below hb34⟩
    have HLW := Lib.hid hlw
    have HB4 := Lib.hid (HB03.out.trans (hb34.mono HB03.out.size))
    have hzi : InI z := by unfold InI; omega
    have HZI := Lib.hid hzi
    obtain ⟨G, hG⟩ : ∃ G, G = wd.heap.size := ⟨_, rfl⟩
    rw [← hG] at HLW
    rw [← hG]
    clear hW4 hb4 hrow4 hS hb34 hlw HB3D HB03 HF3 HG3 hG hzi HB2 HB1 HOW HGD HFL HPK HF HR HW HG
    go_wp2
    go_loopg [43] 2 (fun gh i wr => ∃ k : Nat, gh + k = 2 ∧ i = I k ∧ Below W4.heap.size W4 wr)
    case atStart => exact ⟨0, rfl, rfl, Below.refl _ _⟩
    case round =>
      obtain ⟨k, hg, rfl, hb⟩ := hrel
      obtain ⟨wo, rfl⟩ : ∃ wo, wo = wr := ⟨_, rfl⟩
      have HBO := Lib.hid hb
      have hzo := hb.size
      by_cases hlt : k < 2
      · have hkz : (k : Int) < 2 := by omega
        obtain ⟨x, xv, x0, x1, x2, x3, hx⟩ := (HLW.out.ext hb).at hlt
        obtain ⟨xa, xc, rfl, _⟩ := RSl.form hx.blocks
        have HX := Lib.hid hx
        clear hb hx
        go_upto_region 9 with (fail)
        obtain ⟨w5, hw5⟩ : ∃ w5, w5 = wo.alloc (.cells #[.string x.name, .int .i64 x.params, .int .i64 x.values, .slice xa x.blocks.length xc] 24) := ⟨_, rfl⟩
        have hb5 : Below wo.heap.size wo w5 := by rw [hw5]; exact below_a1 _ _
        have hk5 : w5.heap[wo.heap.size]? = some (.cells (x.cells (.slice xa x.blocks.length xc)) 24 (0, 0)) := by rw [hw5]; exact heap_new _ _
        have hz5 : wo.heap.size < w5.heap.size := by rw [hw5]; simp
        rw [← hw5]
        have HB5 := Lib.hid hb5
        have HK5 := Lib.hid hk5
        have HX5 := Lib.hid (HX.out.below hb5)
        clear x0 x1 x2 x3 hw5 hb5 HX
        obtain ⟨d0, d1, d2, d3⟩ := flow_cells hk5
        clear hk5
        go_upto_region 10 with (first
          | (go_at_call 9; refine (alloc_all x _ w5 HX5.out z HZI.out).mono ?_; rintro e w6 ⟨v6, o6, rfl, hr6, hl6, ha6, hb6⟩; obtain ⟨a6, c6, rfl, _⟩ := RSl.form hr6; have HR6 := Lib.hid hr6; have HA6 := Lib.hid ha6; have HB6 := Lib.hid hb6; have HX6 := Lib.hid (HX5.out.below hb6); have hz6 := hb6.size; have hk6 := (hb6.block wo.heap.size hz5).trans HK5.out; clear d0 d1 d2 d3; obtain ⟨d0, d1, d2, d3⟩ := flow_cells hk6; have HK6 := Lib.hid hk6; clear hr6 ha6 hb6 hk6))
        go_upto_region 11 with (first
          | (go_at_call 9; refine (alloc_all x _ w6 HX6.out z HZI.out).mono ?_; rintro e w7 ⟨v7, o7, rfl, hr7, hl7, ha7, hb7⟩; obtain rfl : o6 = o7 := HA6.out.one ha7; obtain ⟨a7, c7, rfl, _⟩ := RSl.form hr7; have HR7 := Lib.hid hr7; have HB7 := Lib.hid hb7; have HX7 := Lib.hid (HX6.out.below hb7); have HR67 := Lib.hid (RInts.below hb7 HR6.out); have hz7 := hb7.size; have hk7 := (hb7.block wo.heap.size (by omega)).trans HK6.out; clear d0 d1 d2 d3; obtain ⟨d0, d1, d2, d3⟩ := flow_cells hk7; have HK7 := Lib.hid hk7; clear hr7 ha7 hb7 hk7))
        have HOO := Lib.hid (HB5.out.trans ((HB6.out.trans (HB7.out.mono hz6)).mono (by omega)))
        clear HB5 HB6 HB7 HR6 HX5 HX6 HK5 HK6
        obtain ⟨mb, hmb⟩ : ∃ mb : Bool, mb = true ↔ AlcMay x z := by
          classical
          exact ⟨decide (AlcMay x z), by simp⟩
        have HMB := Lib.hid hmb
        clear hmb
        go_cut [16] (fun s16 wc => s16 = .bool mb ∧ Below w7.heap.size w7 wc)
        case first =>
          as_aux_lemma =>
          cases hrm : rmayB x
          · have hmf : mb = false := by
              cases mb with
              | false => rfl
              | true => have := (HMB.out.1 rfl).1; rw [hrm] at this; cases this
            subst hmf
            have HRM := Lib.hid hrm
            clear hrm
            go_wp2_with (first
              | (go_at_call 10; refine (may16_b x _ w7 HX7.out false HRM.out).mono ?_; rintro e w8 ⟨rfl, hb8⟩; have HB8 := Lib.hid hb8; clear hb8))
            go_meet
            exact ⟨rfl, HB8.out⟩
          · have HRM := Lib.hid hrm
            clear hrm
            rcases (by omega : ¬ 0 ≤ z ∨ (0 ≤ z ∧ ¬ z ≤ 32) ∨ (0 ≤ z ∧ z ≤ 32)) with h | ⟨h, h2⟩ | ⟨h, h2⟩
            case' inl => obtain rfl : mb = false := by { cases mb with | false => rfl | true => exact absurd (HMB.out.1 rfl).2.1 h }
            case' inr.inl => obtain rfl : mb = false := by { cases mb with | false => rfl | true => exact absurd (HMB.out.1 rfl).2.2 h2 }
            case' inr.inr => obtain rfl : mb = true := HMB.out.2 ⟨HRM.out, h, h2⟩
            all_goals
              go_wp2_with (first
                | (go_at_call 10; refine (may16_b x _ w7 HX7.out true HRM.out).mono ?_; rintro e w8 ⟨rfl, hb8⟩; have HB8 := Lib.hid hb8; clear hb8))
              go_meet
              exact ⟨by first | rfl | (congr 1; simp; omega), HB8.out⟩
        case rest =>
        as_aux_lemma =>
        obtain ⟨rfl, hcut⟩ := hcut
        obtain ⟨w8, rfl⟩ : ∃ w8, w8 = wc := ⟨_, rfl⟩
        have hz8 := hcut.size
        have hk8 := (hcut.block wo.heap.size (by omega)).trans HK7.out
        clear d0 d1 d2 d3
        obtain ⟨d0, d1, d2, d3⟩ := flow_cells hk8
        have HX8 := Lib.hid (HX7.out.below hcut)
        have HP8 := Lib.hid (RInts.below hcut HR67.out)
        have HQ8 := Lib.hid (RInts.below hcut HR7.out)
        have HO8 := Lib.hid (HOO.out.trans (hcut.mono (by omega)))
        clear hk8 hcut HX7 HR67 HR7 HOO HK7
        go_upto_region 12 with (fail)
        have hne : ((o6.length : Int) != (o6.length : Int)) = false := by simp
        go_cut [85] (fun s85 wc => s85 = .bool false ∧ Below w8.heap.size w8 wc)
        case first =>
          as_aux_lemma =>
          cases mb with
          | false =>
            have hnil : o6 = [] := HA6.out.none (fun h => by have := HMB.out.2 h; cases this)
            subst hnil
            go_wp2_with fail
            go_meet
            exact ⟨rfl, Below.refl _ _⟩
          | true =>
            have hfit : FitsS x o6 := HA6.out.fits (HMB.out.1 rfl)
            have HFIT := Lib.hid hfit
            clear hfit
            go_wp2_with (first
              | (go_at_call 11; refine (fits16_yes x _ w8 HX8.out _ _ HP8.out HFIT.out).mono ?_; rintro e w9 ⟨rfl, hb9⟩; have HB9 := Lib.hid hb9; clear hb9))
            go_meet
            exact ⟨rfl, HB9.out⟩
        case rest =>
        as_aux_lemma =>
        obtain ⟨rfl, hcut⟩ := hcut
        obtain ⟨w9, rfl⟩ : ∃ w9, w9 = wc := ⟨_, rfl⟩
        have hz9 := hcut.size
        have HP9 := Lib.hid (RInts.below hcut HP8.out)
        have HQ9 := Lib.hid (RInts.below hcut HQ8.out)
        have HO9 := Lib.hid (HO8.out.trans (hcut.mono (by omega)))
        have hlt9 := HA6.out.lt
        have HLT := Lib.hid hlt9
        clear hcut HP8 HQ8 HX8 hlt9 d0 d1 d2 d3 hne
        go_wp2
        go_loopg [17] o6.length (fun gh i wr => ∃ j : Nat, gh + j = o6.length ∧ i = I j ∧ Below w9.heap.size w9 wr)
        case atStart => exact ⟨0, rfl, rfl, Below.refl _ _⟩
        case round =>
          obtain ⟨j, hgj, rfl, hbj⟩ := hrel
          obtain ⟨wj, rfl⟩ : ∃ wj, wj = wr := ⟨_, rfl⟩
          have HBJ := Lib.hid hbj
          by_cases hjl : j < o6.length
          · have hjz : (j : Int) < (o6.length : Int) := by omega
            obtain ⟨pb, po, pc, he, hc6, _⟩ := RInts.at (RInts.below hbj HP9.out) hjl
            obtain ⟨rfl, rfl⟩ : a6 = some ⟨pb, po, none⟩ ∧ c6 = pc := by simpa using he
            obtain ⟨qb, qo, qc, he', hc7, _⟩ := RInts.at (RInts.below hbj HQ9.out) hjl
            obtain ⟨rfl, rfl⟩ : a7 = some ⟨qb, qo, none⟩ ∧ c7 = qc := by simpa using he'
            have hy := HLT.out _ (List.getElem_mem hjl)
            obtain ⟨y, hyy⟩ : ∃ y, y = o6[j] := ⟨_, rfl⟩
            rw [← hyy] at hc6 hc7 hy
            have hy2 : ¬ z ≤ y := by omega
            have hne : (y != y) = false := by simp
            clear hbj he he' hyy
            go_wp2
            go_quiet (fail)
            go_wp2
            go_roundg (o6.length - (j + 1))
            case measure => omega
            case rel => exact ⟨j + 1, by omega, by go_num, HBJ.out.trans ((below_drewQ _ _).mono HBJ.out.size)⟩
          · have hjz : ¬ (j : Int) < (o6.length : Int) := by omega
            clear hbj
            go_wp2
            go_roundg (2 - (k + 1))
            case measure => omega
            case rel =>
              have h9 := HO9.out.trans (HBJ.out.mono (by have := HO9.out.size; omega))
              exact ⟨k + 1, by omega, by go_num, HBO.out.trans (h9.mono hzo)⟩
      · have hkz : ¬ (k : Int) < 2 := by omega
        clear hb
        go_wp2
        go_ret
        exact ⟨rfl, HB4.out.trans (HBO.out.mono HB4.out.size)⟩
end Go.Proofs.Ytdlcpmjhngfgkaa
