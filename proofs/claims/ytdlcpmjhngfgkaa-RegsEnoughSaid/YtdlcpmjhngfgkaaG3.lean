import Derived.Test.YtdlcpmjhngfgkaaG2
namespace Go.Proofs.Ytdlcpmjhngfgkaa
open Go.RowKit Go.Shelf
attribute [local go_sem] Oper.semAt_some

theorem RRawB.below {w w' : World} {C : Nat → Value} {b : LBlock} (hb : Below w.heap.size w w') (h : RRawB w C b) : RRawB w' C b := by
  obtain ⟨aa, cc, h0, h1, h2, h3, h4, h5⟩ := h
  exact ⟨aa, cc, h0, h1, h2, h3, h4, h5.below hb⟩

theorem pick16_ex (c n : Int) (w : World) (hc : InI c) (hn : 1 ≤ n) (hn2 : n ≤ 1000000) :
    Calls Try.prog 7 #[.int .i64 c, .int .i64 n] w fun e w' => ∃ r : Nat, e = .returned (I r) ∧ (r : Int) < n ∧ w = w' :=
  (pick16_any c n w hc hn hn2).mono fun _ _ ⟨he, hw⟩ => ⟨(pickI c n).toNat, by rw [he, Int.toNat_of_nonneg (pickI_nonneg c n hn).1], by have := pickI_nonneg c n hn; omega, hw⟩

set_option maxRecDepth 100000 in
set_option maxHeartbeats 4000000 in
theorem enough_any (rv : Value) (raw : List LBlock) (which : Int) (w : World) (hr : RSl 5 RRawB w rv raw) (hw : InI which) :
    Calls Try.prog 5 #[rv, I which] w fun e w' => e = .returned (.bool true) ∧ Below w.heap.size w w' := by
  have HR := Lib.hid hr
  have HW := Lib.hid hw
  obtain ⟨a0, c0, rfl, hlr⟩ := RSl.form hr
  clear hr hw
  have hfd : ∀ (av : Value) (ua : Option Addr) (uc : Nat) (w : World), (Instr.field 30 (.agg #[av, .slice ua 3 uc]) 1).run Try.prog w = .ok (.slice ua 3 uc) w := fun _ _ _ _ => by kernel_rfl
  go_enter Try.func5, Try.ntmps5
  go_wp2_with (first
    | (go_at_call 6; refine (awake_any _).mono ?_; rintro e w1 ⟨rfl, hb1⟩; have HB1 := Lib.hid hb1; clear hb1)
    | (go_at_call 8; refine (fit_any _ raw _ (RSl.below (R := RRawB) (fun hb h => h.below hb) HB1.out HR.out)).mono ?_; rintro e w2 ⟨av, uv, fs, rfl, hfl, hown, hgood, hb2⟩; obtain ⟨ua, uc, rfl⟩ := hown.slice; rw [hfl]; have HFL := Lib.hid hfl; have HOW := Lib.hid hown; have HGD := Lib.hid hgood; have HB2 := Lib.hid hb2; clear hfl hown hgood hb2)
    | (go_at_call 7; (with_reducible refine (pick16_ex which 3 _ HW.out (by omega) (by omega)).mono ?_); rintro e w3 ⟨q, rfl, hq, rfl⟩; have hq3 : q < fs.length := by { have := HFL.out; omega }; obtain ⟨g, c, he, hgb, hcl⟩ := HOW.out.cell fEnc_len hq3; obtain ⟨rfl, rfl⟩ : ua = some ⟨g, 0, none⟩ ∧ uc = c := by { simpa using he }; clear he; obtain ⟨p, hp⟩ : ∃ p, p = fs[q] := ⟨_, rfl⟩; rw [← hp] at hcl; obtain ⟨gf, rf⟩ := HGD.out q p (by rw [hp]; exact List.getElem?_eq_getElem hq3); have d0 := (hcl 0 (by omega)).1; have d1 := (hcl 1 (by omega)).1; have d2 := (hcl 2 (by omega)).1; have d3 := (hcl 3 (by omega)).1; simp only [fEnc, List.getElem?_cons_succ, List.getElem?_cons_zero, Nat.add_zero] at d0 d1 d2 d3; clear hcl hp; obtain ⟨⟨fn, fp, fv, fb⟩, ba, bc⟩ := p; simp only [] at d0 d1 d2 d3 gf rf; obtain rfl : fv = 10 := gf.values; have HGF := Lib.hid gf; have HRF := Lib.hid rf; clear gf rf)
    | (go_at_call 9; refine (alloc_any ⟨fn, fp, 10, fb⟩ _ _ (HGF.out.fine (HRF.out _ (TK.grown (alloc_grown _ _ none) (fun _ _ => NoTag.none _ _)))) HGF.out.rmay 10 rfl (sortOk_short (by omega)) 0 (by omega)).mono ?_; rintro e w4 ⟨ga, out, rfl, hga, hrow, hkept, hb4⟩; have HRW := Lib.hid hrow; have HKP := Lib.hid hkept; have HB4 := Lib.hid hb4; clear hrow hkept hb4))
  have hbox : Row w4 w2.heap.size 24 [.string fn, I fp, I 10, .slice ba fb.length bc] := (HB4.out.block _ (by simp)).trans (heap_new _ _)
  have hln := HKP.out.len
  have hsl : slotsL out ≤ 10 ∧ 0 ≤ slotsL out := slots_le out 0 (by omega) (by omega) (fun p hp => (HKP.out.rng p hp).1)
  have hri : RInts w4 (.slice (some ⟨ga, 0, none⟩) 10 10) out := by
    have := HRW.out.ints (fun x hx => by have := HKP.out.rng x hx; unfold InI; omega) (by omega) 10
    rw [hln] at this
    exact this
  have b2 := hbox.cell 2
  simp only [List.getElem?_cons_succ, List.getElem?_cons_zero] at b2
  obtain ⟨sl, hsl2⟩ : ∃ sl, sl = slotsL out := ⟨_, rfl⟩
  rw [← hsl2] at hsl
  have HSL2 := Lib.hid hsl2
  have HBX := Lib.hid hbox
  have HLN := Lib.hid hln
  have HRI := Lib.hid hri
  obtain ⟨hs1, hs2⟩ := hsl
  clear hbox hln hri hsl2 d0 d1 d2 d3
  refine wp_region_ordW (by kernel_rfl) (fun W => W.cell? ⟨w2.heap.size, 2, none⟩ = some (I 10)) [(0, 0), (0, 1), (0, 2), (0, 3), (0, 4), (0, 5), (0, 6), (0, 7), (0, 8), (0, 9), (0, 10), (0, 12), (0, 13), (1, 11), (0, 14), (0, 15)] (by kernel_rfl) ?hS ?_
  case hS => intro wd hh; simp only [World.cell?, hh] at b2 ⊢; exact b2
  intro wd hh hgd hS
  have hbd : Below w4.heap.size w4 wd := (Below.refl _ w4).grown hgd (Nat.le_refl _) (fun _ e => by cases e)
  have hrd := HRI.out.below hbd
  have hslc := slots_any wd _ out hrd (fun p hp => by have := (HKP.out.rng p hp).1; omega)
  rw [← HSL2.out] at hslc
  have HSC := Lib.hid hslc
  have HBD := Lib.hid hbd
  have HRD := Lib.hid hrd
  clear hh hgd hbd hrd hslc b2
  simp only [pickOps, List.map_cons, List.map_nil, List.getElem?_cons_zero, List.getElem?_cons_succ, Option.getD_some]
  repeat (refine wpOrd_look (v := ?_) (by rfl) ?_ (by assumption) (fun _ _ _ h => h) ?_; rotate_left; (· (intro wS hSw; (try dsimp only at hSw); go_simp; (first | done | with_reducible rfl))); simp only [Act.put, List.setIfInBounds_toArray, List.set_cons_zero, List.set_cons_succ])
  refine wpOrd_turn ?_
  go_wp2_with (first
    | (go_at_call 13; refine HSC.out.mono ?_; rintro e w' ⟨rfl, rfl⟩))
  refine QN_keep hS fun hS => ?_
  repeat (refine wpOrd_look (v := ?_) (by rfl) ?_ (by assumption) (fun _ _ _ h => h) ?_; rotate_left; (· (intro wS hSw; (try dsimp only at hSw); go_simp; (first | done | with_reducible rfl))); simp only [Act.put, List.setIfInBounds_toArray, List.set_cons_zero, List.set_cons_succ])
  refine wpOrd_nil ?_
  go_wp2
  go_loopg [8] 10 (fun gh i wr => ∃ k : Nat, gh + k = 10 ∧ i = I k ∧ wd = wr)
  case atStart => exact ⟨0, by omega, rfl, rfl⟩
  case round =>
    obtain ⟨k, hg, rfl, rfl⟩ := hrel
    by_cases hk : k < 10
    · have hkz : (k : Int) < 10 := by omega
      have hko : k < out.length := by have := HLN.out; omega
      obtain ⟨b5, o5, c5, he, hc, hi⟩ := RInts.at HRD.out hko
      obtain ⟨⟨rfl, rfl⟩, rfl⟩ : (ga = b5 ∧ 0 = o5) ∧ 10 = c5 := by
        have h1 := he
        rw [HLN.out] at h1
        simpa using h1
      have hneg := (HKP.out.rng _ (List.getElem_mem hko)).2
      obtain ⟨x, hx⟩ : ∃ x, x = out[k] := ⟨_, rfl⟩
      rw [← hx] at hc hneg
      have hneg' : x < 0 := by omega
      rw [Nat.zero_add] at hc
      clear he hi hx hneg hko
      go_wp2
      go_roundg (10 - (k + 1))
      case measure => omega
      case rel => exact ⟨k + 1, by omega, by go_num, rfl⟩
    · have hkz : ¬ (k : Int) < 10 := by omega
      have hbx := HBX.out.ext HBD.out
      have b0 := hbx.cell 0
      have b1 := hbx.cell 1
      have b2 := hbx.cell 2
      have b3 := hbx.cell 3
      simp only [List.getElem?_cons_succ, List.getElem?_cons_zero] at b0 b1 b2 b3
      have hfine : Fine wd ⟨fn, fp, 10, fb⟩ (.slice ba fb.length bc) := HGF.out.fine (HRF.out _ (TK.grown (grown_trans (alloc_grown w2 _ none) (below_grown (HB4.out.trans (HBD.out.mono HB4.out.size)) none)) (fun _ _ => NoTag.none _ _)))
      have hfit := fits_yes ⟨fn, fp, 10, fb⟩ _ wd hfine _ out HRD.out (HKP.out.fits HGF.out.rmay rfl)
      have HFT := Lib.hid hfit
      clear hbx hfine hfit
      go_wp2_with (first
        | (go_at_call 12; refine HFT.out.mono ?_; rintro e w9 ⟨rfl, hb9⟩; have HB9 := Lib.hid hb9; clear hb9))
      go_ret
      refine ⟨rfl, ?_⟩
      have h1 := HB1.out
      have h2 := HB2.out
      have h4 := HB4.out
      have h5 := HBD.out
      have h9 := HB9.out
      have z1 := h1.size
      have z2 := h2.size
      have z4 := h4.size
      have z5 := h5.size
      rw [World.size_alloc] at h4 z4
      exact h1.trans ((h2.trans ((below_a1 w2 _).trans ((h4.trans ((h5.trans (h9.mono (by omega))).mono (by omega))).mono (by omega)) |>.mono (by omega))).mono (by omega))
end Go.Proofs.Ytdlcpmjhngfgkaa
