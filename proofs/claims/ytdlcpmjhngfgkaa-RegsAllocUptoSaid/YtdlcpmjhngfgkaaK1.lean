import Derived.Test.YtdlcpmjhngfgkaaJ3
import Derived.Test.YtdlcpmjhngfgkaaG3
namespace Go.Proofs.Ytdlcpmjhngfgkaa
open Go.RowKit Go.Shelf
attribute [local go_sem] Oper.semAt_some

/-- a place each, from z on -/
def ownL (z : Int) (n : Nat) : List Int := (List.range n).map fun (i : Nat) => z + (i : Int)
theorem ownL_len (z : Int) (n : Nat) : (ownL z n).length = n := by simp [ownL]
theorem ownL_succ (z : Int) (n : Nat) : ownL z (n + 1) = ownL z n ++ [z + (n : Int)] := by simp [ownL, List.range_succ]
theorem ownL_get (z : Int) (n i : Nat) (p : Int) : (ownL z n)[i]? = some p ↔ i < n ∧ p = z + i := by
  unfold ownL
  by_cases h : i < n
  · simp [h, eq_comm]
  · simp [h]
theorem ownL_fits {f : LFlow} (hm : rmayB f = true) {n : Nat} (hv : f.values = n) (z : Int) : FitsS f (ownL z n) :=
  ⟨hm, by rw [ownL_len, hv], fun i j p hij _ hi hj => by
    have h1 := (ownL_get z n i p).1 hi
    have h2 := (ownL_get z n j p).1 hj
    omega⟩
theorem tail_not {f : LFlow} {n : Nat} (hv : f.values = ((n + 1 : Nat) : Int)) (l : List Int) (hl : l.length = n) : ¬ FitsS f l := fun h => by
  have := h.2.1
  omega

theorem foldl_max : ∀ (l : List Int) (a b : Int), a ≤ b → (∀ p ∈ l, -p ≤ b) → l.foldl (fun n p => max n (-p)) a ≤ b
  | [], a, b, h, _ => h
  | p :: l, a, b, h, h2 => foldl_max l (max a (-p)) b (by have := h2 p (by simp); omega) (fun q hq => h2 q (by simp [hq]))
theorem le_foldl_max : ∀ (l : List Int) (a : Int), a ≤ l.foldl (fun n p => max n (-p)) a
  | [], a => Int.le_refl _
  | p :: l, a => Int.le_trans (by omega) (le_foldl_max l (max a (-p)))
theorem slots_from {z : Int} {l : List Int} (h : ∀ p ∈ l, z ≤ p) (h0 : l.head? = some z) : slotsL l = max 0 (-z) := by
  cases l with
  | nil => cases h0
  | cons x r =>
    simp at h0
    subst h0
    unfold slotsL
    rw [List.foldl_cons]
    have h1 := foldl_max r (max 0 (-x)) (max 0 (-x)) (Int.le_refl _) (fun p hp => by have := h p (by simp [hp]); omega)
    have h2 := le_foldl_max r (max 0 (-x))
    omega
theorem slots_own (z : Int) (n : Nat) : slotsL (ownL z (n + 1)) = max 0 (-z) := by
  refine slots_from (fun p hp => ?_) ?_
  · obtain ⟨i, hi, rfl⟩ := List.mem_map.1 hp; omega
  · simp [ownL, List.range_succ_eq_map]
theorem slots_one (z : Int) (n : Nat) : slotsL (List.replicate (n + 1) z) = max 0 (-z) := by
  refine slots_from (fun p hp => ?_) ?_
  · rw [List.eq_of_mem_replicate hp]; exact Int.le_refl _
  · simp [List.replicate_succ]

theorem fits16_yes (f : LFlow) (bv : Value) (w : World) (hf : Fine w f bv) (lv : Value) (l : List Int) (hl : RInts w lv l) (h : FitsS f l) :
    Calls Try.prog 11 #[f.agg bv, lv] w fun e w' => e = .returned (.bool true) ∧ Below w.heap.size w w' :=
  (fits16_any f bv w hf lv l hl).mono fun _ _ ⟨r, he, hr, hb⟩ => ⟨by rw [he, hr.2 h], hb⟩
theorem fits16_no (f : LFlow) (bv : Value) (w : World) (hf : Fine w f bv) (lv : Value) (l : List Int) (hl : RInts w lv l) (h : ¬ FitsS f l) :
    Calls Try.prog 11 #[f.agg bv, lv] w fun e w' => e = .returned (.bool false) ∧ Below w.heap.size w w' :=
  (fits16_any f bv w hf lv l hl).mono fun _ _ ⟨r, he, hr, hb⟩ => ⟨by cases r with | false => exact he | true => exact absurd (hr.1 rfl) h, hb⟩
theorem fits_b (f : LFlow) (bv : Value) (w : World) (hf : Fine w f bv) (lv : Value) (l : List Int) (hl : RInts w lv l) (r : Bool) (h : r = true ↔ FitsS f l) :
    Calls Try.prog 12 #[f.agg bv, lv] w fun e w' => e = .returned (.bool r) ∧ Below w.heap.size w w' := by
  cases r with
  | true => exact fits_yes f bv w hf lv l hl (h.1 rfl)
  | false => exact fits_no f bv w hf lv l hl (fun h' => by have := h.2 h'; cases this)
theorem fits16_b (f : LFlow) (bv : Value) (w : World) (hf : Fine w f bv) (lv : Value) (l : List Int) (hl : RInts w lv l) (r : Bool) (h : r = true ↔ FitsS f l) :
    Calls Try.prog 11 #[f.agg bv, lv] w fun e w' => e = .returned (.bool r) ∧ Below w.heap.size w w' := by
  cases r with
  | true => exact fits16_yes f bv w hf lv l hl (h.1 rfl)
  | false => exact fits16_no f bv w hf lv l hl (fun h' => by have := h.2 h'; cases this)

/-- two rows of ints, apart -/
structure Two (W : World) (base : Nat) (ov nv : Value) (l m : List Int) : Prop where
  o : OwnInts W base ov l
  n : OwnInts W base nv m
  apart : ov.ownBlock = none ∨ ov.ownBlock ≠ nv.ownBlock
theorem Two.zero (W : World) (base : Nat) : Two W base (.slice none 0 0) (.slice none 0 0) [] [] := ⟨OwnInts.nil _ _, OwnInts.nil _ _, .inl rfl⟩
theorem Two.swap {W : World} {base : Nat} {ov nv : Value} {l m : List Int} (h : Two W base ov nv l m) : Two W base nv ov m l := ⟨h.n, h.o, by
  rcases h.apart with h | h
  · cases hb : nv.ownBlock with
    | none => exact .inl rfl
    | some k => exact .inr (by rw [h]; simp)
  · exact .inr (fun e => h e.symm)⟩
theorem Two.app {W W' : World} {base : Nat} {ov nv v' : Value} {l l' m : List Int} (h : Two W base ov nv l m) (ho : OwnInts W' base v' l') (hg : W.grownBy W' ov.ownBlock) (hv : v'.ownBlock = ov.ownBlock ∨ ∀ k, v'.ownBlock = some k → W.heap.size ≤ k) : Two W' base v' nv l' m := by
  have hn : nv.ownBlock = none ∨ nv.ownBlock ≠ ov.ownBlock := (Two.swap h).apart
  refine ⟨ho, h.n.kept hg hn, ?_⟩
  rcases hv with hv | hv
  · rw [hv]; exact h.apart
  · cases hb : v'.ownBlock with
    | none => exact .inl rfl
    | some k =>
      right
      intro e
      have h1 := hv k hb
      have h2 := (ownsRow_base h.n k e.symm).2
      omega
end Go.Proofs.Ytdlcpmjhngfgkaa

namespace Go.Proofs.Ytdlcpmjhngfgkaa
open Go.RowKit Go.Shelf
attribute [local go_sem] Oper.semAt_some

set_option maxRecDepth 100000 in
set_option maxHeartbeats 8000000 in
theorem own_any (rv : Value) (raw : List LBlock) (which from_ : Int) (w : World) (hr : RSl 5 RRawB w rv raw) (hw : InI which) (hfr : InI from_) :
    Calls Try.prog 4 #[rv, I which, I from_] w fun e w' => e = .returned (.bool true) ∧ Below w.heap.size w w' := by
  have HR := Lib.hid hr
  have HW := Lib.hid hw
  have HFR := Lib.hid hfr
  obtain ⟨a0, c0, rfl, hlr⟩ := RSl.form hr
  clear hr hw hfr
  have hfd : ∀ (av : Value) (ua : Option Addr) (uc : Nat) (w : World), (Instr.field 30 (.agg #[av, .slice ua 3 uc]) 1).run Try.prog w = .ok (.slice ua 3 uc) w := fun _ _ _ _ => by kernel_rfl
  go_enter Try.func4, Try.ntmps4
  go_wp2_with (first
    | (go_at_call 6; refine (awake_any _).mono ?_; rintro e w1 ⟨rfl, hb1⟩; have HB1 := Lib.hid hb1; clear hb1)
    | (go_at_call 8; refine (fit_any _ raw _ (RSl.below (R := RRawB) (fun hb h => h.below hb) HB1.out HR.out)).mono ?_; rintro e w2 ⟨av, uv, fs, rfl, hfl, hown, hgood, hb2⟩; obtain ⟨ua, uc, rfl⟩ := hown.slice; rw [hfl]; have HFL := Lib.hid hfl; have HOW := Lib.hid hown; have HGD := Lib.hid hgood; have HB2 := Lib.hid hb2; clear hfl hown hgood hb2)
    | (go_at_call 7; (with_reducible refine (pick16_ex which 3 _ HW.out (by omega) (by omega)).mono ?_); rintro e w3 ⟨q, rfl, hq, rfl⟩; have hq3 : q < fs.length := by { have := HFL.out; omega }; obtain ⟨g, c, he, hgb, hcl⟩ := HOW.out.cell fEnc_len hq3; obtain ⟨rfl, rfl⟩ : ua = some ⟨g, 0, none⟩ ∧ uc = c := by { simpa using he }; clear he; obtain ⟨p, hp⟩ : ∃ p, p = fs[q] := ⟨_, rfl⟩; rw [← hp] at hcl; obtain ⟨gf, rf⟩ := HGD.out q p (by rw [hp]; exact List.getElem?_eq_getElem hq3); have d0 := (hcl 0 (by omega)).1; have d1 := (hcl 1 (by omega)).1; have d2 := (hcl 2 (by omega)).1; have d3 := (hcl 3 (by omega)).1; simp only [fEnc, List.getElem?_cons_succ, List.getElem?_cons_zero, Nat.add_zero] at d0 d1 d2 d3; clear hcl hp; obtain ⟨⟨fn, fp, fv, fb⟩, ba, bc⟩ := p; simp only [] at d0 d1 d2 d3 gf rf; obtain rfl : fv = 10 := gf.values; have HGF := Lib.hid gf; have HRF := Lib.hid rf; clear gf rf)
    | (go_at_call 7; (with_reducible refine (pick16_ex from_ 20 _ HFR.out (by omega) (by omega)).mono ?_); rintro e w3 ⟨r, rfl, hr20, rfl⟩))
  obtain ⟨w3, hw3⟩ : ∃ w3, w3 = w2.alloc (.cells #[.string fn, I fp, I 10, .slice ba fb.length bc] 24) := ⟨_, rfl⟩
  obtain ⟨z, hz⟩ : ∃ z : Int, z = (r : Int) - 15 := ⟨_, rfl⟩
  rw [← hz]
  have hz0 : -15 ≤ z := by omega
  have hz1 : z < 5 := by omega
  rw [← hw3]
  have hk3 : w3.heap[w2.heap.size]? = some (.cells #[.string fn, I fp, I 10, .slice ba fb.length bc] 24 (0, 0)) := by rw [hw3]; exact heap_new _ _
  have hb23 : Below w2.heap.size w2 w3 := by rw [hw3]; exact below_a1 _ _
  have hfine : Fine w3 ⟨fn, fp, 10, fb⟩ (.slice ba fb.length bc) := by rw [hw3]; exact HGF.out.fine (HRF.out _ (TK.grown (alloc_grown _ _ none) (fun _ _ => NoTag.none _ _)))
  have hz23 : w2.heap.size < w3.heap.size := by rw [hw3]; simp
  have HK3 := Lib.hid hk3
  have HB23 := Lib.hid hb23
  have HFINE := Lib.hid hfine
  clear hw3 hz hk3 hb23 hfine d0 d1 d2 d3 hr20
  go_loopg [10, 11, 12] 10 (fun gh ov nv i wr => ∃ k : Nat, gh + k = 10 ∧ i = I k ∧ Below w3.heap.size w3 wr ∧ Two wr w3.heap.size ov nv (ownL z k) (List.replicate k z))
  case atStart => exact ⟨0, rfl, rfl, Below.refl _ _, Two.zero _ _⟩
  case round =>
    obtain ⟨k, hg, rfl, hb, ht⟩ := hrel
    obtain ⟨wo, rfl⟩ : ∃ wo, wo = wr := ⟨_, rfl⟩
    have hko := (hb.block w2.heap.size hz23).trans HK3.out
    have c2 := cell_of_block hko 2
    simp only [List.getElem?_toArray, List.getElem?_cons_succ, List.getElem?_cons_zero] at c2
    have hzo := hb.size
    have HB := Lib.hid hb
    have HT := Lib.hid ht
    have HKO := Lib.hid hko
    clear hb ht hko
    by_cases hlt : k < 10
    · have hkz : (k : Int) < 10 := by omega
      have hlo : (ownL z k).length ≤ 100 := by rw [ownL_len]; omega
      have hlo2 : (List.replicate k z).length ≤ 100 := by rw [List.length_replicate]; omega
      go_wp2_with (first
        | (at_builtin; refine wpList_app1 rfl (.tmp 30) (.tmp 34) rfl w3.heap.size _ _ rfl (World.ownsRow.alloc HT.out.o _) wo.heap.size (z + k) rfl (by rw [cell_of_block (heap_new _ _)]; rfl) (by omega) (by simp; omega) ?_; intro g2 cap2 w4 own2 grow2 at2 lt2; have hb4 : Below w3.heap.size w3 w4 := (HB.out.alloc hzo _).grown grow2 (by simp; omega) (fun k e => (ownsRow_base HT.out.o k e).1); have ht4 : Two w4 w3.heap.size (.slice (some ⟨g2, 0, none⟩) ((ownL z k).length + 1) cap2) u11 (ownL z (k + 1)) (List.replicate k z) := by { refine Two.app (W := wo.alloc (.cells #[I (z + k)] 3)) ⟨World.ownsRow.alloc HT.out.o _, World.ownsRow.alloc HT.out.n _, HT.out.apart⟩ (by rw [ownL_succ]; exact own2) grow2 ?_; exact at2.elim (fun e => .inl e.symm) (fun e => .inr (fun k hk => by simp [Value.ownBlock] at e hk ⊢; omega)) }; have HB4 := Lib.hid hb4; have HT4 := Lib.hid ht4; have hz4 := hb4.size; clear own2 grow2 at2 hb4 ht4)
        | (at_builtin; refine wpList_app1 rfl (.tmp 36) (.tmp 38) rfl w3.heap.size _ _ rfl (World.ownsRow.alloc HT4.out.n _) w4.heap.size z rfl (by rw [cell_of_block (heap_new _ _)]; rfl) (by omega) (by simp; omega) ?_; intro g3 cap3 w5 own3 grow3 at3 lt3; have hb5 : Below w3.heap.size w3 w5 := (HB4.out.alloc hz4 _).grown grow3 (by simp; omega) (fun k e => (ownsRow_base HT4.out.n k e).1); have ht5 : Two w5 w3.heap.size (.slice (some ⟨g2, 0, none⟩) ((ownL z k).length + 1) cap2) (.slice (some ⟨g3, 0, none⟩) ((List.replicate k z).length + 1) cap3) (ownL z (k + 1)) (List.replicate (k + 1) z) := by { refine Two.swap (Two.app (W := w4.alloc (.cells #[I z] 3)) (Two.swap ⟨World.ownsRow.alloc HT4.out.o _, World.ownsRow.alloc HT4.out.n _, HT4.out.apart⟩) (by rw [List.replicate_succ']; exact own3) grow3 ?_); exact at3.elim (fun e => .inl e.symm) (fun e => .inr (fun k hk => by simp [Value.ownBlock] at e hk ⊢; omega)) }; have HB5 := Lib.hid hb5; have HT5 := Lib.hid ht5; clear own3 grow3 at3 hb5 ht5))
      go_roundg (10 - (k + 1))
      case measure => omega
      case rel => exact ⟨k + 1, by omega, by go_num, HB5.out, by have h := HT5.out; rw [List.length_replicate] at h; exact h⟩
    · have hkz : ¬ (k : Int) < 10 := by omega
      obtain rfl : k = 10 := by omega
      have hro : RInts wo u10 (ownL z 10) := HT.out.o.reads (fun x hx => by obtain ⟨i, hi, rfl⟩ := List.mem_map.1 hx; have := List.mem_range.1 hi; unfold InI; omega) (by rw [ownL_len]; omega)
      have hrn : RInts wo u11 (List.replicate 10 z) := HT.out.n.reads (fun x hx => by rw [List.eq_of_mem_replicate hx]; unfold InI; omega) (by simp)
      obtain ⟨oa, oc, hoe, hoc⟩ := HT.out.o.cap
      rw [ownL_len] at hoe hoc
      subst hoe
      obtain ⟨na, nc, hne⟩ := HT.out.n.slice
      rw [List.length_replicate] at hne
      subst hne
      have hrm := HGF.out.rmay
      obtain ⟨rb, hrb⟩ : ∃ rb : Bool, rb = true ↔ FitsS ⟨fn, fp, 10, fb⟩ (List.replicate 10 z) := by
        by_cases h : FitsS ⟨fn, fp, 10, fb⟩ (List.replicate 10 z)
        · exact ⟨true, fun _ => h, fun _ => rfl⟩
        · exact ⟨false, fun h' => (by cases h'), fun h' => absurd h' h⟩
      have hown : FitsS ⟨fn, fp, 10, fb⟩ (ownL z 10) := ownL_fits hrm (by rfl) z
      obtain ⟨gb, go, hga⟩ : ∃ gb go, oa = some ⟨gb, go, none⟩ := by
        obtain ⟨b, o, c, he, _⟩ := RInts.at hro (i := 0) (by simp [ownL])
        rw [ownL_len] at he
        simp at he
        exact ⟨b, o, he.1⟩
      subst hga
      have htl : ∀ W, Below wo.heap.size wo W → RInts W (.slice (some ⟨gb, go + 1, none⟩) 9 (oc - 1)) ((ownL z 10).drop 1) := fun W h => by
        refine ⟨_, oc - 1, by simp [ownL_len], by simp [ownL_len], .inr ⟨gb, go + 1, rfl, fun i x hx => ?_⟩⟩
        rw [List.getElem?_drop] at hx
        have hi := (List.getElem?_eq_some_iff.1 hx).1
        obtain ⟨b, o, c, he, hc, hin⟩ := RInts.at (hro.below h) hi
        rw [ownL_len] at he
        obtain ⟨⟨rfl, rfl⟩, rfl⟩ : (gb = b ∧ go = o) ∧ oc = c := by simpa using he
        rw [(List.getElem?_eq_some_iff.1 hx).2] at hc hin
        refine ⟨fun _ => I x, fun j hj => ?_, rfl, hin⟩
        obtain rfl : j = 0 := by omega
        rw [← hc]
        congr 2
        omega
      have HRO := Lib.hid hro
      have HRN := Lib.hid hrn
      have HTL := Lib.hid htl
      have HRB := Lib.hid hrb
      have HOWN := Lib.hid hown
      obtain ⟨s, hs⟩ : ∃ s, s = max 0 (-z) := ⟨_, rfl⟩
      have hs1 : slotsL (ownL z 10) = s := by rw [hs]; exact slots_own z 9
      have hs2 : slotsL (List.replicate 10 z) = s := by rw [hs]; exact slots_one z 9
      have HS1 := Lib.hid hs1
      have HS2 := Lib.hid hs2
      have HSS := Lib.hid hs
      clear hro hrn htl hrb hown hs hs1 hs2 HT hrm
      go_upto_region 11 with (fail)
      obtain ⟨b0, b1, b2, b3⟩ := flow_cells (f := ⟨fn, fp, 10, fb⟩) HKO.out
      clear c2
      refine wp_region_ordW (by kernel_rfl) (fun W => W.cell? ⟨w2.heap.size, 0, none⟩ = some (.string fn) ∧ W.cell? ⟨w2.heap.size, 1, none⟩ = some (I fp) ∧ W.cell? ⟨w2.heap.size, 2, none⟩ = some (I 10) ∧ W.cell? ⟨w2.heap.size, 3, none⟩ = some (.slice ba fb.length bc))
        [(0, 0), (0, 1), (0, 2), (0, 3), (1, 4), (0, 5), (0, 6), (0, 7), (0, 8), (0, 10), (0, 11), (1, 9), (1, 12), (0, 13), (0, 14), (0, 15), (0, 16), (0, 18), (0, 19), (0, 20), (1, 17), (0, 21), (0, 22), (0, 23), (0, 24), (0, 26), (0, 27), (0, 28), (1, 25), (0, 29), (0, 30), (0, 31), (0, 32), (0, 33), (0, 34), (1, 35), (0, 36), (0, 37), (0, 38)] (by kernel_rfl) ?hS ?_
      case hS => intro wd hh; simp only [World.cell?, hh] at b0 b1 b2 b3 ⊢; exact ⟨b0, b1, b2, b3⟩
      intro wd hh hgd hS
      have hbd : Below wo.heap.size wo wd := (Below.refl _ wo).grown hgd (Nat.le_refl _) (fun _ e => by cases e)
      have hkeep : ∀ W, Below wo.heap.size wo W → W.cell? ⟨w2.heap.size, 0, none⟩ = some (.string fn) ∧ W.cell? ⟨w2.heap.size, 1, none⟩ = some (I fp) ∧ W.cell? ⟨w2.heap.size, 2, none⟩ = some (I 10) ∧ W.cell? ⟨w2.heap.size, 3, none⟩ = some (.slice ba fb.length bc) := fun W h => by
        have hk := (h.block w2.heap.size (by omega)).trans HKO.out
        exact flow_cells (f := ⟨fn, fp, 10, fb⟩) hk
      have hfin : ∀ W, Below wo.heap.size wo W → Fine W ⟨fn, fp, 10, fb⟩ (.slice ba fb.length bc) := fun W h => HFINE.out.below (HB.out.trans (h.mono hzo))
      have HBD := Lib.hid hbd
      have HKP := Lib.hid hkeep
      have HFN := Lib.hid hfin
      have hzd := hbd.size
      clear hh hgd hbd hkeep hfin b0 b1 b2 b3
      have hsl1 : ∀ W, Below wo.heap.size wo W → Calls Try.prog 13 #[.slice (some ⟨gb, go, none⟩) 10 oc] W fun e w' => e = .returned (I s) ∧ W = w' := fun W h => by
        rw [← HS1.out]
        exact slots_any W _ _ (HRO.out.below h) (fun p hp => by obtain ⟨i, hi, rfl⟩ := List.mem_map.1 hp; omega)
      have hsl2 : ∀ W, Below wo.heap.size wo W → Calls Try.prog 13 #[.slice na 10 nc] W fun e w' => e = .returned (I s) ∧ W = w' := fun W h => by
        rw [← HS2.out]
        exact slots_any W _ _ (HRN.out.below h) (fun p hp => by rw [List.eq_of_mem_replicate hp]; omega)
      have HSL1 := Lib.hid hsl1
      have HSL2 := Lib.hid hsl2
      clear hsl1 hsl2
      simp only [pickOps, List.map_cons, List.map_nil, List.getElem?_cons_zero, List.getElem?_cons_succ, Option.getD_some]
      repeat (refine wpOrd_look (v := ?_) (by rfl) ?_ (by assumption) (fun _ _ _ h => h) ?_; rotate_left; (· (intro wS hSw; (try dsimp only at hSw); go_simp; (first | done | with_reducible rfl))); simp only [Act.put, List.setIfInBounds_toArray, List.set_cons_zero, List.set_cons_succ])
      refine wpOrd_turn ?_
      go_wp2_with (first
        | (go_at_call 12; refine (fits_yes ⟨fn, fp, 10, fb⟩ _ wd (HFN.out _ HBD.out) _ _ (HRO.out.below HBD.out) HOWN.out).mono ?_; rintro e w4 ⟨rfl, hb4⟩; have HB4 := Lib.hid (HBD.out.trans (hb4.mono hzd)); clear hb4 hS))
      refine QN_keep (HKP.out w4 HB4.out) fun hS => ?_
      have hz4 := HB4.out.size
      repeat (refine wpOrd_look (v := ?_) (by rfl) ?_ (by assumption) (fun _ _ _ h => h) ?_; rotate_left; (· (intro wS hSw; (try dsimp only at hSw); go_simp; (first | done | with_reducible rfl))); simp only [Act.put, List.setIfInBounds_toArray, List.set_cons_zero, List.set_cons_succ])
      refine wpOrd_turn ?_
      go_wp2_with (first
        | (go_at_call 12; refine (fits_b ⟨fn, fp, 10, fb⟩ _ w4 (HFN.out _ HB4.out) _ _ (HRN.out.below HB4.out) rb HRB.out).mono ?_; rintro e w5 ⟨rfl, hb5⟩; have HB5 := Lib.hid (HB4.out.trans (hb5.mono hz4)); clear hb5 hS))
      refine QN_keep (HKP.out w5 HB5.out) fun hS => ?_
      have hz5 := HB5.out.size
      refine wpOrd_turn ?_
      go_wp2_with (first
        | (go_at_call 11; refine (fits16_b ⟨fn, fp, 10, fb⟩ _ w5 (HFN.out _ HB5.out) _ _ (HRN.out.below HB5.out) rb HRB.out).mono ?_; rintro e w6 ⟨rfl, hb6⟩; have HB6 := Lib.hid (HB5.out.trans (hb6.mono hz5)); clear hb6 hS))
      refine QN_keep (HKP.out w6 HB6.out) fun hS => ?_
      have hz6 := HB6.out.size
      have hbb : (rb == rb) = true := by cases rb <;> rfl
      have hsm : (s == max 0 (-z)) = true := by rw [HSS.out]; simp
      have hwz : IntKind.i64.wrap (-z) = -z := by rw [IntKind.wrap_i64]; omega
      repeat (refine wpOrd_look (v := ?_) (by rfl) ?_ (by assumption) (fun _ _ _ h => h) ?_; rotate_left; (· (intro wS hSw; (try dsimp only at hSw); go_simp; (first | done | with_reducible rfl))); simp only [Act.put, List.setIfInBounds_toArray, List.set_cons_zero, List.set_cons_succ])
      refine wpOrd_turn ?_
      go_wp2_with (first
        | (go_at_call 13; refine (HSL1.out w6 HB6.out).mono ?_; rintro e w7 ⟨rfl, rfl⟩))
      refine QN_keep (HKP.out w6 HB6.out) fun hS => ?_
      repeat (refine wpOrd_look (v := ?_) (by rfl) ?_ (by assumption) (fun _ _ _ h => h) ?_; rotate_left; (· (intro wS hSw; (try dsimp only at hSw); go_simp; (first | done | with_reducible rfl))); simp only [Act.put, List.setIfInBounds_toArray, List.set_cons_zero, List.set_cons_succ])
      refine wpOrd_turn ?_
      go_wp2_with (first
        | (go_at_call 13; refine (HSL2.out w6 HB6.out).mono ?_; rintro e w8 ⟨rfl, rfl⟩))
      refine QN_keep (HKP.out w6 HB6.out) fun hS => ?_
      repeat (refine wpOrd_look (v := ?_) (by rfl) ?_ (by assumption) (fun _ _ _ h => h) ?_; rotate_left; (· (intro wS hSw; (try dsimp only at hSw); go_simp; (first | done | with_reducible rfl))); simp only [Act.put, List.setIfInBounds_toArray, List.set_cons_zero, List.set_cons_succ])
      refine wpOrd_turn ?_
      go_wp2_with (first
        | (go_at_call 12; refine (fits_no ⟨fn, fp, 10, fb⟩ _ w6 (HFN.out _ HB6.out) _ _ (HTL.out w6 HB6.out) (tail_not (n := 9) rfl _ (by simp [ownL_len]))).mono ?_; rintro e w9 ⟨rfl, hb9⟩; have HB9 := Lib.hid (HB6.out.trans (hb9.mono hz6)); clear hb9 hS))
      refine QN_keep (HKP.out w9 HB9.out) fun hS => ?_
      repeat (refine wpOrd_look (v := ?_) (by rfl) ?_ (by assumption) (fun _ _ _ h => h) ?_; rotate_left; (· (intro wS hSw; (try dsimp only at hSw); go_simp; (first | done | with_reducible rfl))); simp only [Act.put, List.setIfInBounds_toArray, List.set_cons_zero, List.set_cons_succ])
      refine wpOrd_nil ?_
      clear hwz hsm
      go_wp2
      go_ret
      refine ⟨rfl, ?_⟩
      have h1 := HB1.out
      have h2 := HB2.out
      have h3 := HB23.out
      have h4 := HB.out
      have h9 := HB9.out
      have z1 := h1.size
      have z2 := h2.size
      have z3 := h3.size
      have z4 := h4.size
      exact h1.trans ((h2.trans ((h3.trans ((h4.trans (h9.mono z4)).mono z3)).mono z2)).mono z1)
end Go.Proofs.Ytdlcpmjhngfgkaa
