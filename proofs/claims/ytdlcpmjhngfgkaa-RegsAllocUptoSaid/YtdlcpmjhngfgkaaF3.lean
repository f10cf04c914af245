import Derived.Test.YtdlcpmjhngfgkaaF2
import Derived.Deep.QuietTactic
import Derived.BigQuiet
namespace Go.Proofs.Ytdlcpmjhngfgkaa
open Go.RowKit Go.Shelf
attribute [local go_sem] Oper.semAt_some

/-- values may be kept so -/
def FitsS (f : LFlow) (l : List Int) : Prop := rmayB f = true ∧ (l.length : Int) = f.values ∧ ∀ (i j : Nat) (p : Int), i ≠ j → MeetS f (pairOf i j) → l[i]? = some p → l[j]? ≠ some p

theorem fits_pairs {f : LFlow} {l : List Int} {pairs : List (Int × Int)} (hm : rmayB f = true) {n : Nat} (hv : f.values = n) (hl : l.length = n) (hp : ∀ p, p ∈ pairs ↔ MeetS f p) (_hw : ∀ p ∈ pairs, 0 ≤ p.1 ∧ p.1 < p.2 ∧ p.2 < n)
    (h : ∀ p ∈ pairs, l[p.1.toNat]? ≠ l[p.2.toNat]?) : FitsS f l := by
  refine ⟨hm, by omega, fun i j p hij hs hi hj => ?_⟩
  have := h _ ((hp _).2 hs)
  unfold pairOf at this
  simp only [] at this
  rcases Nat.lt_or_ge i j with h' | h'
  · rw [Int.min_eq_left (by omega), Int.max_eq_right (by omega)] at this
    simp only [Int.toNat_natCast] at this
    exact this (hi.trans hj.symm)
  · rw [Int.min_eq_right (by omega), Int.max_eq_left (by omega)] at this
    simp only [Int.toNat_natCast] at this
    exact this (hj.trans hi.symm)

theorem fits_not {f : LFlow} {l : List Int} {n : Nat} {p : Int × Int} (hp : MeetS f p) (hl : l.length = n) (hw : 0 ≤ p.1 ∧ p.1 < p.2 ∧ p.2 < n) (h : l[p.1.toNat]? = l[p.2.toNat]?) : ¬ FitsS f l := by
  rintro ⟨_, _, h3⟩
  have hlt : p.1.toNat < l.length := by omega
  have hi := List.getElem?_eq_getElem hlt
  refine h3 p.1.toNat p.2.toNat _ (by omega) ?_ hi (h ▸ hi)
  have : pairOf (p.1.toNat : Int) (p.2.toNat : Int) = p := by
    unfold pairOf
    obtain ⟨a, b⟩ := p
    simp only [] at hw ⊢
    rw [Int.toNat_of_nonneg (by omega), Int.toNat_of_nonneg (by omega), Int.min_eq_left (by omega), Int.max_eq_right (by omega)]
  rw [this]
  exact hp

set_option maxRecDepth 100000 in
set_option maxHeartbeats 4000000 in
theorem fits_any (f : LFlow) (bv : Value) (w : World) (hf : Fine w f bv) (lv : Value) (l : List Int) (hl : RInts w lv l) :
    Calls Try.prog 12 #[f.agg bv, lv] w fun e w' => ∃ r, e = .returned (.bool r) ∧ (r = true ↔ FitsS f l) ∧ Below w.heap.size w w' := by
  obtain ⟨a0, c0, rfl, hlen⟩ := RSl.form hf.blocks
  obtain ⟨a1, c1, rfl, hlen1⟩ := RSl.form hl
  have HF := Lib.hid hf
  have HL := Lib.hid hl
  clear hf hl
  cases hm : rmayB f
  · have HM := Lib.hid hm
    clear hm
    go_enter Try.func12, Try.ntmps12
    go_wp2_with (first
      | (go_at_call 15; refine (rmay_any f _ _ (HF.out.below (below_a1 _ _))).mono ?_; rintro e w1 ⟨rfl, hb1⟩; rw [HM.out]; have HB1 := Lib.hid hb1; clear hb1))
    go_ret
    exact ⟨_, rfl, by simp [FitsS, HM.out], (below_a1 w _).trans (HB1.out.mono (by simp))⟩
  · obtain ⟨hm1, hm2, hm3, hm4⟩ := rmay_parts hm
    obtain ⟨n, hn⟩ : ∃ n : Nat, f.values = n := ⟨f.values.toNat, by omega⟩
    have hn5 : n ≤ 50000 := by omega
    rw [hn] at hm4
    have HM := Lib.hid hm
    have HM3 := Lib.hid hm3
    have HM4 := Lib.hid hm4
    have HV := Lib.hid hn
    clear hm hm1 hm2 hm3 hm4 hn
    by_cases hln : l.length = n
    · have hln' : ¬ (l.length : Int) ≠ (n : Int) := by omega
      have HLN := Lib.hid hln
      clear hln
      have hnb : ((l.length : Int) != f.values) = false := by rw [HV.out]; simpa using hln'
      go_enter Try.func12, Try.ntmps12
      go_wp2_with (first
        | (go_at_call 15; refine (rmay_any f _ _ (HF.out.below (below_a1 _ _))).mono ?_; rintro e w1 ⟨rfl, hb1⟩; rw [HM.out]; have hl1 := hb1.size; rw [World.size_alloc] at hb1 hl1; have hk1 := (hb1.block w.heap.size (by omega)).trans (heap_new _ _); have d0 := cell_of_block hk1 0; have d1 := cell_of_block hk1 1; have d2 := cell_of_block hk1 2; have d3 := cell_of_block hk1 3; simp only [List.getElem?_toArray, List.getElem?_cons_succ, List.getElem?_cons_zero] at d0 d1 d2 d3; have HB1 := Lib.hid hb1; have HK1 := Lib.hid hk1; clear hb1 hk1)
        | (go_at_call 16; refine (meets_any f _ _ (HF.out.below ((below_a1 w _).trans (HB1.out.mono (by omega)))) HM3.out n HV.out hn5 HM4.out).mono ?_; rintro e w2 ⟨T, M, P, R, pairs, cs, adj, rfl, hm2, hp2, hb2⟩; have hl2 := hb2.size; have hk2 := (hb2.block w.heap.size (by omega)).trans HK1.out; have cM := cell_of_block hm2.box 0; simp only [List.getElem?_toArray, List.getElem?_cons_zero] at cM; have HB2 := Lib.hid hb2; have HK2 := Lib.hid hk2; have HM2 := Lib.hid hm2; have HP2 := Lib.hid hp2; clear hb2 hk2 hm2 hp2)
        | (refine wpList_rangeS (enc := encPair) Try.underlying57 rfl _ rfl P pairs rfl HM2.out.set ?_; intro w3 hi3 hg3 hz3; have HI := Lib.hid hi3; have HG := Lib.hid hg3; have HZ := Lib.hid hz3; clear hi3 hg3 hz3))

      have hbw3 : Below w.heap.size w w3 := ((below_a1 w _).trans ((HB1.out.trans (HB2.out.mono (by omega))).mono (by omega))).grown HG.out (by omega) (fun k e => by cases e)
      have HBW3 := Lib.hid hbw3
      clear hbw3
      have hP := HM2.out.set.lt
      go_frame
      go_loopg [22] pairs.length (fun gh _ wr => ∃ dn left : List (Int × Int), left.length = gh ∧ left.Nodup ∧ (dn ++ left).Perm pairs ∧ IterAt encPair wr w2.heap.size P pairs left ∧ (∀ p ∈ dn, l[p.1.toNat]? ≠ l[p.2.toNat]?) ∧ Below w.heap.size w wr)
      case atStart => exact ⟨[], pairs, rfl, HM2.out.nd, List.Perm.refl _, HI.out, by simp, HBW3.out⟩
      case round =>
        obtain ⟨dn, left, hl, hnd, hp, hi, hdn, hbr⟩ := hrel
        have HI2 := Lib.hid hi
        have HDN := Lib.hid hdn
        have HBR := Lib.hid hbr
        have HL2 := Lib.hid hl
        have HP := Lib.hid hp
        have HN := Lib.hid hnd
        clear hi hdn hbr hl hp hnd
        go_wp2_with (first
          | (refine wpList_nextS (enc := encPair) rfl _ rfl w2.heap.size P pairs left keyPair.inj HN.out rfl HI2.out ?_ ?_)
          | fail)
        · intro hl0
          have HL0 := Lib.hid hl0
          clear hl0
          go_wp2
          go_ret
          refine ⟨_, rfl, ⟨fun _ => fits_pairs HM.out HV.out HLN.out HP2.out HM2.out.within fun p hp => HDN.out p ?_, fun _ => rfl⟩, HBR.out⟩
          have := HP.out
          rw [HL0.out, List.append_nil] at this
          exact this.mem_iff.2 hp
        · intro y1 y2 w5 hy hi2 hg2 hz2 hent
          have hyp : (y1, y2) ∈ pairs := HP.out.mem_iff.1 (List.mem_append_right _ hy)
          have hyw := HM2.out.within _ hyp
          simp only [] at hyw
          obtain ⟨n1, rfl⟩ : ∃ n1 : Nat, y1 = n1 := ⟨y1.toNat, by omega⟩
          obtain ⟨n2, rfl⟩ : ∃ n2 : Nat, y2 = n2 := ⟨y2.toNat, by omega⟩
          have hb5 : Below w.heap.size w w5 := HBR.out.grown hg2 HBR.out.size (fun k e => by cases e; omega)
          have hln5 := HLN.out
          have hw5 : w2.heap.size < w5.heap.size := by obtain ⟨_, _, _, _, _, _, _, h, _⟩ := hi2; exact (Array.getElem?_eq_some_iff.1 h).1
          obtain ⟨b1, o1, c1', he1, hc1, hi1⟩ := RInts.at HL.out (i := n1) (by omega)
          obtain ⟨rfl, rfl⟩ : a1 = some ⟨b1, o1, none⟩ ∧ c1 = c1' := by simpa using he1
          obtain ⟨b2, o2, c2', he2, hc2, hi2'⟩ := RInts.at HL.out (i := n2) (by omega)
          obtain ⟨⟨rfl, rfl⟩, rfl⟩ : (b1 = b2 ∧ o1 = o2) ∧ c1 = c2' := by simpa using he2
          have hb1 := World.block_lt_of_cell? w _ hc1
          simp only [] at hb1
          have hc1' := (hb5.cell (p := ⟨b1, o1 + n1, none⟩) hb1).trans hc1
          have hc2' := (hb5.cell (p := ⟨b1, o1 + n2, none⟩) hb1).trans hc2
          obtain ⟨x1, hx1⟩ : ∃ x, x = l[n1] := ⟨_, rfl⟩
          obtain ⟨x2, hx2⟩ : ∃ x, x = l[n2] := ⟨_, rfl⟩
          have hg1 : l[n1]? = some x1 := by rw [hx1]; exact List.getElem?_eq_getElem _
          have hg2' : l[n2]? = some x2 := by rw [hx2]; exact List.getElem?_eq_getElem _
          rw [← hx1] at hc1'
          rw [← hx2] at hc2'
          have hn1 : (n1 : Int) < (l.length : Int) := by omega
          have hn2 : (n2 : Int) < (l.length : Int) := by omega
          have HYP := Lib.hid hyp
          have HY := Lib.hid hy
          have HI3 := Lib.hid hi2
          have HB5 := Lib.hid hb5
          have HG1 := Lib.hid hg1
          have HG2 := Lib.hid hg2'
          have HYW := Lib.hid hyw
          clear hyp hyw hb5 he1 he2 hc1 hc2 hi1 hi2' hx1 hx2 hg1 hg2' hi2 hg2 hz2 hy hln5
          unfold encPair at hent
          have hz0 : (0 : Int) ≤ (n1 : Int) := by omega
          have hz1 : (0 : Int) ≤ (n2 : Int) := by omega
          by_cases hx : x1 = x2
          · subst hx
            go_wp2
            obtain ⟨W6, hW6⟩ : ∃ W6, W6 = w5.alloc (.cells #[.int .i64 (n1 : Int), .int .i64 (n2 : Int)] 67) := ⟨_, rfl⟩
            have hg6 : Below w5.heap.size w5 W6 := by rw [hW6]; exact below_a1 _ _
            have k6 : W6.heap[w5.heap.size]? = some (.cells #[.int .i64 (n1 : Int), .int .i64 (n2 : Int)] 67 (0, 0)) := by rw [hW6]; exact heap_new _ _
            have c60 := cell_of_block k6 0
            have c61 := cell_of_block k6 1
            simp only [List.getElem?_toArray, List.getElem?_cons_succ, List.getElem?_cons_zero] at c60 c61
            have hb15 : b1 < w5.heap.size := by have := HB5.out.size; omega
            have h61 := (hg6.cell (p := ⟨b1, o1 + n1, none⟩) hb15).trans hc1'
            have h62 := (hg6.cell (p := ⟨b1, o1 + n2, none⟩) hb15).trans hc2'
            rw [← hW6]
            have HG6 := Lib.hid hg6
            clear hg6 hc1' hc2' k6 hW6
            go_quiet (fail)
            go_wp2
            go_ret
            exact ⟨_, rfl, ⟨fun h => (by cases h), fun h => absurd h (fits_not ((HP2.out _).1 HYP.out) HLN.out HYW.out (by simp only [Int.toNat_natCast]; rw [HG1.out, HG2.out]))⟩, (HB5.out.trans (HG6.out.mono HB5.out.size)).grown (drewN_grown _ _ none) (by have h1 := HG6.out.size; have h2 := HB5.out.size; omega) (fun k e => by cases e)⟩
          · go_wp2
            obtain ⟨W6, hW6⟩ : ∃ W6, W6 = w5.alloc (.cells #[.int .i64 (n1 : Int), .int .i64 (n2 : Int)] 67) := ⟨_, rfl⟩
            have hg6 : Below w5.heap.size w5 W6 := by rw [hW6]; exact below_a1 _ _
            have k6 : W6.heap[w5.heap.size]? = some (.cells #[.int .i64 (n1 : Int), .int .i64 (n2 : Int)] 67 (0, 0)) := by rw [hW6]; exact heap_new _ _
            have c60 := cell_of_block k6 0
            have c61 := cell_of_block k6 1
            simp only [List.getElem?_toArray, List.getElem?_cons_succ, List.getElem?_cons_zero] at c60 c61
            have hb15 : b1 < w5.heap.size := by have := HB5.out.size; omega
            have h61 := (hg6.cell (p := ⟨b1, o1 + n1, none⟩) hb15).trans hc1'
            have h62 := (hg6.cell (p := ⟨b1, o1 + n2, none⟩) hb15).trans hc2'
            rw [← hW6]
            have HG6 := Lib.hid hg6
            clear hg6 hc1' hc2' k6 hW6
            go_quiet (fail)
            go_wp2
            go_roundg ((@List.erase (Int × Int) instBEqOfDecidableEq left ((n1 : Int), (n2 : Int))).length)
            case measure => have h1 := @List.length_erase_of_mem (Int × Int) instBEqOfDecidableEq _ _ _ HY.out; have h2 := HL2.out; have := List.length_pos_of_mem HY.out; omega
            case rel =>
              refine ⟨dn ++ [((n1 : Int), (n2 : Int))], @List.erase (Int × Int) instBEqOfDecidableEq left ((n1 : Int), (n2 : Int)), rfl, @List.Nodup.erase (Int × Int) instBEqOfDecidableEq _ _ _ HN.out, ?_, ?_, fun p hp => ?_, (HB5.out.trans (HG6.out.mono HB5.out.size)).grown (drewN_grown _ _ none) (by have h1 := HG6.out.size; have h2 := HB5.out.size; omega) (fun k e => by cases e)⟩
              · refine List.Perm.trans ?_ HP.out
                rw [List.append_assoc]
                exact List.Perm.append_left dn (@List.perm_cons_erase (Int × Int) instBEqOfDecidableEq _ _ _ HY.out).symm
              · exact (HI3.out.kept (HG6.out.block P (by omega)) (HG6.out.block _ hw5)).kept (w' := W6.drewN nq) ((drewN_grown W6 nq none).block P (by have := HG6.out.size; omega) (by simp)) ((drewN_grown W6 nq none).block _ (by have := HG6.out.size; omega) (by simp))
              · rcases List.mem_append.1 hp with hp | hp
                · exact HDN.out p hp
                · obtain rfl := List.mem_singleton.1 hp
                  simp only [Int.toNat_natCast]
                  rw [HG1.out, HG2.out]
                  intro e
                  exact hx (Option.some.inj e)
    · have hln' : (l.length : Int) ≠ (n : Int) := by omega
      have hnb : ((l.length : Int) != f.values) = true := by rw [HV.out]; simpa using hln'
      go_enter Try.func12, Try.ntmps12
      go_wp2_with (first
        | (go_at_call 15; refine (rmay_any f _ _ (HF.out.below (below_a1 _ _))).mono ?_; rintro e w1 ⟨rfl, hb1⟩; rw [HM.out]; have hl1 := hb1.size; rw [World.size_alloc] at hb1 hl1; have hk1 := (hb1.block w.heap.size (by omega)).trans (heap_new _ _); have d0 := cell_of_block hk1 0; have d1 := cell_of_block hk1 1; have d2 := cell_of_block hk1 2; have d3 := cell_of_block hk1 3; simp only [List.getElem?_toArray, List.getElem?_cons_succ, List.getElem?_cons_zero] at d0 d1 d2 d3; have HB1 := Lib.hid hb1; have HK1 := Lib.hid hk1; clear hb1 hk1))
      go_ret
      refine ⟨_, rfl, ?_, (below_a1 w _).trans (HB1.out.mono (by simp))⟩
      simp only [FitsS, HV.out]
      simp [hln']

end Go.Proofs.Ytdlcpmjhngfgkaa
