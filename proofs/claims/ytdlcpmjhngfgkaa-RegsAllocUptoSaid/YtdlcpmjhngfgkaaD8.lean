import Derived.Test.YtdlcpmjhngfgkaaD7
namespace Go.Proofs.Ytdlcpmjhngfgkaa
open Go.RowKit Go.Shelf

theorem Tells.over (w : World) (B : Nat) (f : LFlow) (bv : Value) (hB : w.heap[B]? = some (.cells (f.cells bv) 24 (0, 0))) : Tells w 31 #[.pointer (some ⟨B, 0, none⟩)] (fun n => decide (f.values ≤ n)) := by
  refine ⟨enters_of Try.func31 (by kernel_rfl) rfl, fun x hx => ?_⟩
  show Calls Try.prog 31 #[I x, .pointer (some ⟨B, 0, none⟩)] w _
  have hc := cell_of_block hB 2
  simp only [List.getElem?_toArray, List.getElem?_cons_succ, List.getElem?_cons_zero] at hc
  go_enter Try.func31, Try.ntmps31
  go_wp2
  go_ret
  exact ⟨rfl, rfl⟩

def rmayB (f : LFlow) : Bool := decide (0 ≤ f.values) && decide (f.values ≤ 50000) && mayB f.blocks && !((placesL f.blocks).any fun n => decide (f.values ≤ n))

/-- what is asked of a function's sizes -/
structure Fine (w : World) (f : LFlow) (bv : Value) : Prop where
  blocks : RSl 5 RBlk w bv f.blocks
  len : f.blocks.length ≤ 1000000000
  uses : (allUses f.blocks).length ≤ 1000000000000
  pl : (placesL f.blocks).length ≤ 1000000000000
  ins : ∀ b ∈ f.blocks, b.ins.length ≤ 1000000000
theorem Fine.below {w w' : World} (hb : Below w.heap.size w w') {f : LFlow} {bv : Value} (h : Fine w f bv) : Fine w' f bv := ⟨RSl.below (R := RBlk) (fun hb h => h.below hb) hb h.blocks, h.len, h.uses, h.pl, h.ins⟩

theorem places_in {w : World} {bv : Value} {bl : List LBlock} (h : RSl 5 RBlk w bv bl) : ∀ v ∈ placesL bl, InI v := by
  intro v hv
  obtain ⟨b, hb, hv⟩ := List.mem_flatMap.1 hv
  obtain ⟨i, hi, rfl⟩ := List.getElem_of_mem hb
  obtain ⟨_, _, _, C, _, _, _, _, _, _, gb⟩ := RSl.at h hi
  rcases List.mem_append.1 hv with hv | hv
  · exact gb.term.wants v hv
  · obtain ⟨x, hx, hv⟩ := List.mem_flatMap.1 hv
    obtain ⟨j, hj, rfl⟩ := List.getElem_of_mem hx
    obtain ⟨_, _, _, C', _, _, _, _, _, _, _, _, _, gi⟩ := RSl.at gb.ins hj
    rcases List.mem_append.1 hv with hv | hv
    · exact gi.uses v hv
    · simp at hv
      unfold setsI at hv
      split at hv
      · subst hv; unfold InI; omega
      · subst hv; exact gi.d

theorem eql58 (w : World) (n c : Nat) : (binOp .eql 58 (.slice none n c) (.slice none 0 0)).run Try.prog w = .ok (.bool true) w := by kernel_rfl
theorem neq58 (w : World) (a : Addr) (n c : Nat) : (binOp .eql 58 (.slice (some a) n c) (.slice none 0 0)).run Try.prog w = .ok (.bool false) w := by kernel_rfl

theorem live_no (f : LFlow) (bv : Value) (w : World) (hf : Fine w f bv) (hm : mayB f.blocks = false) : Calls Try.prog 29 #[f.agg bv] w fun e w' => e = .returned (.slice none 0 0) ∧ Below w.heap.size w w' := by
  refine (live_any f bv w hf.blocks hf.len hf.uses).mono ?_
  rintro e w1 ⟨v1, rfl, hb1, ⟨_, rfl⟩ | ⟨hm', _⟩⟩
  · exact ⟨rfl, hb1⟩
  · rw [hm] at hm'; cases hm'
def IsLive (f : LFlow) (w : World) (v : Value) (Ls : List (List Int)) : Prop :=
  RLs w v Ls ∧ Ls.length = f.blocks.length ∧ ∀ (i : Nat) (l : List Int), Ls[i]? = some l → l.Nodup ∧ ∀ x, x ∈ l ↔ LiveS f.blocks i x
theorem live_yes (f : LFlow) (bv : Value) (w : World) (hf : Fine w f bv) (hm : mayB f.blocks = true) : Calls Try.prog 29 #[f.agg bv] w fun e w' => ∃ (g : Nat) (Ls : List (List Int)), e = .returned (.slice (some ⟨g, 0, none⟩) f.blocks.length f.blocks.length) ∧ w.heap.size ≤ g ∧ IsLive f w' (.slice (some ⟨g, 0, none⟩) f.blocks.length f.blocks.length) Ls ∧ Below w.heap.size w w' := by
  refine (live_any f bv w hf.blocks hf.len hf.uses).mono ?_
  rintro e w1 ⟨v1, rfl, hb1, ⟨hm', _⟩ | ⟨_, g, Ls, rfl, hgl, h⟩⟩
  · rw [hm] at hm'; cases hm'
  · exact ⟨g, Ls, rfl, hgl, h, hb1⟩
def IsAll (f : LFlow) (base : Nat) (w : World) (v : Value) (LLs : List (List (List Int))) : Prop :=
  FromB base v ∧ RLLs base w v LLs ∧ LLs.length = f.blocks.length ∧
    ∀ (i : Nat) (b : LBlock) (Ls : List (List Int)), f.blocks[i]? = some b → LLs[i]? = some Ls → Ls.length = b.ins.length + 1 ∧ ∀ (k : Nat) (l : List Int), Ls[k]? = some l → l.Nodup ∧ ∀ x, x ∈ l ↔ AfterS b (LiveS f.blocks) k x
theorem all_yes (f : LFlow) (bv : Value) (w : World) (hf : Fine w f bv) (hm : mayB f.blocks = true) : Calls Try.prog 32 #[f.agg bv] w fun e w' => ∃ v LLs, e = .returned v ∧ IsAll f (w.heap.size + 1) w' v LLs ∧ Below w.heap.size w w' := by
  refine (all_any f bv w hf.blocks hf.len hf.uses hf.ins).mono ?_
  rintro e w1 ⟨v1, rfl, hb1, ⟨hm', _⟩ | ⟨_, LLs, h⟩⟩
  · rw [hm] at hm'; cases hm'
  · exact ⟨v1, LLs, rfl, h, hb1⟩

set_option maxRecDepth 100000 in
set_option maxHeartbeats 4000000 in
theorem rmay_any (f : LFlow) (bv : Value) (w : World) (hf : Fine w f bv) :
    Calls Try.prog 15 #[f.agg bv] w fun e w' => e = .returned (.bool (rmayB f)) ∧ Below w.heap.size w w' := by
  obtain ⟨a0, c0, rfl, hlen⟩ := RSl.form hf.blocks
  have HF := Lib.hid hf
  clear hf
  have hpi : ∀ v ∈ placesL f.blocks, InI v := places_in HF.out.blocks
  have hn0 := eql58
  have hn1 := neq58
  by_cases h1 : f.values < 0
  · go_enter Try.func15, Try.ntmps15
    go_wp2
    go_ret
    exact ⟨by unfold rmayB; rw [decide_eq_false (show ¬ 0 ≤ f.values by omega)]; rfl, below_a1 _ _⟩
  · by_cases h2 : 50000 < f.values
    · go_enter Try.func15, Try.ntmps15
      go_wp2
      go_ret
      exact ⟨by unfold rmayB; rw [decide_eq_false (show ¬ f.values ≤ 50000 by omega)]; simp, below_a1 _ _⟩
    · cases hm : mayB f.blocks
      · have HM := Lib.hid hm
        clear hm
        go_enter Try.func15, Try.ntmps15
        go_wp2_with (first
          | (go_at_call 29; refine (live_no f _ _ (HF.out.below (below_a1 _ _)) HM.out).mono ?_; rintro e w1 ⟨rfl, hb1⟩; have HB1 := Lib.hid hb1; clear hb1))
        go_ret
        exact ⟨by unfold rmayB; rw [HM.out]; simp, (below_a1 w _).trans (HB1.out.mono (by simp))⟩
      · have HM := Lib.hid hm
        clear hm
        cases hp : (placesL f.blocks).any (fun n => decide (f.values ≤ n))
        all_goals
          have HP := Lib.hid hp
          clear hp
          go_enter Try.func15, Try.ntmps15
          go_wp2_with (first
            | (go_at_call 29; refine (live_yes f _ _ (HF.out.below (below_a1 _ _)) HM.out).mono ?_; rintro e w1 ⟨g1, L1, rfl, _, _, hb1⟩; have hl1 := hb1.size; rw [World.size_alloc] at hb1 hl1; have hk1 := (hb1.block w.heap.size (by omega)).trans (heap_new _ _); have d0 := cell_of_block hk1 0; have d1 := cell_of_block hk1 1; have d2 := cell_of_block hk1 2; have d3 := cell_of_block hk1 3; simp only [List.getElem?_toArray, List.getElem?_cons_succ, List.getElem?_cons_zero] at d0 d1 d2 d3; have HB1 := Lib.hid hb1; have HK1 := Lib.hid hk1; clear hb1 hk1)
            | (go_at_call 17; refine (places_any f _ _ (HF.out.below ((below_a1 w _).trans (HB1.out.mono (by omega)))).blocks HF.out.pl).mono ?_; rintro e w2 ⟨v2, rfl, own2, hb2⟩; have hl2 := hb2.size; have hk2 := (hb2.block w.heap.size (by omega)).trans HK1.out; have HR2 := Lib.hid (own2.reads hpi (by have := HF.out.pl; omega)); have HB2 := Lib.hid hb2; have HK2 := Lib.hid hk2; clear own2 hb2 hk2)
            | (go_at_call 30; refine (contains_any w2 _ _ HR2.out 31 _ _ (Tells.over w2 w.heap.size f _ HK2.out)).mono ?_; rintro e w2' ⟨rfl, rfl⟩; rw [HP.out]))
          go_ret
          refine ⟨?_, (below_a1 w _).trans ((HB1.out.trans (HB2.out.mono (by omega))).mono (by omega))⟩
          unfold rmayB
          rw [HM.out, HP.out, decide_eq_true (show 0 ≤ f.values by omega), decide_eq_true (show f.values ≤ 50000 by omega)]
          rfl

end Go.Proofs.Ytdlcpmjhngfgkaa
