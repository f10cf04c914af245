import Derived.Test.YtdlcpmjhngfgkaaF1
namespace Go.Proofs.Ytdlcpmjhngfgkaa
open Go.RowKit Go.Shelf
attribute [local go_sem] Oper.semAt_some

/-- rows of n ints are put into order -/
def SortOk (n : Nat) : Prop := ∀ (w : World) (D u : Nat) (cf : Int → Int → Int), CmpOk w D n u cf → ∀ (l0 : List Int) (cap : Nat), l0.length = n → Row w D 3 (l0.map I) → (∀ x ∈ l0, 0 ≤ x ∧ x < n) →
    Calls Try.prog 18 #[.slice (some ⟨D, 0, none⟩) l0.length cap, .func (.func 19) #[] #[.pointer (some ⟨u, 0, none⟩)]] w fun e w' => (∃ v, e = .returned v) ∧ Resorted D l0 w w'
theorem sortOk_short {n : Nat} (hn : n < 20) : SortOk n := fun w D u cf hcf l0 cap hl hr hi => sortStable_any w D n u cf hcf l0 cap (by omega) hr hi

theorem rmay_parts {f : LFlow} (h : rmayB f = true) : 0 ≤ f.values ∧ f.values ≤ 50000 ∧ mayB f.blocks = true ∧ ∀ v ∈ placesL f.blocks, v < f.values := by
  unfold rmayB at h
  simp only [Bool.and_eq_true, decide_eq_true_eq, Bool.not_eq_true', List.any_eq_false] at h
  obtain ⟨⟨⟨h1, h2⟩, h3⟩, h4⟩ := h
  exact ⟨h1, h2, h3, fun v hv => by have := h4 v hv; simpa using this⟩

/-- the first numbers in their places -/
def upTo (n k : Nat) : List Int := (List.range n).map fun i => if i < k then (i : Int) else 0
theorem upTo_len (n k : Nat) : (upTo n k).length = n := by simp [upTo]
theorem upTo_zero (n : Nat) : upTo n 0 = List.replicate n 0 := by
  refine List.ext_getElem? fun i => ?_
  by_cases h : i < n <;> simp [upTo, h]
theorem upTo_set (n k : Nat) (hk : k < n) : (upTo n k).set k (k : Int) = upTo n (k + 1) := by
  refine List.ext_getElem? fun i => ?_
  by_cases h : i = k
  · subst h; rw [List.getElem?_set_self (by simpa [upTo] using hk)]; simp [upTo, hk]
  · rw [List.getElem?_set_ne (fun e => h e.symm)]
    by_cases h' : i < n
    · simp only [upTo, List.getElem?_map, List.getElem?_range h', Option.map_some]
      have : (i < k) ↔ (i < k + 1) := by omega
      simp [this]
    · simp [upTo, h']
theorem upTo_mem (n : Nat) (x : Int) : x ∈ upTo n n ↔ ∃ i : Nat, i < n ∧ x = i := by
  simp only [upTo, List.mem_map, List.mem_range]
  constructor
  · rintro ⟨i, hi, rfl⟩; exact ⟨i, hi, by simp [hi]⟩
  · rintro ⟨i, hi, rfl⟩; exact ⟨i, hi, by simp [hi]⟩

/-- the state while uses are counted -/
structure UInv (w2 : World) (U n : Nat) (pv : Value) (pl : List Int) (j : Nat) (us : List Int) (W : World) : Prop where
  below : Below w2.heap.size w2 W
  gu : w2.heap.size < U
  order : Row W w2.heap.size 3 ((upTo n n).map I)
  uses : Row W U 3 (us.map I)
  len : us.length = n
  rng : ∀ x ∈ us, 0 ≤ x ∧ x ≤ j
  box : W.heap[U + 1]? = some (.cells #[.slice (some ⟨U, 0, none⟩) n n] 32 (0, 0))
  own : OwnInts W (U + 2) pv pl

theorem UInv.skip {w2 : World} {U n : Nat} {pv : Value} {pl : List Int} {j : Nat} {us : List Int} {W : World} (h : UInv w2 U n pv pl j us W) : UInv w2 U n pv pl (j + 1) us W :=
  ⟨h.below, h.gu, h.order, h.uses, h.len, fun x hx => by have := h.rng x hx; omega, h.box, h.own⟩
theorem UInv.step {w2 : World} {U n : Nat} {pv : Value} {pl : List Int} {j : Nat} {us : List Int} {W : World} (h : UInv w2 U n pv pl j us W) {y : Nat} (hy : y < us.length) : UInv w2 U n pv pl (j + 1) (us.set y (us[y] + 1)) (W.setCell ⟨U, y, none⟩ (I (us[y] + 1))) := by
  have hg := setCell_grown W U y (I (us[y] + 1))
  have := h.gu
  refine ⟨h.below.setCell (by simp only []; omega) _, h.gu, h.order.kept hg (by simp; omega), ?_, by rw [List.length_set]; exact h.len, fun x hx => ?_, grown_old hg h.box (by simp), ?_⟩
  · rw [List.map_set]; exact h.uses.set _ _
  · rcases List.mem_or_eq_of_mem_set hx with h' | rfl
    · have := h.rng x h'; omega
    · have := h.rng us[y] (List.getElem_mem _); omega
  · refine ownsRow_kept' h.own hg ?_
    cases hb : pv.ownBlock with
    | none => exact .inl rfl
    | some r =>
      right
      have := (ownsRow_base h.own r hb).1
      simp; omega

theorem UInv.cmp {w2 : World} {U n : Nat} {pv : Value} {pl : List Int} {j : Nat} {us : List Int} {W : World} (h : UInv w2 U n pv pl j us W) (hj : j ≤ 1000000000000) (hn : n ≤ 50000) : CmpOk W w2.heap.size n (U + 1) (cmpU us) := by
  intro W' hg x y hx hy
  have hgu := h.gu
  have hb := grown_old hg h.box (by simp; omega)
  have hu : Row W' U 3 (us.map I) := h.uses.kept hg (by simp; omega)
  have hlen := h.len
  have hri := hu.ints (fun x hx => by have := h.rng x hx; unfold InI; omega) (by omega) n
  rw [hlen] at hri
  have hc := cell_of_block hb 0
  simp only [List.getElem?_toArray, List.getElem?_cons_zero] at hc
  exact cmp_any W' (U + 1) _ us hc hri (fun x hx => by have := h.rng x hx; omega) x y (by omega) (by omega)

theorem nodup_sub {α : Type} [DecidableEq α] : ∀ {a : List α}, a.Nodup → ∀ {l : List α}, (∀ x ∈ a, x ∈ l) → a.length ≤ l.length
  | [], _, _, _ => Nat.zero_le _
  | x :: a, hn, l, h => by
    have hx := h x (by simp)
    have hn' := List.nodup_cons.1 hn
    have := nodup_sub hn'.2 (l := l.erase x) (fun y hy => (List.mem_erase_of_ne (fun (e : y = x) => hn'.1 (by rw [← e]; exact hy))).2 (h y (by simp [hy])))
    have h2 := List.length_erase_of_mem hx
    have h3 := List.length_pos_of_mem hx
    simp only [List.length_cons]
    omega

/-- what is known of one value's slice of those that it meets -/
theorem Meets.at {W : World} {base T M P R n : Nat} {pairs : List (Int × Int)} {cs : List Value} {adj : List (List Int)} (h : Meets W base T M P R n pairs cs adj) (hn : n ≤ 50000) {y : Nat} (hy : y < n) :
    ∃ (aa : Option Addr) (cc : Nat) (l : List Int), W.cell? ⟨M, 1, none⟩ = some (.slice (some ⟨R, 0, none⟩) n n) ∧ W.cell? ⟨R, y, none⟩ = some (.slice aa l.length cc) ∧ RInts W (.slice aa l.length cc) l ∧ (∀ v ∈ l, 0 ≤ v ∧ v < n) ∧ ∀ b, b ∈ l ↔ pairOf y b ∈ pairs := by
  have hyc : y < cs.length := by rw [h.len]; exact hy
  have hya : y < adj.length := by rw [h.alen]; exact hy
  obtain ⟨hnd, hag⟩ := h.agree y _ (List.getElem?_eq_getElem hya)
  have hin : ∀ v ∈ adj[y], 0 ≤ v ∧ v < n := fun v hv => by
    have := h.within _ ((hag v).1 hv)
    unfold pairOf at this
    simp only [] at this
    omega
  have hlen : adj[y].length ≤ n := by
    have := nodup_sub hnd (l := (List.range n).map (Int.ofNat)) (fun v hv => by
      have := hin v hv
      exact List.mem_map.2 ⟨v.toNat, List.mem_range.2 (by omega), Int.toNat_of_nonneg this.1⟩)
    simpa using this
  have ho := h.rows.own y _ _ (List.getElem?_eq_getElem hyc) (List.getElem?_eq_getElem hya)
  obtain ⟨aa, cc, hs⟩ := ho.slice
  have hM := cell_of_block h.box 1
  simp only [List.getElem?_toArray, List.getElem?_cons_succ, List.getElem?_cons_zero] at hM
  have hR := h.row.cell y
  rw [List.getElem?_eq_getElem hyc, hs] at hR
  rw [hs] at ho
  exact ⟨aa, cc, adj[y], hM, hR, ho.reads (fun v hv => by have := hin v hv; unfold InI; omega) (by omega), hin, hag⟩

theorem slBool : SlT 55 4 1 1 := SlT.mk' (z := .bool false) Try.underlying55 (by kernel_rfl) rfl (by decide)

set_option maxRecDepth 100000 in
set_option maxHeartbeats 4000000 in
theorem alloc_any (f : LFlow) (bv : Value) (w : World) (hf : Fine w f bv) (hm : rmayB f = true) (n : Nat) (hv : f.values = n) (hso : SortOk n) (reg : Nat) (hreg : reg ≤ 32) :
    Calls Try.prog 9 #[f.agg bv, I reg] w fun e w' => ∃ g out, e = .returned (.slice (some ⟨g, 0, none⟩) n n) ∧ w.heap.size ≤ g ∧ Row w' g 3 (out.map I) ∧ Kept (MeetS f) n reg out ∧ Below w.heap.size w w' := by
  obtain ⟨a0, c0, rfl, hlen⟩ := RSl.form hf.blocks
  obtain ⟨hm1, hm2, hm3, hm4⟩ := rmay_parts hm
  have hpi : ∀ v ∈ placesL f.blocks, InI v := places_in hf.blocks
  have HPI := Lib.hid hpi
  have hn : n ≤ 50000 := by omega
  rw [hv] at hm4
  have HF := Lib.hid hf
  have HM := Lib.hid hm
  have HM3 := Lib.hid hm3
  have HM4 := Lib.hid hm4
  have HV := Lib.hid hv
  have HSO := Lib.hid hso
  have hplc : ∀ w', Fine w' f (.slice a0 f.blocks.length c0) → Calls Try.prog 17 #[.agg #[.string f.name, .int .i64 f.params, I n, .slice a0 f.blocks.length c0]] w' (RetInts w' (placesL f.blocks)) := fun w' h => by
    have := places_any f _ w' h.blocks h.pl
    unfold LFlow.agg at this
    rw [hv] at this
    exact this
  have HPLC := Lib.hid hplc
  have hr1 : ¬ (reg : Int) < 0 := by omega
  have hr2 : ¬ (reg : Int) > 32 := by omega
  clear hf hm hm1 hm2 hm3 hm4 hv hso hpi hplc
  refine (callsIn_wide (n := 8)).1 ?_
  refine callsIn_of_wp Try.func9 rfl trivial ?_ rfl
  simp only [Try.ntmps9, List.size_toArray, List.length_cons, List.length_nil, Nat.reduceAdd, Nat.reduceSub, Array.replicate_succ, Array.replicate_zero, List.push_toArray, List.append_toArray, List.nil_append, List.cons_append]
  gi_wp2_with (first
    | (refine ⟨trivial, ?_⟩; gi_at_call 15; refine (callsIn_wide.2 (rmay_any f _ _ (HF.out.below (below_a1 _ _)))).mono ?_; rintro e w1 ⟨rfl, hb1⟩; rw [HM.out]; have hl1 := hb1.size; rw [World.size_alloc] at hb1 hl1; have hk1 := (hb1.block w.heap.size (by omega)).trans (heap_new _ _); have d0 := cell_of_block hk1 0; have d1 := cell_of_block hk1 1; have d2 := cell_of_block hk1 2; have d3 := cell_of_block hk1 3; simp only [List.getElem?_toArray, List.getElem?_cons_succ, List.getElem?_cons_zero] at d0 d1 d2 d3; have HB1 := Lib.hid hb1; have HK1 := Lib.hid hk1; clear hb1 hk1)
    | (refine ⟨trivial, ?_⟩; gi_at_call 16; refine (callsIn_wide.2 (meets_any f _ _ (HF.out.below ((below_a1 w _).trans (HB1.out.mono (by omega)))) HM3.out n HV.out hn HM4.out)).mono ?_; rintro e w2 ⟨T, M, P, R, pairs, cs, adj, rfl, hm2, hp2, hb2⟩; have hl2 := hb2.size; have hk2 := (hb2.block w.heap.size (by omega)).trans HK1.out; have c0' := cell_of_block hk2 0; have c1' := cell_of_block hk2 1; have c2' := cell_of_block hk2 2; have c3' := cell_of_block hk2 3; simp only [List.getElem?_toArray, List.getElem?_cons_succ, List.getElem?_cons_zero] at c0' c1' c2' c3'; rw [HV.out] at c2'; have HB2 := Lib.hid hb2; have HK2 := Lib.hid hk2; have HM2 := Lib.hid hm2; have HP2 := Lib.hid hp2; clear hb2 hk2 hm2 hp2 d0 d1 d2 d3)
    | (gi_at_make; refine wpListIn_make1 (z := I 0) slInt (by kernel_rfl) rfl rfl _ _ rfl n rfl rfl (by omega) (by omega) ?_)
    | gi_in)
  have hbw2 : Below w.heap.size w w2 := (below_a1 w _).trans ((HB1.out.trans (HB2.out.mono (by omega))).mono (by omega))
  have HBW2 := Lib.hid hbw2
  clear hbw2
  have hG : w2.heap.size = w2.heap.size := rfl
  gi_loopg [33] n (fun gh i wr => ∃ k : Nat, gh + k = n ∧ i = I k ∧ Below w2.heap.size w2 wr ∧ Row wr w2.heap.size 3 ((upTo n k).map I))
  case atStart =>
    refine ⟨0, by omega, rfl, below_a1 _ _, ?_⟩
    have := Row.new w2 3 (List.replicate n (I 0))
    rw [upTo_zero, List.map_replicate]
    simpa using this
  case round =>
    obtain ⟨k, hg, rfl, hb, hrow⟩ := hrel
    obtain ⟨w3, rfl⟩ : ∃ w3, w3 = wr := ⟨_, rfl⟩
    have HB := Lib.hid hb
    have HR := Lib.hid hrow
    have hGl := hrow.lt
    have c2'' := (hb.cell (p := ⟨w.heap.size, 2, none⟩) (by simp only []; omega)).trans c2'
    have c0'' := (hb.cell (p := ⟨w.heap.size, 0, none⟩) (by simp only []; omega)).trans c0'
    have c1'' := (hb.cell (p := ⟨w.heap.size, 1, none⟩) (by simp only []; omega)).trans c1'
    have c3'' := (hb.cell (p := ⟨w.heap.size, 3, none⟩) (by simp only []; omega)).trans c3'
    clear hb hrow
    by_cases hlt : k < n
    · have hlt2 : (k : Int) < (n : Int) := by omega
      have hck := HR.out.cell k
      rw [List.getElem?_map, List.getElem?_eq_getElem (show k < (upTo n k).length by rw [upTo_len]; exact hlt)] at hck
      simp only [Option.map_some] at hck
      have hfk := HR.out.frozen k
      gi_wp2
      gi_roundg (n - (k + 1))
      case measure => omega
      case rel =>
        refine ⟨k + 1, by omega, by go_num, HB.out.setCell (Nat.le_refl _) _, ?_⟩
        have := HR.out.set k (I k)
        rw [← List.map_set, upTo_set n k hlt] at this
        exact this
    · obtain rfl : k = n := by omega
      obtain ⟨W3, hW3⟩ : ∃ W3, (w3.alloc (.cells (Array.replicate k (I 0)) 3)).alloc (.cells #[.slice (some ⟨w3.heap.size, 0, none⟩) k k] 32) = W3 := ⟨_, rfl⟩
      have hb3 : Below w3.heap.size w3 W3 := by rw [← hW3]; exact below_a2 _ _ _
      have hs3 : W3.heap.size = w3.heap.size + 2 := by rw [← hW3]; simp
      have hu3 : Row W3 w3.heap.size 3 ((List.replicate k (0 : Int)).map I) := by
        rw [← hW3, List.map_replicate, show Array.replicate k (I 0) = (List.replicate k (I 0)).toArray by simp]
        exact heap_old _ _ (Row.new w3 3 (List.replicate k (I 0)))
      have hx3 : W3.heap[w3.heap.size + 1]? = some (.cells #[.slice (some ⟨w3.heap.size, 0, none⟩) k k] 32 (0, 0)) := by
        rw [← hW3]; exact heap_new2 _ _ _
      have e0 := (hb3.cell (p := ⟨w.heap.size, 0, none⟩) (by simp only []; omega)).trans c0''
      have e1 := (hb3.cell (p := ⟨w.heap.size, 1, none⟩) (by simp only []; omega)).trans c1''
      have e2 := (hb3.cell (p := ⟨w.heap.size, 2, none⟩) (by simp only []; omega)).trans c2''
      have e3 := (hb3.cell (p := ⟨w.heap.size, 3, none⟩) (by simp only []; omega)).trans c3''
      have HB3 := Lib.hid hb3
      have HU3 := Lib.hid hu3
      have HX3 := Lib.hid hx3
      clear hb3 hu3 hx3
      gi_wp2_with (first
        | (gi_at_make; refine wpListIn_make1 (z := I 0) slInt (by kernel_rfl) rfl rfl _ _ rfl k rfl rfl (by omega) (by omega) ?_)
        | (refine ⟨trivial, ?_⟩; gi_at_call 17; refine (callsIn_wide.2 (HPLC.out _ (HF.out.below (HBW2.out.trans ((HB.out.trans (HB3.out.mono (by omega))).mono (by have := HBW2.out.size; omega)))))).mono ?_; rintro e w4 ⟨v4, rfl, own4, hb4⟩; have hl4 := hb4.size; obtain ⟨a4, c4, rfl⟩ := own4.slice; have HO4 := Lib.hid own4; have HB4 := Lib.hid hb4; clear own4 hb4 e0 e1 e2 e3))
      have hbu : UInv w2 w3.heap.size k (.slice a4 (placesL f.blocks).length c4) (placesL f.blocks) 0 (List.replicate k 0) w4 :=
        ⟨HB.out.trans ((HB3.out.trans (HB4.out.mono (by omega))).mono (by have := HB.out.size; omega)), hGl,
          (HR.out.ext HB3.out).ext HB4.out, HU3.out.ext HB4.out, by simp, fun x hx => by have := List.eq_of_mem_replicate hx; subst this; simp, (HB4.out.block _ (by omega)).trans HX3.out, by have := HO4.out; rw [hs3] at this; exact this⟩
      have HBU := Lib.hid hbu
      clear hbu HX3 HU3 HR hl4
      obtain ⟨U, hU⟩ : ∃ U, U = w3.heap.size := ⟨_, rfl⟩
      rw [← hU] at HBU hGl hs3
      rw [← hU]
      have HU := Lib.hid hU
      clear hU hW3
      gi_loopg [47] (placesL f.blocks).length (fun gh i wr => ∃ (j : Nat) (us : List Int), gh + j = (placesL f.blocks).length ∧ i = I j ∧ UInv w2 U k (.slice a4 (placesL f.blocks).length c4) (placesL f.blocks) j us wr)
      case atStart => exact ⟨0, _, by omega, rfl, HBU.out⟩
      case round =>
        obtain ⟨j, us, hgj, rfl, hui⟩ := hrel
        obtain ⟨w5, rfl⟩ : ∃ w5, w5 = wr := ⟨_, rfl⟩
        have HUI := Lib.hid hui
        clear hui
        by_cases hjl : j < (placesL f.blocks).length
        · obtain ⟨b5, o5, c5, he, hc, hi⟩ := RInts.at (HUI.out.own.reads HPI.out (by have := HF.out.pl; omega)) hjl
          obtain ⟨rfl, rfl⟩ : a4 = some ⟨b5, o5, none⟩ ∧ c4 = c5 := by simpa using he
          have hxn := HM4.out _ (List.getElem_mem hjl)
          obtain ⟨x, hx⟩ : ∃ x, x = (placesL f.blocks)[j] := ⟨_, rfl⟩
          rw [← hx] at hc hi hxn
          have hbx := cell_of_block HUI.out.box 0
          simp only [List.getElem?_toArray, List.getElem?_cons_zero] at hbx
          clear hx he
          have hjz : (j : Int) < ((placesL f.blocks).length : Int) := by omega
          by_cases hx0 : 0 ≤ x
          · obtain ⟨y, rfl⟩ : ∃ y : Nat, x = y := ⟨x.toNat, by omega⟩
            have hlu := HUI.out.len
            have hyl : y < us.length := by omega
            have hcy := HUI.out.uses.cell y
            rw [List.getElem?_map, List.getElem?_eq_getElem hyl] at hcy
            simp only [Option.map_some] at hcy
            have hfy := HUI.out.uses.frozen y
            have hry := HUI.out.rng us[y] (List.getElem_mem hyl)
            have hpl := HF.out.pl
            have HST := Lib.hid (HUI.out.step hyl)
            obtain ⟨z, hz⟩ : ∃ z, z = us[y] := ⟨_, rfl⟩
            rw [← hz] at hcy hry HST
            have HZ := Lib.hid hz
            clear hz hlu
            gi_wp2
            gi_roundg ((placesL f.blocks).length - (j + 1))
            case measure => omega
            case rel => exact ⟨j + 1, _, by omega, by go_num, HST.out⟩
          · have hpl := HF.out.pl
            gi_wp2
            gi_roundg ((placesL f.blocks).length - (j + 1))
            case measure => omega
            case rel => exact ⟨j + 1, _, by omega, by go_num, HUI.out.skip⟩
        · have hperm : ∀ x ∈ upTo k k, 0 ≤ x ∧ x < (k : Int) := fun x hx => by
            obtain ⟨i, hi, rfl⟩ := (upTo_mem k x).1 hx; omega
          have hsort := HSO.out w5 w2.heap.size (U + 1) (cmpU us) (HUI.out.cmp (by have := HF.out.pl; omega) hn) (upTo k k) k (upTo_len k k) HUI.out.order hperm
          rw [upTo_len] at hsort
          have HS := Lib.hid hsort
          clear hsort hperm
          gi_wp2_with (first
            | (refine ⟨trivial, ?_⟩; gi_at_call 18; refine (callsIn_wide.2 HS.out).mono ?_; rintro e w6 ⟨⟨v6, rfl⟩, order, hpe, hro, hg6⟩; have HPE := Lib.hid hpe; have HRO := Lib.hid hro; have HG6 := Lib.hid hg6; clear hpe hro hg6))
          have hb26 : Below w2.heap.size w2 w6 := HUI.out.below.grown HG6.out HUI.out.below.size (fun r e => by cases e; exact Nat.le_refl _)
          have hfb : ∀ W, Below w6.heap.size w6 W → W.cell? ⟨w.heap.size, 2, none⟩ = some (I k) ∧ Below w2.heap.size w2 W ∧ Row W w2.heap.size 3 (order.map I) ∧ w6.heap.size ≤ W.heap.size := fun W h =>
            have h26 := hb26.trans (h.mono hb26.size)
            ⟨(h26.cell (p := ⟨w.heap.size, 2, none⟩) (by simp only []; omega)).trans c2', h26, HRO.out.ext h, h.size⟩
          have HFB := Lib.hid hfb
          have HG6l := HRO.out.lt
          clear hb26 hfb
          refine wpIn_region_rvP (by kernel_rfl) [] (by decide) (by kernel_rfl) (by kernel_rfl) (fun vs => by kernel_rfl)
            (fun _ vs W => Below w6.heap.size w6 W)
            (fun W W' => Below W.heap.size W W')
            (fun i v W => match i with
              | 0 => v = .pointer (some ⟨w.heap.size, 2, none⟩)
              | 1 => v = I k
              | 2 => ∃ g, v = .slice (some ⟨g, 0, none⟩) k k ∧ w6.heap.size ≤ g ∧ Row W g 3 ((List.replicate k (0 : Int)).map I)
              | 3 => v = .pointer (some ⟨w.heap.size, 2, none⟩)
              | 4 => v = I k
              | 5 => ∃ g, v = .slice (some ⟨g, 0, none⟩) k k ∧ w6.heap.size ≤ g ∧ Row W g 4 ((List.replicate k false).map Value.bool)
              | 6 => ∃ g, v = .slice (some ⟨g, 0, none⟩) k k ∧ w6.heap.size ≤ g ∧ Row W g 3 ((List.replicate k (0 : Int)).map I)
              | 7 => ∃ g, v = .slice (some ⟨g, 0, none⟩) k k ∧ w6.heap.size ≤ g ∧ Row W g 4 ((List.replicate k false).map Value.bool)
              | _ => True) ?h0 ?hst ?hop ?hend
          case h0 => exact ⟨rfl, rfl, rfl, Nat.le_refl _, fun _ _ => rfl⟩
          case hst =>
            intro j v W W' hst hΦ
            match j, hΦ with
            | 0, h => exact h
            | 1, h => exact h
            | 2, ⟨g, h1, h2, h3⟩ => exact ⟨g, h1, h2, h3.ext hst⟩
            | 3, h => exact h
            | 4, h => exact h
            | 5, ⟨g, h1, h2, h3⟩ => exact ⟨g, h1, h2, h3.ext hst⟩
            | 6, ⟨g, h1, h2, h3⟩ => exact ⟨g, h1, h2, h3.ext hst⟩
            | 7, ⟨g, h1, h2, h3⟩ => exact ⟨g, h1, h2, h3.ext hst⟩
            | j + 8, h => trivial
          case hop =>
            refine ⟨?_, ?_, ?_, ?_, ?_, ?_, ?_, ?_, trivial⟩
            · rintro stg a W4 vs ho hstg hC hΦ hsz hr
              have r1 : a.tmps.getD 2 undef = (.pointer (some ⟨w.heap.size, 0, none⟩)) := (hr 2 (by simp [Oper.looksAt, Op.operands])).trans (show slotOf _ _ vs _ 2 = (.pointer (some ⟨w.heap.size, 0, none⟩)) from by kernel_rfl)
              refine rg_val ho rfl (fun _ _ => trivial) (by intro c h; cases h) (v := .pointer (some ⟨w.heap.size, 2, none⟩)) (W' := W4) ?_ ⟨_, rfl, hC, Below.refl _ _, rfl⟩
              go_simp
            · rintro stg a W4 vs ho hstg hC hΦ hsz hr
              have r1 : a.tmps.getD 63 undef = _ := ((hr 63 (by simp [Oper.looksAt, Op.operands])).trans (show slotOf _ _ vs _ 63 = vs 0 from by kernel_rfl)).trans (hΦ 0 (by kernel_rfl))
              obtain ⟨hk, _⟩ := HFB.out W4 hC
              refine rg_val ho rfl (fun _ _ => trivial) (by intro c h; cases h) (v := I k) (W' := W4) ?_ ⟨_, rfl, hC, Below.refl _ _, rfl⟩
              go_simp
            · rintro stg a W4 vs ho hstg hC hΦ hsz hr
              have r1 : a.tmps.getD 64 undef = _ := ((hr 64 (by simp [Oper.looksAt, Op.operands])).trans (show slotOf _ _ vs _ 64 = vs 1 from by kernel_rfl)).trans (hΦ 1 (by kernel_rfl))
              have hl := (HFB.out W4 hC).2.2.2
              have hrun := run_make1 (w := W4) slInt (z := I 0) (by kernel_rfl) rfl k (by omega) (by omega)
              have r1' : a.eval (.tmp 64) = I k := r1
              refine rg_val ho rfl (fun _ _ => trivial) (by intro c h; cases h) (v := .slice (some ⟨W4.heap.size, 0, none⟩) k k) (W' := W4.alloc (.cells (List.replicate k (I 0)).toArray 3)) ?_ ⟨_, rfl, hC.alloc hl _, below_a1 _ _, W4.heap.size, rfl, hl, by rw [List.map_replicate]; exact Row.new _ _ _⟩
              unfold execOp
              simp [r1', hrun, Result.andThen]
            · rintro stg a W4 vs ho hstg hC hΦ hsz hr
              have r1 : a.tmps.getD 2 undef = (.pointer (some ⟨w.heap.size, 0, none⟩)) := (hr 2 (by simp [Oper.looksAt, Op.operands])).trans (show slotOf _ _ vs _ 2 = (.pointer (some ⟨w.heap.size, 0, none⟩)) from by kernel_rfl)
              refine rg_val ho rfl (fun _ _ => trivial) (by intro c h; cases h) (v := .pointer (some ⟨w.heap.size, 2, none⟩)) (W' := W4) ?_ ⟨_, rfl, hC, Below.refl _ _, rfl⟩
              go_simp
            · rintro stg a W4 vs ho hstg hC hΦ hsz hr
              have r1 : a.tmps.getD 66 undef = _ := ((hr 66 (by simp [Oper.looksAt, Op.operands])).trans (show slotOf _ _ vs _ 66 = vs 3 from by kernel_rfl)).trans (hΦ 3 (by kernel_rfl))
              obtain ⟨hk, _⟩ := HFB.out W4 hC
              refine rg_val ho rfl (fun _ _ => trivial) (by intro c h; cases h) (v := I k) (W' := W4) ?_ ⟨_, rfl, hC, Below.refl _ _, rfl⟩
              go_simp
            · rintro stg a W4 vs ho hstg hC hΦ hsz hr
              have r1 : a.tmps.getD 67 undef = _ := ((hr 67 (by simp [Oper.looksAt, Op.operands])).trans (show slotOf _ _ vs _ 67 = vs 4 from by kernel_rfl)).trans (hΦ 4 (by kernel_rfl))
              have hl := (HFB.out W4 hC).2.2.2
              have hrun := run_make1 (w := W4) slBool (z := .bool false) (by kernel_rfl) rfl k (by omega) (by omega)
              have r1' : a.eval (.tmp 67) = I k := r1
              refine rg_val ho rfl (fun _ _ => trivial) (by intro c h; cases h) (v := .slice (some ⟨W4.heap.size, 0, none⟩) k k) (W' := W4.alloc (.cells (List.replicate k (.bool false)).toArray 4)) ?_ ⟨_, rfl, hC.alloc hl _, below_a1 _ _, W4.heap.size, rfl, hl, by rw [List.map_replicate]; exact Row.new _ _ _⟩
              unfold execOp
              simp [r1', hrun, Result.andThen]
            · rintro stg a W4 vs ho hstg hC hΦ hsz hr
              have r1 : a.tmps.getD 65 undef = vs 2 := (hr 65 (by simp [Oper.looksAt, Op.operands])).trans (show slotOf _ _ vs _ 65 = vs 2 from by kernel_rfl)
              obtain ⟨g, h1, h2, h3⟩ := hΦ 2 (by kernel_rfl)
              rw [h1] at r1
              refine rg_val ho rfl (fun _ _ => trivial) (by intro c h; cases h) (v := .slice (some ⟨g, 0, none⟩) k k) (W' := W4) ?_ ⟨_, rfl, hC, Below.refl _ _, g, rfl, h2, h3⟩
              go_simp
            · rintro stg a W4 vs ho hstg hC hΦ hsz hr
              have r1 : a.tmps.getD 68 undef = vs 5 := (hr 68 (by simp [Oper.looksAt, Op.operands])).trans (show slotOf _ _ vs _ 68 = vs 5 from by kernel_rfl)
              obtain ⟨g, h1, h2, h3⟩ := hΦ 5 (by kernel_rfl)
              rw [h1] at r1
              refine rg_val ho rfl (fun _ _ => trivial) (by intro c h; cases h) (v := .slice (some ⟨g, 0, none⟩) k k) (W' := W4) ?_ ⟨_, rfl, hC, Below.refl _ _, g, rfl, h2, h3⟩
              go_simp
          case hend =>
            rintro vs W7 hC hΦ
            obtain ⟨O, hv6, hO, hrO⟩ := hΦ 6 (by decide)
            obtain ⟨Dn, hv7, hD, hrD⟩ := hΦ 7 (by decide)
            simp only [putAll, Act.put]
            rw [hv6, hv7]
            have HC := Lib.hid hC
            have HRO' := Lib.hid hrO
            have HRD' := Lib.hid hrD
            clear hC hΦ hv6 hv7 hrO hrD
            gi_wp2
            have hne : O ≠ Dn := fun e => by
              have h1 := HRO'.out
              have h2 := HRD'.out
              rw [e] at h1
              have := h1.symm.trans h2
              simp at this
            have hnp := HPE.out.length_eq
            rw [upTo_len] at hnp
            have hmem : ∀ x, x ∈ order ↔ ∃ i : Nat, i < k ∧ x = i := fun x => (HPE.out.mem_iff).trans (upTo_mem k x)
            have HMEM := Lib.hid hmem
            have HNP := Lib.hid hnp
            clear hmem hnp
            gi_loopg [71] k (fun gh i wr => ∃ (q : Nat) (out : List Int) (done : List Bool), gh + q = k ∧ i = I q ∧ Below w6.heap.size w6 wr ∧ Row wr O 3 (out.map I) ∧ Row wr Dn 4 (done.map Value.bool) ∧ Col (MeetS f) k reg order q out done)
            case atStart => exact ⟨0, _, _, by omega, rfl, HC.out, HRO'.out, HRD'.out, Col.start _ _ _ _⟩
            case round =>
              obtain ⟨q, out, done, hgq, rfl, hb8, hr8, hd8, hcol⟩ := hrel
              obtain ⟨w8, rfl⟩ : ∃ w8, w8 = wr := ⟨_, rfl⟩
              have hlo := hcol.lo
              have hld := hcol.ld
              have HB8 := Lib.hid hb8
              have HR8 := Lib.hid hr8
              have HD8 := Lib.hid hd8
              have HCL := Lib.hid hcol
              have HLO := Lib.hid hlo
              have HLD := Lib.hid hld
              clear hb8 hr8 hd8 hcol hlo hld
              by_cases hql : q < k
              · have hqo : q < order.length := by have := HNP.out; omega
                obtain ⟨y, hyk, hyo⟩ := (HMEM.out _).1 (List.getElem_mem hqo)
                obtain ⟨hc2, hb28, hord, hsz⟩ := HFB.out w8 HB8.out
                have hoc := hord.cell q
                rw [List.getElem?_map, List.getElem?_eq_getElem hqo, hyo] at hoc
                simp only [Option.map_some] at hoc
                obtain ⟨aa, cc, l, hM, hR, hri, hin, hag⟩ := (HM2.out.ext (below_grown hb28 none)).at hn hyk
                have hag' : ∀ b, b ∈ l ↔ MeetS f (pairOf y b) := fun b => (hag b).trans (HP2.out _)
                have hout := HR8.out.ints (fun x hx => by have := HCL.out.inr x hx; unfold InI; omega) (by have := HLO.out; omega) k
                have hdon := HD8.out.bools (by have := HLD.out; omega) k
                rw [HLO.out] at hout
                rw [HLD.out] at hdon
                have hfree := free_any w8 _ _ _ l out done hri hout hdon (HLO.out.trans HLD.out.symm) (by rw [HLO.out]; exact hin) reg hreg q (by omega) (HCL.out.had l)
                have HFR := Lib.hid hfree
                have HYO := Lib.hid hyo
                have HAG := Lib.hid hag'
                have hyo' : y < out.length := by rw [HLO.out]; exact hyk
                have hyd' : y < done.length := by rw [HLD.out]; exact hyk
                have hoy := HR8.out.cell y
                rw [List.getElem?_map, List.getElem?_eq_getElem hyo'] at hoy
                simp only [Option.map_some] at hoy
                have hdy := HD8.out.cell y
                rw [List.getElem?_map, List.getElem?_eq_getElem hyd'] at hdy
                simp only [Option.map_some] at hdy
                have hyz : (y : Int) < (k : Int) := by omega
                obtain ⟨oy, hoe⟩ : ∃ oy, oy = out[y] := ⟨_, rfl⟩
                obtain ⟨dy, hde⟩ : ∃ dy, dy = done[y] := ⟨_, rfl⟩
                rw [← hoe] at hoy
                rw [← hde] at hdy
                clear hoe hde
                have hOl := HR8.out.lt
                have hDl := HD8.out.lt
                clear hfree hyo hag hag' hri hin hout hdon hord hc2 hyo' hyd'
                gi_wp2_with (first
                  | (refine ⟨trivial, ?_⟩; gi_at_call 20; refine (callsIn_wide.2 HFR.out).mono ?_; rintro e w9 ⟨p, rfl, hp1, hp2, hp3, hb9⟩; have fo := (hb9.frozen (p := ⟨O, y, none⟩) hOl).trans (HR8.out.frozen y); have fd := (hb9.frozen (p := ⟨Dn, y, none⟩) hDl).trans (HD8.out.frozen y); have co := (hb9.cell (p := ⟨O, y, none⟩) hOl).trans hoy; have cd := (hb9.cell (p := ⟨Dn, y, none⟩) hDl).trans hdy; have HB9 := Lib.hid hb9; have HP1 := Lib.hid hp1; clear hb9 hp1))
                gi_roundg (k - (q + 1))
                case measure => omega
                case rel =>
                  refine ⟨q + 1, out.set y p, done.set y true, by omega, by go_num, ?_, ?_, ?_, HCL.out.step hyk (by rw [List.getElem?_eq_getElem hqo, HYO.out]) l HAG.out HP1.out hp2 hp3⟩
                  · exact ((HB8.out.trans (HB9.out.mono hsz)).setCell hO _).setCell hD _
                  · rw [List.map_set]
                    exact (((HR8.out.ext HB9.out).set _ _).kept (setCell_grown _ _ _ _) (by simpa using hne))
                  · rw [List.map_set]
                    exact (((HD8.out.ext HB9.out).kept (setCell_grown _ _ _ _) (by simpa using hne.symm)).set _ _)
              · gi_wp2
                refine bodyPost_ret (results_tmp rfl _ _ _) rfl ?_
                obtain ⟨_, hb28, _, _⟩ := HFB.out w8 HB8.out
                refine ⟨O, out, rfl, by have := HBW2.out.size; omega, HR8.out, HCL.out.all (by omega) HNP.out (fun i hi => (HMEM.out _).2 ⟨i, hi, rfl⟩), HBW2.out.trans (hb28.mono HBW2.out.size)⟩

end Go.Proofs.Ytdlcpmjhngfgkaa
