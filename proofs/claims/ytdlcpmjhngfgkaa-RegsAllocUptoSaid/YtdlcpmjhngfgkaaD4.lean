import Derived.Test.YtdlcpmjhngfgkaaD3
namespace Go.Proofs.Ytdlcpmjhngfgkaa
open Go.RowKit Go.Shelf

/-- a function value that tells of an int, and changes nothing -/
structure Tells (w : World) (fid : Nat) (bnd : Array Value) (p : Int → Bool) : Prop where
  eg : ∀ args w, (callFunc fid args).run Try.prog w = .ok (.enter fid args) w
  call : ∀ x, InI x → Calls Try.prog fid (#[I x] ++ bnd) w fun e w' => e = .returned (.bool (p x)) ∧ w = w'

set_option maxHeartbeats 1000000 in
theorem index_any (w : World) (v : Value) (l : List Int) (hv : RInts w v l) (fid : Nat) (bnd : Array Value) (p : Int → Bool) (hp : Tells w fid bnd p) :
    Calls Try.prog 48 #[v, .func (.func fid) #[] bnd] w fun e w' => (∃ r : Int, e = .returned (I r) ∧ (0 ≤ r ↔ ∃ x ∈ l, p x = true)) ∧ w = w' := by
  obtain ⟨a0, c0, rfl, hlen⟩ := RSl.form hv
  have heg := hp.eg
  have HV := Lib.hid hv
  have HP := Lib.hid hp
  clear hv hp
  go_enter Try.func48, Try.ntmps48
  go_wp2
  go_loopg [8] l.length (fun gh i wr => ∃ k : Nat, gh + k = l.length ∧ i = I k ∧ wr = w ∧ ∀ x ∈ l.take k, p x = false)
  case atStart => exact ⟨0, rfl, rfl, rfl, by simp⟩
  case round =>
    obtain ⟨k, hg, rfl, rfl, hno⟩ := hrel
    have HNO := Lib.hid hno
    clear hno
    by_cases hlt : k < l.length
    · obtain ⟨b, o, c, he, hc, hi⟩ := RInts.at HV.out hlt
      obtain ⟨rfl, rfl⟩ : a0 = some ⟨b, o, none⟩ ∧ c0 = c := by simpa using he
      clear he
      have hx := HP.out.call l[k] hi
      have HX := Lib.hid hx
      clear hx
      cases hpx : p l[k]
      all_goals
        have HPX := Lib.hid hpx
        clear hpx
        go_wp2
        refine HX.out.mono ?_
        rintro e w' ⟨rfl, rfl⟩
        rw [HPX.out]
        go_wp2
      · go_roundg (l.length - (k + 1))
        case measure => omega
        case rel =>
          refine ⟨k + 1, by omega, by go_num, rfl, fun x hx => ?_⟩
          rw [List.take_add_one, List.getElem?_eq_getElem hlt] at hx
          simp only [Option.toList_some, List.mem_append, List.mem_singleton] at hx
          rcases hx with hx | rfl
          · exact HNO.out x hx
          · exact HPX.out
      · go_ret
        exact ⟨⟨k, rfl, by constructor <;> intro _; exact ⟨_, List.getElem_mem hlt, HPX.out⟩; omega⟩, rfl⟩
    · go_wp2
      go_ret
      refine ⟨⟨-1, rfl, by omega, ?_⟩, rfl⟩
      rintro ⟨x, hx, hpx⟩
      have := HNO.out x (by rw [List.take_of_length_le (by omega)]; exact hx)
      rw [hpx] at this; cases this

set_option maxHeartbeats 1000000 in
theorem contains_any (w : World) (v : Value) (l : List Int) (hv : RInts w v l) (fid : Nat) (bnd : Array Value) (p : Int → Bool) (hp : Tells w fid bnd p) :
    Calls Try.prog 30 #[v, .func (.func fid) #[] bnd] w fun e w' => e = .returned (.bool (l.any p)) ∧ w = w' := by
  obtain ⟨a0, c0, rfl, hlen⟩ := RSl.form hv
  have HV := Lib.hid hv
  have HP := Lib.hid hp
  clear hv hp
  go_enter Try.func30, Try.ntmps30
  go_wp2_with (first
    | (go_at_call 48; refine (index_any w _ l HV.out fid bnd p HP.out).mono ?_; rintro e w' ⟨⟨r, rfl, hr⟩, rfl⟩; have HR := Lib.hid hr; clear hr))
  go_ret
  have : decide (0 ≤ r) = l.any p := by
    rw [Bool.eq_iff_iff, List.any_eq_true, ← HR.out]
    simp
  exact ⟨by rw [← this]; rfl, rfl⟩

theorem Tells.odd (w : World) : Tells w 58 #[] (fun x => !placeB x) := by
  refine ⟨enters_of Try.func58 (by kernel_rfl) rfl, fun x hx => ?_⟩
  show Calls Try.prog 58 #[I x] w _
  go_enter Try.func58, Try.ntmps58
  go_wp2_with (first
    | (go_at_call 59; refine (place_any x w).mono ?_; rintro e w' ⟨rfl, rfl⟩))
  go_ret
  exact ⟨rfl, rfl⟩

/-- which blocks there are none of -/
def farB (n : Nat) (x : Int) : Bool := decide (x < 0) || decide ((n : Int) ≤ x)
theorem Tells.far (w : World) (B : Nat) (f : LFlow) (a0 : Option Addr) (c0 : Nat) (hB : w.heap[B]? = some (.cells (f.cells (.slice a0 f.blocks.length c0)) 24 (0, 0))) : Tells w 61 #[.pointer (some ⟨B, 0, none⟩)] (farB f.blocks.length) := by
  refine ⟨enters_of Try.func61 (by kernel_rfl) rfl, fun x hx => ?_⟩
  show Calls Try.prog 61 #[I x, .pointer (some ⟨B, 0, none⟩)] w _
  have hc := cell_of_block hB 3
  simp only [List.getElem?_toArray, List.getElem?_cons_succ, List.getElem?_cons_zero] at hc
  by_cases h1 : x < 0 <;> by_cases h2 : (f.blocks.length : Int) ≤ x
  all_goals
    go_enter Try.func61, Try.ntmps61
    go_wp2
    go_ret
    refine ⟨?_, rfl⟩
    simp [farB, h1, h2]

def mayI (x : LIns) : Bool := !(x.uses.any fun v => !placeB v) && !(x.sets.any fun v => !placeB v)
def mayT (n : Nat) (t : LTerm) : Bool := !(t.next.any (farB n)) && !(t.wants.any fun v => !placeB v)
def mayK (n : Nat) (b : LBlock) : Bool := mayT n b.term && b.ins.all mayI
/-- may a function be? -/
def mayB (bl : List LBlock) : Bool := bl.all (mayK bl.length)

theorem GIns.setsI {w : World} {x : LIns} {av : Value} (g : GIns w x av) : ∀ v ∈ x.sets, InI v := by
  intro v hv
  unfold LIns.sets setsL at hv
  split at hv
  · cases hv
  · simp at hv; subst hv; exact g.d

theorem mayB_not {bl : List LBlock} {k : Nat} (hk : k < bl.length) (h : mayK bl.length bl[k] = false) : mayB bl = false := by
  unfold mayB
  rw [List.all_eq_false]
  exact ⟨_, List.getElem_mem hk, by rw [h]; simp⟩
theorem mayK_not {n : Nat} {b : LBlock} {k : Nat} (hk : k < b.ins.length) (h : mayI b.ins[k] = false) : mayK n b = false := by
  unfold mayK
  have : b.ins.all mayI = false := by
    rw [List.all_eq_false]
    exact ⟨_, List.getElem_mem hk, by rw [h]; simp⟩
  rw [this]; simp

set_option maxRecDepth 100000 in
set_option maxHeartbeats 4000000 in
theorem fmay_any (f : LFlow) (bv : Value) (w : World) (hbv : RSl 5 RBlk w bv f.blocks) :
    Calls Try.prog 45 #[f.agg bv] w fun e w' => e = .returned (.bool (mayB f.blocks)) ∧ Below w.heap.size w w' := by
  obtain ⟨a0, c0, rfl, hlen⟩ := RSl.form hbv
  have HBV := Lib.hid hbv
  clear hbv
  go_enter Try.func45, Try.ntmps45
  go_wp2
  go_loopg [11] f.blocks.length (fun gh i wr => ∃ k : Nat, gh + k = f.blocks.length ∧ i = I k ∧ Below w.heap.size w wr ∧ wr.heap[w.heap.size]? = some (.cells (f.cells (.slice a0 f.blocks.length c0)) 24 (0, 0)) ∧ ∀ b ∈ f.blocks.take k, mayK f.blocks.length b = true)
  case atStart => exact ⟨0, rfl, rfl, below_a1 _ _, heap_new _ _, by simp⟩
  case round =>
    obtain ⟨k, hg, rfl, hbe, hfb, hno⟩ := hrel
    obtain ⟨wo, rfl⟩ : ∃ wo, wo = wr := ⟨_, rfl⟩
    have HNO := Lib.hid hno
    have HBE := Lib.hid hbe
    have HFB := Lib.hid hfb
    clear hno hbe hfb
    by_cases hlt : k < f.blocks.length
    · obtain ⟨b1, o1, c1, C, he, hC, h1', h2', h3', h4', gb⟩ := RSl.at HBV.out hlt
      obtain ⟨rfl, rfl⟩ : a0 = some ⟨b1, o1, none⟩ ∧ c0 = c1 := by simpa using he
      obtain ⟨blk, hblk⟩ : ∃ blk, blk = f.blocks[k] := ⟨_, rfl⟩
      rw [← hblk] at h1' h2' h3' h4' gb
      have hcell : ∀ j, j < 5 → wo.cell? ⟨b1, o1 + k * 5 + j, none⟩ = some (C j) := fun j hj => by
        rw [HBE.out.cell (p := ⟨b1, o1 + k * 5 + j, none⟩) (World.block_lt_of_cell? w _ (hC j hj))]; exact hC j hj
      obtain ⟨ai, ci, hiv, hilen⟩ := RSl.form gb.ins
      have e0 := hcell 0 (by decide); rw [hiv] at e0 gb
      have e1 := hcell 1 (by decide); rw [h1'] at e1
      have e2 := hcell 2 (by decide); rw [h2'] at e2
      have e3 := hcell 3 (by decide); rw [h3'] at e3
      have e4 := hcell 4 (by decide); rw [h4'] at e4
      simp only [Nat.add_zero] at e0
      have HGB := Lib.hid gb
      have HBK := Lib.hid hblk
      have hle := HBE.out.size
      have hfl : w.heap.size < wo.heap.size := (Array.getElem?_eq_some_iff.1 HFB.out).1
      clear hC hcell h1' h2' h3' h4' he gb hiv hblk
      have hFlow : ∀ w1, Below (wo.heap.size + 1) (wo.alloc (.cells #[.slice ai blk.ins.length ci, I blk.term.kind, I blk.term.a, I blk.term.to, I blk.term.els] 46)) w1 → w1.heap[w.heap.size]? = some (.cells (f.cells (.slice (some ⟨b1, o1, none⟩) f.blocks.length c0)) 24 (0, 0)) ∧ w1.heap[wo.heap.size]? = some (.cells #[.slice ai blk.ins.length ci, I blk.term.kind, I blk.term.a, I blk.term.to, I blk.term.els] 46 (0, 0)) := fun w1 h =>
        ⟨(h.block _ (by omega)).trans (heap_old _ _ HFB.out), (h.block _ (by omega)).trans (heap_new _ _)⟩
      have HFL := Lib.hid hFlow
      clear hFlow
      cases hp1 : blk.term.next.any (farB f.blocks.length) <;> cases hp2 : blk.term.wants.any (fun v => !placeB v)
      all_goals
        have HP1 := Lib.hid hp1
        have HP2 := Lib.hid hp2
        clear hp1 hp2
        go_wp2_with (first
          | (go_at_call 60; refine (next_L blk.term _).mono ?_; rintro e w1 ⟨v1, rfl, own1, hb1⟩; rw [World.size_alloc] at hb1; have hl1 := hb1.size; rw [World.size_alloc] at hl1; obtain ⟨hf1, hk1⟩ := HFL.out w1 hb1; have d0 := cell_of_block hk1 0; have d1 := cell_of_block hk1 1; have d2 := cell_of_block hk1 2; have d3 := cell_of_block hk1 3; have d4 := cell_of_block hk1 4; simp only [List.getElem?_toArray, List.getElem?_cons_succ, List.getElem?_cons_zero] at d0 d1 d2 d3 d4; obtain ⟨a1, c1', rfl⟩ := own1.slice; have HR1 := Lib.hid (own1.reads (GTerm.next HGB.out.term) (by have := LTerm.next_len blk.term; omega)); have HF1 := Lib.hid hf1; have HB1 := Lib.hid hb1; clear own1 hf1 hb1 hk1)
          | (go_at_call 30; refine (contains_any w1 _ _ HR1.out 61 _ _ (Tells.far w1 w.heap.size f _ _ HF1.out)).mono ?_; rintro e w1' ⟨rfl, rfl⟩; rw [HP1.out])
          | (go_at_call 62; refine (wants_L blk.term _).mono ?_; rintro e w2 ⟨v2, rfl, own2, hb2⟩; have hl2 := hb2.size; have hb2' := HB1.out.trans (hb2.mono hl1); obtain ⟨hf2, hk2⟩ := HFL.out w2 hb2'; have d5 := cell_of_block hk2 0; simp only [List.getElem?_toArray, List.getElem?_cons_zero] at d5; obtain ⟨a2, c2', rfl⟩ := own2.slice; have HR2 := Lib.hid (own2.reads (GTerm.wants HGB.out.term) (by have := LTerm.wants_len blk.term; omega)); have HF2 := Lib.hid hf2; have HB2 := Lib.hid hb2'; clear own2 hf2 hb2 hb2' hk2)
          | (go_at_call 30; refine (contains_any w2 _ _ HR2.out 58 _ _ (Tells.odd w2)).mono ?_; rintro e w2' ⟨rfl, rfl⟩; rw [HP2.out]))
      · -- the block's end may be; its instructions
        go_loopg [30] blk.ins.length (fun gh i wx => ∃ j : Nat, gh + j = blk.ins.length ∧ i = I j ∧ Below (wo.heap.size + 1) (wo.alloc (.cells #[.slice ai blk.ins.length ci, I blk.term.kind, I blk.term.a, I blk.term.to, I blk.term.els] 46)) wx ∧ ∀ x ∈ blk.ins.take j, mayI x = true)
        case atStart => exact ⟨0, rfl, rfl, HB2.out, by simp⟩
        case round =>
          obtain ⟨j, hg', rfl, hbx, hnox⟩ := hrel
          obtain ⟨wx, rfl⟩ : ∃ wx, wx = wr := ⟨_, rfl⟩
          have HNX := Lib.hid hnox
          have HBX := Lib.hid hbx
          clear hnox hbx
          by_cases hlt' : j < blk.ins.length
          · obtain ⟨b2, o2, c2, C, he, hC, h0', h1', h2', h3', h4', h5', h6', gi⟩ := RSl.at HGB.out.ins hlt'
            obtain ⟨rfl, rfl⟩ : ai = some ⟨b2, o2, none⟩ ∧ ci = c2 := by simpa using he
            obtain ⟨ins, hins⟩ : ∃ ins, ins = blk.ins[j] := ⟨_, rfl⟩
            rw [← hins] at h0' h1' h2' h3' h4' h5' h6' gi
            have hbw : Below w.heap.size w wx := ((HBE.out.alloc (by omega) _).trans (HBX.out.mono (by omega)))
            have hcell : ∀ i, i < 8 → wx.cell? ⟨b2, o2 + j * 8 + i, none⟩ = some (C i) := fun i hi => by
              rw [hbw.cell (p := ⟨b2, o2 + j * 8 + i, none⟩) (World.block_lt_of_cell? w _ (hC i hi))]; exact hC i hi
            obtain ⟨aa, ca, hav, halen⟩ := RSl.form gi.args
            have e0 := hcell 0 (by decide); rw [h0'] at e0
            have e1 := hcell 1 (by decide); rw [h1'] at e1
            have e2 := hcell 2 (by decide); rw [h2'] at e2
            have e3 := hcell 3 (by decide); rw [h3'] at e3
            have e4 := hcell 4 (by decide); rw [h4'] at e4
            have e5 := hcell 5 (by decide); rw [h5'] at e5
            have e6 := hcell 6 (by decide); rw [h6'] at e6
            have e7 := hcell 7 (by decide); rw [hav] at e7 gi
            simp only [Nat.add_zero] at e0
            have HGI := Lib.hid (gi.below hbw)
            have HIN := Lib.hid hins
            have hlx := HBX.out.size
            rw [World.size_alloc] at hlx
            have HBW := Lib.hid hbw
            clear hC hcell h0' h1' h2' h3' h4' h5' h6' he gi hav hins hbw
            cases hp3 : ins.uses.any (fun v => !placeB v) <;> cases hp4 : ins.sets.any (fun v => !placeB v)
            all_goals
              have HP3 := Lib.hid hp3
              have HP4 := Lib.hid hp4
              clear hp3 hp4
              go_wp2_with (first
                | (go_at_call 36; refine (uses_L ins (.slice aa ins.args.length ca) _ (HGI.out.below (below_a1 _ _))).mono ?_; rintro e w3 ⟨v3, rfl, own3, hb3⟩; rw [World.size_alloc] at hb3; have hl3 := hb3.size; rw [World.size_alloc] at hl3; have hk3 := (hb3.block wx.heap.size (by omega)).trans (heap_new _ _); have f0 := cell_of_block hk3 0; have f1 := cell_of_block hk3 1; have f2 := cell_of_block hk3 2; have f3 := cell_of_block hk3 3; have f4 := cell_of_block hk3 4; have f5 := cell_of_block hk3 5; have f6 := cell_of_block hk3 6; have f7 := cell_of_block hk3 7; simp only [List.getElem?_toArray, List.getElem?_cons_succ, List.getElem?_cons_zero] at f0 f1 f2 f3 f4 f5 f6 f7; obtain ⟨a3, c3', rfl⟩ := own3.slice; have HR3 := Lib.hid (own3.reads (HGI.out.uses) (by have := LIns.uses_len ins HGI.out.len; omega)); have HB3 := Lib.hid hb3; clear own3 hb3 hk3)
                | (go_at_call 30; refine (contains_any w3 _ _ HR3.out 58 _ _ (Tells.odd w3)).mono ?_; rintro e w3' ⟨rfl, rfl⟩; rw [HP3.out])
                | (go_at_call 63; refine (sets_L ins (.slice aa ins.args.length ca) _).mono ?_; rintro e w4 ⟨v4, rfl, own4, hb4⟩; have hl4 := hb4.size; obtain ⟨a4, c4', rfl⟩ := own4.slice; have HR4 := Lib.hid (own4.reads (HGI.out.setsI) (by have := LIns.sets_len ins; omega)); have HB4 := Lib.hid hb4; clear own4 hb4)
                | (go_at_call 30; refine (contains_any w4 _ _ HR4.out 58 _ _ (Tells.odd w4)).mono ?_; rintro e w4' ⟨rfl, rfl⟩; rw [HP4.out]))
            · go_roundg (blk.ins.length - (j + 1))
              case measure => omega
              case rel =>
                refine ⟨j + 1, by omega, by go_num, ((HBX.out.alloc (by omega) _).trans (HB3.out.mono (by omega))).trans (HB4.out.mono (by omega)), fun x hx => ?_⟩
                rw [List.take_add_one, List.getElem?_eq_getElem hlt'] at hx
                simp only [Option.toList_some, List.mem_append, List.mem_singleton] at hx
                rcases hx with hx | rfl
                · exact HNX.out x hx
                · rw [← HIN.out]; unfold mayI; rw [HP3.out, HP4.out]; rfl
            · go_ret
              refine ⟨?_, (HBW.out.alloc (by omega) _).trans ((HB3.out.trans (HB4.out.mono (by omega))).mono (by omega))⟩
              rw [mayB_not hlt (by rw [← HBK.out]; exact mayK_not hlt' (by rw [← HIN.out]; unfold mayI; rw [HP4.out]; simp))]; rfl
            · go_ret
              refine ⟨?_, (HBW.out.alloc (by omega) _).trans (HB3.out.mono (by omega))⟩
              rw [mayB_not hlt (by rw [← HBK.out]; exact mayK_not hlt' (by rw [← HIN.out]; unfold mayI; rw [HP3.out]; simp))]; rfl
            · go_ret
              refine ⟨?_, (HBW.out.alloc (by omega) _).trans (HB3.out.mono (by omega))⟩
              rw [mayB_not hlt (by rw [← HBK.out]; exact mayK_not hlt' (by rw [← HIN.out]; unfold mayI; rw [HP3.out]; simp))]; rfl
          · go_wp2
            go_roundg (f.blocks.length - (k + 1))
            case measure => omega
            case rel =>
              obtain ⟨hf2, _⟩ := HFL.out wx HBX.out
              refine ⟨k + 1, by omega, by go_num, (HBE.out.alloc (by omega) _).trans (HBX.out.mono (by omega)), hf2, fun x hx => ?_⟩
              rw [List.take_add_one, List.getElem?_eq_getElem hlt] at hx
              simp only [Option.toList_some, List.mem_append, List.mem_singleton] at hx
              rcases hx with hx | rfl
              · exact HNO.out x hx
              · rw [← HBK.out]
                unfold mayK mayT
                rw [HP1.out, HP2.out]
                simp only [Bool.not_false, Bool.and_self, Bool.true_and, List.all_eq_true]
                intro x hx
                exact HNX.out x (by rw [List.take_of_length_le (by omega)]; exact hx)
      · go_ret
        refine ⟨?_, (HBE.out.alloc (by omega) _).trans (HB2.out.mono (by omega))⟩
        rw [mayB_not hlt (by rw [← HBK.out]; unfold mayK mayT; rw [HP2.out]; simp)]; rfl
      · go_ret
        refine ⟨?_, (HBE.out.alloc (by omega) _).trans (HB1.out.mono (by omega))⟩
        rw [mayB_not hlt (by rw [← HBK.out]; unfold mayK mayT; rw [HP1.out]; simp)]; rfl
      · go_ret
        refine ⟨?_, (HBE.out.alloc (by omega) _).trans (HB1.out.mono (by omega))⟩
        rw [mayB_not hlt (by rw [← HBK.out]; unfold mayK mayT; rw [HP1.out]; simp)]; rfl
    · go_wp2
      go_ret
      refine ⟨?_, HBE.out⟩
      have : mayB f.blocks = true := by
        unfold mayB
        rw [List.all_eq_true]
        intro b hb
        exact HNO.out b (by rw [List.take_of_length_le (by omega)]; exact hb)
      rw [this]; rfl

end Go.Proofs.Ytdlcpmjhngfgkaa
