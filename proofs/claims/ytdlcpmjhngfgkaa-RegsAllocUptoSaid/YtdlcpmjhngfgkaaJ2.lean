import Derived.Test.YtdlcpmjhngfgkaaI9
import Derived.Deep.DeepCutAuto
import Derived.Test.YtdlcpmjhngfgkaaF3
namespace Go.Proofs.Ytdlcpmjhngfgkaa
open Go.RowKit Go.Shelf
attribute [local go_sem] Oper.semAt_some

/-- what a call tells: whether S -/
def BoolIs (S : Prop) (w : World) (e : Ending) (w' : World) : Prop := ∃ r : Bool, e = .returned (.bool r) ∧ (r = true ↔ S) ∧ Below w.heap.size w w'

def BoolSame (S : Prop) (w : World) (e : Ending) (w' : World) : Prop := ∃ r : Bool, e = .returned (.bool r) ∧ (r = true ↔ S) ∧ w' = w

set_option maxRecDepth 100000 in
set_option maxHeartbeats 2000000 in
/-- is a value in a list? -/
theorem wanted16_any (lv : Value) (l : List Int) (v : Int) (w : World) (hl : RInts w lv l) : Calls Try.prog 26 #[lv, I v] w (BoolSame (v ∈ l) w) := by
  obtain ⟨a0, c0, rfl, hlen⟩ := RSl.form hl
  have HL := Lib.hid hl
  clear hl
  go_enter Try.func26, Try.ntmps26
  go_wp2
  go_loopg [5] l.length (fun gh i wr => ∃ k : Nat, gh + k = l.length ∧ i = I k ∧ w = wr ∧ Hid (v ∉ l.take k))
  case atStart => exact ⟨0, rfl, rfl, rfl, Lib.hid (by simp)⟩
  case round =>
    obtain ⟨k, hg, rfl, rfl, hn⟩ := hrel
    by_cases hlt : k < l.length
    · obtain ⟨b, o, c, he, hc, _⟩ := RInts.at HL.out hlt
      obtain ⟨rfl, rfl⟩ : a0 = some ⟨b, o, none⟩ ∧ c0 = c := by simpa using he
      obtain ⟨x, hx⟩ : ∃ x, x = l[k] := ⟨_, rfl⟩
      rw [← hx] at hc
      have HX := Lib.hid hx
      clear he hx
      by_cases hxv : x = v
      · have hq : (x == v) = true := by simpa using hxv
        have HIN : Hid (v ∈ l) := Lib.hid (by rw [← hxv, HX.out]; exact List.getElem_mem hlt)
        clear hxv
        go_wp2
        go_ret
        exact ⟨true, rfl, ⟨fun _ => HIN.out, fun _ => rfl⟩, rfl⟩
      · have hq : (x == v) = false := by simpa using hxv
        have HNE := Lib.hid hxv
        clear hxv
        go_wp2
        go_roundg (l.length - (k + 1))
        case measure => omega
        case rel =>
          refine ⟨k + 1, by omega, by go_num, rfl, Lib.hid fun h => ?_⟩
          rw [List.take_add_one, List.getElem?_eq_getElem hlt, ← HX.out] at h
          simp only [Option.toList_some, List.mem_append, List.mem_singleton] at h
          rcases h with h | h
          · exact hn.out h
          · exact HNE.out h.symm
    · go_wp2
      go_ret
      refine ⟨false, rfl, ⟨fun h => (by cases h), fun h => ?_⟩, rfl⟩
      have := hn.out
      rw [List.take_of_length_le (by omega)] at this
      exact absurd h this

theorem wanted16_yes (lv : Value) (l : List Int) (v : Int) (w : World) (hl : RInts w lv l) (h : v ∈ l) : Calls Try.prog 26 #[lv, I v] w fun e w' => e = .returned (.bool true) ∧ w' = w :=
  (wanted16_any lv l v w hl).mono fun _ _ ⟨r, he, hr, hw⟩ => ⟨by rw [he, hr.2 h], hw⟩
theorem wanted16_no (lv : Value) (l : List Int) (v : Int) (w : World) (hl : RInts w lv l) (h : v ∉ l) : Calls Try.prog 26 #[lv, I v] w fun e w' => e = .returned (.bool false) ∧ w' = w :=
  (wanted16_any lv l v w hl).mono fun _ _ ⟨r, he, hr, hw⟩ => ⟨by cases r with | false => exact he | true => exact absurd (hr.1 rfl) h, hw⟩

/-- two of a list's values have one place -/
def Clash (l ps : List Int) : Prop := ∃ x ∈ l, ∃ y ∈ l, x ≠ y ∧ ps[x.toNat]? = ps[y.toNat]?

set_option maxRecDepth 100000 in
set_option maxHeartbeats 4000000 in
theorem clash16_any (lv pv : Value) (l ps : List Int) (w : World) (hl : RInts w lv l) (hp : RInts w pv ps) (hr : ∀ x ∈ l, 0 ≤ x ∧ x < ps.length) : Calls Try.prog 23 #[lv, pv] w (BoolIs (Clash l ps) w) := by
  obtain ⟨a0, c0, rfl, hlen⟩ := RSl.form hl
  obtain ⟨a1, c1, rfl, hlenp⟩ := RSl.form hp
  have HL := Lib.hid hl
  have HP := Lib.hid hp
  have HR := Lib.hid hr
  clear hl hp hr
  go_enter Try.func23, Try.ntmps23
  go_wp2
  go_loopg [5] l.length (fun gh i wr => ∃ k : Nat, gh + k = l.length ∧ i = I k ∧ Below w.heap.size w wr ∧ Hid (¬ Clash (l.take k) ps))
  case atStart => exact ⟨0, rfl, rfl, Below.refl _ _, Lib.hid (by simp [Clash])⟩
  case round =>
    obtain ⟨k, hg, rfl, hb, hn⟩ := hrel
    obtain ⟨wo, rfl⟩ : ∃ wo, wo = wr := ⟨_, rfl⟩
    have HB := Lib.hid hb
    clear hb
    by_cases hlt : k < l.length
    · obtain ⟨x, hx⟩ : ∃ x : Nat, l[k] = (x : Int) := ⟨l[k].toNat, by have := HR.out _ (List.getElem_mem hlt); omega⟩
      have HX := Lib.hid hx
      have hxr := HR.out _ (List.getElem_mem hlt)
      rw [hx] at hxr
      have hxl : x < ps.length := by omega
      have hxz : (x : Int) < (ps.length : Int) := by omega
      clear hx
      go_wp2
      go_loopg [6] k (fun gh i wr => ∃ j : Nat, gh + j = k ∧ i = I j ∧ Below w.heap.size w wr ∧ Hid (∀ y ∈ l.take j, (x : Int) ≠ y → ps[x]? ≠ ps[y.toNat]?))
      case atStart => exact ⟨0, by omega, rfl, HB.out, Lib.hid (by simp)⟩
      case round =>
        obtain ⟨j, hg2, rfl, hb2, hn2⟩ := hrel
        obtain ⟨wq, rfl⟩ : ∃ wq, wq = wr := ⟨_, rfl⟩
        have HBQ := Lib.hid hb2
        clear hb2
        by_cases hjk : j < k
        · have hjl : j < l.length := by omega
          obtain ⟨y, hy⟩ : ∃ y : Nat, l[j] = (y : Int) := ⟨l[j].toNat, by have := HR.out _ (List.getElem_mem hjl); omega⟩
          have hyr := HR.out _ (List.getElem_mem hjl)
          rw [hy] at hyr
          have hyl : y < ps.length := by omega
          have hyz : (y : Int) < (ps.length : Int) := by omega
          obtain ⟨b, o, c, he, hc, _⟩ := RInts.at (HL.out.below HBQ.out) hlt
          obtain ⟨rfl, rfl⟩ : a0 = some ⟨b, o, none⟩ ∧ c0 = c := by simpa using he
          obtain ⟨b', o', c', he', hc', _⟩ := RInts.at (HL.out.below HBQ.out) hjl
          obtain ⟨⟨rfl, rfl⟩, rfl⟩ : (b = b' ∧ o = o') ∧ c0 = c' := by simpa using he'
          obtain ⟨pb, po, pc, hpe, hpx, _⟩ := RInts.at (HP.out.below HBQ.out) hxl
          obtain ⟨rfl, rfl⟩ : a1 = some ⟨pb, po, none⟩ ∧ c1 = pc := by simpa using hpe
          obtain ⟨pb', po', pc', hpe', hpy, _⟩ := RInts.at (HP.out.below HBQ.out) hyl
          obtain ⟨⟨rfl, rfl⟩, rfl⟩ : (pb = pb' ∧ po = po') ∧ c1 = pc' := by simpa using hpe'
          rw [HX.out] at hc
          rw [hy] at hc'
          obtain ⟨p, hpp⟩ : ∃ p, p = ps[x] := ⟨_, rfl⟩
          obtain ⟨q, hqq⟩ : ∃ q, q = ps[y] := ⟨_, rfl⟩
          rw [← hpp] at hpx
          rw [← hqq] at hpy
          have HPP := Lib.hid hpp
          have HQQ := Lib.hid hqq
          have HY := Lib.hid hy
          have hjz : j < k := hjk
          clear he he' hpe hpe' hy hpp hqq
          by_cases hxy : x = y
          · subst hxy
            have hne : ((x : Int) != (x : Int)) = false := by simp
            go_wp2
            go_quiet (fail)
            go_wp2
            go_roundg (k - (j + 1))
            case measure => omega
            case rel =>
              refine ⟨j + 1, by omega, by go_num, below_drewN' HBQ.out _, Lib.hid fun z hz hxz => ?_⟩
              rw [List.take_add_one, List.getElem?_eq_getElem hjl, HY.out] at hz
              simp only [Option.toList_some, List.mem_append, List.mem_singleton] at hz
              rcases hz with hz | rfl
              · exact hn2.out z hz hxz
              · exact absurd rfl hxz
          · have hne : ((x : Int) != (y : Int)) = true := by simp; omega
            by_cases hpq : p = q
            · have hpe : (p == q) = true := by simpa using hpq
              have HPQ := Lib.hid hpq
              have HXY := Lib.hid hxy
              clear hpq hxy
              go_wp2
              go_quiet (fail)
              go_wp2
              go_ret
              refine ⟨true, rfl, ⟨fun _ => ⟨(x : Int), by rw [← HX.out]; exact List.getElem_mem hlt, (y : Int), by rw [← HY.out]; exact List.getElem_mem hjl, fun e => HXY.out (by omega), ?_⟩, fun _ => rfl⟩, below_drewN' HBQ.out _⟩
              rw [Int.toNat_natCast, Int.toNat_natCast, List.getElem?_eq_getElem hxl, List.getElem?_eq_getElem hyl, ← HPP.out, ← HQQ.out, HPQ.out]
            · have hpe : (p == q) = false := by simpa using hpq
              have HPQ := Lib.hid hpq
              have HXY := Lib.hid hxy
              clear hpq hxy
              go_wp2
              go_quiet (fail)
              go_wp2
              go_roundg (k - (j + 1))
              case measure => omega
              case rel =>
                refine ⟨j + 1, by omega, by go_num, below_drewN' HBQ.out _, Lib.hid fun z hz hxz => ?_⟩
                rw [List.take_add_one, List.getElem?_eq_getElem hjl, HY.out] at hz
                simp only [Option.toList_some, List.mem_append, List.mem_singleton] at hz
                rcases hz with hz | rfl
                · exact hn2.out z hz hxz
                · rw [Int.toNat_natCast, List.getElem?_eq_getElem hxl, List.getElem?_eq_getElem hyl, ← HPP.out, ← HQQ.out]
                  exact fun e => HPQ.out (Option.some.inj e)
        · have hjz : ¬ j < k := hjk
          go_wp2
          go_roundg (l.length - (k + 1))
          case measure => omega
          case rel =>
            refine ⟨k + 1, by omega, by go_num, HBQ.out, Lib.hid ?_⟩
            have hj : l.take j = l.take k := by congr 1; omega
            have h2 := hn2.out
            rw [hj] at h2
            rw [List.take_add_one, List.getElem?_eq_getElem hlt, HX.out]
            rintro ⟨a, ha, c, hc, hac, he⟩
            simp only [Option.toList_some, List.mem_append, List.mem_singleton] at ha hc
            rcases ha with ha | rfl <;> rcases hc with hc | rfl
            · exact hn.out ⟨a, ha, c, hc, hac, he⟩
            · rw [Int.toNat_natCast] at he
              exact h2 a ha (fun e => hac e.symm) he.symm
            · rw [Int.toNat_natCast] at he
              exact h2 c hc hac he
            · exact hac rfl
    · go_wp2
      go_ret
      refine ⟨false, rfl, ⟨fun h => (by cases h), fun h => ?_⟩, HB.out⟩
      have := hn.out
      rw [List.take_of_length_le (by omega)] at this
      exact absurd h this
end Go.Proofs.Ytdlcpmjhngfgkaa

namespace Go.Proofs.Ytdlcpmjhngfgkaa
open Go.RowKit Go.Shelf
attribute [local go_sem] Oper.semAt_some

theorem plB_wants {b : LBlock} {v : Int} (h : v ∈ plB b) : v ∈ b.term.wants ∨ ∃ x ∈ b.ins, v ∈ plI x := by
  rcases List.mem_append.1 h with h | h
  · exact .inl h
  · exact .inr (List.mem_flatMap.1 h)

set_option maxRecDepth 100000 in
set_option maxHeartbeats 8000000 in
/-- are all places below the values? -/
theorem within16_any (f : LFlow) (bv : Value) (w : World) (hf : Fine w f bv) : Calls Try.prog 22 #[f.agg bv] w (BoolIs (∀ v ∈ placesL f.blocks, v < f.values) w) := by
  obtain ⟨a0, c0, rfl, hlen⟩ := RSl.form hf.blocks
  have HBV := Lib.hid hf.blocks
  have HFI := Lib.hid hf
  have hfl := hf.len
  clear hf
  go_enter Try.func22, Try.ntmps22
  go_wp2
  go_loopg [3] f.blocks.length (fun gh i wr => ∃ k : Nat, gh + k = f.blocks.length ∧ i = I k ∧ Below w.heap.size w wr ∧ wr.heap[w.heap.size]? = some (.cells (f.cells (.slice a0 f.blocks.length c0)) 24 (0, 0)) ∧ ∀ b ∈ f.blocks.take k, ∀ v ∈ plB b, v < f.values)
  case atStart => exact ⟨0, rfl, rfl, below_a1 _ _, heap_new _ _, by simp⟩
  case round =>
    obtain ⟨k, hg, rfl, hbe, hfb, hno⟩ := hrel
    obtain ⟨wo, rfl⟩ : ∃ wo, wo = wr := ⟨_, rfl⟩
    have HNO := Lib.hid hno
    have HBE := Lib.hid hbe
    have HFB := Lib.hid hfb
    obtain ⟨f0, f1, f2, f3⟩ := flow_cells hfb
    clear hno hbe hfb
    by_cases hlt : k < f.blocks.length
    · obtain ⟨b1, o1, c1, C, he, hC, h1', h2', h3', h4', gb⟩ := RSl.at HBV.out hlt
      obtain ⟨rfl, rfl⟩ : a0 = some ⟨b1, o1, none⟩ ∧ c0 = c1 := by simpa using he
      obtain ⟨blk, hblk⟩ : ∃ blk, blk = f.blocks[k] := ⟨_, rfl⟩
      rw [← hblk] at h1' h2' h3' h4' gb
      have hcell : ∀ j, j < 5 → wo.cell? ⟨b1, o1 + k * 5 + j, none⟩ = some (C j) := fun j hj => by
        rw [HBE.out.cell (p := ⟨b1, o1 + k * 5 + j, none⟩) (World.block_lt_of_cell? w _ (hC j hj))]; exact hC j hj
      obtain ⟨ai, ci, hiv, hilen⟩ := RSl.form gb.ins
      have e0 := hcell 0 (by decide); rw [hiv] at e0 gb
      have e1 := hcell 1 (by decide); rw [h1'] at e1
      have e2 := hcell 2 (by decide); rw [h2'] at e2
      have e3 := hcell 3 (by decide); rw [h3'] at e3
      have e4 := hcell 4 (by decide); rw [h4'] at e4
      simp only [Nat.add_zero] at e0
      have hbm : blk ∈ f.blocks := by rw [hblk]; exact List.getElem_mem hlt
      have hbl := HFI.out.ins blk hbm
      have HBM := Lib.hid hbm
      have HGB := Lib.hid gb
      have HBK := Lib.hid hblk
      have hle := HBE.out.size
      have hfls : w.heap.size < wo.heap.size := (Array.getElem?_eq_some_iff.1 HFB.out).1
      clear hC hcell h1' h2' h3' h4' he gb hiv hblk hbm
      have hbad : ∀ v, v ∈ plB blk → ¬ v < f.values → ¬ ∀ v ∈ placesL f.blocks, v < f.values := fun v hv hn h => hn (h v (List.mem_flatMap.2 ⟨blk, HBM.out, hv⟩))
      have HBAD := Lib.hid hbad
      clear hbad
      go_upto_region 5 with (fail)
      obtain ⟨w2, hw2⟩ : ∃ w2, w2 = wo.alloc (.cells #[.slice ai blk.ins.length ci, I blk.term.kind, I blk.term.a, I blk.term.to, I blk.term.els] 46) := ⟨_, rfl⟩
      rw [← hw2]
      have hk2 : w2.heap[w.heap.size]? = some (.cells (f.cells (.slice (some ⟨b1, o1, none⟩) f.blocks.length c0)) 24 (0, 0)) := by rw [hw2]; exact heap_old _ _ HFB.out
      have hq2 : w2.heap[wo.heap.size]? = some (.cells #[.slice ai blk.ins.length ci, I blk.term.kind, I blk.term.a, I blk.term.to, I blk.term.els] 46 (0, 0)) := by rw [hw2]; exact heap_new _ _
      have hb2 : Below w.heap.size w w2 := by rw [hw2]; exact HBE.out.alloc hle _
      have hz2 : wo.heap.size < w2.heap.size := by rw [hw2]; simp
      clear hw2 f0 f1 f2 f3 e0 e1 e2 e3 e4
      obtain ⟨f0, f1, f2, f3⟩ := flow_cells hk2
      obtain ⟨q0, q1, q2, q3, q4⟩ := blk_cells hq2
      have HK2 := Lib.hid hk2
      have HQ2 := Lib.hid hq2
      have HB2 := Lib.hid hb2
      clear hk2 hq2 hb2
      by_cases hbadw : (2 ≤ blk.term.kind ∧ blk.term.kind ≤ 4) ∧ f.values ≤ blk.term.a
      · obtain ⟨⟨hk2, hk4⟩, hva⟩ := hbadw
        go_wp2
        go_ret
        refine ⟨false, rfl, ⟨fun h => (by cases h), fun h => ?_⟩, HB2.out⟩
        refine absurd h (HBAD.out blk.term.a (List.mem_append_left _ ?_) (by omega))
        unfold LTerm.wants wantsL
        rw [if_pos (by omega)]; simp
      · have hgood : ∀ v ∈ blk.term.wants, v < f.values := fun v hv => by
          unfold LTerm.wants wantsL at hv
          split at hv
          · simp at hv; subst hv; omega
          · cases hv
        have HGW := Lib.hid hgood
        have hways : (¬ 2 ≤ blk.term.kind) ∨ (2 ≤ blk.term.kind ∧ ¬ blk.term.kind ≤ 4) ∨ (2 ≤ blk.term.kind ∧ blk.term.kind ≤ 4 ∧ ¬ f.values ≤ blk.term.a) := by omega
        have HWY := Lib.hid hways
        clear hbadw hgood hways
        go_cut [37] (fun s wc => s = .bool false ∧ w2 = wc)
        case first =>
          rcases HWY.out with h | ⟨h, h2⟩ | ⟨h, h2, h3⟩
          all_goals
            go_wp2
            go_meet
            exact ⟨by first | rfl | (simp; omega), rfl⟩
        case rest =>
          obtain ⟨rfl, rfl⟩ := hcut
          clear f0 f1 f2 f3
          go_wp2
          clear q0 q1 q2 q3 q4
          go_loopg [5] blk.ins.length (fun gh i wr => ∃ j : Nat, gh + j = blk.ins.length ∧ i = I j ∧ Below w2.heap.size w2 wr ∧ ∀ x ∈ blk.ins.take j, ∀ v ∈ plI x, v < f.values)
          case atStart => exact ⟨0, rfl, rfl, Below.refl _ _, by simp⟩
          case round =>
            obtain ⟨j, hg2, rfl, hbx, hnx⟩ := hrel
            obtain ⟨wx, rfl⟩ : ∃ wx, wx = wr := ⟨_, rfl⟩
            have hkx := (hbx.block w.heap.size (by omega)).trans HK2.out
            have hqx := (hbx.block wo.heap.size (by omega)).trans HQ2.out
            obtain ⟨q0, q1, q2, q3, q4⟩ := blk_cells hqx
            have hbwx := HB2.out.trans (hbx.mono HB2.out.size)
            have HBX := Lib.hid hbx
            have HNI := Lib.hid hnx
            have HKX := Lib.hid hkx
            have HQX := Lib.hid hqx
            have HBWX := Lib.hid hbwx
            have hzx := hbx.size
            clear hbx hnx hkx hqx hbwx
            by_cases hlx : j < blk.ins.length
            · obtain ⟨b2, o2, c2, C, he, hC, h0', h1', h2', h3', h4', h5', h6', gi⟩ := RSl.at HGB.out.ins hlx
              obtain ⟨rfl, rfl⟩ : ai = some ⟨b2, o2, none⟩ ∧ ci = c2 := by simpa using he
              obtain ⟨ins, hins⟩ : ∃ ins, ins = blk.ins[j] := ⟨_, rfl⟩
              rw [← hins] at h0' h1' h2' h3' h4' h5' h6' gi
              obtain ⟨aa, ca, hav, halen⟩ := RSl.form gi.args
              rw [hav] at gi
              have hcell : ∀ i, i < 8 → wx.cell? ⟨b2, o2 + j * 8 + i, none⟩ = some (C i) := fun i hi => by
                rw [HBWX.out.cell (p := ⟨b2, o2 + j * 8 + i, none⟩) (World.block_lt_of_cell? w _ (hC i hi))]; exact hC i hi
              have hbox := World.block_lt_of_cell? wx _ q0
              have hKit2 : ∀ W, Below wx.heap.size wx W → W.cell? ⟨wo.heap.size, 0, none⟩ = some (.slice (some ⟨b2, o2, none⟩) blk.ins.length ci) ∧ W.cell? ⟨b2, o2 + j * 8, none⟩ = some (I ins.kind) ∧ W.cell? ⟨b2, o2 + j * 8 + 1, none⟩ = some (I ins.d) ∧ W.cell? ⟨b2, o2 + j * 8 + 2, none⟩ = some (I ins.a) ∧ W.cell? ⟨b2, o2 + j * 8 + 3, none⟩ = some (I ins.b) ∧
                  W.cell? ⟨b2, o2 + j * 8 + 4, none⟩ = some (I ins.op) ∧ W.cell? ⟨b2, o2 + j * 8 + 5, none⟩ = some (I ins.n) ∧ W.cell? ⟨b2, o2 + j * 8 + 6, none⟩ = some (.string ins.name) ∧ W.cell? ⟨b2, o2 + j * 8 + 7, none⟩ = some (.slice aa ins.args.length ca) := fun W h => by
                have hc : ∀ i, i < 8 → W.cell? ⟨b2, o2 + j * 8 + i, none⟩ = some (C i) := fun i hi => by
                  rw [h.cell (p := ⟨b2, o2 + j * 8 + i, none⟩) (World.block_lt_of_cell? wx _ (hcell i hi))]; exact hcell i hi
                refine ⟨(h.cell (p := ⟨wo.heap.size, 0, none⟩) hbox).trans q0, ?_, ?_, ?_, ?_, ?_, ?_, ?_, ?_⟩
                · rw [← h0']; exact hc 0 (by omega)
                · rw [← h1']; exact hc 1 (by omega)
                · rw [← h2']; exact hc 2 (by omega)
                · rw [← h3']; exact hc 3 (by omega)
                · rw [← h4']; exact hc 4 (by omega)
                · rw [← h5']; exact hc 5 (by omega)
                · rw [← h6']; exact hc 6 (by omega)
                · rw [← hav]; exact hc 7 (by omega)
              have HK := Lib.hid hKit2
              have HGI := Lib.hid (gi.below HBWX.out)
              have hul := ins.uses_len gi.len
              have HIN := Lib.hid hins
              have hinm : ins ∈ blk.ins := by rw [hins]; exact List.getElem_mem hlx
              have HIM := Lib.hid hinm
              clear hC hcell h0' h1' h2' h3' h4' h5' h6' he gi hav hins hKit2 q0 q1 q2 q3 q4 hinm
              obtain ⟨q0, e0, e1, e2, e3, e4, e5, e6, e7⟩ := HK.out wx (Below.refl _ _)
              go_upto_region 10 with (fail)
              refine wp_region_ordW (by kernel_rfl) (fun W => W.cell? ⟨wo.heap.size, 0, none⟩ = some (.slice (some ⟨b2, o2, none⟩) blk.ins.length ci) ∧ W.cell? ⟨b2, o2 + j * 8, none⟩ = some (I ins.kind) ∧ W.cell? ⟨b2, o2 + j * 8 + 1, none⟩ = some (I ins.d) ∧ W.cell? ⟨b2, o2 + j * 8 + 2, none⟩ = some (I ins.a) ∧ W.cell? ⟨b2, o2 + j * 8 + 3, none⟩ = some (I ins.b) ∧
                  W.cell? ⟨b2, o2 + j * 8 + 4, none⟩ = some (I ins.op) ∧ W.cell? ⟨b2, o2 + j * 8 + 5, none⟩ = some (I ins.n) ∧ W.cell? ⟨b2, o2 + j * 8 + 6, none⟩ = some (.string ins.name) ∧ W.cell? ⟨b2, o2 + j * 8 + 7, none⟩ = some (.slice aa ins.args.length ca))
                [(0, 0), (0, 1), (0, 2), (0, 3), (0, 4), (0, 6), (0, 7), (0, 8), (0, 9), (0, 10), (1, 5), (1, 11), (1, 12), (1, 13), (0, 14)] (by kernel_rfl) ?hS ?_
              case hS => intro wd hh; simp only [World.cell?, hh] at q0 e0 e1 e2 e3 e4 e5 e6 e7 ⊢; exact ⟨q0, e0, e1, e2, e3, e4, e5, e6, e7⟩
              intro wd hh hgd hS
              have hbd : Below wx.heap.size wx wd := (Below.refl _ wx).grown hgd (Nat.le_refl _) (fun _ e => by cases e)
              have HBD := Lib.hid hbd
              have hzd := hbd.size
              clear hh hgd hbd q0 e0 e1 e2 e3 e4 e5 e6 e7
              simp only [pickOps, List.map_cons, List.map_nil, List.getElem?_cons_zero, List.getElem?_cons_succ, Option.getD_some]
              repeat (refine wpOrd_look (v := ?_) (by rfl) ?_ (by assumption) (fun _ _ _ h => h) ?_; rotate_left; (· (intro wS hSw; (try dsimp only at hSw); go_simp; (first | done | with_reducible rfl))); simp only [Act.put, List.setIfInBounds_toArray, List.set_cons_zero, List.set_cons_succ])
              refine wpOrd_turn ?_
              go_wp2_with (first
                | (go_at_call 40; refine (uses10_any _ _ _ _ _ _ _ _ _ _ (HGI.out.below HBD.out).args HGI.out.len).mono ?_; rintro e w3 ⟨v3, rfl, own3, hb3⟩; have HB3 := Lib.hid (HBD.out.trans (hb3.mono hzd)); have hz3 := hb3.size; have HO3 := Lib.hid own3; clear own3 hb3 hS))
              refine QN_keep (HK.out w3 HB3.out) fun hS => ?_
              refine wpOrd_turn ?_
              go_wp2_with (first
                | (go_at_call 25; refine (sets10_any _ _ _ _ _ _ _ _ _).mono ?_; rintro e w4 ⟨rfl, hb4⟩; have HB4 := Lib.hid (HB3.out.trans (hb4.mono (by omega))); have hz4 := hb4.size; have HO4 := Lib.hid (OwnInts.below HO3.out hb4); clear hb4 hS))
              refine QN_keep (HK.out w4 HB4.out) fun hS => ?_
              clear hS
              refine wpOrd_turn ?_
              go_wp2
              have hb5 := HB4.out.alloc HB4.out.size (.cells #[I (setsI ins.kind ins.d)] 3)
              refine QN_keep (HK.out _ hb5) fun hS => ?_
              have HB5 := Lib.hid hb5
              clear hS hb5
              refine wpOrd_turn ?_
              go_wp2_with (first
                | (at_builtin; refine wpList_app1 rfl (.tmp 50) (.tmp 57) rfl wd.heap.size _ _ rfl (World.ownsRow.alloc HO4.out _) w4.heap.size (setsI ins.kind ins.d) rfl (by rw [cell_of_block (heap_new _ _)]; rfl) (by have := LIns.uses_len ins HGI.out.len; unfold LIns.uses at this; omega) (by simp; omega) ?_; intro g6 cap6 w6 own6 grow6 at6 lt6; have HB6 : Hid (Below wx.heap.size wx w6) := Lib.hid (HB5.out.grown grow6 HB5.out.size (fun k e => by have := (ownsRow_base HO4.out k e).1; omega)); have HO6 := Lib.hid own6; clear own6 grow6 at6))
              refine QN_keep (HK.out w6 HB6.out) fun hS => ?_
              repeat (refine wpOrd_look (v := ?_) (by rfl) ?_ (by assumption) (fun _ _ _ h => h) ?_; rotate_left; (· (intro wS hSw; (try dsimp only at hSw); go_simp; (first | done | with_reducible rfl))); simp only [Act.put, List.setIfInBounds_toArray, List.set_cons_zero, List.set_cons_succ])
              refine wpOrd_nil ?_
              obtain ⟨n, hn⟩ : ∃ n, n = (UseL ins.kind ins.a ins.b ins.args).length := ⟨_, rfl⟩
              have hnl : n ≤ 1000000000000 := by have := LIns.uses_len ins HGI.out.len; unfold LIns.uses at this; omega
              have hpl : (plI ins).length = n + 1 := by rw [hn]; unfold plI LIns.uses; simp
              have hri : RInts w6 (.slice (some ⟨g6, 0, none⟩) (n + 1) cap6) (plI ins) := by
                rw [hn]
                refine OwnInts.reads HO6.out (fun x hx => ?_) (by rw [hpl]; omega)
                rcases List.mem_append.1 hx with hx | hx
                · exact HGI.out.uses x hx
                · simp at hx; subst hx
                  unfold setsI
                  split
                  · unfold InI; omega
                  · exact HGI.out.d
              have HRI := Lib.hid hri
              have HPL := Lib.hid hpl
              have HN := Lib.hid hn
              rw [← hn]
              have hz6 := HB6.out.size
              clear hri hpl hn hS
              go_wp2
              go_loopg [7] (n + 1) (fun gh i wr => ∃ m : Nat, gh + m = n + 1 ∧ i = I m ∧ Below w6.heap.size w6 wr ∧ ∀ v ∈ (plI ins).take m, v < f.values)
              case atStart => exact ⟨0, rfl, rfl, Below.refl _ _, by simp⟩
              case round =>
                obtain ⟨m, hgm, rfl, hbm, hnm⟩ := hrel
                obtain ⟨wu, rfl⟩ : ∃ wu, wu = wr := ⟨_, rfl⟩
                have hxu : Below wx.heap.size wx wu := HB6.out.trans (hbm.mono (by omega))
                have hku := (hxu.block w.heap.size (by have := (Array.getElem?_eq_some_iff.1 HKX.out).1; omega)).trans HKX.out
                obtain ⟨f0, f1, f2, f3⟩ := flow_cells hku
                have HBM := Lib.hid hbm
                have HNM := Lib.hid hnm
                have HXU := Lib.hid hxu
                clear hbm hnm hxu hku
                by_cases hlm : m < n + 1
                · have hlm' : m < (plI ins).length := by rw [HPL.out]; exact hlm
                  have hlz : (m : Int) < (n : Int) + 1 := by omega
                  obtain ⟨nb, no, nc, he, hc, _⟩ := RInts.at (HRI.out.below HBM.out) hlm'
                  obtain ⟨⟨rfl, rfl⟩, rfl⟩ : (g6 = nb ∧ 0 = no) ∧ cap6 = nc := by
                    rw [HPL.out] at he
                    simpa using he
                  obtain ⟨v, hv⟩ : ∃ v, v = (plI ins)[m]'hlm' := ⟨_, rfl⟩
                  rw [← hv, Nat.zero_add] at hc
                  have hmem : v ∈ plI ins := by rw [hv]; exact List.getElem_mem hlm'
                  have HM := Lib.hid hmem
                  have HV := Lib.hid hv
                  clear he hmem hv
                  by_cases hvv : f.values ≤ v
                  · go_wp2
                    go_quiet (fail)
                    go_wp2
                    go_ret
                    refine ⟨false, rfl, ⟨fun h => (by cases h), fun h => ?_⟩, below_drewN' (HBWX.out.trans (HXU.out.mono HBWX.out.size)) _⟩
                    exact absurd h (HBAD.out v (List.mem_append_right _ (List.mem_flatMap.2 ⟨ins, HIM.out, HM.out⟩)) (by omega))
                  · go_wp2
                    go_quiet (fail)
                    go_wp2
                    go_roundg (n + 1 - (m + 1))
                    case measure => omega
                    case rel =>
                      refine ⟨m + 1, by omega, by go_num, below_drewN' HBM.out _, fun u hu => ?_⟩
                      rw [List.take_add_one, List.getElem?_eq_getElem hlm', ← HV.out] at hu
                      simp only [Option.toList_some, List.mem_append, List.mem_singleton] at hu
                      rcases hu with hu | rfl
                      · exact HNM.out u hu
                      · omega
                · have hlz : ¬ (m : Int) < (n : Int) + 1 := by omega
                  go_wp2
                  go_roundg (blk.ins.length - (j + 1))
                  case measure => omega
                  case rel =>
                    refine ⟨j + 1, by omega, by go_num, HBX.out.trans (HXU.out.mono hzx), fun u hu => ?_⟩
                    rw [List.take_add_one, List.getElem?_eq_getElem hlx, ← HIN.out] at hu
                    simp only [Option.toList_some, List.mem_append, List.mem_singleton] at hu
                    rcases hu with hu | rfl
                    · exact HNI.out u hu
                    · intro v hv
                      exact HNM.out v (by rw [List.take_of_length_le (by rw [HPL.out]; omega)]; exact hv)
            · go_wp2
              go_roundg (f.blocks.length - (k + 1))
              case measure => omega
              case rel =>
                refine ⟨k + 1, by omega, by go_num, HBWX.out, HKX.out, fun x hx => ?_⟩
                rw [List.take_add_one, List.getElem?_eq_getElem hlt] at hx
                simp only [Option.toList_some, List.mem_append, List.mem_singleton] at hx
                rcases hx with hx | rfl
                · exact HNO.out x hx
                · rw [← HBK.out]
                  intro v hv
                  rcases plB_wants hv with hv | ⟨x, hx, hv⟩
                  · exact HGW.out v hv
                  · exact HNI.out x (by rw [List.take_of_length_le (by omega)]; exact hx) v hv
    · go_wp2
      go_ret
      refine ⟨true, rfl, ⟨fun _ v hv => ?_, fun _ => rfl⟩, HBE.out⟩
      obtain ⟨b, hb, hv⟩ := List.mem_flatMap.1 hv
      exact HNO.out b (by rw [List.take_of_length_le (by omega)]; exact hb) v hv
end Go.Proofs.Ytdlcpmjhngfgkaa

namespace Go.Proofs.Ytdlcpmjhngfgkaa
open Go.RowKit Go.Shelf

def ClashS (S : Int → Prop) (l : List Int) : Prop := ∃ x, S x ∧ ∃ y, S y ∧ x ≠ y ∧ l[x.toNat]? = l[y.toNat]?
theorem clash_iff {m : List Int} {S : Int → Prop} (h : ∀ x, x ∈ m ↔ S x) (l : List Int) : Clash m l ↔ ClashS S l := by
  unfold Clash ClashS
  constructor
  · rintro ⟨x, hx, y, hy, h1⟩; exact ⟨x, (h x).1 hx, y, (h y).1 hy, h1⟩
  · rintro ⟨x, hx, y, hy, h1⟩; exact ⟨x, (h x).2 hx, y, (h y).2 hy, h1⟩

/-- what is set here meets none that is wanted behind it -/
def SetOk (f : LFlow) (l : List Int) (b : LBlock) (k : Nat) (ins : LIns) : Prop := 0 ≤ setsI ins.kind ins.d → ∀ x, AfterS b (LiveS f.blocks) k x → x ≠ setsI ins.kind ins.d → l[x.toNat]? ≠ l[(setsI ins.kind ins.d).toNat]?
structure BlkOk (f : LFlow) (l : List Int) (i : Nat) (b : LBlock) : Prop where
  live : ¬ ClashS (LiveS f.blocks i) l
  aft : ∀ k, k ≤ b.ins.length → ¬ ClashS (AfterS b (LiveS f.blocks) k) l
  set : ∀ (k : Nat) (ins : LIns), b.ins[k]? = some ins → SetOk f l b k ins
/-- params that are wanted at first -/
def ParOk (f : LFlow) (l : List Int) (a b : Nat) : Prop := a ≠ b → 0 < f.blocks.length → LiveS f.blocks 0 a → l[a]? ≠ l[b]?

theorem pair_eq {a b c d : Int} (h : pairOf a b = pairOf c d) : (a = c ∧ b = d) ∨ (a = d ∧ b = c) := by
  unfold pairOf at h
  simp only [Prod.mk.injEq] at h
  omega
theorem pair_comm (a b : Int) : pairOf a b = pairOf b a := by
  unfold pairOf
  simp only [Prod.mk.injEq]
  omega

section
variable {f : LFlow} {l : List Int} {n : Nat}
theorem live_rng (hm : rmayB f = true) {i : Nat} {x : Int} (h : LiveS f.blocks i x) : 0 ≤ x ∧ x < f.values ∧ x < 50000 := by
  unfold rmayB at hm
  simp only [Bool.and_eq_true, decide_eq_true_eq, Bool.not_eq_true', List.any_eq_false] at hm
  obtain ⟨⟨⟨h1, h2⟩, h3⟩, h4⟩ := hm
  have h5 := may_uses h3 x (LiveS_uses h)
  have h6 := h4 x (uses_places (LiveS_uses h))
  have : ¬ f.values ≤ x := by simpa using h6
  omega
theorem aft_rng (hm : rmayB f = true) {b : LBlock} (hb : b ∈ f.blocks) {k : Nat} {x : Int} (h : AfterS b (LiveS f.blocks) k x) : 0 ≤ x ∧ x < f.values ∧ x < 50000 := by
  unfold rmayB at hm
  simp only [Bool.and_eq_true, decide_eq_true_eq, Bool.not_eq_true', List.any_eq_false] at hm
  obtain ⟨⟨⟨h1, h2⟩, h3⟩, h4⟩ := hm
  have h5 := may_uses h3 x (AfterS_uses hb h)
  have h6 := h4 x (uses_places (AfterS_uses hb h))
  have : ¬ f.values ≤ x := by simpa using h6
  omega
theorem set_rng (hm : rmayB f = true) {b : LBlock} (hb : b ∈ f.blocks) {ins : LIns} (hi : ins ∈ b.ins) : setsI ins.kind ins.d < f.values := by
  unfold rmayB at hm
  simp only [Bool.and_eq_true, decide_eq_true_eq, Bool.not_eq_true', List.any_eq_false] at hm
  have h6 := hm.2 _ (sets_places hb hi)
  have : ¬ f.values ≤ setsI ins.kind ins.d := by simpa using h6
  omega

theorem meet_diff (h : ∀ (i j : Nat) (p : Int), i ≠ j → MeetS f (pairOf i j) → l[i]? = some p → l[j]? ≠ some p) {x y : Int} (hx : 0 ≤ x ∧ x < l.length) (hy : 0 ≤ y ∧ y < l.length) (hxy : x ≠ y) (hm : MeetS f (pairOf x y)) : l[x.toNat]? ≠ l[y.toNat]? := by
  intro e
  have hxl : x.toNat < l.length := by omega
  rw [List.getElem?_eq_getElem hxl] at e
  refine h x.toNat y.toNat _ (by omega) ?_ (List.getElem?_eq_getElem hxl) e.symm
  rw [Int.toNat_of_nonneg hx.1, Int.toNat_of_nonneg hy.1]
  exact hm

theorem fitsS_blk (hm : rmayB f = true) (hl : (l.length : Int) = f.values) (h : FitsS f l) {i : Nat} {b : LBlock} (hb : f.blocks[i]? = some b) : BlkOk f l i b := by
  have hbm := List.mem_of_getElem? hb
  obtain ⟨_, _, h3⟩ := h
  refine ⟨?_, fun k hk => ?_, fun k ins hi h0 x hx hne => ?_⟩
  · rintro ⟨x, hx, y, hy, hne, he⟩
    have h1 := live_rng hm hx
    have h2 := live_rng hm hy
    exact meet_diff h3 ⟨h1.1, by omega⟩ ⟨h2.1, by omega⟩ hne (.inl ⟨i, b, hb, .inl ⟨x, hx, y, hy, hne, rfl⟩⟩) he
  · rintro ⟨x, hx, y, hy, hne, he⟩
    have h1 := aft_rng hm hbm hx
    have h2 := aft_rng hm hbm hy
    exact meet_diff h3 ⟨h1.1, by omega⟩ ⟨h2.1, by omega⟩ hne (.inl ⟨i, b, hb, .inr ⟨k, hk, .inl ⟨x, hx, y, hy, hne, rfl⟩⟩⟩) he
  · have h1 := aft_rng hm hbm hx
    have h2 := set_rng hm hbm (List.mem_of_getElem? hi)
    have hk := (List.getElem?_eq_some_iff.1 hi).1
    exact meet_diff h3 ⟨h1.1, by omega⟩ ⟨h0, by omega⟩ hne (.inl ⟨i, b, hb, .inr ⟨k, by omega, .inr ⟨ins, hi, h0, x, hx, hne, rfl⟩⟩⟩)
theorem fitsS_par (_hm : rmayB f = true) (hl : (l.length : Int) = f.values) (h : FitsS f l) {a b : Nat} (ha : (a : Int) < f.params ∧ (a : Int) < f.values) (hb : (b : Int) < f.params ∧ (b : Int) < f.values) : ParOk f l a b := by
  intro hne h0 hlive
  obtain ⟨_, _, h3⟩ := h
  have := meet_diff h3 (x := a) (y := b) ⟨by omega, by omega⟩ ⟨by omega, by omega⟩ (by omega) (.inr ⟨h0, (a : Int), hlive, ha.1, (b : Int), by omega, by omega, by omega, rfl⟩)
  simpa using this

theorem fitsS_mk (hm : rmayB f = true) (hl : (l.length : Int) = f.values) (hb : ∀ (i : Nat) (b : LBlock), f.blocks[i]? = some b → BlkOk f l i b) (hp : ∀ a b : Nat, ((a : Int) < f.params ∧ (a : Int) < f.values) → ((b : Int) < f.params ∧ (b : Int) < f.values) → ParOk f l a b) : FitsS f l := by
  refine ⟨hm, hl, fun i j p hij hs hi hj => ?_⟩
  have hne : l[i]? ≠ l[j]? → False := fun h => h (by rw [hi, hj])
  have hcl : ∀ {S : Int → Prop} {x y : Int}, ¬ ClashS S l → S x → S y → x ≠ y → pairOf (i : Int) (j : Int) = pairOf x y → False := fun {S x y} hc hx hy hxy he => by
    refine hc ⟨x, hx, y, hy, hxy, ?_⟩
    rcases pair_eq he with ⟨rfl, rfl⟩ | ⟨rfl, rfl⟩
    · simp [hi, hj]
    · simp [hi, hj]
  rcases hs with ⟨q, b, hb', h | ⟨k, hk, h⟩⟩ | ⟨h0, x, hx, hxp, q, hq0, hq1, hxq, he⟩
  · obtain ⟨x, hx, y, hy, hxy, he⟩ := h
    exact hcl (hb q b hb').live hx hy hxy he
  · rcases h with ⟨x, hx, y, hy, hxy, he⟩ | ⟨ins, hins, h0, x, hx, hxy, he⟩
    · exact hcl ((hb q b hb').aft k hk) hx hy hxy he
    · have := (hb q b hb').set k ins hins h0 x hx hxy
      rcases pair_eq he with ⟨h1, h2⟩ | ⟨h1, h2⟩
      · rw [← h1, ← h2] at this
        simp [hi, hj] at this
      · rw [← h1, ← h2] at this
        simp [hi, hj] at this
  · have hxr := live_rng hm hx
    have := hp x.toNat q.toNat (by omega) (by omega) (by omega) h0 (by rw [Int.toNat_of_nonneg hxr.1]; exact hx)
    rcases pair_eq he with ⟨h1, h2⟩ | ⟨h1, h2⟩
    · rw [← h1, ← h2] at this
      simp [hi, hj] at this
    · rw [← h1, ← h2] at this
      simp [hi, hj] at this
end
end Go.Proofs.Ytdlcpmjhngfgkaa
