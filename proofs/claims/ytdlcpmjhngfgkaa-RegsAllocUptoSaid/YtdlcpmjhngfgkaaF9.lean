import Derived.Test.YtdlcpmjhngfgkaaF8
namespace Go.Proofs.Ytdlcpmjhngfgkaa
open Go.RowKit Go.Shelf
attribute [local go_sem] Oper.semAt_some

/-- a function that may be: of ten values, up to eight blocks -/
structure GoodFlow (i : Nat) (f : LFlow) : Prop where
  params : f.params = i
  values : f.values = 10
  len : 1 ≤ f.blocks.length ∧ f.blocks.length ≤ 8
  blocks : ∀ b ∈ f.blocks, GoodBlk f.blocks.length b
abbrev FlowP := LFlow × Option Addr × Nat
abbrev FlowP.bv (p : FlowP) : Value := .slice p.2.1 p.1.blocks.length p.2.2
def fEnc (p : FlowP) : List Value := [.string p.1.name, I p.1.params, I p.1.values, p.bv]
theorem fEnc_len (p : FlowP) : (fEnc p).length = 4 := rfl
theorem fEnc_one (p : FlowP) : ∀ u ∈ fEnc p, u.oneCell' = true := by intro u hu; simp [fEnc] at hu; rcases hu with rfl | rfl | rfl | rfl <;> rfl
def FlowOk (W : World) (i : Nat) (p : FlowP) : Prop := GoodFlow i p.1 ∧ ∀ W', TK [46, 41, 3] W W' → RSl 5 RBlk W' p.bv p.1.blocks
theorem FlowOk.tk {W W' : World} {i : Nat} {p : FlowP} (h : FlowOk W i p) (hk : TK [46, 41, 3] W W') : FlowOk W' i p := ⟨h.1, fun W'' h' => h.2 W'' (hk.trans h')⟩

/-- the state between functions -/
structure FitInv (w : World) (av : Value) (fs : List FlowP) (uv : Value) (W : World) : Prop where
  below : Below w.heap.size w W
  res : ∃ cs, W.heap[w.heap.size]? = some (.cells cs 30 (0, 0)) ∧ cs.size = 2
  ub : W.heap[w.heap.size + 1 + 1]? = some (.cells #[av, uv] 30 (0, 0))
  names : Names W (.slice (some ⟨w.heap.size + 1 + 1 + 1, 0, none⟩) 3 3) (w.heap.size + 1 + 1 + 1)
  own : OwnS 4 24 fEnc W (w.heap.size + 4) uv fs
  good : ∀ i p, fs[i]? = some p → FlowOk W i p
def FitPost (w : World) (e : Ending) (w' : World) : Prop := ∃ av uv fs, e = .returned (.agg #[av, uv]) ∧ fs.length = 3 ∧ OwnS 4 24 fEnc w' w.heap.size uv fs ∧ (∀ i p, fs[i]? = some p → FlowOk w' i p) ∧ Below w.heap.size w w'
/-- .. and what lies at its first place is a slice -/
def FitPost2 (w : World) (e : Ending) (w' : World) : Prop := ∃ av uv fs, e = .returned (.agg #[av, uv]) ∧ fs.length = 3 ∧ OwnS 4 24 fEnc w' w.heap.size uv fs ∧ (∀ i p, fs[i]? = some p → FlowOk w' i p) ∧ Below w.heap.size w w' ∧ ∃ aa l c, av = .slice aa l c

section
variable {w W W' : World} {av uv : Value} {fs : List FlowP}
theorem FitInv.ext (h : FitInv w av fs uv W) (hg : W.grownBy W' none) : FitInv w av fs uv W' := by
  obtain ⟨cs, h1, h2⟩ := h.res
  exact ⟨h.below.grown hg h.below.size (fun _ e => by cases e), ⟨cs, grown_old hg h1 (by simp), h2⟩, grown_old hg h.ub (by simp), ⟨rfl, h.names.row.kept hg (by simp)⟩, h.own.tag hg (NoTag.none _ _), fun i p hp => (h.good i p hp).tk (TK.grown hg (fun _ _ => NoTag.none _ _))⟩
theorem FitInv.step (h : FitInv w av fs uv W) {v' : Value} {p : FlowP} (ho : OwnS 4 24 fEnc W' (w.heap.size + 4) v' (fs ++ [p])) (hg : W.grownBy W' uv.ownBlock) (hp : FlowOk W fs.length p) :
    FitInv w av (fs ++ [p]) v' (W'.setCell ⟨w.heap.size + 1 + 1, 1, none⟩ v') := by
  obtain ⟨cs, h1, h2⟩ := h.res
  have ha : ∀ r, r < w.heap.size + 4 → some r ≠ uv.ownBlock := fun r hr => h.own.apart hr
  have hc := setCell_grown W' (w.heap.size + 1 + 1) 1 v'
  have hrow : Row W' (w.heap.size + 1 + 1) 30 [av, uv] := grown_old hg h.ub (ha _ (by omega))
  have htk : TK [46, 41, 3] W (W'.setCell ⟨w.heap.size + 1 + 1, 1, none⟩ v') :=
    (TK.grown hg (fun t ht => ownsRow_notag h.own (by rintro rfl; simp at ht))).trans (TK.grown hc (fun t ht => NoTag.box t hrow (by rintro rfl; simp at ht)))
  refine ⟨(h.below.grown hg h.below.size (fun r e => by have := (ownsRow_base h.own r e).1; omega)).setCell (by simp only []; omega) _, ⟨cs, grown_old hc (grown_old hg h1 (ha _ (by omega))) (by simp; omega), h2⟩, hrow.set 1 v', ⟨rfl, (h.names.row.kept hg (ha _ (by omega))).kept hc (by simp)⟩, ho.tag hc (NoTag.box 24 hrow (by decide)), fun i q hq => ?_⟩
  rcases Nat.lt_or_ge i fs.length with hi | hi
  · rw [List.getElem?_append_left hi] at hq
    exact (h.good i q hq).tk htk
  · rw [List.getElem?_append_right hi] at hq
    have hi0 : i - fs.length = 0 := by
      rcases Nat.eq_zero_or_pos (i - fs.length) with h | h
      · exact h
      · rw [List.getElem?_eq_none (by simp only [List.length_cons, List.length_nil]; omega)] at hq; cases hq
    rw [hi0] at hq
    simp only [List.getElem?_cons_zero, Option.some.injEq] at hq
    obtain rfl : i = fs.length := by omega
    rw [← hq]
    exact hp.tk htk
end

/-- what lies in memory of a function whose blocks are all good -/
theorem flow_ok {W0 W : World} {nm : ByteArray} {k : Nat} {ps : List BlkP} {ba : Option Addr} {bc : Nat} (h : FlowInv W0 nm k ps (.slice ba ps.length bc) W) (hn : 1 ≤ ps.length ∧ ps.length ≤ 8) (hg : ∀ p ∈ ps, GoodOk ps.length W p) :
    FlowOk W k (⟨nm, k, 10, ps.map Prod.fst⟩, ba, bc) := by
  have hl : (ps.map Prod.fst).length = ps.length := by simp
  refine ⟨⟨rfl, rfl, by simpa using hn, fun b hb => ?_⟩, fun W' hW => ?_⟩
  · obtain ⟨p, hp, rfl⟩ := List.mem_map.1 hb
    simp only [hl]
    exact (hg p hp).1
  · show RSl 5 RBlk W' (.slice ba (ps.map Prod.fst).length bc) (ps.map Prod.fst)
    rw [hl]
    refine (h.own.tk hW (by decide)).rsl Prod.fst bEnc_len (by omega) fun p hp => ⟨rfl, rfl, rfl, rfl, ?_⟩
    obtain ⟨g1, g2⟩ := hg p hp
    have hin : ∀ v m : Int, m ≤ 100 → 0 ≤ v ∧ v < m → InI v := fun v m hm hv => by unfold InI; omega
    exact ⟨g2 W' (hW.sub (by simp)), hin _ _ (by omega) g1.a, hin _ _ (by omega) g1.to, hin _ _ (by omega) g1.els⟩

set_option maxRecDepth 100000 in
set_option maxHeartbeats 16000000 in
theorem fit2_any (rv : Value) (raw : List LBlock) (w : World) (hr : RSl 5 RRawB w rv raw) : Calls Try.prog 8 #[rv] w (FitPost2 w) := by
  obtain ⟨a0, c0, rfl, hlr⟩ := RSl.form hr
  have HR := Lib.hid hr
  clear hr
  go_enter Try.func8, Try.ntmps8
  go_wp2
  go_loopg [5] 3 (fun gh i wr => ∃ (k : Nat) (fs : List FlowP) (av uv : Value), gh + k = 3 ∧ i = I k ∧ fs.length = k ∧ (∃ aa l c, av = .slice aa l c) ∧ FitInv w av fs uv wr)
  case atStart =>
    refine ⟨0, [], .slice (some ⟨w.heap.size + 1, 0, none⟩) 2 2, .slice none 0 0, by omega, rfl, rfl, ⟨_, _, _, rfl⟩, (((below_a2 w _ _).alloc (by simp; omega) _).alloc (by simp; omega) _), ⟨_, heap_old _ _ (heap_old _ _ (heap_old _ _ (heap_new _ _))), rfl⟩, ?_, ⟨rfl, ?_⟩, OwnS.nil, by simp⟩
    · refine heap_old _ _ ?_
      have := heap_new ((w.alloc (Obj.cells #[.slice none 0 0, .slice none 0 0] 30)).alloc (Obj.cells #[.string ⟨#[97]⟩, I 4, .string ⟨#[98]⟩, I 10] 48))
      simpa using this _
    · have := heap_new (((w.alloc (Obj.cells #[.slice none 0 0, .slice none 0 0] 30)).alloc (Obj.cells #[.string ⟨#[97]⟩, I 4, .string ⟨#[98]⟩, I 10] 48)).alloc (Obj.cells #[.slice (some ⟨w.heap.size + 1, 0, none⟩) 2 2, .slice none 0 0] 30))
      have h2 := this (Obj.cells #[.string ⟨#[109, 97, 105, 110]⟩, .string ⟨#[102]⟩, .string ⟨#[103]⟩] 9)
      simp only [World.size_alloc] at h2
      exact h2
  case round =>
    obtain ⟨k, fs, av, uv, hg, rfl, hfl, ⟨ava, avl, avc, rfl⟩, hinv⟩ := hrel
    obtain ⟨W0, rfl⟩ : ∃ W0, W0 = wr := ⟨_, rfl⟩
    have HI := Lib.hid hinv
    have HFL := Lib.hid hfl
    clear hinv hfl
    by_cases hk : k < 3
    · have hkz : (k : Int) < 3 := by omega
      obtain ⟨nm, hnm⟩ : ∃ nm, W0.cell? ⟨w.heap.size + 1 + 1 + 1, k, none⟩ = some (.string nm) := by
        have := HI.out.names.row.cell
        rcases (by omega : k = 0 ∨ k = 1 ∨ k = 2) with rfl | rfl | rfl
        · exact ⟨_, this 0⟩
        · exact ⟨_, this 1⟩
        · exact ⟨_, this 2⟩
      go_wp2
      go_loopg [7] 8 (fun gh i wr => ∃ (m i' : Nat) (ps : List BlkP) (bv : Value), gh + m = 8 ∧ i = I i' ∧ i' ≤ 200000000000000 ∧ ps.length = m ∧ FlowInv W0 nm k ps bv wr ∧ ∀ p ∈ ps, RawOk w p)
      case atStart => exact ⟨0, k, [], .slice none 0 0, by omega, rfl, by omega, rfl, ⟨below_a1 _ _, heap_new _ _, OwnS.nil⟩, by simp⟩
      case round =>
        obtain ⟨m, i', ps, bv, hg2, rfl, hi2, hpl, hfi, hpr⟩ := hrel
        obtain ⟨w1, rfl⟩ : ∃ w1, w1 = wr := ⟨_, rfl⟩
        obtain ⟨ba, bc, rfl⟩ := hfi.own.slice
        have hB := cell_of_block hfi.box 3
        simp only [List.getElem?_toArray, List.getElem?_cons_succ, List.getElem?_cons_zero] at hB
        have HFI := Lib.hid hfi
        have HPL := Lib.hid hpl
        have HPR := Lib.hid hpr
        have hps8 : ps.length ≤ 8 := by omega
        clear hfi hpl hpr hnm
        by_cases hc : i' < raw.length ∧ m < 8
        · obtain ⟨hcr, hc8⟩ := hc
          have hcz : (i' : Int) < (raw.length : Int) := by omega
          have hcm : ((ps.length : Nat) : Int) < 8 := by have := HPL.out; omega
          obtain ⟨rb, ro, rc, C, he, hC, aa, cc, e0, e1, e2, e3, e4, hok⟩ := RSl.at HR.out hcr
          obtain ⟨rfl, rfl⟩ : a0 = some ⟨rb, ro, none⟩ ∧ c0 = rc := by simpa using he
          obtain ⟨b, hbe⟩ : ∃ b, b = raw[i'] := ⟨_, rfl⟩
          rw [← hbe] at e0 e1 e2 e3 e4 hok
          have hcell : ∀ c v, c < 5 → C c = v → w1.cell? ⟨rb, ro + i' * 5 + c, none⟩ = some v := fun c v hc hv => by
            have h := hC c hc
            rw [hv] at h
            have hbw : Below w.heap.size w w1 := HI.out.below.trans (HFI.out.below.mono HI.out.below.size)
            exact (hbw.cell (p := ⟨rb, ro + i' * 5 + c, none⟩) (World.block_lt_of_cell? w _ h)).trans h
          have c0' := hcell 0 _ (by omega) e0
          have c1' := hcell 1 _ (by omega) e1
          have c2' := hcell 2 _ (by omega) e2
          have c3' := hcell 3 _ (by omega) e3
          have c4' := hcell 4 _ (by omega) e4
          rw [Nat.add_zero] at c0'
          have hrb : rb < w.heap.size := World.block_lt_of_cell? w _ (hC 0 (by omega))
          have hrw : w.heap.size ≤ W0.heap.size := HI.out.below.size
          have HOK := Lib.hid hok
          clear he hC hcell e0 e1 e2 e3 e4 hbe hok
          go_wp2
          refine wp_region_ordW (by kernel_rfl) (fun W => W.cell? ⟨W0.heap.size, 3, none⟩ = some (.slice ba ps.length bc) ∧ W.cell? ⟨rb, ro + i' * 5, none⟩ = some (.slice aa b.ins.length cc) ∧ W.cell? ⟨rb, ro + i' * 5 + 1, none⟩ = some (I b.term.kind) ∧ W.cell? ⟨rb, ro + i' * 5 + 2, none⟩ = some (I b.term.a) ∧ W.cell? ⟨rb, ro + i' * 5 + 3, none⟩ = some (I b.term.to) ∧ W.cell? ⟨rb, ro + i' * 5 + 4, none⟩ = some (I b.term.els))
            [(0, 0), (0, 1), (0, 2), (0, 3), (0, 4), (0, 5), (1, 6), (1, 7), (0, 8), (2, 9)] (by kernel_rfl) ?hS ?_
          case hS => intro wd hh; simp only [World.cell?, hh] at hB c0' c1' c2' c3' c4' ⊢; exact ⟨hB, c0', c1', c2', c3', c4'⟩
          intro wd hh hgd hS
          have hinv := HFI.out.ext hgd
          have HJ := Lib.hid hinv
          clear HFI hB c0' c1' c2' c3' c4' hinv hh hgd
          simp only [pickOps, List.map_cons, List.map_nil, List.getElem?_cons_zero, List.getElem?_cons_succ, Option.getD_some]
          repeat (refine wpOrd_look (v := ?_) (by rfl) ?_ (by assumption) (fun _ _ _ h => h) ?_; rotate_left; (· (intro wS hSw; (try dsimp only at hSw); go_simp; (first | done | with_reducible rfl))); simp only [Act.put, List.setIfInBounds_toArray, List.set_cons_zero, List.set_cons_succ])
          refine wpOrd_turn ?_
          go_wp2
          refine QN_keep ?_ fun hS => ?_
          · obtain ⟨s0, s1, s2, s3, s4, s5⟩ := hS
            have hg2 := alloc_grown wd (Obj.cells #[.slice aa b.ins.length cc, I b.term.kind, I b.term.a, I b.term.to, I b.term.els] 46) none
            exact ⟨gcell s0 hg2 (by simp), gcell s1 hg2 (by simp), gcell s2 hg2 (by simp), gcell s3 hg2 (by simp), gcell s4 hg2 (by simp), gcell s5 hg2 (by simp)⟩
          have hinv := HJ.out.ext (alloc_grown wd (Obj.cells #[.slice aa b.ins.length cc, I b.term.kind, I b.term.a, I b.term.to, I b.term.els] 46) none)
          have hnew := heap_new wd (Obj.cells #[.slice aa b.ins.length cc, I b.term.kind, I b.term.a, I b.term.to, I b.term.els] 46)
          have hsz3 : W0.heap.size + 1 ≤ (wd.alloc (Obj.cells #[.slice aa b.ins.length cc, I b.term.kind, I b.term.a, I b.term.to, I b.term.els] 46)).heap.size := by have := HJ.out.below.size; simp; omega
          obtain ⟨W, hW⟩ : ∃ W, W = wd.alloc (Obj.cells #[.slice aa b.ins.length cc, I b.term.kind, I b.term.a, I b.term.to, I b.term.els] 46) := ⟨_, rfl⟩
          rw [← hW] at hinv hnew hsz3 hS ⊢
          have HJ3 := Lib.hid hinv
          have HNEW := Lib.hid hnew
          have HSZ3 := Lib.hid hsz3
          clear hinv hnew hsz3 hW HJ
          refine wpOrd_turn ?_
          go_wp2_with (first
            | (at_builtin; refine wpList_appS slBlock rfl _ _ rfl bEnc_len bEnc_one (W0.heap.size + 1) (.slice ba ps.length bc) ps rfl HJ3.out.own _ (b, aa, cc) rfl (fun c hc => (cell_of_block HNEW.out c).trans (by simp [bEnc])) (by omega) (by omega) HSZ3.out ?_; intro g' cap w3 ho3 hg3 _ _; have HO3 := Lib.hid ho3; have HG3 := Lib.hid hg3; clear ho3 hg3))
          have hap : ∀ k, k < W0.heap.size + 1 → some k ≠ (Value.slice ba ps.length bc).ownBlock := fun k hk => HJ3.out.own.apart hk
          have HAP := Lib.hid hap
          clear hap
          refine QN_keep ?_ fun hS => ?_
          · obtain ⟨s0, s1, s2, s3, s4, s5⟩ := hS
            exact ⟨gcell s0 HG3.out (HAP.out W0.heap.size (by omega)), gcell s1 HG3.out (HAP.out rb (by omega)), gcell s2 HG3.out (HAP.out rb (by omega)), gcell s3 HG3.out (HAP.out rb (by omega)), gcell s4 HG3.out (HAP.out rb (by omega)), gcell s5 HG3.out (HAP.out rb (by omega))⟩
          repeat (refine wpOrd_look (v := ?_) (by rfl) ?_ (by assumption) (fun _ _ _ h => h) ?_; rotate_left; (· (intro wS hSw; (try dsimp only at hSw); go_simp; (first | done | with_reducible rfl))); simp only [Act.put, List.setIfInBounds_toArray, List.set_cons_zero, List.set_cons_succ])
          refine wpOrd_last ?_
          have hfz : w3.frozen? ⟨W0.heap.size, 3, none⟩ = false := by
            have : Row w3 W0.heap.size 24 [.string nm, I k, I 10, .slice ba ps.length bc] := grown_old HG3.out HJ3.out.box (HAP.out _ (by omega))
            exact this.frozen 3
          obtain ⟨hs1, _⟩ := hS
          go_wp2
          refine QN_normal (wpOrd_nil ?_)
          go_wp2
          go_roundg (8 - (m + 1))
          case measure => omega
          case rel => exact ⟨m + 1, i' + 3, ps ++ [(b, aa, cc)], _, by omega, by go_num, by omega, by rw [List.length_append, HPL.out]; rfl, HJ3.out.app HO3.out HG3.out, fun p hp => (List.mem_append.1 hp).elim (HPR.out p) (fun h => by obtain rfl := List.mem_singleton.1 h; exact HOK.out)⟩
        · have hcase : ((i' : Int) < (raw.length : Int) ∧ ps.length = 8) ∨ (¬ (i' : Int) < (raw.length : Int) ∧ ps.length = 0) ∨ (¬ (i' : Int) < (raw.length : Int) ∧ 1 ≤ ps.length) := by have := HPL.out; omega
          clear hc
          have hsz0 : W0.heap.size + 1 ≤ w1.heap.size := (Array.getElem?_eq_some_iff.1 HFI.out.box).1
          refine hcase.elim ?c1 fun h => h.elim ?c2 ?c3
          case' c1 =>
            clear hcase
            rintro ⟨hcz, hl8⟩
            have hm8 : ¬ ((ps.length : Nat) : Int) < 8 := by omega
            have hn1 : 1 ≤ ps.length := by omega
            have hne : (((ps.length : Nat) : Int) == 0) = false := by rw [hl8]; rfl
            clear hl8
            go_upto_region 13 with (fail)
            obtain ⟨ps2, rfl⟩ : ∃ ps2, ps2 = ps := ⟨_, rfl⟩
            obtain ⟨W2, rfl⟩ : ∃ W2, W2 = w1 := ⟨_, rfl⟩
            obtain ⟨ba2, rfl⟩ : ∃ ba2, ba2 = ba := ⟨_, rfl⟩
            obtain ⟨bc2, rfl⟩ : ∃ bc2, bc2 = bc := ⟨_, rfl⟩
            have HF2 := HFI
            have HP2 := HPR
            clear HFI HPR hne hB
          case' c3 =>
            clear hcase h
            rintro ⟨hcz, hl1⟩
            have hn1 : 1 ≤ ps.length := hl1
            have hne : (((ps.length : Nat) : Int) == 0) = false := by rw [beq_eq_false_iff_ne]; omega
            go_upto_region 13 with (fail)
            obtain ⟨ps2, rfl⟩ : ∃ ps2, ps2 = ps := ⟨_, rfl⟩
            obtain ⟨W2, rfl⟩ : ∃ W2, W2 = w1 := ⟨_, rfl⟩
            obtain ⟨ba2, rfl⟩ : ∃ ba2, ba2 = ba := ⟨_, rfl⟩
            obtain ⟨bc2, rfl⟩ : ∃ bc2, bc2 = bc := ⟨_, rfl⟩
            have HF2 := HFI
            have HP2 := HPR
            clear HFI HPR hne hB
          case' c2 =>
            clear hcase h
            rintro ⟨hcz, hl0⟩
            have hne : (((ps.length : Nat) : Int) == 0) = true := by rw [hl0]; rfl
            have hl0' : ps.length ≤ 0 := by omega
            clear hl0
            have hap0 : ∀ k, k < W0.heap.size + 1 → some k ≠ (Value.slice ba ps.length bc).ownBlock := fun k hk => HFI.out.own.apart hk
            have HAP0 := Lib.hid hap0
            clear hap0
            go_upto_region 12 with (fail)
            have hfa := HFI.out.ext (alloc_grown w1 (Obj.cells #[.slice none 0 0, .int .i64 0, .int .i64 0, .int .i64 0, .int .i64 0] 46) none)
            have HFA := Lib.hid hfa
            clear hfa
            go_upto_region 13 with (first
              | (at_builtin; refine wpList_appS slBlock rfl _ _ rfl bEnc_len bEnc_one (W0.heap.size + 1) (.slice ba ps.length bc) ps rfl HFA.out.own _ (⟨[], ⟨0, 0, 0, 0⟩⟩, none, 0) rfl (fun c hc => (cell_of_block (heap_new _ _) c).trans (by simp only [List.getElem?_toArray]; rfl)) (by omega) (by omega) (by simp; omega) ?_; intro g' cap w3 ho3 hg3 _ _; have hrow3 : Row w3 W0.heap.size 24 [.string nm, I k, I 10, .slice ba ps.length bc] := grown_old hg3 HFA.out.box (HAP0.out _ (by omega)); have hfz := hrow3.frozen 3; have hs1 := hrow3.cell 3; simp only [List.getElem?_cons_succ, List.getElem?_cons_zero] at hs1; have HO3 := Lib.hid ho3; have HG3 := Lib.hid hg3; clear ho3 hg3 hrow3))
            have HF2' := Lib.hid (HFA.out.app HO3.out HG3.out)
            obtain ⟨W2, hW2⟩ : ∃ W2, W2 = w3.setCell ⟨W0.heap.size, 3, none⟩ (.slice (some ⟨g', 0, none⟩) (ps.length + 1) cap) := ⟨_, rfl⟩
            rw [← hW2] at HF2' ⊢
            have hpl2 : ps.length + 1 = (ps ++ [((⟨[], ⟨0, 0, 0, 0⟩⟩, none, 0) : BlkP)]).length := by simp
            rw [hpl2] at HF2'
            obtain ⟨ps2, hps2⟩ : ∃ ps2, ps2 = ps ++ [((⟨[], ⟨0, 0, 0, 0⟩⟩, none, 0) : BlkP)] := ⟨_, rfl⟩
            rw [← hps2] at HF2'
            have hn1 : 1 ≤ ps2.length := by rw [hps2]; simp
            have hpr2 : ∀ p ∈ ps2, RawOk w p := fun p hp => by
              rw [hps2] at hp
              rcases List.mem_append.1 hp with hp | hp
              · exact HPR.out p hp
              · obtain rfl := List.mem_singleton.1 hp
                exact ⟨⟨none, 0, rfl, by simp, .inl rfl⟩, (show InI 0 by unfold InI; omega), (show InI 0 by unfold InI; omega), (show InI 0 by unfold InI; omega), (show InI 0 by unfold InI; omega)⟩
            have hps8' : ps2.length ≤ 8 := by rw [hps2, List.length_append]; simp only [List.length_cons, List.length_nil]; omega
            obtain ⟨ba2, hba2⟩ : ∃ ba2, ba2 = some (⟨g', 0, none⟩ : Addr) := ⟨_, rfl⟩
            rw [← hba2] at HF2'
            obtain ⟨bc2, rfl⟩ : ∃ bc2, bc2 = cap := ⟨_, rfl⟩
            have HF2 := HF2'
            have HP2 := Lib.hid hpr2
            have hps8 := hps8'
            clear hW2 hps2 hba2 hpr2 hps8' HFI HPR HFA HO3 HG3 hl0' hne hpl2 hs1 hfz hB
          all_goals
            obtain ⟨g, cap, he, hgb, hgl⟩ := World.ownsRow.form HF2.out.own (by omega)
            obtain ⟨rfl, rfl⟩ : ba2 = some ⟨g, 0, none⟩ ∧ bc2 = cap := by simpa using he
            have hB2 := cell_of_block HF2.out.box 3
            simp only [List.getElem?_toArray, List.getElem?_cons_succ, List.getElem?_cons_zero] at hB2
            clear he
            obtain ⟨n, hn⟩ : ∃ n, n = ps2.length := ⟨_, rfl⟩
            rw [← hn] at hB2 hn1 HF2
            have hn8 : n ≤ 8 := by omega
            have HN := Lib.hid hn
            clear hn
            go_wp2
            go_loopg [9] n (fun gh i wr => ∃ (q : Nat) (qs : List BlkP), gh + q = n ∧ i = I q ∧ qs.length = n ∧ FlowInv W0 nm k qs (.slice (some ⟨g, 0, none⟩) n bc2) wr ∧ ∀ i p, qs[i]? = some p → (i < q → GoodOk n wr p) ∧ (q ≤ i → RawOk w p))
            case atStart => exact ⟨0, ps2, by omega, rfl, HN.out.symm, HF2.out, fun i p hp => ⟨fun h => by omega, fun _ => HP2.out p (List.mem_of_getElem? hp)⟩⟩
            case round =>
              obtain ⟨q, qs, hgq, rfl, hql, hfq, hqq⟩ := hrel
              obtain ⟨w4, rfl⟩ : ∃ w4, w4 = wr := ⟨_, rfl⟩
              have hB4 := cell_of_block hfq.box 3
              simp only [List.getElem?_toArray, List.getElem?_cons_succ, List.getElem?_cons_zero] at hB4
              have HFQ := Lib.hid hfq
              have HQL := Lib.hid hql
              have HQQ := Lib.hid hqq
              clear hfq hql hqq hB2
              have hrw : w.heap.size ≤ W0.heap.size := HI.out.below.size
              by_cases hqn : q < n
              · have hqz : (q : Int) < (n : Int) := by omega
                have hqi : q < qs.length := by have := HQL.out; omega
                have hfq' : FlowInv W0 nm k qs (.slice (some ⟨g, 0, none⟩) qs.length bc2) w4 := by have := HFQ.out; rw [← HQL.out] at this; exact this
                obtain ⟨g2, c2, he2, hgb2, hcl⟩ := hfq'.own.cell bEnc_len hqi
                obtain rfl : g = g2 := by simpa using (congrArg (fun v => match v with | Value.slice (some a) _ _ => a.block | _ => 0) he2)
                obtain ⟨p, hp⟩ : ∃ p, p = qs[q] := ⟨_, rfl⟩
                rw [← hp] at hcl
                have d0 := (hcl 0 (by omega)).1
                have d1 := (hcl 1 (by omega)).1
                have d2 := (hcl 2 (by omega)).1
                have d3 := (hcl 3 (by omega)).1
                have d4 := (hcl 4 (by omega)).1
                simp only [bEnc, List.getElem?_cons_succ, List.getElem?_cons_zero, Nat.add_zero] at d0 d1 d2 d3 d4
                have hrk := (HQQ.out q p (by rw [hp]; exact List.getElem?_eq_getElem hqi)).2 (Nat.le_refl _)
                have hth : w4.there g (q * 5) 5 := fun j hj => by
                  obtain ⟨h1, h2⟩ := hcl j hj
                  refine ⟨?_, h2⟩
                  rw [h1]
                  have : j < (bEnc p).length := hj
                  simp [this]
                have HRK := Lib.hid hrk
                have HTH := Lib.hid hth
                clear hfq' he2 hcl hrk hth hp
                obtain ⟨⟨ins, ⟨tk, ta, tt, te⟩⟩, aa, cc⟩ := p
                simp only [] at d0 d1 d2 d3 d4
                go_wp2
                refine wp_region_ordW (by kernel_rfl) (fun W => W.cell? ⟨W0.heap.size, 3, none⟩ = some (.slice (some ⟨g, 0, none⟩) n bc2) ∧ W.cell? ⟨g, q * 5, none⟩ = some (.slice aa ins.length cc) ∧ W.cell? ⟨g, q * 5 + 1, none⟩ = some (I tk) ∧ W.cell? ⟨g, q * 5 + 2, none⟩ = some (I ta) ∧ W.cell? ⟨g, q * 5 + 3, none⟩ = some (I tt) ∧ W.cell? ⟨g, q * 5 + 4, none⟩ = some (I te))
                  [(0, 0), (0, 1), (0, 2), (0, 3), (0, 4), (0, 5), (0, 6), (0, 7), (0, 8), (0, 9), (1, 10), (0, 11), (2, 12)] (by kernel_rfl) ?hS ?_
                case hS => intro wd hh; simp only [World.cell?, hh] at hB4 d0 d1 d2 d3 d4 ⊢; exact ⟨hB4, d0, d1, d2, d3, d4⟩
                intro wd hh hgd hS
                have hinv := HFQ.out.ext hgd
                have HJ := Lib.hid hinv
                have hthd : wd.there g (q * 5) 5 := fun j hj => by have := HTH.out j hj; simp only [World.cell?, World.frozen?, hh] at this ⊢; exact this
                have HTD := Lib.hid hthd
                have hq2 : ∀ i p, qs[i]? = some p → (i < q → GoodOk n wd p) ∧ (q ≤ i → RawOk w p) := fun i p hp => ⟨fun h => ((HQQ.out i p hp).1 h).tk (TK.grown hgd (fun _ _ => NoTag.none _ _)), (HQQ.out i p hp).2⟩
                have HQ2 := Lib.hid hq2
                have hid := HI.out.ext (below_grown HJ.out.below none)
                have HID := Lib.hid hid
                clear HFQ HTH HQQ hB4 d0 d1 d2 d3 d4 hinv hh hgd hthd hq2 hid
                have hwd : Below w.heap.size w wd := HID.out.below
                have hraw := (HRK.out.below hwd).1
                have HRAW := Lib.hid hraw
                obtain ⟨_, i1, i2, i3, i4⟩ := HRK.out
                have HI1 := Lib.hid i1
                have HI2 := Lib.hid i2
                have HI3 := Lib.hid i3
                have HI4 := Lib.hid i4
                clear hwd hraw i1 i2 i3 i4
                simp only [pickOps, List.map_cons, List.map_nil, List.getElem?_cons_zero, List.getElem?_cons_succ, Option.getD_some]
                repeat (refine wpOrd_look (v := ?_) (by rfl) ?_ (by assumption) (fun _ _ _ h => h) ?_; rotate_left; (· (intro wS hSw; (try dsimp only at hSw); go_simp; (first | done | with_reducible rfl))); simp only [Act.put, List.setIfInBounds_toArray, List.set_cons_zero, List.set_cons_succ])
                refine wpOrd_turn ?_
                go_wp2_with (first
                  | (go_at_call 14; (with_reducible refine (block_any tk ta tt te (.slice aa ins.length cc) (.slice (some ⟨w.heap.size + 1 + 1 + 1, 0, none⟩) 3 3) (w.heap.size + 1 + 1 + 1) ins n wd HRAW.out HI1.out HI2.out HI3.out HI4.out (by omega) HID.out.names _ rfl).mono ?_); rintro e w5 ⟨b, ya, yc, rfl, gb, rb, hb5⟩; have HGB := Lib.hid gb; have HRB := Lib.hid rb; have HB5 := Lib.hid hb5; clear gb rb hb5))
                refine QN_keep ?_ fun hS => ?_
                · obtain ⟨s0, s1, s2, s3, s4, s5⟩ := hS
                  have hg5 := below_grown HB5.out none
                  exact ⟨gcell s0 hg5 (by simp), gcell s1 hg5 (by simp), gcell s2 hg5 (by simp), gcell s3 hg5 (by simp), gcell s4 hg5 (by simp), gcell s5 hg5 (by simp)⟩
                have hgw : g < wd.heap.size := World.block_lt_of_cell? wd _ (Option.isSome_iff_exists.1 (HTD.out 0 (by omega)).1).choose_spec
                have hth5 : w5.there g (q * 5) 5 := fun j hj => by
                  obtain ⟨h1, h2⟩ := HTD.out j hj
                  exact ⟨by rw [HB5.out.cell (p := ⟨g, q * 5 + j, none⟩) hgw]; exact h1, by rw [HB5.out.frozen (p := ⟨g, q * 5 + j, none⟩) hgw]; exact h2⟩
                have hj5 := HJ.out.ext (below_grown HB5.out none)
                have hput := FlowInv.put HQL.out hj5 hqi (b, ya, yc)
                have HPUT := Lib.hid hput
                have HT5 := Lib.hid hth5
                clear hj5 hput hth5 HTD
                repeat (refine wpOrd_look (v := ?_) (by rfl) ?_ (by assumption) (fun _ _ _ h => h) ?_; rotate_left; (· (intro wS hSw; (try dsimp only at hSw); go_simp; (first | done | with_reducible rfl))); simp only [Act.put, List.setIfInBounds_toArray, List.set_cons_zero, List.set_cons_succ])
                refine wpOrd_last ?_
                go_wp2_with (first
                  | (refine wpList_store_mid rfl 46 (.tmp 76) (.tmp 75) rfl g (q * 5) _ rfl rfl HT5.out (by kernel_rfl) (by simp [Value.oneCell']) ?_))
                refine QN_normal (wpOrd_nil ?_)
                obtain ⟨W6, hW6⟩ : ∃ W6, W6 = w5.setCells g (q * 5) [.slice ya b.ins.length yc, I b.term.kind, I b.term.a, I b.term.to, I b.term.els] := ⟨_, rfl⟩
                have hput6 : FlowInv W0 nm k (qs.set q (b, ya, yc)) (.slice (some ⟨g, 0, none⟩) n bc2) W6 ∧ TK [41, 3] w5 W6 := by rw [hW6]; exact HPUT.out
                have HP6 := Lib.hid hput6
                rw [← hW6]
                clear hW6 HPUT hput6
                go_wp2
                go_roundg (n - (q + 1))
                case measure => omega
                case rel =>
                  refine ⟨q + 1, qs.set q (b, ya, yc), by omega, by go_num, by rw [List.length_set]; exact HQL.out, HP6.out.1, fun i p hp => ?_⟩
                  by_cases hiq : i = q
                  · subst hiq
                    rw [List.getElem?_set_self hqi] at hp
                    cases hp
                    exact ⟨fun _ => ⟨HGB.out, fun W' hk => HRB.out W' (HP6.out.2.trans hk)⟩, fun h => by omega⟩
                  · rw [List.getElem?_set_ne (fun e => hiq e.symm)] at hp
                    exact ⟨fun h => ((HQ2.out i p hp).1 (by omega)).tk ((TK.grown (below_grown HB5.out none) (fun _ _ => NoTag.none _ _)).trans HP6.out.2), fun h => (HQ2.out i p hp).2 (by omega)⟩
              · have hqz : ¬ (q : Int) < (n : Int) := by omega
                have hgood : ∀ p ∈ qs, GoodOk qs.length w4 p := fun p hp => by
                  obtain ⟨i, hi, rfl⟩ := List.getElem_of_mem hp
                  have h1 := (HQQ.out i _ (List.getElem?_eq_getElem hi)).1 (by have := HQL.out; omega)
                  rw [HQL.out]
                  exact h1
                have hfo : FlowOk w4 k (⟨nm, k, 10, qs.map Prod.fst⟩, some ⟨g, 0, none⟩, bc2) := flow_ok (by have := HFQ.out; rw [← HQL.out] at this; exact this) (by have := HQL.out; omega) hgood
                have hid := HI.out.ext (below_grown HFQ.out.below none)
                have hln : (qs.map Prod.fst).length = n := by rw [List.length_map]; exact HQL.out
                obtain ⟨ua, uc, rfl⟩ := hid.own.slice
                have hu1 := cell_of_block hid.ub 1
                have hb0 := cell_of_block HFQ.out.box 0
                have hb1 := cell_of_block HFQ.out.box 1
                have hb2 := cell_of_block HFQ.out.box 2
                simp only [List.getElem?_toArray, List.getElem?_cons_succ, List.getElem?_cons_zero] at hu1 hb0 hb1 hb2
                have hia := hid.ext (alloc_grown w4 (Obj.cells #[.string nm, I k, I 10, .slice (some ⟨g, 0, none⟩) n bc2] 24) none)
                have hfa := hfo.tk (TK.grown (alloc_grown w4 (Obj.cells #[.string nm, I k, I 10, .slice (some ⟨g, 0, none⟩) n bc2] 24) none) (fun _ _ => NoTag.none _ _))
                have hsz4 : w.heap.size + 4 ≤ w4.heap.size := by have := hid.names.row.lt; omega
                have HIA := Lib.hid hia
                have HFA2 := Lib.hid hfa
                have HLN := Lib.hid hln
                have hfl3 : fs.length ≤ 3 := by have := HFL.out; omega
                clear hgood hfo hid hia hfa hln HQQ
                go_wp2_with (first
                  | (at_builtin; refine wpList_appS slFlow rfl _ _ rfl fEnc_len fEnc_one (w.heap.size + 4) (.slice ua fs.length uc) fs rfl HIA.out.own _ (⟨nm, k, 10, qs.map Prod.fst⟩, some ⟨g, 0, none⟩, bc2) rfl (fun c hc => (cell_of_block (heap_new _ _) c).trans (by simp only [List.getElem?_toArray, fEnc, FlowP.bv]; rw [HLN.out])) (by omega) (by omega) (by simp; omega) ?_; intro g' cap' w7 ho7 hg7 _ _; have hrow7 : Row w7 (w.heap.size + 1 + 1) 30 [.slice ava avl avc, .slice ua fs.length uc] := grown_old hg7 HIA.out.ub (HIA.out.own.apart (by omega)); have hfz7 := hrow7.frozen 1; have hs7 := hrow7.cell 1; simp only [List.getElem?_cons_succ, List.getElem?_cons_zero] at hs7; have HO7 := Lib.hid ho7; have HG7 := Lib.hid hg7; clear ho7 hg7 hrow7))
                go_roundg (3 - (k + 1))
                case measure => omega
                case rel =>
                  refine ⟨k + 1, fs ++ [(⟨nm, k, 10, qs.map Prod.fst⟩, some ⟨g, 0, none⟩, bc2)], _, _, by omega, by go_num, by rw [List.length_append, HFL.out]; rfl, ⟨_, _, _, rfl⟩, HIA.out.step HO7.out HG7.out (by rw [HFL.out]; exact HFA2.out)⟩
    · have hkz : ¬ (k : Int) < 3 := by omega
      obtain ⟨cs, hr2, hcs⟩ := HI.out.res
      have HR2 := Lib.hid hr2
      have HCS := Lib.hid hcs
      obtain ⟨ua, uc, rfl⟩ := HI.out.own.slice
      clear hr2 hcs
      go_wp2_with (first
        | (refine wpList_load_row rfl 30 (.tmp 3) rfl (w.heap.size + 1 + 1) rfl 30 _ (0, 0) _ HI.out.ub Try.underlying30 rfl (by kernel_rfl) ?_)
        | (refine wpList_store_row rfl 30 (.tmp 2) (.tmp 83) rfl w.heap.size _ rfl rfl 30 cs HR2.out (by kernel_rfl) (by rw [HCS.out]; rfl) (by simp [Value.oneCell']) ?_))
      refine bodyPost_ret (results_cell_row rfl _ _ w.heap.size 30 _ (0, 0) _ rfl (setRow_heap _ _ _ _ _ _ HR2.out) Try.underlying30 rfl (by kernel_rfl)) rfl ?_
      have hg2 : W0.grownBy (W0.setRow w.heap.size #[.slice ava avl avc, .slice ua fs.length uc]) (some w.heap.size) := ⟨rfl, rfl, rfl, by simp, fun i _ hi => setRow_other _ _ _ _ (fun e => hi (by rw [e]))⟩
      have hnt : ∀ t, t ≠ 30 → NoTag W0 (some w.heap.size) t := fun t h => NoTag.box t HR2.out (fun e => h e.symm)
      exact ⟨_, _, fs, rfl, by have := HFL.out; omega, (HI.out.own.tag hg2 (hnt _ (by decide))).mono (by omega), fun i p hp => (HI.out.good i p hp).tk (TK.grown hg2 (fun t ht => hnt t (by rintro rfl; simp at ht))), HI.out.below.grown hg2 HI.out.below.size (fun r e => by cases e; omega), _, _, _, rfl⟩

theorem fit_any (rv : Value) (raw : List LBlock) (w : World) (hr : RSl 5 RRawB w rv raw) : Calls Try.prog 8 #[rv] w (FitPost w) :=
  (fit2_any rv raw w hr).mono fun _ _ ⟨av, uv, fs, h1, h2, h3, h4, h5, _⟩ => ⟨av, uv, fs, h1, h2, h3, h4, h5⟩
end Go.Proofs.Ytdlcpmjhngfgkaa
