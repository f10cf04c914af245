import Derived.Test.YtdlcpmjhngfgkaaF6
import Derived.Deep.Cut
import Derived.Deep.MidRow
namespace Go.Proofs.Ytdlcpmjhngfgkaa
open Go.RowKit Go.Shelf
attribute [local go_sem] Oper.semAt_some

/-- a raw instruction: numbers that fit; its arguments are not looked at -/
def RRaw (_ : World) (C : Nat → Value) (x : LIns) : Prop :=
  C 0 = I x.kind ∧ C 1 = I x.d ∧ C 2 = I x.a ∧ C 3 = I x.b ∧ C 4 = I x.op ∧ C 5 = I x.n ∧ C 6 = .string x.name ∧ (∃ aa cc, C 7 = .slice aa x.args.length cc) ∧ InI x.kind ∧ InI x.d ∧ InI x.a ∧ InI x.b ∧ InI x.op ∧ InI x.n

/-- an instruction and where its arguments lie -/
abbrev InsP := LIns × Option Addr × Nat
abbrev InsP.av (p : InsP) : Value := .slice p.2.1 p.1.args.length p.2.2
def insEnc (p : InsP) : List Value := [I p.1.kind, I p.1.d, I p.1.a, I p.1.b, I p.1.op, I p.1.n, .string p.1.name, p.av]
theorem insEnc_len (p : InsP) : (insEnc p).length = 8 := rfl
theorem insEnc_one (p : InsP) : ∀ u ∈ insEnc p, u.oneCell' = true := by intro u hu; simp [insEnc] at hu; rcases hu with rfl | rfl | rfl | rfl | rfl | rfl | rfl | rfl <;> rfl

theorem Names.below {w w' : World} {nv : Value} {nb : Nat} (h : Names w nv nb) (hb : Below w.heap.size w w') : Names w' nv nb := ⟨h.sl, h.row.ext hb⟩

/-- the state while a block's instructions are made -/
structure BlkInv (w : World) (iv : Value) (tk ta tt te : Int) (j : Nat) (ps : List InsP) (ov : Value) (W : World) : Prop where
  below : Below w.heap.size w W
  raw : W.heap[w.heap.size]? = some (.cells #[iv, I tk, I ta, I tt, I te] 46 (0, 0))
  res : ∃ cs, W.heap[w.heap.size + 1]? = some (.cells cs 46 (0, 0)) ∧ cs.size = 5
  out : W.heap[w.heap.size + 1 + 1]? = some (.cells #[ov, I 0, I 0, I 0, I 0] 46 (0, 0))
  own : OwnS 8 41 insEnc W (w.heap.size + 3) ov ps
  args : ∀ p ∈ ps, OwnInts W (w.heap.size + 3) p.av p.1.args ∧ GoodIns p.1
  len : ps.length = j

section
variable {w : World} {iv : Value} {tk ta tt te : Int} {j : Nat} {ps : List InsP} {ov : Value} {W W' : World}
theorem OwnS.apart {α : Type} {k e : Nat} {enc : α → List Value} {base : Nat} {v : Value} {l : List α} (h : OwnS k e enc W base v l) {r : Nat} (hr : r < base) : some r ≠ v.ownBlock := fun e => by
  have := (ownsRow_base h r e.symm).1
  omega
theorem BlkInv.ext (h : BlkInv w iv tk ta tt te j ps ov W) (hg : W.grownBy W' none) : BlkInv w iv tk ta tt te j ps ov W' := by
  obtain ⟨cs, hr, hs⟩ := h.res
  exact ⟨h.below.grown hg h.below.size (fun _ e => by cases e), grown_old hg h.raw (by simp), ⟨cs, grown_old hg hr (by simp), hs⟩, grown_old hg h.out (by simp), h.own.tag hg (NoTag.none _ _), fun p hp => ⟨(h.args p hp).1.tag hg (NoTag.none _ _), (h.args p hp).2⟩, h.len⟩
theorem BlkInv.step (h : BlkInv w iv tk ta tt te j ps ov W) {v' : Value} {p : InsP} (ho : OwnS 8 41 insEnc W' (w.heap.size + 3) v' (ps ++ [p])) (hg : W.grownBy W' ov.ownBlock) (hp : OwnInts W (w.heap.size + 3) p.av p.1.args) (hgd : GoodIns p.1) :
    BlkInv w iv tk ta tt te (j + 1) (ps ++ [p]) v' (W'.setCell ⟨w.heap.size + 1 + 1, 0, none⟩ v') := by
  obtain ⟨cs, hr, hs⟩ := h.res
  have ha : ∀ k, k < w.heap.size + 3 → some k ≠ ov.ownBlock := fun k hk => h.own.apart hk
  have hc := setCell_grown W' (w.heap.size + 1 + 1) 0 v'
  have hrow : Row W' (w.heap.size + 1 + 1) 46 [ov, I 0, I 0, I 0, I 0] := grown_old hg h.out (ha _ (by omega))
  have hnt : NoTag W' (some (w.heap.size + 1 + 1)) 3 := NoTag.box 3 hrow (by decide)
  have hnt2 : NoTag W' (some (w.heap.size + 1 + 1)) 41 := NoTag.box 41 hrow (by decide)
  refine ⟨(h.below.grown hg h.below.size (fun k e => by have := (ownsRow_base h.own k e).1; omega)).setCell (by simp only []; omega) _, grown_old hc (grown_old hg h.raw (ha _ (by omega))) (by simp; omega), ⟨cs, grown_old hc (grown_old hg hr (ha _ (by omega))) (by simp), hs⟩, ?_, ho.tag hc hnt2, fun q hq => ?_, by simp [h.len]⟩
  · have := hrow.set 0 v'
    exact this
  · rcases List.mem_append.1 hq with hq | hq
    · exact ⟨((h.args q hq).1.tag hg (ownsRow_notag h.own (by decide))).tag hc hnt, (h.args q hq).2⟩
    · obtain rfl := List.mem_singleton.1 hq
      exact ⟨(hp.tag hg (ownsRow_notag h.own (by decide))).tag hc hnt, hgd⟩
end

/-- a block that may be, in a function of n blocks -/
structure GoodBlk (n : Int) (b : LBlock) : Prop where
  ins : ∀ x ∈ b.ins, GoodIns x
  len : b.ins.length ≤ 6
  kind : 1 ≤ b.term.kind ∧ b.term.kind ≤ 4
  a : 0 ≤ b.term.a ∧ b.term.a < 10
  to : 0 ≤ b.term.to ∧ b.term.to < n
  els : 0 ≤ b.term.els ∧ b.term.els < n
/-- rows of some types stay as they are -/
def TK (ts : List TypeId) (W W' : World) : Prop := ∀ (k : Nat) (cs : Array Value) (t : TypeId) (fr : Nat × Nat), t ∈ ts → W.heap[k]? = some (.cells cs t fr) → W'.heap[k]? = some (.cells cs t fr)
theorem TK.refl (ts : List TypeId) (W : World) : TK ts W W := fun _ _ _ _ _ h => h
theorem TK.trans {ts : List TypeId} {a b c : World} (h : TK ts a b) (k : TK ts b c) : TK ts a c := fun i cs t fr ht hi => k i cs t fr ht (h i cs t fr ht hi)
theorem TK.sub {ts us : List TypeId} {a b : World} (h : TK ts a b) (hs : ∀ t ∈ us, t ∈ ts) : TK us a b := fun i cs t fr ht hi => h i cs t fr (hs t ht) hi
theorem TK.grown {ts : List TypeId} {W W' : World} {row : Option Nat} (hg : W.grownBy W' row) (hn : ∀ t ∈ ts, NoTag W row t) : TK ts W W' := fun k _cs t _fr ht h => grown_old hg h (fun e => hn t ht k e.symm _ _ h)
theorem OwnS.tk {α : Type} {k e : Nat} {enc : α → List Value} {W W' : World} {base : Nat} {v : Value} {l : List α} {ts : List TypeId} (h : OwnS k e enc W base v l) (hk : TK ts W W') (he : e ∈ ts) : OwnS k e enc W' base v l :=
  ⟨h.1, h.2.imp (fun h => h) (fun ⟨g, cap, cur, h1, h2, h3, h4⟩ => ⟨g, cap, cur, h1, h2, hk g _ _ _ he h3, h4⟩)⟩
theorem OwnInts.tk {W W' : World} {base : Nat} {v : Value} {l : List Int} {ts : List TypeId} (h : OwnInts W base v l) (hk : TK ts W W') (he : 3 ∈ ts) : OwnInts W' base v l :=
  ⟨h.1, h.2.imp (fun h => h) (fun ⟨g, cap, cur, h1, h2, h3, h4⟩ => ⟨g, cap, cur, h1, h2, hk g _ _ _ he h3, h4⟩)⟩

def BlkPost (n : Int) (w : World) (e : Ending) (w' : World) : Prop := ∃ b aa cc, e = .returned (LBlock.agg b (.slice aa b.ins.length cc)) ∧ GoodBlk n b ∧ (∀ W, TK [41, 3] w' W → RSl 8 RIns W (.slice aa b.ins.length cc) b.ins) ∧ Below w.heap.size w w'

theorem blk_fin {w w1 W9 : World} {iv : Value} {tk ta tt te : Int} {j : Nat} {ps : List InsP} {oa : Option Addr} {oc : Nat} {cs : Array Value} (HI : BlkInv w iv tk ta tt te j ps (.slice oa ps.length oc) w1) (hg : w1.grownBy W9 (some (w.heap.size + 1 + 1))) (hr : W9.heap[w.heap.size + 1]? = some (.cells cs 46 (0, 0)))
    (k a t e n : Int) (hk : 1 ≤ k ∧ k ≤ 4) (ha : 0 ≤ a ∧ a < 10) (ht : 0 ≤ t ∧ t < n) (he : 0 ≤ e ∧ e < n) (hpl : ps.length ≤ 6) (X : Array Value) : BlkPost n w (.returned (.agg #[.slice oa ps.length oc, I k, I a, I t, I e])) (W9.setRow (w.heap.size + 1) X) := by
  have hg2 : W9.grownBy (W9.setRow (w.heap.size + 1) X) (some (w.heap.size + 1)) := ⟨rfl, rfl, rfl, by simp, fun i _ hi => setRow_other _ _ _ _ (fun e => hi (by rw [e]))⟩
  have hn1 : ∀ t, t ≠ 46 → NoTag w1 (some (w.heap.size + 1 + 1)) t := fun t h => NoTag.box t HI.out (fun e => h e.symm)
  have hn2 : ∀ t, t ≠ 46 → NoTag W9 (some (w.heap.size + 1)) t := fun t h => NoTag.box t hr (fun e => h e.symm)
  have hown : OwnS 8 41 insEnc (W9.setRow (w.heap.size + 1) X) w.heap.size (.slice oa ps.length oc) ps := ((HI.own.tag hg (hn1 _ (by decide))).tag hg2 (hn2 _ (by decide))).mono (by omega)
  have hargs : ∀ p ∈ ps, OwnInts (W9.setRow (w.heap.size + 1) X) w.heap.size p.av p.1.args := fun p hp => (((HI.args p hp).1.tag hg (hn1 _ (by decide))).tag hg2 (hn2 _ (by decide))).mono (by omega)
  have hlen : (ps.map Prod.fst).length = ps.length := by simp
  refine ⟨⟨ps.map Prod.fst, ⟨k, a, t, e⟩⟩, oa, oc, by simp only [hlen], ⟨fun x hx => ?_, by simpa using hpl, hk, ha, ht, he⟩, ?_, ?_⟩
  · obtain ⟨p, hp, rfl⟩ := List.mem_map.1 hx
    exact (HI.args p hp).2
  · intro W hW
    simp only [hlen]
    refine (hown.tk hW (by decide)).rsl Prod.fst insEnc_len (by omega) fun p hp => ⟨rfl, rfl, rfl, rfl, rfl, rfl, rfl, ?_⟩
    obtain ⟨g1, g2⟩ := HI.args p hp
    have hin : ∀ v, 0 ≤ v ∧ v < 10 → InI v := fun v hv => by unfold InI; omega
    exact ⟨hin _ g2.d, hin _ g2.a, hin _ g2.b, ((hargs p hp).tk hW (by decide)).reads (fun v hv => hin _ (g2.args v hv)) (by have := g2.len; omega), by have := g2.len; omega⟩
  · exact (HI.below.grown hg HI.below.size (fun k e => by cases e; omega)).grown hg2 (by have h1 := HI.below.size; have h2 := hg.size; omega) (fun k e => by cases e; omega)

set_option maxRecDepth 100000 in
set_option maxHeartbeats 4000000 in
theorem block_any (tk ta tt te : Int) (iv nv : Value) (nb : Nat) (xs : List LIns) (n : Int) (w : World) (hx : RSl 8 RRaw w iv xs) (hk : InI tk) (ha : InI ta) (ht : InI tt) (he : InI te) (hn : 1 ≤ n ∧ n ≤ 100) (hnm : Names w nv nb) (r4 : Int) (h4 : pickI tk 4 = r4) :
    Calls Try.prog 14 #[.agg #[iv, I tk, I ta, I tt, I te], I n, nv] w (BlkPost n w) := by
  obtain ⟨a0, c0, rfl, hlx⟩ := RSl.form hx
  have HX := Lib.hid hx
  have HK := Lib.hid hk
  have HA := Lib.hid ha
  have HT := Lib.hid ht
  have HE := Lib.hid he
  have HNM := Lib.hid hnm
  have H4 := Lib.hid h4
  clear hx hk ha ht he hnm h4
  go_enter Try.func14, Try.ntmps14
  go_wp2
  go_loopg [8] 6 (fun gh i wr => ∃ (j : Nat) (ps : List InsP) (ov : Value), gh + j = 6 ∧ i = I j ∧ BlkInv w (.slice a0 xs.length c0) tk ta tt te j ps ov wr)
  case atStart =>
    refine ⟨0, [], .slice none 0 0, by omega, rfl, (below_a2 _ _ _).alloc (by simp; omega) _, heap_old _ _ (heap_old _ _ (heap_new _ _)), ⟨_, heap_old _ _ (heap_new2 _ _ _), rfl⟩, ?_, OwnS.nil, by simp, rfl⟩
    have := heap_new ((w.alloc (Obj.cells #[.slice a0 xs.length c0, I tk, I ta, I tt, I te] 46)).alloc (Obj.cells #[.slice none 0 0, I 0, I 0, I 0, I 0] 46))
    simpa using this _
  case round =>
    obtain ⟨j, ps, ov, hg, rfl, hinv⟩ := hrel
    obtain ⟨w1, rfl⟩ : ∃ w1, w1 = wr := ⟨_, rfl⟩
    have HI := Lib.hid hinv
    clear hinv
    by_cases hj : j < 6 ∧ j < xs.length
    · obtain ⟨hj6, hjx⟩ := hj
      have hjz : (j : Int) < (xs.length : Int) := by omega
      have hjz6 : (j : Int) < 6 := by omega
      obtain ⟨rb, ro, rc, C, he, hC, hr⟩ := RSl.at HX.out hjx
      obtain ⟨rfl, rfl⟩ : a0 = some ⟨rb, ro, none⟩ ∧ c0 = rc := by simpa using he
      obtain ⟨e0, e1, e2, e3, e4, e5, e6, ⟨xa, xc, e7⟩, i0, i1, i2, i3, i4, i5⟩ := hr
      obtain ⟨x, hxe⟩ : ∃ x, x = xs[j] := ⟨_, rfl⟩
      rw [← hxe] at e0 e1 e2 e3 e4 e5 e6 e7 i0 i1 i2 i3 i4 i5
      have hcell : ∀ c v, c < 8 → C c = v → w1.cell? ⟨rb, ro + j * 8 + c, none⟩ = some v := fun c v hc hv => by
        have h := hC c hc
        rw [hv] at h
        exact (HI.out.below.cell (p := ⟨rb, ro + j * 8 + c, none⟩) (World.block_lt_of_cell? w _ h)).trans h
      have c0' := hcell 0 _ (by omega) e0
      have c1' := hcell 1 _ (by omega) e1
      have c2' := hcell 2 _ (by omega) e2
      have c3' := hcell 3 _ (by omega) e3
      have c4' := hcell 4 _ (by omega) e4
      have c5' := hcell 5 _ (by omega) e5
      have c6' := hcell 6 _ (by omega) e6
      have c7' := hcell 7 _ (by omega) e7
      rw [Nat.add_zero] at c0'
      obtain ⟨oa, oc, rfl⟩ := HI.out.own.slice
      have hB := cell_of_block HI.out.out 0
      have hR := cell_of_block HI.out.raw 0
      simp only [List.getElem?_toArray, List.getElem?_cons_zero] at hB hR
      have hrb : rb < w.heap.size := World.block_lt_of_cell? w _ (hC 0 (by omega))
      clear he hC hcell e0 e1 e2 e3 e4 e5 e6 e7 hxe
      go_wp2
      refine wp_region_ordW (by kernel_rfl) (fun W => W.cell? ⟨w.heap.size + 1 + 1, 0, none⟩ = some (.slice oa ps.length oc) ∧ W.cell? ⟨w.heap.size, 0, none⟩ = some (.slice (some ⟨rb, ro, none⟩) xs.length c0) ∧ W.cell? ⟨rb, ro + j * 8, none⟩ = some (I x.kind) ∧ W.cell? ⟨rb, ro + j * 8 + 1, none⟩ = some (I x.d) ∧ W.cell? ⟨rb, ro + j * 8 + 2, none⟩ = some (I x.a) ∧ W.cell? ⟨rb, ro + j * 8 + 3, none⟩ = some (I x.b) ∧ W.cell? ⟨rb, ro + j * 8 + 4, none⟩ = some (I x.op) ∧ W.cell? ⟨rb, ro + j * 8 + 5, none⟩ = some (I x.n) ∧ W.cell? ⟨rb, ro + j * 8 + 6, none⟩ = some (.string x.name) ∧ W.cell? ⟨rb, ro + j * 8 + 7, none⟩ = some (.slice xa x.args.length xc))
        [(0, 0), (0, 1), (0, 2), (0, 3), (0, 4), (0, 5), (0, 6), (0, 7), (1, 8), (1, 9), (1, 10), (0, 11), (2, 12)] (by kernel_rfl) ?hS ?_
      case hS => intro wd hh; simp only [World.cell?, hh] at hB hR c0' c1' c2' c3' c4' c5' c6' c7' ⊢; exact ⟨hB, hR, c0', c1', c2', c3', c4', c5', c6', c7'⟩
      intro wd hh hgd hS
      have hinv := HI.out.ext hgd
      have HJ := Lib.hid hinv
      clear HI hB hR c0' c1' c2' c3' c4' c5' c6' c7' hinv hh hgd
      have hnd : Names wd nv nb := HNM.out.below HJ.out.below
      have HND := Lib.hid hnd
      have HI0 := Lib.hid i0
      have HI1 := Lib.hid i1
      have HI2 := Lib.hid i2
      have HI3 := Lib.hid i3
      have HI4 := Lib.hid i4
      have HI5 := Lib.hid i5
      clear hnd i0 i1 i2 i3 i4 i5
      simp only [pickOps, List.map_cons, List.map_nil, List.getElem?_cons_zero, List.getElem?_cons_succ, Option.getD_some]
      repeat (refine wpOrd_look (v := ?_) (by rfl) ?_ (by assumption) (fun _ _ _ h => h) ?_; rotate_left; (· (intro wS hSw; (try dsimp only at hSw); go_simp; (first | done | with_reducible rfl))); simp only [Act.put, List.setIfInBounds_toArray, List.set_cons_zero, List.set_cons_succ])
      refine wpOrd_turn ?_
      go_wp2_with (first
        | (go_at_call 27; refine (lawIns_any x.kind x.d x.a x.b x.op x.n x.name (.slice xa x.args.length xc) nv nb _ HI0.out HI1.out HI2.out HI3.out HI4.out HI5.out HND.out).mono ?_; rintro e w2 ⟨z, av, rfl, gz, oz, hb2⟩; have HGZ := Lib.hid gz; have HOZ := Lib.hid oz; have HB2 := Lib.hid hb2; clear gz oz hb2))
      obtain ⟨za, zc, rfl⟩ := HOZ.out.slice
      refine QN_keep ?_ fun hS => ?_
      · obtain ⟨s0, s1, s2, s3, s4, s5, s6, s7, s8, s9⟩ := hS
        have hg2 := below_grown HB2.out none
        exact ⟨gcell s0 hg2 (by simp), gcell s1 hg2 (by simp), gcell s2 hg2 (by simp), gcell s3 hg2 (by simp), gcell s4 hg2 (by simp), gcell s5 hg2 (by simp), gcell s6 hg2 (by simp), gcell s7 hg2 (by simp), gcell s8 hg2 (by simp), gcell s9 hg2 (by simp)⟩
      have hinv := HJ.out.ext (below_grown HB2.out none)
      have HJ2 := Lib.hid hinv
      have hw2 := HJ.out.below.size
      have hz2 : w.heap.size + 3 ≤ wd.heap.size := by have := (Array.getElem?_eq_some_iff.1 HJ.out.out).1; omega
      have hoz3 := HOZ.out.mono hz2
      have HOZ3 := Lib.hid hoz3
      clear HJ hinv hoz3 HOZ
      refine wpOrd_turn ?_
      go_wp2
      refine QN_keep ?_ fun hS => ?_
      · obtain ⟨s0, s1, s2, s3, s4, s5, s6, s7, s8, s9⟩ := hS
        have hg2 := alloc_grown w2 (Obj.cells #[I z.kind, I z.d, I z.a, I z.b, I z.op, I z.n, .string z.name, .slice za z.args.length zc] 41) none
        exact ⟨gcell s0 hg2 (by simp), gcell s1 hg2 (by simp), gcell s2 hg2 (by simp), gcell s3 hg2 (by simp), gcell s4 hg2 (by simp), gcell s5 hg2 (by simp), gcell s6 hg2 (by simp), gcell s7 hg2 (by simp), gcell s8 hg2 (by simp), gcell s9 hg2 (by simp)⟩
      have hinv := HJ2.out.ext (alloc_grown w2 (Obj.cells #[I z.kind, I z.d, I z.a, I z.b, I z.op, I z.n, .string z.name, .slice za z.args.length zc] 41) none)
      have hoz4 := HOZ3.out.tag (alloc_grown w2 (Obj.cells #[I z.kind, I z.d, I z.a, I z.b, I z.op, I z.n, .string z.name, .slice za z.args.length zc] 41) none) (NoTag.none _ _)
      have hnew := heap_new w2 (Obj.cells #[I z.kind, I z.d, I z.a, I z.b, I z.op, I z.n, .string z.name, .slice za z.args.length zc] 41)
      have hsz3 : w.heap.size + 3 ≤ (w2.alloc (Obj.cells #[I z.kind, I z.d, I z.a, I z.b, I z.op, I z.n, .string z.name, .slice za z.args.length zc] 41)).heap.size := by have := HB2.out.size; simp; omega
      obtain ⟨W, hW⟩ : ∃ W, W = w2.alloc (Obj.cells #[I z.kind, I z.d, I z.a, I z.b, I z.op, I z.n, .string z.name, .slice za z.args.length zc] 41) := ⟨_, rfl⟩
      rw [← hW] at hinv hoz4 hnew hsz3 hS ⊢
      have HJ3 := Lib.hid hinv
      have HOZ4 := Lib.hid hoz4
      have HNEW := Lib.hid hnew
      have HSZ3 := Lib.hid hsz3
      have hpl : ps.length ≤ 6 := by have := HJ3.out.len; omega
      clear hinv hoz4 hnew hsz3 hW HJ2 HOZ3
      refine wpOrd_turn ?_
      go_wp2_with (first
        | (at_builtin; refine wpList_appS slIns rfl _ _ rfl insEnc_len insEnc_one (w.heap.size + 3) (.slice oa ps.length oc) ps rfl HJ3.out.own _ (z, za, zc) rfl (fun c hc => (cell_of_block HNEW.out c).trans (by simp [insEnc])) (by omega) (by omega) HSZ3.out ?_; intro g' cap w3 ho3 hg3 _ _; have HO3 := Lib.hid ho3; have HG3 := Lib.hid hg3; clear ho3 hg3))
      have hap : ∀ k, k < w.heap.size + 3 → some k ≠ (Value.slice oa ps.length oc).ownBlock := fun k hk => HJ3.out.own.apart hk
      have HAP := Lib.hid hap
      clear hap
      refine QN_keep ?_ fun hS => ?_
      · obtain ⟨s0, s1, s2, s3, s4, s5, s6, s7, s8, s9⟩ := hS
        exact ⟨gcell s0 HG3.out (HAP.out (w.heap.size + 1 + 1) (by omega)), gcell s1 HG3.out (HAP.out w.heap.size (by omega)), gcell s2 HG3.out (HAP.out rb (by omega)), gcell s3 HG3.out (HAP.out rb (by omega)), gcell s4 HG3.out (HAP.out rb (by omega)), gcell s5 HG3.out (HAP.out rb (by omega)), gcell s6 HG3.out (HAP.out rb (by omega)), gcell s7 HG3.out (HAP.out rb (by omega)), gcell s8 HG3.out (HAP.out rb (by omega)), gcell s9 HG3.out (HAP.out rb (by omega))⟩
      repeat (refine wpOrd_look (v := ?_) (by rfl) ?_ (by assumption) (fun _ _ _ h => h) ?_; rotate_left; (· (intro wS hSw; (try dsimp only at hSw); go_simp; (first | done | with_reducible rfl))); simp only [Act.put, List.setIfInBounds_toArray, List.set_cons_zero, List.set_cons_succ])
      refine wpOrd_last ?_
      have hfz : w3.frozen? ⟨w.heap.size + 1 + 1, 0, none⟩ = false := by
        have : Row w3 (w.heap.size + 1 + 1) 46 [.slice oa ps.length oc, I 0, I 0, I 0, I 0] := grown_old HG3.out HJ3.out.out (HAP.out _ (by omega))
        exact this.frozen 0
      obtain ⟨hs1, _⟩ := hS
      go_wp2
      refine QN_normal (wpOrd_nil ?_)
      go_wp2
      go_roundg (6 - (j + 1))
      case measure => omega
      case rel => exact ⟨j + 1, ps ++ [(z, za, zc)], _, by omega, by go_num, HJ3.out.step HO3.out HG3.out HOZ4.out HGZ.out⟩
    · obtain ⟨oa, oc, rfl⟩ := HI.out.own.slice
      obtain ⟨cs, hr, hcs⟩ := HI.out.res
      have r0 := cell_of_block HI.out.raw 0
      have r1 := cell_of_block HI.out.raw 1
      have r2 := cell_of_block HI.out.raw 2
      have r3 := cell_of_block HI.out.raw 3
      have r4' := cell_of_block HI.out.raw 4
      simp only [List.getElem?_toArray, List.getElem?_cons_succ, List.getElem?_cons_zero] at r0 r1 r2 r3 r4'
      have hfo : Row w1 (w.heap.size + 1 + 1) 46 [.slice oa ps.length oc, I 0, I 0, I 0, I 0] := HI.out.out
      have HFO := Lib.hid hfo
      have HR := Lib.hid hr
      have HCS := Lib.hid hcs
      have hlt := hfo.lt
      clear hfo hr hcs
      have hpl : ps.length ≤ 6 := by have := HI.out.len; omega
      have hp4 := pickI_nonneg tk 4 (by omega)
      rw [H4.out] at hp4
      have hcase : ((j : Int) < (xs.length : Int) ∧ ¬ (j : Int) < 6) ∨ ¬ (j : Int) < (xs.length : Int) := by omega
      clear hj
      rcases hcase with ⟨hjz, hj6⟩ | hjz
      all_goals
        go_upto_region 7 with (fail)
        obtain ⟨W6, hW6⟩ : ∃ W6, W6 = w1.alloc (Obj.cells #[.int .i64 tk, .int .i64 ta, .int .i64 tt, .int .i64 te] 44) := ⟨_, rfl⟩
        have hb6 : Below w1.heap.size w1 W6 := by rw [hW6]; exact below_a1 _ _
        have ht6 : Row W6 w1.heap.size 44 [I tk, I ta, I tt, I te] := by rw [hW6]; exact heap_new _ _
        rw [← hW6]
        clear hW6
        have ho6 : Row W6 (w.heap.size + 1 + 1) 46 [.slice oa ps.length oc, I 0, I 0, I 0, I 0] := (hb6.block _ hlt).trans HFO.out
        have hsz6 := ht6.lt
        have t60 := ht6.cell 0
        simp only [List.getElem?_cons_zero] at t60
        have hth : W6.there (w.heap.size + 1 + 1) 1 4 := fun c hc => ⟨by rw [ho6.cell]; rcases (by omega : c = 0 ∨ c = 1 ∨ c = 2 ∨ c = 3) with rfl | rfl | rfl | rfl <;> rfl, ho6.frozen _⟩
        have HB6 := Lib.hid hb6
        have HT6 := Lib.hid ht6
        have HO6 := Lib.hid ho6
        have HTH := Lib.hid hth
        clear hb6 ht6 ho6 hth r0 r1 r2 r3 r4'
        go_upto_region 8 with (first
            | (go_at_call 28; (with_reducible refine (pick_at tk 4 r4 _ HK.out (by omega) (by omega) H4.out).mono ?_); rintro e w' ⟨rfl, rfl⟩)
            | (refine wpList_store_mid rfl 44 (.tmp 40) (.tmp 39) rfl (w.heap.size + 1 + 1) 1 _ rfl rfl HTH.out (by kernel_rfl) (by simp [Value.oneCell']) ?_))
        simp only [Act.put]
        obtain ⟨W7, hW7⟩ : ∃ W7, W7 = W6.setCells (w.heap.size + 1 + 1) 1 [.int .i64 (1 + r4), .int .i64 0, .int .i64 0, .int .i64 0] := ⟨_, rfl⟩
        rw [← hW7]
        have ho7 : Row W7 (w.heap.size + 1 + 1) 46 [.slice oa ps.length oc, I (1 + r4), I 0, I 0, I 0] := by
          rw [hW7]
          have := (((HO6.out.set 1 (I (1 + r4))).set 2 (I 0)).set 3 (I 0)).set 4 (I 0)
          exact this
        have hg7 : w1.grownBy W7 (some (w.heap.size + 1 + 1)) := by
          rw [hW7]
          exact grown_trans (below_grown HB6.out _) (grown_trans (setCell_grown W6 (w.heap.size + 1 + 1) 1 (I (1 + r4))) (grown_trans (setCell_grown _ (w.heap.size + 1 + 1) 2 (I 0)) (grown_trans (setCell_grown _ (w.heap.size + 1 + 1) 3 (I 0)) (setCell_grown _ (w.heap.size + 1 + 1) 4 (I 0)))))
        have ht7 : Row W7 w1.heap.size 44 [I tk, I ta, I tt, I te] := by
          rw [hW7]
          have h1 := HT6.out.kept (setCell_grown W6 (w.heap.size + 1 + 1) 1 (I (1 + r4))) (by simp; omega)
          have h2 := h1.kept (setCell_grown _ (w.heap.size + 1 + 1) 2 (I 0)) (by simp; omega)
          have h3 := h2.kept (setCell_grown _ (w.heap.size + 1 + 1) 3 (I 0)) (by simp; omega)
          exact h3.kept (setCell_grown _ (w.heap.size + 1 + 1) 4 (I 0)) (by simp; omega)
        clear hW7 HB6 HT6 HO6 HTH t60
        have o1 := ho7.cell 1
        have f2 := ho7.frozen 2
        have f3 := ho7.frozen 3
        have f4 := ho7.frozen 4
        have o2 := ho7.cell 2
        have o3 := ho7.cell 3
        have o4 := ho7.cell 4
        have t1 := ht7.cell 1
        have t2 := ht7.cell 2
        have t3 := ht7.cell 3
        simp only [List.getElem?_cons_succ, List.getElem?_cons_zero] at o1 o2 o3 o4 t1 t2 t3
        have HO7 := Lib.hid ho7
        have HG7 := Lib.hid hg7
        have hT7 := ht7.lt
        clear ho7 hg7 ht7
        rcases (by omega : r4 = 0 ∨ r4 = 1 ∨ r4 = 2 ∨ r4 = 3) with rfl | rfl | rfl | rfl
        · go_upto_region 14 with (first
            | (go_at_call 28; (with_reducible refine (pick_ex ta 10 _ HA.out (by omega) (by omega)).mono ?_); rintro e w' ⟨ra, rfl, ra0, ra1, rfl⟩)
            | (go_at_call 28; (with_reducible refine (pick_ex tt n _ HT.out (by omega) (by omega)).mono ?_); rintro e w' ⟨rt, rfl, rt0, rt1, rfl⟩)
            | (go_at_call 28; (with_reducible refine (pick_ex te n _ HE.out (by omega) (by omega)).mono ?_); rintro e w' ⟨re, rfl, re0, re1, rfl⟩))
          have ho9 := HO7.out.set 3 (I rt)
          have hg9 := grown_trans HG7.out (setCell_grown W7 (w.heap.size + 1 + 1) 3 (I rt))
          obtain ⟨W9, hW9⟩ : ∃ W9, W9 = W7.setCell ⟨w.heap.size + 1 + 1, 3, none⟩ (I rt) := ⟨_, rfl⟩
          rw [← hW9] at ho9 hg9 ⊢
          clear hW9 o1 o2 o3 o4 f2 f3 f4
          have HO9 := Lib.hid ho9
          have HG9 := Lib.hid hg9
          have hr9 := (HG9.out.block (w.heap.size + 1) (by omega) (by simp)).trans HR.out
          have HR9 := Lib.hid hr9
          clear ho9 hg9 hr9
          go_wp2_with (first
            | (refine wpList_load_row rfl 46 (.tmp 7) rfl (w.heap.size + 1 + 1) rfl 46 _ (0, 0) _ HO9.out Try.underlying46 rfl (by kernel_rfl) ?_)
            | (refine wpList_store_row rfl 46 (.tmp 6) (.tmp 70) rfl (w.heap.size + 1) _ rfl rfl 46 cs HR9.out (by kernel_rfl) (by rw [HCS.out]; rfl) (by simp [Value.oneCell']) ?_))
          refine bodyPost_ret (results_cell_row rfl _ _ (w.heap.size + 1) 46 _ (0, 0) _ rfl (setRow_heap _ _ _ _ _ _ HR9.out) Try.underlying46 rfl (by kernel_rfl)) rfl ?_
          exact blk_fin HI.out HG9.out HR9.out 1 0 rt 0 n (by omega) (by omega) (by omega) (by omega) hpl _
        · go_upto_region 14 with (first
            | (go_at_call 28; (with_reducible refine (pick_ex ta 10 _ HA.out (by omega) (by omega)).mono ?_); rintro e w' ⟨ra, rfl, ra0, ra1, rfl⟩)
            | (go_at_call 28; (with_reducible refine (pick_ex tt n _ HT.out (by omega) (by omega)).mono ?_); rintro e w' ⟨rt, rfl, rt0, rt1, rfl⟩)
            | (go_at_call 28; (with_reducible refine (pick_ex te n _ HE.out (by omega) (by omega)).mono ?_); rintro e w' ⟨re, rfl, re0, re1, rfl⟩))
          have ho9 := ((HO7.out.set 2 (I ra)).set 3 (I rt)).set 4 (I re)
          have hg9 := grown_trans HG7.out (grown_trans (setCell_grown W7 (w.heap.size + 1 + 1) 2 (I ra)) (grown_trans (setCell_grown _ (w.heap.size + 1 + 1) 3 (I rt)) (setCell_grown _ (w.heap.size + 1 + 1) 4 (I re))))
          obtain ⟨W9, hW9⟩ : ∃ W9, W9 = ((W7.setCell ⟨w.heap.size + 1 + 1, 2, none⟩ (I ra)).setCell ⟨w.heap.size + 1 + 1, 3, none⟩ (I rt)).setCell ⟨w.heap.size + 1 + 1, 4, none⟩ (I re) := ⟨_, rfl⟩
          rw [← hW9] at ho9 hg9 ⊢
          clear hW9 o1 o2 o3 o4 f2 f3 f4
          have HO9 := Lib.hid ho9
          have HG9 := Lib.hid hg9
          have hr9 := (HG9.out.block (w.heap.size + 1) (by omega) (by simp)).trans HR.out
          have HR9 := Lib.hid hr9
          clear ho9 hg9 hr9
          go_wp2_with (first
            | (refine wpList_load_row rfl 46 (.tmp 7) rfl (w.heap.size + 1 + 1) rfl 46 _ (0, 0) _ HO9.out Try.underlying46 rfl (by kernel_rfl) ?_)
            | (refine wpList_store_row rfl 46 (.tmp 6) (.tmp 70) rfl (w.heap.size + 1) _ rfl rfl 46 cs HR9.out (by kernel_rfl) (by rw [HCS.out]; rfl) (by simp [Value.oneCell']) ?_))
          refine bodyPost_ret (results_cell_row rfl _ _ (w.heap.size + 1) 46 _ (0, 0) _ rfl (setRow_heap _ _ _ _ _ _ HR9.out) Try.underlying46 rfl (by kernel_rfl)) rfl ?_
          exact blk_fin HI.out HG9.out HR9.out 2 ra rt re n (by omega) (by omega) (by omega) (by omega) hpl _
        · go_upto_region 14 with (first
            | (go_at_call 28; (with_reducible refine (pick_ex ta 10 _ HA.out (by omega) (by omega)).mono ?_); rintro e w' ⟨ra, rfl, ra0, ra1, rfl⟩)
            | (go_at_call 28; (with_reducible refine (pick_ex tt n _ HT.out (by omega) (by omega)).mono ?_); rintro e w' ⟨rt, rfl, rt0, rt1, rfl⟩)
            | (go_at_call 28; (with_reducible refine (pick_ex te n _ HE.out (by omega) (by omega)).mono ?_); rintro e w' ⟨re, rfl, re0, re1, rfl⟩))
          have ho9 := HO7.out.set 2 (I ra)
          have hg9 := grown_trans HG7.out (setCell_grown W7 (w.heap.size + 1 + 1) 2 (I ra))
          obtain ⟨W9, hW9⟩ : ∃ W9, W9 = W7.setCell ⟨w.heap.size + 1 + 1, 2, none⟩ (I ra) := ⟨_, rfl⟩
          rw [← hW9] at ho9 hg9 ⊢
          clear hW9 o1 o2 o3 o4 f2 f3 f4
          have HO9 := Lib.hid ho9
          have HG9 := Lib.hid hg9
          have hr9 := (HG9.out.block (w.heap.size + 1) (by omega) (by simp)).trans HR.out
          have HR9 := Lib.hid hr9
          clear ho9 hg9 hr9
          go_wp2_with (first
            | (refine wpList_load_row rfl 46 (.tmp 7) rfl (w.heap.size + 1 + 1) rfl 46 _ (0, 0) _ HO9.out Try.underlying46 rfl (by kernel_rfl) ?_)
            | (refine wpList_store_row rfl 46 (.tmp 6) (.tmp 70) rfl (w.heap.size + 1) _ rfl rfl 46 cs HR9.out (by kernel_rfl) (by rw [HCS.out]; rfl) (by simp [Value.oneCell']) ?_))
          refine bodyPost_ret (results_cell_row rfl _ _ (w.heap.size + 1) 46 _ (0, 0) _ rfl (setRow_heap _ _ _ _ _ _ HR9.out) Try.underlying46 rfl (by kernel_rfl)) rfl ?_
          exact blk_fin HI.out HG9.out HR9.out 3 ra 0 0 n (by omega) (by omega) (by omega) (by omega) hpl _
        · go_upto_region 14 with (first
            | (go_at_call 28; (with_reducible refine (pick_ex ta 10 _ HA.out (by omega) (by omega)).mono ?_); rintro e w' ⟨ra, rfl, ra0, ra1, rfl⟩)
            | (go_at_call 28; (with_reducible refine (pick_ex tt n _ HT.out (by omega) (by omega)).mono ?_); rintro e w' ⟨rt, rfl, rt0, rt1, rfl⟩)
            | (go_at_call 28; (with_reducible refine (pick_ex te n _ HE.out (by omega) (by omega)).mono ?_); rintro e w' ⟨re, rfl, re0, re1, rfl⟩))
          have ho9 := HO7.out.set 2 (I ra)
          have hg9 := grown_trans HG7.out (setCell_grown W7 (w.heap.size + 1 + 1) 2 (I ra))
          obtain ⟨W9, hW9⟩ : ∃ W9, W9 = W7.setCell ⟨w.heap.size + 1 + 1, 2, none⟩ (I ra) := ⟨_, rfl⟩
          rw [← hW9] at ho9 hg9 ⊢
          clear hW9 o1 o2 o3 o4 f2 f3 f4
          have HO9 := Lib.hid ho9
          have HG9 := Lib.hid hg9
          have hr9 := (HG9.out.block (w.heap.size + 1) (by omega) (by simp)).trans HR.out
          have HR9 := Lib.hid hr9
          clear ho9 hg9 hr9
          go_wp2_with (first
            | (refine wpList_load_row rfl 46 (.tmp 7) rfl (w.heap.size + 1 + 1) rfl 46 _ (0, 0) _ HO9.out Try.underlying46 rfl (by kernel_rfl) ?_)
            | (refine wpList_store_row rfl 46 (.tmp 6) (.tmp 70) rfl (w.heap.size + 1) _ rfl rfl 46 cs HR9.out (by kernel_rfl) (by rw [HCS.out]; rfl) (by simp [Value.oneCell']) ?_))
          refine bodyPost_ret (results_cell_row rfl _ _ (w.heap.size + 1) 46 _ (0, 0) _ rfl (setRow_heap _ _ _ _ _ _ HR9.out) Try.underlying46 rfl (by kernel_rfl)) rfl ?_
          exact blk_fin HI.out HG9.out HR9.out 4 ra 0 0 n (by omega) (by omega) (by omega) (by omega) hpl _
end Go.Proofs.Ytdlcpmjhngfgkaa
