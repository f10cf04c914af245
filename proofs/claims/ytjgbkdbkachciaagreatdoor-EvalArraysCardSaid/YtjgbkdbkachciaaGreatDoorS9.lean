import Derived.Test.YtjgbkdbkachciaaGreatDoorS7
namespace Go.Proofs.YtjgbkdbkachciaaGreatDoor
open Go.RowKit Go.Shelf
attribute [local go_sem] Oper.semAt_some

/-- expressions in a slice -/
abbrev ESl (base : Nat) (W : World) (v : Value) (l : List LE) : Prop := EArgs base W v (.mk 0 0 0 [] l)
/-- an expression in parentheses -/
def inF (k : Nat) (ts : List Tok) : Option (LE × List Tok) := match wantF [[40]] ts with
  | none => none
  | some us => match cF k 1 us with
    | none => none
    | some (e, vs) => (wantF [[41]] vs).map fun r => (e, r)

set_option maxRecDepth 100000 in
set_option maxHeartbeats 4000000 in
theorem inside_yes (k pb tb : Nat) (ts us : List Tok) (x : LE) (w : World) (h : PS w pb tb ts) (he : Ended ts) (hx : inF k ts = some (x, us)) :
    Calls Tryz.prog 202 #[.pointer (some ⟨pb, 0, none⟩)] w fun e w' => (∃ v, e = .returned v ∧ ESl w.heap.size w' v [x]) ∧ PG w pb tb us w' ∧ Ended us := by
  obtain ⟨t0, r0, rfl⟩ := he.cons
  have hpl := h.lt
  have htl := h.tlt
  unfold inF at hx
  cases hw1 : wantF [[40]] (t0 :: r0) with
  | none => rw [hw1] at hx; cases hx
  | some us0 =>
    rw [hw1] at hx
    simp only [] at hx
    obtain ⟨hn0, he0⟩ := he.want hw1
    cases hc : cF k 1 us0 with
    | none => rw [hc] at hx; cases hx
    | some p =>
      obtain ⟨e, us1⟩ := p
      rw [hc] at hx
      simp only [] at hx
      obtain ⟨r', hw, hx2⟩ := Option.map_eq_some_iff.1 hx
      clear hx
      simp only [Prod.mk.injEq] at hx2
      obtain ⟨rfl, rfl⟩ := hx2
      have HW0 := Lib.hid (fun W sb (hh : PS W pb tb (t0 :: r0)) (hs : Row W sb 9 ([[40]].map S)) => want_yes pb tb sb 1 1 [[40]] (t0 :: r0) us0 W hh hs rfl hw1 hn0 (by simp))
      have HEX := Lib.hid (fun W (hh : PS W pb tb us0) => expr_of (eOk k) pb tb us0 us1 e W hh he0 hc)
      have HWA := Lib.hid (fun W sb (hh : PS W pb tb us1) (hs : Row W sb 9 ([[41]].map S)) (hen : Ended us1) => want_yes pb tb sb 1 1 [[41]] us1 r' W hh hs rfl hw (hen.want hw).1 (by simp))
      have HWE := Lib.hid (fun (hen : Ended us1) => (hen.want hw).2)
      have HP0 := Lib.hid h
      clear he h hw1 hn0 he0 hc hw
      go_enter Tryz.func202, Tryz.ntmps202
      go_upto_region 3 with (first
        | (go_at_call 72; refine (HW0.out _ w.heap.size (HP0.out.ext (below_a1 _ _)) (heap_new _ _)).mono ?_; rintro e' w2 ⟨⟨v2, rfl⟩, hp2⟩; have HP2 := Lib.hid ((PG.start HP0.out (below_a1 w _)).trans hp2); clear hp2)
        | (go_at_call 226; refine (HEX.out w2 HP2.out.2).mono ?_; rintro e w4 ⟨⟨av, rfl, ha, hp4⟩, hen⟩; have hsz := HP2.out.1.size; have HA := Lib.hid (ha.mono (base' := w.heap.size) (by omega)); obtain ⟨aa, ac, rfl⟩ := ha.slice; have HP4 := Lib.hid (HP2.out.trans hp4); have HEN := Lib.hid hen; clear hp4 hen ha))
      obtain ⟨w5, hw5⟩ : ∃ w5, w5 = w4.alloc (.cells #[.int .i64 e.kind, .int .i64 e.op, .int .i64 e.n, .string ⟨e.name.toArray⟩, .slice aa e.args.length ac] 31) := ⟨_, rfl⟩
      have hr5 : Row w5 w4.heap.size 31 (eRow e (.slice aa e.args.length ac)) := by rw [hw5]; exact heap_new _ _
      have hp5 : PG w pb tb us1 w5 := by rw [hw5]; exact HP4.out.below (below_a1 _ _)
      have ha5 : EArgs w.heap.size w5 (.slice aa e.args.length ac) e := by rw [hw5]; exact HA.out.alloc
      have hz5 : w4.heap.size < w5.heap.size := by rw [hw5]; simp
      rw [← hw5]
      have HR5 := Lib.hid hr5
      have HP5 := Lib.hid hp5
      have HA5 := Lib.hid ha5
      have hbne : w4.heap.size ≠ pb := by have := HP4.out.1.size; omega
      clear hw5 hr5 hp5 ha5
      go_upto_region 4 with (first
        | (go_at_call 72; refine (HWA.out _ w5.heap.size (HP5.out.2.ext (below_a1 _ _)) (heap_new _ _) HEN.out).mono ?_; rintro e' w6 ⟨⟨v6, rfl⟩, hp6⟩; have HP6 := Lib.hid ((HP5.out.below (below_a1 _ _)).trans hp6); have HA6 := Lib.hid (HA5.out.alloc.pg hp6 (by omega)); have hr6 := hp6.row (heap_old _ _ HR5.out) hbne; have HR6 := Lib.hid hr6; have hz6 := hp6.1.size; rw [World.size_alloc] at hz6; clear hp6 hr6))
      have c0 := HR6.out.cell 0
      have c1 := HR6.out.cell 1
      have c2 := HR6.out.cell 2
      have c3 := HR6.out.cell 3
      have c4 := HR6.out.cell 4
      simp only [eRow, List.getElem?_cons_succ, List.getElem?_cons_zero] at c0 c1 c2 c3 c4
      have hz4 := HP4.out.1.size
      go_wp2
      obtain ⟨w7, hw7⟩ : ∃ w7, w7 = w6.alloc (.cells #[I e.kind, I e.op, I e.n, S e.name, .slice aa e.args.length ac] 31) := ⟨_, rfl⟩
      have hr7 : Row w7 w6.heap.size 31 (eRow e (.slice aa e.args.length ac)) := by rw [hw7]; exact heap_new _ _
      have hpg : PG w pb tb r' w7 := by rw [hw7]; exact HP6.out.below (below_a1 _ _)
      have hae : EArgs w.heap.size w7 (.slice aa e.args.length ac) e := by rw [hw7]; exact HA6.out.alloc
      have hav : ESl w.heap.size w7 (.slice (some ⟨w6.heap.size, 0, none⟩) 1 1) [e] := EArgs.one (x := e) rfl (by omega) hr7 hae
      rw [← hw7]
      clear hw7
      go_ret
      exact ⟨⟨_, rfl, hav⟩, hpg, HWE.out HEN.out⟩
end Go.Proofs.YtjgbkdbkachciaaGreatDoor

namespace Go.Proofs.YtjgbkdbkachciaaGreatDoor
open Go.RowKit Go.Shelf
attribute [local go_sem] Oper.semAt_some

abbrev sZ : Array Value := #[.int .i64 0, .string ⟨#[]⟩, .slice none 0 0, .slice none 0 0, .slice none 0 0]
abbrev wBreak : Str := [98, 114, 101, 97, 107]
abbrev wContinue : Str := [99, 111, 110, 116, 105, 110, 117, 101]
abbrev wReturn : Str := [114, 101, 116, 117, 114, 110]
abbrev wPrint : Str := [112, 114, 105, 110, 116]
abbrev wTrap : Str := [116, 114, 97, 112]
/-- what stands behind a name: a store, or a set -/
def naF (k : Nat) (nm : Str) : List Tok → Option (LS × List Tok)
  | [] => none
  | u :: r =>
    if tokIs u [40] then none
    else if tokIs u [91] then match cF k 1 r with
      | some (e, us) => match wantF [[93], [61]] us with
        | some us2 => (cF k 1 us2).map fun p => (.mk 2 nm [e, p.1] [] [], p.2)
        | none => none
      | none => none
    else match wantF [[61]] (u :: r) with
      | some us => (cF k 1 us).map fun p => (.mk 1 nm [p.1] [] [], p.2)
      | none => none
/-- a simple statement: what returns, what prints, what sets and what stores -/
def siF (k : Nat) : List Tok → Option (LS × List Tok)
  | [] => none
  | t :: r =>
    if tokIs t wBreak then none else if tokIs t wContinue then none
    else if tokIs t wReturn then (cF k 1 r).map fun p => (.mk 7 [] [p.1] [] [], p.2)
    else if tokIs t wPrint then (inF k r).map fun p => (.mk 8 [] [p.1] [] [], p.2)
    else if tokIs t wTrap then none
    else if t.kind = 1 then naF k t.text r
    else none
/-- a simple statement comes back -/
def SiRet (w : World) (pb tb : Nat) (s : LS) (us : List Tok) (e : Ending) (w' : World) : Prop := ∃ av, e = .returned (.agg #[I s.kind, S s.name, av, .slice none 0 0, .slice none 0 0]) ∧ ESl w.heap.size w' av s.args ∧ PG w pb tb us w' ∧ s.thn = [] ∧ s.els = []
theorem siret {w w4 : World} {pb tb : Nat} {us : List Tok} {s : LS} {av : Value} {cs : Array Value} (hpg : PG w pb tb us w4) (_hk : w4.heap[w.heap.size]? = some (.cells cs 54 (0, 0))) (hav : ESl (w.heap.size + 1) w4 av s.args) (ht : tb < w.heap.size) (hp : pb < w.heap.size) (h1 : s.thn = []) (h2 : s.els = []) :
    SiRet w pb tb s us (.returned (.agg #[I s.kind, S s.name, av, .slice none 0 0, .slice none 0 0])) (w4.setRow w.heap.size #[I s.kind, S s.name, av, .slice none 0 0, .slice none 0 0]) :=
  ⟨av, rfl, (hav.grown setRow_grown (fun r e => by cases e; omega)).mono (by omega), hpg.new (Nat.le_refl _) setRow_grown ht hp, h1, h2⟩

set_option maxRecDepth 100000 in
set_option maxHeartbeats 8000000 in
theorem simple_named (k pb tb : Nat) (t : Tok) (r us : List Tok) (s : LS) (w : World) (h : PS w pb tb (t :: r)) (he : Ended (t :: r)) (hk : t.kind = 1) (h1 : tokIs t wBreak = false) (h2 : tokIs t wContinue = false) (h3 : tokIs t wReturn = false) (h4 : tokIs t wPrint = false) (h5 : tokIs t wTrap = false) (hx : naF k t.text r = some (s, us)) :
    Calls Tryz.prog 204 #[.pointer (some ⟨pb, 0, none⟩)] w fun e w' => SiRet w pb tb s us e w' ∧ Ended us := by
  have hpl := h.lt
  have htl := h.tlt
  obtain ⟨w1, hw1⟩ : ∃ w1, w1 = w.alloc (.cells sZ 54) := ⟨_, rfl⟩
  have hb1 : Below w.heap.size w w1 := by rw [hw1]; exact below_a1 _ _
  have hz1 : w1.heap.size = w.heap.size + 1 := by rw [hw1]; simp
  have hwe : w.alloc (.cells sZ 54) = w1 := hw1.symm
  have hh1 := h.ext hb1
  have HW1 := Lib.hid hw1
  have HB1 := Lib.hid hb1
  have HP1 := Lib.hid (PG.start hh1 (Below.refl _ w1))
  have HBK := Lib.hid (take_no pb tb t r wBreak w1 hh1 h1)
  have HCT := Lib.hid (fun W (hh : PS W pb tb (t :: r)) => take_no pb tb t r wContinue W hh h2)
  have HRT := Lib.hid (fun W (hh : PS W pb tb (t :: r)) => take_no pb tb t r wReturn W hh h3)
  have HPR := Lib.hid (fun W (hh : PS W pb tb (t :: r)) => take_no pb tb t r wPrint W hh h4)
  have HTR := Lib.hid (fun W (hh : PS W pb tb (t :: r)) => take_no pb tb t r wTrap W hh h5)
  obtain ⟨hrne, hre⟩ := he.tail (by omega)
  have HNM := Lib.hid (fun W (hh : PS W pb tb (t :: r)) => pname_yes pb tb t r W hh hrne hk)
  obtain ⟨nm, hnm⟩ : ∃ x, x = t.text := ⟨_, rfl⟩
  rw [← hnm] at hx HNM
  obtain ⟨u, r, rfl⟩ := hre.cons
  clear h he hw1 hb1 hh1 h1 h2 h3 h4 h5 hrne hk hnm
  rw [naF] at hx
  cases hu40 : tokIs u [40]
  case true => rw [hu40] at hx; simp at hx
  rw [hu40] at hx
  simp only [Bool.false_eq_true, if_false] at hx
  have HU4 := Lib.hid (fun W (hh : PS W pb tb (u :: r)) => take_no pb tb u r [40] W hh hu40)
  clear hu40
  cases hu91 : tokIs u [91]
  · rw [hu91] at hx
    simp only [Bool.false_eq_true, if_false] at hx
    have HU9 := Lib.hid (fun W (hh : PS W pb tb (u :: r)) => take_no pb tb u r [91] W hh hu91)
    clear hu91
    cases hwt : wantF [[61]] (u :: r) with
    | none => rw [hwt] at hx; cases hx
    | some us1 =>
      rw [hwt] at hx
      simp only at hx
      obtain ⟨⟨e, us2⟩, hc, hx2⟩ := Option.map_eq_some_iff.1 hx
      clear hx
      simp only [Prod.mk.injEq] at hx2
      obtain ⟨rfl, rfl⟩ := hx2
      obtain ⟨hn2, he2⟩ := hre.want hwt
      have HWA := Lib.hid (fun W sb (hh : PS W pb tb (u :: r)) (hs : Row W sb 9 ([[61]].map S)) => want_yes pb tb sb 1 1 [[61]] (u :: r) us1 W hh hs rfl hwt hn2 (by simp))
      have HEX := Lib.hid (fun W (hh : PS W pb tb us1) => expr_of (eOk k) pb tb us1 us2 e W hh he2 hc)
      clear hre hwt hn2 he2 hc
      go_enter Tryz.func204, Tryz.ntmps204
      go_upto_region 3 with (first
        | (go_at_call 74; refine HBK.out.mono ?_; rintro e' w2 ⟨rfl, hb2⟩; have HP2 := Lib.hid (HP1.out.below hb2); clear hb2))
      go_upto_region 5 with (first
        | (go_at_call 74; refine (HCT.out w2 HP2.out.2).mono ?_; rintro e' w3 ⟨rfl, hb3⟩; have HP3 := Lib.hid (HP2.out.below hb3); clear hb3))
      go_upto_region 7 with (first
        | (go_at_call 74; refine (HRT.out w3 HP3.out.2).mono ?_; rintro e' w4 ⟨rfl, hb4⟩; have HP4 := Lib.hid (HP3.out.below hb4); clear hb4))
      go_upto_region 9 with (first
        | (go_at_call 74; refine (HPR.out w4 HP4.out.2).mono ?_; rintro e' w5 ⟨rfl, hb5⟩; have HP5 := Lib.hid (HP4.out.below hb5); clear hb5))
      go_upto_region 11 with (first
        | (go_at_call 74; refine (HTR.out w5 HP5.out.2).mono ?_; rintro e' w6 ⟨rfl, hb6⟩; have HP6 := Lib.hid (HP5.out.below hb6); clear hb6))
      go_upto_region 12 with (first
        | (go_at_call 73; refine (HNM.out w6 HP6.out.2).mono ?_; rintro e' w7 ⟨rfl, hp7⟩; have HP7 := Lib.hid (HP6.out.trans hp7); clear hp7))
      go_upto_region 14 with (first
        | (go_at_call 74; refine (HU4.out w7 HP7.out.2).mono ?_; rintro e' w8 ⟨rfl, hb8⟩; have HP8 := Lib.hid (HP7.out.below hb8); clear hb8))
      go_upto_region 18 with (first
        | (go_at_call 74; refine (HU9.out w8 HP8.out.2).mono ?_; rintro e' w9 ⟨rfl, hb9⟩; have HP9 := Lib.hid (HP8.out.below hb9); clear hb9))
      go_wp2_with (first
        | (go_at_call 72; refine (HWA.out _ w9.heap.size (HP9.out.2.ext (below_a1 _ _)) (heap_new _ _)).mono ?_; rintro e' wA ⟨⟨v6, rfl⟩, hpA⟩; have HPA := Lib.hid ((HP9.out.below (below_a1 _ _)).trans hpA); clear hpA)
        | (go_at_call 226; refine (HEX.out wA HPA.out.2).mono ?_; rintro e' wB ⟨⟨av, rfl, ha, hpB⟩, hen⟩; have hszA := HPA.out.1.size; have HA := Lib.hid (ha.mono (base' := w.heap.size + 1) (by omega)); obtain ⟨aa, ac, rfl⟩ := ha.slice; have HPB := Lib.hid (HPA.out.trans hpB); have hszB := (HPA.out.trans hpB).1.size; have HKB := Lib.hid ((HPA.out.trans hpB).zero HW1.out hpl); have HEN := Lib.hid hen; have HKC := Lib.hid (show (wB.alloc (.cells #[I e.kind, I e.op, I e.n, S e.name, .slice aa e.args.length ac] 31)).heap[w.heap.size]? = some (.cells sZ 54 (0, 0)) from heap_old _ _ HKB.out); clear hpB hen ha)
        | (refine store_first 54 (.tmp 2) (.tmp 64) rfl ?_; refine wpList_store_row rfl 54 (.tmp 2) (.tmp 64) rfl w.heap.size _ rfl rfl 54 sZ HKC.out (by kernel_rfl) (by rfl) (by simp [Value.oneCell']) ?_))
      obtain ⟨wC, hwC⟩ : ∃ wC, wC = wB.alloc (.cells #[I e.kind, I e.op, I e.n, S e.name, .slice aa e.args.length ac] 31) := ⟨_, rfl⟩
      have hkC : wC.heap[w.heap.size]? = some (.cells sZ 54 (0, 0)) := by rw [hwC]; exact HKC.out
      have hrC : Row wC wB.heap.size 31 (eRow e (.slice aa e.args.length ac)) := by rw [hwC]; exact heap_new _ _
      have hpg : PG w pb tb us2 wC := by rw [hwC]; exact (HPB.out.below (below_a1 _ _)).pre HB1.out
      have hae : EArgs (w.heap.size + 1) wC (.slice aa e.args.length ac) e := by rw [hwC]; exact HA.out.alloc
      have hav : ESl (w.heap.size + 1) wC (.slice (some ⟨wB.heap.size, 0, none⟩) 1 1) [e] := EArgs.one (x := e) rfl (by omega) hrC hae
      rw [← hwC]
      clear hwC HKC
      refine bodyPost_ret (results_cell_row rfl _ _ w.heap.size 54 _ (0, 0) _ rfl (setRow_heap _ _ _ _ _ _ hkC) Tryz.underlying54 rfl (by kernel_rfl)) rfl ?_
      exact ⟨siret (s := .mk 1 nm [e] [] []) hpg hkC hav htl hpl rfl rfl, HEN.out⟩
  · rw [hu91] at hx
    simp only [if_true] at hx
    obtain ⟨hrne, hre1⟩ := hre.tail (tokIs_kind hu91)
    have HU9 := Lib.hid (fun W (hh : PS W pb tb (u :: r)) => take_yes pb tb u r [91] W hh hu91 hrne)
    clear hu91 hrne hre
    cases hc1 : cF k 1 r with
    | none => rw [hc1] at hx; cases hx
    | some p1 =>
      obtain ⟨e, ts1⟩ := p1
      rw [hc1] at hx
      simp only at hx
      cases hwt : wantF [[93], [61]] ts1 with
      | none => rw [hwt] at hx; cases hx
      | some ts2 =>
        rw [hwt] at hx
        simp only at hx
        obtain ⟨⟨f, us2⟩, hc2, hx2⟩ := Option.map_eq_some_iff.1 hx
        clear hx
        simp only [Prod.mk.injEq] at hx2
        obtain ⟨rfl, rfl⟩ := hx2
        have HE1 := Lib.hid (fun W (hh : PS W pb tb r) => expr_of (eOk k) pb tb r ts1 e W hh hre1 hc1)
        have HEND := Lib.hid (fun (he1 : Ended ts1) => he1.want hwt)
        have HWA := Lib.hid (fun W sb (he1 : Ended ts1) (hh : PS W pb tb ts1) (hs : Row W sb 9 ([[93], [61]].map S)) => want_yes pb tb sb 2 2 [[93], [61]] ts1 ts2 W hh hs rfl hwt (he1.want hwt).1 (by simp))
        have HE2 := Lib.hid (fun W (he2 : Ended ts2) (hh : PS W pb tb ts2) => expr_of (eOk k) pb tb ts2 us2 f W hh he2 hc2)
        clear hre1 hc1 hwt hc2
        go_enter Tryz.func204, Tryz.ntmps204
        go_upto_region 3 with (first
          | (go_at_call 74; refine HBK.out.mono ?_; rintro e' w2 ⟨rfl, hb2⟩; have HP2 := Lib.hid (HP1.out.below hb2); clear hb2))
        go_upto_region 5 with (first
          | (go_at_call 74; refine (HCT.out w2 HP2.out.2).mono ?_; rintro e' w3 ⟨rfl, hb3⟩; have HP3 := Lib.hid (HP2.out.below hb3); clear hb3))
        go_upto_region 7 with (first
          | (go_at_call 74; refine (HRT.out w3 HP3.out.2).mono ?_; rintro e' w4 ⟨rfl, hb4⟩; have HP4 := Lib.hid (HP3.out.below hb4); clear hb4))
        go_upto_region 9 with (first
          | (go_at_call 74; refine (HPR.out w4 HP4.out.2).mono ?_; rintro e' w5 ⟨rfl, hb5⟩; have HP5 := Lib.hid (HP4.out.below hb5); clear hb5))
        go_upto_region 11 with (first
          | (go_at_call 74; refine (HTR.out w5 HP5.out.2).mono ?_; rintro e' w6 ⟨rfl, hb6⟩; have HP6 := Lib.hid (HP5.out.below hb6); clear hb6))
        go_upto_region 12 with (first
          | (go_at_call 73; refine (HNM.out w6 HP6.out.2).mono ?_; rintro e' w7 ⟨rfl, hp7⟩; have HP7 := Lib.hid (HP6.out.trans hp7); clear hp7))
        go_upto_region 14 with (first
          | (go_at_call 74; refine (HU4.out w7 HP7.out.2).mono ?_; rintro e' w8 ⟨rfl, hb8⟩; have HP8 := Lib.hid (HP7.out.below hb8); clear hb8))
        go_upto_region 15 with (first
          | (go_at_call 74; refine (HU9.out w8 HP8.out.2).mono ?_; rintro e' w9 ⟨rfl, hp9⟩; have HP9 := Lib.hid (HP8.out.trans hp9); clear hp9))
        go_upto_region 16 with (first
          | (go_at_call 226; refine (HE1.out w9 HP9.out.2).mono ?_; rintro e' wA ⟨⟨av, rfl, ha, hpA⟩, hen⟩; have hszA := HP9.out.1.size; have HA := Lib.hid (ha.mono (base' := w.heap.size + 1) (by omega)); obtain ⟨aa, ac, rfl⟩ := ha.slice; have HPA := Lib.hid (HP9.out.trans hpA); have HEN := Lib.hid hen; clear hpA hen ha))
        obtain ⟨hn2, he2⟩ := HEND.out HEN.out
        have HEN2 := Lib.hid he2
        obtain ⟨bb, hbb⟩ : ∃ bb, bb = wA.heap.size := ⟨_, rfl⟩
        have hszA := HPA.out.1.size
        obtain ⟨wB, hwB⟩ : ∃ wB, wB = wA.alloc (.cells #[.int .i64 e.kind, .int .i64 e.op, .int .i64 e.n, .string ⟨e.name.toArray⟩, .slice aa e.args.length ac] 31) := ⟨_, rfl⟩
        have hrB : Row wB bb 31 (eRow e (.slice aa e.args.length ac)) := by rw [hwB, hbb]; exact heap_new _ _
        have hpB : PG w1 pb tb ts1 wB := by rw [hwB]; exact HPA.out.below (below_a1 _ _)
        have haB : EArgs (w.heap.size + 1) wB (.slice aa e.args.length ac) e := by rw [hwB]; exact HA.out.alloc
        have hbp : pb < bb := by omega
        have hbw : w.heap.size < bb := by omega
        rw [← hwB, ← hbb]
        have HRB := Lib.hid hrB
        have HPB := Lib.hid hpB
        have HAB := Lib.hid haB
        clear hwB hrB hpB haB hbb HA hn2 he2
        go_upto_region 17 with (first
          | (go_at_call 72; refine (HWA.out _ wB.heap.size HEN.out (HPB.out.2.ext (below_a1 _ _)) (heap_new _ _)).mono ?_; rintro e' wC ⟨⟨v6, rfl⟩, hpC⟩; have HRC := Lib.hid (hpC.row (heap_old _ _ HRB.out) (by omega)); have HPC := Lib.hid ((HPB.out.below (below_a1 _ _)).trans hpC); have HAC := Lib.hid (HAB.out.alloc.grown hpC.1 (fun r e => by cases e; omega)); clear hpC))
        have c0 := HRC.out.cell 0
        have c1 := HRC.out.cell 1
        have c2 := HRC.out.cell 2
        have c3 := HRC.out.cell 3
        have c4 := HRC.out.cell 4
        simp only [eRow, List.getElem?_cons_succ, List.getElem?_cons_zero] at c0 c1 c2 c3 c4
        refine wp_region_ordW (by kernel_rfl) (fun X => X.cell? ⟨bb, 0, none⟩ = some (I e.kind) ∧ X.cell? ⟨bb, 1, none⟩ = some (I e.op) ∧ X.cell? ⟨bb, 2, none⟩ = some (I e.n) ∧ X.cell? ⟨bb, 3, none⟩ = some (S e.name) ∧ X.cell? ⟨bb, 4, none⟩ = some (.slice aa e.args.length ac)) [(0, 0), (0, 1), (0, 2), (1, 3), (1, 4), (0, 5), (2, 6)] (by kernel_rfl) ?hS ?_
        case hS => intro wd hh; simp only [World.cell?, hh] at c0 c1 c2 c3 c4 ⊢; exact ⟨c0, c1, c2, c3, c4⟩
        intro wd hh hgd hS
        have HRD := Lib.hid (HRC.out.kept hgd (by simp))
        have hpD : PG w1 pb tb ts2 wd := HPC.out.own hgd (fun r e => by cases e) (by omega) (by omega)
        have HPD := Lib.hid hpD
        have HAD := Lib.hid (HAC.out.grown hgd (fun r e => by cases e))
        clear c0 c1 c2 c3 c4 hh hgd hpD
        simp only [pickOps, List.map_cons, List.map_nil, List.getElem?_cons_zero, List.getElem?_cons_succ, Option.getD_some]
        repeat (refine wpOrd_look (v := ?_) (by rfl) ?_ (by assumption) (fun _ _ _ h => h) ?_; rotate_left; (· (intro wS hSw; (try dsimp only at hSw); go_simp; (first | done | with_reducible rfl))); simp only [Act.put, List.setIfInBounds_toArray, List.set_cons_zero, List.set_cons_succ])
        refine wpOrd_turn ?_
        go_wp2_with (first
          | (go_at_call 226; refine (HE2.out wd HEN2.out HPD.out.2).mono ?_; rintro e' wE ⟨⟨fv, rfl, hf, hpE⟩, hen⟩; have hszD := HPD.out.1.size; have hlD := HRD.out.lt; have HF := Lib.hid (hf.mono (base' := w.heap.size + 1) (by omega)); obtain ⟨fa, fc, rfl⟩ := hf.slice; have hrE := hpE.row HRD.out (by omega); have HRE := Lib.hid hrE; have HAE := Lib.hid (HAD.out.grown hpE.1 (fun r e => by cases e; omega)); have HPE := Lib.hid (HPD.out.trans hpE); have HEN3 := Lib.hid hen; clear hpE hen hf hrE))
        refine QN_keep ⟨HRE.out.cell 0, HRE.out.cell 1, HRE.out.cell 2, HRE.out.cell 3, HRE.out.cell 4⟩ fun hS => ?_
        refine wpOrd_turn ?_
        go_wp2
        refine QN_keep ⟨Row.cell (heap_old _ _ HRE.out) 0, Row.cell (heap_old _ _ HRE.out) 1, Row.cell (heap_old _ _ HRE.out) 2, Row.cell (heap_old _ _ HRE.out) 3, Row.cell (heap_old _ _ HRE.out) 4⟩ fun hS => ?_
        obtain ⟨bg, hbg⟩ : ∃ bg, bg = wE.heap.size := ⟨_, rfl⟩
        have hszE := HPE.out.1.size
        obtain ⟨wF, hwF⟩ : ∃ wF, wF = wE.alloc (.cells #[.int .i64 e.kind, .int .i64 e.op, .int .i64 e.n, .string ⟨e.name.toArray⟩, .slice aa e.args.length ac, .int .i64 f.kind, .int .i64 f.op, .int .i64 f.n, .string ⟨f.name.toArray⟩, .slice fa f.args.length fc] 31) := ⟨_, rfl⟩
        have hrF : Row wF bg 31 (eRow e (.slice aa e.args.length ac) ++ eRow f (.slice fa f.args.length fc)) := by rw [hwF, hbg]; exact heap_new _ _
        have hpF : PG w1 pb tb us2 wF := by rw [hwF]; exact HPE.out.below (below_a1 _ _)
        have haF : EArgs (w.heap.size + 1) wF (.slice aa e.args.length ac) e := by rw [hwF]; exact HAE.out.alloc
        have hfF : EArgs (w.heap.size + 1) wF (.slice fa f.args.length fc) f := by rw [hwF]; exact HF.out.alloc
        rw [← hwF] at hS
        rw [← hwF, ← hbg]
        have HRF := Lib.hid hrF
        have HPF := Lib.hid hpF
        have HAF := Lib.hid haF
        have HFF := Lib.hid hfF
        have HKF := Lib.hid (hpF.zero HW1.out hpl)
        clear hwF hrF hpF haF hfF
        repeat (refine wpOrd_look (v := ?_) (by rfl) ?_ (by assumption) (fun _ _ _ h => h) ?_; rotate_left; (· (intro wS hSw; (try dsimp only at hSw); go_simp; (first | done | with_reducible rfl))); simp only [Act.put, List.setIfInBounds_toArray, List.set_cons_zero, List.set_cons_succ])
        refine wpOrd_last ?_
        go_wp2_with (first
          | (refine store_first 54 (.tmp 2) (.tmp 56) rfl ?_; refine wpList_store_row rfl 54 (.tmp 2) (.tmp 56) rfl w.heap.size _ rfl rfl 54 sZ HKF.out (by kernel_rfl) (by rfl) (by simp [Value.oneCell']) ?_))
        refine QN_normal (wpOrd_nil ?_)
        go_wp2
        have hav : ESl (w.heap.size + 1) wF (.slice (some ⟨bg, 0, none⟩) 2 2) [e, f] := EArgs.two (x := e) (y := f) rfl (by omega) HRF.out HAF.out HFF.out
        rw [hbg] at hav
        refine bodyPost_ret (results_cell_row rfl _ _ w.heap.size 54 _ (0, 0) _ rfl (setRow_heap _ _ _ _ _ _ HKF.out) Tryz.underlying54 rfl (by kernel_rfl)) rfl ?_
        exact ⟨siret (s := .mk 2 nm [e, f] [] []) (HPF.out.pre HB1.out) HKF.out hav htl hpl rfl rfl, HEN3.out⟩

set_option maxRecDepth 100000 in
set_option maxHeartbeats 4000000 in
theorem simple_yes (k pb tb : Nat) (ts us : List Tok) (s : LS) (w : World) (h : PS w pb tb ts) (he : Ended ts) (hx : siF k ts = some (s, us)) :
    Calls Tryz.prog 204 #[.pointer (some ⟨pb, 0, none⟩)] w fun e w' => SiRet w pb tb s us e w' ∧ Ended us := by
  obtain ⟨t, r, rfl⟩ := he.cons
  have hpl := h.lt
  have htl := h.tlt
  obtain ⟨w1, hw1⟩ : ∃ w1, w1 = w.alloc (.cells sZ 54) := ⟨_, rfl⟩
  have hb1 : Below w.heap.size w w1 := by rw [hw1]; exact below_a1 _ _
  have hz1 : w1.heap.size = w.heap.size + 1 := by rw [hw1]; simp
  have hwe : w.alloc (.cells sZ 54) = w1 := hw1.symm
  have h1 := h.ext hb1
  have HW1 := Lib.hid hw1
  have HB1 := Lib.hid hb1
  have HP1 := Lib.hid (PG.start h1 (Below.refl _ w1))
  rw [siF] at hx
  cases hbk : tokIs t wBreak
  case true => rw [hbk] at hx; simp at hx
  cases hct : tokIs t wContinue
  case true => rw [hbk, hct] at hx; simp at hx
  rw [hbk, hct] at hx
  simp only [Bool.false_eq_true, if_false] at hx
  have HBK := Lib.hid (take_no pb tb t r wBreak w1 h1 hbk)
  have HCT := Lib.hid (fun W (hh : PS W pb tb (t :: r)) => take_no pb tb t r wContinue W hh hct)
  cases hrt : tokIs t wReturn
  · rw [hrt] at hx
    simp only [Bool.false_eq_true, if_false] at hx
    have HRT := Lib.hid (fun W (hh : PS W pb tb (t :: r)) => take_no pb tb t r wReturn W hh hrt)
    cases hpr : tokIs t wPrint
    case false =>
      rw [hpr] at hx
      simp only [Bool.false_eq_true, if_false] at hx
      cases htr : tokIs t wTrap
      · rw [htr] at hx
        simp only [Bool.false_eq_true, if_false] at hx
        by_cases hk1 : t.kind = 1
        · rw [if_pos hk1] at hx
          exact simple_named k pb tb t r us s w h he hk1 hbk hct hrt hpr htr hx
        · rw [if_neg hk1] at hx; cases hx
      · rw [htr] at hx; simp at hx
    rw [hpr] at hx
    simp only [if_true] at hx
    obtain ⟨⟨e, us1⟩, hin, hx2⟩ := Option.map_eq_some_iff.1 hx
    clear hx
    simp only [Prod.mk.injEq] at hx2
    obtain ⟨rfl, rfl⟩ := hx2
    obtain ⟨hrne, hre⟩ := he.tail (tokIs_kind hpr)
    have HPR := Lib.hid (fun W (hh : PS W pb tb (t :: r)) => take_yes pb tb t r wPrint W hh hpr hrne)
    have HIN := Lib.hid (fun W (hh : PS W pb tb r) => inside_yes k pb tb r us1 e W hh hre hin)
    clear h he h1 hb1 hw1 hbk hct hrt hpr hin hrne hre
    go_enter Tryz.func204, Tryz.ntmps204
    go_upto_region 3 with (first
      | (go_at_call 74; refine HBK.out.mono ?_; rintro e' w2 ⟨rfl, hb2⟩; have HP2 := Lib.hid (HP1.out.below hb2); clear hb2))
    go_upto_region 5 with (first
      | (go_at_call 74; refine (HCT.out w2 HP2.out.2).mono ?_; rintro e' w3 ⟨rfl, hb3⟩; have HP3 := Lib.hid (HP2.out.below hb3); clear hb3))
    go_upto_region 7 with (first
      | (go_at_call 74; refine (HRT.out w3 HP3.out.2).mono ?_; rintro e' w4 ⟨rfl, hb4⟩; have HP4 := Lib.hid (HP3.out.below hb4); clear hb4))
    go_wp2_with (first
      | (go_at_call 74; refine (HPR.out w4 HP4.out.2).mono ?_; rintro e' w5 ⟨rfl, hp5⟩; have HP5 := Lib.hid (HP4.out.trans hp5); clear hp5)
      | (go_at_call 202; refine (HIN.out w5 HP5.out.2).mono ?_; rintro e' w6 ⟨⟨av, rfl, ha⟩, hp6, hen⟩; have hsz := HP5.out.1.size; have HA := Lib.hid (ha.mono (base' := w.heap.size + 1) (by omega)); obtain ⟨aa, ac, rfl⟩ := ha.slice; have HP6 := Lib.hid (HP5.out.trans hp6); have HEN := Lib.hid hen; have HK6 := Lib.hid ((HP5.out.trans hp6).zero HW1.out hpl); clear hp6 hen ha)
      | (refine store_first 54 (.tmp 2) (.tmp 25) rfl ?_; refine wpList_store_row rfl 54 (.tmp 2) (.tmp 25) rfl w.heap.size _ rfl rfl 54 sZ HK6.out (by kernel_rfl) (by rfl) (by simp [Value.oneCell']) ?_))
    refine bodyPost_ret (results_cell_row rfl _ _ w.heap.size 54 _ (0, 0) _ rfl (setRow_heap _ _ _ _ _ _ HK6.out) Tryz.underlying54 rfl (by kernel_rfl)) rfl ?_
    exact ⟨siret (s := .mk 8 [] [e] [] []) (HP6.out.pre HB1.out) HK6.out HA.out htl hpl rfl rfl, HEN.out⟩
  · rw [hrt] at hx
    simp only [if_true] at hx
    obtain ⟨⟨e, us1⟩, hc, hx2⟩ := Option.map_eq_some_iff.1 hx
    clear hx
    simp only [Prod.mk.injEq] at hx2
    obtain ⟨rfl, rfl⟩ := hx2
    obtain ⟨hrne, hre⟩ := he.tail (tokIs_kind hrt)
    have HRT := Lib.hid (fun W (hh : PS W pb tb (t :: r)) => take_yes pb tb t r wReturn W hh hrt hrne)
    have HEX := Lib.hid (fun W (hh : PS W pb tb r) => expr_of (eOk k) pb tb r us1 e W hh hre hc)
    clear h he h1 hb1 hw1 hbk hct hrt hc hrne hre
    go_enter Tryz.func204, Tryz.ntmps204
    go_upto_region 3 with (first
      | (go_at_call 74; refine HBK.out.mono ?_; rintro e' w2 ⟨rfl, hb2⟩; have HP2 := Lib.hid (HP1.out.below hb2); clear hb2))
    go_upto_region 5 with (first
      | (go_at_call 74; refine (HCT.out w2 HP2.out.2).mono ?_; rintro e' w3 ⟨rfl, hb3⟩; have HP3 := Lib.hid (HP2.out.below hb3); clear hb3))
    go_wp2_with (first
      | (go_at_call 74; refine (HRT.out w3 HP3.out.2).mono ?_; rintro e' w4 ⟨rfl, hp4⟩; have HP4 := Lib.hid (HP3.out.trans hp4); clear hp4)
      | (go_at_call 226; refine (HEX.out w4 HP4.out.2).mono ?_; rintro e' w5 ⟨⟨av, rfl, ha, hp5⟩, hen⟩; have hsz := HP4.out.1.size; have HA := Lib.hid (ha.mono (base' := w.heap.size + 1) (by omega)); obtain ⟨aa, ac, rfl⟩ := ha.slice; have HP5 := Lib.hid (HP4.out.trans hp5); have HEN := Lib.hid hen; have hsz5 := (HP4.out.trans hp5).1.size; have HK5 := Lib.hid ((HP4.out.trans hp5).zero HW1.out hpl); have HK6 := Lib.hid (show (w5.alloc (.cells #[I e.kind, I e.op, I e.n, S e.name, .slice aa e.args.length ac] 31)).heap[w.heap.size]? = some (.cells sZ 54 (0, 0)) from heap_old _ _ HK5.out); clear hp5 hen ha)
      | (refine store_first 54 (.tmp 2) (.tmp 19) rfl ?_; refine wpList_store_row rfl 54 (.tmp 2) (.tmp 19) rfl w.heap.size _ rfl rfl 54 sZ HK6.out (by kernel_rfl) (by rfl) (by simp [Value.oneCell']) ?_))
    obtain ⟨w6, hw6⟩ : ∃ w6, w6 = w5.alloc (.cells #[I e.kind, I e.op, I e.n, S e.name, .slice aa e.args.length ac] 31) := ⟨_, rfl⟩
    have hk6 : w6.heap[w.heap.size]? = some (.cells sZ 54 (0, 0)) := by rw [hw6]; exact HK6.out
    have hr6 : Row w6 w5.heap.size 31 (eRow e (.slice aa e.args.length ac)) := by rw [hw6]; exact heap_new _ _
    have hpg : PG w pb tb us1 w6 := by rw [hw6]; exact (HP5.out.below (below_a1 _ _)).pre HB1.out
    have hae : EArgs (w.heap.size + 1) w6 (.slice aa e.args.length ac) e := by rw [hw6]; exact HA.out.alloc
    have hav : ESl (w.heap.size + 1) w6 (.slice (some ⟨w5.heap.size, 0, none⟩) 1 1) [e] := EArgs.one (x := e) rfl (by omega) hr6 hae
    rw [← hw6]
    clear hw6 HK6
    refine bodyPost_ret (results_cell_row rfl _ _ w.heap.size 54 _ (0, 0) _ rfl (setRow_heap _ _ _ _ _ _ hk6) Tryz.underlying54 rfl (by kernel_rfl)) rfl ?_
    exact ⟨siret (s := .mk 7 [] [e] [] []) hpg hk6 hav htl hpl rfl rfl, HEN.out⟩
end Go.Proofs.YtjgbkdbkachciaaGreatDoor
