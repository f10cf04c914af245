import Derived.Test.YtjgbkdbkachciaaGreatDoorS7
namespace Go.Proofs.YtjgbkdbkachciaaGreatDoor
open Go.RowKit Go.Shelf
attribute [local go_sem] Oper.semAt_some

/-- expressions in a slice -/
abbrev ESl (base : Nat) (W : World) (v : Value) (l : List LE) : Prop := EArgs base W v (.mk 0 0 0 [] l)
/-- an expression in parentheses -/
def inF (k : Nat) (ts : List Tok) : Option (LE × List Tok) := match wantF [[40]] ts with
  | none => none
  | some us => match cF k 1 us with
    | none => none
    | some (e, vs) => (wantF [[41]] vs).map fun r => (e, r)

set_option maxRecDepth 100000 in
set_option maxHeartbeats 4000000 in
theorem inside_yes (k pb tb : Nat) (ts us : List Tok) (x : LE) (w : World) (h : PS w pb tb ts) (he : Ended ts) (hx : inF k ts = some (x, us)) :
    Calls Tryz.prog 202 #[.pointer (some ⟨pb, 0, none⟩)] w fun e w' => (∃ v, e = .returned v ∧ ESl w.heap.size w' v [x]) ∧ PG w pb tb us w' ∧ Ended us := by
  obtain ⟨t0, r0, rfl⟩ := he.cons
  have hpl := h.lt
  have htl := h.tlt
  unfold inF at hx
  cases hw1 : wantF [[40]] (t0 :: r0) with
  | none => rw [hw1] at hx; cases hx
  | some us0 =>
    rw [hw1] at hx
    simp only [] at hx
    obtain ⟨hn0, he0⟩ := he.want hw1
    cases hc : cF k 1 us0 with
    | none => rw [hc] at hx; cases hx
    | some p =>
      obtain ⟨e, us1⟩ := p
      rw [hc] at hx
      simp only [] at hx
      obtain ⟨r', hw, hx2⟩ := Option.map_eq_some_iff.1 hx
      clear hx
      simp only [Prod.mk.injEq] at hx2
      obtain ⟨rfl, rfl⟩ := hx2
      have HW0 := Lib.hid (fun W sb (hh : PS W pb tb (t0 :: r0)) (hs : Row W sb 9 ([[40]].map S)) => want_yes pb tb sb 1 1 [[40]] (t0 :: r0) us0 W hh hs rfl hw1 hn0 (by simp))
      have HEX := Lib.hid (fun W (hh : PS W pb tb us0) => expr_of (eOk k) pb tb us0 us1 e W hh he0 hc)
      have HWA := Lib.hid (fun W sb (hh : PS W pb tb us1) (hs : Row W sb 9 ([[41]].map S)) (hen : Ended us1) => want_yes pb tb sb 1 1 [[41]] us1 r' W hh hs rfl hw (hen.want hw).1 (by simp))
      have HWE := Lib.hid (fun (hen : Ended us1) => (hen.want hw).2)
      have HP0 := Lib.hid h
      clear he h hw1 hn0 he0 hc hw
      go_enter Tryz.func202, Tryz.ntmps202
      go_upto_region 3 with (first
        | (go_at_call 72; refine (HW0.out _ w.heap.size (HP0.out.ext (below_a1 _ _)) (heap_new _ _)).mono ?_; rintro e' w2 ⟨⟨v2, rfl⟩, hp2⟩; have HP2 := Lib.hid ((PG.start HP0.out (below_a1 w _)).trans hp2); clear hp2)
        | (go_at_call 226; refine (HEX.out w2 HP2.out.2).mono ?_; rintro e w4 ⟨⟨av, rfl, ha, hp4⟩, hen⟩; have hsz := HP2.out.1.size; have HA := Lib.hid (ha.mono (base' := w.heap.size) (by omega)); obtain ⟨aa, ac, rfl⟩ := ha.slice; have HP4 := Lib.hid (HP2.out.trans hp4); have HEN := Lib.hid hen; clear hp4 hen ha))
      obtain ⟨w5, hw5⟩ : ∃ w5, w5 = w4.alloc (.cells #[.int .i64 e.kind, .int .i64 e.op, .int .i64 e.n, .string ⟨e.name.toArray⟩, .slice aa e.args.length ac] 31) := ⟨_, rfl⟩
      have hr5 : Row w5 w4.heap.size 31 (eRow e (.slice aa e.args.length ac)) := by rw [hw5]; exact heap_new _ _
      have hp5 : PG w pb tb us1 w5 := by rw [hw5]; exact HP4.out.below (below_a1 _ _)
      have ha5 : EArgs w.heap.size w5 (.slice aa e.args.length ac) e := by rw [hw5]; exact HA.out.alloc
      have hz5 : w4.heap.size < w5.heap.size := by rw [hw5]; simp
      rw [← hw5]
      have HR5 := Lib.hid hr5
      have HP5 := Lib.hid hp5
      have HA5 := Lib.hid ha5
      have hbne : w4.heap.size ≠ pb := by have := HP4.out.1.size; omega
      clear hw5 hr5 hp5 ha5
      go_upto_region 4 with (first
        | (go_at_call 72; refine (HWA.out _ w5.heap.size (HP5.out.2.ext (below_a1 _ _)) (heap_new _ _) HEN.out).mono ?_; rintro e' w6 ⟨⟨v6, rfl⟩, hp6⟩; have HP6 := Lib.hid ((HP5.out.below (below_a1 _ _)).trans hp6); have HA6 := Lib.hid (HA5.out.alloc.pg hp6 (by omega)); have hr6 := hp6.row (heap_old _ _ HR5.out) hbne; have HR6 := Lib.hid hr6; have hz6 := hp6.1.size; rw [World.size_alloc] at hz6; clear hp6 hr6))
      have c0 := HR6.out.cell 0
      have c1 := HR6.out.cell 1
      have c2 := HR6.out.cell 2
      have c3 := HR6.out.cell 3
      have c4 := HR6.out.cell 4
      simp only [eRow, List.getElem?_cons_succ, List.getElem?_cons_zero] at c0 c1 c2 c3 c4
      have hz4 := HP4.out.1.size
      go_wp2
      obtain ⟨w7, hw7⟩ : ∃ w7, w7 = w6.alloc (.cells #[I e.kind, I e.op, I e.n, S e.name, .slice aa e.args.length ac] 31) := ⟨_, rfl⟩
      have hr7 : Row w7 w6.heap.size 31 (eRow e (.slice aa e.args.length ac)) := by rw [hw7]; exact heap_new _ _
      have hpg : PG w pb tb r' w7 := by rw [hw7]; exact HP6.out.below (below_a1 _ _)
      have hae : EArgs w.heap.size w7 (.slice aa e.args.length ac) e := by rw [hw7]; exact HA6.out.alloc
      have hav : ESl w.heap.size w7 (.slice (some ⟨w6.heap.size, 0, none⟩) 1 1) [e] := EArgs.one (x := e) rfl (by omega) hr7 hae
      rw [← hw7]
      clear hw7
      go_ret
      exact ⟨⟨_, rfl, hav⟩, hpg, HWE.out HEN.out⟩
end Go.Proofs.YtjgbkdbkachciaaGreatDoor
