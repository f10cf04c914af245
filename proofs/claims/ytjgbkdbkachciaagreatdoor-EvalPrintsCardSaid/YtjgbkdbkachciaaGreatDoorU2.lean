import Derived.Test.YtjgbkdbkachciaaGreatDoorU1
namespace Go.Proofs.YtjgbkdbkachciaaGreatDoor
open Go.RowKit Go.Shelf
attribute [local go_sem] Oper.semAt_some

set_option maxRecDepth 100000 in
set_option maxHeartbeats 2000000 in
theorem deep1_no (e : LE) (av : Value) (most : Int) (hm : 1 ≤ most ∧ most ≤ 1000) (p : Nat) (w : World) (B : Nat → Prop) (hx : EX B w av e) (hr : Row w p 3 [I most]) (ih : ∀ W, EX B W av e → Calls Tryz.prog 59 #[eV e av, I (most - 1)] W fun e' w' => e' = .returned (.bool true) ∧ Below W.heap.size W w') :
    Calls Tryz.prog 101 #[eV e av, .pointer (some ⟨p, 0, none⟩)] w fun e' w' => e' = .returned (.bool false) ∧ Below w.heap.size w w' := by
  have HI := Lib.hid (ih _ (hx.alloc (o := .cells (eB e av) 31)))
  have HB1 := Lib.hid (below_a1 w (.cells (eB e av) 31))
  have hr1 := hr.ext (below_a1 w (.cells (eB e av) 31))
  have c0 := hr1.cell 0
  simp only [List.getElem?_cons_zero] at c0
  obtain ⟨hm1, hm2⟩ := hm
  clear hx ih hr hr1
  go_enter Tryz.func101, Tryz.ntmps101
  go_wp2_with (first
    | (go_at_call 59; refine HI.out.mono ?_; rintro e' w1 ⟨rfl, hb1⟩; have HB2 := Lib.hid (HB1.out.trans (hb1.mono (by simp))); clear hb1))
  go_ret
  exact ⟨rfl, HB2.out⟩

set_option maxRecDepth 100000 in
set_option maxHeartbeats 2000000 in
theorem deep_yes : ∀ (d : Nat) (e : LE) (_ : okE d e) (most : Int) (_ : (d : Int) ≤ most ∧ most ≤ 1000) (av : Value) (w : World) (B : Nat → Prop) (_ : EX B w av e), Calls Tryz.prog 59 #[eV e av, I most] w fun e' w' => e' = .returned (.bool true) ∧ Below w.heap.size w w'
  | 0, _, h, _, _, _, _, _, _ => h.elim
  | d + 1, e, h, most, hm, av, w, B, hx => by
    obtain ⟨h1, h2⟩ := h
    obtain ⟨aa, ac, rfl⟩ := hx.slice
    have ih := deep_yes d
    have hmf : ∀ (fn : Fn) (first cap : Array Value) (w : World), (Instr.makeFunc fn first cap).run Tryz.prog w = .ok (.func fn first cap) w := fun _ _ _ _ => rfl
    obtain ⟨w1, hw1⟩ : ∃ w1, w1 = (w.alloc (.cells (eB e (.slice aa e.args.length ac)) 31)).alloc (.cells #[I most] 3) := ⟨_, rfl⟩
    have hb1 : Below w.heap.size w w1 := by rw [hw1]; exact (below_a1 w _).alloc (by simp) _
    have hR : Row w1 w.heap.size 31 (eRow e (.slice aa e.args.length ac)) := by rw [hw1]; exact heap_old _ _ (heap_new _ _)
    have hM : Row w1 (w.heap.size + 1) 3 [I most] := by rw [hw1]; exact heap_at (by simp)
    have hwe : (w.alloc (.cells #[I e.kind, I e.op, I e.n, S e.name, .slice aa e.args.length ac] 31)).alloc (.cells #[I most] 3) = w1 := hw1.symm
    have b4 := hR.cell 4
    have m0 := hM.cell 0
    simp only [eRow, List.getElem?_cons_succ, List.getElem?_cons_zero] at b4 m0
    obtain ⟨d', hd'⟩ := hx.grown (below_grown hb1 none) (fun r e => by cases e)
    have hRp : RSlB B 5 (fun W C x => RE d' B W C x ∧ Row W (w.heap.size + 1) 3 [I most]) w1 (.slice aa e.args.length ac) e.args := hd'.weak (fun _ h => h) (fun C x h => ⟨h, hM⟩)
    have hno : SaysNo 5 agg5 (fun W C x => RE d' B W C x ∧ Row W (w.heap.size + 1) 3 [I most]) w1 101 #[.pointer (some ⟨w.heap.size + 1, 0, none⟩)] e.args := ⟨enters_of Tryz.func101 (by kernel_rfl) rfl, fun x hx W' C hb hr => by
      obtain ⟨he, hex⟩ := hr.1.ev
      rw [he]
      exact deep1_no x (C 4) most (by omega) _ W' B hex hr.2 (fun W hh => ih x (h2 x hx) (most - 1) (by omega) (C 4) W B hh)⟩
    have HCT := Lib.hid (containsE_none w1 _ e.args hRp (fun W W' C x hb h => ⟨h.1.below hb, h.2.ext hb⟩) 101 _ hno)
    have HB1 := Lib.hid hb1
    have hm1 : 0 < most := by omega
    clear h1 h2 hx ih hno hRp hd' hM hR hb1 hw1 hm
    go_enter Tryz.func59, Tryz.ntmps59
    go_wp2_with (first
      | (go_at_call 100; refine HCT.out.mono ?_; rintro e' w4 ⟨rfl, hb4⟩; have HB4 := Lib.hid (HB1.out.trans (hb4.mono HB1.out.size)); clear hb4))
    go_ret
    exact ⟨rfl, HB4.out⟩

set_option maxRecDepth 100000 in
set_option maxHeartbeats 2000000 in
theorem rightExpr_yes (e : LE) (h : okE 40 e) (av : Value) (w : World) (B : Nat → Prop) (hx : EX B w av e) : Calls Tryz.prog 37 #[eV e av] w fun e' w' => e' = .returned (.bool true) ∧ Below w.heap.size w w' := by
  have hx1 := hx.alloc (o := .cells (eB e av) 31)
  have HR := Lib.hid (show Row (w.alloc (.cells (eB e av) 31)) w.heap.size 31 (eRow e av) from heap_new _ _)
  have HB1 := Lib.hid (below_a1 w (.cells (eB e av) 31))
  have HX1 := Lib.hid hx1
  have HD := Lib.hid (deep_yes 40 e h 40 (by omega) av _ B hx1)
  have HW := Lib.hid (fun W hh => well_yes 40 e h av W B hh)
  clear hx hx1 h
  go_enter Tryz.func37, Tryz.ntmps37
  go_wp2_with (first
    | (go_at_call 59; refine HD.out.mono ?_; rintro e' w1 ⟨rfl, hb1⟩; have HB2 := Lib.hid (HB1.out.trans (hb1.mono (by simp))); have HX2 := Lib.hid (HX1.out.below hb1); have hr2 := HR.out.ext hb1; have c0 := hr2.cell 0; have c1 := hr2.cell 1; have c2 := hr2.cell 2; have c3 := hr2.cell 3; have c4 := hr2.cell 4; simp only [eRow, List.getElem?_cons_succ, List.getElem?_cons_zero] at c0 c1 c2 c3 c4; clear hb1 hr2)
    | (go_at_call 60; refine (HW.out _ HX2.out).mono ?_; rintro e' w2 ⟨rfl, hb2⟩; have HB3 := Lib.hid (HB2.out.trans (hb2.mono HB2.out.size)); clear hb2))
  go_ret
  exact ⟨rfl, HB3.out⟩

set_option maxRecDepth 100000 in
set_option maxHeartbeats 2000000 in
theorem stmt1_no (e : LE) (h : okE 40 e) (av : Value) (w : World) (B : Nat → Prop) (hx : EX B w av e) :
    Calls Tryz.prog 180 #[eV e av] w fun e' w' => e' = .returned (.bool false) ∧ Below w.heap.size w w' := by
  have HI := Lib.hid (rightExpr_yes e h av _ B (hx.alloc (o := .cells (eB e av) 31)))
  have HB1 := Lib.hid (below_a1 w (.cells (eB e av) 31))
  clear hx h
  go_enter Tryz.func180, Tryz.ntmps180
  go_wp2_with (first
    | (go_at_call 37; refine HI.out.mono ?_; rintro e' w1 ⟨rfl, hb1⟩; have HB2 := Lib.hid (HB1.out.trans (hb1.mono (by simp))); clear hb1))
  go_ret
  exact ⟨rfl, HB2.out⟩

set_option maxRecDepth 100000 in
set_option maxHeartbeats 2000000 in
theorem named1_no (x : Str) (ha : Asc x) (hn : isName x = true) (w : World) :
    Calls Tryz.prog 116 #[S x] w fun e' w' => e' = .returned (.bool false) ∧ Below w.heap.size w w' := by
  have HI := Lib.hid (name_yes x ha hn w)
  clear ha hn
  go_enter Tryz.func116, Tryz.ntmps116
  go_wp2_with (first
    | (go_at_call 117; refine HI.out.mono ?_; rintro e' w1 ⟨rfl, hb1⟩; have HB2 := Lib.hid hb1; clear hb1))
  go_ret
  exact ⟨rfl, HB2.out⟩

/-- all are names -/
def Names (l : List Str) : Prop := ∀ x ∈ l, Asc x ∧ isName x = true
set_option maxRecDepth 100000 in
set_option maxHeartbeats 2000000 in
theorem named_yes (l : List Str) (h : Names l) (v : Value) (w : World) (B : Nat → Prop) (hx : RSlB B 1 RStr w v l) :
    Calls Tryz.prog 77 #[v] w fun e' w' => e' = .returned (.bool true) ∧ Below w.heap.size w w' := by
  have hno : SaysNo 1 agg1 RStr w 116 #[] l := ⟨enters_of Tryz.func116 (by kernel_rfl) rfl, fun x hx W' C hb hr => by
    have : agg1 C = S x := hr
    rw [this]
    exact named1_no x (h x hx).1 (h x hx).2 W'⟩
  have HCT := Lib.hid (containsN_none w v l hx (fun W W' C x hb h => h) 116 #[] hno)
  obtain ⟨a, c, rfl, -⟩ := hx
  clear hno h
  go_enter Tryz.func77, Tryz.ntmps77
  go_wp2_with (first
    | (go_at_call 87; refine HCT.out.mono ?_; rintro e' w1 ⟨rfl, hb1⟩; have HB2 := Lib.hid hb1; clear hb1))
  go_ret
  exact ⟨rfl, HB2.out⟩
end Go.Proofs.YtjgbkdbkachciaaGreatDoor
