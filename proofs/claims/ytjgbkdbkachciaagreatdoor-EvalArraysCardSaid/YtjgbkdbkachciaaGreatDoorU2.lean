import Derived.Test.YtjgbkdbkachciaaGreatDoorT9
namespace Go.Proofs.YtjgbkdbkachciaaGreatDoor
open Go.RowKit Go.Shelf
attribute [local go_sem] Oper.semAt_some

abbrev eB (e : LE) (av : Value) : Array Value := #[I e.kind, I e.op, I e.n, S e.name, av]
/-- what a kind of expressions has alone -/
def onlyE (e : LE) : Prop :=
  (e.kind = 1 ∧ 0 ≤ e.n ∧ e.op = 0 ∧ e.name = [] ∧ e.args.length = 0) ∨
  (e.kind = 2 ∧ (Asc e.name ∧ isName e.name = true) ∧ e.op = 0 ∧ e.n = 0 ∧ e.args.length = 0) ∨
  (e.kind = 3 ∧ (e.op = 17 ∨ e.op = 18 ∨ e.op = 19) ∧ e.n = 0 ∧ e.name = [] ∧ e.args.length = 1) ∨
  (e.kind = 4 ∧ (1 ≤ e.op ∧ e.op ≤ 16) ∧ e.n = 0 ∧ e.name = [] ∧ e.args.length = 2) ∨
  (e.kind = 5 ∧ (Asc e.name ∧ isName e.name = true) ∧ e.op = 0 ∧ e.n = 0 ∧ e.args.length ≤ 6) ∨
  (e.kind = 6 ∧ (Asc e.name ∧ isName e.name = true) ∧ e.op = 0 ∧ e.n = 0 ∧ e.args.length = 1) ∨
  (e.kind = 7 ∧ e.op = 0 ∧ e.n = 0 ∧ e.name = [] ∧ e.args.length = 0)
def okE : Nat → LE → Prop
  | 0, _ => False
  | d + 1, e => onlyE e ∧ ∀ x ∈ e.args, okE d x
theorem levelI_pos {op : Int} (h : 1 ≤ op ∧ op ≤ 16) : 0 < levelI op := by
  unfold levelI
  repeat' split
  all_goals omega
theorem only_yes (e : LE) (h : onlyE e) (a : Option Addr) (c : Nat) (w : World) :
    Calls Tryz.prog 102 #[eV e (.slice a e.args.length c)] w fun e' w' => e' = .returned (.tuple #[.agg #[I e.kind, I e.op, I e.n, S e.name, .slice none 0 0], I e.args.length, .bool true]) ∧ Below w.heap.size w w' := by
  obtain ⟨k, op, n, nm, l⟩ := e
  simp only [onlyE, LE.kind, LE.op, LE.n, LE.name, LE.args] at h
  simp only [eV, LE.kind, LE.op, LE.n, LE.name, LE.args]
  rcases h with ⟨rfl, h1, rfl, rfl, h2⟩ | ⟨rfl, h1, rfl, rfl, h2⟩ | ⟨rfl, h1, rfl, rfl, h2⟩ | ⟨rfl, h1, rfl, rfl, h2⟩ | ⟨rfl, h1, rfl, rfl, h2⟩ | ⟨rfl, h1, rfl, rfl, h2⟩ | ⟨rfl, rfl, rfl, rfl, h2⟩
  · rw [h2]; exact only_num _ _ _ _ h1 w
  · rw [h2]; exact only_var _ _ _ _ h1.1 h1.2 w
  · rw [h2]
    rcases h1 with rfl | rfl | rfl
    · exact only_one17 _ _ _ w
    · exact only_one18 _ _ _ w
    · exact only_one19 _ _ _ w
  · rw [h2]; exact only_two _ _ _ _ (levelI_pos h1) w
  · exact only_call _ _ _ h1.1 h1.2 _ _ _ h2 w
  · rw [h2]; exact only_index _ _ _ _ h1.1 h1.2 w
  · rw [h2]; exact only_read _ _ _ _ w

theorem RE.ev {d : Nat} {B : Nat → Prop} {W : World} {C : Nat → Value} {e : LE} (h : RE d B W C e) : agg5 C = eV e (C 4) ∧ EX B W (C 4) e := by
  cases d with
  | zero => exact h.elim
  | succ d =>
    obtain ⟨h0, h1, h2, h3, h4⟩ := h
    exact ⟨by simp only [agg5, eV]; rw [h0, h1, h2, h3], d, h4⟩
theorem EX.below {B : Nat → Prop} {w w' : World} {av : Value} {e : LE} (h : EX B w av e) (hb : Below w.heap.size w w') : EX B w' av e := h.grown (below_grown hb none) (fun r e => by cases e)
theorem RE.below {d : Nat} {B : Nat → Prop} {w w' : World} {C : Nat → Value} {e : LE} (hb : Below w.heap.size w w') (h : RE d B w C e) : RE d B w' C e := h.grown d (below_grown hb none) (fun r e => by cases e)

set_option maxRecDepth 100000 in
set_option maxHeartbeats 2000000 in
theorem well1_no (e : LE) (av : Value) (w : World) (B : Nat → Prop) (hx : EX B w av e) (ih : ∀ W, EX B W av e → Calls Tryz.prog 60 #[eV e av] W fun e' w' => e' = .returned (.bool true) ∧ Below W.heap.size W w') :
    Calls Tryz.prog 103 #[eV e av] w fun e' w' => e' = .returned (.bool false) ∧ Below w.heap.size w w' := by
  have HI := Lib.hid (ih _ (hx.alloc (o := .cells (eB e av) 31)))
  have HB1 := Lib.hid (below_a1 w (.cells (eB e av) 31))
  have hz : (w.alloc (.cells (eB e av) 31)).heap.size = w.heap.size + 1 := by simp
  clear hx ih
  go_enter Tryz.func103, Tryz.ntmps103
  go_wp2_with (first
    | (go_at_call 60; refine HI.out.mono ?_; rintro e' w1 ⟨rfl, hb1⟩; have HB2 := Lib.hid (HB1.out.trans (hb1.mono (by omega))); clear hb1))
  go_ret
  exact ⟨rfl, HB2.out⟩

set_option maxRecDepth 100000 in
set_option maxHeartbeats 2000000 in
theorem well_yes : ∀ (d : Nat) (e : LE) (_ : okE d e) (av : Value) (w : World) (B : Nat → Prop) (_ : EX B w av e), Calls Tryz.prog 60 #[eV e av] w fun e' w' => e' = .returned (.bool true) ∧ Below w.heap.size w w'
  | 0, _, h, _, _, _, _ => h.elim
  | d + 1, e, h, av, w, B, hx => by
    obtain ⟨h1, h2⟩ := h
    obtain ⟨aa, ac, rfl⟩ := hx.slice
    have ih := well_yes d
    have HO := Lib.hid (fun W => only_yes e h1 aa ac W)
    have HX := Lib.hid hx
    have hno : ∀ W d', RSlB B 5 (RE d' B) W (.slice aa e.args.length ac) e.args → SaysNo 5 agg5 (RE d' B) W 103 #[] e.args := fun W d' _ => ⟨enters_of Tryz.func103 (by kernel_rfl) rfl, fun x hx W' C hb hr => by
      obtain ⟨he, hex⟩ := hr.ev
      rw [he]
      exact well1_no x (C 4) W' B hex (fun W hh => ih x (h2 x hx) (C 4) W B hh)⟩
    have HNO := Lib.hid hno
    clear h1 h2 hx ih hno
    have HB0 := Lib.hid (below_a1 w (.cells (eB e (.slice aa e.args.length ac)) 31))
    have hz : (w.alloc (.cells (eB e (.slice aa e.args.length ac)) 31)).heap.size = w.heap.size + 1 := by simp
    go_enter Tryz.func60, Tryz.ntmps60
    go_upto_region 2 with (first
      | (go_at_call 102; refine (HO.out _).mono ?_; rintro e' w1 ⟨rfl, hb1⟩; have HR1 := Lib.hid (show Row w1 w.heap.size 31 (eRow e (.slice aa e.args.length ac)) from (hb1.block w.heap.size (by simp)).trans (heap_new _ _)); have HB1 := Lib.hid (HB0.out.trans (hb1.mono (by simp))); clear hb1)
      | (refine store_first 31 (.tmp 3) (.tmp 9) rfl ?_; refine wpList_store_row rfl 31 (.tmp 3) (.tmp 9) rfl w1.heap.size _ rfl rfl 31 eZ (heap_new _ _) (by kernel_rfl) (by rfl) (by simp [Value.oneCell']) ?_))
    have hzb := HB1.out.size
    have hlb := HR1.out.lt
    obtain ⟨w3, hw3⟩ : ∃ w3, w3 = (w1.alloc (.cells eZ 31)).setRow w1.heap.size #[I e.kind, I e.op, I e.n, S e.name, .slice none 0 0] := ⟨_, rfl⟩
    have hR3 : Row w3 w.heap.size 31 (eRow e (.slice aa e.args.length ac)) := by rw [hw3]; exact (setRow_other _ _ _ _ (by omega)).trans (heap_old _ _ HR1.out)
    have hX3 : Row w3 w1.heap.size 31 [I e.kind, I e.op, I e.n, S e.name, .slice none 0 0] := by rw [hw3]; exact setRow_heap _ _ _ _ _ _ (heap_new _ _)
    have HB3 := Lib.hid (show Below w.heap.size w w3 by rw [hw3]; exact (HB1.out.alloc hzb _).grown setRow_grown (by simp; omega) (fun r e => by cases e; omega))
    rw [← hw3]
    have b1 := hR3.cell 1
    have b2 := hR3.cell 2
    have b3 := hR3.cell 3
    have b4 := hR3.cell 4
    have x1 := hX3.cell 1
    have x2 := hX3.cell 2
    have x3 := hX3.cell 3
    simp only [eRow, List.getElem?_cons_succ, List.getElem?_cons_zero] at b1 b2 b3 b4 x1 x2 x3
    obtain ⟨d', hd'⟩ := HX.out.grown (below_grown HB3.out none) (fun r e => by cases e)
    have HCT := Lib.hid (containsE_none w3 _ e.args hd' (fun W W' C x hb h => h.below hb) 103 #[] (HNO.out w3 d' hd'))
    clear hw3 hR3 hX3 hd'
    go_wp2_with (first
      | (go_at_call 100; refine HCT.out.mono ?_; rintro e' w4 ⟨rfl, hb4⟩; have HB4 := Lib.hid (HB3.out.trans (hb4.mono HB3.out.size)); clear hb4))
    go_ret
    exact ⟨rfl, HB4.out⟩
end Go.Proofs.YtjgbkdbkachciaaGreatDoor

namespace Go.Proofs.YtjgbkdbkachciaaGreatDoor
open Go.RowKit Go.Shelf
attribute [local go_sem] Oper.semAt_some

set_option maxRecDepth 100000 in
set_option maxHeartbeats 2000000 in
theorem deep1_no (e : LE) (av : Value) (most : Int) (hm : 1 ≤ most ∧ most ≤ 1000) (p : Nat) (w : World) (B : Nat → Prop) (hx : EX B w av e) (hr : Row w p 3 [I most]) (ih : ∀ W, EX B W av e → Calls Tryz.prog 59 #[eV e av, I (most - 1)] W fun e' w' => e' = .returned (.bool true) ∧ Below W.heap.size W w') :
    Calls Tryz.prog 101 #[eV e av, .pointer (some ⟨p, 0, none⟩)] w fun e' w' => e' = .returned (.bool false) ∧ Below w.heap.size w w' := by
  have HI := Lib.hid (ih _ (hx.alloc (o := .cells (eB e av) 31)))
  have HB1 := Lib.hid (below_a1 w (.cells (eB e av) 31))
  have hr1 := hr.ext (below_a1 w (.cells (eB e av) 31))
  have c0 := hr1.cell 0
  simp only [List.getElem?_cons_zero] at c0
  obtain ⟨hm1, hm2⟩ := hm
  clear hx ih hr hr1
  go_enter Tryz.func101, Tryz.ntmps101
  go_wp2_with (first
    | (go_at_call 59; refine HI.out.mono ?_; rintro e' w1 ⟨rfl, hb1⟩; have HB2 := Lib.hid (HB1.out.trans (hb1.mono (by simp))); clear hb1))
  go_ret
  exact ⟨rfl, HB2.out⟩

set_option maxRecDepth 100000 in
set_option maxHeartbeats 2000000 in
theorem deep_yes : ∀ (d : Nat) (e : LE) (_ : okE d e) (most : Int) (_ : (d : Int) ≤ most ∧ most ≤ 1000) (av : Value) (w : World) (B : Nat → Prop) (_ : EX B w av e), Calls Tryz.prog 59 #[eV e av, I most] w fun e' w' => e' = .returned (.bool true) ∧ Below w.heap.size w w'
  | 0, _, h, _, _, _, _, _, _ => h.elim
  | d + 1, e, h, most, hm, av, w, B, hx => by
    obtain ⟨h1, h2⟩ := h
    obtain ⟨aa, ac, rfl⟩ := hx.slice
    have ih := deep_yes d
    have hmf : ∀ (fn : Fn) (first cap : Array Value) (w : World), (Instr.makeFunc fn first cap).run Tryz.prog w = .ok (.func fn first cap) w := fun _ _ _ _ => rfl
    obtain ⟨w1, hw1⟩ : ∃ w1, w1 = (w.alloc (.cells (eB e (.slice aa e.args.length ac)) 31)).alloc (.cells #[I most] 3) := ⟨_, rfl⟩
    have hb1 : Below w.heap.size w w1 := by rw [hw1]; exact (below_a1 w _).alloc (by simp) _
    have hR : Row w1 w.heap.size 31 (eRow e (.slice aa e.args.length ac)) := by rw [hw1]; exact heap_old _ _ (heap_new _ _)
    have hM : Row w1 (w.heap.size + 1) 3 [I most] := by rw [hw1]; exact heap_at (by simp)
    have hwe : (w.alloc (.cells #[I e.kind, I e.op, I e.n, S e.name, .slice aa e.args.length ac] 31)).alloc (.cells #[I most] 3) = w1 := hw1.symm
    have b4 := hR.cell 4
    have m0 := hM.cell 0
    simp only [eRow, List.getElem?_cons_succ, List.getElem?_cons_zero] at b4 m0
    obtain ⟨d', hd'⟩ := hx.grown (below_grown hb1 none) (fun r e => by cases e)
    have hRp : RSlB B 5 (fun W C x => RE d' B W C x ∧ Row W (w.heap.size + 1) 3 [I most]) w1 (.slice aa e.args.length ac) e.args := hd'.weak (fun _ h => h) (fun C x h => ⟨h, hM⟩)
    have hno : SaysNo 5 agg5 (fun W C x => RE d' B W C x ∧ Row W (w.heap.size + 1) 3 [I most]) w1 101 #[.pointer (some ⟨w.heap.size + 1, 0, none⟩)] e.args := ⟨enters_of Tryz.func101 (by kernel_rfl) rfl, fun x hx W' C hb hr => by
      obtain ⟨he, hex⟩ := hr.1.ev
      rw [he]
      exact deep1_no x (C 4) most (by omega) _ W' B hex hr.2 (fun W hh => ih x (h2 x hx) (most - 1) (by omega) (C 4) W B hh)⟩
    have HCT := Lib.hid (containsE_none w1 _ e.args hRp (fun W W' C x hb h => ⟨h.1.below hb, h.2.ext hb⟩) 101 _ hno)
    have HB1 := Lib.hid hb1
    have hm1 : 0 < most := by omega
    clear h1 h2 hx ih hno hRp hd' hM hR hb1 hw1 hm
    go_enter Tryz.func59, Tryz.ntmps59
    go_wp2_with (first
      | (go_at_call 100; refine HCT.out.mono ?_; rintro e' w4 ⟨rfl, hb4⟩; have HB4 := Lib.hid (HB1.out.trans (hb4.mono HB1.out.size)); clear hb4))
    go_ret
    exact ⟨rfl, HB4.out⟩

set_option maxRecDepth 100000 in
set_option maxHeartbeats 2000000 in
theorem rightExpr_yes (e : LE) (h : okE 40 e) (av : Value) (w : World) (B : Nat → Prop) (hx : EX B w av e) : Calls Tryz.prog 37 #[eV e av] w fun e' w' => e' = .returned (.bool true) ∧ Below w.heap.size w w' := by
  have hx1 := hx.alloc (o := .cells (eB e av) 31)
  have HR := Lib.hid (show Row (w.alloc (.cells (eB e av) 31)) w.heap.size 31 (eRow e av) from heap_new _ _)
  have HB1 := Lib.hid (below_a1 w (.cells (eB e av) 31))
  have HX1 := Lib.hid hx1
  have HD := Lib.hid (deep_yes 40 e h 40 (by omega) av _ B hx1)
  have HW := Lib.hid (fun W hh => well_yes 40 e h av W B hh)
  clear hx hx1 h
  go_enter Tryz.func37, Tryz.ntmps37
  go_wp2_with (first
    | (go_at_call 59; refine HD.out.mono ?_; rintro e' w1 ⟨rfl, hb1⟩; have HB2 := Lib.hid (HB1.out.trans (hb1.mono (by simp))); have HX2 := Lib.hid (HX1.out.below hb1); have hr2 := HR.out.ext hb1; have c0 := hr2.cell 0; have c1 := hr2.cell 1; have c2 := hr2.cell 2; have c3 := hr2.cell 3; have c4 := hr2.cell 4; simp only [eRow, List.getElem?_cons_succ, List.getElem?_cons_zero] at c0 c1 c2 c3 c4; clear hb1 hr2)
    | (go_at_call 60; refine (HW.out _ HX2.out).mono ?_; rintro e' w2 ⟨rfl, hb2⟩; have HB3 := Lib.hid (HB2.out.trans (hb2.mono HB2.out.size)); clear hb2))
  go_ret
  exact ⟨rfl, HB3.out⟩

set_option maxRecDepth 100000 in
set_option maxHeartbeats 2000000 in
theorem stmt1_no (e : LE) (h : okE 40 e) (av : Value) (w : World) (B : Nat → Prop) (hx : EX B w av e) :
    Calls Tryz.prog 180 #[eV e av] w fun e' w' => e' = .returned (.bool false) ∧ Below w.heap.size w w' := by
  have HI := Lib.hid (rightExpr_yes e h av _ B (hx.alloc (o := .cells (eB e av) 31)))
  have HB1 := Lib.hid (below_a1 w (.cells (eB e av) 31))
  clear hx h
  go_enter Tryz.func180, Tryz.ntmps180
  go_wp2_with (first
    | (go_at_call 37; refine HI.out.mono ?_; rintro e' w1 ⟨rfl, hb1⟩; have HB2 := Lib.hid (HB1.out.trans (hb1.mono (by simp))); clear hb1))
  go_ret
  exact ⟨rfl, HB2.out⟩

set_option maxRecDepth 100000 in
set_option maxHeartbeats 2000000 in
theorem named1_no (x : Str) (ha : Asc x) (hn : isName x = true) (w : World) :
    Calls Tryz.prog 116 #[S x] w fun e' w' => e' = .returned (.bool false) ∧ Below w.heap.size w w' := by
  have HI := Lib.hid (name_yes x ha hn w)
  clear ha hn
  go_enter Tryz.func116, Tryz.ntmps116
  go_wp2_with (first
    | (go_at_call 117; refine HI.out.mono ?_; rintro e' w1 ⟨rfl, hb1⟩; have HB2 := Lib.hid hb1; clear hb1))
  go_ret
  exact ⟨rfl, HB2.out⟩

/-- all are names -/
def Names (l : List Str) : Prop := ∀ x ∈ l, Asc x ∧ isName x = true
set_option maxRecDepth 100000 in
set_option maxHeartbeats 2000000 in
theorem named_yes (l : List Str) (h : Names l) (v : Value) (w : World) (B : Nat → Prop) (hx : RSlB B 1 RStr w v l) :
    Calls Tryz.prog 77 #[v] w fun e' w' => e' = .returned (.bool true) ∧ Below w.heap.size w w' := by
  have hno : SaysNo 1 agg1 RStr w 116 #[] l := ⟨enters_of Tryz.func116 (by kernel_rfl) rfl, fun x hx W' C hb hr => by
    have : agg1 C = S x := hr
    rw [this]
    exact named1_no x (h x hx).1 (h x hx).2 W'⟩
  have HCT := Lib.hid (containsN_none w v l hx (fun W W' C x hb h => h) 116 #[] hno)
  obtain ⟨a, c, rfl, -⟩ := hx
  clear hno h
  go_enter Tryz.func77, Tryz.ntmps77
  go_wp2_with (first
    | (go_at_call 87; refine HCT.out.mono ?_; rintro e' w1 ⟨rfl, hb1⟩; have HB2 := Lib.hid hb1; clear hb1))
  go_ret
  exact ⟨rfl, HB2.out⟩
end Go.Proofs.YtjgbkdbkachciaaGreatDoor
