import Derived.Test.YtjgbkdbkachciaaGreatDoorT9
namespace Go.Proofs.YtjgbkdbkachciaaGreatDoor
open Go.RowKit Go.Shelf
attribute [local go_sem] Oper.semAt_some

abbrev eB (e : LE) (av : Value) : Array Value := #[I e.kind, I e.op, I e.n, S e.name, av]
/-- what a kind of expressions has alone -/
def onlyE (e : LE) : Prop :=
  (e.kind = 1 ∧ 0 ≤ e.n ∧ e.op = 0 ∧ e.name = [] ∧ e.args.length = 0) ∨
  (e.kind = 2 ∧ (Asc e.name ∧ isName e.name = true) ∧ e.op = 0 ∧ e.n = 0 ∧ e.args.length = 0) ∨
  (e.kind = 3 ∧ (e.op = 17 ∨ e.op = 18 ∨ e.op = 19) ∧ e.n = 0 ∧ e.name = [] ∧ e.args.length = 1) ∨
  (e.kind = 4 ∧ (1 ≤ e.op ∧ e.op ≤ 16) ∧ e.n = 0 ∧ e.name = [] ∧ e.args.length = 2) ∨
  (e.kind = 5 ∧ (Asc e.name ∧ isName e.name = true) ∧ e.op = 0 ∧ e.n = 0 ∧ e.args.length ≤ 6) ∨
  (e.kind = 6 ∧ (Asc e.name ∧ isName e.name = true) ∧ e.op = 0 ∧ e.n = 0 ∧ e.args.length = 1) ∨
  (e.kind = 7 ∧ e.op = 0 ∧ e.n = 0 ∧ e.name = [] ∧ e.args.length = 0)
def okE : Nat → LE → Prop
  | 0, _ => False
  | d + 1, e => onlyE e ∧ ∀ x ∈ e.args, okE d x
theorem levelI_pos {op : Int} (h : 1 ≤ op ∧ op ≤ 16) : 0 < levelI op := by
  unfold levelI
  repeat' split
  all_goals omega
theorem only_yes (e : LE) (h : onlyE e) (a : Option Addr) (c : Nat) (w : World) :
    Calls Tryz.prog 102 #[eV e (.slice a e.args.length c)] w fun e' w' => e' = .returned (.tuple #[.agg #[I e.kind, I e.op, I e.n, S e.name, .slice none 0 0], I e.args.length, .bool true]) ∧ Below w.heap.size w w' := by
  obtain ⟨k, op, n, nm, l⟩ := e
  simp only [onlyE, LE.kind, LE.op, LE.n, LE.name, LE.args] at h
  simp only [eV, LE.kind, LE.op, LE.n, LE.name, LE.args]
  rcases h with ⟨rfl, h1, rfl, rfl, h2⟩ | ⟨rfl, h1, rfl, rfl, h2⟩ | ⟨rfl, h1, rfl, rfl, h2⟩ | ⟨rfl, h1, rfl, rfl, h2⟩ | ⟨rfl, h1, rfl, rfl, h2⟩ | ⟨rfl, h1, rfl, rfl, h2⟩ | ⟨rfl, rfl, rfl, rfl, h2⟩
  · rw [h2]; exact only_num _ _ _ _ h1 w
  · rw [h2]; exact only_var _ _ _ _ h1.1 h1.2 w
  · rw [h2]
    rcases h1 with rfl | rfl | rfl
    · exact only_one17 _ _ _ w
    · exact only_one18 _ _ _ w
    · exact only_one19 _ _ _ w
  · rw [h2]; exact only_two _ _ _ _ (levelI_pos h1) w
  · exact only_call _ _ _ h1.1 h1.2 _ _ _ h2 w
  · rw [h2]; exact only_index _ _ _ _ h1.1 h1.2 w
  · rw [h2]; exact only_read _ _ _ _ w

theorem RE.ev {d : Nat} {B : Nat → Prop} {W : World} {C : Nat → Value} {e : LE} (h : RE d B W C e) : agg5 C = eV e (C 4) ∧ EX B W (C 4) e := by
  cases d with
  | zero => exact h.elim
  | succ d =>
    obtain ⟨h0, h1, h2, h3, h4⟩ := h
    exact ⟨by simp only [agg5, eV]; rw [h0, h1, h2, h3], d, h4⟩
theorem EX.below {B : Nat → Prop} {w w' : World} {av : Value} {e : LE} (h : EX B w av e) (hb : Below w.heap.size w w') : EX B w' av e := h.grown (below_grown hb none) (fun r e => by cases e)
theorem RE.below {d : Nat} {B : Nat → Prop} {w w' : World} {C : Nat → Value} {e : LE} (hb : Below w.heap.size w w') (h : RE d B w C e) : RE d B w' C e := h.grown d (below_grown hb none) (fun r e => by cases e)

set_option maxRecDepth 100000 in
set_option maxHeartbeats 2000000 in
theorem well1_no (e : LE) (av : Value) (w : World) (B : Nat → Prop) (hx : EX B w av e) (ih : ∀ W, EX B W av e → Calls Tryz.prog 60 #[eV e av] W fun e' w' => e' = .returned (.bool true) ∧ Below W.heap.size W w') :
    Calls Tryz.prog 103 #[eV e av] w fun e' w' => e' = .returned (.bool false) ∧ Below w.heap.size w w' := by
  have HI := Lib.hid (ih _ (hx.alloc (o := .cells (eB e av) 31)))
  have HB1 := Lib.hid (below_a1 w (.cells (eB e av) 31))
  have hz : (w.alloc (.cells (eB e av) 31)).heap.size = w.heap.size + 1 := by simp
  clear hx ih
  go_enter Tryz.func103, Tryz.ntmps103
  go_wp2_with (first
    | (go_at_call 60; refine HI.out.mono ?_; rintro e' w1 ⟨rfl, hb1⟩; have HB2 := Lib.hid (HB1.out.trans (hb1.mono (by omega))); clear hb1))
  go_ret
  exact ⟨rfl, HB2.out⟩

set_option maxRecDepth 100000 in
set_option maxHeartbeats 2000000 in
theorem well_yes : ∀ (d : Nat) (e : LE) (_ : okE d e) (av : Value) (w : World) (B : Nat → Prop) (_ : EX B w av e), Calls Tryz.prog 60 #[eV e av] w fun e' w' => e' = .returned (.bool true) ∧ Below w.heap.size w w'
  | 0, _, h, _, _, _, _ => h.elim
  | d + 1, e, h, av, w, B, hx => by
    obtain ⟨h1, h2⟩ := h
    obtain ⟨aa, ac, rfl⟩ := hx.slice
    have ih := well_yes d
    have HO := Lib.hid (fun W => only_yes e h1 aa ac W)
    have HX := Lib.hid hx
    have hno : ∀ W d', RSlB B 5 (RE d' B) W (.slice aa e.args.length ac) e.args → SaysNo 5 agg5 (RE d' B) W 103 #[] e.args := fun W d' _ => ⟨enters_of Tryz.func103 (by kernel_rfl) rfl, fun x hx W' C hb hr => by
      obtain ⟨he, hex⟩ := hr.ev
      rw [he]
      exact well1_no x (C 4) W' B hex (fun W hh => ih x (h2 x hx) (C 4) W B hh)⟩
    have HNO := Lib.hid hno
    clear h1 h2 hx ih hno
    have HB0 := Lib.hid (below_a1 w (.cells (eB e (.slice aa e.args.length ac)) 31))
    have hz : (w.alloc (.cells (eB e (.slice aa e.args.length ac)) 31)).heap.size = w.heap.size + 1 := by simp
    go_enter Tryz.func60, Tryz.ntmps60
    go_upto_region 2 with (first
      | (go_at_call 102; refine (HO.out _).mono ?_; rintro e' w1 ⟨rfl, hb1⟩; have HR1 := Lib.hid (show Row w1 w.heap.size 31 (eRow e (.slice aa e.args.length ac)) from (hb1.block w.heap.size (by simp)).trans (heap_new _ _)); have HB1 := Lib.hid (HB0.out.trans (hb1.mono (by simp))); clear hb1)
      | (refine store_first 31 (.tmp 3) (.tmp 9) rfl ?_; refine wpList_store_row rfl 31 (.tmp 3) (.tmp 9) rfl w1.heap.size _ rfl rfl 31 eZ (heap_new _ _) (by kernel_rfl) (by rfl) (by simp [Value.oneCell']) ?_))
    have hzb := HB1.out.size
    have hlb := HR1.out.lt
    obtain ⟨w3, hw3⟩ : ∃ w3, w3 = (w1.alloc (.cells eZ 31)).setRow w1.heap.size #[I e.kind, I e.op, I e.n, S e.name, .slice none 0 0] := ⟨_, rfl⟩
    have hR3 : Row w3 w.heap.size 31 (eRow e (.slice aa e.args.length ac)) := by rw [hw3]; exact (setRow_other _ _ _ _ (by omega)).trans (heap_old _ _ HR1.out)
    have hX3 : Row w3 w1.heap.size 31 [I e.kind, I e.op, I e.n, S e.name, .slice none 0 0] := by rw [hw3]; exact setRow_heap _ _ _ _ _ _ (heap_new _ _)
    have HB3 := Lib.hid (show Below w.heap.size w w3 by rw [hw3]; exact (HB1.out.alloc hzb _).grown setRow_grown (by simp; omega) (fun r e => by cases e; omega))
    rw [← hw3]
    have b1 := hR3.cell 1
    have b2 := hR3.cell 2
    have b3 := hR3.cell 3
    have b4 := hR3.cell 4
    have x1 := hX3.cell 1
    have x2 := hX3.cell 2
    have x3 := hX3.cell 3
    simp only [eRow, List.getElem?_cons_succ, List.getElem?_cons_zero] at b1 b2 b3 b4 x1 x2 x3
    obtain ⟨d', hd'⟩ := HX.out.grown (below_grown HB3.out none) (fun r e => by cases e)
    have HCT := Lib.hid (containsE_none w3 _ e.args hd' (fun W W' C x hb h => h.below hb) 103 #[] (HNO.out w3 d' hd'))
    clear hw3 hR3 hX3 hd'
    go_wp2_with (first
      | (go_at_call 100; refine HCT.out.mono ?_; rintro e' w4 ⟨rfl, hb4⟩; have HB4 := Lib.hid (HB3.out.trans (hb4.mono HB3.out.size)); clear hb4))
    go_ret
    exact ⟨rfl, HB4.out⟩
end Go.Proofs.YtjgbkdbkachciaaGreatDoor
