import Derived.Test.YtjgbkdbkachciaaGreatDoorU3
namespace Go.Proofs.YtjgbkdbkachciaaGreatDoor
open Go.RowKit Go.Shelf
attribute [local go_sem] Oper.semAt_some

abbrev sB (s : LS) (av tv ev : Value) : Array Value := #[I s.kind, S s.name, av, tv, ev]
set_option maxRecDepth 100000 in
set_option maxHeartbeats 2000000 in
theorem stmts1_no (d : Nat) (s : LS) (h : okS (d + 1) s) (most : Int) (hm : 1 ≤ most ∧ most ≤ 1000) (av tv ev : Value) (p : Nat) (w : World) (B : Nat → Prop) (ha : AX B w av s.args) (ht : SX B w tv s.thn) (he : SX B w ev s.els)
    (hr : Row w p 3 [I most]) (it : StsOk s.thn (most - 1) tv B) (ie : StsOk s.els (most - 1) ev B) :
    Calls Tryz.prog 119 #[sV s av tv ev, .pointer (some ⟨p, 0, none⟩)] w fun e' w' => e' = .returned (.bool false) ∧ Below w.heap.size w w' := by
  have hb := below_a1 w (.cells (sB s av tv ev) 54)
  have HI := Lib.hid (stmt_right d s h most hm av tv ev _ B (EX.grown ha (below_grown hb none) (fun r e => by cases e)) (ht.below hb) (he.below hb) it ie)
  have HB1 := Lib.hid hb
  have hr1 := hr.ext hb
  have c0 := hr1.cell 0
  simp only [List.getElem?_cons_zero] at c0
  obtain ⟨hm1, hm2⟩ := hm
  clear h ha ht he it ie hr hr1 hb
  go_enter Tryz.func119, Tryz.ntmps119
  go_wp2_with (first
    | (go_at_call 120; refine HI.out.mono ?_; rintro e' w1 ⟨rfl, hb1⟩; have HB2 := Lib.hid (HB1.out.trans (hb1.mono (by simp))); clear hb1))
  go_ret
  exact ⟨rfl, HB2.out⟩

set_option maxRecDepth 100000 in
set_option maxHeartbeats 2000000 in
theorem stmts_of (l : List LS) (most : Int) (v : Value) (w : World) (B : Nat → Prop) (hx : SX B w v l)
    (hno : ∀ x ∈ l, ∀ W C p d', RS d' B W C x → Row W p 3 [I most] → Calls Tryz.prog 119 #[agg5 C, .pointer (some ⟨p, 0, none⟩)] W fun e' w' => e' = .returned (.bool false) ∧ Below W.heap.size W w') :
    Calls Tryz.prog 78 #[v, I most] w fun e' w' => e' = .returned (.bool true) ∧ Below w.heap.size w w' := by
  obtain ⟨aa, ac, rfl⟩ := hx.slice
  have hmf : ∀ (fn : Fn) (first cap : Array Value) (w : World), (Instr.makeFunc fn first cap).run Tryz.prog w = .ok (.func fn first cap) w := fun _ _ _ _ => rfl
  obtain ⟨w1, hw1⟩ : ∃ w1, w1 = w.alloc (.cells #[I most] 3) := ⟨_, rfl⟩
  have hb1 : Below w.heap.size w w1 := by rw [hw1]; exact below_a1 w _
  have hM : Row w1 w.heap.size 3 [I most] := by rw [hw1]; exact heap_new _ _
  have hwe : w.alloc (.cells #[I most] 3) = w1 := hw1.symm
  obtain ⟨d', hd'⟩ := hx.below hb1
  have hRp : RSlB B 5 (fun W C x => RS d' B W C x ∧ Row W w.heap.size 3 [I most]) w1 (.slice aa l.length ac) l := hd'.weak (fun _ h => h) (fun C x h => ⟨h, hM⟩)
  have hsn : SaysNo 5 agg5 (fun W C x => RS d' B W C x ∧ Row W w.heap.size 3 [I most]) w1 119 #[.pointer (some ⟨w.heap.size, 0, none⟩)] l :=
    ⟨enters_of Tryz.func119 (by kernel_rfl) rfl, fun x hx W' C hb hr => hno x hx W' C _ d' hr.1 hr.2⟩
  have HCT := Lib.hid (containsS_none w1 _ l hRp (fun W W' C x hb h => ⟨h.1.below hb, h.2.ext hb⟩) 119 _ hsn)
  have HB1 := Lib.hid hb1
  clear hx hno hsn hRp hd' hM hb1 hw1
  go_enter Tryz.func78, Tryz.ntmps78
  go_wp2_with (first
    | (go_at_call 118; refine HCT.out.mono ?_; rintro e' w4 ⟨rfl, hb4⟩; have HB4 := Lib.hid (HB1.out.trans (hb4.mono HB1.out.size)); clear hb4))
  go_ret
  exact ⟨rfl, HB4.out⟩

theorem stmts_right : ∀ (d : Nat) (l : List LS) (_ : ∀ x ∈ l, okS d x) (most : Int) (_ : (d : Int) ≤ most ∧ most ≤ 1000) (v : Value) (B : Nat → Prop), StsOk l most v B
  | 0, l, h, most, hm, v, B => fun W hW => stmts_of l most v W B hW (fun x hx => (h x hx).elim)
  | d + 1, l, h, most, hm, v, B => fun W hW => stmts_of l most v W B hW (fun x hx W' C p d' hr hp => by
    obtain ⟨he, ha, ht, hs⟩ := hr.ev
    have hk := h x hx
    rw [he]
    exact stmts1_no d x hk most ⟨by omega, hm.2⟩ _ _ _ p W' B ha ht hs hp (stmts_right d x.thn hk.2.2.2.2.2.2.2.1 (most - 1) ⟨by omega, by omega⟩ _ B) (stmts_right d x.els hk.2.2.2.2.2.2.2.2 (most - 1) ⟨by omega, by omega⟩ _ B))
end Go.Proofs.YtjgbkdbkachciaaGreatDoor
