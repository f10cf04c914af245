import Derived.Test.YtjgbkdbkachciaaGreatDoorB9
import Derived.Test.YtjgbkdbkachciaaGreatDoorA1
namespace Go.Proofs.YtjgbkdbkachciaaGreatDoor
open Go.RowKit Go.Shelf
attribute [local go_sem] Oper.semAt_some

set_option maxRecDepth 100000 in
set_option maxHeartbeats 8000000 in
theorem evalValues_any (W : World) (lv : Value) (ls : List Int) (hl : RInts W lv ls) (hc : ∃ a c, lv = .slice a ls.length c ∧ ls.length ≤ c) :
    Calls Tryz.prog 9 #[lv] W fun e w' => e = .returned (.bool true) ∧ Below W.heap.size W w' := by
  have HAW := Lib.hid (awake_any W)
  have HL := Lib.hid hl
  have HC := Lib.hid hc
  obtain ⟨a, c, rfl, -⟩ := hc
  clear hl
  go_enter Tryz.func9, Tryz.ntmps9
  go_upto_region 3 with (first
    | (go_at_call 11; refine HAW.out.mono ?_; rintro e' w1 ⟨rfl, hb1⟩; have HB1 := Lib.hid hb1; have HX := Lib.hid (expr19_any w1 _ ls (RInts.below hb1 HL.out) HC.out); clear hb1)
    | (go_at_call 19; refine HX.out.mono ?_; rintro e' w2 ⟨e0, av0, rfl, hd, hx, hb2⟩; have HB2 := Lib.hid (HB1.out.trans (hb2.mono HB1.out.size)); have HST := Lib.hid (strip24_any cFree 6 e0 hd av0 w2 ((EX.size hx).weak fun b hb => hb.2)); obtain ⟨xe, hxe⟩ : ∃ xe, xe = stripE 6 e0 := ⟨_, rfl⟩; have hok := stripE_ok cFree 6 e0 hd; rw [← hxe] at hok HST; have HOK := Lib.hid hok; clear hb2 hx hd hxe hok)
    | (go_at_call 24; refine HST.out.mono ?_; rintro e' w3 ⟨av1, rfl, hx, hb3⟩; obtain ⟨xa, xc, rfl⟩ := hx.slice; have HX3 := Lib.hid hx; have HB3 := Lib.hid (HB2.out.trans (hb3.mono HB2.out.size)); clear hb3 hx)
    | (refine store_first 31 (.tmp 4) (.tmp 12) rfl ?_; refine wpList_store_row rfl 31 (.tmp 4) (.tmp 12) rfl w3.heap.size _ rfl rfl 31 eZ (heap_new _ _) (by kernel_rfl) (by rfl) (by simp [Value.oneCell']) ?_))
  obtain ⟨xb, hxb⟩ : ∃ n, n = w3.heap.size := ⟨_, rfl⟩
  obtain ⟨w4, hw4⟩ : ∃ w, w = (w3.alloc (.cells eZ 31)).setRow w3.heap.size #[I xe.kind, I xe.op, I xe.n, S xe.name, .slice xa xe.args.length xc] := ⟨_, rfl⟩
  have hr4 : Row w4 xb 31 (eRow xe (.slice xa xe.args.length xc)) := by rw [hw4, hxb]; exact setRow_heap _ _ _ _ _ _ (heap_new _ _)
  have hw4' : w4 = w3.alloc (.cells #[I xe.kind, I xe.op, I xe.n, S xe.name, .slice xa xe.args.length xc] 31) := by rw [hw4]; exact World.setRow_alloc_new _ _ _ _
  have hb4 : Below W.heap.size W w4 := by rw [hw4']; exact HB3.out.alloc HB3.out.size _
  have hx4 : EX (fun _ => True) w4 (.slice xa xe.args.length xc) xe := by rw [hw4']; exact (EX.alloc HX3.out).weak fun _ _ => trivial
  rw [← hw4, ← hxb]
  obtain ⟨vr, hvr⟩ : ∃ v, v = valD 6 xe := ⟨_, rfl⟩
  have hva := value20_any 6 xe (.slice xa xe.args.length xc) w4 _ HOK.out.1 (okE_le (by decide) HOK.out.2) hx4
  rw [← hvr] at hva
  obtain ⟨vn, hvn⟩ : ∃ n, n = vr.getD 0 := ⟨_, rfl⟩
  obtain ⟨vb, hvb⟩ : ∃ n, n = vr.isSome := ⟨_, rfl⟩
  rw [← hvn, ← hvb] at hva
  have HVA := Lib.hid hva
  have HVR := Lib.hid hvr
  have HVN := Lib.hid hvn
  have HVB := Lib.hid hvb
  have HR4 := Lib.hid hr4
  have HB4 := Lib.hid hb4
  have HX4 := Lib.hid hx4
  have c0 := hr4.cell 0
  have c1 := hr4.cell 1
  have c2 := hr4.cell 2
  have c3 := hr4.cell 3
  have c4 := hr4.cell 4
  simp only [eRow, List.getElem?_cons_zero, List.getElem?_cons_succ] at c0 c1 c2 c3 c4
  clear hw4 hw4' hr4 hb4 hx4 hxb hvr hva hvn hvb HX HST HX3 HB3
  go_upto_region 4 with (first
    | (go_at_call 20; refine HVA.out.mono ?_; rintro e' w5 ⟨rfl, hb5⟩; have HB5 := Lib.hid (HB4.out.trans (hb5.mono HB4.out.size)); have HR5 := Lib.hid (HR4.out.ext hb5); have HX5 := Lib.hid (HX4.out.grown (below_grown hb5 none) (fun r e => by cases e)); clear hb5 c0 c1 c2 c3 c4))
  have c0 := HR5.out.cell 0
  have c1 := HR5.out.cell 1
  have c2 := HR5.out.cell 2
  have c3 := HR5.out.cell 3
  have c4 := HR5.out.cell 4
  simp only [eRow, List.getElem?_cons_zero, List.getElem?_cons_succ] at c0 c1 c2 c3 c4
  go_upto_region 5 with (fail)
  obtain ⟨w6, hw6⟩ : ∃ w6, w6 = (((w5.alloc (.cells #[I xe.kind, I xe.op, I xe.n, S xe.name, .slice xa xe.args.length xc] 31)).alloc (.cells #[I 8, S [], .slice (some ⟨w5.heap.size, 0, none⟩) 1 1, .slice none 0 0, .slice none 0 0] 54)).alloc (.cells #[S wMain, .slice none 0 0, .slice none 0 0, .slice (some ⟨w5.heap.size + 1, 0, none⟩) 1 1] 52)).alloc (.cells #[.slice none 0 0, .slice (some ⟨w5.heap.size + 1 + 1, 0, none⟩) 1 1] 27) := ⟨_, rfl⟩
  have hb6 : Below W.heap.size W w6 := by rw [hw6]; exact HB5.out.trans ((((below_a2 w5 _ _).alloc (by simp only [World.size_alloc]; omega) _).alloc (by simp only [World.size_alloc]; omega) _).mono HB5.out.size)
  have q1 : Row w6 w5.heap.size 31 (eRow xe (.slice xa xe.args.length xc)) := by rw [hw6]; exact heap_old _ _ (heap_old _ _ (heap_old _ _ (heap_new _ _)))
  have q2 : Row w6 (w5.heap.size + 1) 54 [I 8, S [], .slice (some ⟨w5.heap.size, 0, none⟩) 1 1, .slice none 0 0, .slice none 0 0] := by rw [hw6]; exact heap_old _ _ (heap_old _ _ (heap_at (by simp)))
  have q3 : Row w6 (w5.heap.size + 1 + 1) 52 [S wMain, .slice none 0 0, .slice none 0 0, .slice (some ⟨w5.heap.size + 1, 0, none⟩) 1 1] := by rw [hw6]; exact heap_old _ _ (heap_at (by simp))
  have q4 : Row w6 (w5.heap.size + 1 + 1 + 1) 27 [.slice none 0 0, .slice (some ⟨w5.heap.size + 1 + 1, 0, none⟩) 1 1] := by rw [hw6]; exact heap_at (by simp)
  have hx6 : EX (fun _ => True) w6 (.slice xa xe.args.length xc) xe := by rw [hw6]; exact EX.alloc (EX.alloc (EX.alloc (EX.alloc HX5.out)))
  have hpx := vP_px q1 hx6 q2 q3
  change Code.wp _ _ _ _ ((((w5.alloc (.cells #[I xe.kind, I xe.op, I xe.n, S xe.name, .slice xa xe.args.length xc] 31)).alloc (.cells #[I 8, S [], .slice (some ⟨w5.heap.size, 0, none⟩) 1 1, .slice none 0 0, .slice none 0 0] 54)).alloc (.cells #[S wMain, .slice none 0 0, .slice none 0 0, .slice (some ⟨w5.heap.size + 1, 0, none⟩) 1 1] 52)).alloc (.cells #[.slice none 0 0, .slice (some ⟨w5.heap.size + 1 + 1, 0, none⟩) 1 1] 27))
  rw [← hw6]
  have hrun := run0_any (vP xe) (vP_runs 6 xe HOK.out.1 (okE_le (by decide) HOK.out.2)) rfl (.slice none 0 0) _ (.slice none 0 0) [] 2000 w6 hpx (RIn.nil _ _) (by decide) 4001 (by decide)
  have hval := val_run 6 xe HOK.out.1 2000 (by decide) 4001 (by decide)
  rw [← HVR.out] at hval
  obtain ⟨R, hR⟩ : ∃ R, R = runM (vP xe) 4001 [] 2000 := ⟨_, rfl⟩
  have hval : ValL vr R := by rw [hR]; exact hval
  rw [← hR] at hrun
  have p0 := q4.cell 0
  have p1 := q4.cell 1
  simp only [List.getElem?_cons_zero, List.getElem?_cons_succ] at p0 p1
  have HB6 := Lib.hid hb6
  have HRUN := Lib.hid hrun
  clear hw6 hb6 q1 q2 q3 q4 hx6 hpx hrun hR c0 c1 c2 c3 c4
  cases vr with
  | none =>
    obtain ⟨v1, v2⟩ := hval
    rw [v1, v2] at HRUN
    have hn0 := HVN.out
    have hb0 := HVB.out
    simp only [Option.getD_none, Option.isSome_none] at hn0 hb0
    subst hn0 hb0
    go_upto_region 6 with (first
      | (go_at_call 17; refine HRUN.out.mono ?_; rintro e' w7 ⟨ov, rfl, ho, hb7⟩; obtain ⟨oa, oc, rfl, -, hov⟩ := ho.rslB (by simp); have HB7 := Lib.hid (HB6.out.trans (hb7.mono HB6.out.size)); have HOV := Lib.hid hov; clear ho hb7 hov p0 p1)
      | (refine store_first 37 (.tmp 8) (.tmp 26) rfl ?_; refine wpList_store_row rfl 37 (.tmp 8) (.tmp 26) rfl w7.heap.size _ rfl rfl 37 r37Z (heap_new _ _) (by kernel_rfl) (by rfl) (by simp [Value.oneCell']) ?_))
    obtain ⟨w8, hw8⟩ : ∃ w, w = (w7.alloc (.cells r37Z 37)).setRow w7.heap.size #[I 2, I R.code, .slice oa 0 oc, I R.steps] := ⟨_, rfl⟩
    have hb8 : Below W.heap.size W w8 := by rw [hw8]; exact (HB7.out.alloc HB7.out.size _).grown setRow_grown (by simp only [World.size_alloc]; have := HB7.out.size; omega) (fun r e => by cases e; exact HB7.out.size)
    have hr8 : Row w8 w7.heap.size 37 [I 2, I R.code, .slice oa 0 oc, I R.steps] := by rw [hw8]; exact setRow_heap _ _ _ _ _ _ (heap_new _ _)
    change Code.wp _ _ _ _ ((w7.alloc (.cells r37Z 37)).setRow w7.heap.size #[I 2, I R.code, .slice oa 0 oc, I R.steps])
    rw [← hw8]
    have HB8 := Lib.hid hb8
    have s0 := hr8.cell 0
    have s1 := hr8.cell 1
    have s2 := hr8.cell 2
    simp only [List.getElem?_cons_zero, List.getElem?_cons_succ] at s0 s1 s2
    clear hw8 hb8 hr8
    go_wp2
    go_ret
    exact ⟨rfl, HB8.out⟩
  | some n =>
    obtain ⟨v1, v2, v3⟩ := hval
    rw [v1, v2, v3] at HRUN
    have hn0 := HVN.out
    have hb0 := HVB.out
    simp only [Option.getD_some, Option.isSome_some] at hn0 hb0
    subst hn0 hb0
    go_upto_region 6 with (first
      | (go_at_call 17; refine HRUN.out.mono ?_; rintro e' w7 ⟨ov, rfl, ho, hb7⟩; obtain ⟨oa, oc, rfl, -, hov⟩ := ho.rslB (by simp); have HB7 := Lib.hid (HB6.out.trans (hb7.mono HB6.out.size)); have HOV := Lib.hid hov; clear ho hb7 hov p0 p1)
      | (refine store_first 37 (.tmp 8) (.tmp 26) rfl ?_; refine wpList_store_row rfl 37 (.tmp 8) (.tmp 26) rfl w7.heap.size _ rfl rfl 37 r37Z (heap_new _ _) (by kernel_rfl) (by rfl) (by simp [Value.oneCell']) ?_))
    obtain ⟨w8, hw8⟩ : ∃ w, w = (w7.alloc (.cells r37Z 37)).setRow w7.heap.size #[I 1, I 0, .slice oa 1 oc, I R.steps] := ⟨_, rfl⟩
    have hb8 : Below W.heap.size W w8 := by rw [hw8]; exact (HB7.out.alloc HB7.out.size _).grown setRow_grown (by simp only [World.size_alloc]; have := HB7.out.size; omega) (fun r e => by cases e; exact HB7.out.size)
    have hr8 : Row w8 w7.heap.size 37 [I 1, I 0, .slice oa 1 oc, I R.steps] := by rw [hw8]; exact setRow_heap _ _ _ _ _ _ (heap_new _ _)
    obtain ⟨b, o, rfl, hb, hcl⟩ := HOV.out.resolve_left (by simp)
    obtain ⟨C, hC, hC0⟩ := hcl 0 vn rfl
    have e7 : w7.cell? ⟨b, o, none⟩ = some (I vn) := by have := hC 0 (by omega); rw [hC0] at this; simpa using this
    have e8 : w8.cell? ⟨b, o, none⟩ = some (I vn) := by rw [hw8]; exact gcell (gcell e7 (alloc_grown _ _ none) (by simp)) setRow_grown (by simp; omega)
    clear hcl hC hC0 e7
    change Code.wp _ _ _ _ ((w7.alloc (.cells r37Z 37)).setRow w7.heap.size #[I 1, I 0, .slice (some ⟨b, o, none⟩) 1 oc, I R.steps])
    rw [← hw8]
    have HB8 := Lib.hid hb8
    have s0 := hr8.cell 0
    have s1 := hr8.cell 1
    have s2 := hr8.cell 2
    simp only [List.getElem?_cons_zero, List.getElem?_cons_succ] at s0 s1 s2
    clear hw8 hb8 hr8
    go_wp2
    go_ret
    exact ⟨rfl, HB8.out⟩
end Go.Proofs.YtjgbkdbkachciaaGreatDoor
