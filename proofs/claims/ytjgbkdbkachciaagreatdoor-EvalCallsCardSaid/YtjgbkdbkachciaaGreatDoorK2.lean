import Derived.Test.YtjgbkdbkachciaaGreatDoorK1
import Derived.Test.YtjgbkdbkachciaaGreatDoorE5
import Derived.Test.YtjgbkdbkachciaaGreatDoorZ7
namespace Go.Proofs.YtjgbkdbkachciaaGreatDoor
open Go.RowKit Go.Shelf
attribute [local go_sem] Oper.semAt_some

theorem ct_lit : ctText = (([105, 110, 116, 32, 102, 40, 105, 110, 116, 32, 112, 44, 32, 105, 110, 116, 32, 113, 44, 32, 105, 110, 116, 32, 114, 41, 32, 123, 32, 105, 110, 116, 32, 120, 59, 32, 112, 114, 105, 110, 116, 40, 120, 41, 59, 32, 120, 32, 61, 32, 112, 59, 32, 112, 32].append [61, 32, 113, 59, 32, 113, 32, 61, 32, 114, 59, 32, 114, 32, 61, 32, 120, 59, 32, 112, 114, 105, 110, 116, 40, 112, 41, 59, 32, 112, 114, 105, 110, 116, 40, 113, 41, 59, 32, 112, 114, 105, 110, 116, 40, 114, 41, 59, 32, 114, 101, 116, 117, 114, 110, 32]).append ([120, 59, 32, 125, 32, 105, 110, 116, 32, 109, 97, 105, 110, 40, 41, 32, 123, 32, 105, 110, 116, 32, 120, 59, 32, 120, 32, 61, 32, 55, 59, 32, 112, 114, 105, 110, 116, 40, 102, 40, 114, 101, 97, 100, 40, 41, 44, 32, 114, 101, 97, 100, 40, 41, 44].append [32, 114, 101, 97, 100, 40, 41, 41, 41, 59, 32, 112, 114, 105, 110, 116, 40, 102, 40, 114, 101, 97, 100, 40, 41, 44, 32, 114, 101, 97, 100, 40, 41, 44, 32, 114, 101, 97, 100, 40, 41, 41, 41, 59, 32, 112, 114, 105, 110, 116, 40, 120, 41, 59, 32, 125])) := by kernel_rfl
theorem ct_okP : okP ctP := ct_runs.okp
theorem ct_parse (W : World) : Calls Tryz.prog 23 #[S (([105, 110, 116, 32, 102, 40, 105, 110, 116, 32, 112, 44, 32, 105, 110, 116, 32, 113, 44, 32, 105, 110, 116, 32, 114, 41, 32, 123, 32, 105, 110, 116, 32, 120, 59, 32, 112, 114, 105, 110, 116, 40, 120, 41, 59, 32, 120, 32, 61, 32, 112, 59, 32, 112, 32].append [61, 32, 113, 59, 32, 113, 32, 61, 32, 114, 59, 32, 114, 32, 61, 32, 120, 59, 32, 112, 114, 105, 110, 116, 40, 112, 41, 59, 32, 112, 114, 105, 110, 116, 40, 113, 41, 59, 32, 112, 114, 105, 110, 116, 40, 114, 41, 59, 32, 114, 101, 116, 117, 114, 110, 32]).append ([120, 59, 32, 125, 32, 105, 110, 116, 32, 109, 97, 105, 110, 40, 41, 32, 123, 32, 105, 110, 116, 32, 120, 59, 32, 120, 32, 61, 32, 55, 59, 32, 112, 114, 105, 110, 116, 40, 102, 40, 114, 101, 97, 100, 40, 41, 44, 32, 114, 101, 97, 100, 40, 41, 44].append [32, 114, 101, 97, 100, 40, 41, 41, 41, 59, 32, 112, 114, 105, 110, 116, 40, 102, 40, 114, 101, 97, 100, 40, 41, 44, 32, 114, 101, 97, 100, 40, 41, 44, 32, 114, 101, 97, 100, 40, 41, 41, 41, 59, 32, 112, 114, 105, 110, 116, 40, 120, 41, 59, 32, 125]))] W fun e w' => ∃ av fv, e = .returned (.tuple #[.agg #[av, fv], I 0, I 0]) ∧ PX (W.heap.size ≤ ·) w' av fv ctP ∧ Below W.heap.size W w' := by
  have h := parse_yes ctText ct_asc (by decide +kernel) 1000 100 100 ctToks ctUs ctP ct_scan (by decide) ct_ended ct_prog ct_okP W
  rw [ct_lit] at h
  exact h
set_option maxRecDepth 100000 in
set_option maxHeartbeats 16000000 in
theorem evalCalls_any (a b c d e f : Int) (W : World) : Calls Tryz.prog 10 #[I a, I b, I c, I d, I e, I f] W fun en w' => en = .returned (.bool true) ∧ Below W.heap.size W w' := by
  have HPA := Lib.hid ct_parse
  have hrn := fun (av fv iv : Value) (X : World) hx hi => run_any ctP ct_runs av fv iv [a, b, c, d, e, f] 999 X hx hi (by decide) 2000 (by decide)
  rw [ct_run] at hrn
  have HRN := Lib.hid hrn
  clear hrn
  go_enter Tryz.func10, Tryz.ntmps10
  go_upto_region 3 with (first
    | (go_at_call 11; refine (awake_any _).mono ?_; rintro e' w1 ⟨rfl, hb1⟩; have HB1 := Lib.hid hb1; clear hb1)
    | (go_at_call 23; refine (HPA.out _).mono ?_; rintro e' w2 ⟨av, fv, rfl, hx2, hb2⟩; obtain ⟨ra, rc, fa, fc, rfl, rfl⟩ := hx2.slice; have HX2 := Lib.hid hx2.lt; have HB2 := Lib.hid (HB1.out.trans (hb2.mono HB1.out.size)); clear hx2 hb2))
  obtain ⟨w3, hw3⟩ : ∃ w, w = w2.alloc (.cells #[.slice ra ctP.arrays.length rc, .slice fa ctP.funcs.length fc] 27) := ⟨_, rfl⟩
  have hb3 : Below w2.heap.size w2 w3 := by rw [hw3]; exact below_a1 _ _
  have ht3 : Row w3 w2.heap.size 27 [.slice ra ctP.arrays.length rc, .slice fa ctP.funcs.length fc] := by rw [hw3]; exact heap_new _ _
  have hx3 := (HX2.out.below hb3).lt
  obtain ⟨tb, htb⟩ : ∃ n, n = w2.heap.size := ⟨_, rfl⟩
  rw [← hw3]
  rw [← htb] at ht3 ⊢
  have c0 := ht3.cell 0
  have c1 := ht3.cell 1
  simp only [List.getElem?_cons_zero, List.getElem?_cons_succ] at c0 c1
  have HB3 := Lib.hid (HB2.out.trans (hb3.mono HB2.out.size))
  have HX4 := Lib.hid (hx3.below (below_a1 w3 (.cells #[I a, I b, I c, I d, I e, I f] 3))).lt
  have HI4 := Lib.hid ((OwnInts.block (base := 0) (w := w3.alloc (.cells #[I a, I b, I c, I d, I e, I f] 3)) (g := w3.heap.size) [a, b, c, d, e, f] (by omega) (heap_new _ _) (by simp [maxLen])).rin (by simp))
  clear hw3 hb3 ht3 hx3 htb
  go_upto_region 4 with (first
    | (go_at_call 17; refine (HRN.out _ _ _ _ HX4.out HI4.out).mono ?_; rintro e' w5 ⟨ov, rfl, ho, hb5⟩; obtain ⟨oa, oc, rfl⟩ := ho.slice; have HO5 := Lib.hid ho; have HB5 := Lib.hid (HB3.out.trans (((below_a1 w3 (.cells #[I a, I b, I c, I d, I e, I f] 3)).trans (hb5.mono (by simp))).mono HB3.out.size)); clear ho hb5 c0 c1)
    | (refine store_first 37 (.tmp 17) (.tmp 33) rfl ?_; refine wpList_store_row rfl 37 (.tmp 17) (.tmp 33) rfl w5.heap.size _ rfl rfl 37 r37Z (heap_new _ _) (by kernel_rfl) (by rfl) (by simp [Value.oneCell']) ?_; rw [World.setRow_alloc_new]))
  obtain ⟨w6, hw6⟩ : ∃ w, w = w5.alloc (.cells #[I 1, I 0, .slice oa 11 oc, I 50] 37) := ⟨_, rfl⟩
  obtain ⟨r1, hr1⟩ : ∃ n, n = w5.heap.size := ⟨_, rfl⟩
  have hb6 : Below w5.heap.size w5 w6 := by rw [hw6]; exact below_a1 _ _
  have ht6 : Row w6 r1 37 [I 1, I 0, .slice oa 11 oc, I 50] := by rw [hw6, hr1]; exact heap_new _ _
  have hl6 : Lst w6 (.slice oa 11 oc) [0, b, c, a, a, 0, e, f, d, d, 7] := (show Lst w5 (.slice oa 11 oc) [0, b, c, a, a, 0, e, f, d, d, 7] from HO5.out.rslB (by simp)).below hb6
  change Code.wp _ _ _ _ (w5.alloc (.cells #[I 1, I 0, .slice oa 11 oc, I 50] 37))
  rw [← hw6, ← hr1]
  have c3 := ht6.cell 3
  simp only [List.getElem?_cons_zero, List.getElem?_cons_succ] at c3
  have HB6 := Lib.hid (HB5.out.trans (hb6.mono HB5.out.size))
  have HT6 := Lib.hid ht6
  have HL6 := Lib.hid hl6
  have hlr := ht6.lt
  clear hw6 hr1 hb6 ht6 hl6
  go_upto_region 5 with (first
    | (refine store_first 37 (.tmp 18) (.tmp 45) rfl ?_; refine wpList_store_row rfl 37 (.tmp 18) (.tmp 45) rfl (w6.heap.size + 1) _ rfl rfl 37 r37Z (heap_at (by simp)) (by kernel_rfl) (by rfl) (by simp [Value.oneCell']) ?_))
  obtain ⟨w7, hw7⟩ : ∃ w, w = ((w6.alloc (.cells #[.int .i64 0, I b, I c, I a, I a, .int .i64 0, I e, I f, I d, I d, .int .i64 7] 3)).alloc (.cells r37Z 37)).setRow (w6.heap.size + 1) #[.int .i64 1, .int .i64 0, .slice (some ⟨w6.heap.size, 0, none⟩) 11 11, I 50] := ⟨_, rfl⟩
  have hb7 : Below w6.heap.size w6 w7 := by rw [hw7]; exact ((below_a1 w6 _).alloc (by simp) _).grown setRow_grown (by simp; omega) (fun r e => by cases e; omega)
  have hr7 : Row w7 (w6.heap.size + 1) 37 [I 1, I 0, .slice (some ⟨w6.heap.size, 0, none⟩) 11 11, I 50] := by rw [hw7]; exact setRow_heap _ _ _ _ _ _ (heap_at (by simp))
  have hk7 : w7.heap[w6.heap.size]? = some (.cells ([0, b, c, a, a, 0, e, f, d, d, 7].map (Value.int .i64)).toArray 3 (0, 0)) := by rw [hw7]; exact (setRow_other _ _ _ _ (by omega)).trans (heap_old _ _ (heap_new _ _))
  have hm7 : Lst w7 (.slice (some ⟨w6.heap.size, 0, none⟩) 11 11) [0, b, c, a, a, 0, e, f, d, d, 7] := (OwnInts.block (base := 0) [0, b, c, a, a, 0, e, f, d, d, 7] (by omega) hk7 (by simp [maxLen])).rslB (by simp)
  have hn7 := HL6.out.below hb7
  have ht7 := HT6.out.ext hb7
  have HSA := Lib.hid (same_yes 1 0 50 [0, b, c, a, a, 0, e, f, d, d, 7] _ _ w7 hn7 hm7)
  have hwe := hw7.symm
  change Code.wp _ _ _ _ (((w6.alloc (.cells #[.int .i64 0, I b, I c, I a, I a, .int .i64 0, I e, I f, I d, I d, .int .i64 7] 3)).alloc (.cells r37Z 37)).setRow (w6.heap.size + 1) #[.int .i64 1, .int .i64 0, .slice (some ⟨w6.heap.size, 0, none⟩) 11 11, I 50])
  rw [hwe]
  have a0 := ht7.cell 0
  have a1 := ht7.cell 1
  have a2 := ht7.cell 2
  have a3 := ht7.cell 3
  have b0 := hr7.cell 0
  have b1 := hr7.cell 1
  have b2 := hr7.cell 2
  have b3 := hr7.cell 3
  simp only [List.getElem?_cons_zero, List.getElem?_cons_succ] at a0 a1 a2 a3 b0 b1 b2 b3
  have HB7 := Lib.hid (HB6.out.trans (hb7.mono HB6.out.size))
  clear hw7 hwe hb7 hr7 hk7 hm7 hn7 ht7
  go_wp2_with (first
    | (go_at_call 16; refine HSA.out.mono ?_; rintro e' w8 ⟨rfl, hb8⟩; have HB8 := Lib.hid (HB7.out.trans (hb8.mono HB7.out.size)); clear hb8))
  go_ret
  exact ⟨rfl, HB8.out⟩
end Go.Proofs.YtjgbkdbkachciaaGreatDoor
