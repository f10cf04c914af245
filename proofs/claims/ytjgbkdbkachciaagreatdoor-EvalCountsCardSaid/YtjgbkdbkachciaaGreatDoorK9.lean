import Derived.Test.YtjgbkdbkachciaaGreatDoorK8
import Derived.Test.YtjgbkdbkachciaaGreatDoorE5
import Derived.Test.YtjgbkdbkachciaaGreatDoorZ7
namespace Go.Proofs.YtjgbkdbkachciaaGreatDoor
open Go.RowKit Go.Shelf
attribute [local go_sem] Oper.semAt_some

theorem nc_lit : ncText = (([105, 110, 116, 32, 102, 40, 105, 110, 116, 32, 110, 41, 32, 123, 32, 105, 102, 32, 40, 110, 32, 61, 61, 32, 48, 41, 32, 123, 32, 114, 101, 116, 117, 114, 110, 32, 48, 59, 32, 125, 32, 114, 101].append [116, 117, 114, 110, 32, 102, 40, 110, 32, 45, 32, 49, 41, 32, 43, 32, 49, 59, 32, 125, 32, 105, 110, 116, 32, 109, 97, 105, 110, 40, 41, 32, 123, 32, 105, 110, 116, 32, 120, 59, 32, 105, 110]).append ([116, 32, 115, 59, 32, 120, 32, 61, 32, 114, 101, 97, 100, 40, 41, 59, 32, 119, 104, 105, 108, 101, 32, 40, 120, 32, 62, 32, 48, 41, 32, 123, 32, 115, 32, 61, 32, 115, 32, 43, 32, 120, 59].append [32, 120, 32, 61, 32, 120, 32, 45, 32, 49, 59, 32, 125, 32, 112, 114, 105, 110, 116, 40, 115, 41, 59, 32, 114, 101, 116, 117, 114, 110, 32, 102, 40, 114, 101, 97, 100, 40, 41, 41, 59, 32, 125])) := by kernel_rfl
theorem nc_parse (W : World) : Calls Tryz.prog 23 #[S (([105, 110, 116, 32, 102, 40, 105, 110, 116, 32, 110, 41, 32, 123, 32, 105, 102, 32, 40, 110, 32, 61, 61, 32, 48, 41, 32, 123, 32, 114, 101, 116, 117, 114, 110, 32, 48, 59, 32, 125, 32, 114, 101].append [116, 117, 114, 110, 32, 102, 40, 110, 32, 45, 32, 49, 41, 32, 43, 32, 49, 59, 32, 125, 32, 105, 110, 116, 32, 109, 97, 105, 110, 40, 41, 32, 123, 32, 105, 110, 116, 32, 120, 59, 32, 105, 110]).append ([116, 32, 115, 59, 32, 120, 32, 61, 32, 114, 101, 97, 100, 40, 41, 59, 32, 119, 104, 105, 108, 101, 32, 40, 120, 32, 62, 32, 48, 41, 32, 123, 32, 115, 32, 61, 32, 115, 32, 43, 32, 120, 59].append [32, 120, 32, 61, 32, 120, 32, 45, 32, 49, 59, 32, 125, 32, 112, 114, 105, 110, 116, 40, 115, 41, 59, 32, 114, 101, 116, 117, 114, 110, 32, 102, 40, 114, 101, 97, 100, 40, 41, 41, 59, 32, 125]))] W fun e w' => ∃ av fv, e = .returned (.tuple #[.agg #[av, fv], I 0, I 0]) ∧ PX (W.heap.size ≤ ·) w' av fv ncP ∧ Below W.heap.size W w' := by
  have h := parse_yes ncText nc_asc (by decide +kernel) 1000 100 100 ncToks ncUs ncP nc_scan (by decide) nc_ended nc_prog nc_runs.okp W
  rw [nc_lit] at h
  exact h
set_option maxRecDepth 100000 in
set_option maxHeartbeats 16000000 in
theorem evalCounts_any (n deep : Int) (W : World) (hn : InI n) (hdp : InI deep) : Calls Tryz.prog 6 #[I n, I deep] W fun en w' => en = .returned (.bool true) ∧ Below W.heap.size W w' := by
  obtain ⟨hk0, hk1⟩ := pickI_nonneg n 101 (by decide)
  obtain ⟨hd0, hd1⟩ := pickI_nonneg deep 101 (by decide)
  obtain ⟨k, hk⟩ : ∃ k : Nat, pickI n 101 = (k : Int) := ⟨(pickI n 101).toNat, by omega⟩
  obtain ⟨d, hd⟩ : ∃ d : Nat, pickI deep 101 = (d : Int) := ⟨(pickI deep 101).toNat, by omega⟩
  have hk9 : k ≤ 100 := by omega
  have hd9 : d ≤ 100 := by omega
  have HPA := Lib.hid nc_parse
  have HRN := Lib.hid (fun (av fv iv : Value) (X : World) hx hi => run_any ncP nc_runs av fv iv [(k : Int), (d : Int)] 100000 X hx hi (by decide) 200001 (by decide))
  have HP1 := Lib.hid (fun W => (show Calls Tryz.prog 15 #[I n, I 101] W fun e w' => e = .returned (I (k : Int)) ∧ w' = W by rw [← hk]; exact pick15_any n 101 hn (by decide) (by decide) W))
  have HP2 := Lib.hid (fun W => (show Calls Tryz.prog 15 #[I deep, I 101] W fun e w' => e = .returned (I (d : Int)) ∧ w' = W by rw [← hd]; exact pick15_any deep 101 hdp (by decide) (by decide) W))
  have HT := Lib.hid (tri_half k hk9)
  have HR := Lib.hid (nc_run k d hk9 hd9)
  clear hk hd hk0 hk1 hd0 hd1 hn hdp
  go_enter Tryz.func6, Tryz.ntmps6
  go_upto_region 2 with (first
    | (go_at_call 11; refine (awake_any _).mono ?_; rintro e' w1 ⟨rfl, hb1⟩; have HB1 := Lib.hid hb1; clear hb1))
  go_upto_region 3 with (first
    | (go_at_call 23; refine (HPA.out _).mono ?_; rintro e' w2 ⟨av, fv, rfl, hx2, hb2⟩; obtain ⟨ra, rc, fa, fc, rfl, rfl⟩ := hx2.slice; have HX2 := Lib.hid hx2.lt; have HB2 := Lib.hid (HB1.out.trans (hb2.mono HB1.out.size)); clear hx2 hb2))
  obtain ⟨w3, hw3⟩ : ∃ w, w = w2.alloc (.cells #[.slice ra ncP.arrays.length rc, .slice fa ncP.funcs.length fc] 27) := ⟨_, rfl⟩
  have hb3 : Below w2.heap.size w2 w3 := by rw [hw3]; exact below_a1 _ _
  have ht3 : Row w3 w2.heap.size 27 [.slice ra ncP.arrays.length rc, .slice fa ncP.funcs.length fc] := by rw [hw3]; exact heap_new _ _
  have hx3 := (HX2.out.below hb3).lt
  obtain ⟨tb, htb⟩ : ∃ n, n = w2.heap.size := ⟨_, rfl⟩
  rw [← hw3]
  rw [← htb] at ht3 ⊢
  have c0 := ht3.cell 0
  have c1 := ht3.cell 1
  simp only [List.getElem?_cons_zero, List.getElem?_cons_succ] at c0 c1
  have HB3 := Lib.hid (HB2.out.trans (hb3.mono HB2.out.size))
  have HX4 := Lib.hid (hx3.below (below_a1 w3 (.cells #[I (k : Int), I (d : Int)] 3))).lt
  have HI4 := Lib.hid ((OwnInts.block (base := 0) (w := w3.alloc (.cells #[I (k : Int), I (d : Int)] 3)) (g := w3.heap.size) [(k : Int), (d : Int)] (by omega) (heap_new _ _) (by simp [maxLen])).rin (by simp))
  clear hw3 hb3 ht3 hx3 htb
  go_upto_region 4 with (first
    | (go_at_call 15; refine (HP1.out w3).mono ?_; rintro e' wp1 ⟨rfl, rfl⟩))
  go_upto_region 5 with (first
    | (go_at_call 15; refine (HP2.out wp1).mono ?_; rintro e' w4 ⟨rfl, rfl⟩))
  obtain ⟨st, cd, sn, hR, hcs⟩ : ∃ (st cd : Int) (sn : Nat), ncR k d = ⟨st, cd, [(tri k : Int)], sn⟩ ∧ ((d ≤ 48 ∧ st = 1 ∧ cd = d) ∨ (48 < d ∧ st = 4 ∧ cd = 0)) := by
    unfold ncR
    by_cases h : d ≤ 48
    · rw [if_pos h]; exact ⟨_, _, _, rfl, .inl ⟨h, rfl, rfl⟩⟩
    · rw [if_neg h]; exact ⟨_, _, _, rfl, .inr ⟨by omega, rfl, rfl⟩⟩
  have HCS := Lib.hid hcs
  clear hcs
  have hrn := HRN.out
  rw [HR.out, hR] at hrn
  have HRN2 := Lib.hid hrn
  clear hrn HRN
  go_upto_region 6 with (first
    | (go_at_call 17; refine (HRN2.out _ _ _ _ HX4.out HI4.out).mono ?_; rintro e' w5 ⟨ov, rfl, ho, hb5⟩; obtain ⟨oa, oc, rfl⟩ := ho.slice; have HO5 := Lib.hid ho; have HB5 := Lib.hid (HB3.out.trans (((below_a1 w4 (.cells #[I (k : Int), I (d : Int)] 3)).trans (hb5.mono (by simp))).mono HB3.out.size)); clear ho hb5 c0 c1)
    | (refine store_first 37 (.tmp 11) (.tmp 26) rfl ?_; refine wpList_store_row rfl 37 (.tmp 11) (.tmp 26) rfl w5.heap.size _ rfl rfl 37 r37Z (heap_new _ _) (by kernel_rfl) (by rfl) (by simp [Value.oneCell']) ?_; rw [World.setRow_alloc_new]))
  obtain ⟨w6, hw6⟩ : ∃ w, w = w5.alloc (.cells #[I st, I cd, .slice oa 1 oc, I sn] 37) := ⟨_, rfl⟩
  obtain ⟨r1, hr1⟩ : ∃ n, n = w5.heap.size := ⟨_, rfl⟩
  have hb6 : Below w5.heap.size w5 w6 := by rw [hw6]; exact below_a1 _ _
  have ht6 : Row w6 r1 37 [I st, I cd, .slice oa 1 oc, I sn] := by rw [hw6, hr1]; exact heap_new _ _
  obtain ⟨g, cap, hv, hc⟩ := (HO5.out.ext hb6).cell (i := 0) (x := (tri k : Int)) rfl
  obtain ⟨rfl, rfl⟩ : oa = some ⟨g, 0, none⟩ ∧ oc = cap := by simpa using hv
  change Code.wp _ _ _ _ (w5.alloc (.cells #[I st, I cd, .slice (some ⟨g, 0, none⟩) 1 oc, I sn] 37))
  rw [← hw6, ← hr1]
  have a0 := ht6.cell 0
  have a1 := ht6.cell 1
  have a2 := ht6.cell 2
  simp only [List.getElem?_cons_zero, List.getElem?_cons_succ] at a0 a1 a2
  have HB6 := Lib.hid (HB5.out.trans (hb6.mono HB5.out.size))
  clear hw6 hr1 hb6 ht6 hv
  obtain ⟨K, hK⟩ : ∃ K : Int, K = (k : Int) := ⟨_, rfl⟩
  obtain ⟨T, hT⟩ : ∃ T : Int, T = (tri k : Int) := ⟨_, rfl⟩
  have ht := HT.out
  have hk0 : (0 : Int) ≤ k := by omega
  have hk1 : (k : Int) ≤ 100 := by omega
  have hm : (k : Int) * (k + 1) ≤ 100 * 101 := Int.mul_le_mul hk1 (by omega) (by omega) (by omega)
  have hm0 : 0 ≤ (k : Int) * (k + 1) := Int.mul_nonneg hk0 (by omega)
  have e1 : wrap64 ((k : Int) + 1) = k + 1 := wrap_small (by omega)
  have e2 : wrap64 ((k : Int) * (k + 1)) = (k : Int) * (k + 1) := wrap_small (by omega)
  have e3 : wrap64 ((tri k : Int)) = tri k := wrap_small (by have := tri_le k hk9; omega)
  rw [← hK] at ht e1 e2 ⊢
  rw [← hT] at ht e3 hc
  have HKK := Lib.hid hK
  have HTT := Lib.hid hT
  clear hK hT hk0 hk1 hm hm0 hR HPA HP1 HP2 HT HR HRN2 HX2 HX4 HI4
  go_upto_region 8 with (fail)
  clear ht e1 e2 e3 hc
  rcases HCS.out with ⟨h1, rfl, rfl⟩ | ⟨h1, rfl, rfl⟩
  · have h2 : ¬ (48 : Int) < (d : Int) := by omega
    clear HCS h1
    go_wp2
    go_ret
    exact ⟨rfl, HB6.out⟩
  · have h2 : (48 : Int) < (d : Int) := by omega
    clear HCS h1
    go_wp2
    go_ret
    exact ⟨rfl, HB6.out⟩
end Go.Proofs.YtjgbkdbkachciaaGreatDoor
