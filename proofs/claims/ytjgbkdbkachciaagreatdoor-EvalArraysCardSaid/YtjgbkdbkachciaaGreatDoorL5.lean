import Derived.Test.YtjgbkdbkachciaaGreatDoorK3
import Derived.Test.YtjgbkdbkachciaaGreatDoorK6
import Derived.Test.YtjgbkdbkachciaaGreatDoorE5
import Derived.Test.YtjgbkdbkachciaaGreatDoorZ7
import Derived.Test.YtjgbkdbkachciaaGreatDoorL4
namespace Go.Proofs.YtjgbkdbkachciaaGreatDoor
open Go.RowKit Go.Shelf
attribute [local go_sem] Oper.semAt_some

def baText : Str := [105, 110, 116, 32, 97, 91, 49, 48, 93, 59, 32, 105, 110, 116, 32, 98, 91, 49, 48, 93, 59, 32, 105, 110, 116, 32, 109, 97, 105, 110, 40, 41, 32, 123, 32, 97, 91, 114, 101, 97, 100, 40, 41, 93, 32, 61, 32, 114, 101, 97, 100, 40, 41, 59, 32, 105, 110, 116, 32, 120, 59, 32, 125]
def baToks : List Tok := (scanF 1000 1 baText).getD []
theorem ba_scan : scanF 1000 1 baText = some baToks := by kernel_rfl
theorem ba_prog : pgB 100 100 100 baToks = some 1 := by kernel_rfl
theorem ba_ended : Ended baToks := ended_of (by kernel_rfl)
theorem ba_asc : Asc baText := asc_of (by decide +kernel)
theorem ba_parse (W : World) : Calls Tryz.prog 23 #[S [105, 110, 116, 32, 97, 91, 49, 48, 93, 59, 32, 105, 110, 116, 32, 98, 91, 49, 48, 93, 59, 32, 105, 110, 116, 32, 109, 97, 105, 110, 40, 41, 32, 123, 32, 97, 91, 114, 101, 97, 100, 40, 41, 93, 32, 61, 32, 114, 101, 97, 100, 40, 41, 59, 32, 105, 110, 116, 32, 120, 59, 32, 125]] W fun e w' => e = .returned (.tuple #[.agg #[.slice none 0 0, .slice none 0 0], I 40, I 1]) ∧ Below W.heap.size W w' :=
  parse_bad baText ba_asc (by decide +kernel) 1000 100 100 baToks 1 ba_scan (by decide) ba_ended ba_prog W
theorem ra_lit : raText = ([105, 110, 116, 32, 97, 91, 49, 48, 93, 59, 32, 105, 110, 116, 32, 98, 91, 49, 48, 93, 59, 32, 105, 110, 116, 32, 109, 97, 105, 110, 40, 41, 32, 123, 32, 97, 91, 114, 101, 97, 100, 40, 41, 93, 32, 61].append [32, 114, 101, 97, 100, 40, 41, 59, 32, 112, 114, 105, 110, 116, 40, 97, 91, 114, 101, 97, 100, 40, 41, 93, 41, 59, 32, 112, 114, 105, 110, 116, 40, 98, 91, 114, 101, 97, 100, 40, 41, 93, 41, 59, 32, 125]) := by kernel_rfl
theorem ra_parse (W : World) : Calls Tryz.prog 23 #[S ([105, 110, 116, 32, 97, 91, 49, 48, 93, 59, 32, 105, 110, 116, 32, 98, 91, 49, 48, 93, 59, 32, 105, 110, 116, 32, 109, 97, 105, 110, 40, 41, 32, 123, 32, 97, 91, 114, 101, 97, 100, 40, 41, 93, 32, 61].append [32, 114, 101, 97, 100, 40, 41, 59, 32, 112, 114, 105, 110, 116, 40, 97, 91, 114, 101, 97, 100, 40, 41, 93, 41, 59, 32, 112, 114, 105, 110, 116, 40, 98, 91, 114, 101, 97, 100, 40, 41, 93, 41, 59, 32, 125])] W fun e w' => ∃ av fv, e = .returned (.tuple #[.agg #[av, fv], I 0, I 0]) ∧ PX (W.heap.size ≤ ·) w' av fv raP ∧ Below W.heap.size W w' := by
  have h := parse_yes raText ra_asc (by decide +kernel) 1000 100 100 raToks raUs raP ra_scan (by decide) ra_ended ra_prog ra_runs.okp W
  rw [ra_lit] at h
  exact h
theorem raR_cases (i k v : Int) : ∃ (st : Int) (out : List Int) (sn : Nat), raR i k v = ⟨st, 0, out, sn⟩ ∧ (((i < 0 ∨ 9 < i) ∧ st = 3 ∧ out = []) ∨ ((0 ≤ i ∧ i ≤ 9) ∧ st = 1 ∧ out = [if i = k then v else 0, 0])) := by
  unfold raR
  by_cases h : i < 0 ∨ 9 < i
  · rw [if_pos h]; exact ⟨_, _, _, rfl, .inl ⟨h, rfl, rfl⟩⟩
  · rw [if_neg h]; exact ⟨_, _, _, rfl, .inr ⟨by omega, rfl, rfl⟩⟩
set_option maxRecDepth 100000 in
set_option maxHeartbeats 16000000 in
theorem evalArrays_any (at_ other v : Int) (W : World) (ha : InI at_) (ho : InI other) (_hv : InI v) : Calls Tryz.prog 7 #[I at_, I other, I v] W fun en w' => en = .returned (.bool true) ∧ Below W.heap.size W w' := by
  obtain ⟨hj0, hj1⟩ := pickI_nonneg at_ 14 (by decide)
  obtain ⟨hk0, hk1⟩ := pickI_nonneg other 10 (by decide)
  obtain ⟨j, hj⟩ : ∃ j : Int, j = pickI at_ 14 := ⟨_, rfl⟩
  obtain ⟨k, hk⟩ : ∃ k : Int, k = pickI other 10 := ⟨_, rfl⟩
  obtain ⟨i, hi⟩ : ∃ i : Int, i = j - 2 := ⟨_, rfl⟩
  rw [← hj] at hj0 hj1
  rw [← hk] at hk0 hk1
  have e1 : wrap64 (j - 2) = i := by rw [hi]; exact wrap_small (by omega)
  obtain ⟨st, out, sn, hR, hcs⟩ := raR_cases i k v
  have hrn := fun (av fv iv : Value) (X : World) hx hi => run_any raP ra_runs av fv iv [i, v, k, k] 999 X hx hi (by decide) 2000 (by decide)
  rw [ra_run i k v (by omega) (by omega), hR] at hrn
  have HRN := Lib.hid hrn
  have HBA := Lib.hid ba_parse
  have HPA := Lib.hid ra_parse
  have HP1 := Lib.hid (fun W => (show Calls Tryz.prog 15 #[I at_, I 14] W fun e w' => e = .returned (I j) ∧ w' = W by rw [hj]; exact pick15_any at_ 14 ha (by decide) (by decide) W))
  have HP2 := Lib.hid (fun W => (show Calls Tryz.prog 15 #[I other, I 10] W fun e w' => e = .returned (I k) ∧ w' = W by rw [hk]; exact pick15_any other 10 ho (by decide) (by decide) W))
  have HCS := Lib.hid hcs
  obtain ⟨N, hN⟩ : ∃ N, N = out.length := ⟨_, rfl⟩
  have HN := Lib.hid hN
  clear hrn hcs hj hk hi hR ha ho hj0 hj1 hk0 hk1 hN
  go_enter Tryz.func7, Tryz.ntmps7
  go_upto_region 2 with (first
    | (go_at_call 11; refine (awake_any _).mono ?_; rintro e' w1 ⟨rfl, hb1⟩; have HB1 := Lib.hid hb1; clear hb1))
  go_upto_region 3 with (first
    | (go_at_call 23; refine (HBA.out _).mono ?_; rintro e' w2 ⟨rfl, hb2⟩; have HB2 := Lib.hid (HB1.out.trans (hb2.mono HB1.out.size)); clear hb2))
  obtain ⟨w3, hw3⟩ : ∃ w, w = w2.alloc (.cells #[.slice none 0 0, .slice none 0 0] 27) := ⟨_, rfl⟩
  have hb3 : Below w2.heap.size w2 w3 := by rw [hw3]; exact below_a1 _ _
  have ht3 : Row w3 w2.heap.size 27 [.slice none 0 0, .slice none 0 0] := by rw [hw3]; exact heap_new _ _
  obtain ⟨pb, hpb⟩ : ∃ n, n = w2.heap.size := ⟨_, rfl⟩
  rw [← hw3]
  rw [← hpb] at ht3 ⊢
  have HB3 := Lib.hid (HB2.out.trans (hb3.mono HB2.out.size))
  have HT3 := Lib.hid ht3
  clear hw3 hb3 ht3 hpb
  go_upto_region 4 with (first
    | (go_at_call 23; refine (HPA.out _).mono ?_; rintro e' w4 ⟨av, fv, rfl, hx4, hb4⟩; obtain ⟨ra, rc, fa, fc, rfl, rfl⟩ := hx4.slice; have HX4 := Lib.hid hx4.lt; have HT4 := Lib.hid (HT3.out.ext hb4); have HB4 := Lib.hid (HB3.out.trans (hb4.mono HB3.out.size)); clear hx4 hb4))
  obtain ⟨w5, hw5⟩ : ∃ w, w = w4.alloc (.cells #[.slice ra raP.arrays.length rc, .slice fa raP.funcs.length fc] 27) := ⟨_, rfl⟩
  have hb5 : Below w4.heap.size w4 w5 := by rw [hw5]; exact below_a1 _ _
  have ht5 : Row w5 w4.heap.size 27 [.slice ra raP.arrays.length rc, .slice fa raP.funcs.length fc] := by rw [hw5]; exact heap_new _ _
  have hx5 := (HX4.out.below hb5).lt
  obtain ⟨tb, htb⟩ : ∃ n, n = w4.heap.size := ⟨_, rfl⟩
  rw [← hw5]
  rw [← htb] at ht5 ⊢
  have c0 := ht5.cell 0
  have c1 := ht5.cell 1
  simp only [List.getElem?_cons_zero, List.getElem?_cons_succ] at c0 c1
  have HB5 := Lib.hid (HB4.out.trans (hb5.mono HB4.out.size))
  have HT5 := Lib.hid (HT4.out.ext hb5)
  have HX6 := Lib.hid (hx5.below (below_a1 w5 (.cells #[I i, I v, I k, I k] 3))).lt
  have HI6 := Lib.hid ((OwnInts.block (base := 0) (w := w5.alloc (.cells #[I i, I v, I k, I k] 3)) (g := w5.heap.size) [i, v, k, k] (by omega) (heap_new _ _) (by simp [maxLen])).rin (by simp))
  clear hw5 hb5 ht5 hx5 htb HX4
  go_upto_region 5 with (first
    | (go_at_call 15; refine (HP1.out w5).mono ?_; rintro e' wp1 ⟨rfl, rfl⟩))
  rw [e1]
  clear e1
  go_upto_region 6 with (first
    | (go_at_call 15; refine (HP2.out wp1).mono ?_; rintro e' w6 ⟨rfl, rfl⟩))
  go_upto_region 7 with (first
    | (go_at_call 17; refine (HRN.out _ _ _ _ HX6.out HI6.out).mono ?_; rintro e' w7 ⟨ov, rfl, ho, hb7⟩; obtain ⟨oa, oc, rfl⟩ := ho.slice; have HO7 := Lib.hid ho; have HB56 := Lib.hid ((below_a1 w6 (.cells #[I i, I v, I k, I k] 3)).trans (hb7.mono (by simp))); have HT7 := Lib.hid (HT5.out.ext HB56.out); have HB7 := Lib.hid (HB5.out.trans (HB56.out.mono HB5.out.size)); clear ho hb7 c0 c1)
    | (refine store_first 37 (.tmp 16) (.tmp 40) rfl ?_; refine wpList_store_row rfl 37 (.tmp 16) (.tmp 40) rfl w7.heap.size _ rfl rfl 37 r37Z (heap_new _ _) (by kernel_rfl) (by rfl) (by simp [Value.oneCell']) ?_; rw [World.setRow_alloc_new]))
  obtain ⟨w8, hw8⟩ : ∃ w, w = w7.alloc (.cells #[I st, I 0, .slice oa out.length oc, I sn] 37) := ⟨_, rfl⟩
  obtain ⟨r1, hr1⟩ : ∃ n, n = w7.heap.size := ⟨_, rfl⟩
  have hb8 : Below w7.heap.size w7 w8 := by rw [hw8]; exact below_a1 _ _
  have ht8 : Row w8 r1 37 [I st, I 0, .slice oa out.length oc, I sn] := by rw [hw8, hr1]; exact heap_new _ _
  have hl8 := HO7.out.ext hb8
  change Code.wp _ _ _ _ (w7.alloc (.cells #[I st, I 0, .slice oa out.length oc, I sn] 37))
  rw [← hw8, ← hr1]
  have p1 := (HT7.out.ext hb8).cell 1
  have a0 := ht8.cell 0
  have a1 := ht8.cell 1
  have a2 := ht8.cell 2
  simp only [List.getElem?_cons_zero, List.getElem?_cons_succ] at p1 a0 a1 a2
  have HB8 := Lib.hid (HB7.out.trans (hb8.mono HB7.out.size))
  have HL8 := Lib.hid hl8
  clear hw8 hr1 hb8 ht8 hl8 HRN HBA HPA HP1 HP2 HX6 HI6 HT3 HT4 HT5 HT7 HO7
  have HA0 := Lib.hid a0
  have HA1 := Lib.hid a1
  have HA2 := Lib.hid a2
  clear a0 a1 a2
  go_upto_region 9 with (fail)
  clear p1
  have a0 := HA0.out
  have a1 := HA1.out
  have a2 := HA2.out
  rcases HCS.out with ⟨hi, rfl, rfl⟩ | ⟨⟨hi0, hi9⟩, rfl, rfl⟩
  · simp only [List.length_nil] at a2
    clear HA0 HA1 HA2 HCS a1 HN HL8
    rcases hi with hi | hi
    · go_wp2
      go_ret
      exact ⟨rfl, HB8.out⟩
    · have hi2 : ¬ i < 0 := by omega
      go_wp2
      go_ret
      exact ⟨rfl, HB8.out⟩
  · obtain ⟨x0, hx0⟩ : ∃ x : Int, x = (if i = k then v else 0) := ⟨_, rfl⟩
    rw [← hx0] at HL8 a2 HN
    obtain ⟨g, cap, hv, hc⟩ := HL8.out.cell (i := 0) (x := x0) rfl
    obtain ⟨g', cap', hv', hc'⟩ := HL8.out.cell (i := 1) (x := 0) rfl
    obtain ⟨rfl, rfl⟩ : oa = some ⟨g, 0, none⟩ ∧ oc = cap := by simpa using hv
    obtain rfl : g' = g := by
      have := hv'
      simp only [Value.slice.injEq, Option.some.injEq, Addr.mk.injEq] at this
      exact this.1.1.symm
    simp only [List.length_cons, List.length_nil, Nat.zero_add, Nat.reduceAdd] at a2
    have hi1 : ¬ i < 0 := by omega
    have hi2 : ¬ 9 < i := by omega
    have HX0 := Lib.hid hx0
    clear hv hv' HA0 HA1 HA2 HCS HL8 HN hx0 hi0 hi9
    by_cases hik : i = k
    · subst hik
      have hx : x0 = v := by rw [HX0.out, if_pos rfl]
      subst hx
      clear HX0
      go_wp2
      go_ret
      exact ⟨rfl, HB8.out⟩
    · have hx : x0 = 0 := by rw [HX0.out, if_neg hik]
      subst hx
      clear HX0
      go_wp2
      go_ret
      exact ⟨rfl, HB8.out⟩
end Go.Proofs.YtjgbkdbkachciaaGreatDoor
