import Derived.Test.YtjgbkdbkachciaaGreatDoorT5
import Derived.Recover
namespace Go.Proofs.YtjgbkdbkachciaaGreatDoor
open Go.RowKit Go.Shelf
attribute [local go_sem] Oper.semAt_some

theorem assert_nil (w : World) : (Instr.typeAssert Value.nilIface 20 114 true).run Tryz.prog w = .ok (.tuple #[.agg #[I 0], .bool false]) w := by kernel_rfl
set_option maxRecDepth 100000 in
set_option maxHeartbeats 400000 in
theorem whole1_idle (p4 p5 p6 : Value) (w : World) :
    CallsD Tryz.prog 69 #[p4, p5, p6] .returning w fun e u' w' => e = .returned (.tuple #[]) ∧ u' = .returning ∧ Below w.heap.size w w' := by
  refine callsD_of_wpS Tryz.func69 rfl fun c₀ cs hu => ?_
  apply wpS_seq
  apply wpS_region
  have hta := assert_nil
  simp [wpOpsS, go_sem, recoverD, hu, Tryz.ntmps69, Exit.thenS, hta]
  apply wpS_seq
  apply wpS_region
  simp [wpOpsS, go_sem, Exit.thenS]
  refine wpS_cond (t := false) (by simp [Act.eval, Array.replicate]) ?_
  simp only [Bool.false_eq_true, if_false]
  refine wpS_of_wp (wp_skip ?_)
  have hb := below_a1 w (.cells #[.int .i64 0] 114)
  cases c₀
  simp_all [bodyPostS, results, Tryz.results69]
/-- what was scanned, as a parser's own -/
theorem toks_of {w : World} {base : Nat} {v : Value} {toks : List Tok} (h : OwnS 4 119 tEnc w base v toks) (hne : toks ≠ []) : ∃ tb c, v = .slice (some ⟨tb, 0, none⟩) toks.length c ∧ toks.length ≤ c ∧ base ≤ tb ∧ tb < w.heap.size ∧ Toks w tb 0 toks := by
  have h0 : 0 < toks.length := List.length_pos_iff.2 hne
  have hcell : ∀ i, (hi : i < toks.length) → _ := fun i hi => OwnS.cell h tEnc_len hi
  rcases h.2 with ⟨rfl, h1⟩ | ⟨g, cap, cur, rfl, hb, hg, hc, _⟩
  · omega
  · refine ⟨g, cap, rfl, hc, hb, (Array.getElem?_eq_some_iff.1 hg).1, fun i t ht j hj => ?_⟩
    have hi : i < toks.length := (List.getElem?_eq_some_iff.1 ht).1
    obtain ⟨g2, c2, hv, _, hcl⟩ := hcell i hi
    simp only [Value.slice.injEq, Option.some.injEq, Addr.mk.injEq] at hv
    obtain rfl : g2 = g := hv.1.1.symm
    rw [Nat.zero_add, (hcl j hj).1]
    have : toks[i] = t := by
      rw [List.getElem?_eq_getElem hi] at ht
      exact Option.some.inj ht
    rw [this]
end Go.Proofs.YtjgbkdbkachciaaGreatDoor

namespace Go.Proofs.YtjgbkdbkachciaaGreatDoor
open Go.RowKit Go.Shelf
attribute [local go_sem] Oper.semAt_some

theorem PS.grown {W W' : World} {pb tb : Nat} {ts : List Tok} {row : Option Nat} (h : PS W pb tb ts) (hg : W.grownBy W' row) (h1 : some pb ≠ row) (h2 : some tb ≠ row) : PS W' pb tb ts := by
  obtain ⟨o, c, k1, k2, k3, k4⟩ := h
  exact ⟨o, c, k1, grown_old hg k2 h1, k3, k4.ext hg h2⟩
theorem results_whole {tmps : Array Value} {w : World} {n : Nat} {a b x y : Value} (h4 : tmps.getD 4 undef = .pointer (some ⟨n, 0, none⟩)) (h5 : tmps.getD 5 undef = .pointer (some ⟨n + 1, 0, none⟩)) (h6 : tmps.getD 6 undef = .pointer (some ⟨n + 1 + 1, 0, none⟩))
    (hr : Row w n 27 [a, b]) (hs : Row w (n + 1) 44 [x]) (ht : Row w (n + 1 + 1) 3 [y]) : (results Tryz.f41 tmps).run Tryz.prog w = .ok (.tuple #[.agg #[a, b], x, y]) w := by
  have h4' : tmps[4]?.getD undef = .pointer (some ⟨n, 0, none⟩) := by simpa using h4
  have h5' : tmps[5]?.getD undef = .pointer (some ⟨n + 1, 0, none⟩) := by simpa using h5
  have h6' : tmps[6]?.getD undef = .pointer (some ⟨n + 1 + 1, 0, none⟩) := by simpa using h6
  have s0 := hs.cell 0
  have t0 := ht.cell 0
  simp only [List.getElem?_cons_zero] at s0 t0
  have r0 := hr.cell 0
  have r1 := hr.cell 1
  simp only [List.getElem?_cons_zero, List.getElem?_cons_succ] at r0 r1
  simp [results, h4', h5', h6', asAddr, go_sem, r0, r1, s0, t0]
set_option maxRecDepth 100000 in
set_option maxHeartbeats 4000000 in
theorem whole_yes (l0 : Str) (ha : Asc l0) (hl : l0.length ≤ 20000) (fuel k g : Nat) (toks us : List Tok) (p : LP) (ht : scanF fuel 1 l0 = some toks) (hg : g ≤ 100000) (he : Ended toks) (hp : pgF k g g true toks = some (p, us)) (w : World) :
    Calls Tryz.prog 41 #[S l0, .func (.func 42) #[] #[]] w fun e w' => ∃ av fv, e = .returned (.tuple #[.agg #[av, fv], I 0, I 0]) ∧ PX (w.heap.size ≤ ·) w' av fv p ∧ Below w.heap.size w w' := by
  have hmf : ∀ (fn : Fn) (first cap : Array Value) (w : World), (Instr.makeFunc fn first cap).run Tryz.prog w = .ok (.func fn first cap) w := fun _ _ _ _ => rfl
  have hfd := tok_f0
  have HSC := Lib.hid (fun W => scan_yes l0 ha hl fuel toks ht W)
  have HPR := Lib.hid (fun W pb tb (hh : PS W pb tb toks) => prog_yes k g g pb tb toks us p W hh he hg hg hp)
  have hne : toks ≠ [] := by
    obtain ⟨t, r, rfl⟩ := he.cons
    simp
  have HNE := Lib.hid hne
  clear ha hl ht hg he hp hne
  go_enter_defers Tryz.func41, Tryz.ntmps41
  go_upto_region 1 with (fail)
  obtain ⟨w0, hw0⟩ : ∃ w0, w0 = ((w.alloc (.cells pZ 27)).alloc (.cells #[.int .i64 0] 44)).alloc (.cells #[.int .i64 0] 3) := ⟨_, rfl⟩
  have hr0 : Row w0 w.heap.size 27 [.slice none 0 0, .slice none 0 0] := by rw [hw0]; exact heap_old _ _ (heap_old _ _ (heap_new _ _))
  have hs0 : Row w0 (w.heap.size + 1) 44 [.int .i64 0] := by rw [hw0]; exact heap_old _ _ (heap_at (by simp))
  have ht0 : Row w0 (w.heap.size + 1 + 1) 3 [.int .i64 0] := by rw [hw0]; exact heap_at (by simp)
  have hb0 : Below w.heap.size w w0 := by rw [hw0]; exact ((below_a1 w _).alloc (by simp) _).alloc (by simp; omega) _
  have hz0 := hb0.size
  have hl0 := ht0.lt
  rw [← hw0]
  have HB0 := Lib.hid hb0
  have HR0 := Lib.hid hr0
  have HS0 := Lib.hid hs0
  have HT0 := Lib.hid ht0
  clear hw0 hr0 hs0 ht0 hb0
  go_upto_region 2 with (first
    | (go_at_call 68; refine (HSC.out w0).mono ?_; rintro e' w1 ⟨v, rfl, ho, hb1⟩; obtain ⟨tb, c, rfl, hc, hbt, htl, htk⟩ := toks_of ho HNE.out; have hr1 := HR0.out.ext hb1; have hs1 := HS0.out.ext hb1; have ht1 := HT0.out.ext hb1; have s0 := hs1.cell 0; have t0 := ht1.cell 0; have s0f := hs1.frozen 0; have t0f := ht1.frozen 0; simp only [List.getElem?_cons_zero] at s0 t0; have HR1 := Lib.hid hr1; have HS1 := Lib.hid hs1; have HT1 := Lib.hid ht1; have HB1 := Lib.hid (HB0.out.trans (hb1.mono hz0)); have HTK := Lib.hid htk; clear ho hb1 htk hr1 hs1 ht1))
  have hz1 := HB1.out.size
  have hl1 := HT1.out.lt
  obtain ⟨w2, hw2⟩ : ∃ w2, w2 = ((w1.setCell ⟨w.heap.size + 1, 0, none⟩ (I 0)).setCell ⟨w.heap.size + 1 + 1, 0, none⟩ (I 0)) := ⟨_, rfl⟩
  have hg1 := setCell_grown w1 (w.heap.size + 1) 0 (I 0)
  have hg2 := setCell_grown (w1.setCell ⟨w.heap.size + 1, 0, none⟩ (I 0)) (w.heap.size + 1 + 1) 0 (I 0)
  rw [← hw2] at hg2
  have hR2 : Row w2 w.heap.size 27 [.slice none 0 0, .slice none 0 0] := (HR1.out.kept hg1 (by simp)).kept hg2 (by simp; omega)
  have hS2 : Row w2 (w.heap.size + 1) 44 [I 0] := by rw [hw2]; exact Row.kept (HS1.out.set 0 (I 0)) (setCell_grown _ _ _ _) (by simp)
  have hT2 : Row w2 (w.heap.size + 1 + 1) 3 [I 0] := by rw [hw2]; exact Row.set (HT1.out.kept hg1 (by simp)) 0 (I 0)
  have hB2 : Below w.heap.size w w2 := (HB1.out.grown hg1 (by omega) (fun r e => by cases e; omega)).grown hg2 (by have := hg1.size; omega) (fun r e => by cases e; omega)
  have hK2 : Toks w2 tb 0 toks := (HTK.out.ext hg1 (by simp; omega)).ext hg2 (by simp; omega)
  have hlt2 : tb < w2.heap.size := by have := hg1.size; have := hg2.size; omega
  rw [← hw2]
  have HR2 := Lib.hid hR2
  have HS2 := Lib.hid hS2
  have HT2 := Lib.hid hT2
  have HB2 := Lib.hid hB2
  have HK2 := Lib.hid hK2
  have s0 := hS2.cell 0
  simp only [List.getElem?_cons_zero] at s0
  clear hw2 hg1 hg2 hR2 hS2 hT2 hB2 hK2 t0 s0f t0f
  have hps : PS (w2.alloc (.cells #[.slice (some ⟨tb, 0, none⟩) toks.length c] 117)) w2.heap.size tb toks := ⟨0, c, hc, heap_new _ _, by omega, HK2.out.ext (alloc_grown _ _ none) (by simp)⟩
  have HPS := Lib.hid hps
  have hz2 := HB2.out.size
  have hl2 := HT2.out.lt
  clear hps
  go_upto_region 7 with (first
    | (go_at_call 42; refine (HPR.out _ _ _ HPS.out).mono ?_; rintro e' w3 ⟨av, fv, rfl, hpx, hpg, t, r, rfl, h5⟩; obtain ⟨ra, rc, fa, fc, rfl, rfl⟩ := hpx.slice; have HX3 := Lib.hid hpx; have HP3 := Lib.hid hpg; have H5 := Lib.hid h5; have HR3 := Lib.hid (hpg.row (heap_old _ _ HR2.out) (by omega)); have HS3 := Lib.hid (hpg.row (heap_old _ _ HS2.out) (by omega)); have HT3 := Lib.hid (hpg.row (heap_old _ _ HT2.out) (by omega)); clear hpx hpg h5)
    | (refine store_first 27 (.tmp 4) (.tmp 26) rfl ?_; refine wpList_store_row rfl 27 (.tmp 4) (.tmp 26) rfl w.heap.size _ rfl rfl 27 pZ HR3.out (by kernel_rfl) (by rfl) (by simp [Value.oneCell']) ?_))
  have hz3 := HP3.out.1.size
  rw [World.size_alloc] at hz3
  obtain ⟨w4, hw4⟩ : ∃ w4, w4 = w3.setRow w.heap.size #[.slice ra p.arrays.length rc, .slice fa p.funcs.length fc] := ⟨_, rfl⟩
  have hg4 : w3.grownBy w4 (some w.heap.size) := by rw [hw4]; exact setRow_grown
  have hr4 : Row w4 w.heap.size 27 [.slice ra p.arrays.length rc, .slice fa p.funcs.length fc] := by rw [hw4]; exact setRow_heap _ _ _ _ _ _ HR3.out
  have HP4 := Lib.hid (HP3.out.2.grown hg4 (by simp; omega) (by simp; omega))
  have HX4 := Lib.hid (HX3.out.grown hg4 (fun r e => by cases e; simp; omega))
  have HR4 := Lib.hid hr4
  have HS4 := Lib.hid (HS3.out.kept hg4 (by simp))
  have HT4 := Lib.hid (HT3.out.kept hg4 (by simp; omega))
  have hb3 : Below w.heap.size w w3 := (HB2.out.alloc hz2 _).grown HP3.out.1 (by simp; omega) (fun r e => by cases e; omega)
  have HB4 := Lib.hid (hb3.grown hg4 (by omega) (fun r e => by cases e; omega))
  have h5n : (t.kind != 5) = false := by rw [H5.out]; rfl
  rw [← hw4]
  clear hw4 hg4 hr4 hb3 s0
  go_upto_region 9 with (first
    | (go_at_call 70; refine (next_yes _ tb t r w4 HP4.out).mono ?_; rintro e' w5 ⟨rfl, hb5⟩; have hr5 := HR4.out.ext hb5; have HR5 := Lib.hid hr5; have hs5 := HS4.out.ext hb5; have ht5 := HT4.out.ext hb5; have HS5 := Lib.hid hs5; have HT5 := Lib.hid ht5; have HX5 := Lib.hid (HX4.out.below hb5); have HB5 := Lib.hid (HB4.out.trans (hb5.mono HB4.out.size)); clear hb5 hr5 hs5 ht5))
  have r50 := HR5.out.cell 0
  have r51 := HR5.out.cell 1
  simp only [List.getElem?_cons_zero, List.getElem?_cons_succ] at r50 r51
  have hz5 := HB5.out.size
  obtain ⟨w6, hw6⟩ : ∃ w6, w6 = w5.setRow w.heap.size #[.slice ra p.arrays.length rc, .slice fa p.funcs.length fc] := ⟨_, rfl⟩
  have hg6 : w5.grownBy w6 (some w.heap.size) := by rw [hw6]; exact setRow_grown
  have hr6 : Row w6 w.heap.size 27 [.slice ra p.arrays.length rc, .slice fa p.funcs.length fc] := by rw [hw6]; exact setRow_heap _ _ _ _ _ _ HR5.out
  have HX6 := Lib.hid (HX5.out.grown hg6 (fun r e => by cases e; simp; omega))
  have HR6 := Lib.hid hr6
  have hs6 := HS5.out.kept hg6 (by simp)
  have ht6 := HT5.out.kept hg6 (by simp; omega)
  have HS6 := Lib.hid hs6
  have HT6 := Lib.hid ht6
  have HB6 := Lib.hid (HB5.out.grown hg6 (by omega) (fun r e => by cases e; omega))
  have s60 := hs6.cell 0
  have t60 := ht6.cell 0
  have s6f := hs6.frozen 0
  have t6f := ht6.frozen 0
  simp only [List.getElem?_cons_zero] at s60 t60
  have HW6 := Lib.hid hw6
  clear hw6 hg6 hr6 hs6 ht6
  go_wp2_with (first
    | (refine store_first 27 (.tmp 4) (.tmp 33) rfl ?_; refine wpList_store_row rfl 27 (.tmp 4) (.tmp 33) rfl w.heap.size _ rfl rfl 27 #[.slice ra p.arrays.length rc, .slice fa p.funcs.length fc] HR5.out (by kernel_rfl) (by rfl) (by simp [Value.oneCell']) ?_; rw [← HW6.out]))
  obtain ⟨w7, hw7⟩ : ∃ w7, w7 = ((w6.setCell ⟨w.heap.size + 1, 0, none⟩ (I 0)).setCell ⟨w.heap.size + 1 + 1, 0, none⟩ (I 0)) := ⟨_, rfl⟩
  have hg1 := setCell_grown w6 (w.heap.size + 1) 0 (I 0)
  have hg2 := setCell_grown (w6.setCell ⟨w.heap.size + 1, 0, none⟩ (I 0)) (w.heap.size + 1 + 1) 0 (I 0)
  rw [← hw7] at hg2
  have hz6 := HB6.out.size
  have hR7 : Row w7 w.heap.size 27 [.slice ra p.arrays.length rc, .slice fa p.funcs.length fc] := (HR6.out.kept hg1 (by simp)).kept hg2 (by simp; omega)
  have hS7 : Row w7 (w.heap.size + 1) 44 [I 0] := by rw [hw7]; exact Row.kept (HS6.out.set 0 (I 0)) (setCell_grown _ _ _ _) (by simp)
  have hT7 : Row w7 (w.heap.size + 1 + 1) 3 [I 0] := by rw [hw7]; exact Row.set (HT6.out.kept hg1 (by simp)) 0 (I 0)
  have hB7 : Below w.heap.size w w7 := (HB6.out.grown hg1 (by omega) (fun r e => by cases e; omega)).grown hg2 (by have := hg1.size; omega) (fun r e => by cases e; omega)
  have hX7 := (HX6.out.grown hg1 (fun r e => by cases e; simp; omega)).grown hg2 (fun r e => by cases e; simp; omega)
  rw [← hw7]
  refine leaves_cons (f := 69) (args := #[.pointer (some ⟨w.heap.size, 0, none⟩), .pointer (some ⟨w.heap.size + 1, 0, none⟩), .pointer (some ⟨w.heap.size + 1 + 1, 0, none⟩)]) (by simp) (by simp [go_sem]) ?_
  refine (whole1_idle _ _ _ w7).mono ?_
  rintro e' u' w8 ⟨rfl, rfl, hb8⟩
  have hR8 := hR7.ext hb8
  have hS8 := hS7.ext hb8
  have hT8 := hT7.ext hb8
  have HX8 := Lib.hid (hX7.below hb8)
  have HB8 := Lib.hid (hB7.trans (hb8.mono hB7.size))
  clear hb8 hw7 hg1 hg2 hB7 hX7
  exact ⟨_, results_whole rfl rfl rfl hR8 hS8 hT8, _, _, rfl, HX8.out.weak (fun b hb => by simp at hb; omega), HB8.out⟩
end Go.Proofs.YtjgbkdbkachciaaGreatDoor
