import Derived.Test.YtjgbkdbkachciaaGreatDoorL3
import Derived.Test.YtjgbkdbkachciaaGreatDoorZ4
namespace Go.Proofs.YtjgbkdbkachciaaGreatDoor
open Go.RowKit Go.Shelf
attribute [local go_sem] Oper.semAt_some

theorem assert114 (line : Int) (w : World) : (Instr.typeAssert (.iface 114 (.agg #[I line])) 20 114 true).run Tryz.prog w = .ok (.tuple #[.agg #[I line], .bool true]) w := by kernel_rfl
set_option maxRecDepth 100000 in
set_option maxHeartbeats 4000000 in
theorem whole1_catch (n : Nat) (line : Int) (a b x y : Value) (w : World) (hr : Row w n 27 [a, b]) (hs : Row w (n + 1) 44 [x]) (ht : Row w (n + 1 + 1) 3 [y]) :
    CallsD Tryz.prog 69 #[.pointer (some ⟨n, 0, none⟩), .pointer (some ⟨n + 1, 0, none⟩), .pointer (some ⟨n + 1 + 1, 0, none⟩)] (.panicking (wrongV line)) w fun e u' w' =>
      e = .returned (.tuple #[]) ∧ u' = .panicking [{ v := .iface 114 (.agg #[I line]), recovered := true }] ∧ Row w' n 27 [.slice none 0 0, .slice none 0 0] ∧ Row w' (n + 1) 44 [I 40] ∧ Row w' (n + 1 + 1) 3 [I line] ∧ Below n w w' := by
  refine callsD_of_wpS Tryz.func69 rfl fun c₀ cs hu => ?_
  apply wpS_seq
  apply wpS_region
  have hta := assert114 line
  simp [wpOpsS, go_sem, recoverD, hu, Tryz.ntmps69, Exit.thenS, hta]
  apply wpS_seq
  apply wpS_region
  simp [wpOpsS, go_sem, Exit.thenS]
  refine wpS_cond (t := true) (by simp [Act.eval, Array.replicate]) ?_
  simp only [if_true]
  have HR := Lib.hid hr
  have HS := Lib.hid hs
  have HT := Lib.hid ht
  have HU := Lib.hid hu
  clear hr hs ht hu hta
  refine wpS_of_wp (Code.wp_mono (Q := fun e a w' => e = .normal ∧ a.defers = [] ∧ Row w' n 27 [.slice none 0 0, .slice none 0 0] ∧ Row w' (n + 1) 44 [I 40] ∧ Row w' (n + 1 + 1) 3 [I line] ∧ Below n w w') ?_ ?_)
  · rintro e a w' ⟨rfl, h1, h2, h3, h4, h5⟩
    have hu := HU.out
    cases c₀
    simp_all [bodyPostS, results, Tryz.results69]
  go_upto_region 3 with (fail)
  simp only [Array.replicate_succ, Array.replicate_zero, List.push_toArray, List.setIfInBounds_toArray, List.set_cons_zero, List.set_cons_succ, List.append_toArray, List.nil_append, List.cons_append]
  have hnl := HT.out.lt
  obtain ⟨w2, hw2⟩ : ∃ w2, w2 = (w.alloc (.cells #[.int .i64 line] 114)).alloc (.cells #[.slice none 0 0, .slice none 0 0] 27) := ⟨_, rfl⟩
  have hb2 : Below w.heap.size w w2 := by rw [hw2]; exact (below_a1 w _).alloc (by simp) _
  have hl2 : Row w2 w.heap.size 114 [I line] := by rw [hw2]; exact heap_old _ _ (heap_new _ _)
  have hz2 : Row w2 (w.heap.size + 1) 27 [.slice none 0 0, .slice none 0 0] := by rw [hw2]; exact heap_at (by simp)
  have hr2 := HR.out.ext hb2
  have hs2 := HS.out.ext hb2
  have ht2 := HT.out.ext hb2
  rw [← hw2]
  have HB2 := Lib.hid (hb2.mono (B' := n) (by omega))
  have HL2 := Lib.hid hl2
  have HZ2 := Lib.hid hz2
  have HR2 := Lib.hid hr2
  have HS2 := Lib.hid hs2
  have HT2 := Lib.hid ht2
  clear hw2 hb2 hl2 hz2 hr2 hs2 ht2
  refine wp_region_ordV (by kernel_rfl) (fun X => X.cell? ⟨w.heap.size + 1, 0, none⟩ = some (.slice none 0 0) ∧ X.cell? ⟨w.heap.size + 1, 1, none⟩ = some (.slice none 0 0) ∧ X.cell? ⟨w.heap.size, 0, none⟩ = some (I line)) [(0, 0), (0, 1), (0, 2), (1, 3), (1, 4), (2, 5)] (by kernel_rfl) ?hS ?_
  case hS => intro wd hh; exact ⟨row_at HZ2.out hh 0, row_at HZ2.out hh 1, row_at HL2.out hh 0⟩
  intro wd hh hgd hS
  have hrd := HR2.out.kept hgd (by simp)
  have hsd := HS2.out.kept hgd (by simp)
  have htd := HT2.out.kept hgd (by simp)
  have hzd := HZ2.out.kept hgd (by simp)
  have hld := HL2.out.kept hgd (by simp)
  have hzs := hgd.size
  obtain ⟨w4, hw4⟩ : ∃ w4, w4 = wd.setRow n #[.slice none 0 0, .slice none 0 0] := ⟨_, rfl⟩
  have hg4 : wd.grownBy w4 (some n) := by rw [hw4]; exact setRow_grown
  have hr4 : Row w4 n 27 [.slice none 0 0, .slice none 0 0] := by rw [hw4]; exact setRow_heap _ _ _ _ _ _ hrd
  have hs4 := hsd.kept hg4 (by simp)
  have ht4 := htd.kept hg4 (by simp; omega)
  have hz4 := hzd.kept hg4 (by simp; omega)
  have hl4 := hld.kept hg4 (by simp; omega)
  have s40 := hs4.cell 0
  have s4f := hs4.frozen 0
  simp only [List.getElem?_cons_zero] at s40
  have hg5 := setCell_grown w4 (n + 1) 0 (I 40)
  have hs5 := hs4.set 0 (I 40)
  have hr5 := hr4.kept hg5 (by simp)
  have ht5 := ht4.kept hg5 (by simp)
  have hz5 := hz4.kept hg5 (by simp; omega)
  have hl5 := hl4.kept hg5 (by simp; omega)
  have t50 := ht5.cell 0
  have t5f := ht5.frozen 0
  simp only [List.getElem?_cons_zero] at t50
  have hg6 := setCell_grown (w4.setCell ⟨n + 1, 0, none⟩ (I 40)) (n + 1 + 1) 0 (I line)
  have ht6 := ht5.set 0 (I line)
  have hs6 := hs5.kept hg6 (by simp)
  have hr6 := hr5.kept hg6 (by simp; omega)
  have hq1 := HB2.out.size
  have hq4 := hg4.size
  have hq5 := hg5.size
  have hb6 : Below n w ((w4.setCell ⟨n + 1, 0, none⟩ (I 40)).setCell ⟨n + 1 + 1, 0, none⟩ (I line)) := (((HB2.out.grown hgd (by omega) (fun r e => by cases e)).grown hg4 (by omega) (fun r e => by cases e; omega)).grown hg5 (by omega) (fun r e => by cases e; omega)).grown hg6 (by omega) (fun r e => by cases e; omega)
  have HRD := Lib.hid hrd
  have HA4 := Lib.hid (And.intro (hz4.cell 0) (And.intro (hz4.cell 1) (hl4.cell 0)))
  have HA5 := Lib.hid (And.intro (hz5.cell 0) (And.intro (hz5.cell 1) (hl5.cell 0)))
  have HEND := Lib.hid (And.intro hr6 (And.intro hs6 (And.intro ht6 hb6)))
  have hwe := hw4.symm
  clear hh hrd hsd htd hzd hld hzs hgd hw4 hg4 hr4 hs4 ht4 hz4 hl4 hg5 hs5 hr5 ht5 hz5 hl5 hg6 ht6 hs6 hr6 hb6 hq1 hq4 hq5
  simp only [pickOps, List.map_cons, List.map_nil, List.getElem?_cons_zero, List.getElem?_cons_succ, Option.getD_some]
  repeat (refine wpOrd_look (v := ?_) (by rfl) ?_ (by assumption) (fun _ _ _ h => h) ?_; rotate_left; (· (intro wS hSw; (try dsimp only at hSw); go_simp; (first | done | with_reducible rfl))); simp only [Act.put, List.setIfInBounds_toArray, List.set_cons_zero, List.set_cons_succ])
  refine wpOrd_turn ?_
  go_wp2_with (first
    | (refine store_first 27 (.tmp 0) (.tmp 12) rfl ?_; refine wpList_store_row rfl 27 (.tmp 0) (.tmp 12) rfl n _ rfl rfl 27 #[a, b] HRD.out (by kernel_rfl) (by rfl) (by simp [Value.oneCell']) ?_; rw [hwe]))
  refine QN_keep HA4.out fun hS => ?_
  refine wpOrd_turn ?_
  go_wp2
  refine QN_keep HA5.out fun hS => ?_
  refine wpOrd_last ?_
  go_wp2
  refine QN_normal ?_
  refine wpOrd_nil ?_
  exact ⟨rfl, rfl, HEND.out.1, HEND.out.2.1, HEND.out.2.2.1, HEND.out.2.2.2⟩
set_option maxRecDepth 100000 in
set_option maxHeartbeats 4000000 in
theorem whole_bad (l0 : Str) (ha : Asc l0) (hl : l0.length ≤ 20000) (fuel k g : Nat) (toks : List Tok) (line : Int) (ht : scanF fuel 1 l0 = some toks) (hg : g ≤ 100000) (he : Ended toks) (hp : pgB k g g toks = some line) (w : World) :
    Calls Tryz.prog 41 #[S l0, .func (.func 42) #[] #[]] w fun e w' => e = .returned (.tuple #[.agg #[.slice none 0 0, .slice none 0 0], I 40, I line]) ∧ Below w.heap.size w w' := by
  have hmf : ∀ (fn : Fn) (first cap : Array Value) (w : World), (Instr.makeFunc fn first cap).run Tryz.prog w = .ok (.func fn first cap) w := fun _ _ _ _ => rfl
  have hfd := tok_f0
  have HSC := Lib.hid (fun W => scan_yes l0 ha hl fuel toks ht W)
  have HPR := Lib.hid (fun W pb tb (hh : PS W pb tb toks) => prog_bad k g g pb tb toks line W hh he hg hg hp)
  have hne : toks ≠ [] := by
    obtain ⟨t, r, rfl⟩ := he.cons
    simp
  have HNE := Lib.hid hne
  clear ha hl ht hg he hp hne
  go_enter_defers Tryz.func41, Tryz.ntmps41
  go_upto_region 1 with (fail)
  obtain ⟨w0, hw0⟩ : ∃ w0, w0 = ((w.alloc (.cells pZ 27)).alloc (.cells #[.int .i64 0] 44)).alloc (.cells #[.int .i64 0] 3) := ⟨_, rfl⟩
  have hr0 : Row w0 w.heap.size 27 [.slice none 0 0, .slice none 0 0] := by rw [hw0]; exact heap_old _ _ (heap_old _ _ (heap_new _ _))
  have hs0 : Row w0 (w.heap.size + 1) 44 [.int .i64 0] := by rw [hw0]; exact heap_old _ _ (heap_at (by simp))
  have ht0 : Row w0 (w.heap.size + 1 + 1) 3 [.int .i64 0] := by rw [hw0]; exact heap_at (by simp)
  have hb0 : Below w.heap.size w w0 := by rw [hw0]; exact ((below_a1 w _).alloc (by simp) _).alloc (by simp; omega) _
  have hz0 := hb0.size
  have hl0 := ht0.lt
  rw [← hw0]
  have HB0 := Lib.hid hb0
  have HR0 := Lib.hid hr0
  have HS0 := Lib.hid hs0
  have HT0 := Lib.hid ht0
  clear hw0 hr0 hs0 ht0 hb0
  go_upto_region 2 with (first
    | (go_at_call 68; refine (HSC.out w0).mono ?_; rintro e' w1 ⟨v, rfl, ho, hb1⟩; obtain ⟨tb, c, rfl, hc, hbt, htl, htk⟩ := toks_of ho HNE.out; have hr1 := HR0.out.ext hb1; have hs1 := HS0.out.ext hb1; have ht1 := HT0.out.ext hb1; have s0 := hs1.cell 0; have t0 := ht1.cell 0; have s0f := hs1.frozen 0; have t0f := ht1.frozen 0; simp only [List.getElem?_cons_zero] at s0 t0; have HR1 := Lib.hid hr1; have HS1 := Lib.hid hs1; have HT1 := Lib.hid ht1; have HB1 := Lib.hid (HB0.out.trans (hb1.mono hz0)); have HTK := Lib.hid htk; clear ho hb1 htk hr1 hs1 ht1))
  have hz1 := HB1.out.size
  have hl1 := HT1.out.lt
  obtain ⟨w2, hw2⟩ : ∃ w2, w2 = ((w1.setCell ⟨w.heap.size + 1, 0, none⟩ (I 0)).setCell ⟨w.heap.size + 1 + 1, 0, none⟩ (I 0)) := ⟨_, rfl⟩
  have hg1 := setCell_grown w1 (w.heap.size + 1) 0 (I 0)
  have hg2 := setCell_grown (w1.setCell ⟨w.heap.size + 1, 0, none⟩ (I 0)) (w.heap.size + 1 + 1) 0 (I 0)
  rw [← hw2] at hg2
  have hR2 : Row w2 w.heap.size 27 [.slice none 0 0, .slice none 0 0] := (HR1.out.kept hg1 (by simp)).kept hg2 (by simp; omega)
  have hS2 : Row w2 (w.heap.size + 1) 44 [I 0] := by rw [hw2]; exact Row.kept (HS1.out.set 0 (I 0)) (setCell_grown _ _ _ _) (by simp)
  have hT2 : Row w2 (w.heap.size + 1 + 1) 3 [I 0] := by rw [hw2]; exact Row.set (HT1.out.kept hg1 (by simp)) 0 (I 0)
  have hB2 : Below w.heap.size w w2 := (HB1.out.grown hg1 (by omega) (fun r e => by cases e; omega)).grown hg2 (by have := hg1.size; omega) (fun r e => by cases e; omega)
  have hK2 : Toks w2 tb 0 toks := (HTK.out.ext hg1 (by simp; omega)).ext hg2 (by simp; omega)
  have hlt2 : tb < w2.heap.size := by have := hg1.size; have := hg2.size; omega
  rw [← hw2]
  have HR2 := Lib.hid hR2
  have HS2 := Lib.hid hS2
  have HT2 := Lib.hid hT2
  have HB2 := Lib.hid hB2
  have HK2 := Lib.hid hK2
  have s0 := hS2.cell 0
  simp only [List.getElem?_cons_zero] at s0
  clear hw2 hg1 hg2 hR2 hS2 hT2 hB2 hK2 t0 s0f t0f
  have hps : PS (w2.alloc (.cells #[.slice (some ⟨tb, 0, none⟩) toks.length c] 117)) w2.heap.size tb toks := ⟨0, c, hc, heap_new _ _, by omega, HK2.out.ext (alloc_grown _ _ none) (by simp)⟩
  have HPS := Lib.hid hps
  have hz2 := HB2.out.size
  have hl2 := HT2.out.lt
  clear hps
  go_wp2_with (first
    | (go_at_call 42; refine (HPR.out _ _ _ HPS.out).mono ?_; rintro e' w3 ⟨rfl, hg3⟩; have HG3 := Lib.hid hg3; clear hg3))
  have hg3 := HG3.out
  have hR3 := (show Row (w2.alloc (.cells #[.slice (some ⟨tb, 0, none⟩) toks.length c] 117)) w.heap.size 27 [.slice none 0 0, .slice none 0 0] from heap_old _ _ HR2.out).kept hg3 (by simp; omega)
  have hS3 := (show Row (w2.alloc (.cells #[.slice (some ⟨tb, 0, none⟩) toks.length c] 117)) (w.heap.size + 1) 44 [I 0] from heap_old _ _ HS2.out).kept hg3 (by simp; omega)
  have hT3 := (show Row (w2.alloc (.cells #[.slice (some ⟨tb, 0, none⟩) toks.length c] 117)) (w.heap.size + 1 + 1) 3 [I 0] from heap_old _ _ HT2.out).kept hg3 (by simp; omega)
  have hb3 : Below w.heap.size w w3 := (HB2.out.alloc hz2 _).grown hg3 (by simp; omega) (fun r e => by cases e; omega)
  refine leaves_cons (f := 69) (args := #[.pointer (some ⟨w.heap.size, 0, none⟩), .pointer (some ⟨w.heap.size + 1, 0, none⟩), .pointer (some ⟨w.heap.size + 1 + 1, 0, none⟩)]) (by simp) (by simp [go_sem]) ?_
  refine (whole1_catch _ line _ _ _ _ w3 hR3 hS3 hT3).mono ?_
  rintro e' u' w8 ⟨rfl, rfl, hR8, hS8, hT8, hb8⟩
  exact ⟨_, results_whole rfl rfl rfl hR8 hS8 hT8, rfl, hb3.trans hb8⟩

set_option maxRecDepth 100000 in
set_option maxHeartbeats 8000000 in
/-- a text at whose first function the parse ends -/
theorem parse_bad (l0 : Str) (ha : Asc l0) (hl : l0.length ≤ 20000) (fuel k g : Nat) (toks : List Tok) (line : Int) (ht : scanF fuel 1 l0 = some toks) (hg : g ≤ 100000) (he : Ended toks) (hp : pgB k g g toks = some line) (w : World) :
    Calls Tryz.prog 23 #[S l0] w fun e w' => e = .returned (.tuple #[.agg #[.slice none 0 0, .slice none 0 0], I 40, I line]) ∧ Below w.heap.size w w' := by
  have HWH := Lib.hid (fun W => whole_bad l0 ha hl fuel k g toks line ht hg he hp W)
  obtain ⟨w0, hw0⟩ : ∃ w0, w0 = w.alloc (.cells pZ 27) := ⟨_, rfl⟩
  have hwe := hw0.symm
  have hb0 : Below w.heap.size w w0 := by rw [hw0]; exact below_a1 _ _
  have hp0 : Row w0 w.heap.size 27 [.slice none 0 0, .slice none 0 0] := by rw [hw0]; exact heap_new _ _
  have HB0 := Lib.hid hb0
  have HP0 := Lib.hid hp0
  clear ha hl ht hg he hp hw0 hb0 hp0
  go_enter Tryz.func23, Tryz.ntmps23
  go_upto_region 2 with (first
    | (go_at_call 41; refine (HWH.out _).mono ?_; rintro e' w1 ⟨rfl, hb1⟩; have HB1 := Lib.hid (HB0.out.trans (hb1.mono HB0.out.size)); have HP1 := Lib.hid (HP0.out.ext hb1); clear hb1))
  obtain ⟨w2, hw2⟩ : ∃ w2, w2 = w1.alloc (.cells #[.slice none 0 0, .slice none 0 0] 27) := ⟨_, rfl⟩
  have hb2 : Below w1.heap.size w1 w2 := by rw [hw2]; exact below_a1 _ _
  have hr2 : Row w2 w1.heap.size 27 [.slice none 0 0, .slice none 0 0] := by rw [hw2]; exact heap_new _ _
  have hp2 := HP1.out.ext hb2
  rw [← hw2]
  have c0 := hr2.cell 0
  have c1 := hr2.cell 1
  simp only [List.getElem?_cons_zero, List.getElem?_cons_succ] at c0 c1
  have HR2 := Lib.hid hr2
  have HP2 := Lib.hid hp2
  have HB2 := Lib.hid (HB1.out.trans (hb2.mono HB1.out.size))
  clear hw2 hb2 hr2 hp2
  obtain ⟨w4, hw4⟩ : ∃ w4, w4 = w2.setRow w.heap.size #[.slice none 0 0, .slice none 0 0] := ⟨_, rfl⟩
  have hwe4 := hw4.symm
  have hr4 : Row w4 w.heap.size 27 [.slice none 0 0, .slice none 0 0] := by rw [hw4]; exact setRow_heap _ _ _ _ _ _ HP2.out
  have hb4 : Below w.heap.size w w4 := HB2.out.grown (by rw [hw4]; exact setRow_grown (g := w.heap.size)) HB2.out.size (fun r e => by cases e; omega)
  have HR4 := Lib.hid hr4
  have HB4 := Lib.hid hb4
  clear hw4 hr4 hb4
  go_upto_region 4 with (fail)
  clear hwe
  go_wp2_with (first
    | (refine store_first 27 (.tmp 2) (.tmp 22) rfl ?_; refine wpList_store_row rfl 27 (.tmp 2) (.tmp 22) rfl w.heap.size _ rfl rfl 27 pZ HP2.out (by kernel_rfl) (by rfl) (by simp [Value.oneCell']) ?_; rw [hwe4]))
  refine bodyPost_ret (results_f23 rfl rfl rfl HR4.out) rfl ?_
  exact ⟨rfl, HB4.out⟩
end Go.Proofs.YtjgbkdbkachciaaGreatDoor
