import Derived.Test.YtjgbkdbkachciaaGreatDoorU4
namespace Go.Proofs.YtjgbkdbkachciaaGreatDoor
open Go.RowKit Go.Shelf
attribute [local go_sem] Oper.semAt_some

/-- an array may be, a function, a program -/
def okA (a : LA) : Prop := (Asc a.name ∧ isName a.name = true) ∧ 1 ≤ a.size ∧ a.size ≤ 1048576
def okF (f : LF) : Prop := (Asc f.name ∧ isName f.name = true) ∧ Names f.params ∧ Names f.locals ∧ f.params.length ≤ 6 ∧ ∀ x ∈ f.body, okS 40 x
structure okP (p : LP) : Prop where
  arrays : ∀ a ∈ p.arrays, okA a
  funcs : ∀ f ∈ p.funcs, okF f
abbrev aZ : Array Value := #[.string ⟨#[]⟩, .int .i64 0]
abbrev fZ4 : Array Value := #[.string ⟨#[]⟩, .slice none 0 0, .slice none 0 0, .slice none 0 0]
theorem named_one (x : Str) (h : Asc x ∧ isName x = true) (w : World) (g : Nat) (hr : Row w g 9 [S x]) :
    Calls Tryz.prog 77 #[.slice (some ⟨g, 0, none⟩) 1 1] w fun e' w' => e' = .returned (.bool true) ∧ Below w.heap.size w w' := by
  refine named_yes [x] (fun y hy => by obtain rfl := List.mem_singleton.1 hy; exact h) _ w (fun _ => True) ⟨_, _, rfl, by simp, .inr ⟨g, 0, rfl, trivial, fun i y hy => ?_⟩⟩
  cases i with
  | zero =>
    simp only [List.getElem?_cons_zero, Option.some.injEq] at hy
    subst hy
    refine ⟨fun _ => S x, fun j hj => ?_, rfl⟩
    obtain rfl : j = 0 := by omega
    rw [hr.cell]; rfl
  | succ i => simp at hy

set_option maxRecDepth 100000 in
set_option maxHeartbeats 8000000 in
theorem right_yes (p : LP) (h : okP p) (av fv : Value) (w : World) (B : Nat → Prop) (hx : PX B w av fv p) :
    Calls Tryz.prog 43 #[.agg #[av, fv]] w fun e' w' => e' = .returned (.bool true) ∧ Below w.heap.size w w' := by
  obtain ⟨aa, ac, fa, fc, rfl, rfl⟩ := hx.slice
  have HX := Lib.hid hx
  have HP := Lib.hid h
  have hb1 := below_a1 w (.cells #[.slice aa p.arrays.length ac, .slice fa p.funcs.length fc] 27)
  have HB1 := Lib.hid hb1
  have HR1 := Lib.hid (show Row (w.alloc (.cells #[.slice aa p.arrays.length ac, .slice fa p.funcs.length fc] 27)) w.heap.size 27 [.slice aa p.arrays.length ac, .slice fa p.funcs.length fc] from heap_new _ _)
  have hla := hx.arrays
  have hlf := hx.funcs
  obtain ⟨_, _, _, hln, -⟩ := hla
  obtain ⟨_, _, _, hlm, -⟩ := hlf
  clear hx h hb1
  go_enter Tryz.func43, Tryz.ntmps43
  go_upto_region 2 with (fail)
  go_loopg [10] p.arrays.length (fun gh i wr => ∃ k : Nat, gh + k = p.arrays.length ∧ i = I k ∧ Hid (Below w.heap.size w wr ∧ Row wr w.heap.size 27 [.slice aa p.arrays.length ac, .slice fa p.funcs.length fc]))
  case atStart => exact ⟨0, rfl, rfl, Lib.hid ⟨HB1.out, HR1.out⟩⟩
  case round =>
    obtain ⟨k, hg, rfl, HH⟩ := hrel
    obtain ⟨wo, rfl⟩ : ∃ wo, wo = wr := ⟨_, rfl⟩
    by_cases hlt : k < p.arrays.length
    · have hltz : (k : Int) < (p.arrays.length : Int) := by omega
      obtain ⟨b, o, C, rfl, _, hC, hrx⟩ := (HX.out.arrays.below HH.out.1 (fun C x h => h)).at hlt
      have hok := HP.out.arrays _ (List.getElem_mem hlt)
      obtain ⟨x, hx⟩ : ∃ x, x = p.arrays[k] := ⟨_, rfl⟩
      rw [← hx] at hrx hok
      obtain ⟨h0, h1⟩ := hrx
      have e0 := hC 0 (by omega)
      have e1 := hC 1 (by omega)
      rw [h0] at e0
      rw [h1] at e1
      simp only [Nat.add_zero] at e0 e1
      obtain ⟨hn, hs1, hs2⟩ := hok
      have hs3 : ¬ x.size < 1 := by omega
      have hs4 : ¬ 1048576 < x.size := by omega
      have HN := Lib.hid (fun W g hr => named_one x.name hn W g hr)
      clear hC h0 h1 hn hs1 hs2 hx
      go_upto_region 4 with (first
        | (refine store_first 68 (.tmp 4) (.tmp 13) rfl ?_; refine wpList_store_row rfl 68 (.tmp 4) (.tmp 13) rfl wo.heap.size _ rfl rfl 68 aZ (heap_new _ _) (by kernel_rfl) (by rfl) (by simp [Value.oneCell']) ?_))
      obtain ⟨w3, hw3⟩ : ∃ w3, w3 = (wo.alloc (.cells aZ 68)).setRow wo.heap.size #[S x.name, I x.size] := ⟨_, rfl⟩
      have hz := HH.out.1.size
      have hb3 : Below w.heap.size w w3 := by rw [hw3]; exact (HH.out.1.alloc hz _).grown setRow_grown (by simp; omega) (fun r e => by cases e; omega)
      have hr3 : Row w3 w.heap.size 27 [.slice (some ⟨b, o, none⟩) p.arrays.length ac, .slice fa p.funcs.length fc] := by
        have := HH.out.2.lt
        rw [hw3]; exact (setRow_other _ _ _ _ (by omega)).trans (heap_old _ _ HH.out.2)
      have hx3 : Row w3 wo.heap.size 68 [S x.name, I x.size] := by rw [hw3]; exact setRow_heap _ _ _ _ _ _ (heap_new _ _)
      rw [← hw3]
      have c0 := hx3.cell 0
      simp only [List.getElem?_cons_zero] at c0
      have HB3 := Lib.hid hb3
      have HR3 := Lib.hid hr3
      have HX3 := Lib.hid hx3
      clear hw3 hb3 hr3 hx3 e0 e1
      go_wp2_with (first
        | (go_at_call 77; refine (HN.out _ w3.heap.size (heap_new _ _)).mono ?_; rintro e' w4 ⟨rfl, hb4⟩; have hbb := (below_a1 w3 (.cells #[S x.name] 9)).trans (hb4.mono (by simp)); have HB4 := Lib.hid (HB3.out.trans (hbb.mono HB3.out.size)); have HR4 := Lib.hid (HR3.out.ext hbb); have hx4 := HX3.out.ext hbb; have c1 := hx4.cell 1; simp only [List.getElem?_cons_succ, List.getElem?_cons_zero] at c1; clear hb4 hbb hx4))
      go_roundg (p.arrays.length - (k + 1))
      case measure => omega
      case rel => exact ⟨k + 1, by omega, by go_num, Lib.hid ⟨HB4.out, HR4.out⟩⟩
    · have hltz : ¬ (k : Int) < (p.arrays.length : Int) := by omega
      have HB5 := Lib.hid HH.out.1
      have hr5 := HH.out.2
      have c1 := hr5.cell 1
      simp only [List.getElem?_cons_succ, List.getElem?_cons_zero] at c1
      clear HH hr5
      go_upto_region 8 with (fail)
      go_loopg [33] p.funcs.length (fun gh i wr => ∃ k : Nat, gh + k = p.funcs.length ∧ i = I k ∧ Hid (Below w.heap.size w wr))
      case atStart => exact ⟨0, rfl, rfl, Lib.hid HB5.out⟩
      case round =>
        obtain ⟨j, hg2, rfl, HH⟩ := hrel
        obtain ⟨wq, rfl⟩ : ∃ wo, wo = wr := ⟨_, rfl⟩
        by_cases hlt2 : j < p.funcs.length
        · have hltz2 : (j : Int) < (p.funcs.length : Int) := by omega
          obtain ⟨b, o, C, rfl, _, hC, hrx⟩ := (HX.out.funcs.below HH.out (fun C x h => h.grown (below_grown HH.out none) (fun r e => by cases e))).at hlt2
          have hok := HP.out.funcs _ (List.getElem_mem hlt2)
          obtain ⟨x, hx⟩ : ∃ x, x = p.funcs[j] := ⟨_, rfl⟩
          rw [← hx] at hrx hok
          obtain ⟨h0, hpar, hloc, hbody⟩ := hrx
          have e0 := hC 0 (by omega)
          have e1 := hC 1 (by omega)
          have e2 := hC 2 (by omega)
          have e3 := hC 3 (by omega)
          obtain ⟨pa, pc, hpv, -⟩ := id hpar
          obtain ⟨la, lc, hlv, -⟩ := id hloc
          obtain ⟨ba, bc, hbv⟩ := hbody.slice
          rw [h0] at e0
          rw [hpv] at e1 hpar
          rw [hlv] at e2 hloc
          rw [hbv] at e3 hbody
          simp only [Nat.add_zero] at e0 e1 e2 e3
          obtain ⟨hn, hnp, hnl, hp6, hbs⟩ := hok
          have hp6z : ¬ (6 : Int) < (x.params.length : Int) := by omega
          have HN := Lib.hid (fun W g hr => named_one x.name hn W g hr)
          have HNP := Lib.hid (fun W hh => named_yes x.params hnp (.slice pa x.params.length pc) W B hh)
          have HNL := Lib.hid (fun W hh => named_yes x.locals hnl (.slice la x.locals.length lc) W B hh)
          have HNB := Lib.hid (stmts_right 40 x.body hbs 40 (by omega) (.slice ba x.body.length bc) B)
          have HPA := Lib.hid hpar
          have HLO := Lib.hid hloc
          have HBO := Lib.hid hbody
          clear hC h0 hn hnp hnl hp6 hbs hpar hloc hbody hpv hlv hbv hx
          go_upto_region 10 with (first
            | (refine store_first 52 (.tmp 6) (.tmp 36) rfl ?_; refine wpList_store_row rfl 52 (.tmp 6) (.tmp 36) rfl wq.heap.size _ rfl rfl 52 fZ4 (heap_new _ _) (by kernel_rfl) (by rfl) (by simp [Value.oneCell']) ?_))
          obtain ⟨w3, hw3⟩ : ∃ w3, w3 = (wq.alloc (.cells fZ4 52)).setRow wq.heap.size #[S x.name, .slice pa x.params.length pc, .slice la x.locals.length lc, .slice ba x.body.length bc] := ⟨_, rfl⟩
          have hz := HH.out.size
          have hb3 : Below wq.heap.size wq w3 := by rw [hw3]; exact (below_a1 wq _).grown setRow_grown (by simp) (fun r e => by cases e; omega)
          have hx3 : Row w3 wq.heap.size 52 [S x.name, .slice pa x.params.length pc, .slice la x.locals.length lc, .slice ba x.body.length bc] := by rw [hw3]; exact setRow_heap _ _ _ _ _ _ (heap_new _ _)
          rw [← hw3]
          have c0 := hx3.cell 0
          simp only [List.getElem?_cons_zero] at c0
          have HB3 := Lib.hid hb3
          have HX3 := Lib.hid hx3
          clear hw3 hb3 hx3 e0 e1 e2 e3
          try clear c1
          go_wp2_with (first
            | (go_at_call 77; refine (HN.out _ w3.heap.size (heap_new _ _)).mono ?_; rintro e' w4 ⟨rfl, hb4⟩; have hbb := (below_a1 w3 (.cells #[S x.name] 9)).trans (hb4.mono (by simp)); have HB4 := Lib.hid (HB3.out.trans (hbb.mono HB3.out.size)); have hx4 := HX3.out.ext hbb; have HX4 := Lib.hid hx4; have c1 := hx4.cell 1; simp only [List.getElem?_cons_succ, List.getElem?_cons_zero] at c1; clear hb4 hbb hx4)
            | (go_at_call 77; refine (HNP.out _ (HPA.out.grown (below_grown HB4.out none) (fun r e => by cases e) (fun _ _ h => h))).mono ?_; rintro e' w5 ⟨rfl, hb5⟩; have HB5 := Lib.hid (HB4.out.trans (hb5.mono HB4.out.size)); have hx5 := HX4.out.ext hb5; have HX5 := Lib.hid hx5; have c2 := hx5.cell 2; simp only [List.getElem?_cons_succ, List.getElem?_cons_zero] at c2; clear hb5 hx5)
            | (go_at_call 77; refine (HNL.out _ (HLO.out.grown (below_grown HB5.out none) (fun r e => by cases e) (fun _ _ h => h))).mono ?_; rintro e' w6 ⟨rfl, hb6⟩; have HB6 := Lib.hid (HB5.out.trans (hb6.mono HB5.out.size)); have hx6 := HX5.out.ext hb6; have HX6 := Lib.hid hx6; have c1 := hx6.cell 1; have c3 := hx6.cell 3; simp only [List.getElem?_cons_succ, List.getElem?_cons_zero] at c1 c3; clear hb6 hx6)
            | (go_at_call 78; refine (HNB.out _ (HBO.out.grown (below_grown HB6.out none) (fun r e => by cases e))).mono ?_; rintro e' w7 ⟨rfl, hb7⟩; have HB7 := Lib.hid (HB6.out.trans (hb7.mono HB6.out.size)); clear hb7))
          go_roundg (p.funcs.length - (j + 1))
          case measure => omega
          case rel => exact ⟨j + 1, by omega, by go_num, Lib.hid (HH.out.trans (HB7.out.mono hz))⟩
        · have hltz2 : ¬ (j : Int) < (p.funcs.length : Int) := by omega
          go_wp2
          go_ret
          exact ⟨rfl, HH.out⟩
end Go.Proofs.YtjgbkdbkachciaaGreatDoor
