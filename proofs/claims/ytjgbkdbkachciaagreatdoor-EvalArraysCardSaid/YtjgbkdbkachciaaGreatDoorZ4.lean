import Derived.Test.YtjgbkdbkachciaaGreatDoorY5
import Derived.Test.YtjgbkdbkachciaaGreatDoorX6
namespace Go.Proofs.YtjgbkdbkachciaaGreatDoor
open Go.RowKit Go.Shelf

theorem mach_walks (c : RunC) (hp : XP c.p) : ∀ K j, j ≤ K → ExprC c j (mach c.p c.most j).expr ∧ StmtC c j (mach c.p c.most j).stmt ∧ LoopC c j (mach c.p c.most j).loop
  | 0, j, hj => by
    obtain rfl : j = 0 := by omega
    exact ⟨fun _ _ _ _ _ _ _ _ _ _ _ _ h => absurd h (by omega), fun _ _ _ _ _ _ _ _ _ _ _ _ _ _ _ _ h => absurd h (by omega), fun _ _ _ _ _ _ _ _ _ _ _ _ _ _ _ _ _ h => absurd h (by omega)⟩
  | K + 1, j, hj => by
    have ih := mach_walks c hp K
    rcases Nat.lt_or_ge K j with h | h
    · obtain rfl : j = K + 1 := by omega
      have hb : ∀ i, i ≤ K → BlockC c i (mach c.p c.most i).stmt := fun i hi => block_any c i _ (ih i hi).2.1 (fun _ _ _ _ _ _ h => (mach_up c.p c.most i).stmt h)
      have hk := ih K (Nat.le_refl _)
      refine ⟨?_, ?_, ?_⟩
      · exact expr_any c K (mach c.p c.most K) hk.1 (begin_any c K _ (hb K (Nat.le_refl _))) (mach_up c.p c.most K) hp
      · exact stmt_any c K (mach c.p c.most K) hk.1 (hb K (Nat.le_refl _)) hk.2.2 (mach_up c.p c.most K)
      · intro F W d s k cb mb x av tv ev h1 h2 h3 h4 h5 h6 h7
        exact loop_any c K (fun i hi => (ih i hi).1) hb F W d s k cb mb x av tv ev h1 h2 h3 h4 h5 h6 (by omega)
    · exact ih j h
theorem begin_walks (c : RunC) (hp : XP c.p) (K : Nat) : BeginC c K (mach c.p c.most K).stmt :=
  begin_any c K _ (block_any c K _ (mach_walks c hp K K (Nat.le_refl _)).2.1 (fun _ _ _ _ _ _ h => (mach_up c.p c.most K).stmt h))
end Go.Proofs.YtjgbkdbkachciaaGreatDoor

namespace Go.Proofs.YtjgbkdbkachciaaGreatDoor
open Go.RowKit Go.Shelf
attribute [local go_sem] Oper.semAt_some

theorem grown_any {w w' : World} {row : Option Nat} (h : w.grownBy w' none) : w.grownBy w' row := ⟨h.os, h.tape, h.output, h.size, fun b hb _ => h.block b hb (by simp)⟩
theorem assert98 (st cd : Int) (w : World) : (Instr.typeAssert (.iface 98 (.agg #[I st, I cd])) 20 98 false).run Tryz.prog w = .ok (.agg #[I st, I cd]) w := by kernel_rfl
set_option maxRecDepth 100000 in
set_option maxHeartbeats 4000000 in
theorem main1_idle (p : Value) (w : World) : CallsD Tryz.prog 52 #[p] .returning w fun e u' w' => e = .returned (.tuple #[]) ∧ u' = .returning ∧ w' = w := by
  refine callsD_of_wpS Tryz.func52 rfl fun c₀ cs hu => ?_
  apply wpS_seq
  apply wpS_region
  simp [wpOpsS, go_sem, recoverD, hu, Tryz.ntmps52, Exit.thenS]
  apply wpS_seq
  apply wpS_region
  simp [wpOpsS, go_sem, Exit.thenS]
  refine wpS_cond (t := false) (by simp [Act.eval, Array.replicate]) ?_
  simp only [Bool.false_eq_true, if_false]
  refine wpS_of_wp (wp_skip ?_)
  cases c₀
  simp_all [bodyPostS, results, Tryz.results52]
set_option maxRecDepth 100000 in
set_option maxHeartbeats 4000000 in
theorem main1_catch (xb rb : Nat) (st cd : Int) (cs0 : List Value) (w : World) (hx : Row w xb 75 [.pointer (some ⟨rb, 0, none⟩)]) (hr : Row w rb 78 cs0) (hl : cs0.length = 10) (hne : xb ≠ rb) :
    CallsD Tryz.prog 52 #[.pointer (some ⟨xb, 0, none⟩)] (.panicking (stopV st cd)) w fun e u' w' =>
      e = .returned (.tuple #[]) ∧ u' = .panicking [{ v := .iface 98 (.agg #[I st, I cd]), recovered := true }] ∧ w.grownBy w' (some rb) ∧ Row w' rb 78 ((cs0.set 6 (I st)).set 7 (I cd)) := by
  refine callsD_of_wpS Tryz.func52 rfl fun c₀ cs hu => ?_
  apply wpS_seq
  apply wpS_region
  simp [wpOpsS, go_sem, recoverD, hu, Tryz.ntmps52, Exit.thenS]
  apply wpS_seq
  apply wpS_region
  simp [wpOpsS, go_sem, Exit.thenS]
  refine wpS_cond (t := true) (by simp [Act.eval, Array.replicate]) ?_
  simp only [if_true]
  have hta := assert98 st cd w
  have HX := Lib.hid hx
  have HR := Lib.hid hr
  have HL := Lib.hid hl
  have HU := Lib.hid hu
  have x0 := hx.cell 0
  simp only [List.getElem?_cons_zero] at x0
  clear hx hr hl hu
  refine wpS_of_wp (Code.wp_mono (Q := fun e a w' => e = .normal ∧ a.defers = [] ∧ w.grownBy w' (some rb) ∧ Row w' rb 78 ((cs0.set 6 (I st)).set 7 (I cd))) ?_ ?_)
  · rintro e a w' ⟨rfl, h1, h2, h3⟩
    have hu := HU.out
    cases c₀
    simp_all [bodyPostS, results, Tryz.results52]
  go_upto_region 3 with (fail)
  simp only [Array.replicate_succ, Array.replicate_zero, List.push_toArray, List.setIfInBounds_toArray, List.set_cons_zero, List.set_cons_succ, List.append_toArray, List.nil_append, List.cons_append]
  obtain ⟨w1, hw1⟩ : ∃ w1, w1 = w.alloc (.cells #[I st, I cd] 98) := ⟨_, rfl⟩
  have hg1 : w.grownBy w1 none := by rw [hw1]; exact alloc_grown _ _ _
  have ht1 : Row w1 w.heap.size 98 [I st, I cd] := by rw [hw1]; exact heap_new _ _
  have hx1 := HX.out.kept hg1 (by simp)
  have hr1 := HR.out.kept hg1 (by simp)
  rw [← hw1]
  have hrl : rb < w.heap.size := HR.out.lt
  have HG1 := Lib.hid hg1
  have HT1 := Lib.hid ht1
  have HX1 := Lib.hid hx1
  have HR1 := Lib.hid hr1
  clear hw1 hg1 ht1 hx1 hr1 hta x0
  refine wp_region_ordV (by kernel_rfl) (fun X => X.cell? ⟨xb, 0, none⟩ = some (.pointer (some ⟨rb, 0, none⟩)) ∧ X.cell? ⟨w.heap.size, 0, none⟩ = some (I st) ∧ X.cell? ⟨w.heap.size, 1, none⟩ = some (I cd)) [(0, 0), (0, 1), (0, 2), (0, 3), (0, 4), (0, 5), (0, 6), (0, 7), (0, 8), (1, 9), (0, 10), (0, 11), (0, 12), (2, 13)] (by kernel_rfl) ?hS ?_
  case hS => intro wd hh; exact ⟨row_at HX1.out hh 0, row_at HT1.out hh 0, row_at HT1.out hh 1⟩
  intro wd hh hgd hS
  have hrd := HR1.out.kept hgd (by simp)
  have hxd := HX1.out.kept hgd (by simp)
  have htd := HT1.out.kept hgd (by simp)
  obtain ⟨y6, hy6⟩ : ∃ y, cs0[6]? = some y := ⟨_, List.getElem?_eq_getElem (by rw [HL.out]; omega)⟩
  obtain ⟨y7, hy7⟩ : ∃ y, cs0[7]? = some y := ⟨_, List.getElem?_eq_getElem (by rw [HL.out]; omega)⟩
  have c6 := (hrd.cell 6).trans hy6
  have z6 := hrd.frozen 6
  have hg2 := setCell_grown wd rb 6 (I st)
  have hr2 := hrd.set 6 (I st)
  have c7 := (hr2.cell 7).trans ((List.getElem?_set_ne (by omega)).trans hy7)
  have z7 := hr2.frozen 7
  have hx2 := hxd.kept hg2 (by simpa using hne)
  have ht2 := htd.kept hg2 (by simp; omega)
  have hg3 := setCell_grown (wd.setCell ⟨rb, 6, none⟩ (I st)) rb 7 (I cd)
  have hr3 := hr2.set 7 (I cd)
  have hgg : w.grownBy ((wd.setCell ⟨rb, 6, none⟩ (I st)).setCell ⟨rb, 7, none⟩ (I cd)) (some rb) := ((grown_any (HG1.out.trans hgd)).trans hg2).trans hg3
  have HX2 := Lib.hid hx2
  have HT2 := Lib.hid ht2
  have HR3 := Lib.hid hr3
  have HGG := Lib.hid hgg
  clear hh hgd hrd hxd htd hy6 hy7 hg2 hr2 hx2 ht2 hg3 hr3 hgg
  simp only [pickOps, List.map_cons, List.map_nil, List.getElem?_cons_zero, List.getElem?_cons_succ, Option.getD_some]
  repeat (first | (refine wpOrd_pass (by rfl) (by assumption) (fun _ _ _ h => h) ?_; simp only [Act.put, List.setIfInBounds_toArray, List.set_cons_zero, List.set_cons_succ]) | (refine wpOrd_look (v := ?_) (by rfl) ?_ (by assumption) (fun _ _ _ h => h) ?_; rotate_left; (· (intro wS hSw; (try dsimp only at hSw); go_simp; (first | done | with_reducible rfl))); simp only [Act.put, List.setIfInBounds_toArray, List.set_cons_zero, List.set_cons_succ]))
  refine wpOrd_turn ?_
  go_wp2
  refine QN_keep ⟨HX2.out.cell 0, HT2.out.cell 0, HT2.out.cell 1⟩ fun hS => ?_
  clear c6 z6
  repeat (first | (refine wpOrd_pass (by rfl) (by assumption) (fun _ _ _ h => h) ?_; simp only [Act.put, List.setIfInBounds_toArray, List.set_cons_zero, List.set_cons_succ]) | (refine wpOrd_look (v := ?_) (by rfl) ?_ (by assumption) (fun _ _ _ h => h) ?_; rotate_left; (· (intro wS hSw; (try dsimp only at hSw); go_simp; (first | done | with_reducible rfl))); simp only [Act.put, List.setIfInBounds_toArray, List.set_cons_zero, List.set_cons_succ]))
  refine wpOrd_last ?_
  go_wp2
  refine QN_normal ?_
  refine wpOrd_nil ?_
  exact ⟨rfl, rfl, HGG.out, HR3.out⟩
end Go.Proofs.YtjgbkdbkachciaaGreatDoor

namespace Go.Proofs.YtjgbkdbkachciaaGreatDoor
open Go.RowKit Go.Shelf
attribute [local go_sem] Oper.semAt_some

/-- how a run ended: its row -/
def EndRow (c : RunC) (w : World) (r : Res Int) : Prop :=
  ∃ iv ov d, Row w c.rb 78 [c.av, c.fv, iv, c.arv, I d, I c.most, I (tellR r).status, I (tellR r).code, ov, I (tellR r).steps] ∧ OwnInts w 0 ov (tellR r).out
theorem rRow_end (c : RunC) (d : Nat) (iv ov : Value) (n : Nat) (st cd : Int) : ((rRow c d iv ov n).set 6 (I st)).set 7 (I cd) = [c.av, c.fv, iv, c.arv, I d, I c.most, I st, I cd, ov, I n] := rfl

theorem leaves_none {P : Program} {fn : Func} {t t' : Array Value} {R : Ending → World → Prop} (h : fn.results = #[]) : ∀ (ds : List Deferred) (u : FrameMode) (w : World), Leaves P fn t R ds u w → Leaves P fn t' R ds u w
  | [], .returning, w, hl => by
    obtain ⟨v, h1, h2⟩ := hl
    refine ⟨v, ?_, h2⟩
    rw [← h1, results_none h, results_none h]
  | [], .panicking _, _, hl => hl
  | [], .run, _, hl => hl.elim
  | d :: ds, u, w, hl => by
    obtain ⟨h1, fv, cap, f, args, h2, h3, h4⟩ := hl
    refine ⟨h1, fv, cap, f, args, h2, h3, h4.mono ?_⟩
    intro e u' w' hh
    cases e with
    | returned _ => exact leaves_none h ds _ _ hh
    | panicked _ => exact leaves_none h ds _ _ hh
    | outgrown => exact hh
theorem bodyPostD_put {R : Ending → World → Prop} (c : List PanicEntry) (dst : Option Nat) (v : Value) (a : Act) (w : World) (h : bodyPostD Tryz.prog Tryz.f32 R (.panic c) (a.put dst v) w) : bodyPostD Tryz.prog Tryz.f32 R (.panic c) a w := by
  cases dst <;> exact leaves_none rfl _ _ _ h
set_option maxRecDepth 100000 in
set_option maxHeartbeats 16000000 in
theorem main_any (c : RunC) (hp : XP c.p) (K : Nat) (F : Nat → Prop) (W : World) (s : ESt) (h : ER c F W 0 s) (hR : 2 * left c.most s + 1 ≤ K) :
    Calls Tryz.prog 32 #[.pointer (some ⟨c.rb, 0, none⟩)] W fun e w' => e = .returned (.tuple #[]) ∧ KF F W w' ∧ EndRow c w' (callM c.p (mach c.p c.most K).stmt 0 wMain [] s) := by
  have hmf : ∀ (fn : Fn) (first cap : Array Value) (w : World), (Instr.makeFunc fn first cap).run Tryz.prog w = .ok (.func fn first cap) w := fun _ _ _ _ => rfl
  obtain ⟨j, hj, hjl, hpar⟩ := hp.main
  obtain ⟨iv, ov, hrun⟩ := h.run
  have hpx := h.b.px
  obtain ⟨aa, ac, fa, fc, e1, e2⟩ := hpx.slice
  have E1 := Lib.hid e1
  have E2 := Lib.hid e2
  rw [e1, e2] at hpx
  simp only [rRow, e1, e2] at hrun
  obtain ⟨b, o, C, rfl, hbG, hC, hrx⟩ := hpx.funcs.at hjl
  have hfn : funcAt c.p wMain = c.p.funcs[j] := by rw [funcAt, hj, fnAt, Int.toNat_natCast, List.getD_eq_getElem?_getD, List.getElem?_eq_getElem hjl]; rfl
  obtain ⟨f, hf⟩ : ∃ f, f = c.p.funcs[j] := ⟨_, rfl⟩
  have hbd : ∀ x ∈ f.body, YS c.p x := by rw [hf]; exact hp.body _ (List.getElem_mem hjl)
  rw [← hf] at hfn hrx hpar
  obtain ⟨hn0, hn1, hn2, hn3⟩ := hrx
  obtain ⟨pa, pc, hp1, -⟩ := id hn1
  obtain ⟨la, lc, hl1, -⟩ := id hn2
  obtain ⟨ba, bc, hb1⟩ := hn3.slice
  have e0 := hC 0 (by omega)
  have e1' := hC 1 (by omega)
  have e2' := hC 2 (by omega)
  have e3 := hC 3 (by omega)
  rw [hn0] at e0
  rw [hp1] at e1' hn1
  rw [hl1] at e2' hn2
  rw [hb1] at e3 hn3
  simp only [Nat.add_zero] at e0 e1' e2' e3
  obtain ⟨pl, hpl⟩ : ∃ n, n = f.params.length := ⟨_, rfl⟩
  obtain ⟨ll, hll⟩ : ∃ n, n = f.locals.length := ⟨_, rfl⟩
  obtain ⟨bl, hbl⟩ : ∃ n, n = f.body.length := ⟨_, rfl⟩
  rw [← hpl] at e1' hn1
  rw [← hll] at e2' hn2
  rw [← hbl] at e3 hn3
  obtain ⟨rb, hrb⟩ : ∃ r, r = c.rb := ⟨_, rfl⟩
  rw [← hrb] at hrun ⊢
  obtain ⟨w1, hw1⟩ : ∃ w1, w1 = W.alloc (.cells #[.pointer (some ⟨rb, 0, none⟩)] 75) := ⟨_, rfl⟩
  have hwe := hw1.symm
  have hg1 : W.grownBy w1 none := by rw [hw1]; exact alloc_grown _ _ _
  have hx1 : Row w1 W.heap.size 75 [.pointer (some ⟨rb, 0, none⟩)] := by rw [hw1]; exact heap_new _ _
  have hb1' : Below W.heap.size W w1 := by rw [hw1]; exact below_a1 _ _
  have hE1 : ER c (fun b => F b ∨ b = W.heap.size) w1 0 s := h.add hg1 (fun r e => by cases e) (fun b hb => ⟨by omega, by rw [hb]; exact hx1.lt⟩)
  have hk1 : KF F W w1 := h.kf hg1 (fun r e => by cases e)
  have hr1 := hrun.kept hg1 (by simp)
  have HPL := Lib.hid (fun W' (hb : Below W.heap.size W W') => place_any c.p wMain _ _ W' c.G (hpx.below hb))
  rw [hj] at HPL
  obtain ⟨an, han⟩ : ∃ n, n = c.p.arrays.length := ⟨_, rfl⟩
  obtain ⟨fn, hfn'⟩ : ∃ n, n = c.p.funcs.length := ⟨_, rfl⟩
  rw [← han, ← hfn'] at hr1 HPL
  rw [← han] at E1
  rw [← hfn'] at E2
  rw [← hfn'] at hjl
  have hjz : ¬ (j : Int) < 0 := by omega
  have hjn : (j : Int) < (fn : Int) := by omega
  have HX1 := Lib.hid hx1
  have HRUN := Lib.hid hr1
  have HB1 := Lib.hid hb1'
  have HE1 := Lib.hid hE1
  have HK1 := Lib.hid hk1
  have HH := Lib.hid h
  have HRB := Lib.hid hrb
  have HG := Lib.hid hbG
  have HFN := Lib.hid hfn
  have HBD := Lib.hid hbd
  have HN1 := Lib.hid hn1
  have HN2 := Lib.hid hn2
  have HN3 := Lib.hid hn3
  have HC0 := Lib.hid (gcell e0 hg1 (by simp))
  have HC1' := Lib.hid (gcell e1' hg1 (by simp))
  have HC2' := Lib.hid (gcell e2' hg1 (by simp))
  have HC3' := Lib.hid (gcell e3 hg1 (by simp))
  have HR := Lib.hid hR
  have HP := Lib.hid hp
  have HPR := Lib.hid hpar
  have HPN := Lib.hid hpl
  obtain ⟨Q, hQ⟩ : ∃ Q : World → Prop, Q = fun w' => KF F W w' ∧ EndRow c w' (callM c.p (mach c.p c.most K).stmt 0 wMain [] s) := ⟨_, rfl⟩
  have HQ := Lib.hid hQ
  suffices hsuf : Calls Tryz.prog 32 #[.pointer (some ⟨rb, 0, none⟩)] W (fun e w' => e = .returned (.tuple #[]) ∧ Hid (Q w')) from hsuf.mono fun e w' h => ⟨h.1, by have := h.2.out; rwa [HQ.out] at this⟩
  clear h hp hR hj hpar hrun hpx e1 e2 hC hfn hf hbd hn0 hn1 hn2 hn3 hp1 hl1 hb1 e0 e1' e2' e3 hpl hll hbl hrb hw1 hg1 hx1 hb1' hE1 hk1 hr1 han hfn' hbG hQ
  go_enter_defers Tryz.func32, Tryz.ntmps32
  go_upto_region 2 with (fail)
  clear hmf
  refine wp_region_ordW (by kernel_rfl) (fun X => X.cell? ⟨W.heap.size, 0, none⟩ = some (.pointer (some ⟨rb, 0, none⟩)) ∧ X.cell? ⟨rb, 0, none⟩ = some (.slice aa an ac) ∧ X.cell? ⟨rb, 1, none⟩ = some (.slice (some ⟨b, o, none⟩) fn fc) ∧ X.cell? ⟨b, o + j * 4, none⟩ = some (S f.name) ∧ X.cell? ⟨b, o + j * 4 + 1, none⟩ = some (.slice pa pl pc) ∧ X.cell? ⟨b, o + j * 4 + 2, none⟩ = some (.slice la ll lc) ∧ X.cell? ⟨b, o + j * 4 + 3, none⟩ = some (.slice ba bl bc))
    [(0, 0), (0, 1), (0, 2), (0, 3), (0, 4), (0, 5), (0, 6), (0, 7), (0, 8), (0, 9), (1, 10), (0, 11), (0, 12), (1, 13), (0, 14)] (by kernel_rfl) ?hS ?_
  case hS => intro wd hh; exact ⟨row_at HX1.out hh 0, row_at HRUN.out hh 0, row_at HRUN.out hh 1, (cell_heap hh _).trans HC0.out, (cell_heap hh _).trans HC1'.out, (cell_heap hh _).trans HC2'.out, (cell_heap hh _).trans HC3'.out⟩
  intro wd hh hgd hS
  have HGD := Lib.hid (HB1.out.grown hgd HB1.out.size (fun r e => by cases e))
  have HBD0 := Lib.hid (show Below w1.heap.size w1 wd from ⟨hgd.os, hgd.tape, hgd.output, hgd.size, fun k hk => hgd.block k hk (by simp)⟩)
  clear hh hgd
  simp only [pickOps, List.map_cons, List.map_nil, List.getElem?_cons_zero, List.getElem?_cons_succ, Option.getD_some]
  repeat (first | (refine wpOrd_pass (by rfl) (by assumption) (fun _ _ _ h => bodyPostD_put _ _ _ _ _ h) ?_; simp only [Act.put, List.setIfInBounds_toArray, List.set_cons_zero, List.set_cons_succ]) | (refine wpOrd_look (v := ?_) (by rfl) ?_ (by assumption) (fun _ _ _ h => bodyPostD_put _ _ _ _ _ h) ?_; rotate_left; (· (intro wS hSw; (try dsimp only at hSw); go_simp; (first | done | with_reducible rfl))); simp only [Act.put, List.setIfInBounds_toArray, List.set_cons_zero, List.set_cons_succ]))
  refine wpOrd_turn ?_
  go_wp2_with (first
    | (go_at_call 48; refine (HPL.out _ HGD.out).mono ?_; rintro e' w4 ⟨rfl, hb4⟩; have HB4 := Lib.hid (HBD0.out.trans (hb4.mono HBD0.out.size)); clear hb4 hS))
  refine QN_keep ⟨(HX1.out.ext HB4.out).cell 0, (HRUN.out.ext HB4.out).cell 0, (HRUN.out.ext HB4.out).cell 1, gcell HC0.out (below_grown HB4.out none) (by simp), gcell HC1'.out (below_grown HB4.out none) (by simp), gcell HC2'.out (below_grown HB4.out none) (by simp), gcell HC3'.out (below_grown HB4.out none) (by simp)⟩ fun hS => ?_
  repeat (first | (refine wpOrd_pass (by rfl) (by assumption) (fun _ _ _ h => bodyPostD_put _ _ _ _ _ h) ?_; simp only [Act.put, List.setIfInBounds_toArray, List.set_cons_zero, List.set_cons_succ]) | (refine wpOrd_look (v := ?_) (by rfl) ?_ (by assumption) (fun _ _ _ h => bodyPostD_put _ _ _ _ _ h) ?_; rotate_left; (· (intro wS hSw; (try dsimp only at hSw); go_simp; (first | done | with_reducible rfl))); simp only [Act.put, List.setIfInBounds_toArray, List.set_cons_zero, List.set_cons_succ]))
  have hE4 : ER c (fun b => F b ∨ b = W.heap.size) w4 0 s := HE1.out.below HB4.out
  have hkk : ∀ b, c.G b → w4.heap[b]? = W.heap[b]? := fun b hb => (HB4.out.block b (HE1.out.b.lt b (.inl (HH.out.b.gf b hb)))).trans (HB1.out.block b (HH.out.b.lt b (HH.out.b.gf b hb)))
  have hcall := begin_walks c HP.out K _ w4 0 s f (S f.name) _ _ _ (.slice none 0 0) [] hE4 (HN1.out.on hkk fun _ _ h => h) (HN2.out.on hkk fun _ _ h => h) (HN3.out.on hkk) HBD.out (by rw [HPR.out]; rfl) (RSlB.nil _ _ _ _) HR.out (by omega)
  rw [← HRB.out] at hcall
  obtain ⟨r5, hr5⟩ : ∃ r, r = callM c.p (mach c.p c.most K).stmt 0 wMain [] s := ⟨_, rfl⟩
  rw [show callF (mach c.p c.most K).stmt 0 f [] s = r5 by rw [hr5, callM_f, HFN.out]] at hcall
  rw [← hr5] at HQ
  have HCALL := Lib.hid hcall
  have hk4 : KF F W w4 := HK1.out.trans ((KF.below HB4.out HE1.out.b.lt).mono fun b hb => .inl hb)
  have HK4 := Lib.hid hk4
  clear hS hE4 hkk hcall hr5 hk4
  refine wpOrd_turn ?_
  cases r5 with
  | stop a b' s5 =>
    go_wp2_with (first
      | (go_at_call 53; refine HCALL.out.mono ?_; rintro e' w5 ⟨hk5, rfl, d', he5⟩; have HK5 := Lib.hid hk5; have HE5 := Lib.hid he5; clear hk5 he5))
    obtain ⟨iv5, ov5, hrun5, hin5, hou5, hob5⟩ := HE5.out.st
    rw [← HRB.out] at hrun5
    have hx5 := HK5.out.row (HX1.out.ext HB4.out) (.inr rfl)
    have hrl : rb < W.heap.size := by rw [HRB.out]; obtain ⟨_, _, hh⟩ := HH.out.run; exact hh.lt
    refine leaves_cons (f := 52) (args := #[.pointer (some ⟨W.heap.size, 0, none⟩)]) (by simp) (by simp [go_sem]) ?_
    refine (main1_catch W.heap.size rb a b' _ w5 hx5 hrun5 rfl (by omega)).mono ?_
    rintro e u' w6 ⟨rfl, rfl, hg6, hr6⟩
    have ho6 := OwnInts.tag hou5 hg6 (NoTag.box 3 hrun5 (by decide))
    have hkf : KF F W w6 := (HK4.out.trans (HK5.out.mono fun b hb => .inl hb)).trans (KF.grown hg6 (fun b hb => HE5.out.b.lt b (.inl hb)) (fun r e => by cases e; rw [HRB.out]; exact HH.out.b.rbF))
    have hend : Q w6 := by
      rw [HQ.out]
      rw [HRB.out] at hr6
      exact ⟨hkf, iv5, ov5, d', hr6, ho6⟩
    exact ⟨_, results_none rfl _ _ _, rfl, Lib.hid hend⟩
  | ok n s5 =>
    go_wp2_with (first
      | (go_at_call 53; refine HCALL.out.mono ?_; rintro e' w5 ⟨hk5, rfl, he5⟩; have HK5 := Lib.hid hk5; have HE5 := Lib.hid he5; clear hk5 he5))
    obtain ⟨iv5, ov5, hr5⟩ := HE5.out.run
    simp only [rRow, E1.out, E2.out] at hr5
    rw [← HRB.out] at hr5
    have hbG5 : w5.heap[b]? = w4.heap[b]? := HK5.out.block b (.inl (HH.out.b.gf b HG.out))
    refine QN_keep ⟨(HK5.out.row (HX1.out.ext HB4.out) (.inr rfl)).cell 0, hr5.cell 0, hr5.cell 1, (cell_on hbG5).trans (gcell HC0.out (below_grown HB4.out none) (by simp)), (cell_on hbG5).trans (gcell HC1'.out (below_grown HB4.out none) (by simp)), (cell_on hbG5).trans (gcell HC2'.out (below_grown HB4.out none) (by simp)), (cell_on hbG5).trans (gcell HC3'.out (below_grown HB4.out none) (by simp))⟩ fun hS => ?_
    clear hr5 hbG5
    repeat (first | (refine wpOrd_pass (by rfl) (by assumption) (fun _ _ _ h => bodyPostD_put _ _ _ _ _ h) ?_; simp only [Act.put, List.setIfInBounds_toArray, List.set_cons_zero, List.set_cons_succ]) | (refine wpOrd_look (v := ?_) (by rfl) ?_ (by assumption) (fun _ _ _ h => bodyPostD_put _ _ _ _ _ h) ?_; rotate_left; (· (intro wS hSw; (try dsimp only at hSw); go_simp; (first | done | with_reducible rfl))); simp only [Act.put, List.setIfInBounds_toArray, List.set_cons_zero, List.set_cons_succ]))
    refine wpOrd_nil ?_
    clear hS
    go_upto_region 3 with (fail)
    obtain ⟨iv5, ov5, hrun5, hin5, hou5, hob5⟩ := HE5.out.st
    rw [← HRB.out] at hrun5
    have hx5 := HK5.out.row (HX1.out.ext HB4.out) (.inr rfl)
    have HR5 := Lib.hid hrun5
    have HX5 := Lib.hid hx5
    have HO5 := Lib.hid hou5
    have hrl : rb < W.heap.size := by rw [HRB.out]; obtain ⟨_, _, hh⟩ := HH.out.run; exact hh.lt
    clear hrun5 hx5 hou5 hin5 hob5
    refine wp_region_ordV (by kernel_rfl) (fun X => X.cell? ⟨W.heap.size, 0, none⟩ = some (.pointer (some ⟨rb, 0, none⟩))) [(0, 0), (0, 1), (0, 2), (0, 3), (0, 4), (0, 5), (1, 6), (0, 7), (0, 8), (0, 9), (2, 10)] (by kernel_rfl) ?hS2 ?_
    case hS2 => intro wd hh; exact row_at HX5.out hh 0
    intro wd hh hgd hS
    have hrd := HR5.out.kept hgd (by simp)
    have hxd := HX5.out.kept hgd (by simp)
    have c6 := hrd.cell 6
    have z6 := hrd.frozen 6
    have hg2 := setCell_grown wd rb 6 (I 1)
    have hr2 := hrd.set 6 (I 1)
    have c7 := hr2.cell 7
    have z7 := hr2.frozen 7
    have hx2 := hxd.kept hg2 (by simp; omega)
    have hg3 := setCell_grown (wd.setCell ⟨rb, 6, none⟩ (I 1)) rb 7 (I n)
    have hr3 := hr2.set 7 (I n)
    simp only [List.getElem?_cons_succ, List.getElem?_cons_zero, List.set_cons_succ, List.set_cons_zero] at c6 c7
    have hgg : w5.grownBy ((wd.setCell ⟨rb, 6, none⟩ (I 1)).setCell ⟨rb, 7, none⟩ (I n)) (some rb) := ((grown_any hgd).trans hg2).trans hg3
    have ho3 := OwnInts.tag (OwnInts.tag (HO5.out.kept hgd (fun r e => by cases e)) hg2 (NoTag.box 3 hrd (by decide))) hg3 (NoTag.box 3 hr2 (by decide))
    have hkf : KF F W ((wd.setCell ⟨rb, 6, none⟩ (I 1)).setCell ⟨rb, 7, none⟩ (I n)) := (HK4.out.trans (HK5.out.mono fun b hb => .inl hb)).trans (KF.grown hgg (fun b hb => HE5.out.b.lt b (.inl hb)) (fun r e => by cases e; rw [HRB.out]; exact HH.out.b.rbF))
    have hend : Q ((wd.setCell ⟨rb, 6, none⟩ (I 1)).setCell ⟨rb, 7, none⟩ (I n)) := by
      rw [HQ.out]
      rw [HRB.out] at hr3 hkf ho3 ⊢
      exact ⟨hkf, iv5, ov5, 0, hr3, ho3⟩
    have HEND := Lib.hid (Lib.hid hend)
    have HX2 := Lib.hid hx2
    clear hh hgd hrd hxd hg2 hr2 hx2 hg3 hr3 hgg ho3 hkf hend
    simp only [pickOps, List.map_cons, List.map_nil, List.getElem?_cons_zero, List.getElem?_cons_succ, Option.getD_some]
    repeat (first | (refine wpOrd_pass (by rfl) (by assumption) (fun _ _ _ h => bodyPostD_put _ _ _ _ _ h) ?_; simp only [Act.put, List.setIfInBounds_toArray, List.set_cons_zero, List.set_cons_succ]) | (refine wpOrd_look (v := ?_) (by rfl) ?_ (by assumption) (fun _ _ _ h => bodyPostD_put _ _ _ _ _ h) ?_; rotate_left; (· (intro wS hSw; (try dsimp only at hSw); go_simp; (first | done | with_reducible rfl))); simp only [Act.put, List.setIfInBounds_toArray, List.set_cons_zero, List.set_cons_succ]))
    refine wpOrd_turn ?_
    go_wp2
    refine QN_keep (HX2.out.cell 0) fun hS => ?_
    clear c6 z6
    repeat (first | (refine wpOrd_pass (by rfl) (by assumption) (fun _ _ _ h => bodyPostD_put _ _ _ _ _ h) ?_; simp only [Act.put, List.setIfInBounds_toArray, List.set_cons_zero, List.set_cons_succ]) | (refine wpOrd_look (v := ?_) (by rfl) ?_ (by assumption) (fun _ _ _ h => bodyPostD_put _ _ _ _ _ h) ?_; rotate_left; (· (intro wS hSw; (try dsimp only at hSw); go_simp; (first | done | with_reducible rfl))); simp only [Act.put, List.setIfInBounds_toArray, List.set_cons_zero, List.set_cons_succ]))
    refine wpOrd_last ?_
    go_wp2
    refine QN_normal ?_
    refine wpOrd_nil ?_
    clear hS c7 z7
    go_wp2
    refine leaves_cons (f := 52) (args := #[.pointer (some ⟨W.heap.size, 0, none⟩)]) (by simp) (by simp [go_sem]) ?_
    refine (main1_idle _ _).mono ?_
    rintro e u' w6 ⟨rfl, rfl, rfl⟩
    exact ⟨_, results_none rfl _ _ _, rfl, HEND.out⟩
end Go.Proofs.YtjgbkdbkachciaaGreatDoor

namespace Go.Proofs.YtjgbkdbkachciaaGreatDoor
open Go.RowKit Go.Shelf
attribute [local go_sem] Oper.semAt_some

/-- a program that may be run -/
structure Runs (p : LP) : Prop where
  okp : okP p
  okn : okN p
  cat : ∀ f ∈ p.funcs, CatOk f
  xp : XP p
  few : p.arrays.length + p.funcs.length ≤ 1000000000
  few2 : ∀ f ∈ p.funcs, f.params.length + f.locals.length ≤ 1000000000
theorem results_f17 {tmps : Array Value} {w : World} {b : Nat} {x y z u : Value} (h6 : tmps.getD 6 undef = .pointer (some ⟨b, 0, none⟩)) (hr : Row w b 37 [x, y, z, u]) :
    (results Tryz.f17 tmps).run Tryz.prog w = .ok (.agg #[x, y, z, u]) w := by
  have h6' : tmps[6]?.getD undef = .pointer (some ⟨b, 0, none⟩) := by simpa using h6
  have c0 := hr.cell 0
  have c1 := hr.cell 1
  have c2 := hr.cell 2
  have c3 := hr.cell 3
  simp only [List.getElem?_cons_zero, List.getElem?_cons_succ] at c0 c1 c2 c3
  simp [results, h6', asAddr, go_sem, c0, c1, c2, c3]
abbrev r37Z : Array Value := #[.int .i64 0, .int .i64 0, .slice none 0 0, .int .i64 0]

set_option maxRecDepth 100000 in
set_option maxHeartbeats 16000000 in
/-- a program without arrays run -/
theorem run0_any (p : LP) (hr : Runs p) (ha : p.arrays = []) (av fv iv : Value) (inp : List Int) (most : Int) (W : World) (hx : PX (· < W.heap.size) W av fv p) (hi : RIn (· < W.heap.size) W iv inp) (hm : most ≤ 1000000) (K : Nat) (hK : 2 * most.toNat + 1 ≤ K) :
    Calls Tryz.prog 17 #[.agg #[av, fv], iv, I most] W fun e w' => ∃ ov, e = .returned (.agg #[I (runM p K inp most).status, I (runM p K inp most).code, ov, I (runM p K inp most).steps]) ∧ OwnInts w' 0 ov (runM p K inp most).out ∧ Below W.heap.size W w' := by
  obtain ⟨Q, hQ⟩ : ∃ Q : Ending → World → Prop, Q = fun e w' => ∃ ov, e = .returned (.agg #[I (runM p K inp most).status, I (runM p K inp most).code, ov, I (runM p K inp most).steps]) ∧ OwnInts w' 0 ov (runM p K inp most).out ∧ Below W.heap.size W w' := ⟨_, rfl⟩
  suffices hsuf : Calls Tryz.prog 17 #[.agg #[av, fv], iv, I most] W (fun e w' => Hid (Q e w')) from hsuf.mono fun e w' h => by have := h.out; rwa [hQ] at this
  have HQ := Lib.hid hQ
  obtain ⟨aa, ac, fa, fc, rfl, rfl⟩ := hx.slice
  obtain ⟨fn, hfn⟩ : ∃ n, n = p.funcs.length := ⟨_, rfl⟩
  have ha0 : p.arrays.length = 0 := by rw [ha]; rfl
  rw [ha0, ← hfn] at hx ⊢
  obtain ⟨ia, ik, hiv, hil⟩ := hi.room
  have HI := Lib.hid hi
  have HX := Lib.hid hx
  have HRS := Lib.hid hr
  have HA := Lib.hid ha
  have HK := Lib.hid hK
  have HM := Lib.hid hm
  have HIV := Lib.hid hiv
  obtain ⟨il, hil'⟩ : ∃ n, n = inp.length := ⟨_, rfl⟩
  rw [← hil'] at hiv
  subst hiv
  have HIL := Lib.hid hil'
  have HCK := Lib.hid (fun (w : World) (hb : Below W.heap.size W w) => check_yes (· < W.heap.size) p _ _ w (hx.below hb) hr.okp hr.okn hr.cat hr.few hr.few2)
  clear hQ hx hi hr ha hK hm hil hil' hfn ha0
  obtain ⟨w0, hw0⟩ : ∃ w0, w0 = (W.alloc (.cells #[.slice aa 0 ac, .slice fa fn fc] 27)).alloc (.cells r37Z 37) := ⟨_, rfl⟩
  have hwe := hw0.symm
  have hb0 : Below W.heap.size W w0 := by rw [hw0]; exact below_a2 _ _ _
  have hp0 : Row w0 W.heap.size 27 [.slice aa 0 ac, .slice fa fn fc] := by rw [hw0]; exact heap_old _ _ (heap_new _ _)
  have hs0 : Row w0 (W.heap.size + 1) 37 [I 0, I 0, .slice none 0 0, I 0] := by rw [hw0]; exact heap_at (by simp)
  have p0 := hp0.cell 0
  have p1 := hp0.cell 1
  simp only [List.getElem?_cons_zero, List.getElem?_cons_succ] at p0 p1
  have HB0 := Lib.hid hb0
  have HP0 := Lib.hid hp0
  have HS0 := Lib.hid hs0
  clear hw0 hb0 hp0 hs0
  go_enter Tryz.func17, Tryz.ntmps17
  go_upto_region 2 with (first
    | (go_at_call 31; refine (HCK.out _ HB0.out).mono ?_; rintro e' w1 ⟨rfl, hb1⟩; have HB1 := Lib.hid (HB0.out.trans (hb1.mono HB0.out.size)); have HB1' := Lib.hid hb1; clear hb1))
  obtain ⟨w2, hw2⟩ : ∃ w2, w2 = w1.alloc (.cells #[.int .i64 0, .int .i64 0] 72) := ⟨_, rfl⟩
  have hb2 : Below W.heap.size W w2 := by rw [hw2]; exact HB1.out.alloc HB1.out.size _
  have hp2 : Row w2 W.heap.size 27 [.slice aa 0 ac, .slice fa fn fc] := by rw [hw2]; exact heap_old _ _ (HP0.out.ext HB1'.out)
  have hs2 : Row w2 (W.heap.size + 1) 37 [I 0, I 0, .slice none 0 0, I 0] := by rw [hw2]; exact heap_old _ _ (HS0.out.ext HB1'.out)
  rw [← hw2]
  have q0 := hp2.cell 0
  have q1 := hp2.cell 1
  simp only [List.getElem?_cons_zero, List.getElem?_cons_succ] at q0 q1
  have HB2 := Lib.hid hb2
  have HP2 := Lib.hid hp2
  have HS2 := Lib.hid hs2
  clear hw2 hb2 hp2 hs2 p0 p1
  go_upto_region 5 with (fail)
  obtain ⟨w3, hw3⟩ : ∃ w3, w3 = w2.alloc (.cells #[.slice aa 0 ac, .slice fa fn fc, .slice ia il ik, .slice none 0 0, I 0, I most, I 0, I 0, .slice none 0 0, I 0] 78) := ⟨_, rfl⟩
  obtain ⟨rb, hrb⟩ : ∃ r, r = w2.heap.size := ⟨_, rfl⟩
  have hb3 : Below W.heap.size W w3 := by rw [hw3]; exact HB2.out.alloc HB2.out.size _
  have hp3 : Row w3 W.heap.size 27 [.slice aa 0 ac, .slice fa fn fc] := by rw [hw3]; exact heap_old _ _ HP2.out
  have hs3 : Row w3 (W.heap.size + 1) 37 [I 0, I 0, .slice none 0 0, I 0] := by rw [hw3]; exact heap_old _ _ HS2.out
  have hr3 : Row w3 rb 78 [.slice aa 0 ac, .slice fa fn fc, .slice ia il ik, .slice none 0 0, I 0, I most, I 0, I 0, .slice none 0 0, I 0] := by rw [hw3, hrb]; exact heap_new _ _
  have hrl : W.heap.size + 1 < rb := by rw [hrb]; exact HS2.out.lt
  rw [← hw3, ← hrb]
  have s0 := hp3.cell 0
  simp only [List.getElem?_cons_zero] at s0
  let c : RunC := ⟨(· < W.heap.size), p, .slice aa 0 ac, .slice fa fn fc, .slice none 0 0, [], most, rb⟩
  have hg3 := below_grown hb3 none
  have her : ER c (· < W.heap.size + 2) w3 0 (st0 p inp) := by
    refine ⟨⟨fun b hb => ?_, fun b hb => ?_, ?_, HX.out.grown hg3 (fun r e => (by cases e)), RSlB.nil _ _ _ _, List.nodup_nil, fun x hx => (by cases hx), (by show (p.arrays.map fun a => List.replicate a.size.toNat (0 : Int)).length = 0; rw [HA.out]; rfl), (by show 0 = p.arrays.length; rw [HA.out]; rfl), fun i x l hx => (by cases hx)⟩, ⟨(by simp), (by simp), (by omega), HM.out⟩, .slice ia il ik, .slice none 0 0, hr3, HI.out.grown hg3 (fun r e => (by cases e)) (fun _ _ h => h), OwnInts.nil _ _, fun g hg => (by cases hg)⟩
    · have : b < W.heap.size + 2 := hb
      have := hr3.lt
      omega
    · have : b < W.heap.size := hb
      show b < W.heap.size + 2
      omega
    · show ¬ rb < W.heap.size + 2
      omega
  have hmain := main_any c HRS.out.xp K _ w3 (st0 p inp) her (by show 2 * (most - ((0 : Nat) : Int)).toNat + 1 ≤ K; have := HK.out; omega)
  have HMA := Lib.hid (show Calls Tryz.prog 32 #[.pointer (some ⟨rb, 0, none⟩)] w3 _ from hmain)
  have HB3 := Lib.hid hb3
  have HP3 := Lib.hid hp3
  have HS3 := Lib.hid hs3
  have hrn : rb ≠ W.heap.size + 1 := by omega
  clear hw3 hrb hb3 hp3 hs3 hr3 hg3 her hmain q0 q1
  go_upto_region 6 with (fail)
  go_loopg [28] 0 (fun gh i wr => i = I 0 ∧ wr = w3)
  case atStart => exact ⟨rfl, rfl⟩
  case round =>
    obtain ⟨rfl, hwr⟩ := hrel
    subst hwr
    go_upto_region 11 with (first
      | (go_at_call 32; refine HMA.out.mono ?_; rintro e' w4 ⟨rfl, hk4, iv4, ov4, d4, hr4, ho4⟩; have HK4 := Lib.hid hk4; have HR4 := Lib.hid hr4; have HO4 := Lib.hid ho4; clear hk4 hr4 ho4))
    have hs4 := HK4.out.row HS3.out (show W.heap.size + 1 < W.heap.size + 2 by omega)
    have hrun : runM p K inp most = tellR (callM p (mach p most K).stmt 0 wMain [] (st0 p inp)) := runM_eq p K inp most
    have hr4 := HR4.out
    have ho4 := HO4.out
    change Row w4 rb 78 [.slice aa 0 ac, .slice fa fn fc, iv4, .slice none 0 0, I d4, I most, I (tellR (callM p (mach p most K).stmt 0 wMain [] (st0 p inp))).status, I (tellR (callM p (mach p most K).stmt 0 wMain [] (st0 p inp))).code, ov4, I (tellR (callM p (mach p most K).stmt 0 wMain [] (st0 p inp))).steps] at hr4
    change OwnInts w4 0 ov4 (tellR (callM p (mach p most K).stmt 0 wMain [] (st0 p inp))).out at ho4
    rw [← hrun] at hr4 ho4
    obtain ⟨oa, oc, rfl⟩ := ho4.slice
    obtain ⟨L, hL⟩ : ∃ L, L = runM p K inp most := ⟨_, rfl⟩
    rw [← hL] at hr4 ho4 HQ
    obtain ⟨ol, hol⟩ : ∃ n, n = L.out.length := ⟨_, rfl⟩
    have HOL := Lib.hid hol
    rw [← hol] at hr4 ho4
    have k6 := hr4.cell 6
    have k7 := hr4.cell 7
    have k8 := hr4.cell 8
    have k9 := hr4.cell 9
    simp only [List.getElem?_cons_zero, List.getElem?_cons_succ] at k6 k7 k8 k9
    obtain ⟨w5, hw5⟩ : ∃ w5, w5 = w4.setRow (W.heap.size + 1) #[I L.status, I L.code, .slice oa ol oc, I L.steps] := ⟨_, rfl⟩
    have hwe5 := hw5.symm
    have hg5 : w4.grownBy w5 (some (W.heap.size + 1)) := by rw [hw5]; exact setRow_grown
    have hs5 : Row w5 (W.heap.size + 1) 37 [I L.status, I L.code, .slice oa ol oc, I L.steps] := by rw [hw5]; exact setRow_heap _ _ _ _ _ _ hs4
    have ho5 := OwnInts.tag ho4 hg5 (NoTag.box 3 hs4 (by decide))
    have hb5 : Below W.heap.size W w5 := by
      refine ⟨(hg5.os.trans HK4.out.os).trans HB3.out.os, (hg5.tape.trans HK4.out.tape).trans HB3.out.tape, (hg5.output.trans HK4.out.output).trans HB3.out.output, Nat.le_trans (Nat.le_trans HB3.out.size HK4.out.size) hg5.size, fun b hb => ?_⟩
      have h1 := HB3.out.size
      have h2 := HK4.out.size
      exact ((hg5.block b (by omega) (by simp; omega)).trans (HK4.out.block b (show b < W.heap.size + 2 by omega))).trans (HB3.out.block b hb)
    have HS4 := Lib.hid hs4
    have HS5 := Lib.hid hs5
    have HO5 := Lib.hid ho5
    have HB5 := Lib.hid hb5
    clear hs4 hrun hr4 ho4 hL hol hw5 hg5 hs5 ho5 hb5 s0
    go_wp2_with (first
      | (refine store_first 37 (.tmp 6) (.tmp 50) rfl ?_; refine wpList_store_row rfl 37 (.tmp 6) (.tmp 50) rfl (W.heap.size + 1) _ rfl rfl 37 r37Z HS4.out (by kernel_rfl) (by rfl) (by simp [Value.oneCell']) ?_; rw [hwe5]))
    refine bodyPost_ret (results_f17 rfl HS5.out) rfl ?_
    rw [HQ.out]
    exact Lib.hid ⟨_, rfl, HO5.out, HB5.out⟩
end Go.Proofs.YtjgbkdbkachciaaGreatDoor

namespace Go.Proofs.YtjgbkdbkachciaaGreatDoor
open Go.RowKit Go.Shelf
attribute [local go_sem] Oper.semAt_some

abbrev RunV (st cd : Int) (ov : Value) (n : Int) : Value := .agg #[I st, I cd, ov, I n]
/-- a list of ints that may be read -/
abbrev Lst (W : World) (v : Value) (l : List Int) : Prop := RSlB (fun b => b < W.heap.size) 1 RI W v l
theorem Lst.below {W W' : World} {v : Value} {l : List Int} (h : Lst W v l) (hb : Below W.heap.size W W') : Lst W' v l := (RSlB.below hb (fun _ _ h => h) h).weak (fun _b hb' => Nat.lt_of_lt_of_le hb' hb.size) fun _ _ h => h

set_option maxRecDepth 100000 in
set_option maxHeartbeats 8000000 in
theorem same_yes (st cd n : Int) (l : List Int) (v1 v2 : Value) (W : World) (h1 : Lst W v1 l) (h2 : Lst W v2 l) :
    Calls Tryz.prog 16 #[RunV st cd v1 n, RunV st cd v2 n] W fun e w' => e = .returned (.bool true) ∧ Below W.heap.size W w' := by
  obtain ⟨a1, c1, rfl, hl, -⟩ := id h1
  obtain ⟨a2, c2, rfl, -⟩ := id h2
  obtain ⟨N, hN⟩ : ∃ N, N = l.length := ⟨_, rfl⟩
  rw [← hN] at h1 h2 hl ⊢
  obtain ⟨w0, hw0⟩ : ∃ w0, w0 = (W.alloc (.cells #[I st, I cd, .slice a1 N c1, I n] 37)).alloc (.cells #[I st, I cd, .slice a2 N c2, I n] 37) := ⟨_, rfl⟩
  have hwe := hw0.symm
  have hb0 : Below W.heap.size W w0 := by rw [hw0]; exact below_a2 _ _ _
  have hp0 : Row w0 W.heap.size 37 [I st, I cd, .slice a1 N c1, I n] := by rw [hw0]; exact heap_old _ _ (heap_new _ _)
  have hs0 : Row w0 (W.heap.size + 1) 37 [I st, I cd, .slice a2 N c2, I n] := by rw [hw0]; exact heap_at (by simp)
  have p0 := hp0.cell 0
  have p1 := hp0.cell 1
  have p2 := hp0.cell 2
  have p3 := hp0.cell 3
  have s0 := hs0.cell 0
  have s1 := hs0.cell 1
  have s2 := hs0.cell 2
  have s3 := hs0.cell 3
  simp only [List.getElem?_cons_zero, List.getElem?_cons_succ] at p0 p1 p2 p3 s0 s1 s2 s3
  have H1 := Lib.hid h1
  have H2 := Lib.hid h2
  have HN := Lib.hid hN
  have HB0 := Lib.hid hb0
  have HP := Lib.hid hp0
  have HS := Lib.hid hs0
  clear h1 h2 hN hw0 hb0 hp0 hs0
  go_enter Tryz.func16, Tryz.ntmps16
  go_upto_region 3 with (fail)
  clear p0 p1 p2 p3 s0 s1 s2 s3
  go_upto_region 4 with (fail)
  go_loopg [5] N (fun gh i wr => ∃ k : Nat, gh + k = N ∧ i = I k ∧ Hid (Below W.heap.size W wr ∧ Row wr W.heap.size 37 [I st, I cd, .slice a1 N c1, I n] ∧ Row wr (W.heap.size + 1) 37 [I st, I cd, .slice a2 N c2, I n]))
  case atStart => exact ⟨0, rfl, rfl, Lib.hid ⟨HB0.out, HP.out, HS.out⟩⟩
  case round =>
    obtain ⟨k, hg, rfl, HH⟩ := hrel
    obtain ⟨wo, rfl⟩ : ∃ wo, wo = wr := ⟨_, rfl⟩
    have p2 := HH.out.2.1.cell 2
    have s2 := HH.out.2.2.cell 2
    simp only [List.getElem?_cons_zero, List.getElem?_cons_succ] at p2 s2
    by_cases hlt : k < N
    · have hltz : (k : Int) < (N : Int) := by omega
      have hkl : k < l.length := by rw [← HN.out]; exact hlt
      obtain ⟨b, o, C, rfl, _, hC, hrx⟩ := (RSlB.below HH.out.1 (fun _ _ h => h) H1.out).at hkl
      obtain ⟨b', o', C', rfl, _, hC', hrx'⟩ := (RSlB.below HH.out.1 (fun _ _ h => h) H2.out).at hkl
      have e1 := hC 0 (by omega)
      have e2 := hC' 0 (by omega)
      rw [show C 0 = I l[k] from hrx] at e1
      rw [show C' 0 = I l[k] from hrx'] at e2
      simp only [Nat.mul_one, Nat.add_zero] at e1 e2
      obtain ⟨x, hx⟩ : ∃ x, x = l[k] := ⟨_, rfl⟩
      rw [← hx] at e1 e2
      have HE1 := Lib.hid e1
      have HE2 := Lib.hid e2
      clear hC hC' hrx hrx' hx e1 e2
      go_upto_region 6 with (fail)
      refine wp_region_ordW (by kernel_rfl) (fun X => X.cell? ⟨W.heap.size, 2, none⟩ = some (.slice (some ⟨b, o, none⟩) N c1) ∧ X.cell? ⟨W.heap.size + 1, 2, none⟩ = some (.slice (some ⟨b', o', none⟩) N c2) ∧ X.cell? ⟨b, o + k, none⟩ = some (I x) ∧ X.cell? ⟨b', o' + k, none⟩ = some (I x)) [(0, 0), (0, 1), (0, 2), (0, 3), (0, 4), (0, 5), (0, 6), (0, 7), (0, 8), (0, 9), (0, 10)] (by kernel_rfl) ?hS ?_
      case hS => intro wd hh; exact ⟨row_at HH.out.2.1 hh 2, row_at HH.out.2.2 hh 2, (cell_heap hh _).trans HE1.out, (cell_heap hh _).trans HE2.out⟩
      intro wd hh hgd hS
      have HGD := Lib.hid (show Below W.heap.size W wd ∧ Row wd W.heap.size 37 [I st, I cd, .slice (some ⟨b, o, none⟩) N c1, I n] ∧ Row wd (W.heap.size + 1) 37 [I st, I cd, .slice (some ⟨b', o', none⟩) N c2, I n] from ⟨HH.out.1.grown hgd HH.out.1.size (fun r e => by cases e), HH.out.2.1.kept hgd (by simp), HH.out.2.2.kept hgd (by simp)⟩)
      clear hh hgd p2 s2 HH
      simp only [pickOps, List.map_cons, List.map_nil, List.getElem?_cons_zero, List.getElem?_cons_succ, Option.getD_some]
      repeat (first | (refine wpOrd_pass (by rfl) (by assumption) (fun _ _ _ h => h) ?_; simp only [Act.put, List.setIfInBounds_toArray, List.set_cons_zero, List.set_cons_succ]) | (refine wpOrd_look (v := ?_) (by rfl) ?_ (by assumption) (fun _ _ _ h => h) ?_; rotate_left; (· (intro wS hSw; (try dsimp only at hSw); go_simp; (first | done | with_reducible rfl))); simp only [Act.put, List.setIfInBounds_toArray, List.set_cons_zero, List.set_cons_succ]))
      refine wpOrd_nil ?_
      clear hS
      go_wp2
      go_roundg (N - (k + 1))
      case measure => omega
      case rel => exact ⟨k + 1, by omega, by go_num, HGD⟩
    · have hltz : ¬ (k : Int) < (N : Int) := by omega
      go_wp2
      go_ret
      exact ⟨rfl, HH.out.1⟩
set_option maxRecDepth 100000 in
/-- which of n things a raw number speaks of -/
theorem pick15_any (c n : Int) (hc : InI c) (hn : 1 ≤ n) (hn2 : n ≤ 4611686018427387904) (W : World) :
    Calls Tryz.prog 15 #[I c, I n] W fun e w' => e = .returned (I (pickI c n)) ∧ w' = W := by
  have hc' := hc
  unfold InI at hc'
  have hne : ¬ n = 0 := by omega
  by_cases h : c < 0
  · have hp : pickI c n = -(c + 1).tmod n := by
      unfold pickI
      rw [if_pos h, ← Int.neg_tmod, Int.tmod_eq_emod_of_nonneg (by omega)]
    rw [hp]
    clear hp
    go_enter Tryz.func15, Tryz.ntmps15
    go_wp2
    go_ret
    exact ⟨rfl, rfl⟩
  · have hp : pickI c n = c % n := by unfold pickI; rw [if_neg h]
    rw [hp]
    clear hp
    go_enter Tryz.func15, Tryz.ntmps15
    go_wp2
    go_ret
    exact ⟨rfl, rfl⟩
end Go.Proofs.YtjgbkdbkachciaaGreatDoor

namespace Go.Proofs.YtjgbkdbkachciaaGreatDoor
open Go.RowKit Go.Shelf
attribute [local go_sem] Oper.semAt_some

theorem results_f23 {tmps : Array Value} {w : World} {b : Nat} {x y z u : Value} (h2 : tmps.getD 2 undef = .pointer (some ⟨b, 0, none⟩)) (h3 : tmps.getD 3 undef = z) (h4 : tmps.getD 4 undef = u) (hr : Row w b 27 [x, y]) :
    (results Tryz.f23 tmps).run Tryz.prog w = .ok (.tuple #[.agg #[x, y], z, u]) w := by
  have h2' : tmps[2]?.getD undef = .pointer (some ⟨b, 0, none⟩) := by simpa using h2
  have h3' : tmps[3]?.getD undef = z := by simpa using h3
  have h4' : tmps[4]?.getD undef = u := by simpa using h4
  have c0 := hr.cell 0
  have c1 := hr.cell 1
  simp only [List.getElem?_cons_zero, List.getElem?_cons_succ] at c0 c1
  simp [results, h2', h3', h4', asAddr, go_sem, c0, c1]

set_option maxRecDepth 100000 in
set_option maxHeartbeats 8000000 in
/-- a text that is a right program -/
theorem parse_yes (l0 : Str) (ha : Asc l0) (hl : l0.length ≤ 20000) (fuel k g : Nat) (toks us : List Tok) (p : LP) (ht : scanF fuel 1 l0 = some toks) (hg : g ≤ 100000) (he : Ended toks) (hp : pgF k g g true toks = some (p, us)) (hok : okP p) (w : World) :
    Calls Tryz.prog 23 #[S l0] w fun e w' => ∃ av fv, e = .returned (.tuple #[.agg #[av, fv], I 0, I 0]) ∧ PX (w.heap.size ≤ ·) w' av fv p ∧ Below w.heap.size w w' := by
  have HWH := Lib.hid (fun W => whole_yes l0 ha hl fuel k g toks us p ht hg he hp W)
  have HOK := Lib.hid hok
  obtain ⟨w0, hw0⟩ : ∃ w0, w0 = w.alloc (.cells pZ 27) := ⟨_, rfl⟩
  have hwe := hw0.symm
  have hb0 : Below w.heap.size w w0 := by rw [hw0]; exact below_a1 _ _
  have hp0 : Row w0 w.heap.size 27 [.slice none 0 0, .slice none 0 0] := by rw [hw0]; exact heap_new _ _
  have HB0 := Lib.hid hb0
  have HP0 := Lib.hid hp0
  clear ha hl ht hg he hp hok hw0 hb0 hp0
  go_enter Tryz.func23, Tryz.ntmps23
  go_upto_region 2 with (first
    | (go_at_call 41; refine (HWH.out _).mono ?_; rintro e' w1 ⟨av, fv, rfl, hx1, hb1⟩; obtain ⟨ra, rc, fa, fc, rfl, rfl⟩ := hx1.slice; have HX1 := Lib.hid hx1; have HB1 := Lib.hid (HB0.out.trans (hb1.mono HB0.out.size)); have HP1 := Lib.hid (HP0.out.ext hb1); clear hx1 hb1))
  obtain ⟨w2, hw2⟩ : ∃ w2, w2 = w1.alloc (.cells #[.slice ra p.arrays.length rc, .slice fa p.funcs.length fc] 27) := ⟨_, rfl⟩
  have hb2 : Below w1.heap.size w1 w2 := by rw [hw2]; exact below_a1 _ _
  have hr2 : Row w2 w1.heap.size 27 [.slice ra p.arrays.length rc, .slice fa p.funcs.length fc] := by rw [hw2]; exact heap_new _ _
  have hp2 := HP1.out.ext hb2
  have hx2 := HX1.out.below hb2
  rw [← hw2]
  have c0 := hr2.cell 0
  have c1 := hr2.cell 1
  simp only [List.getElem?_cons_zero, List.getElem?_cons_succ] at c0 c1
  have HR2 := Lib.hid hr2
  have HP2 := Lib.hid hp2
  have HX2 := Lib.hid hx2
  have HB2 := Lib.hid (HB1.out.trans (hb2.mono HB1.out.size))
  clear hw2 hb2 hr2 hp2 hx2
  go_upto_region 4 with (first
    | (go_at_call 43; refine (right_yes _ HOK.out _ _ w2 _ HX2.out).mono ?_; rintro e' w3 ⟨rfl, hb3⟩; have HR3 := Lib.hid (HR2.out.ext hb3); have HP3 := Lib.hid (HP2.out.ext hb3); have HX3 := Lib.hid (HX2.out.below hb3); have HB3 := Lib.hid (HB2.out.trans (hb3.mono HB2.out.size)); clear hb3))
  have d0 := HR3.out.cell 0
  have d1 := HR3.out.cell 1
  simp only [List.getElem?_cons_zero, List.getElem?_cons_succ] at d0 d1
  obtain ⟨w4, hw4⟩ : ∃ w4, w4 = w3.setRow w.heap.size #[.slice ra p.arrays.length rc, .slice fa p.funcs.length fc] := ⟨_, rfl⟩
  have hwe4 := hw4.symm
  have hg4 : w3.grownBy w4 (some w.heap.size) := by rw [hw4]; exact setRow_grown
  have hr4 : Row w4 w.heap.size 27 [.slice ra p.arrays.length rc, .slice fa p.funcs.length fc] := by rw [hw4]; exact setRow_heap _ _ _ _ _ _ HP3.out
  have hx4 : PX (w.heap.size ≤ ·) w4 (.slice ra p.arrays.length rc) (.slice fa p.funcs.length fc) p := (HX3.out.grown hg4 (fun r e => by cases e; have := HB0.out.size; have := HP0.out.lt; simp; omega)).weak (fun b hb => by have := HP0.out.lt; have hb : w0.heap.size ≤ b := hb; show w.heap.size ≤ b; omega)
  have hb4 : Below w.heap.size w w4 := HB3.out.grown hg4 HB3.out.size (fun r e => by cases e; omega)
  have HR4 := Lib.hid hr4
  have HX4 := Lib.hid hx4
  have HB4 := Lib.hid hb4
  clear hw4 hg4 hr4 hx4 hb4 c0 c1
  go_wp2_with (first
    | (refine store_first 27 (.tmp 2) (.tmp 22) rfl ?_; refine wpList_store_row rfl 27 (.tmp 2) (.tmp 22) rfl w.heap.size _ rfl rfl 27 pZ HP3.out (by kernel_rfl) (by rfl) (by simp [Value.oneCell']) ?_; rw [hwe4]))
  refine bodyPost_ret (results_f23 rfl rfl rfl HR4.out) rfl ?_
  exact ⟨_, _, rfl, HX4.out, HB4.out⟩
end Go.Proofs.YtjgbkdbkachciaaGreatDoor

namespace Go.Proofs.YtjgbkdbkachciaaGreatDoor
open Go.RowKit Go.Shelf

/-! ### awake's program -/
abbrev awText : Str := [105, 110, 116, 32, 109, 97, 105, 110, 40, 41, 32, 123, 32, 112, 114, 105, 110, 116, 40, 49, 32, 47, 32, 114, 101, 97, 100, 40, 41, 41, 59, 32, 114, 101, 116, 117, 114, 110, 32, 55, 59, 32, 125]
abbrev awE : LE := .mk 4 4 0 [] [numE 1, .mk 7 0 0 [] []]
abbrev awF : LF := ⟨wMain, [], [], [.mk 8 [] [awE] [] [], .mk 7 [] [numE 7] [] []]⟩
abbrev awP : LP := ⟨[], [awF]⟩
def awToks : List Tok := (scanF 100 1 awText).getD []
def awUs : List Tok := ((pgF 50 100 100 true awToks).map (·.2)).getD []
theorem aw_scan : scanF 100 1 awText = some awToks := by kernel_rfl
theorem aw_prog : pgF 50 100 100 true awToks = some (awP, awUs) := by kernel_rfl
theorem aw_ended : Ended awToks := by
  have h : (awToks.getLast?.map (·.kind)) = some 5 := by kernel_rfl
  cases hl : awToks.getLast? with
  | none => rw [hl] at h; cases h
  | some t => rw [hl] at h; exact ⟨t, hl, Option.some.inj h⟩
theorem asc_of {l : Str} (h : l.all (fun b => decide (b.toNat < 128)) = true) : Asc l := by
  intro b hb
  have := List.all_eq_true.1 h b hb
  simpa using this
theorem aw_asc : Asc awText := asc_of (by decide +kernel)
theorem num_okE (n : Int) (h : 0 ≤ n) (d : Nat) : okE (d + 1) (numE n) := ⟨.inl ⟨rfl, h, rfl, rfl, rfl⟩, fun x hx => by cases hx⟩
theorem aw_okE : okE 40 awE := by
  refine ⟨.inr (.inr (.inr (.inl ⟨rfl, ⟨by decide, by decide⟩, rfl, rfl, rfl⟩))), fun x hx => ?_⟩
  rcases List.mem_cons.1 hx with rfl | hx
  · exact num_okE 1 (by decide) _
  rcases List.mem_cons.1 hx with rfl | hx
  · exact ⟨.inr (.inr (.inr (.inr (.inr (.inr ⟨rfl, rfl, rfl, rfl, rfl⟩))))), fun x hx => by cases hx⟩
  · cases hx
/-- a statement that prints, or returns, an expression -/
theorem one_okS {k : Int} (hk : k = 7 ∨ k = 8) (e : LE) (h : okE 40 e) (d : Nat) : okS (d + 1) (.mk k [] [e] [] []) := by
  rcases hk with rfl | rfl
  · exact ⟨⟨⟨(show (1 : Int) ≤ 7 by decide), (show (7 : Int) ≤ 10 by decide)⟩, fun h => absurd (show (7 : Int) = 10 from h) (by decide)⟩, rfl, fun _ => rfl, fun _ => rfl, fun h => (by cases h), fun _ => rfl, fun x hx => (by rw [List.mem_singleton.1 hx]; exact h), fun x hx => (by cases hx), fun x hx => (by cases hx)⟩
  · exact ⟨⟨⟨(show (1 : Int) ≤ 8 by decide), (show (8 : Int) ≤ 10 by decide)⟩, fun h => absurd (show (8 : Int) = 10 from h) (by decide)⟩, rfl, fun _ => rfl, fun _ => rfl, fun h => (by cases h), fun _ => rfl, fun x hx => (by rw [List.mem_singleton.1 hx]; exact h), fun x hx => (by cases hx), fun x hx => (by cases hx)⟩
theorem main_name : Asc wMain ∧ isName wMain = true := ⟨asc_of (by decide), by decide⟩
theorem main_okP (b : List LS) (h : ∀ x ∈ b, okS 40 x) : okP ⟨[], [⟨wMain, [], [], b⟩]⟩ :=
  ⟨fun a ha => (by cases ha), fun f hf => by
    rw [List.mem_singleton.1 hf]
    exact ⟨main_name, fun x hx => (by cases hx), fun x hx => (by cases hx), (show 0 ≤ 6 by decide), h⟩⟩
theorem aw_okP : okP awP := main_okP _ fun x hx => by
  rcases List.mem_cons.1 hx with rfl | hx
  · exact one_okS (.inr rfl) _ aw_okE _
  rw [List.mem_singleton.1 hx]
  exact one_okS (.inl rfl) _ (num_okE 7 (by decide) _) _
theorem main_place (b : List LS) : placeF ⟨[], [⟨wMain, [], [], b⟩]⟩ wMain = 0 := by simp [placeF, placeI, List.findIdx_cons]
theorem catOk_none {f : LF} (hp : f.params = []) (hl : f.locals = []) : CatOk f := by
  intro B pa la pc lc
  rw [hp, hl]
  exact concat_nil B pa la pc lc
/-- a program of main alone -/
theorem main_runs (b : List LS) (h : ∀ x ∈ b, okS 40 x) (hj : functionJ ⟨[], [⟨wMain, [], [], b⟩]⟩ ⟨wMain, [], [], b⟩ = 0) (hy : ∀ x ∈ b, YS ⟨[], [⟨wMain, [], [], b⟩]⟩ x) : Runs ⟨[], [⟨wMain, [], [], b⟩]⟩ := by
  refine ⟨main_okP b h, ⟨?_, ⟨0, main_place b, (by show 0 < 1; decide), rfl⟩, fun f hf => ?_⟩, fun f hf => ?_, ⟨⟨0, main_place b, (by show 0 < 1; decide), rfl⟩, fun f hf => ?_⟩, (by simp), fun f hf => ?_⟩
  · show twiceB [wMain] = false
    decide +kernel
  · rw [List.mem_singleton.1 hf]; exact hj
  · rw [List.mem_singleton.1 hf]; exact catOk_none rfl rfl
  · rw [List.mem_singleton.1 hf]; exact hy
  · rw [List.mem_singleton.1 hf]; simp
theorem num_XE (p : LP) (n : Int) : XE p (numE n) := ⟨1, ⟨⟨(show (1 : Int) ≤ 1 by decide), (show (1 : Int) ≤ 7 by decide)⟩, fun h => (absurd (show (1 : Int) = 3 from h) (by decide)), fun h => (absurd (show (1 : Int) = 4 from h) (by decide)), fun h => (absurd (show (1 : Int) = 6 from h) (by decide)), fun h => (absurd (show (1 : Int) = 5 from h) (by decide))⟩, fun x hx => (by cases hx)⟩
theorem aw_XE (p : LP) : XE p awE := by
  refine ⟨2, ⟨⟨(by decide), (by decide)⟩, fun h => (by cases h), fun _ => rfl, fun h => (by cases h), fun h => (by cases h)⟩, fun x hx => ?_⟩
  rcases List.mem_cons.1 hx with rfl | hx
  · exact ⟨⟨⟨(by decide), (by decide)⟩, fun h => (by cases h), fun h => (by cases h), fun h => (by cases h), fun h => (by cases h)⟩, fun x hx => by cases hx⟩
  rcases List.mem_cons.1 hx with rfl | hx
  · exact ⟨⟨⟨(by decide), (by decide)⟩, fun h => (by cases h), fun h => (by cases h), fun h => (by cases h), fun h => (by cases h)⟩, fun x hx => by cases hx⟩
  · cases hx
theorem one_YS (p : LP) {k : Int} (hk : k = 7 ∨ k = 8) (e : LE) (h : XE p e) : YS p (.mk k [] [e] [] []) :=
  ⟨1, ⟨fun _ => rfl, fun h2 => (by have h2 : k = 2 := h2; omega), fun x hx => (by rw [List.mem_singleton.1 hx]; exact h)⟩, fun x hx => (by cases hx), fun x hx => (by cases hx)⟩
theorem aw_runs : Runs awP := main_runs _ (fun x hx => aw_okP.funcs awF (List.mem_singleton.2 rfl) |>.2.2.2.2 x hx) (by decide +kernel) fun x hx => by
  rcases List.mem_cons.1 hx with rfl | hx
  · exact one_YS _ (.inr rfl) _ (aw_XE _)
  rw [List.mem_singleton.1 hx]
  exact one_YS _ (.inl rfl) _ (num_XE _ 7)
theorem aw_run1 : runM awP 203 [1] 99 = ⟨1, 7, [1], 6⟩ := by kernel_rfl
theorem aw_run2 : runM awP 203 [0] 99 = ⟨2, 0, [], 4⟩ := by kernel_rfl
theorem aw_run3 : runM awP 203 [1] 2 = ⟨0, 0, [], 2⟩ := by kernel_rfl
end Go.Proofs.YtjgbkdbkachciaaGreatDoor

namespace Go.Proofs.YtjgbkdbkachciaaGreatDoor
open Go.RowKit Go.Shelf
attribute [local go_sem] Oper.semAt_some

set_option maxRecDepth 100000 in
set_option maxHeartbeats 2000000 in
theorem indexI_any {B : Nat → Prop} (w : World) (v : Value) (l : List Int) (x : Int) (hv : RSlB B 1 RI w v l) :
    Calls Tryz.prog 104 #[v, I x] w fun e w' => e = .returned (I (placeI (fun y => decide (y = x)) l)) ∧ w' = w := by
  obtain ⟨a0, c0, rfl, hlen, -⟩ := id hv
  have HV := Lib.hid hv
  clear hv
  go_enter Tryz.func104, Tryz.ntmps104
  go_wp2
  go_loopg [8] l.length (fun gh i wr => ∃ k : Nat, gh + k = l.length ∧ i = I k ∧ Hid (wr = w ∧ ∀ j, (hj : j < l.length) → j < k → l[j] ≠ x))
  case atStart => exact ⟨0, rfl, rfl, Lib.hid ⟨rfl, fun j hj h => absurd h (by omega)⟩⟩
  case round =>
    obtain ⟨k, hg, rfl, HH⟩ := hrel
    obtain rfl := HH.out.1
    by_cases hlt : k < l.length
    · have hltz : (k : Int) < (l.length : Int) := by omega
      obtain ⟨b, o, C, rfl, _, hC, hrx⟩ := HV.out.at hlt
      have e0 := hC 0 (by omega)
      have hrx' : C 0 = I l[k] := hrx
      rw [hrx'] at e0
      simp only [Nat.add_zero, Nat.mul_one] at e0
      obtain ⟨y, hy⟩ : ∃ y, y = l[k] := ⟨_, rfl⟩
      rw [← hy] at e0
      have HY := Lib.hid hy
      clear hC hrx hrx' hy
      by_cases hxy : x = y
      · subst hxy
        go_wp2
        go_ret
        refine ⟨?_, rfl⟩
        rw [placeI_at hlt (fun j hj => by simp only [decide_eq_false_iff_not]; exact HH.out.2 j (by omega) hj) (by simp only [decide_eq_true_eq]; exact HY.out.symm)]
        try rfl
      · have HXY := Lib.hid hxy
        go_wp2
        go_roundg (l.length - (k + 1))
        case measure => omega
        case rel =>
          refine ⟨k + 1, by omega, by go_num, Lib.hid ⟨rfl, fun j hj hjk => ?_⟩⟩
          by_cases hj2 : j < k
          · exact HH.out.2 j hj hj2
          · obtain rfl : j = k := by omega
            rw [← HY.out]; exact fun e => HXY.out e.symm
    · have hltz : ¬ (k : Int) < (l.length : Int) := by omega
      go_wp2
      go_ret
      refine ⟨?_, rfl⟩
      rw [placeI_none (fun j hj => by simp only [decide_eq_false_iff_not]; exact HH.out.2 j hj (by omega))]
      try rfl
set_option maxRecDepth 100000 in
theorem containsI_any {B : Nat → Prop} (w : World) (v : Value) (l : List Int) (x : Int) (hv : RSlB B 1 RI w v l) :
    Calls Tryz.prog 61 #[v, I x] w fun e w' => e = .returned (.bool (decide (x ∈ l))) ∧ w' = w := by
  have HI := Lib.hid (indexI_any w v l x hv)
  obtain ⟨q, hq⟩ : ∃ q, q = placeI (fun y => decide (y = x)) l := ⟨_, rfl⟩
  rw [← hq] at HI
  have hz : decide (0 ≤ q) = decide (x ∈ l) := by
    rw [hq, decide_eq_decide, placeI_nonneg]
    simp
  obtain ⟨a0, c0, rfl, hlen, -⟩ := hv
  have HZ := Lib.hid hz
  clear hq hz
  go_enter Tryz.func61, Tryz.ntmps61
  go_wp2_with (first
    | (go_at_call 104; refine HI.out.mono ?_; rintro e' w1 ⟨rfl, rfl⟩))
  go_ret
  rw [← HZ.out]
  exact ⟨rfl, rfl⟩
end Go.Proofs.YtjgbkdbkachciaaGreatDoor
