import Derived.Test.YtjgbkdbkachciaaGreatDoorV9
import Derived.Sort.CutIn
namespace Go.Proofs.YtjgbkdbkachciaaGreatDoor
open Go.RowKit Go.Shelf
attribute [local go_sem] Oper.semAt_some

theorem KpN.put {n₀ nb : Nat} {w : World} (hn : n₀ ≤ w.heap.size) (W : World) (l : Nat) (o o' : Obj) (hl : w.heap.size ≤ l) (h : W.heap[l]? = some o) (h1 : o.isCells = false) (h2 : o.isWalk = false) : KpN n₀ nb W (W.putObj l o') :=
  ⟨belowK_b hn W l o o' hl h h1 h2, fun b x _ hx hc => by
    by_cases hbl : b = l
    · subst hbl; rw [h] at hx; simp only [Option.some.injEq] at hx; subst hx; rw [h1] at hc; cases hc
    · exact (World.putObj_heap_other hbl).trans hx⟩

theorem PX.size {B : Nat → Prop} {w : World} {av fv : Value} {p : LP} (h : PX B w av fv p) : PX (fun b => B b ∧ b < w.heap.size) w av fv p :=
  ⟨h.1.size (by omega) fun _ _ h => h, h.2.size (by omega) fun _ _ h => ⟨h.1, h.2.1.size (by omega) fun _ _ h => h, h.2.2.1.size (by omega) fun _ _ h => h, h.2.2.2.size⟩⟩
theorem CK.grown {B : Nat → Prop} {w w' : World} {row : Option Nat} {cb : Nat} {p : LP} {vs : List Str} (h : CK B w cb p vs) (hg : w.grownBy w' row) (hB : ∀ r, row = some r → ¬ B r) (hc : some cb ≠ row) : CK B w' cb p vs := by
  obtain ⟨av, fv, vv, h1, h2, h3⟩ := h
  exact ⟨av, fv, vv, h1.kept hg hc, h2.grown hg hB, h3.grown hg hB fun _ _ h => h⟩
theorem firstI_app {α : Type} {f : α → Int} : ∀ {a l : List α} (_ : ∀ y ∈ a, f y = 0), firstI f (a ++ l) = firstI f l
  | [], _, _ => rfl
  | x :: a, l, h => by
    rw [List.cons_append, firstI, if_pos (h x (by simp))]
    exact firstI_app fun y hy => h y (by simp [hy])
theorem results_f51 {tmps : Array Value} {w : World} {b4 b5 : Nat} {x y : Value} (h4 : tmps.getD 4 undef = .pointer (some ⟨b4, 0, none⟩)) (h5 : tmps.getD 5 undef = .pointer (some ⟨b5, 0, none⟩)) (hr : Row w b4 44 [x]) (hs : Row w b5 3 [y]) :
    (results Tryz.f51 tmps).run Tryz.prog w = .ok (.tuple #[x, y]) w := by
  have h4' : tmps[4]?.getD undef = .pointer (some ⟨b4, 0, none⟩) := by simpa using h4
  have h5' : tmps[5]?.getD undef = .pointer (some ⟨b5, 0, none⟩) := by simpa using h5
  have c4 := hr.cell 0
  have c5 := hs.cell 0
  simp only [List.getElem?_cons_zero] at c4 c5
  simp [results, h4', h5', asAddr, go_sem, c4, c5]
theorem Row.put {w : World} {g l : Nat} {e : TypeId} {cs : List Value} {o : Obj} (h : Row w g e cs) (hne : g ≠ l) : Row (w.putObj l o) g e cs := (World.putObj_heap_other hne).trans h
theorem arrN (n : Nat) (T : Array Value) (h : T.size = n) : T = ((List.range n).map fun i => T.getD i undef).toArray := by
  apply Array.ext
  · simp [h]
  · intro i h1 h2
    simp [Array.getD, h1]
theorem arr51 {T : Array Value} (h : T.size = 51) : ∃ u : Nat → Value, (∀ i, T.getD i undef = u i) ∧ T = #[u 0, u 1, u 2, u 3, u 4, u 5, u 6, u 7, u 8, u 9, u 10, u 11, u 12, u 13, u 14, u 15, u 16, u 17, u 18, u 19, u 20, u 21, u 22, u 23, u 24, u 25, u 26, u 27, u 28, u 29, u 30, u 31, u 32, u 33, u 34, u 35, u 36, u 37, u 38, u 39, u 40, u 41, u 42, u 43, u 44, u 45, u 46, u 47, u 48, u 49, u 50] :=
  ⟨fun i => T.getD i undef, fun _ => rfl, arrN 51 T h⟩

/-- what is wrong first with a function -/
def functionJ (p : LP) (f : LF) : Int :=
  if twiceB (f.params ++ f.locals) || (f.params ++ f.locals).any (fun s => decide (s ∈ globalsL p)) then 50
  else firstI (fun q : LS × Bool => stmtJ p (f.params ++ f.locals) q.2 q.1) (flatSs false f.body)

/-- one cell's rows of a type may be changed, nothing else -/
def StepT (t : TypeId) (n₀ : Nat) (W W' : World) : Prop := (∀ (k : Nat) (o : Obj), W.heap[k]? = some o → (∃ x, o = Obj.cells #[x] t (0, 0)) ∨ W'.heap[k]? = some o) ∧ (∀ (k : Nat) (x : Value), n₀ ≤ k → W.heap[k]? = some (Obj.cells #[x] t (0, 0)) → ∃ x', W'.heap[k]? = some (Obj.cells #[x'] t (0, 0)))
theorem StepT.refl (t : TypeId) (n₀ : Nat) (W : World) : StepT t n₀ W W := ⟨fun _ _ h => .inr h, fun _ x _ h => ⟨x, h⟩⟩
theorem StepT.of {t : TypeId} {n₀ : Nat} {W W' : World} (h : Below W.heap.size W W') : StepT t n₀ W W' :=
  ⟨fun k _ hk => .inr ((h.block k (Array.getElem?_eq_some_iff.1 hk).1).trans hk), fun k x _ hk => ⟨x, (h.block k (Array.getElem?_eq_some_iff.1 hk).1).trans hk⟩⟩
theorem StepT.row {t : TypeId} {n₀ : Nat} {W W' : World} (h : StepT t n₀ W W') {g : Nat} {e : TypeId} {cs : List Value} (hr : Row W g e cs) (he : e ≠ t) : Row W' g e cs := by
  rcases h.1 g _ hr with ⟨x, hx⟩ | hx
  · simp only [Obj.cells.injEq] at hx; exact absurd hx.2.1 he
  · exact hx
theorem StepT.owns {t : TypeId} {n₀ : Nat} {W W' : World} (h : StepT t n₀ W W') {base : Nat} {v : Value} {l : List Str} (ho : OwnS 1 9 sEncS W base v l) (he : 9 ≠ t) : OwnS 1 9 sEncS W' base v l := by
  refine ⟨ho.1, ho.2.imp id ?_⟩
  rintro ⟨g, cap, cur, h1, h2, h3, h4⟩
  refine ⟨g, cap, cur, h1, h2, ?_, h4⟩
  rcases h.1 g _ h3 with ⟨x, hx⟩ | hx
  · simp only [Obj.cells.injEq] at hx; exact absurd hx.2.1 he
  · exact hx

set_option maxRecDepth 100000 in
set_option maxHeartbeats 8000000 in
theorem function_any (B : Nat → Prop) (p : LP) (f : LF) (av fv pv lv bv : Value) (w : World) (hx : PX B w av fv p) (hc : ConcatOk B pv lv f.params f.locals) (hp : RSlB B 1 RStr w pv f.params) (hl : RSlB B 1 RStr w lv f.locals) (hb : SX B w bv f.body)
    (hN1 : p.arrays.length + p.funcs.length ≤ 1000000000) (hN2 : f.params.length + f.locals.length ≤ 1000000000) :
    Calls Tryz.prog 51 #[.agg #[av, fv], .agg #[S f.name, pv, lv, bv]] w fun e w' => (∃ n, e = .returned (.tuple #[I (functionJ p f), I n])) ∧ Below w.heap.size w w' := by
  obtain ⟨aa, ac, fa, fc, rfl, rfl⟩ := hx.slice
  obtain ⟨pa, pc, rfl, -⟩ := id hp
  obtain ⟨la, lc, rfl, -⟩ := id hl
  obtain ⟨ba, bc, rfl⟩ := hb.slice
  obtain ⟨an, han⟩ : ∃ n, n = p.arrays.length := ⟨_, rfl⟩
  obtain ⟨fn, hfn⟩ : ∃ n, n = p.funcs.length := ⟨_, rfl⟩
  obtain ⟨pn, hpn⟩ : ∃ n, n = f.params.length := ⟨_, rfl⟩
  obtain ⟨ln, hln⟩ : ∃ n, n = f.locals.length := ⟨_, rfl⟩
  obtain ⟨bn, hbn⟩ : ∃ n, n = f.body.length := ⟨_, rfl⟩
  rw [← han, ← hfn] at hx ⊢
  rw [← hpn] at hp hc ⊢
  rw [← hln] at hl hc ⊢
  rw [← hbn] at hb ⊢
  have hdd : ∀ k : Nat, (Fence.wide.depth.isSome = true → 1 ≤ k) := fun k h => by cases h
  have hmf : ∀ (fn : Fn) (first cap : Array Value) (w : World), (Instr.makeFunc fn first cap).run Tryz.prog w = .ok (.func fn first cap) w := fun _ _ _ _ => rfl
  have HC := Lib.hid hc
  have HP := Lib.hid hp
  have HL := Lib.hid hl
  have HX := Lib.hid hx
  have HBD := Lib.hid hb
  obtain ⟨vl, hvs⟩ : ∃ vl, vl = f.params ++ f.locals := ⟨_, rfl⟩
  have hvl : vl.length ≤ 1000000000 := by rw [hvs, List.length_append]; exact hN2
  have HVS := Lib.hid hvs
  have HN1 := Lib.hid hN1
  clear hx hc hp hl hb han hfn hpn hln hbn hN1 hN2 hvs
  refine (callsIn_wide (n := 8)).1 ?_
  refine callsIn_of_wp_marks Tryz.func51 rfl trivial ?_ rfl
  simp only [Tryz.ntmps51, List.size_toArray, List.length_cons, List.length_nil, Nat.reduceAdd, Nat.reduceSub, Array.replicate_succ, Array.replicate_zero, List.push_toArray, List.append_toArray, List.nil_append, List.cons_append]
  gi_wp2
  obtain ⟨w1, hw1⟩ : ∃ w1, w1 = ((((w.alloc (.cells #[.slice aa an ac, .slice fa fn fc] 27)).alloc (.cells #[S f.name, .slice pa pn pc, .slice la ln lc, .slice ba bn bc] 52)).alloc (.cells #[.int .i64 0] 44)).alloc (.cells #[.int .i64 0] 3)) := ⟨_, rfl⟩
  have hz1 : w1.heap.size = w.heap.size + 4 := by rw [hw1]; simp
  have hb1 : Below w.heap.size w w1 := by rw [hw1]; exact ((((below_a1 w _).alloc (by simp) _).alloc (by simp; omega) _).alloc (by simp; omega) _)
  have hr2 : Row w1 w.heap.size 27 [.slice aa an ac, .slice fa fn fc] := by rw [hw1]; exact heap_old _ _ (heap_old _ _ (heap_old _ _ (heap_new _ _)))
  have hr3 : Row w1 (w.heap.size + 1) 52 [S f.name, .slice pa pn pc, .slice la ln lc, .slice ba bn bc] := by rw [hw1]; exact heap_old _ _ (heap_old _ _ (heap_at (by simp)))
  have hr4 : Row w1 (w.heap.size + 1 + 1) 44 [I 0] := by rw [hw1]; exact heap_old _ _ (heap_at (by simp))
  have hr5 : Row w1 (w.heap.size + 1 + 1 + 1) 3 [I 0] := by rw [hw1]; exact heap_at (by simp)
  rw [← hw1]
  have HB1 := Lib.hid hb1
  have HR2 := Lib.hid hr2
  have HR3 := Lib.hid hr3
  have HR4 := Lib.hid hr4
  have HR5 := Lib.hid hr5
  clear hw1 hb1 hr2 hr3 hr4 hr5
  refine wpIn_region_rvP (by kernel_rfl) [10] (by decide) (by kernel_rfl) (by kernel_rfl) (fun vs => by kernel_rfl)
    (fun k us W => Below w1.heap.size w1 W ∧ match k with
      | 0 => True
      | _ => ∃ g r vv, us 9 = .pointer (some ⟨g, 0, none⟩) ∧ Row W g 136 [.pointer (some ⟨r, 0, none⟩)] ∧ w1.heap.size ≤ g ∧ w1.heap.size ≤ r ∧ g ≠ r ∧ Row W r 139 [.slice aa an ac, .slice fa fn fc, vv] ∧ OwnS 1 9 sEncS W w1.heap.size vv vl)
    (StepT 136 w1.heap.size)
    (fun i v W => match i with
      | 0 => v = .agg #[.slice aa an ac, .slice fa fn fc]
      | 1 => v = .pointer (some ⟨w.heap.size + 1, 1, none⟩)
      | 2 => v = .slice pa pn pc
      | 3 => v = .pointer (some ⟨w.heap.size + 1, 2, none⟩)
      | 4 => v = .slice la ln lc
      | 5 => ∃ g, v = .slice (some ⟨g, 0, none⟩) 2 2 ∧ w1.heap.size ≤ g ∧ Row W g 49 [.slice pa pn pc, .slice la ln lc]
      | 6 => OwnS 1 9 sEncS W w1.heap.size v vl
      | 7 => ∃ vv, v = .agg #[.slice aa an ac, .slice fa fn fc, vv] ∧ OwnS 1 9 sEncS W w1.heap.size vv vl
      | 8 => ∃ r vv, v = .pointer (some ⟨r, 0, none⟩) ∧ w1.heap.size ≤ r ∧ Row W r 139 [.slice aa an ac, .slice fa fn fc, vv] ∧ OwnS 1 9 sEncS W w1.heap.size vv vl
      | 9 => ∃ g x, v = .pointer (some ⟨g, 0, none⟩) ∧ w1.heap.size ≤ g ∧ Row W g 136 [x]
      | _ => True) ?h0 ?hst ?hop ?hend
  case h0 => exact ⟨⟨rfl, rfl, rfl, Nat.le_refl _, fun _ _ => rfl⟩, trivial⟩
  case hst =>
    intro j v W W' hst hΦ
    match j, hΦ with
    | 0, h => exact h
    | 1, h => exact h
    | 2, h => exact h
    | 3, h => exact h
    | 4, h => exact h
    | 5, ⟨g, h1, h2, h3⟩ => exact ⟨g, h1, h2, hst.row h3 (by decide)⟩
    | 6, h => exact hst.owns h (by decide)
    | 7, ⟨vv, h1, h2⟩ => exact ⟨vv, h1, hst.owns h2 (by decide)⟩
    | 8, ⟨r, vv, h1, h2, h3, h4⟩ => exact ⟨r, vv, h1, h2, hst.row h3 (by decide), hst.owns h4 (by decide)⟩
    | 9, ⟨g, x, h1, h2, h3⟩ => obtain ⟨x', hx'⟩ := hst.2 g x h2 h3; exact ⟨g, x', h1, h2, hx'⟩
    | j + 10, h => trivial
  case hop =>
    have hbz : ∀ {W : World}, Below w1.heap.size w1 W → Below w.heap.size w W := fun h => HB1.out.trans (h.mono HB1.out.size)
    refine ⟨?_, ?_, ?_, ?_, ?_, ?_, ?_, ?_, ?_, ?_, ?_, trivial⟩
    · rintro stg a W4 vs ho hstg hC hΦ hsz hr
      obtain rfl := rgStage_k hstg 0 (by kernel_rfl) (by kernel_rfl)
      have r1 : a.tmps.getD 2 undef = (.pointer (some ⟨w.heap.size, 0, none⟩)) := (hr 2 (by simp [Oper.looksAt, Op.operands])).trans (show slotOf _ _ vs _ 2 = (.pointer (some ⟨w.heap.size, 0, none⟩)) from by kernel_rfl)
      have hr := HR2.out.ext hC.1
      have c0 := hr.cell 0
      have c1 := hr.cell 1
      simp only [List.getElem?_cons_succ, List.getElem?_cons_zero] at c0 c1
      refine rg_val ho rfl (fun _ _ => trivial) (by intro c h; cases h) (v := .agg #[.slice aa an ac, .slice fa fn fc]) (W' := W4) ?_ ⟨_, rfl, hC, StepT.refl _ _ _, rfl⟩
      go_simp
    · rintro stg a W4 vs ho hstg hC hΦ hsz hr
      obtain rfl := rgStage_k hstg 0 (by kernel_rfl) (by kernel_rfl)
      have r1 : a.tmps.getD 3 undef = (.pointer (some ⟨w.heap.size + 1, 0, none⟩)) := (hr 3 (by simp [Oper.looksAt, Op.operands])).trans (show slotOf _ _ vs _ 3 = (.pointer (some ⟨w.heap.size + 1, 0, none⟩)) from by kernel_rfl)
      refine rg_val ho rfl (fun _ _ => trivial) (by intro c h; cases h) (v := .pointer (some ⟨w.heap.size + 1, 1, none⟩)) (W' := W4) ?_ ⟨_, rfl, hC, StepT.refl _ _ _, rfl⟩
      go_simp
    · rintro stg a W4 vs ho hstg hC hΦ hsz hr
      obtain rfl := rgStage_k hstg 0 (by kernel_rfl) (by kernel_rfl)
      have r1 : a.tmps.getD 13 undef = _ := ((hr 13 (by simp [Oper.looksAt, Op.operands])).trans (show slotOf _ _ vs _ 13 = vs 1 from by kernel_rfl)).trans (hΦ 1 (by kernel_rfl))
      have hr := HR3.out.ext hC.1
      have c1 := hr.cell 1
      simp only [List.getElem?_cons_succ, List.getElem?_cons_zero] at c1
      refine rg_val ho rfl (fun _ _ => trivial) (by intro c h; cases h) (v := .slice pa pn pc) (W' := W4) ?_ ⟨_, rfl, hC, StepT.refl _ _ _, rfl⟩
      go_simp
    · rintro stg a W4 vs ho hstg hC hΦ hsz hr
      obtain rfl := rgStage_k hstg 0 (by kernel_rfl) (by kernel_rfl)
      have r1 : a.tmps.getD 3 undef = (.pointer (some ⟨w.heap.size + 1, 0, none⟩)) := (hr 3 (by simp [Oper.looksAt, Op.operands])).trans (show slotOf _ _ vs _ 3 = (.pointer (some ⟨w.heap.size + 1, 0, none⟩)) from by kernel_rfl)
      refine rg_val ho rfl (fun _ _ => trivial) (by intro c h; cases h) (v := .pointer (some ⟨w.heap.size + 1, 2, none⟩)) (W' := W4) ?_ ⟨_, rfl, hC, StepT.refl _ _ _, rfl⟩
      go_simp
    · rintro stg a W4 vs ho hstg hC hΦ hsz hr
      obtain rfl := rgStage_k hstg 0 (by kernel_rfl) (by kernel_rfl)
      have r1 : a.tmps.getD 15 undef = _ := ((hr 15 (by simp [Oper.looksAt, Op.operands])).trans (show slotOf _ _ vs _ 15 = vs 3 from by kernel_rfl)).trans (hΦ 3 (by kernel_rfl))
      have hr := HR3.out.ext hC.1
      have c2 := hr.cell 2
      simp only [List.getElem?_cons_succ, List.getElem?_cons_zero] at c2
      refine rg_val ho rfl (fun _ _ => trivial) (by intro c h; cases h) (v := .slice la ln lc) (W' := W4) ?_ ⟨_, rfl, hC, StepT.refl _ _ _, rfl⟩
      go_simp
    · rintro stg a W4 vs ho hstg hC hΦ hsz hr
      obtain rfl := rgStage_k hstg 0 (by kernel_rfl) (by kernel_rfl)
      have r1 : a.tmps.getD 14 undef = _ := ((hr 14 (by simp [Oper.looksAt, Op.operands])).trans (show slotOf _ _ vs _ 14 = vs 2 from by kernel_rfl)).trans (hΦ 2 (by kernel_rfl))
      have r2 : a.tmps.getD 16 undef = _ := ((hr 16 (by simp [Oper.looksAt, Op.operands])).trans (show slotOf _ _ vs _ 16 = vs 4 from by kernel_rfl)).trans (hΦ 4 (by kernel_rfl))
      have h14 : 14 < a.tmps.size := by rw [hsz]; simp
      have h16 : 16 < a.tmps.size := by rw [hsz]; simp
      have q1 : a.tmps[14] = .slice pa pn pc := by simpa [Array.getD, h14] using r1
      have q2 : a.tmps[16] = .slice la ln lc := by simpa [Array.getD, h16] using r2
      refine rg_val ho rfl (fun _ _ => trivial) (by intro c h; cases h) (v := .slice (some ⟨W4.heap.size, 0, none⟩) 2 2) (W' := W4.alloc (.cells #[.slice pa pn pc, .slice la ln lc] 49)) ?_ ⟨_, rfl, ⟨hC.1.alloc hC.1.size _, trivial⟩, StepT.of (below_a1 _ _), _, rfl, hC.1.size, heap_new _ _⟩
      go_simp
    · rintro stg a W4 vs ho hstg hC hΦ hsz hr
      obtain rfl := rgStage_k hstg 0 (by kernel_rfl) (by kernel_rfl)
      have r1 : a.tmps.getD 17 undef = vs 5 := (hr 17 (by simp [Oper.looksAt, Op.operands, Call.operands])).trans (show slotOf _ _ vs _ 17 = vs 5 from by kernel_rfl)
      obtain ⟨g, hv5, hg5, hrow⟩ := hΦ 5 (by kernel_rfl)
      rw [hv5] at r1
      refine rg_call ho rfl (fun _ _ => trivial) (by intro c h; cases h) (f := 86) (args := #[.slice (some ⟨g, 0, none⟩) 2 2]) (W' := W4) ?_ (fun h => by cases h) (callsIn_wide.2 (HC.out W4 g hrow (HP.out.grown (below_grown (hbz hC.1) none) (fun r e => by cases e) (fun _ _ h => h)) (HL.out.grown (below_grown (hbz hC.1) none) (fun r e => by cases e) (fun _ _ h => h)))) ?_
      · go_simp
      · rintro e w5 ⟨v5, rfl, own5, hb5⟩
        exact ⟨v5, rfl, v5, rfl, ⟨hC.1.trans (hb5.mono hC.1.size), trivial⟩, StepT.of hb5, by rw [HVS.out]; exact own5.mono hC.1.size⟩
    · rintro stg a W4 vs ho hstg hC hΦ hsz hr
      obtain rfl := rgStage_k hstg 0 (by kernel_rfl) (by kernel_rfl)
      have r1 : a.tmps.getD 12 undef = _ := ((hr 12 (by simp [Oper.looksAt, Op.operands])).trans (show slotOf _ _ vs _ 12 = vs 0 from by kernel_rfl)).trans (hΦ 0 (by kernel_rfl))
      have r2 : a.tmps.getD 18 undef = vs 6 := (hr 18 (by simp [Oper.looksAt, Op.operands])).trans (show slotOf _ _ vs _ 18 = vs 6 from by kernel_rfl)
      have hv6 : OwnS 1 9 sEncS W4 w1.heap.size (vs 6) vl := hΦ 6 (by kernel_rfl)
      obtain ⟨va, vc, hvv⟩ := hv6.slice
      rw [hvv] at r2 hv6
      have h12 : 12 < a.tmps.size := by rw [hsz]; simp
      have h18 : 18 < a.tmps.size := by rw [hsz]; simp
      have q1 : a.tmps[12] = .agg #[.slice aa an ac, .slice fa fn fc] := by simpa [Array.getD, h12] using r1
      have q2 : a.tmps[18] = .slice va vl.length vc := by simpa [Array.getD, h18] using r2
      refine rg_val ho rfl (fun _ _ => trivial) (by intro c h; cases h) (v := .agg #[.slice aa an ac, .slice fa fn fc, .slice va vl.length vc]) (W' := W4) ?_ ⟨_, rfl, hC, StepT.refl _ _ _, _, rfl, hv6⟩
      go_simp
    · rintro stg a W4 vs ho hstg hC hΦ hsz hr
      obtain rfl := rgStage_k hstg 0 (by kernel_rfl) (by kernel_rfl)
      have r1 : a.tmps.getD 19 undef = vs 7 := (hr 19 (by simp [Oper.looksAt, Op.operands])).trans (show slotOf _ _ vs _ 19 = vs 7 from by kernel_rfl)
      obtain ⟨vv, hv7, own7⟩ := hΦ 7 (by kernel_rfl)
      obtain ⟨va, vc, rfl⟩ := own7.slice
      rw [hv7] at r1
      have hb := below_a1 W4 (.cells #[.slice aa an ac, .slice fa fn fc, .slice va vl.length vc] 139)
      refine rg_val ho rfl (fun _ _ => trivial) (by intro c h; cases h) (v := .pointer (some ⟨W4.heap.size, 0, none⟩)) (W' := W4.alloc (.cells #[.slice aa an ac, .slice fa fn fc, .slice va vl.length vc] 139)) ?_ ⟨_, rfl, ⟨hC.1.alloc hC.1.size _, trivial⟩, StepT.of hb, _, _, rfl, hC.1.size, heap_new _ _, (StepT.of (t := 136) (n₀ := 0) hb).owns own7 (by decide)⟩
      go_simp
    · rintro stg a W4 vs ho hstg hC hΦ hsz hr
      obtain rfl := rgStage_k hstg 0 (by kernel_rfl) (by kernel_rfl)
      refine rg_val ho rfl (fun _ _ => trivial) (by intro c h; cases h) (v := .pointer (some ⟨W4.heap.size, 0, none⟩)) (W' := W4.alloc (.cells #[.pointer none] 136)) ?_ ⟨_, rfl, ⟨hC.1.alloc hC.1.size _, trivial⟩, StepT.of (below_a1 _ _), _, _, rfl, hC.1.size, heap_new _ _⟩
      go_simp
    · rintro stg a W4 vs ho hstg hC hΦ hsz hr
      obtain rfl := rgStage_k hstg 0 (by kernel_rfl) (by kernel_rfl)
      have r1 : a.tmps.getD 6 undef = vs 9 := (hr 6 (by simp [Oper.looksAt, Op.operands])).trans (show slotOf _ _ vs _ 6 = vs 9 from by kernel_rfl)
      have r2 : a.tmps.getD 20 undef = vs 8 := (hr 20 (by simp [Oper.looksAt, Op.operands])).trans (show slotOf _ _ vs _ 20 = vs 8 from by kernel_rfl)
      obtain ⟨g, x, hv9, hg, hrow⟩ := hΦ 9 (by kernel_rfl)
      obtain ⟨r, vv, hv8, hr, hrow8, own8⟩ := hΦ 8 (by kernel_rfl)
      rw [hv9] at r1
      rw [hv8] at r2
      have c0 := hrow.cell 0
      have f0 := hrow.frozen 0
      simp only [List.getElem?_cons_zero] at c0
      have hgr : g ≠ r := fun e => by subst e; unfold Row at hrow hrow8; rw [hrow] at hrow8; simp only [Option.some.injEq, Obj.cells.injEq] at hrow8; exact absurd hrow8.2.1 (by decide)
      have hgs := setCell_grown W4 g 0 (.pointer (some ⟨r, 0, none⟩))
      refine rg_skip ho rfl (fun _ _ => trivial) (by intro c h; cases h) (W' := W4.setCell ⟨g, 0, none⟩ (.pointer (some ⟨r, 0, none⟩))) ?_ ⟨_, rfl, ⟨hC.1.grown hgs hC.1.size (fun k e => by cases e; exact hg), g, r, vv, hv9, hrow.set 0 _, hg, hr, hgr, hrow8.kept hgs (fun e => hgr (by cases e; rfl)), ownsRow_tag own8 hgs (NoTag.box 9 hrow (by decide))⟩, ⟨fun k o hk => ?_, fun k x hk hk2 => ?_⟩, trivial⟩
      · go_simp
      · by_cases hkg : k = g
        · subst hkg
          unfold Row at hrow
          rw [hrow] at hk
          simp only [Option.some.injEq] at hk
          exact .inl ⟨x, hk.symm⟩
        · exact .inr (grown_old hgs hk (fun e => hkg (by cases e; rfl)))
      · by_cases hkg : k = g
        · subst hkg
          exact ⟨_, hrow.set 0 _⟩
        · exact ⟨x, grown_old hgs hk2 (fun e => hkg (by cases e; rfl))⟩
  case hend =>
    rintro us W ⟨hb, g, r, vv, hv9, hrg, hg, hr, hgr, hrr, hown⟩ hΦ
    simp only [putAll, Act.put]
    rw [hv9]
    have hbw : Below w.heap.size w W := HB1.out.trans (hb.mono HB1.out.size)
    have hzW := hb.size
    have hr2 := HR2.out.ext hb
    have hr3 := HR3.out.ext hb
    have hr4 := HR4.out.ext hb
    have hr5 := HR5.out.ext hb
    have HBW := Lib.hid hbw
    have HRG := Lib.hid hrg
    have HRR := Lib.hid hrr
    have HOWN := Lib.hid hown
    have HRW3 := Lib.hid hr3
    have HRW4 := Lib.hid hr4
    have HRW5 := Lib.hid hr5
    have c20 := hr2.cell 0
    have c21 := hr2.cell 1
    simp only [List.getElem?_cons_succ, List.getElem?_cons_zero] at c20 c21
    have HXW := Lib.hid (HX.out.below hbw)
    obtain ⟨gl, hgl⟩ : ∃ gl, gl = globalsL p := ⟨_, rfl⟩
    have HGLO := Lib.hid (globals_any p _ _ W B HXW.out HN1.out)
    rw [← hgl] at HGLO
    have HGL := Lib.hid hgl
    clear hΦ hb hv9 hrg hrr hown hbw hr2 hr3 hr4 hr5 hgl
    gi_upto_region 3 with (first
      | (refine ⟨trivial, ?_⟩; refine (callsIn_wide.2 HGLO.out).mono ?_; rintro e W2 ⟨gv, rfl, hgo, hb2⟩; obtain ⟨ga, gc, rfl⟩ := hgo.slice; have HGO := Lib.hid hgo; have HB2 := Lib.hid hb2; clear hgo hb2))
    obtain ⟨W3, hW3⟩ : ∃ W3, W3 = W2.alloc (.cells #[.slice ga gl.length gc] 49) := ⟨_, rfl⟩
    have hb3 : Below W.heap.size W W3 := by rw [hW3]; exact HB2.out.alloc HB2.out.size _
    have hr7 : Row W3 W2.heap.size 49 [.slice ga gl.length gc] := by rw [hW3]; exact heap_new _ _
    have hg7 : RSlB (W.heap.size ≤ ·) 1 RStr W3 (.slice ga gl.length gc) gl := by
      have h1 : OwnS 1 9 sEncS W3 W.heap.size (.slice ga gl.length gc) gl := by rw [hW3]; exact OwnS.tag HGO.out (alloc_grown _ _ none) (NoTag.none _ _)
      have h2 := h1.rslB (R := RStr) (fun x => x) sEncS_len (by rw [HGL.out, globalsL, List.length_append, List.length_map, List.length_map]; exact HN1.out) (fun x _ => rfl)
      simpa using h2
    rw [← hW3]
    have hrg := HRG.out.ext hb3
    have hrr := HRR.out.ext hb3
    have c6 := hrg.cell 0
    have cr2 := hrr.cell 2
    simp only [List.getElem?_cons_succ, List.getElem?_cons_zero] at c6 cr2
    have HB3 := Lib.hid (HBW.out.trans (hb3.mono HBW.out.size))
    have HBB3 := Lib.hid hb3
    have HOW3 := Lib.hid (OwnS.tag HOWN.out (below_grown hb3 none) (NoTag.none _ _))
    have hvr : RSlB (w1.heap.size ≤ ·) 1 RStr W3 vv vl := by
      have h2 := HOW3.out.rslB (R := RStr) (fun x => x) sEncS_len hvl (fun x _ => rfl)
      simpa using h2
    have HVR := Lib.hid hvr
    have HR7 := Lib.hid hr7
    have HG7 := Lib.hid hg7
    have HRG3 := Lib.hid hrg
    have HRR3 := Lib.hid hrr
    obtain ⟨va, vc, rfl⟩ := HOW3.out.slice
    have HTW := Lib.hid (twice_any vl _ W3 _ hvr hvl)
    obtain ⟨t1, ht1⟩ : ∃ t, t = twiceB vl := ⟨_, rfl⟩
    obtain ⟨t2, ht2⟩ : ∃ t, t = vl.any (fun s => decide (s ∈ gl)) := ⟨_, rfl⟩
    have hcn : ∀ W', Below W3.heap.size W3 W' → Calls Tryz.prog 87 #[.slice va vl.length vc, .func (.func 88) #[] #[.pointer (some ⟨W2.heap.size, 0, none⟩)]] W' fun e w' => e = .returned (.bool t2) ∧ Below W'.heap.size W' w' := fun W' hb => by
      rw [ht2]
      refine containsN_any (B := (w1.heap.size ≤ ·)) (R := fun W5 C x => RStr W5 C x ∧ Row W5 W2.heap.size 49 [.slice ga gl.length gc] ∧ RSlB (W.heap.size ≤ ·) 1 RStr W5 (.slice ga gl.length gc) gl) W' (.slice va vl.length vc) vl
        ((HVR.out.below hb fun _ _ h => h).weak (fun _ h => h) fun C x h => ⟨h, hr7.ext hb, hg7.below hb fun _ _ h => h⟩) (fun W5 W6 C x hb6 h => ⟨h.1, h.2.1.ext hb6, h.2.2.below hb6 fun _ _ h => h⟩) 88 _ _
        ⟨enters_of Tryz.func88 (by kernel_rfl) rfl, fun x _ W5 C hb5 h => ?_⟩
      have h1 : agg1 C = S x := h.1
      rw [h1]
      exact function1_any _ x _ gl _ W5 h.2.1 h.2.2
    have HCT := Lib.hid hcn
    have HT1 := Lib.hid ht1
    have HT2 := Lib.hid ht2
    rw [← ht1] at HTW
    clear hrg hrr hb3 hr7 hg7 hvr hW3 c20 c21 hcn ht1 ht2
    cases t1
    · cases t2
      · gi_upto_region 6 with (first
          | (refine ⟨trivial, ?_⟩; refine (callsIn_wide.2 HTW.out).mono ?_; rintro e W4 ⟨rfl, hb4⟩; have hrg4 := HRG3.out.ext hb4; have hrr4 := HRR3.out.ext hb4; clear c6 cr2; have c6 := hrg4.cell 0; have cr2 := hrr4.cell 2; simp only [List.getElem?_cons_succ, List.getElem?_cons_zero] at c6 cr2; have HRG4 := Lib.hid hrg4; have HRR4 := Lib.hid hrr4; have HBB4 := Lib.hid hb4; clear hb4 hrg4 hrr4 HTW)
          | (refine ⟨trivial, ?_⟩; refine (callsIn_wide.2 (HCT.out _ HBB4.out)).mono ?_; rintro e W5 ⟨rfl, hb5⟩; have HRG5 := Lib.hid (HRG4.out.ext hb5); have HRR5 := Lib.hid (HRR4.out.ext hb5); have HBB5 := Lib.hid (HBB4.out.trans (hb5.mono HBB4.out.size)); clear hb5 c6 cr2))
        obtain ⟨Wa, hWa⟩ : ∃ Wa, Wa = W5.alloc (.cells #[.int .i64 0] 3) := ⟨_, rfl⟩
        have hra : Row Wa W5.heap.size 3 [I 0] := by rw [hWa]; exact heap_new _ _
        have hza : Wa.heap.size = W5.heap.size + 1 := by rw [hWa]; simp
        have hba : Below W5.heap.size W5 Wa := by rw [hWa]; exact below_a1 _ _
        rw [← hWa]
        have hbw3 : Below w.heap.size w Wa := (HB3.out.trans (HBB5.out.mono HB3.out.size)).trans (hba.mono (Nat.le_trans HB3.out.size HBB5.out.size))
        have h33 := (HRW3.out.ext HBB3.out).ext (HBB5.out.trans (hba.mono HBB5.out.size))
        have h34 := (HRW4.out.ext HBB3.out).ext (HBB5.out.trans (hba.mono HBB5.out.size))
        have h35 := (HRW5.out.ext HBB3.out).ext (HBB5.out.trans (hba.mono HBB5.out.size))
        have c33 := h33.cell 3
        simp only [List.getElem?_cons_succ, List.getElem?_cons_zero] at c33
        have HBA := Lib.hid hbw3
        have HRGA := Lib.hid (HRG5.out.ext hba)
        have HRRA := Lib.hid (HRR5.out.ext hba)
        have HR4A := Lib.hid h34
        have HR5A := Lib.hid h35
        have HRA := Lib.hid hra
        have HBCA := Lib.hid (HBB5.out.trans (hba.mono HBB5.out.size))
        clear hWa hra hba hbw3 h33 h34 h35
        gi_upto_region 7 with (first
          | (refine ⟨trivial, ?_⟩; refine (callsIn_wide.2 (all_any _ _ _ _ _)).mono ?_; rintro e W6 ⟨rfl, rfl⟩))
        obtain ⟨Wq, hWq⟩ : ∃ Wq, Wq = (Wa.alloc (.cells #[.slice ba bn bc] 50)).alloc (.cells #[.bool false] 4) := ⟨_, rfl⟩
        have hzq : Wq.heap.size = Wa.heap.size + 2 := by rw [hWq]; simp
        have hbq : Below Wa.heap.size Wa Wq := by rw [hWq]; exact below_a2 _ _ _
        have hrl : Row Wq Wa.heap.size 50 [.slice ba bn bc] := by rw [hWq]; exact heap_old _ _ (heap_new _ _)
        have hrb : Row Wq (Wa.heap.size + 1) 4 [.bool false] := by rw [hWq]; exact heap_at (by simp)
        rw [← hWq]
        have hbw : Below w.heap.size w Wq := HBA.out.trans (hbq.mono HBA.out.size)
        have HRGQ := Lib.hid (HRGA.out.ext hbq)
        have HRRQ := Lib.hid (HRRA.out.ext hbq)
        have HR4Q := Lib.hid (HR4A.out.ext hbq)
        have HR5Q := Lib.hid (HR5A.out.ext hbq)
        have HRQ := Lib.hid (HRA.out.ext hbq)
        have HBCQ := Lib.hid (HBCA.out.trans (hbq.mono HBCA.out.size))
        have HBQ := Lib.hid hbw
        have hnq : W5.heap.size < Wq.heap.size := by omega
        have hgl5 : g < W5.heap.size := by have := HRG5.out.lt; omega
        have hrl5 : r < W5.heap.size := by have := HRR5.out.lt; omega
        have h4l : w.heap.size + 1 + 1 + 1 < W5.heap.size := by omega
        have hckq : CK (fun b => (B b ∧ b < w.heap.size) ∨ (w1.heap.size ≤ b ∧ b < W3.heap.size)) Wq r p vl := ⟨_, _, _, HRRQ.out, (HX.out.size.below hbw).weak fun b h => .inl h, ((HVR.out.size (by omega) (fun _ _ h => h)).below HBCQ.out fun _ _ h => h).weak (fun b h => .inr h) fun _ _ h => h⟩
        obtain ⟨d, hd⟩ := HBD.out
        have HCK := Lib.hid hckq
        have hseq := all1_stops 7 w.heap.size W5.heap.size d (flatSs false f.body).length B w rfl f.body false _ hd (Nat.le_refl _) Wq Wa.heap.size (Wa.heap.size + 1) hbw (by omega) hrl hrb
        rw [hza] at hseq
        clear hWq hbq hrl hrb hbw hckq c33
        refine wpIn_rangeFunc_ownH rfl (by omega) (gf := 127) (lb := #[.pointer (some ⟨W5.heap.size + 1, 0, none⟩), .pointer (some ⟨W5.heap.size + 1 + 1, 0, none⟩)]) rfl trivial (enters_of Tryz.func127 (by kernel_rfl) rfl) hseq
          KpN.trans (KpN.put HBQ.out.size) (Below.refl _ _) (fun _ => rfl)
          (fun pre W => Wq.grownBy W (some W5.heap.size) ∧ (∃ c, Row W W5.heap.size 3 [I c]) ∧ ∀ x ∈ pre, stmtJ p vl x.loop x.s = 0)
          (fun c pre W => c = .ret ∧ Below w.heap.size w W ∧ ∃ (n : Int) (x : SIt B w) (pre0 : List (SIt B w)), Row W (w.heap.size + 1 + 1) 44 [I (stmtJ p vl x.loop x.s)] ∧ Row W (w.heap.size + 1 + 1 + 1) 3 [I n] ∧ stmtJ p vl x.loop x.s ≠ 0 ∧ pre = pre0 ++ [x] ∧ ∀ y ∈ pre0, stmtJ p vl y.loop y.s = 0)
          ?hI ?hIx ?h0'
          (fun x a' W => ∃ Bx : Nat, W5.heap.size < Bx ∧ Row W Bx 54 [I x.s.kind, S x.s.name, x.av, x.tv, x.ev] ∧ a'.defers = [] ∧ a'.tmps.size = 51 ∧ a'.tmps.getD 4 undef = .pointer (some ⟨w.heap.size + 1 + 1, 0, none⟩) ∧
            a'.tmps.getD 5 undef = .pointer (some ⟨w.heap.size + 1 + 1 + 1, 0, none⟩) ∧ a'.tmps.getD 6 undef = .pointer (some ⟨g, 0, none⟩) ∧ a'.tmps.getD 8 undef = .pointer (some ⟨W5.heap.size, 0, none⟩) ∧ a'.tmps.getD 9 undef = .pointer (some ⟨Bx, 0, none⟩) ∧ a'.tmps.getD 10 undef = .bool x.loop)
          ?hAx ?assign ?body ?done ?stop
        case hI =>
          rintro pre A A' row ⟨h1, ⟨c, h2⟩, h3⟩ hg' hrow
          refine ⟨⟨hg'.os.trans h1.os, hg'.tape.trans h1.tape, hg'.output.trans h1.output, Nat.le_trans h1.size hg'.size, fun k hk hne => ?_⟩, ⟨c, h2.kept hg' fun e => ?_⟩, h3⟩
          · refine (hg'.block k (Nat.lt_of_lt_of_le hk h1.size) fun e => ?_).trans (h1.block k hk hne)
            have := (hrow k e.symm).1
            omega
          · have := (hrow _ e.symm).1
            omega
        case hIx =>
          rintro c pre A A' row ⟨h1, h2, n, x, pre0, h3, h4, h5⟩ hg' hrow
          refine ⟨h1, h2.grown hg' h2.size fun k e => ?_, n, x, pre0, h3.kept hg' fun e => ?_, h4.kept hg' fun e => ?_, h5⟩
          · have := (hrow k e).1; omega
          · have := (hrow _ e.symm).1; omega
          · have := (hrow _ e.symm).1; omega
        case h0' => exact ⟨⟨rfl, rfl, rfl, Nat.le_refl _, fun _ _ _ => rfl⟩, ⟨0, HRQ.out⟩, fun x h => by cases h⟩
        case hAx =>
          rintro x a' _ A A' row ⟨Bx, h1, h2, h3⟩ hg' hrow
          refine ⟨Bx, h1, h2.kept hg' fun e => ?_, h3⟩
          obtain ⟨_, o, ho, hc⟩ := hrow _ e.symm
          rw [show A.heap[Bx]? = _ from h2] at ho
          cases ho
          cases hc
        case assign =>
          rintro l pre x W6 K ⟨h1, h2, h3⟩ hK
          obtain ⟨xs, xav, xtv, xev, xl, hok, ⟨ta, tn, tc, rfl⟩, ⟨ea, en, ec, rfl⟩⟩ := x
          obtain ⟨xa, xc, rfl⟩ := hok.slice
          have HK := Lib.hid hK
          have H1 := Lib.hid h1
          have H2 := Lib.hid h2
          have H3 := Lib.hid h3
          have hkp := KpN.alloc (n₀ := w.heap.size) (nb := W5.heap.size) W6 (.cells #[I xs.kind, S xs.name, .slice xa (LE.mk 0 0 0 [] xs.args).args.length xc, .slice ta tn tc, .slice ea en ec] 54) (Nat.le_trans HBQ.out.size h1.size)
          have HKP := Lib.hid hkp
          obtain ⟨al, hal⟩ : ∃ n, n = (LE.mk 0 0 0 [] xs.args).args.length := ⟨_, rfl⟩
          have HAL := Lib.hid hal
          clear hK h1 h2 h3 hkp
          dsimp only [encIt, sV]
          rw [← hal]
          clear hal
          gi_wp2_with (first
            | (refine storeIn_first 54 (.tmp 9) (.tmp 39) rfl ?_; refine wpListIn_store_row rfl 54 (.tmp 9) (.tmp 39) rfl W6.heap.size _ rfl rfl 54 sZ (heap_new _ _) (by kernel_rfl) (by rfl) (by simp [Value.oneCell']) ?_; rw [World.setRow_alloc_new]))
          have hkq := HKP.out
          rw [← HAL.out] at hkq
          refine HK.out _ _ ((KeepsOthers.alloc _ _).from _) hkq ⟨?_, ?_, H3.out⟩ ⟨W6.heap.size, ?_, ?_, rfl, rfl, rfl, rfl, rfl, rfl, rfl, rfl⟩
          · have h1 := H1.out
            have h4 := alloc_grown W6 (.cells #[I xs.kind, S xs.name, .slice xa al xc, .slice ta tn tc, .slice ea en ec] 54) (some W5.heap.size)
            exact grown_trans h1 h4
          · obtain ⟨c, h2⟩ := H2.out
            exact ⟨c, heap_old _ _ h2⟩
          · have := H1.out.size; omega
          · try dsimp only
            rw [← HAL.out]
            exact heap_new _ _
        case body =>
          rintro l pre x a' W6 hl6 ⟨r6, hr6⟩ ⟨hgW, ⟨c, hcn⟩, hpre⟩ ⟨Bx, hBx, hrx, hdf, hsz, q4, q5, q6, q8, q9, q10⟩ hlt
          obtain ⟨T, D⟩ := a'
          dsimp only at hdf hsz q4 q5 q6 q8 q9 q10
          obtain ⟨u, hu, hT⟩ := arr51 hsz
          rw [hu] at q4 q5 q6 q8 q9 q10
          rw [hdf, hT, q4, q5, q6, q8, q9, q10]
          clear hu hT hsz q4 q5 q6 q8 q9 q10 hdf
          have hz35 : W3.heap.size ≤ W5.heap.size := HBB5.out.size
          have hck6 : CK (fun b => (B b ∧ b < w.heap.size) ∨ (w1.heap.size ≤ b ∧ b < W3.heap.size)) W6 r p vl := HCK.out.grown hgW (fun r e h => by cases e; omega) (fun e => by cases e; omega)
          have hrg6 := HRGQ.out.kept hgW (fun e => by cases e; omega)
          have hbw6 : Below w.heap.size w W6 := HBQ.out.grown hgW HBQ.out.size (fun k e => by cases e; omega)
          have hr46 := HR4Q.out.kept hgW (fun e => by have := Option.some.inj e; omega)
          have hr56 := HR5Q.out.kept hgW (fun e => by have := Option.some.inj e; omega)
          have hok6 : AX (fun b => (B b ∧ b < w.heap.size) ∨ (w1.heap.size ≤ b ∧ b < W3.heap.size)) W6 x.av x.s.args := (x.ok.size.weak (fun b h => .inl h)).grown (below_grown hbw6 none) (fun r e => by cases e)
          have HCS := Lib.hid (cstmt_any _ W6 r p vl x.loop x.s x.av x.tv x.ev hck6 hok6)
          obtain ⟨q, hq⟩ : ∃ q, q = stmtJ p vl x.loop x.s := ⟨_, rfl⟩
          have HQ := Lib.hid hq
          rw [← hq] at HCS
          obtain ⟨xa, xc, hxa⟩ := x.ok.slice
          obtain ⟨ta, tn, tc, hxt⟩ := x.isSl
          obtain ⟨ea, en, ec, hxe⟩ := x.isSl2
          obtain ⟨al, hal⟩ : ∃ n, n = (LE.mk 0 0 0 [] x.s.args).args.length := ⟨_, rfl⟩
          rw [← hal] at hxa
          rw [hxa, hxt, hxe] at hrx HCS
          have d0 := hrx.cell 0
          have d1 := hrx.cell 1
          have d2 := hrx.cell 2
          have d3 := hrx.cell 3
          have d4 := hrx.cell 4
          have c6 := hrg6.cell 0
          have cn := hcn.cell 0
          simp only [List.getElem?_cons_succ, List.getElem?_cons_zero] at d0 d1 d2 d3 d4 c6 cn
          have HGW := Lib.hid hgW
          have HCN := Lib.hid hcn
          have HPRE := Lib.hid hpre
          have HBW6 := Lib.hid hbw6
          have HR46 := Lib.hid hr46
          have HR56 := Lib.hid hr56
          obtain ⟨xl, hxl⟩ : ∃ b, b = x.loop := ⟨_, rfl⟩
          obtain ⟨xk, hxk⟩ : ∃ b, b = x.s.kind := ⟨_, rfl⟩
          obtain ⟨xn, hxn⟩ : ∃ b, b = x.s.name := ⟨_, rfl⟩
          rw [← hxl] at HCS ⊢
          rw [← hxk] at d0
          rw [← hxn] at d1
          have HCS2 : Hid (Calls Tryz.prog 91 #[.pointer (some ⟨r, 0, none⟩), .agg #[I xk, S xn, .slice xa al xc, .slice ta tn tc, .slice ea en ec], .bool xl] W6 fun e' w' => e' = .returned (I q) ∧ Below W6.heap.size W6 w') := by
            rw [hxk, hxn]; exact HCS.out
          have hnb6 : W5.heap.size < W6.heap.size := hcn.lt
          clear hck6 hrg6 hbw6 hr46 hr56 hok6 hq hxa hxt hxe hal hrx hgW hcn hpre hr6 HCS hxl hxk hxn
          by_cases hq0 : q = 0
          · have hne : (q != 0) = false := by rw [hq0]; rfl
            have HQ0 := Lib.hid hq0
            clear hq0
            gi_wp2_with (first
              | (refine ⟨trivial, ?_⟩; refine (CallsIn.inRound l (callsIn_wide.2 HCS2.out)).mono ?_; rintro e W7 ⟨rfl, hb7⟩; have hn7 := HCN.out.ext hb7; clear cn; have cn := hn7.cell 0; have cnf := hn7.frozen 0; simp only [List.getElem?_cons_zero] at cn; have HN7 := Lib.hid hn7; have HB7 := Lib.hid hb7; clear hn7 hb7))
            have hg67 : W6.grownBy (W7.setCell ⟨W5.heap.size, 0, none⟩ (.int .i64 (wrap64 (c + 1)))) (some W5.heap.size) := grown_trans (below_grown HB7.out _) (setCell_grown _ _ _ _)
            refine ⟨⟨hg67.size, fun k o hk ho hc => grown_old hg67 ho (fun e => by have := Option.some.inj e; omega)⟩, ⟨(Below.refl _ _).grown hg67 HBW6.out.size (fun k e => by cases e; omega), fun b o hb ho _ => grown_old hg67 ho (fun e => hb (Option.some.inj e))⟩, grown_trans HGW.out hg67, ⟨_, HN7.out.set 0 _⟩, fun y hy => ?_⟩
            rcases List.mem_append.1 hy with hy | hy
            · exact HPRE.out y hy
            · obtain rfl := List.mem_singleton.1 hy
              rw [← HQ.out]; exact HQ0.out
          · have hne : (q != 0) = true := by rw [bne_iff_ne]; exact hq0
            have HQ0 := Lib.hid hq0
            clear hq0
            gi_wp2_with (first
              | (refine ⟨trivial, ?_⟩; refine (CallsIn.inRound l (callsIn_wide.2 HCS2.out)).mono ?_; rintro e W7 ⟨rfl, hb7⟩; have hn7 := HCN.out.ext hb7; have h47 := HR46.out.ext hb7; have h57 := HR56.out.ext hb7; clear cn; have cn := hn7.cell 0; have c4 := h47.cell 0; have c5 := h57.cell 0; have f4 := h47.frozen 0; have f5 := h57.frozen 0; simp only [List.getElem?_cons_zero] at cn c4 c5; have HN7 := Lib.hid hn7; have HB7 := Lib.hid hb7; have H47 := Lib.hid h47; have H57 := Lib.hid h57; clear hn7 hb7 h47 h57))
            have hkf7 : KeepsFrom Wq.heap.size W6 W7 := ⟨HB7.out.size, fun k o _ ho _ => (HB7.out.block k (Array.getElem?_eq_some_iff.1 ho).1).trans ho⟩
            have hbw7 : Below w.heap.size w W7 := HBW6.out.trans (HB7.out.mono HBW6.out.size)
            have hkset : ∀ (W : World) (k : Nat) (v : Value), k < Wq.heap.size → KeepsFrom Wq.heap.size W6 W → KeepsFrom Wq.heap.size W6 (W.setCell ⟨k, 0, none⟩ v) := fun W k v hk h =>
              ⟨Nat.le_trans h.size (setCell_grown W k 0 v).size, fun j o hj ho hc => grown_old (setCell_grown W k 0 v) (h.same j o hj ho hc) (fun e => by have := Option.some.inj e; omega)⟩
            have HKF := Lib.hid hkf7
            have HBW7 := Lib.hid hbw7
            have HKS := Lib.hid hkset
            clear hkf7 hbw7 hkset cn c4 c5 f4 f5 d0 d1 d2 d3 d4 c6
            refine wpIn_region_rvP (by kernel_rfl) [2, 3] (by decide) (by kernel_rfl) (by kernel_rfl) (fun vs => by kernel_rfl)
              (fun k us W => Row W W5.heap.size 3 [I c] ∧ Below w.heap.size w W ∧ KeepsFrom Wq.heap.size W6 W ∧ match k with
                | 0 => Row W (w.heap.size + 1 + 1) 44 [I 0] ∧ Row W (w.heap.size + 1 + 1 + 1) 3 [I 0]
                | 1 => Row W (w.heap.size + 1 + 1) 44 [I q] ∧ Row W (w.heap.size + 1 + 1 + 1) 3 [I 0]
                | _ => Row W (w.heap.size + 1 + 1) 44 [I q] ∧ Row W (w.heap.size + 1 + 1 + 1) 3 [I c])
              (fun _ _ => True)
              (fun i v _ => match i with
                | 0 => v = I q
                | 1 => v = I c
                | _ => True) ?h0r ?hstr ?hopr ?hendr
            case h0r => exact ⟨HN7.out, ⟨HBW7.out.os, HBW7.out.tape, HBW7.out.output, HBW7.out.size, HBW7.out.block⟩, ⟨HKF.out.size, HKF.out.same⟩, H47.out, H57.out⟩
            case hstr => intro i v W W' _ h; exact h
            case hopr =>
              refine ⟨?_, ?_, ?_, ?_, trivial⟩
              · rintro stg a W4 vs ho hstg hC hΦ hsz hr
                have r1 : a.tmps.getD 11 undef = (I q) := (hr 11 (by simp [Oper.looksAt, Op.operands])).trans (show slotOf _ _ vs _ 11 = (I q) from by kernel_rfl)
                refine rg_val ho rfl (fun _ _ => trivial) (by intro c h; cases h) (v := I q) (W' := W4) ?_ ⟨_, rfl, hC, trivial, rfl⟩
                go_simp
              · rintro stg a W4 vs ho hstg hC hΦ hsz hr
                have r1 : a.tmps.getD 8 undef = (.pointer (some ⟨W5.heap.size, 0, none⟩)) := (hr 8 (by simp [Oper.looksAt, Op.operands])).trans (show slotOf _ _ vs _ 8 = (.pointer (some ⟨W5.heap.size, 0, none⟩)) from by kernel_rfl)
                have cn := hC.1.cell 0
                simp only [List.getElem?_cons_zero] at cn
                refine rg_val ho rfl (fun _ _ => trivial) (by intro c h; cases h) (v := I c) (W' := W4) ?_ ⟨_, rfl, hC, trivial, rfl⟩
                go_simp
              · rintro stg a W4 vs ho hstg hC hΦ hsz hr
                obtain rfl := rgStage_k hstg 0 (by kernel_rfl) (by kernel_rfl)
                have r1 : a.tmps.getD 4 undef = (.pointer (some ⟨w.heap.size + 1 + 1, 0, none⟩)) := (hr 4 (by simp [Oper.looksAt, Op.operands])).trans (show slotOf _ _ vs _ 4 = (.pointer (some ⟨w.heap.size + 1 + 1, 0, none⟩)) from by kernel_rfl)
                have r2 : a.tmps.getD 47 undef = _ := ((hr 47 (by simp [Oper.looksAt, Op.operands])).trans (show slotOf _ _ vs _ 47 = vs 0 from by kernel_rfl)).trans (hΦ 0 (by kernel_rfl))
                obtain ⟨k1, k2, k3, k4, k5⟩ := hC
                have c4 := k4.cell 0
                have f4 := k4.frozen 0
                simp only [List.getElem?_cons_zero] at c4
                have hgs := setCell_grown W4 (w.heap.size + 1 + 1) 0 (I q)
                refine rg_skip ho rfl (fun _ _ => trivial) (by intro c h; cases h) (W' := W4.setCell ⟨w.heap.size + 1 + 1, 0, none⟩ (I q)) ?_ ⟨_, rfl, ⟨k1.kept hgs (fun e => by have := Option.some.inj e; omega), k2.grown hgs k2.size (fun k e => by have := Option.some.inj e; omega), HKS.out W4 _ _ (by omega) k3, k4.set 0 _, k5.kept hgs (fun e => by have := Option.some.inj e; omega)⟩, trivial, trivial⟩
                go_simp
              · rintro stg a W4 vs ho hstg hC hΦ hsz hr
                obtain rfl := rgStage_k hstg 1 (by kernel_rfl) (by kernel_rfl)
                have r1 : a.tmps.getD 5 undef = (.pointer (some ⟨w.heap.size + 1 + 1 + 1, 0, none⟩)) := (hr 5 (by simp [Oper.looksAt, Op.operands])).trans (show slotOf _ _ vs _ 5 = (.pointer (some ⟨w.heap.size + 1 + 1 + 1, 0, none⟩)) from by kernel_rfl)
                have r2 : a.tmps.getD 48 undef = _ := ((hr 48 (by simp [Oper.looksAt, Op.operands])).trans (show slotOf _ _ vs _ 48 = vs 1 from by kernel_rfl)).trans (hΦ 1 (by kernel_rfl))
                obtain ⟨k1, k2, k3, k4, k5⟩ := hC
                have c4 := k5.cell 0
                have f4 := k5.frozen 0
                simp only [List.getElem?_cons_zero] at c4
                have hgs := setCell_grown W4 (w.heap.size + 1 + 1 + 1) 0 (I c)
                refine rg_skip ho rfl (fun _ _ => trivial) (by intro c h; cases h) (W' := W4.setCell ⟨w.heap.size + 1 + 1 + 1, 0, none⟩ (I c)) ?_ ⟨_, rfl, ⟨k1.kept hgs (fun e => by have := Option.some.inj e; omega), k2.grown hgs k2.size (fun k e => by have := Option.some.inj e; omega), HKS.out W4 _ _ (by omega) k3, k4.kept hgs (fun e => by have := Option.some.inj e; omega), k5.set 0 _⟩, trivial, trivial⟩
                go_simp
            case hendr =>
              rintro us2 W ⟨k1, k2, k3, k4, k5⟩ _
              simp only [putAll, Act.put]
              gi_wp2
              exact ⟨k3, rfl, k2, c, x, pre, by rw [← HQ.out]; exact k4, k5, by rw [← HQ.out]; exact HQ0.out, rfl, HPRE.out⟩
        case done =>
          rintro D xs W6 hD hS ⟨hgW, ⟨c, hcn⟩, hall⟩ hK
          have hr46 := HR4Q.out.kept hgW (fun e => by have := Option.some.inj e; omega)
          have hr56 := HR5Q.out.kept hgW (fun e => by have := Option.some.inj e; omega)
          have c4 := hr46.cell 0
          have c5 := hr56.cell 0
          have f4 := hr46.frozen 0
          have f5 := hr56.frozen 0
          simp only [List.getElem?_cons_zero] at c4 c5
          have HGW := Lib.hid hgW
          have H46 := Lib.hid hr46
          have H56 := Lib.hid hr56
          have HKK := Lib.hid hK
          have HSS := Lib.hid hS
          have HALL := Lib.hid hall
          clear hgW hr46 hr56 hcn hK hS hall
          gi_wp2
          have hg1 := setCell_grown W6 (w.heap.size + 1 + 1) 0 (I 0)
          have hg2 := setCell_grown (W6.setCell ⟨w.heap.size + 1 + 1, 0, none⟩ (I 0)) (w.heap.size + 1 + 1 + 1) 0 (I 0)
          have hDD : ((W6.setCell ⟨w.heap.size + 1 + 1, 0, none⟩ (I 0)).setCell ⟨w.heap.size + 1 + 1 + 1, 0, none⟩ (I 0)).heap[D]? = some (.deferred (some [])) := grown_old hg2 (grown_old hg1 HKK.out (fun e => by have := Option.some.inj e; omega)) (fun e => by have := Option.some.inj e; omega)
          refine ⟨by simp, .inl ⟨_, _, rfl, run_takeDeferred hDD, ?_⟩⟩
          have hb6 : Below w.heap.size w W6 := HBQ.out.grown HGW.out HBQ.out.size (fun k e => by have := Option.some.inj e; omega)
          have hb8 := (hb6.grown hg1 hb6.size (fun k e => by have := Option.some.inj e; omega)).grown hg2 (by have := hg1.size; have := hb6.size; omega) (fun k e => by have := Option.some.inj e; omega)
          refine ⟨_, results_f51 rfl rfl (((H46.out.set 0 _).kept hg2 (fun e => by have := Option.some.inj e; omega)).put (by omega)) (((H56.out.kept hg1 (fun e => by have := Option.some.inj e; omega)).set 0 _).put (by omega)), ⟨0, ?_⟩, hb8.grown (grownBy_putObj' _ D _) hb8.size (fun k e => by have := Option.some.inj e; omega)⟩
          have hfj : functionJ p f = 0 := by
            unfold functionJ
            rw [← HVS.out, ← HT1.out, ← HGL.out, ← HT2.out]
            simp only [Bool.or_false, Bool.false_eq_true, if_false]
            refine firstI_zero fun q hq => ?_
            rw [← HSS.out] at hq
            obtain ⟨y, hy, rfl⟩ := List.mem_map.1 hq
            exact HALL.out y hy
          rw [hfj]
        case stop =>
          rintro D c pre W6 hD hSp ⟨rfl, hb, n, x, pre0, h4, h5, hne, rfl, hz⟩ hK
          have HSP := Lib.hid hSp
          have HZ := Lib.hid hz
          have HNE := Lib.hid hne
          have HB := Lib.hid hb
          have H4 := Lib.hid h4
          have H5 := Lib.hid h5
          have HKK := Lib.hid hK
          clear hSp hz hne hb h4 h5 hK
          gi_wp2
          refine ⟨by simp, .inl ⟨_, _, rfl, run_takeDeferred HKK.out, ?_⟩⟩
          refine ⟨_, results_f51 rfl rfl (H4.out.put (by omega)) (H5.out.put (by omega)), ⟨n, ?_⟩, HB.out.grown (grownBy_putObj' _ D _) HB.out.size (fun k e => by have := Option.some.inj e; omega)⟩
          have hfj : functionJ p f = stmtJ p vl x.loop x.s := by
            unfold functionJ
            rw [← HVS.out, ← HT1.out, ← HGL.out, ← HT2.out]
            simp only [Bool.or_false, Bool.false_eq_true, if_false]
            obtain ⟨t, ht⟩ := HSP.out
            rw [← ht, List.map_append, List.append_assoc, firstI_app (fun y hy => by obtain ⟨z, hz, rfl⟩ := List.mem_map.1 hy; exact HZ.out z hz), List.map_cons, List.map_nil, List.singleton_append, firstI, if_neg (by exact HNE.out)]
          rw [hfj]
      · gi_wp2_with (first
          | (refine ⟨trivial, ?_⟩; refine (callsIn_wide.2 HTW.out).mono ?_; rintro e W4 ⟨rfl, hb4⟩; have hrg4 := HRG3.out.ext hb4; have hrr4 := HRR3.out.ext hb4; clear c6 cr2; have c6 := hrg4.cell 0; have cr2 := hrr4.cell 2; simp only [List.getElem?_cons_succ, List.getElem?_cons_zero] at c6 cr2; have HRG4 := Lib.hid hrg4; have HRR4 := Lib.hid hrr4; have HBB4 := Lib.hid hb4; clear hb4 hrg4 hrr4 HTW)
          | (refine ⟨trivial, ?_⟩; refine (callsIn_wide.2 (HCT.out _ HBB4.out)).mono ?_; rintro e W5 ⟨rfl, hb5⟩; have HBB5 := Lib.hid (HBB4.out.trans (hb5.mono HBB4.out.size)); have h54 := (HRW4.out.ext HBB3.out).ext HBB5.out; have h55 := (HRW5.out.ext HBB3.out).ext HBB5.out; have c4 := h54.cell 0; have c5 := h55.cell 0; have f4 := h54.frozen 0; have f5 := h55.frozen 0; simp only [List.getElem?_cons_zero] at c4 c5; have H54 := Lib.hid h54; have H55 := Lib.hid h55; clear hb5 c6 cr2 h54 h55))
        have hg1 := setCell_grown W5 (w.heap.size + 1 + 1) 0 (I 50)
        have hg2 := setCell_grown (W5.setCell ⟨w.heap.size + 1 + 1, 0, none⟩ (I 50)) (w.heap.size + 1 + 1 + 1) 0 (I 0)
        have hb6 : Below w.heap.size w W5 := HB3.out.trans (HBB5.out.mono HB3.out.size)
        have hb8 := (hb6.grown hg1 hb6.size (fun k e => by have := Option.some.inj e; omega)).grown hg2 (by have := hg1.size; have := hb6.size; omega) (fun k e => by have := Option.some.inj e; omega)
        refine ⟨_, results_f51 rfl rfl ((H54.out.set 0 _).kept hg2 (fun e => by have := Option.some.inj e; omega)) ((H55.out.kept hg1 (fun e => by have := Option.some.inj e; omega)).set 0 _), ⟨0, ?_⟩, hb8⟩
        have hfj : functionJ p f = 50 := by
          unfold functionJ
          rw [← HVS.out, ← HT1.out, ← HGL.out, ← HT2.out]
          rfl
        rw [hfj]
    · gi_wp2_with (first
        | (refine ⟨trivial, ?_⟩; refine (callsIn_wide.2 HTW.out).mono ?_; rintro e W5 ⟨rfl, hb5⟩; have HBB5 := Lib.hid hb5; have h54 := (HRW4.out.ext HBB3.out).ext HBB5.out; have h55 := (HRW5.out.ext HBB3.out).ext HBB5.out; have c4 := h54.cell 0; have c5 := h55.cell 0; have f4 := h54.frozen 0; have f5 := h55.frozen 0; simp only [List.getElem?_cons_zero] at c4 c5; have H54 := Lib.hid h54; have H55 := Lib.hid h55; clear hb5 c6 cr2 h54 h55)
        | (refine ⟨trivial, ?_⟩))
      have hg1 := setCell_grown W5 (w.heap.size + 1 + 1) 0 (I 50)
      have hg2 := setCell_grown (W5.setCell ⟨w.heap.size + 1 + 1, 0, none⟩ (I 50)) (w.heap.size + 1 + 1 + 1) 0 (I 0)
      have hb6 : Below w.heap.size w W5 := HB3.out.trans (HBB5.out.mono HB3.out.size)
      have hb8 := (hb6.grown hg1 hb6.size (fun k e => by have := Option.some.inj e; omega)).grown hg2 (by have := hg1.size; have := hb6.size; omega) (fun k e => by have := Option.some.inj e; omega)
      refine ⟨_, results_f51 rfl rfl ((H54.out.set 0 _).kept hg2 (fun e => by have := Option.some.inj e; omega)) ((H55.out.kept hg1 (fun e => by have := Option.some.inj e; omega)).set 0 _), ⟨0, ?_⟩, hb8⟩
      have hfj : functionJ p f = 50 := by
        unfold functionJ
        rw [← HVS.out, ← HT1.out]
        rfl
      rw [hfj]
end Go.Proofs.YtjgbkdbkachciaaGreatDoor

namespace Go.Proofs.YtjgbkdbkachciaaGreatDoor
open Go.RowKit Go.Shelf
attribute [local go_sem] Oper.semAt_some

abbrev wMain : Str := [109, 97, 105, 110]
/-- a program's names are right -/
structure okN (p : LP) : Prop where
  twice : twiceB (globalsL p) = false
  main : ∃ k : Nat, placeF p wMain = k ∧ ∃ h : k < p.funcs.length, (p.funcs[k]'h).params = []
  funcs : ∀ f ∈ p.funcs, functionJ p f = 0
def CatOk (f : LF) : Prop := ∀ (B : Nat → Prop) (pa la : Option Addr) (pc lc : Nat), ConcatOk B (.slice pa f.params.length pc) (.slice la f.locals.length lc) f.params f.locals
theorem results_f31 {tmps : Array Value} {w : World} {b : Nat} {x y z : Value} (h2 : tmps.getD 2 undef = x) (h3 : tmps.getD 3 undef = .pointer (some ⟨b, 0, none⟩)) (hr : Row w b 72 [y, z]) :
    (results Tryz.f31 tmps).run Tryz.prog w = .ok (.tuple #[x, .agg #[y, z]]) w := by
  have h2' : tmps[2]?.getD undef = x := by simpa using h2
  have h3' : tmps[3]?.getD undef = .pointer (some ⟨b, 0, none⟩) := by simpa using h3
  have c0 := hr.cell 0
  have c1 := hr.cell 1
  simp only [List.getElem?_cons_zero, List.getElem?_cons_succ] at c0 c1
  simp [results, h2', h3', asAddr, go_sem, c0, c1]

set_option maxRecDepth 100000 in
set_option maxHeartbeats 8000000 in
theorem check_yes (B : Nat → Prop) (p : LP) (av fv : Value) (w : World) (hx : PX B w av fv p) (hok : okP p) (hn : okN p) (hcc : ∀ f ∈ p.funcs, CatOk f) (hN : p.arrays.length + p.funcs.length ≤ 1000000000)
    (hN2 : ∀ f ∈ p.funcs, f.params.length + f.locals.length ≤ 1000000000) :
    Calls Tryz.prog 31 #[.agg #[av, fv]] w fun e w' => e = .returned (.tuple #[I 0, .agg #[I 0, I 0]]) ∧ Below w.heap.size w w' := by
  obtain ⟨aa, ac, fa, fc, rfl, rfl⟩ := hx.slice
  obtain ⟨an, han⟩ : ∃ n, n = p.arrays.length := ⟨_, rfl⟩
  obtain ⟨fn, hfn⟩ : ∃ n, n = p.funcs.length := ⟨_, rfl⟩
  rw [← han, ← hfn] at hx ⊢
  have HFN := Lib.hid hfn
  obtain ⟨m, hpm, hml, hmp⟩ := hn.main
  obtain ⟨w0, hw0⟩ : ∃ w0, w0 = (w.alloc (.cells #[.slice aa an ac, .slice fa fn fc] 27)).alloc (.cells #[.int .i64 0, .int .i64 0] 72) := ⟨_, rfl⟩
  have hwe := hw0.symm
  have hb0 : Below w.heap.size w w0 := by rw [hw0]; exact below_a2 _ _ _
  have hr1 : Row w0 w.heap.size 27 [.slice aa an ac, .slice fa fn fc] := by rw [hw0]; exact heap_old _ _ (heap_new _ _)
  have hr3 : Row w0 (w.heap.size + 1) 72 [I 0, I 0] := by rw [hw0]; exact heap_at (by simp)
  have c0 := hr1.cell 0
  have c1 := hr1.cell 1
  simp only [List.getElem?_cons_zero, List.getElem?_cons_succ] at c0 c1
  have HB0 := Lib.hid hb0
  have HR1 := Lib.hid hr1
  have HR3 := Lib.hid hr3
  have HX := Lib.hid hx
  have HPL := Lib.hid (fun W (hb : Below w.heap.size w W) => place_any p wMain _ _ W B (hx.below hb))
  rw [hpm] at HPL
  have HRI := Lib.hid (fun W (hb : Below w.heap.size w W) => right_yes p hok _ _ W B (hx.below hb))
  have HGL := Lib.hid (fun W (hb : Below w.heap.size w W) => globals_any p _ _ W B (hx.below hb) hN)
  have hglen : (globalsL p).length ≤ 1000000000 := by rw [globalsL, List.length_append, List.length_map, List.length_map]; exact hN
  have HTW := Lib.hid (fun W v (B' : Nat → Prop) (hv : RSlB B' 1 RStr W v (globalsL p)) => twice_any (globalsL p) v W B' hv hglen)
  rw [hn.twice] at HTW
  have HGE := Lib.hid hglen
  have HFU := Lib.hid (fun (f : LF) (hf : f ∈ p.funcs) (W : World) (pa la : Option Addr) (pc lc : Nat) (bv : Value) (hb : Below w.heap.size w W) (hp : RSlB B 1 RStr W (.slice pa f.params.length pc) f.params) (hl : RSlB B 1 RStr W (.slice la f.locals.length lc) f.locals) (hbd : SX B W bv f.body) =>
    function_any B p f _ _ _ _ bv W (hx.below hb) (hcc f hf B pa la pc lc) hp hl hbd hN (hN2 f hf))
  have HF0 := Lib.hid hn.funcs
  have hmz : ¬ (m : Int) < 0 := by omega
  have hmf : (m : Int) < (fn : Int) := by omega
  have HMP := Lib.hid hmp
  have hn9 : fn ≤ 1000000000 := by rw [hfn]; omega
  clear hx hok hn hcc hN hN2 hw0 hb0 hr1 hr3 hpm hmp hfn han hglen
  go_enter Tryz.func31, Tryz.ntmps31
  go_upto_region 4 with (first
    | (go_at_call 48; refine (HPL.out _ HB0.out).mono ?_; rintro e w1 ⟨rfl, hb1⟩; have hb2 := HB0.out.trans (hb1.mono HB0.out.size); have hr := HR1.out.ext hb1; clear c0 c1; have c0 := hr.cell 0; have c1 := hr.cell 1; simp only [List.getElem?_cons_zero, List.getElem?_cons_succ] at c0 c1; have HBA := Lib.hid hb2; have HRA := Lib.hid hr; have HRB := Lib.hid (HR3.out.ext hb1); clear hb1 hb2 hr)
    | (go_at_call 43; refine (HRI.out _ HBA.out).mono ?_; rintro e w2 ⟨rfl, hb1⟩; have hb2 := HBA.out.trans (hb1.mono HBA.out.size); have hr := HRA.out.ext hb1; clear c0 c1; have c0 := hr.cell 0; have c1 := hr.cell 1; simp only [List.getElem?_cons_zero, List.getElem?_cons_succ] at c0 c1; have HBC := Lib.hid hb2; have HRC := Lib.hid hr; have HRD := Lib.hid (HRB.out.ext hb1); clear hb1 hb2 hr))
  go_upto_region 6 with (first
    | (go_at_call 50; refine (HGL.out _ HBC.out).mono ?_; rintro e w3 ⟨gv, rfl, hgo, hb1⟩; have hb2 := HBC.out.trans (hb1.mono HBC.out.size); have hr := HRC.out.ext hb1; clear c0 c1; have HBE := Lib.hid hb2; have HRE := Lib.hid hr; have HRF := Lib.hid (HRD.out.ext hb1); have HGO := Lib.hid hgo; clear hb1 hb2 hr hgo)
    | (go_at_call 49; refine (HTW.out _ gv (w2.heap.size ≤ ·) (by simpa using HGO.out.rslB (R := RStr) (fun x => x) sEncS_len HGE.out (fun x _ => rfl))).mono ?_; rintro e w4 ⟨rfl, hb1⟩; have hb2 := HBE.out.trans (hb1.mono HBE.out.size); have hr := HRE.out.ext hb1; have c0 := hr.cell 0; have c1 := hr.cell 1; simp only [List.getElem?_cons_zero, List.getElem?_cons_succ] at c0 c1; have HBG := Lib.hid hb2; have HRG := Lib.hid hr; have HRH := Lib.hid (HRF.out.ext hb1); clear hb1 hb2 hr))
  have hx4 := HX.out.below HBG.out
  have hml' : m < fn := by rw [HFN.out]; exact hml
  obtain ⟨b, o, C, rfl, _, hC, hrx⟩ := (show RSlB B 4 (RF B) w4 (.slice fa p.funcs.length fc) p.funcs by rw [← HFN.out]; exact hx4.funcs).at hml
  obtain ⟨pra, prc, hpr, -⟩ := hrx.2.1
  have e1 := hC 1 (by omega)
  rw [hpr, HMP.out, List.length_nil] at e1
  clear hC hrx hpr hx4
  go_upto_region 8 with (fail)
  clear e1 c0
  go_upto_region 9 with (fail)
  have hf : RSlB B 4 (RF B) w (.slice (some ⟨b, o, none⟩) fn fc) p.funcs := HX.out.funcs
  have HF := Lib.hid hf
  clear hf c1
  go_loopg [38] fn (fun gh i wr => ∃ k : Nat, gh + k = fn ∧ i = I k ∧ Hid (Below w.heap.size w wr ∧ Row wr w.heap.size 27 [.slice aa an ac, .slice (some ⟨b, o, none⟩) fn fc] ∧ Row wr (w.heap.size + 1) 72 [I 0, I 0]))
  case atStart => exact ⟨0, rfl, rfl, Lib.hid ⟨HBG.out, HRG.out, HRH.out⟩⟩
  case round =>
    obtain ⟨k, hg, rfl, HH⟩ := hrel
    obtain ⟨wo, rfl⟩ : ∃ wo, wo = wr := ⟨_, rfl⟩
    by_cases hlt : k < fn
    · have hltz : (k : Int) < (fn : Int) := by omega
      have hlt' : k < p.funcs.length := by rw [← HFN.out]; exact hlt
      obtain ⟨b', o', C, hbo, _, hC, hrx⟩ := (HF.out.below HH.out.1 (fun C x h => h.grown (below_grown HH.out.1 none) (fun r e => by cases e))).at hlt'
      obtain ⟨rfl, rfl⟩ : b = b' ∧ o = o' := by simpa using hbo
      have HFM := Lib.hid (List.getElem_mem hlt')
      obtain ⟨x, hx⟩ : ∃ x, x = p.funcs[k] := ⟨_, rfl⟩
      rw [← hx] at hrx HFM
      obtain ⟨h0, h1, h2, h3⟩ := hrx
      obtain ⟨pa, pc, hpv, -⟩ := id h1
      obtain ⟨la, lc, hlv, -⟩ := id h2
      obtain ⟨ba, bc, hbv⟩ := h3.slice
      have e0 := hC 0 (by omega)
      have e1 := hC 1 (by omega)
      have e2 := hC 2 (by omega)
      have e3 := hC 3 (by omega)
      rw [h0] at e0
      rw [hpv] at e1 h1
      rw [hlv] at e2 h2
      rw [hbv] at e3 h3
      simp only [Nat.add_zero] at e0 e1 e2 e3
      have HP := Lib.hid h1
      have HL := Lib.hid h2
      have HBD := Lib.hid h3
      obtain ⟨pn, hpn⟩ : ∃ n, n = x.params.length := ⟨_, rfl⟩
      obtain ⟨ln, hln⟩ : ∃ n, n = x.locals.length := ⟨_, rfl⟩
      obtain ⟨bn, hbn⟩ : ∃ n, n = x.body.length := ⟨_, rfl⟩
      have HFX := Lib.hid (fun W (hb : Below wo.heap.size wo W) => HFU.out x HFM.out W pa la pc lc _ (HH.out.1.trans (hb.mono HH.out.1.size)) (HP.out.grown (below_grown hb none) (fun r e => by cases e) (fun _ _ h => h)) (HL.out.grown (below_grown hb none) (fun r e => by cases e) (fun _ _ h => h)) (HBD.out.grown (below_grown hb none) (fun r e => by cases e)))
      rw [HF0.out x HFM.out] at HFX
      rw [← hpn] at e1 HFX
      rw [← hln] at e2 HFX
      rw [← hbn] at e3 HFX
      clear hC h0 h1 h2 h3 hpv hlv hbv hx hbo hpn hln hbn
      go_upto_region 11 with (first
        | (refine store_first 52 (.tmp 6) (.tmp 42) rfl ?_; refine wpList_store_row rfl 52 (.tmp 6) (.tmp 42) rfl wo.heap.size _ rfl rfl 52 fZ4 (heap_new _ _) (by kernel_rfl) (by rfl) (by simp [Value.oneCell']) ?_; rw [World.setRow_alloc_new]))
      obtain ⟨w5, hw5⟩ : ∃ w5, w5 = wo.alloc (.cells #[S x.name, .slice pa pn pc, .slice la ln lc, .slice ba bn bc] 52) := ⟨_, rfl⟩
      have hb5 : Below wo.heap.size wo w5 := by rw [hw5]; exact below_a1 _ _
      have hr5 : Row w5 wo.heap.size 52 [S x.name, .slice pa pn pc, .slice la ln lc, .slice ba bn bc] := by rw [hw5]; exact heap_new _ _
      rw [← hw5]
      have HR5 := Lib.hid (HH.out.2.1.ext hb5)
      have HQ5 := Lib.hid (HH.out.2.2.ext hb5)
      have HB5 := Lib.hid hb5
      have c0 := HR5.out.cell 0
      have c1 := HR5.out.cell 1
      have d0 := hr5.cell 0
      have d1 := hr5.cell 1
      have d2 := hr5.cell 2
      have d3 := hr5.cell 3
      simp only [List.getElem?_cons_zero, List.getElem?_cons_succ] at c0 c1 d0 d1 d2 d3
      clear hw5 hb5 hr5 e0 e1 e2 e3
      go_upto_region 12 with (first
        | (go_at_call 51; refine (HFX.out _ HB5.out).mono ?_; rintro e w6 ⟨⟨n6, rfl⟩, hb6⟩; have hb7 := HB5.out.trans (hb6.mono HB5.out.size); have HB7 := Lib.hid (HH.out.1.trans (hb7.mono HH.out.1.size)); have HR7 := Lib.hid (HR5.out.ext hb6); have HQ7 := Lib.hid (HQ5.out.ext hb6); clear hb6 hb7 c0 c1 d0 d1 d2 d3))
      go_wp2
      go_roundg (fn - (k + 1))
      case measure => omega
      case rel => exact ⟨k + 1, by omega, by go_num, Lib.hid ⟨HB7.out, HR7.out, HQ7.out⟩⟩
    · have hltz : ¬ (k : Int) < (fn : Int) := by omega
      have hq := HH.out.2.2
      have q0 := hq.cell 0
      have q1 := hq.cell 1
      have p0 := hq.frozen 0
      have p1 := hq.frozen 1
      simp only [List.getElem?_cons_zero, List.getElem?_cons_succ] at q0 q1
      have HQ := Lib.hid hq
      clear hq
      go_wp2
      refine bodyPost_ret (results_f31 rfl rfl ((HQ.out.set 0 _).set 1 _)) rfl ?_
      have hg1 := setCell_grown wo (w.heap.size + 1) 0 (I 0)
      have hg2 := setCell_grown (wo.setCell ⟨w.heap.size + 1, 0, none⟩ (I 0)) (w.heap.size + 1) 1 (I 0)
      exact ⟨rfl, (HH.out.1.grown hg1 HH.out.1.size (fun r e => by have := Option.some.inj e; omega)).grown hg2 (by have := hg1.size; have := HH.out.1.size; omega) (fun r e => by have := Option.some.inj e; omega)⟩
end Go.Proofs.YtjgbkdbkachciaaGreatDoor
