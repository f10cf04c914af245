import Derived.Test.YtjgbkdbkachciaaGreatDoorX9
namespace Go.Proofs.YtjgbkdbkachciaaGreatDoor
open Go.RowKit Go.Shelf
attribute [local go_sem] Oper.semAt_some

/-- a function called -/
def callF (st : Nat → CSt → LS → ESt → Res (Int × CSt)) (d : Nat) (f : LF) (args : List Int) (s : ESt) : Res Int :=
  match blockM (st (d + 1)) f.body ⟨vars0 f args, 0⟩ s with
  | .stop a b s => .stop a b s
  | .ok q s => .ok q.2.value s
theorem callM_f (p : LP) (st : Nat → CSt → LS → ESt → Res (Int × CSt)) (d : Nat) (x : Str) (args : List Int) (s : ESt) : callM p st d x args s = callF st d (funcAt p x) args s := rfl
/-- calls, walked -/
def BeginC (c : RunC) (R : Nat) (st : Nat → CSt → LS → ESt → Res (Int × CSt)) : Prop :=
  ∀ (F : Nat → Prop) (W : World) (d : Nat) (s : ESt) (f : LF) (nv pv lv bv av : Value) (ns : List Int), ER c F W d s → RSlB c.G 1 RStr W pv f.params → RSlB c.G 1 RStr W lv f.locals → SX c.G W bv f.body → (∀ x ∈ f.body, YS c.p x) →
    f.params.length = ns.length → RSlB (fun b => b < W.heap.size) 1 RI W av ns → 2 * left c.most s + 1 ≤ R → d ≤ 50 →
    Calls Tryz.prog 53 #[.pointer (some ⟨c.rb, 0, none⟩), .agg #[nv, pv, lv, bv], av] W (RunI c F W d (callF st d f ns s))
theorem OwnInts.rslB {W : World} {base : Nat} {v : Value} {l : List Int} (h : OwnInts W base v l) (hl : l.length ≤ 1000000000) : RSlB (fun b => b < W.heap.size) 1 RI W v l := by
  rcases h.2 with ⟨rfl, h0⟩ | ⟨g, cap, cur, rfl, h1, h2, h3, h4, h5, h6⟩
  · have : l = [] := List.eq_nil_of_length_eq_zero h0
    subst this
    exact ⟨none, 0, rfl, by simp, .inl rfl⟩
  · refine ⟨_, _, rfl, hl, .inr ⟨g, 0, rfl, (Array.getElem?_eq_some_iff.1 h2).1, fun i x hx => ⟨fun _ => I x, fun j hj => ?_, rfl⟩⟩⟩
    obtain rfl : j = 0 := by omega
    have hil : i < l.length := (List.getElem?_eq_some_iff.1 hx).1
    have : (l.map (Value.int .i64))[i]? = some (I x) := by rw [List.getElem?_map, hx]; rfl
    rw [← h6, List.getElem?_take_of_lt (by omega), Array.getElem?_toList] at this
    rw [show 0 + i * 1 + 0 = i by omega, cell_of_block h2]
    exact this
theorem OwnInts.cell {W : World} {base : Nat} {v : Value} {l : List Int} (h : OwnInts W base v l) {i : Nat} {x : Int} (hx : l[i]? = some x) : ∃ g cap, v = .slice (some ⟨g, 0, none⟩) l.length cap ∧ W.cell? ⟨g, i, none⟩ = some (I x) := by
  have hil : i < l.length := (List.getElem?_eq_some_iff.1 hx).1
  rcases h.2 with ⟨_, h0⟩ | ⟨g, cap, cur, rfl, h1, h2, h3, h4, h5, h6⟩
  · omega
  · refine ⟨g, cap, rfl, ?_⟩
    have : (l.map (Value.int .i64))[i]? = some (I x) := by rw [List.getElem?_map, hx]; rfl
    rw [← h6, List.getElem?_take_of_lt (by omega), Array.getElem?_toList] at this
    rw [cell_of_block h2]
    exact this
theorem OwnInts.cell' {W : World} {base g n cap : Nat} {l : List Int} (h : OwnInts W base (.slice (some ⟨g, 0, none⟩) n cap) l) {i : Nat} {x : Int} (hx : l[i]? = some x) : W.cell? ⟨g, i, none⟩ = some (I x) := by
  obtain ⟨g', cap', e, h'⟩ := h.cell hx
  simp only [Value.slice.injEq, Option.some.injEq, Addr.mk.injEq] at e
  rw [e.1.1]; exact h'
theorem len2 {l : List Int} (h : l.length = 2) : ∃ a b, l = [a, b] := by
  match l, h with
  | [a, b], _ => exact ⟨a, b, rfl⟩
def divR (s : ESt) : Option Int → Res Int
  | none => .stop 2 0 s
  | some n => .ok n s
theorem readM_ok (s : ESt) : ∃ n s', readM s = .ok n s' := by
  unfold readM
  split
  · exact ⟨_, _, rfl⟩
  · exact ⟨_, _, rfl⟩

set_option maxRecDepth 100000 in
set_option maxHeartbeats 16000000 in
theorem expr_any (c : RunC) (R : Nat) (m : Mach) (hE : ExprC c R m.expr) (hB : BeginC c R m.stmt) (hu : m.Up) (hp : XP c.p) : ExprC c (R + 1) (exprM c.p c.most m) := by
  intro F W d s k cb mb e av h hav hxe hR
  suffices hsuf : Calls Tryz.prog 218 #[.pointer (some ⟨cb, 0, none⟩), eV e av] W (fun en w' => Hid (RunI c F W d (exprM c.p c.most m d k.vars e s) en w')) from hsuf.mono fun _ _ h => h.out
  obtain ⟨Q, hQ⟩ : ∃ Q, Q = RunI c F W d (exprM c.p c.most m d k.vars e s) := ⟨_, rfl⟩
  have HQ := Lib.hid hQ
  rw [← hQ]
  obtain ⟨a0, c0, rfl⟩ := hav.slice
  obtain ⟨ek, hek⟩ : ∃ k, k = e.kind := ⟨_, rfl⟩
  obtain ⟨eo, heo⟩ : ∃ k, k = e.op := ⟨_, rfl⟩
  obtain ⟨en, hen⟩ : ∃ k, k = e.n := ⟨_, rfl⟩
  obtain ⟨nm, hnm⟩ : ∃ k, k = e.name := ⟨_, rfl⟩
  obtain ⟨al, hal⟩ : ∃ k, k = e.args.length := ⟨_, rfl⟩
  obtain ⟨rb, hrb⟩ : ∃ r, r = c.rb := ⟨_, rfl⟩
  rw [eV, ← hek, ← heo, ← hen, ← hnm, ← hal]
  rw [← hal] at hav
  have HEK := Lib.hid hek
  have HEO := Lib.hid heo
  have HEN := Lib.hid hen
  have HNM := Lib.hid hnm
  have HAL := Lib.hid hal
  have HRB := Lib.hid hrb
  have HAV := Lib.hid hav
  have HXE := Lib.hid hxe
  have HR := Lib.hid hR
  have HH := Lib.hid h
  have HB := Lib.hid hB
  have HP := Lib.hid hp
  obtain ⟨w1, hw1⟩ : ∃ w1, w1 = W.alloc (.cells #[I ek, I eo, I en, S nm, .slice a0 al c0] 31) := ⟨_, rfl⟩
  have hwe := hw1.symm
  have hx1 : Row w1 W.heap.size 31 [I ek, I eo, I en, S nm, .slice a0 al c0] := by rw [hw1]; exact heap_new _ _
  have hg1 : W.grownBy w1 none := by rw [hw1]; exact alloc_grown _ _ _
  have hs1 : ER c (fun b => F b ∨ b = W.heap.size) w1 d s := h.er.add hg1 (fun r e => by cases e) (fun b hb => ⟨by omega, by rw [hb]; exact hx1.lt⟩)
  have hk1 : KF F W w1 := h.er.kf hg1 (fun r e => by cases e)
  have hrw := hk1.row h.row h.cF
  have c10 := hrw.cell 0
  simp only [List.getElem?_cons_zero] at c10
  rw [← hrb] at c10
  have HX1 := Lib.hid hx1
  have HS1 := Lib.hid hs1
  have HK1 := Lib.hid hk1
  clear h hQ hek heo hen hnm hal hrb hav hxe hR hB hp hw1 hx1 hg1 hs1 hk1 hrw
  by_cases hst : c.most ≤ (s.steps : Int)
  · have HC1 := Lib.hid (step_no c _ w1 d s HS1.out hst)
    rw [← HRB.out] at HC1
    have HST := Lib.hid hst
    clear hst hE hu
    go_enter Tryz.func218, Tryz.ntmps218
    go_upto_region 2 with (first
      | (go_at_call 186; refine HC1.out.mono ?_; rintro e' w2 ⟨rfl, he2, hk2⟩; have HE2 := Lib.hid he2; have HK2 := Lib.hid hk2; clear he2 hk2))
    refine ⟨rfl, ?_⟩
    show Hid (Q (.panicked (stopV 0 0)) w2)
    rw [HQ.out]
    exact Lib.hid (RunI.stop (by unfold exprM; rw [if_pos HST.out]) (HK1.out.trans (HK2.out.mono fun b hb => .inl hb)) (HE2.out.less (fun b hb => .inl hb) HH.out.er.b.gf))
  · have HC1 := Lib.hid (step_yes c _ w1 d s HS1.out hst)
    rw [← HRB.out] at HC1
    have htl := left_tick hst
    have HLT := Lib.hid htl
    have HEQ := Lib.hid (exprM_eq c.p c.most m d k.vars e s hst)
    have HEE := Lib.hid hE
    have HU := Lib.hid hu
    clear hst hE hu htl
    go_enter Tryz.func218, Tryz.ntmps218
    go_upto_region 2 with (first
      | (go_at_call 186; refine HC1.out.mono ?_; rintro e' w2 ⟨rfl, he2, hk2⟩; have HE2 := Lib.hid he2; have HK2 := Lib.hid hk2; clear he2 hk2))
    have hx2 := HK2.out.row HX1.out (.inr rfl)
    have c4 := hx2.cell 4
    simp only [List.getElem?_cons_succ, List.getElem?_cons_zero] at c4
    have hk2 : KF F W w2 := HK1.out.trans (HK2.out.mono fun b hb => .inl hb)
    have hcs : CSat c (fun b => F b ∨ b = W.heap.size) w2 d k (tick s) cb mb :=
      ⟨HE2.out, .inl HH.out.cF, .inl HH.out.mF, HH.out.cG, HH.out.mG, HH.out.ne, hk2.row HH.out.row HH.out.cF, HH.out.vars.on (hk2.block mb HH.out.mF)⟩
    have hal := HAV.out.on (fun b hb => hk2.block b (HH.out.er.b.gf b hb))
    obtain ⟨dd, hal⟩ := hal
    have HC2 := Lib.hid (args_any c R m.expr HEE.out (fun _ _ _ _ _ _ h => HU.out.expr h) _ w2 d (tick s) k cb mb e.args _ hcs (⟨dd, hal⟩ : AX c.G w2 (.slice a0 al c0) e.args) HXE.out.args (by have := HR.out; have := HLT.out; omega))
    have HX2 := Lib.hid hx2
    have HK2' := Lib.hid hk2
    have HCS := Lib.hid hcs
    obtain ⟨r, hr⟩ : ∃ r, r = argsM (m.expr d k.vars) e.args (tick s) := ⟨_, rfl⟩
    rw [← hr] at HC2 HEQ
    have HRE := Lib.hid hr
    clear hx2 hk2 hcs hal hr
    cases r with
    | stop a b s2 =>
      go_upto_region 3 with (first
        | (go_at_call 188; refine HC2.out.mono ?_; rintro e' w3 ⟨hk3, rfl, d', he3⟩; have HK3 := Lib.hid hk3; have HE3 := Lib.hid he3; clear hk3 he3))
      refine ⟨rfl, ?_⟩
      show Hid (Q (.panicked (stopV a b)) w3)
      rw [HQ.out]
      exact Lib.hid (RunI.stop HEQ.out (HK2'.out.trans (HK3.out.mono fun b hb => .inl hb)) (HE3.out.less (fun b hb => .inl hb) HH.out.er.b.gf))
    | ok ns s2 =>
      go_upto_region 3 with (first
        | (go_at_call 188; refine HC2.out.mono ?_; rintro e' w3 ⟨hk3, ov, rfl, ho3, he3⟩; have HK3 := Lib.hid hk3; have HE3 := Lib.hid he3; have HO3 := Lib.hid ho3; clear hk3 he3 ho3))
      have hx3 := HK3.out.row HX2.out (.inr rfl)
      have hk3 : KF F W w3 := HK2'.out.trans (HK3.out.mono fun b hb => .inl hb)
      have hnl := argsM_up (fun h => HU.out.expr h) _ _ _ _ HRE.out.symm
      have hcs3 : CSat c F w3 d k s2 cb mb := HH.out.on hk3 (HE3.out.less (fun b hb => .inl (.inl hb)) HH.out.er.b.gf)
      have HNL := Lib.hid hnl
      have HX3 := Lib.hid hx3
      have HK3' := Lib.hid hk3
      have HC3 := Lib.hid hcs3
      have d0 := hx3.cell 0
      have d1 := hx3.cell 1
      have d2 := hx3.cell 2
      have d3 := hx3.cell 3
      have r0 := hcs3.row.cell 0
      have r1 := hcs3.row.cell 1
      simp only [List.getElem?_cons_succ, List.getElem?_cons_zero] at d0 d1 d2 d3 r0 r1
      rw [← HRB.out] at r0
      have hown := HXE.out.own
      rw [ownX, ← HEK.out] at hown
      obtain ⟨hek1, hek2⟩ := hown
      have HOW := Lib.hid hek2
      clear hx3 hk3 hnl hcs3 c4 c10 hek2
      rcases (by omega : ek = 1 ∨ ek = 2 ∨ ek = 3 ∨ ek = 4 ∨ ek = 5 ∨ ek = 6 ∨ ek = 7) with rfl | rfl | rfl | rfl | rfl | rfl | rfl
      · clear hek1
        go_wp2
        go_ret
        rw [HQ.out]
        exact Lib.hid (RunI.ok (by rw [HEQ.out]; show exprT c.p m d k.vars e ns s2 = _; unfold exprT; rw [if_pos HEK.out.symm, ← HEN.out]) HK3'.out HC3.out.er)
      · clear hek1
        go_upto_region 7 with (fail)
        refine wp_region_ordW (by kernel_rfl) (fun X => X.cell? ⟨cb, 1, none⟩ = some (.map (some mb)) ∧ X.cell? ⟨W.heap.size, 3, none⟩ = some (S nm) ∧ VarsAt X mb k.vars) [(0, 0), (0, 1), (0, 2), (0, 3), (0, 4), (0, 5), (0, 6), (0, 7)] (by kernel_rfl) ?hS2 ?_
        case hS2 => intro wd hh; exact ⟨row_at HC3.out.row hh 1, row_at HX3.out hh 3, HC3.out.vars.on (by rw [hh])⟩
        intro wd hh hgd hS
        have HGD := Lib.hid hgd
        clear hh hgd d0 d1 d2 d3 r0 r1
        simp only [pickOps, List.map_cons, List.map_nil, List.getElem?_cons_zero, List.getElem?_cons_succ, Option.getD_some]
        repeat (first | (refine wpOrd_pass (by rfl) (by assumption) (fun _ _ _ h => h) ?_; simp only [Act.put, List.setIfInBounds_toArray, List.set_cons_zero, List.set_cons_succ]) | (refine wpOrd_look (v := ?_) (by rfl) ?_ (by assumption) (fun _ _ _ h => h) ?_; rotate_left; (· (intro wS hSw; (try dsimp only at hSw); go_simp; (first | done | with_reducible rfl))); simp only [Act.put, List.setIfInBounds_toArray, List.set_cons_zero, List.set_cons_succ]))
        refine wpOrd_look (v := I (k.vars nm)) (by rfl) (fun wS hSw => ?_) (by assumption) (fun _ _ _ h => h) ?_
        · have hl := run_look hSw.2.2 nm
          go_simp
        simp only [Act.put, List.setIfInBounds_toArray, List.set_cons_zero, List.set_cons_succ]
        repeat (first | (refine wpOrd_pass (by rfl) (by assumption) (fun _ _ _ h => h) ?_; simp only [Act.put, List.setIfInBounds_toArray, List.set_cons_zero, List.set_cons_succ]) | (refine wpOrd_look (v := ?_) (by rfl) ?_ (by assumption) (fun _ _ _ h => h) ?_; rotate_left; (· (intro wS hSw; (try dsimp only at hSw); go_simp; (first | done | with_reducible rfl))); simp only [Act.put, List.setIfInBounds_toArray, List.set_cons_zero, List.set_cons_succ]))
        refine wpOrd_nil ?_
        clear hS
        go_wp2
        go_ret
        rw [HQ.out]
        exact Lib.hid (RunI.ok (by rw [HEQ.out]; show exprT c.p m d k.vars e ns s2 = _; unfold exprT; rw [if_neg (by have := HEK.out; omega), if_pos HEK.out.symm, ← HNM.out]) (HK3'.out.trans (HC3.out.er.kf HGD.out fun r e => by cases e)) (HC3.out.er.quiet HGD.out))
      · clear hek1
        obtain ⟨n0, rfl⟩ := List.length_eq_one_iff.1 (HNL.out.2.trans (HOW.out.1 rfl))
        obtain ⟨g, cap, rfl, hc0⟩ := HO3.out.cell (i := 0) (x := n0) rfl
        simp only [List.length_cons, List.length_nil, Nat.zero_add] at *
        have HC0 := Lib.hid hc0
        have HOC := Lib.hid (fun X => one_any eo n0 X)
        obtain ⟨vo, hvo⟩ : ∃ o, o = oneI eo n0 := ⟨_, rfl⟩
        rw [← hvo] at HOC
        have HVO := Lib.hid hvo
        clear hc0 hvo
        go_upto_region 9 with (fail)
        refine wp_region_ordW (by kernel_rfl) (fun X => X.cell? ⟨W.heap.size, 1, none⟩ = some (I eo) ∧ X.cell? ⟨g, 0, none⟩ = some (I n0)) [(0, 0), (0, 1), (0, 2), (0, 3), (0, 4), (1, 5), (0, 6), (0, 7), (0, 8), (0, 9), (0, 10)] (by kernel_rfl) ?hS3 ?_
        case hS3 => intro wd hh; exact ⟨row_at HX3.out hh 1, (cell_heap hh _).trans HC0.out⟩
        intro wd hh hgd hS
        have HGD := Lib.hid hgd
        have HXD := Lib.hid (HX3.out.kept hgd (by simp))
        have HCD := Lib.hid (gcell HC0.out hgd (by simp))
        clear hh hgd d0 d1 d2 d3 r0 r1
        simp only [pickOps, List.map_cons, List.map_nil, List.getElem?_cons_zero, List.getElem?_cons_succ, Option.getD_some]
        repeat (first | (refine wpOrd_pass (by rfl) (by assumption) (fun _ _ _ h => h) ?_; simp only [Act.put, List.setIfInBounds_toArray, List.set_cons_zero, List.set_cons_succ]) | (refine wpOrd_look (v := ?_) (by rfl) ?_ (by assumption) (fun _ _ _ h => h) ?_; rotate_left; (· (intro wS hSw; (try dsimp only at hSw); go_simp; (first | done | with_reducible rfl))); simp only [Act.put, List.setIfInBounds_toArray, List.set_cons_zero, List.set_cons_succ]))
        refine wpOrd_turn ?_
        have hvr : ∃ x ok, retI vo = .tuple #[I x, .bool ok] ∧ vo.getD 0 = x := by
          cases vo with
          | none => exact ⟨0, false, rfl, rfl⟩
          | some x => exact ⟨x, true, rfl, rfl⟩
        obtain ⟨x, ok, hret, hx⟩ := hvr
        rw [hret] at HOC
        have HXV := Lib.hid hx
        clear hret hx
        go_wp2_with (first
          | (go_at_call 62; refine (HOC.out _).mono ?_; rintro e' w4 ⟨rfl, hb4⟩; have HB4 := Lib.hid hb4; clear hb4 hS))
        refine QN_keep ⟨(HXD.out.ext HB4.out).cell 1, gcell HCD.out (below_grown HB4.out none) (by simp)⟩ fun hS => ?_
        repeat (first | (refine wpOrd_pass (by rfl) (by assumption) (fun _ _ _ h => h) ?_; simp only [Act.put, List.setIfInBounds_toArray, List.set_cons_zero, List.set_cons_succ]) | (refine wpOrd_look (v := ?_) (by rfl) ?_ (by assumption) (fun _ _ _ h => h) ?_; rotate_left; (· (intro wS hSw; (try dsimp only at hSw); go_simp; (first | done | with_reducible rfl))); simp only [Act.put, List.setIfInBounds_toArray, List.set_cons_zero, List.set_cons_succ]))
        refine wpOrd_nil ?_
        clear hS
        go_wp2
        go_ret
        rw [HQ.out]
        have hg4 := below_grown HB4.out none
        exact Lib.hid (RunI.ok (by rw [HEQ.out]; show exprT c.p m d k.vars e [n0] s2 = _; unfold exprT; rw [if_neg (by have := HEK.out; omega), if_neg (by have := HEK.out; omega), if_pos HEK.out.symm, ← HEO.out, ← HXV.out, HVO.out]; rfl) ((HK3'.out.trans (HC3.out.er.kf HGD.out fun r e => by cases e)).trans ((HC3.out.er.quiet HGD.out).kf hg4 fun r e => by cases e)) ((HC3.out.er.quiet HGD.out).quiet hg4))
      · clear hek1
        obtain ⟨n0, n1, rfl⟩ := len2 (HNL.out.2.trans (HOW.out.2.1 rfl))
        obtain ⟨g, cap, rfl, hc0⟩ := HO3.out.cell (i := 0) (x := n0) rfl
        have hc1 := HO3.out.cell' (i := 1) (x := n1) rfl
        simp only [List.length_cons, List.length_nil, Nat.zero_add, Nat.reduceAdd] at *
        have HC0 := Lib.hid hc0
        have HC1' := Lib.hid hc1
        have HOC := Lib.hid (fun X => two_any eo n0 n1 X)
        obtain ⟨vo, hvo⟩ : ∃ o, o = twoI eo n0 n1 := ⟨_, rfl⟩
        rw [← hvo] at HOC
        have hres : exprM c.p c.most m d k.vars e s = divR s2 vo := by
          rw [HEQ.out, hvo, HEO.out]
          show exprT c.p m d k.vars e [n0, n1] s2 = _
          unfold exprT
          rw [if_neg (by have := HEK.out; omega), if_neg (by have := HEK.out; omega), if_neg (by have := HEK.out; omega), if_pos HEK.out.symm]
          show (match twoI e.op n0 n1 with | none => _ | some n => _ : Res Int) = _
          cases twoI e.op n0 n1 <;> rfl
        have HRS := Lib.hid hres
        clear hc0 hc1 hvo hres
        cases vo with
        | none =>
          have hrv : retI none = .tuple #[I 0, .bool false] := rfl
          rw [hrv] at HOC
          clear hrv
          go_upto_region 12 with (fail)
          refine wp_region_ordW (by kernel_rfl) (fun X => X.cell? ⟨W.heap.size, 1, none⟩ = some (I eo) ∧ X.cell? ⟨g, 0, none⟩ = some (I n0) ∧ X.cell? ⟨g, 1, none⟩ = some (I n1)) [(0, 0), (0, 1), (0, 2), (0, 3), (0, 4), (0, 5), (0, 6), (0, 7), (1, 8), (0, 9), (0, 10), (0, 11), (0, 12), (0, 13)] (by kernel_rfl) ?hS4 ?_
          case hS4 => intro wd hh; exact ⟨row_at HX3.out hh 1, (cell_heap hh _).trans HC0.out, (cell_heap hh _).trans HC1'.out⟩
          intro wd hh hgd hS
          have HGD := Lib.hid hgd
          have HXD := Lib.hid (HX3.out.kept hgd (by simp))
          have HCD := Lib.hid (gcell HC0.out hgd (by simp))
          have HCE := Lib.hid (gcell HC1'.out hgd (by simp))
          clear hh hgd d0 d1 d2 d3 r0 r1
          simp only [pickOps, List.map_cons, List.map_nil, List.getElem?_cons_zero, List.getElem?_cons_succ, Option.getD_some]
          repeat (first | (refine wpOrd_pass (by rfl) (by assumption) (fun _ _ _ h => h) ?_; simp only [Act.put, List.setIfInBounds_toArray, List.set_cons_zero, List.set_cons_succ]) | (refine wpOrd_look (v := ?_) (by rfl) ?_ (by assumption) (fun _ _ _ h => h) ?_; rotate_left; (· (intro wS hSw; (try dsimp only at hSw); go_simp; (first | done | with_reducible rfl))); simp only [Act.put, List.setIfInBounds_toArray, List.set_cons_zero, List.set_cons_succ]))
          refine wpOrd_turn ?_
          go_wp2_with (first
            | (go_at_call 63; refine (HOC.out _).mono ?_; rintro e' w4 ⟨rfl, hb4⟩; have HB4 := Lib.hid hb4; clear hb4 hS))
          refine QN_keep ⟨(HXD.out.ext HB4.out).cell 1, gcell HCD.out (below_grown HB4.out none) (by simp), gcell HCE.out (below_grown HB4.out none) (by simp)⟩ fun hS => ?_
          repeat (first | (refine wpOrd_pass (by rfl) (by assumption) (fun _ _ _ h => h) ?_; simp only [Act.put, List.setIfInBounds_toArray, List.set_cons_zero, List.set_cons_succ]) | (refine wpOrd_look (v := ?_) (by rfl) ?_ (by assumption) (fun _ _ _ h => h) ?_; rotate_left; (· (intro wS hSw; (try dsimp only at hSw); go_simp; (first | done | with_reducible rfl))); simp only [Act.put, List.setIfInBounds_toArray, List.set_cons_zero, List.set_cons_succ]))
          refine wpOrd_nil ?_
          clear hS
          go_wp2
          have hg4 := below_grown HB4.out none
          refine ⟨rfl, ?_⟩
          show Hid (Q (.panicked (stopV 2 0)) w4)
          rw [HQ.out]
          exact Lib.hid (RunI.stop HRS.out ((HK3'.out.trans (HC3.out.er.kf HGD.out fun r e => by cases e)).trans ((HC3.out.er.quiet HGD.out).kf hg4 fun r e => by cases e)) ((HC3.out.er.quiet HGD.out).quiet hg4))
        | some x =>
          have hrv : retI (some x) = .tuple #[I x, .bool true] := rfl
          rw [hrv] at HOC
          clear hrv
          go_upto_region 12 with (fail)
          refine wp_region_ordW (by kernel_rfl) (fun X => X.cell? ⟨W.heap.size, 1, none⟩ = some (I eo) ∧ X.cell? ⟨g, 0, none⟩ = some (I n0) ∧ X.cell? ⟨g, 1, none⟩ = some (I n1)) [(0, 0), (0, 1), (0, 2), (0, 3), (0, 4), (0, 5), (0, 6), (0, 7), (1, 8), (0, 9), (0, 10), (0, 11), (0, 12), (0, 13)] (by kernel_rfl) ?hS5 ?_
          case hS5 => intro wd hh; exact ⟨row_at HX3.out hh 1, (cell_heap hh _).trans HC0.out, (cell_heap hh _).trans HC1'.out⟩
          intro wd hh hgd hS
          have HGD := Lib.hid hgd
          have HXD := Lib.hid (HX3.out.kept hgd (by simp))
          have HCD := Lib.hid (gcell HC0.out hgd (by simp))
          have HCE := Lib.hid (gcell HC1'.out hgd (by simp))
          clear hh hgd d0 d1 d2 d3 r0 r1
          simp only [pickOps, List.map_cons, List.map_nil, List.getElem?_cons_zero, List.getElem?_cons_succ, Option.getD_some]
          repeat (first | (refine wpOrd_pass (by rfl) (by assumption) (fun _ _ _ h => h) ?_; simp only [Act.put, List.setIfInBounds_toArray, List.set_cons_zero, List.set_cons_succ]) | (refine wpOrd_look (v := ?_) (by rfl) ?_ (by assumption) (fun _ _ _ h => h) ?_; rotate_left; (· (intro wS hSw; (try dsimp only at hSw); go_simp; (first | done | with_reducible rfl))); simp only [Act.put, List.setIfInBounds_toArray, List.set_cons_zero, List.set_cons_succ]))
          refine wpOrd_turn ?_
          go_wp2_with (first
            | (go_at_call 63; refine (HOC.out _).mono ?_; rintro e' w4 ⟨rfl, hb4⟩; have HB4 := Lib.hid hb4; clear hb4 hS))
          refine QN_keep ⟨(HXD.out.ext HB4.out).cell 1, gcell HCD.out (below_grown HB4.out none) (by simp), gcell HCE.out (below_grown HB4.out none) (by simp)⟩ fun hS => ?_
          repeat (first | (refine wpOrd_pass (by rfl) (by assumption) (fun _ _ _ h => h) ?_; simp only [Act.put, List.setIfInBounds_toArray, List.set_cons_zero, List.set_cons_succ]) | (refine wpOrd_look (v := ?_) (by rfl) ?_ (by assumption) (fun _ _ _ h => h) ?_; rotate_left; (· (intro wS hSw; (try dsimp only at hSw); go_simp; (first | done | with_reducible rfl))); simp only [Act.put, List.setIfInBounds_toArray, List.set_cons_zero, List.set_cons_succ]))
          refine wpOrd_nil ?_
          clear hS
          go_wp2
          go_ret
          rw [HQ.out]
          have hg4 := below_grown HB4.out none
          exact Lib.hid (RunI.ok HRS.out ((HK3'.out.trans (HC3.out.er.kf HGD.out fun r e => by cases e)).trans ((HC3.out.er.quiet HGD.out).kf hg4 fun r e => by cases e)) ((HC3.out.er.quiet HGD.out).quiet hg4))
      · clear hek1
        have r4 : w3.cell? ⟨rb, 4, none⟩ = some (I d) := by
          obtain ⟨iv, ov', hrun⟩ := HC3.out.er.run
          rw [HRB.out, hrun.cell]; rfl
        have hres : exprM c.p c.most m d k.vars e s = if 50 ≤ d then .stop 4 0 s2 else callF m.stmt d (fnAt c.p (placeF c.p nm)) ns s2 := by
          rw [HEQ.out]
          show exprT c.p m d k.vars e ns s2 = _
          unfold exprT
          rw [if_neg (by have := HEK.out; omega), if_neg (by have := HEK.out; omega), if_neg (by have := HEK.out; omega), if_neg (by have := HEK.out; omega), if_neg (by have := HEK.out; omega), if_neg (by have := HEK.out; omega), callM_f, ← HNM.out]
          rfl
        have HRS := Lib.hid hres
        clear hres
        by_cases hd : 50 ≤ d
        · have hdz : (50 : Int) ≤ (d : Int) := by omega
          go_wp2
          refine ⟨rfl, ?_⟩
          show Hid (Q (.panicked (stopV 4 0)) w3)
          rw [HQ.out]
          exact Lib.hid (RunI.stop (by rw [HRS.out, if_pos hd]) HK3'.out HC3.out.er)
        · have hdz : ¬ (50 : Int) ≤ (d : Int) := by omega
          have HDD := Lib.hid hd
          have hpa := (HOW.out.2.2.2 rfl)
          rw [← HNM.out] at hpa
          obtain ⟨j, hj, hjl⟩ := placeI_lt (show ¬ placeF c.p nm < 0 by omega)
          have hj : placeF c.p nm = (j : Nat) := hj
          obtain ⟨iv, ov', hrun⟩ := HC3.out.er.run
          have hpx := HC3.out.er.b.px
          obtain ⟨aa, ac, fa, fc, e1, e2⟩ := hpx.slice
          have E1 := Lib.hid e1
          have E2 := Lib.hid e2
          have HBG := Lib.hid (True.intro)
          rw [e1, e2] at hpx
          simp only [rRow, e1, e2] at hrun
          obtain ⟨b, o, C, rfl, hbG, hC, hrx⟩ := hpx.funcs.at hjl
          clear HBG
          have HBG := Lib.hid hbG
          have hfn : fnAt c.p (placeF c.p nm) = c.p.funcs[j] := by rw [hj, fnAt, Int.toNat_natCast, List.getD_eq_getElem?_getD, List.getElem?_eq_getElem hjl]; rfl
          obtain ⟨f, hf⟩ : ∃ f, f = c.p.funcs[j] := ⟨_, rfl⟩
          have hbd : ∀ x ∈ f.body, YS c.p x := by rw [hf]; exact HP.out.body _ (List.getElem_mem hjl)
          have hpl : f.params.length = ns.length := by rw [hf, ← hfn, HNL.out.2]; exact hpa.2
          rw [← hf] at hfn hrx
          obtain ⟨hn0, hn1, hn2, hn3⟩ := hrx
          have hres2 : exprM c.p c.most m d k.vars e s = callF m.stmt d f ns s2 := by rw [HRS.out, if_neg HDD.out, hfn]
          obtain ⟨pa, pc, hp1, -⟩ := id hn1
          obtain ⟨la, lc, hl1, -⟩ := id hn2
          obtain ⟨ba, bc, hb1⟩ := hn3.slice
          have e0 := hC 0 (by omega)
          have e1' := hC 1 (by omega)
          have e2' := hC 2 (by omega)
          have e3 := hC 3 (by omega)
          rw [hn0] at e0
          rw [hp1] at e1' hn1
          rw [hl1] at e2' hn2
          rw [hb1] at e3 hn3
          simp only [Nat.add_zero] at e0 e1' e2' e3
          have HPL := Lib.hid (fun W' (hb : Below w3.heap.size w3 W') => place_any c.p nm _ _ W' c.G (hpx.below hb))
          rw [hj] at HPL
          obtain ⟨an, han⟩ : ∃ n, n = c.p.arrays.length := ⟨_, rfl⟩
          obtain ⟨fn, hfn'⟩ : ∃ n, n = c.p.funcs.length := ⟨_, rfl⟩
          rw [← han, ← hfn'] at hrun HPL
          rw [← han] at E1
          rw [← hfn'] at E2
          rw [← hfn'] at hjl
          have hjz : ¬ (j : Int) < 0 := by omega
          have hjn : (j : Int) < (fn : Int) := by omega
          have hrun' := hrun
          rw [← HRB.out] at hrun'
          have HRUN := Lib.hid hrun'
          have HC0 := Lib.hid e0
          have HC1' := Lib.hid e1'
          have HC2' := Lib.hid e2'
          have HC3' := Lib.hid e3
          have HRES := Lib.hid hres2
          have HN1 := Lib.hid hn1
          have HN2 := Lib.hid hn2
          have HN3 := Lib.hid hn3
          have HBD := Lib.hid hbd
          have HPLN := Lib.hid hpl
          have hns : ns.length ≤ 1000000000 := by
            rw [← hpl]; obtain ⟨_, _, h1, h2, _⟩ := hn1; exact h2
          have HNS := Lib.hid (HO3.out.rslB hns)
          obtain ⟨oa, oc, rfl⟩ := HO3.out.slice
          have HCB := Lib.hid HC3.out.row
          rw [← HRB.out] at HCB
          clear hd hpa hj hpx e1 e2 hC hfn hf hbd hpl hn0 hn1 hn2 hn3 hres2 hp1 hl1 hb1 han hfn' hrun hrun' e0 e1' e2' e3 hns
          go_upto_region 22 with (fail)
          refine wp_region_ordW (by kernel_rfl) (fun X => X.cell? ⟨cb, 0, none⟩ = some (.pointer (some ⟨rb, 0, none⟩)) ∧ X.cell? ⟨rb, 0, none⟩ = some (.slice aa an ac) ∧ X.cell? ⟨rb, 1, none⟩ = some (.slice (some ⟨b, o, none⟩) fn fc) ∧ X.cell? ⟨W.heap.size, 3, none⟩ = some (S nm) ∧ X.cell? ⟨b, o + j * 4, none⟩ = some (S f.name) ∧ X.cell? ⟨b, o + j * 4 + 1, none⟩ = some (.slice pa f.params.length pc) ∧ X.cell? ⟨b, o + j * 4 + 2, none⟩ = some (.slice la f.locals.length lc) ∧ X.cell? ⟨b, o + j * 4 + 3, none⟩ = some (.slice ba f.body.length bc))
            [(0, 0), (0, 1), (0, 2), (0, 3), (0, 4), (0, 5), (0, 6), (0, 7), (0, 8), (0, 9), (0, 10), (0, 11), (0, 12), (0, 13), (0, 14), (0, 15), (0, 16), (0, 17), (0, 18), (0, 19), (0, 20), (0, 24), (1, 21), (0, 22), (0, 23), (1, 25), (0, 26)] (by kernel_rfl) ?hS6 ?_
          case hS6 => intro wd hh; exact ⟨row_at HCB.out hh 0, row_at HRUN.out hh 0, row_at HRUN.out hh 1, row_at HX3.out hh 3, (cell_heap hh _).trans HC0.out, (cell_heap hh _).trans HC1'.out, (cell_heap hh _).trans HC2'.out, (cell_heap hh _).trans HC3'.out⟩
          intro wd hh hgd hS
          have HGD := Lib.hid hgd
          have HBD0 := Lib.hid (show Below w3.heap.size w3 wd from ⟨hgd.os, hgd.tape, hgd.output, hgd.size, fun k hk => hgd.block k hk (by simp)⟩)
          clear hh hgd d0 d1 d2 d3 r0 r1 r4
          simp only [pickOps, List.map_cons, List.map_nil, List.getElem?_cons_zero, List.getElem?_cons_succ, Option.getD_some]
          repeat (first | (refine wpOrd_pass (by rfl) (by assumption) (fun _ _ _ h => h) ?_; simp only [Act.put, List.setIfInBounds_toArray, List.set_cons_zero, List.set_cons_succ]) | (refine wpOrd_look (v := ?_) (by rfl) ?_ (by assumption) (fun _ _ _ h => h) ?_; rotate_left; (· (intro wS hSw; (try dsimp only at hSw); go_simp; (first | done | with_reducible rfl))); simp only [Act.put, List.setIfInBounds_toArray, List.set_cons_zero, List.set_cons_succ]))
          refine wpOrd_turn ?_
          go_wp2_with (first
            | (go_at_call 48; refine (HPL.out _ HBD0.out).mono ?_; rintro e' w4 ⟨rfl, hb4⟩; have HB4 := Lib.hid (HBD0.out.trans (hb4.mono HBD0.out.size)); clear hb4 hS))
          refine QN_keep ⟨(HCB.out.ext HB4.out).cell 0, (HRUN.out.ext HB4.out).cell 0, (HRUN.out.ext HB4.out).cell 1, (HX3.out.ext HB4.out).cell 3, gcell HC0.out (below_grown HB4.out none) (by simp), gcell HC1'.out (below_grown HB4.out none) (by simp), gcell HC2'.out (below_grown HB4.out none) (by simp), gcell HC3'.out (below_grown HB4.out none) (by simp)⟩ fun hS => ?_
          repeat (first | (refine wpOrd_pass (by rfl) (by assumption) (fun _ _ _ h => h) ?_; simp only [Act.put, List.setIfInBounds_toArray, List.set_cons_zero, List.set_cons_succ]) | (refine wpOrd_look (v := ?_) (by rfl) ?_ (by assumption) (fun _ _ _ h => h) ?_; rotate_left; (· (intro wS hSw; (try dsimp only at hSw); go_simp; (first | done | with_reducible rfl))); simp only [Act.put, List.setIfInBounds_toArray, List.set_cons_zero, List.set_cons_succ]))
          have hE4 : ER c (fun b => (F b ∨ b = W.heap.size) ∨ (Value.slice oa ns.length oc).ownBlock = some b) w4 d s2 := HE3.out.below HB4.out
          have hcall := HB.out _ w4 d s2 f (S f.name) _ _ _ _ ns hE4 (HN1.out.below HB4.out fun _ _ h => h) (HN2.out.below HB4.out fun _ _ h => h) (HN3.out.on fun b hb => HB4.out.block b (HC3.out.er.b.lt b (HC3.out.er.b.gf b hb))) HBD.out HPLN.out ((HNS.out.below HB4.out fun _ _ h => h).weak (fun b hb => Nat.lt_of_lt_of_le hb HB4.out.size) fun _ _ h => h) (by have := HR.out; have := HLT.out; have := left_up (most := c.most) HNL.out.1; omega) (by have := HDD.out; omega)
          rw [← HRB.out] at hcall
          obtain ⟨r5, hr5⟩ : ∃ r, r = callF m.stmt d f ns s2 := ⟨_, rfl⟩
          rw [← hr5] at hcall HRES
          have HCALL := Lib.hid hcall
          have HE4 := Lib.hid hE4
          have hk4 : KF F W w4 := HK3'.out.trans (HC3.out.er.kf (below_grown HB4.out none) fun r e => by cases e)
          have HK4 := Lib.hid hk4
          clear hS hE4 hcall hr5 hk4
          refine wpOrd_turn ?_
          cases r5 with
          | stop a b' s5 =>
            go_wp2_with (first
              | (go_at_call 53; refine HCALL.out.mono ?_; rintro e' w5 ⟨hk5, rfl, d', he5⟩; have HK5 := Lib.hid hk5; have HE5 := Lib.hid he5; clear hk5 he5))
            refine ⟨rfl, ?_⟩
            show Hid (Q (.panicked (stopV a b')) w5)
            rw [HQ.out]
            exact Lib.hid (RunI.stop HRES.out (HK4.out.trans (HK5.out.mono fun b hb => .inl (.inl hb))) (HE5.out.less (fun b hb => .inl (.inl hb)) HH.out.er.b.gf))
          | ok n s5 =>
            go_wp2_with (first
              | (go_at_call 53; refine HCALL.out.mono ?_; rintro e' w5 ⟨hk5, rfl, he5⟩; have HK5 := Lib.hid hk5; have HE5 := Lib.hid he5; clear hk5 he5))
            obtain ⟨iv5, ov5, hr5⟩ := HE5.out.run
            simp only [rRow, E1.out, E2.out] at hr5
            rw [← HRB.out] at hr5
            have hbG5 : w5.heap[b]? = w4.heap[b]? := HK5.out.block b (.inl (.inl (HH.out.er.b.gf b HBG.out)))
            refine QN_keep ⟨(HK5.out.row (HCB.out.ext HB4.out) (.inl (.inl HH.out.cF))).cell 0, hr5.cell 0, hr5.cell 1, (HK5.out.row (HX3.out.ext HB4.out) (.inl (.inr rfl))).cell 3, (cell_on hbG5).trans (gcell HC0.out (below_grown HB4.out none) (by simp)), (cell_on hbG5).trans (gcell HC1'.out (below_grown HB4.out none) (by simp)), (cell_on hbG5).trans (gcell HC2'.out (below_grown HB4.out none) (by simp)), (cell_on hbG5).trans (gcell HC3'.out (below_grown HB4.out none) (by simp))⟩ fun hS => ?_
            clear hr5 hbG5
            repeat (first | (refine wpOrd_pass (by rfl) (by assumption) (fun _ _ _ h => h) ?_; simp only [Act.put, List.setIfInBounds_toArray, List.set_cons_zero, List.set_cons_succ]) | (refine wpOrd_look (v := ?_) (by rfl) ?_ (by assumption) (fun _ _ _ h => h) ?_; rotate_left; (· (intro wS hSw; (try dsimp only at hSw); go_simp; (first | done | with_reducible rfl))); simp only [Act.put, List.setIfInBounds_toArray, List.set_cons_zero, List.set_cons_succ]))
            refine wpOrd_nil ?_
            clear hS
            go_wp2
            go_ret
            rw [HQ.out]
            exact Lib.hid (RunI.ok HRES.out (HK4.out.trans (HK5.out.mono fun b hb => .inl (.inl hb))) (HE5.out.less (fun b hb => .inl (.inl hb)) HH.out.er.b.gf))
      · clear hek1
        obtain ⟨n0, rfl⟩ := List.length_eq_one_iff.1 (HNL.out.2.trans (HOW.out.2.2.1 rfl).1)
        have hpa := (HOW.out.2.2.1 rfl).2
        obtain ⟨g, cap, rfl, hc0⟩ := HO3.out.cell (i := 0) (x := n0) rfl
        simp only [List.length_cons, List.length_nil, Nat.zero_add] at *
        rw [← HNM.out] at hpa
        obtain ⟨i, hi, hil⟩ := placeI_lt (show ¬ placeA c.p nm < 0 by omega)
        have hi : placeA c.p nm = (i : Nat) := hi
        rw [← HC3.out.er.b.gza] at hil
        obtain ⟨x0, hx0⟩ : ∃ x, c.gz[i]? = some x := ⟨_, List.getElem?_eq_getElem hil⟩
        obtain ⟨l, hl⟩ : ∃ l, s2.arrs[i]? = some l := ⟨_, List.getElem?_eq_getElem (by rw [HC3.out.er.b.len]; exact hil)⟩
        obtain ⟨hrl, hll⟩ := HC3.out.er.b.arr i x0 l hx0 hl
        obtain ⟨ga, na⟩ := x0
        have hll : l.length = na := hll
        have hrl : Row w3 ga 3 (l.map I) := hrl
        have hla : arrAt c.p s2 nm = l := by
          unfold arrAt arrayI
          rw [hi, Int.toNat_natCast, List.getD_eq_getElem?_getD, hl]; rfl
        have hres : exprM c.p c.most m d k.vars e s = if n0 < 0 ∨ (na : Int) ≤ n0 then .stop 3 0 s2 else .ok (l.getD n0.toNat 0) s2 := by
          rw [HEQ.out]
          show exprT c.p m d k.vars e [n0] s2 = _
          unfold exprT
          rw [if_neg (by have := HEK.out; omega), if_neg (by have := HEK.out; omega), if_neg (by have := HEK.out; omega), if_neg (by have := HEK.out; omega), if_pos HEK.out.symm, ← HNM.out, hla, hll]
          rfl
        have HRS := Lib.hid hres
        have HC0 := Lib.hid hc0
        have HPL := Lib.hid (fun (X : World) (hX : w3.grownBy X none) => place189_any c F X d s2 cb mb k.value nm i ga na n0 (HC3.out.er.quiet hX) (HC3.out.row.kept hX (by simp)) hi hx0)
        have hcell : ¬ (n0 < 0 ∨ (na : Int) ≤ n0) → w3.cell? ⟨ga, n0.toNat, none⟩ = some (I (l.getD n0.toNat 0)) := fun h => by
          have hlt : n0.toNat < l.length := by omega
          rw [hrl.cell, List.getElem?_map, List.getElem?_eq_getElem hlt, List.getD_eq_getElem?_getD, List.getElem?_eq_getElem hlt]; rfl
        obtain ⟨y, hy⟩ : ∃ y, y = l.getD n0.toNat 0 := ⟨_, rfl⟩
        rw [← hy] at hcell HRS
        have HCL := Lib.hid hcell
        clear hc0 hpa hi hil hx0 hl hrl hll hla hres hcell hy
        by_cases hb : n0 < 0 ∨ (na : Int) ≤ n0
        · have hP : ∀ X, w3.grownBy X none → _ := fun X hX => by have := HPL.out X hX; rw [if_pos hb] at this; exact this
          have HPL2 := Lib.hid hP
          have HRS2 := Lib.hid (HRS.out.trans (if_pos hb))
          clear hb hP HPL HCL HRS
          go_upto_region 17 with (fail)
          refine wp_region_ordW (by kernel_rfl) (fun X => X.cell? ⟨W.heap.size, 3, none⟩ = some (S nm) ∧ X.cell? ⟨g, 0, none⟩ = some (I n0)) [(0, 0), (0, 1), (0, 2), (0, 3), (0, 4), (0, 5), (1, 6), (0, 7), (0, 8), (0, 9)] (by kernel_rfl) ?hS7 ?_
          case hS7 => intro wd hh; exact ⟨row_at HX3.out hh 3, (cell_heap hh _).trans HC0.out⟩
          intro wd hh hgd hS
          have HGD := Lib.hid hgd
          clear hh hgd d0 d1 d2 d3 r0 r1
          simp only [pickOps, List.map_cons, List.map_nil, List.getElem?_cons_zero, List.getElem?_cons_succ, Option.getD_some]
          repeat (first | (refine wpOrd_pass (by rfl) (by assumption) (fun _ _ _ h => h) ?_; simp only [Act.put, List.setIfInBounds_toArray, List.set_cons_zero, List.set_cons_succ]) | (refine wpOrd_look (v := ?_) (by rfl) ?_ (by assumption) (fun _ _ _ h => h) ?_; rotate_left; (· (intro wS hSw; (try dsimp only at hSw); go_simp; (first | done | with_reducible rfl))); simp only [Act.put, List.setIfInBounds_toArray, List.set_cons_zero, List.set_cons_succ]))
          refine wpOrd_turn ?_
          go_wp2_with (first
            | (go_at_call 189; refine (HPL2.out _ HGD.out).mono ?_; rintro e' w4 ⟨rfl, hb4⟩; have HB4 := Lib.hid hb4; clear hb4 hS))
          have hg4 := below_grown HB4.out none
          refine ⟨rfl, ?_⟩
          show Hid (Q (.panicked (stopV 3 0)) w4)
          rw [HQ.out]
          exact Lib.hid (RunI.stop HRS2.out ((HK3'.out.trans (HC3.out.er.kf HGD.out fun r e => by cases e)).trans ((HC3.out.er.quiet HGD.out).kf hg4 fun r e => by cases e)) ((HC3.out.er.quiet HGD.out).quiet hg4))
        · have hP : ∀ X, w3.grownBy X none → _ := fun X hX => by have := HPL.out X hX; rw [if_neg hb] at this; exact this
          have HPL2 := Lib.hid hP
          have HRS2 := Lib.hid (HRS.out.trans (if_neg hb))
          have HCL2 := Lib.hid (HCL.out hb)
          clear hb hP HPL HCL HRS
          obtain ⟨na0, hna0⟩ : ∃ n, n = n0.toNat := ⟨_, rfl⟩
          rw [← hna0] at HPL2 HCL2
          clear hna0
          go_upto_region 17 with (fail)
          refine wp_region_ordW (by kernel_rfl) (fun X => X.cell? ⟨W.heap.size, 3, none⟩ = some (S nm) ∧ X.cell? ⟨g, 0, none⟩ = some (I n0) ∧ X.cell? ⟨ga, na0, none⟩ = some (I y)) [(0, 0), (0, 1), (0, 2), (0, 3), (0, 4), (0, 5), (1, 6), (0, 7), (0, 8), (0, 9)] (by kernel_rfl) ?hS8 ?_
          case hS8 => intro wd hh; exact ⟨row_at HX3.out hh 3, (cell_heap hh _).trans HC0.out, (cell_heap hh _).trans HCL2.out⟩
          intro wd hh hgd hS
          have HGD := Lib.hid hgd
          have HXD := Lib.hid (HX3.out.kept hgd (by simp))
          have HCD := Lib.hid (gcell HC0.out hgd (by simp))
          have HCE := Lib.hid (gcell HCL2.out hgd (by simp))
          clear hh hgd d0 d1 d2 d3 r0 r1
          simp only [pickOps, List.map_cons, List.map_nil, List.getElem?_cons_zero, List.getElem?_cons_succ, Option.getD_some]
          repeat (first | (refine wpOrd_pass (by rfl) (by assumption) (fun _ _ _ h => h) ?_; simp only [Act.put, List.setIfInBounds_toArray, List.set_cons_zero, List.set_cons_succ]) | (refine wpOrd_look (v := ?_) (by rfl) ?_ (by assumption) (fun _ _ _ h => h) ?_; rotate_left; (· (intro wS hSw; (try dsimp only at hSw); go_simp; (first | done | with_reducible rfl))); simp only [Act.put, List.setIfInBounds_toArray, List.set_cons_zero, List.set_cons_succ]))
          refine wpOrd_turn ?_
          go_wp2_with (first
            | (go_at_call 189; refine (HPL2.out _ HGD.out).mono ?_; rintro e' w4 ⟨rfl, hb4⟩; have HB4 := Lib.hid hb4; clear hb4 hS))
          refine QN_keep ⟨(HXD.out.ext HB4.out).cell 3, gcell HCD.out (below_grown HB4.out none) (by simp), gcell HCE.out (below_grown HB4.out none) (by simp)⟩ fun hS => ?_
          repeat (first | (refine wpOrd_pass (by rfl) (by assumption) (fun _ _ _ h => h) ?_; simp only [Act.put, List.setIfInBounds_toArray, List.set_cons_zero, List.set_cons_succ]) | (refine wpOrd_look (v := ?_) (by rfl) ?_ (by assumption) (fun _ _ _ h => h) ?_; rotate_left; (· (intro wS hSw; (try dsimp only at hSw); go_simp; (first | done | with_reducible rfl))); simp only [Act.put, List.setIfInBounds_toArray, List.set_cons_zero, List.set_cons_succ]))
          refine wpOrd_nil ?_
          clear hS
          go_wp2
          go_ret
          rw [HQ.out]
          have hg4 := below_grown HB4.out none
          exact Lib.hid (RunI.ok HRS2.out ((HK3'.out.trans (HC3.out.er.kf HGD.out fun r e => by cases e)).trans ((HC3.out.er.quiet HGD.out).kf hg4 fun r e => by cases e)) ((HC3.out.er.quiet HGD.out).quiet hg4))
      · clear hek1
        obtain ⟨n, s4, hrd⟩ := readM_ok s2
        have hce := read_any c F w3 d s2 HC3.out.er
        rw [hrd, ← HRB.out] at hce
        have HCE := Lib.hid hce
        have HRD := Lib.hid hrd
        clear hrd hce
        go_wp2_with (first
          | (go_at_call 234; refine HCE.out.mono ?_; rintro e' w4 ⟨hk4, rfl, he4⟩; have HK4 := Lib.hid hk4; have HE4 := Lib.hid he4; clear hk4 he4))
        go_ret
        rw [HQ.out]
        refine Lib.hid (RunI.ok (by rw [HEQ.out]; show exprT c.p m d k.vars e ns s2 = _; unfold exprT; rw [if_neg (by have := HEK.out; omega), if_neg (by have := HEK.out; omega), if_neg (by have := HEK.out; omega), if_neg (by have := HEK.out; omega), if_neg (by have := HEK.out; omega), if_pos HEK.out.symm]; exact HRD.out) (HK3'.out.trans HK4.out) HE4.out)
end Go.Proofs.YtjgbkdbkachciaaGreatDoor
