import Derived.Test.YtjgbkdbkachciaaGreatDoorY4
import Derived.Test.YtjgbkdbkachciaaGreatDoorB0
namespace Go.Proofs.YtjgbkdbkachciaaGreatDoor
open Go.RowKit Go.Shelf
attribute [local go_sem] Oper.semAt_some

set_option maxRecDepth 100000 in
set_option maxHeartbeats 32000000 in
theorem stmt_any (c : RunC) (R : Nat) (m : Mach) (hE : ExprC c R m.expr) (hB : BlockC c R m.stmt) (hL : LoopC c R m.loop) (hu : m.Up) : StmtC c (R + 1) (stmtM c.p c.most m) := by
  intro F W d s k cb mb x av tv ev h hav htv hev hy hR
  suffices hsuf : Calls Tryz.prog 133 #[.pointer (some ⟨cb, 0, none⟩), sV x av tv ev] W (fun en w' => Hid (RunH c F cb mb W d (stmtM c.p c.most m d k x s) en w')) from hsuf.mono fun _ _ h => h.out
  obtain ⟨Q, hQ⟩ : ∃ Q, Q = RunH c F cb mb W d (stmtM c.p c.most m d k x s) := ⟨_, rfl⟩
  have HQ := Lib.hid hQ
  rw [← hQ]
  obtain ⟨a0, c0, rfl⟩ := hav.slice
  obtain ⟨t0, tc, rfl⟩ := htv.slice
  obtain ⟨e0, ec, rfl⟩ := hev.slice
  obtain ⟨sk, hsk⟩ : ∃ k, k = x.kind := ⟨_, rfl⟩
  obtain ⟨nm, hnm⟩ : ∃ k, k = x.name := ⟨_, rfl⟩
  obtain ⟨al, hal⟩ : ∃ n, n = (LE.mk 0 0 0 [] x.args).args.length := ⟨_, rfl⟩
  obtain ⟨tl, htl⟩ : ∃ n, n = x.thn.length := ⟨_, rfl⟩
  obtain ⟨el, hel⟩ : ∃ n, n = x.els.length := ⟨_, rfl⟩
  obtain ⟨rb, hrb⟩ : ∃ r, r = c.rb := ⟨_, rfl⟩
  have HLC := Lib.hid (fun (F : Nat → Prop) (W : World) (d : Nat) (s : ESt) (k : CSt) (cb mb : Nat) av tv ev => hL F W d s k cb mb x av tv ev)
  rw [sV, ← hsk, ← hnm, ← hal, ← htl, ← hel]
  rw [← hal] at hav
  rw [← htl] at htv
  rw [← hel] at hev
  have HSK := Lib.hid hsk
  have HNM := Lib.hid hnm
  have HAL := Lib.hid hal
  have HTL := Lib.hid htl
  have HEL := Lib.hid hel
  have HRB := Lib.hid hrb
  have HAV := Lib.hid hav
  have HTV := Lib.hid htv
  have HEV := Lib.hid hev
  have HY := Lib.hid hy
  have HR := Lib.hid hR
  have HH := Lib.hid h
  have HB := Lib.hid hB
  have HE := Lib.hid hE
  have HU := Lib.hid hu
  obtain ⟨w1, hw1⟩ : ∃ w1, w1 = W.alloc (.cells #[I sk, S nm, .slice a0 al c0, .slice t0 tl tc, .slice e0 el ec] 54) := ⟨_, rfl⟩
  have hwe := hw1.symm
  have hx1 : Row w1 W.heap.size 54 [I sk, S nm, .slice a0 al c0, .slice t0 tl tc, .slice e0 el ec] := by rw [hw1]; exact heap_new _ _
  have hg1 : W.grownBy w1 none := by rw [hw1]; exact alloc_grown _ _ _
  have hs1 : ER c (fun b => F b ∨ b = W.heap.size) w1 d s := h.er.add hg1 (fun r e => by cases e) (fun b hb => ⟨by omega, by rw [hb]; exact hx1.lt⟩)
  have hk1 : KF F W w1 := h.er.kf hg1 (fun r e => by cases e)
  have hrw := hk1.row h.row h.cF
  have c10 := hrw.cell 0
  simp only [List.getElem?_cons_zero] at c10
  rw [← hrb] at c10
  have hcb : cb < W.heap.size := h.er.b.lt cb h.cF
  have hmb : mb < W.heap.size := h.er.b.lt mb h.mF
  have HX1 := Lib.hid hx1
  have HS1 := Lib.hid hs1
  have HK1 := Lib.hid hk1
  clear h hQ hsk hnm hal htl hel hrb hav htv hev hy hR hB hE hL hu hw1 hx1 hg1 hs1 hk1 hrw
  by_cases hst : c.most ≤ (s.steps : Int)
  · have HC1 := Lib.hid (step_no c _ w1 d s HS1.out hst)
    rw [← HRB.out] at HC1
    have HST := Lib.hid hst
    clear hst
    go_enter Tryz.func133, Tryz.ntmps133
    go_upto_region 2 with (first
      | (go_at_call 186; refine HC1.out.mono ?_; rintro e' w2 ⟨rfl, he2, hk2⟩; have HE2 := Lib.hid he2; have HK2 := Lib.hid hk2; clear he2 hk2))
    refine ⟨rfl, ?_⟩
    show Hid (Q (.panicked (stopV 0 0)) w2)
    rw [HQ.out]
    exact Lib.hid (RunH.stop (by unfold stmtM; rw [if_pos HST.out]) ((HK1.out.trans (HK2.out.mono fun b hb => .inl hb)).mF cb mb) (HE2.out.less (fun b hb => .inl hb) HH.out.er.b.gf))
  · have HC1 := Lib.hid (step_yes c _ w1 d s HS1.out hst)
    rw [← HRB.out] at HC1
    have htl := left_tick hst
    have HLT := Lib.hid htl
    have HEQ := Lib.hid (stmtM_eq c.p c.most m d k x s hst)
    clear hst htl
    go_enter Tryz.func133, Tryz.ntmps133
    go_upto_region 2 with (first
      | (go_at_call 186; refine HC1.out.mono ?_; rintro e' w2 ⟨rfl, he2, hk2⟩; have HE2 := Lib.hid he2; have HK2 := Lib.hid hk2; clear he2 hk2))
    have hx2 := HK2.out.row HX1.out (.inr rfl)
    have c20 := hx2.cell 0
    have c21 := hx2.cell 1
    have c22 := hx2.cell 2
    have c23 := hx2.cell 3
    have c24 := hx2.cell 4
    simp only [List.getElem?_cons_succ, List.getElem?_cons_zero] at c20 c21 c22 c23 c24
    have hk2 : KF F W w2 := HK1.out.trans (HK2.out.mono fun b hb => .inl hb)
    have hcs : CSat c (fun b => F b ∨ b = W.heap.size) w2 d k (tick s) cb mb :=
      ⟨HE2.out, .inl HH.out.cF, .inl HH.out.mF, HH.out.cG, HH.out.mG, HH.out.ne, hk2.row HH.out.row HH.out.cF, HH.out.vars.on (hk2.block mb HH.out.mF)⟩
    have hcs0 : CSat c F w2 d k (tick s) cb mb := HH.out.on hk2 (HE2.out.less (fun b hb => .inl hb) HH.out.er.b.gf)
    have hkg : ∀ b, c.G b → w2.heap[b]? = W.heap[b]? := fun b hb => hk2.block b (HH.out.er.b.gf b hb)
    have HX2 := Lib.hid hx2
    have HK2' := Lib.hid hk2
    have HCS := Lib.hid hcs
    have HCS0 := Lib.hid hcs0
    have HKG := Lib.hid hkg
    clear hx2 hk2 hcs hcs0 hkg c10
    by_cases h4 : sk = 4
    · subst h4
      have hlc := HLC.out _ w2 d (tick s) k cb mb _ _ _ HCS0.out (HAV.out.on HKG.out) (HTV.out.on HKG.out) (HEV.out.on HKG.out) HY.out HSK.out.symm (by have := HR.out; have := HLT.out; omega)
      rw [sV, ← HSK.out, ← HNM.out] at hlc
      have heq : stmtM c.p c.most m d k x s = m.loop d k x (tick s) := by rw [HEQ.out, if_pos HSK.out.symm]
      obtain ⟨r, hr⟩ : ∃ r, r = m.loop d k x (tick s) := ⟨_, rfl⟩
      rw [← hr] at hlc heq
      have HLO := Lib.hid hlc
      have HEQ2 := Lib.hid heq
      clear hlc heq hr
      cases r with
      | stop a b s2 =>
        go_wp2_with (first
          | (go_at_call 187; refine HLO.out.mono ?_; rintro e' w4 ⟨hk4, rfl, d', he4⟩; have HK4 := Lib.hid hk4; have HE4 := Lib.hid he4; clear hk4 he4))
        refine ⟨rfl, ?_⟩
        show Hid (Q (.panicked (stopV a b)) w4)
        rw [HQ.out]
        exact Lib.hid (RunH.stop HEQ2.out ((HK2'.out.mF cb mb).trans HK4.out) HE4.out)
      | ok q s2 =>
        go_wp2_with (first
          | (go_at_call 187; refine HLO.out.mono ?_; rintro e' w4 ⟨hk4, rfl, he4⟩; have HK4 := Lib.hid hk4; have HE4 := Lib.hid he4; clear hk4 he4))
        go_ret
        rw [HQ.out]
        exact Lib.hid (RunH.ok HEQ2.out ((HK2'.out.mF cb mb).trans HK4.out) HE4.out)
    by_cases h5 : sk = 5
    · subst h5
      go_wp2
      go_ret
      rw [HQ.out]
      exact Lib.hid (RunH.ok (q := (1, k)) (by rw [HEQ.out, if_neg (by have := HSK.out; omega), if_pos HSK.out.symm]) (HK2'.out.mF cb mb) HCS0.out)
    by_cases h6 : sk = 6
    · subst h6
      go_wp2
      go_ret
      rw [HQ.out]
      exact Lib.hid (RunH.ok (q := (2, k)) (by rw [HEQ.out, if_neg (by have := HSK.out; omega), if_neg (by have := HSK.out; omega), if_pos HSK.out.symm]) (HK2'.out.mF cb mb) HCS0.out)
    have hax := HAV.out.on HKG.out
    obtain ⟨dd, hax⟩ := hax
    have HC2 := Lib.hid (args_any c R m.expr HE.out (fun _ _ _ _ _ _ h => HU.out.expr h) _ w2 d (tick s) k cb mb x.args _ HCS.out (⟨dd, hax⟩ : AX c.G w2 (.slice a0 al c0) x.args) HY.out.own.2.2 (by have := HR.out; have := HLT.out; omega))
    have heq : stmtM c.p c.most m d k x s = (argsM (m.expr d k.vars) x.args (tick s)).bind (stmtT c.p m d k x) := by
      rw [HEQ.out, if_neg (by rw [← HSK.out]; exact h4), if_neg (by rw [← HSK.out]; exact h5), if_neg (by rw [← HSK.out]; exact h6)]
    obtain ⟨r, hr⟩ : ∃ r, r = argsM (m.expr d k.vars) x.args (tick s) := ⟨_, rfl⟩
    rw [← hr] at HC2 heq
    have HEQ2 := Lib.hid heq
    have HRE := Lib.hid hr
    clear hax heq hr
    cases r with
    | stop a b s2 =>
      go_upto_region 10 with (first
        | (go_at_call 188; refine HC2.out.mono ?_; rintro e' w3 ⟨hk3, rfl, d', he3⟩; have HK3 := Lib.hid hk3; have HE3 := Lib.hid he3; clear hk3 he3))
      refine ⟨rfl, ?_⟩
      show Hid (Q (.panicked (stopV a b)) w3)
      rw [HQ.out]
      exact Lib.hid (RunH.stop HEQ2.out ((HK2'.out.trans (HK3.out.mono fun b hb => .inl hb)).mF cb mb) (HE3.out.less (fun b hb => .inl hb) HH.out.er.b.gf))
    | ok ns s2 =>
      go_upto_region 10 with (first
        | (go_at_call 188; refine HC2.out.mono ?_; rintro e' w3 ⟨hk3, ov, rfl, ho3, he3⟩; have HK3 := Lib.hid hk3; have HE3 := Lib.hid he3; have HO3 := Lib.hid ho3; clear hk3 he3 ho3))
      have hx3 := HK3.out.row HX2.out (.inr rfl)
      have hk3 : KF F W w3 := HK2'.out.trans (HK3.out.mono fun b hb => .inl hb)
      have hnl := argsM_up (fun h => HU.out.expr h) _ _ _ _ HRE.out.symm
      have hcs3 : CSat c F w3 d k s2 cb mb := HH.out.on hk3 (HE3.out.less (fun b hb => .inl (.inl hb)) HH.out.er.b.gf)
      have HNL := Lib.hid hnl
      have HX3 := Lib.hid hx3
      have HK3' := Lib.hid hk3
      have HC3 := Lib.hid hcs3
      have d0 := hx3.cell 0
      have d1 := hx3.cell 1
      have d3 := hx3.cell 3
      have d4 := hx3.cell 4
      have r0 := hcs3.row.cell 0
      have r1 := hcs3.row.cell 1
      have kr2 := hcs3.row.frozen 2
      simp only [List.getElem?_cons_succ, List.getElem?_cons_zero] at d0 d1 d3 d4 r0 r1
      rw [← HRB.out] at r0
      clear hx3 hk3 hnl hcs3 c20 c21 c22 c23 c24
      have hT : stmtM c.p c.most m d k x s = stmtT c.p m d k x ns s2 := HEQ2.out
      unfold stmtT at hT
      rw [← HSK.out, ← HNM.out] at hT
      have HT := Lib.hid hT
      clear hT
      by_cases h1 : sk = 1
      · subst h1
        obtain ⟨n0, rfl⟩ := List.length_eq_one_iff.1 (HNL.out.2.trans (HY.out.own.1 (by have := HSK.out; omega)))
        obtain ⟨g, cap, rfl, hc0⟩ := HO3.out.cell (i := 0) (x := n0) rfl
        simp only [List.length_cons, List.length_nil, Nat.zero_add] at *
        have HC0 := Lib.hid hc0
        have HT2 := Lib.hid (HT.out.trans (if_pos trivial))
        clear hc0
        go_upto_region 12 with (fail)
        refine wp_region_ordW (by kernel_rfl) (fun X => X.cell? ⟨cb, 1, none⟩ = some (.map (some mb)) ∧ X.cell? ⟨W.heap.size, 1, none⟩ = some (S nm) ∧ X.cell? ⟨g, 0, none⟩ = some (I n0)) [(0, 0), (0, 1), (0, 2), (0, 3), (0, 4), (0, 5), (0, 6), (0, 7), (0, 8), (2, 9)] (by kernel_rfl) ?hS1 ?_
        case hS1 => intro wd hh; exact ⟨row_at HC3.out.row hh 1, row_at HX3.out hh 1, (cell_heap hh _).trans HC0.out⟩
        intro wd hh hgd hS
        have hcd := HC3.out.quiet hgd
        obtain ⟨w4, hrun, hv4, hg4, hsz⟩ := run_put hcd.vars nm n0
        have hc4 : CSat c F w4 d { k with vars := upd k.vars nm n0 } s2 cb mb := ⟨hcd.er.wrote hg4 hcd.mF hcd.mG, hcd.cF, hcd.mF, hcd.cG, hcd.mG, hcd.ne, hcd.row.kept hg4 (by have := hcd.ne; simp; omega), hv4⟩
        have hk4 : KF (Go.Proofs.YtjgbkdbkachciaaGreatDoor.mF F cb mb) W w4 := ((HK3'.out.trans (HC3.out.er.kf hgd fun r e => by cases e)).mF cb mb).trans (KF.grown hg4 (fun b hb => hcd.er.b.lt b hb.1) (fun r e hm => by cases e; exact hm.2.2 rfl))
        have HC4 := Lib.hid hc4
        have HK4 := Lib.hid hk4
        clear hh hgd hcd hv4 hg4 hsz hc4 hk4 d0 d1 d3 d4 r0 r1 kr2
        simp only [pickOps, List.map_cons, List.map_nil, List.getElem?_cons_zero, List.getElem?_cons_succ, Option.getD_some]
        repeat (first | (refine wpOrd_pass (by rfl) (by assumption) (fun _ _ _ h => h) ?_; simp only [Act.put, List.setIfInBounds_toArray, List.set_cons_zero, List.set_cons_succ]) | (refine wpOrd_look (v := ?_) (by rfl) ?_ (by assumption) (fun _ _ _ h => h) ?_; rotate_left; (· (intro wS hSw; (try dsimp only at hSw); go_simp; (first | done | with_reducible rfl))); simp only [Act.put, List.setIfInBounds_toArray, List.set_cons_zero, List.set_cons_succ]))
        refine wpOrd_last ?_
        go_wp2
        refine QN_normal ?_
        refine wpOrd_nil ?_
        clear hS hrun
        go_wp2
        go_ret
        rw [HQ.out]
        exact Lib.hid (RunH.ok (q := (0, _)) HT2.out HK4.out HC4.out)
      by_cases h2 : sk = 2
      · subst h2
        obtain ⟨hal2, hpa⟩ := HY.out.own.2.1 HSK.out.symm
        obtain ⟨n0, n1, rfl⟩ := len2 (HNL.out.2.trans hal2)
        obtain ⟨g, cap, rfl, hc0⟩ := HO3.out.cell (i := 0) (x := n0) rfl
        have hc1 := HO3.out.cell' (i := 1) (x := n1) rfl
        simp only [List.length_cons, List.length_nil, Nat.zero_add, Nat.reduceAdd] at *
        have hT2 := HT.out.trans ((if_neg (by omega)).trans (if_pos trivial))
        simp only [hd, hd2, List.getD_cons_zero, List.getD_cons_succ] at hT2
        rw [← HNM.out] at hpa
        obtain ⟨i, hi, hil⟩ := placeI_lt (show ¬ placeA c.p nm < 0 by omega)
        have hi : placeA c.p nm = (i : Nat) := hi
        rw [← HC3.out.er.b.gza] at hil
        obtain ⟨x0, hx0⟩ : ∃ x, c.gz[i]? = some x := ⟨_, List.getElem?_eq_getElem hil⟩
        obtain ⟨l, hl⟩ : ∃ l, s2.arrs[i]? = some l := ⟨_, List.getElem?_eq_getElem (by rw [HC3.out.er.b.len]; exact hil)⟩
        obtain ⟨hrl, hll⟩ := HC3.out.er.b.arr i x0 l hx0 hl
        obtain ⟨ga, na⟩ := x0
        have hll : l.length = na := hll
        have hrl : Row w3 ga 3 (l.map I) := hrl
        have hla : arrAt c.p s2 nm = l := by
          unfold arrAt arrayI
          rw [hi, Int.toNat_natCast, List.getD_eq_getElem?_getD, hl]; rfl
        have hai : arrayI c.p nm = i := by unfold arrayI; rw [hi, Int.toNat_natCast]
        rw [hla, hll, hai] at hT2
        have HPL := Lib.hid (fun (X : World) (hX : w3.grownBy X none) => place189_any c F X d s2 cb mb k.value nm i ga na n0 (HC3.out.er.quiet hX) (HC3.out.row.kept hX (by simp)) hi hx0)
        have HC0 := Lib.hid hc0
        have HC1' := Lib.hid hc1
        have HGX := Lib.hid hx0
        have HGL := Lib.hid hl
        have HRL := Lib.hid hrl
        clear hc0 hc1 hpa hi hil hx0 hl hrl hla hai hal2
        by_cases hb : n0 < 0 ∨ (na : Int) ≤ n0
        · have hP : ∀ X, w3.grownBy X none → _ := fun X hX => by have := HPL.out X hX; rw [if_pos hb] at this; exact this
          have HPL2 := Lib.hid hP
          have HT2 := Lib.hid (hT2.trans (if_pos hb))
          clear hb hP HPL hT2 hll
          go_upto_region 14 with (fail)
          refine wp_region_ordW (by kernel_rfl) (fun X => X.cell? ⟨W.heap.size, 1, none⟩ = some (S nm) ∧ X.cell? ⟨g, 0, none⟩ = some (I n0) ∧ X.cell? ⟨g, 1, none⟩ = some (I n1)) [(0, 0), (0, 1), (0, 2), (0, 3), (0, 4), (0, 5), (0, 7), (0, 8), (0, 9), (1, 6), (0, 10), (2, 11)] (by kernel_rfl) ?hS2 ?_
          case hS2 => intro wd hh; exact ⟨row_at HX3.out hh 1, (cell_heap hh _).trans HC0.out, (cell_heap hh _).trans HC1'.out⟩
          intro wd hh hgd hS
          have HGD := Lib.hid hgd
          clear hh hgd d0 d1 d3 d4 r0 r1 kr2
          simp only [pickOps, List.map_cons, List.map_nil, List.getElem?_cons_zero, List.getElem?_cons_succ, Option.getD_some]
          repeat (first | (refine wpOrd_pass (by rfl) (by assumption) (fun _ _ _ h => h) ?_; simp only [Act.put, List.setIfInBounds_toArray, List.set_cons_zero, List.set_cons_succ]) | (refine wpOrd_look (v := ?_) (by rfl) ?_ (by assumption) (fun _ _ _ h => h) ?_; rotate_left; (· (intro wS hSw; (try dsimp only at hSw); go_simp; (first | done | with_reducible rfl))); simp only [Act.put, List.setIfInBounds_toArray, List.set_cons_zero, List.set_cons_succ]))
          refine wpOrd_turn ?_
          go_wp2_with (first
            | (go_at_call 189; refine (HPL2.out _ HGD.out).mono ?_; rintro e' w4 ⟨rfl, hb4⟩; have HB4 := Lib.hid hb4; clear hb4 hS))
          have hg4 := below_grown HB4.out none
          refine ⟨rfl, ?_⟩
          show Hid (Q (.panicked (stopV 3 0)) w4)
          rw [HQ.out]
          exact Lib.hid (RunH.stop HT2.out (((HK3'.out.trans (HC3.out.er.kf HGD.out fun r e => by cases e)).trans ((HC3.out.er.quiet HGD.out).kf hg4 fun r e => by cases e)).mF cb mb) ((HC3.out.er.quiet HGD.out).quiet hg4))
        · have hP : ∀ X, w3.grownBy X none → _ := fun X hX => by have := HPL.out X hX; rw [if_neg hb] at this; exact this
          have HPL2 := Lib.hid hP
          have HT2 := Lib.hid (hT2.trans (if_neg hb))
          have hat2 : n0.toNat < na := by omega
          have hrc : w3.frozen? ⟨ga, n0.toNat, none⟩ = false := HRL.out.frozen _
          have hrv : w3.cell? ⟨ga, n0.toNat, none⟩ = some (I (l.getD n0.toNat 0)) := by
            rw [HRL.out.cell, List.getElem?_map, List.getElem?_eq_getElem (by omega), List.getD_eq_getElem?_getD, List.getElem?_eq_getElem (by omega)]; rfl
          obtain ⟨a1, ha1⟩ : ∃ n, n = n0.toNat := ⟨_, rfl⟩
          rw [← ha1] at HPL2 hrc hrv HT2
          have HFZ := Lib.hid hrc
          have HCV := Lib.hid hrv
          clear hb hP HPL hT2 hll hat2 hrc hrv ha1
          obtain ⟨y, hy⟩ : ∃ y, y = l.getD a1 0 := ⟨_, rfl⟩
          rw [← hy] at HCV
          clear hy
          go_upto_region 14 with (fail)
          refine wp_region_ordW (by kernel_rfl) (fun X => X.cell? ⟨W.heap.size, 1, none⟩ = some (S nm) ∧ X.cell? ⟨g, 0, none⟩ = some (I n0) ∧ X.cell? ⟨g, 1, none⟩ = some (I n1)) [(0, 0), (0, 1), (0, 2), (0, 3), (0, 4), (0, 5), (0, 7), (0, 8), (0, 9), (1, 6), (0, 10), (2, 11)] (by kernel_rfl) ?hS3 ?_
          case hS3 => intro wd hh; exact ⟨row_at HX3.out hh 1, (cell_heap hh _).trans HC0.out, (cell_heap hh _).trans HC1'.out⟩
          intro wd hh hgd hS
          have HGD := Lib.hid hgd
          have HXD := Lib.hid (HX3.out.kept hgd (by simp))
          have HCD := Lib.hid (gcell HC0.out hgd (by simp))
          have HCE := Lib.hid (gcell HC1'.out hgd (by simp))
          have HRLD := Lib.hid (HRL.out.kept hgd (by simp))
          have HCVD := Lib.hid (gcell HCV.out hgd (by simp))
          clear hh hgd d0 d1 d3 d4 r0 r1 kr2
          simp only [pickOps, List.map_cons, List.map_nil, List.getElem?_cons_zero, List.getElem?_cons_succ, Option.getD_some]
          repeat (first | (refine wpOrd_pass (by rfl) (by assumption) (fun _ _ _ h => h) ?_; simp only [Act.put, List.setIfInBounds_toArray, List.set_cons_zero, List.set_cons_succ]) | (refine wpOrd_look (v := ?_) (by rfl) ?_ (by assumption) (fun _ _ _ h => h) ?_; rotate_left; (· (intro wS hSw; (try dsimp only at hSw); go_simp; (first | done | with_reducible rfl))); simp only [Act.put, List.setIfInBounds_toArray, List.set_cons_zero, List.set_cons_succ]))
          refine wpOrd_turn ?_
          go_wp2_with (first
            | (go_at_call 189; refine (HPL2.out _ HGD.out).mono ?_; rintro e' w4 ⟨rfl, hb4⟩; have HB4 := Lib.hid hb4; clear hb4 hS))
          refine QN_keep ⟨(HXD.out.ext HB4.out).cell 1, gcell HCD.out (below_grown HB4.out none) (by simp), gcell HCE.out (below_grown HB4.out none) (by simp)⟩ fun hS => ?_
          repeat (first | (refine wpOrd_pass (by rfl) (by assumption) (fun _ _ _ h => h) ?_; simp only [Act.put, List.setIfInBounds_toArray, List.set_cons_zero, List.set_cons_succ]) | (refine wpOrd_look (v := ?_) (by rfl) ?_ (by assumption) (fun _ _ _ h => h) ?_; rotate_left; (· (intro wS hSw; (try dsimp only at hSw); go_simp; (first | done | with_reducible rfl))); simp only [Act.put, List.setIfInBounds_toArray, List.set_cons_zero, List.set_cons_succ]))
          have hg4 := below_grown HB4.out none
          have hrl4 := HRLD.out.ext HB4.out
          have v4 := gcell HCVD.out hg4 (by simp)
          have z4 : w4.frozen? ⟨ga, a1, none⟩ = false := hrl4.frozen a1
          have hcs4 := (HC3.out.quiet HGD.out).quiet hg4
          have hst := hcs4.er.store (at_ := a1) HGX.out HGL.out n1
          have hg5 := setCell_grown w4 ga a1 (I n1)
          have hgF : ¬ F ga := (HC3.out.er.b.gzr _ (List.mem_of_getElem? HGX.out)).2
          have hc5 : CSat c F (w4.setCell ⟨ga, a1, none⟩ (I n1)) d k { s2 with arrs := s2.arrs.set i (l.set a1 n1) } cb mb := hcs4.on (hcs4.er.kf hg5 fun r e => by cases e; exact hgF) hst
          have hk5 : KF F W (w4.setCell ⟨ga, a1, none⟩ (I n1)) := ((HK3'.out.trans (HC3.out.er.kf HGD.out fun r e => by cases e)).trans ((HC3.out.er.quiet HGD.out).kf hg4 fun r e => by cases e)).trans (hcs4.er.kf hg5 fun r e => by cases e; exact hgF)
          have HC5 := Lib.hid hc5
          have HK5 := Lib.hid hk5
          clear hg4 hrl4 hcs4 hst hg5 hgF hc5 hk5
          refine wpOrd_last ?_
          go_wp2
          refine QN_normal ?_
          refine wpOrd_nil ?_
          clear hS v4 z4
          go_wp2
          go_ret
          rw [HQ.out]
          exact Lib.hid (RunH.ok (q := (0, k)) HT2.out (HK5.out.mF cb mb) HC5.out)
      by_cases h3 : sk = 3
      · subst h3
        obtain ⟨n0, rfl⟩ := List.length_eq_one_iff.1 (HNL.out.2.trans (HY.out.own.1 (by have := HSK.out; omega)))
        obtain ⟨g, cap, rfl, hc0⟩ := HO3.out.cell (i := 0) (x := n0) rfl
        simp only [List.length_cons, List.length_nil, Nat.zero_add] at *
        have HC0 := Lib.hid hc0
        have hT2 := HT.out.trans ((if_neg (by omega)).trans ((if_neg (by omega)).trans (if_pos trivial)))
        have hkg : ∀ b, c.G b → w3.heap[b]? = W.heap[b]? := fun b hb => HK3'.out.block b (HH.out.er.b.gf b hb)
        have hfu : 2 * left c.most s2 + 1 ≤ R := by have := HR.out; have := HLT.out; have := left_up (most := c.most) HNL.out.1; omega
        have hbt := HB.out _ w3 d s2 k cb mb x.thn (.slice t0 tl tc) HC3.out (HTV.out.on hkg) HY.out.thn hfu
        have hbe := HB.out _ w3 d s2 k cb mb x.els (.slice e0 el ec) HC3.out (HEV.out.on hkg) HY.out.els hfu
        simp only [hd, List.getD_cons_zero] at hT2
        clear hc0
        by_cases hn : n0 = 0
        · rw [if_pos hn] at hT2
          obtain ⟨r, hr⟩ : ∃ r, r = blockM (m.stmt d) x.els k s2 := ⟨_, rfl⟩
          rw [← hr] at hT2 hbe
          have HT2 := Lib.hid hT2
          have HBE := Lib.hid hbe
          clear hT2 hbt hbe hkg hfu hr
          subst hn
          have c00 := HC0.out
          cases r with
          | stop a b s4 =>
            go_wp2_with (first
              | (go_at_call 92; refine HBE.out.mono ?_; rintro e' w4 ⟨hk4, rfl, d', he4⟩; have HK4 := Lib.hid hk4; have HE4 := Lib.hid he4; clear hk4 he4))
            refine ⟨rfl, ?_⟩
            show Hid (Q (.panicked (stopV a b)) w4)
            rw [HQ.out]
            exact Lib.hid (RunH.stop HT2.out ((HK3'.out.mF cb mb).trans HK4.out) HE4.out)
          | ok q s4 =>
            go_wp2_with (first
              | (go_at_call 92; refine HBE.out.mono ?_; rintro e' w4 ⟨hk4, rfl, he4⟩; have HK4 := Lib.hid hk4; have HE4 := Lib.hid he4; clear hk4 he4))
            go_ret
            rw [HQ.out]
            exact Lib.hid (RunH.ok HT2.out ((HK3'.out.mF cb mb).trans HK4.out) HE4.out)
        · rw [if_neg hn] at hT2
          obtain ⟨r, hr⟩ : ∃ r, r = blockM (m.stmt d) x.thn k s2 := ⟨_, rfl⟩
          rw [← hr] at hT2 hbt
          have HT2 := Lib.hid hT2
          have HBE := Lib.hid hbt
          clear hT2 hbt hbe hkg hfu hr
          have c00 := HC0.out
          cases r with
          | stop a b s4 =>
            go_wp2_with (first
              | (go_at_call 92; refine HBE.out.mono ?_; rintro e' w4 ⟨hk4, rfl, d', he4⟩; have HK4 := Lib.hid hk4; have HE4 := Lib.hid he4; clear hk4 he4))
            refine ⟨rfl, ?_⟩
            show Hid (Q (.panicked (stopV a b)) w4)
            rw [HQ.out]
            exact Lib.hid (RunH.stop HT2.out ((HK3'.out.mF cb mb).trans HK4.out) HE4.out)
          | ok q s4 =>
            go_wp2_with (first
              | (go_at_call 92; refine HBE.out.mono ?_; rintro e' w4 ⟨hk4, rfl, he4⟩; have HK4 := Lib.hid hk4; have HE4 := Lib.hid he4; clear hk4 he4))
            go_ret
            rw [HQ.out]
            exact Lib.hid (RunH.ok HT2.out ((HK3'.out.mF cb mb).trans HK4.out) HE4.out)
      by_cases h7 : sk = 7
      · subst h7
        obtain ⟨n0, rfl⟩ := List.length_eq_one_iff.1 (HNL.out.2.trans (HY.out.own.1 (by have := HSK.out; omega)))
        obtain ⟨g, cap, rfl, hc0⟩ := HO3.out.cell (i := 0) (x := n0) rfl
        simp only [List.length_cons, List.length_nil, Nat.zero_add] at *
        have HC0 := Lib.hid hc0
        have HT2 := Lib.hid (HT.out.trans ((if_neg (by omega)).trans ((if_neg (by omega)).trans ((if_neg (by omega)).trans (if_pos trivial)))))
        have c00 := HC0.out
        have r2 := HC3.out.row.cell 2
        simp only [List.getElem?_cons_succ, List.getElem?_cons_zero] at r2
        have hg4 := setCell_grown w3 cb 2 (I n0)
        have hc := HC3.out
        have hc4 : CSat c F (w3.setCell ⟨cb, 2, none⟩ (I n0)) d { k with value := n0 } s2 cb mb := ⟨hc.er.wrote hg4 hc.cF hc.cG, hc.cF, hc.mF, hc.cG, hc.mG, hc.ne, hc.row.set 2 (I n0), hc.vars.on (hg4.block mb (hc.er.b.lt mb hc.mF) (by have := hc.ne; simp; omega))⟩
        have hk4 : KF (Go.Proofs.YtjgbkdbkachciaaGreatDoor.mF F cb mb) W (w3.setCell ⟨cb, 2, none⟩ (I n0)) := (HK3'.out.mF cb mb).trans (KF.grown hg4 (fun b hb => hc.er.b.lt b hb.1) (fun r e hm => by cases e; exact hm.2.1 rfl))
        have HC4 := Lib.hid hc4
        have HK4 := Lib.hid hk4
        clear hc0 hg4 hc hc4 hk4
        go_wp2
        go_ret
        rw [HQ.out]
        exact Lib.hid (RunH.ok (q := (3, _)) HT2.out HK4.out HC4.out)
      by_cases h8 : sk = 8
      · subst h8
        obtain ⟨n0, rfl⟩ := List.length_eq_one_iff.1 (HNL.out.2.trans (HY.out.own.1 (by have := HSK.out; omega)))
        have hsm : s2.out.length + 1 ≤ s2.steps := by have := HNL.out.1; have := HH.out.er.small.2.1; simp only [UpR, tick] at *; omega
        have HSM := Lib.hid hsm
        obtain ⟨g, cap, rfl, hc0⟩ := HO3.out.cell (i := 0) (x := n0) rfl
        simp only [List.length_cons, List.length_nil, Nat.zero_add] at *
        have HC0 := Lib.hid hc0
        have HT2 := Lib.hid (HT.out.trans ((if_neg (by omega)).trans ((if_neg (by omega)).trans ((if_neg (by omega)).trans ((if_neg (by omega)).trans (if_pos trivial))))))
        obtain ⟨iv, ou, hrun, hin, hou, hob⟩ := HE3.out.st
        obtain ⟨oa, oc, rfl⟩ := hou.slice
        have hol : s2.out.length ≤ 1000000 := by have := HC3.out.er.small; omega
        obtain ⟨on, hon⟩ : ∃ n, n = s2.out.length := ⟨_, rfl⟩
        have hrun' := hrun
        rw [← HRB.out, ← hon] at hrun'
        rw [← hon] at hol
        have HRUN := Lib.hid hrun
        have HRUN' := Lib.hid hrun'
        have HIN := Lib.hid hin
        have HOU := Lib.hid hou
        have HOB := Lib.hid hob
        have HON := Lib.hid hon
        clear hc0 hsm hrun hrun' hin hou hob hon
        go_upto_region 23 with (fail)
        refine wp_region_ordV (by kernel_rfl) (fun X => X.cell? ⟨cb, 0, none⟩ = some (.pointer (some ⟨rb, 0, none⟩)) ∧ X.cell? ⟨rb, 8, none⟩ = some (.slice oa on oc) ∧ X.cell? ⟨g, 0, none⟩ = some (I n0)) [(0, 0), (0, 1), (0, 2), (0, 3), (0, 4), (0, 5), (0, 6), (0, 7), (0, 8), (0, 9), (0, 10), (0, 11), (0, 12), (0, 13), (0, 14), (1, 15), (1, 16), (0, 17), (0, 18), (0, 19), (2, 20)] (by kernel_rfl) ?hS8 ?_
        case hS8 => intro wd hh; exact ⟨(row_at HC3.out.row hh 0).trans (by rw [HRB.out]; rfl), row_at HRUN'.out hh 8, (cell_heap hh _).trans HC0.out⟩
        intro wd hh hgd hS
        have HGD := Lib.hid hgd
        have HCD := Lib.hid (HC3.out.quiet hgd)
        have HED := Lib.hid (HE3.out.quiet hgd)
        have HRD := Lib.hid (HRUN.out.kept hgd (by simp))
        have HRD' := Lib.hid (HRUN'.out.kept hgd (by simp))
        have HID := Lib.hid (HIN.out.grown hgd (fun r e => by cases e) fun _ _ h => h)
        have HOD := Lib.hid (HOU.out.kept hgd (fun r e => by cases e))
        have HGC := Lib.hid (gcell HC0.out hgd (by simp))
        clear hh hgd d0 d1 d3 d4 r0 r1 kr2
        simp only [pickOps, List.map_cons, List.map_nil, List.getElem?_cons_zero, List.getElem?_cons_succ, Option.getD_some]
        repeat (first | (refine wpOrd_pass (by rfl) (by assumption) (fun _ _ _ h => h) ?_; simp only [Act.put, List.setIfInBounds_toArray, List.set_cons_zero, List.set_cons_succ]) | (refine wpOrd_look (v := ?_) (by rfl) ?_ (by assumption) (fun _ _ _ h => h) ?_; rotate_left; (· (intro wS hSw; (try dsimp only at hSw); go_simp; (first | done | with_reducible rfl))); simp only [Act.put, List.setIfInBounds_toArray, List.set_cons_zero, List.set_cons_succ]))
        refine wpOrd_turn ?_
        go_wp2
        have hga := alloc_grown wd (.cells #[I n0] 3) none
        have HGA := Lib.hid hga
        refine QN_keep ⟨((HCD.out.quiet hga).row.cell 0).trans (by rw [HRB.out]; rfl), (HRD'.out.kept hga (by simp)).cell 8, gcell HGC.out hga (by simp)⟩ fun hS => ?_
        clear hga
        have hou5 := HOD.out.kept HGA.out (fun r e => by cases e)
        rw [← HON.out] at hou5
        have hcn : (wd.alloc (.cells #[I n0] 3)).cell? ⟨wd.heap.size, 0, none⟩ = some (.int .i64 n0) := by rw [cell_of_block (heap_new wd (.cells #[I n0] 3))]; rfl
        have hl6 : s2.out.length ≤ 10000000000000 := by rw [← HON.out]; omega
        have HOU5 := Lib.hid hou5
        have HCN := Lib.hid hcn
        have HL6 := Lib.hid hl6
        clear hou5 hcn hl6
        refine wpOrd_turn ?_
        go_wp2_with (first
          | (at_builtin; go_loud (refine wpList_app1 rfl _ _ rfl 0 (.slice oa on oc) s2.out rfl HOU5.out wd.heap.size n0 rfl HCN.out HL6.out (Nat.zero_le _) ?_); intro g' cap' w6 ho6 hg6 hat6 hlt6; have HO6 := Lib.hid ho6; have HG6 := Lib.hid hg6; have HAT := Lib.hid hat6; clear ho6 hg6 hat6 hS))
        have hobn : ∀ r, (Value.slice oa on oc).ownBlock = some r → ¬ ((F r ∨ r = W.heap.size) ∨ (Value.slice (some ⟨g, 0, none⟩) 1 cap).ownBlock = some r) := fun r e => (HOB.out r (by rw [← HON.out]; exact e)).1
        have hcb6 : some cb ≠ (Value.slice oa on oc).ownBlock := fun e => hobn cb e.symm (.inl (.inl HH.out.cF))
        have hg6 : some g ≠ (Value.slice oa on oc).ownBlock := fun e => hobn g e.symm (.inr rfl)
        have hou4 := HOD.out.kept HGA.out (fun r e => by cases e)
        have hrd4 := HRD.out.kept HGA.out (by simp)
        have hrb6 : some rb ≠ (Value.slice oa on oc).ownBlock := fun e => by
          have := ownsRow_notag hou4 (t := 78) (by decide) rb (by rw [← HON.out]; exact e.symm)
          rw [HRB.out] at this
          exact this _ _ hrd4
        have hr6 := (HRD'.out.kept HGA.out (by simp)).kept HG6.out hrb6
        have v8 := hr6.cell 8
        have z8 := hr6.frozen 8
        simp only [List.getElem?_cons_succ, List.getElem?_cons_zero] at v8
        refine QN_keep ⟨(((HCD.out.quiet HGA.out).row.kept HG6.out hcb6).cell 0).trans (by rw [HRB.out]; rfl), v8, gcell (gcell HGC.out HGA.out (by simp)) HG6.out hg6⟩ fun hS => ?_
        have hfin := ER.print (W5 := w6) (v' := .slice (some ⟨g', 0, none⟩) (s2.out.length + 1) cap') (n := n0) (g' := g') (HCD.out.er.quiet HGA.out) hrd4 (HID.out.grown HGA.out (fun r e => by cases e) fun _ _ h => h) (fun r e => ⟨fun hF => (HOB.out r e).1 (.inl (.inl hF)), (HOB.out r e).2⟩) hou4 (by rw [← HON.out]; exact HG6.out) (by rw [← HON.out]; exact HAT.out) rfl HO6.out HSM.out
        obtain ⟨hf1, hf2⟩ := hfin
        rw [← HRB.out] at hf1 hf2
        have hk7 : KF F W (w6.setCell ⟨rb, 8, none⟩ (.slice (some ⟨g', 0, none⟩) (s2.out.length + 1) cap')) := ((HK3'.out.trans (HC3.out.er.kf HGD.out fun r e => by cases e)).trans (HCD.out.er.kf HGA.out fun r e => by cases e)).trans hf2
        have hc7 := (HCD.out.quiet HGA.out).on hf2 hf1
        have HK7 := Lib.hid hk7
        have HC7 := Lib.hid hc7
        clear hobn hcb6 hg6 hou4 hrd4 hrb6 hr6 hf1 hf2 hk7 hc7
        repeat (first | (refine wpOrd_pass (by rfl) (by assumption) (fun _ _ _ h => h) ?_; simp only [Act.put, List.setIfInBounds_toArray, List.set_cons_zero, List.set_cons_succ]) | (refine wpOrd_look (v := ?_) (by rfl) ?_ (by assumption) (fun _ _ _ h => h) ?_; rotate_left; (· (intro wS hSw; (try dsimp only at hSw); go_simp; (first | done | with_reducible rfl))); simp only [Act.put, List.setIfInBounds_toArray, List.set_cons_zero, List.set_cons_succ]))
        refine wpOrd_last ?_
        go_wp2
        refine QN_normal ?_
        refine wpOrd_nil ?_
        clear hS v8 z8
        go_wp2
        go_ret
        rw [HQ.out]
        exact Lib.hid (RunH.ok (q := (0, k)) HT2.out (HK7.out.mF cb mb) HC7.out)
      by_cases h9 : sk = 9
      · subst h9
        obtain ⟨n0, rfl⟩ := List.length_eq_one_iff.1 (HNL.out.2.trans (HY.out.own.1 (by have := HSK.out; omega)))
        obtain ⟨g, cap, rfl, hc0⟩ := HO3.out.cell (i := 0) (x := n0) rfl
        simp only [List.length_cons, List.length_nil, Nat.zero_add] at *
        have HC0 := Lib.hid hc0
        have HT2 := Lib.hid (HT.out.trans ((if_neg (by omega)).trans ((if_neg (by omega)).trans ((if_neg (by omega)).trans ((if_neg (by omega)).trans ((if_neg (by omega)).trans (if_pos trivial)))))))
        have c00 := HC0.out
        clear hc0
        go_wp2
        refine ⟨rfl, ?_⟩
        show Hid (Q (.panicked (stopV 5 n0)) w3)
        rw [HQ.out]
        exact Lib.hid (RunH.stop HT2.out (HK3'.out.mF cb mb) HC3.out.er)
      have hT2 := HT.out
      rw [if_neg h1, if_neg h2, if_neg h3, if_neg h7, if_neg h8, if_neg h9] at hT2
      have HT2 := Lib.hid hT2
      clear hT2
      go_wp2
      go_ret
      rw [HQ.out]
      exact Lib.hid (RunH.ok (q := (0, k)) HT2.out (HK3'.out.mF cb mb) HC3.out)
end Go.Proofs.YtjgbkdbkachciaaGreatDoor
