import Derived.Test.YtjgbkdbkachciaaGreatDoorP4
namespace Go.Proofs.YtjgbkdbkachciaaGreatDoor
open Go.RowKit Go.Shelf
attribute [local go_sem] Oper.semAt_some

set_option maxRecDepth 100000 in
set_option maxHeartbeats 4000000 in
theorem named_step {k : Nat} (ih : EOk k) (pb tb : Nat) (nm : Str) (ts us : List Tok) (x : LE) (w : World) (h : PS w pb tb ts) (he : Ended ts) (hx : nF (k + 1) nm ts = some (x, us)) :
    Calls Tryz.prog 266 #[.pointer (some ⟨pb, 0, none⟩), S nm] w (fun e w' => ERet w pb tb x us e w' ∧ Ended us) := by
  cases ts with
  | nil => rw [nF] at hx; cases hx
  | cons t r =>
    have hpl := h.lt
    have htl := h.tlt
    obtain ⟨w1, hw1⟩ : ∃ w1, w1 = w.alloc (.cells eZ 31) := ⟨_, rfl⟩
    have hb1 : Below w.heap.size w w1 := by rw [hw1]; exact below_a1 _ _
    have hz1 : w1.heap.size = w.heap.size + 1 := by rw [hw1]; simp
    have hwe : w.alloc (.cells eZ 31) = w1 := hw1.symm
    have h1 := h.ext hb1
    have HW1 := Lib.hid hw1
    have HB1 := Lib.hid hb1
    have HP1 := Lib.hid (PG.start h1 (Below.refl _ w1))
    rw [nF] at hx
    cases hpar : tokIs t [40]
    case true =>
      rw [hpar] at hx
      simp only [if_true] at hx
      obtain ⟨hrne, hre⟩ := he.tail (tokIs_kind hpar)
      cases ha : agF k r with
      | none => rw [ha] at hx; cases hx
      | some p =>
        obtain ⟨l, us1⟩ := p
        rw [ha] at hx
        simp only at hx
        by_cases hl : l.length ≤ 1000
        · rw [if_pos hl] at hx
          simp only [Option.some.injEq, Prod.mk.injEq] at hx
          obtain ⟨rfl, rfl⟩ := hx
          have HTK := Lib.hid (fun W (hh : PS W pb tb (t :: r)) => take_yes pb tb t r [40] W hh hpar hrne)
          have HAG := Lib.hid (fun W (hh : PS W pb tb r) => ih.a pb tb r us1 l W hh hre hl ha)
          clear he h hrne hre hpar ha hb1 hw1 h1 hl
          go_enter Tryz.func266, Tryz.ntmps266
          go_wp2_with (first
            | (go_at_call 74; refine (HTK.out w1 HP1.out.2).mono ?_; rintro e w3 ⟨rfl, hp3⟩; have HP3 := Lib.hid (HP1.out.trans hp3); clear hp3)
            | (go_at_call 227; refine (HAG.out w3 HP3.out.2).mono ?_; rintro e w4 ⟨⟨av, rfl, ha, hp4⟩, hen⟩; have hsz := HP3.out.1.size; have HA := Lib.hid (ha.mono (base' := w.heap.size + 1) (by omega)); obtain ⟨aa, ac, rfl⟩ := ha.slice; have HP4 := Lib.hid (HP3.out.trans hp4); have HK4 := Lib.hid ((HP3.out.trans hp4).zero HW1.out hpl); have HEN := Lib.hid hen; clear hp4 hen ha)
            | (refine store_first 31 (.tmp 4) (.tmp 12) rfl ?_; refine wpList_store_row rfl 31 (.tmp 4) (.tmp 12) rfl w.heap.size _ rfl rfl 31 eZ HK4.out (by kernel_rfl) (by rfl) (by simp [Value.oneCell']) ?_))
          refine bodyPost_ret (results_cell_row rfl _ _ w.heap.size 31 _ (0, 0) _ rfl (setRow_heap _ _ _ _ _ _ HK4.out) Tryz.underlying31 rfl (by kernel_rfl)) rfl ?_
          exact ⟨eret (x := .mk 5 0 0 nm l) (HP4.out.pre HB1.out) HK4.out HA.out htl hpl, HEN.out⟩
        · rw [if_neg hl] at hx; cases hx
    rw [hpar] at hx
    simp only [Bool.false_eq_true, if_false] at hx
    have HNO := Lib.hid (take_no pb tb t r [40] w1 h1 hpar)
    cases hbr : tokIs t [91]
    · rw [hbr] at hx
      simp only [Bool.false_eq_true, if_false, Option.some.injEq, Prod.mk.injEq] at hx
      obtain ⟨rfl, rfl⟩ := hx
      have HBR := Lib.hid (fun W (hh : PS W pb tb (t :: r)) => take_no pb tb t r [91] W hh hbr)
      have HEN := Lib.hid he
      clear h he hpar hbr hb1 hw1 h1
      go_enter Tryz.func266, Tryz.ntmps266
      go_upto_region 3 with (first
        | (go_at_call 74; refine HNO.out.mono ?_; rintro e w2 ⟨rfl, hb2⟩; have HP2 := Lib.hid (HP1.out.below hb2); clear hb2))
      go_wp2_with (first
        | (go_at_call 74; refine (HBR.out w2 HP2.out.2).mono ?_; rintro e w3 ⟨rfl, hb3⟩; have HP3 := Lib.hid (HP2.out.below hb3); have HK3 := Lib.hid ((HP2.out.below hb3).zero HW1.out hpl); clear hb3)
        | (refine store_first 31 (.tmp 4) (.tmp 26) rfl ?_; refine wpList_store_row rfl 31 (.tmp 4) (.tmp 26) rfl w.heap.size _ rfl rfl 31 eZ HK3.out (by kernel_rfl) (by rfl) (by simp [Value.oneCell']) ?_))
      refine bodyPost_ret (results_cell_row rfl _ _ w.heap.size 31 _ (0, 0) _ rfl (setRow_heap _ _ _ _ _ _ HK3.out) Tryz.underlying31 rfl (by kernel_rfl)) rfl ?_
      exact ⟨eret (x := .mk 2 0 0 nm []) (HP3.out.pre HB1.out) HK3.out (EArgs.nil rfl) htl hpl, HEN.out⟩
    · rw [hbr] at hx
      simp only [if_true] at hx
      obtain ⟨hrne, hre⟩ := he.tail (tokIs_kind hbr)
      cases hc : cF k 1 r with
      | none => rw [hc] at hx; cases hx
      | some p =>
        obtain ⟨e, us1⟩ := p
        rw [hc] at hx
        simp only [] at hx
        obtain ⟨r', hw, hx2⟩ := Option.map_eq_some_iff.1 hx
        clear hx
        simp only [Prod.mk.injEq] at hx2
        obtain ⟨rfl, rfl⟩ := hx2
        have HTK := Lib.hid (fun W (hh : PS W pb tb (t :: r)) => take_yes pb tb t r [91] W hh hbr hrne)
        have HEX := Lib.hid (fun W (hh : PS W pb tb r) => expr_of ih pb tb r us1 e W hh hre hc)
        have HWA := Lib.hid (fun W sb (hh : PS W pb tb us1) (hs : Row W sb 9 ([[93]].map S)) (hen : Ended us1) => want_yes pb tb sb 1 1 [[93]] us1 r' W hh hs rfl hw (hen.want hw).1 (by simp))
        have HWE := Lib.hid (fun (hen : Ended us1) => (hen.want hw).2)
        clear he h hrne hre hpar hbr hw hc hb1 hw1 h1
        go_enter Tryz.func266, Tryz.ntmps266
        go_upto_region 3 with (first
          | (go_at_call 74; refine HNO.out.mono ?_; rintro e w2 ⟨rfl, hb2⟩; have HP2 := Lib.hid (HP1.out.below hb2); clear hb2))
        go_upto_region 5 with (first
          | (go_at_call 74; refine (HTK.out w2 HP2.out.2).mono ?_; rintro e w3 ⟨rfl, hp3⟩; have HP3 := Lib.hid (HP2.out.trans hp3); clear hp3)
          | (go_at_call 226; refine (HEX.out w3 HP3.out.2).mono ?_; rintro e w4 ⟨⟨av, rfl, ha, hp4⟩, hen⟩; have hsz := HP3.out.1.size; have HA := Lib.hid (ha.mono (base' := w.heap.size + 1) (by omega)); obtain ⟨aa, ac, rfl⟩ := ha.slice; have HP4 := Lib.hid (HP3.out.trans hp4); have HEN := Lib.hid hen; clear hp4 hen ha))
        obtain ⟨w5, hw5⟩ : ∃ w5, w5 = w4.alloc (.cells #[.int .i64 e.kind, .int .i64 e.op, .int .i64 e.n, .string ⟨e.name.toArray⟩, .slice aa e.args.length ac] 31) := ⟨_, rfl⟩
        have hr5 : Row w5 w4.heap.size 31 (eRow e (.slice aa e.args.length ac)) := by rw [hw5]; exact heap_new _ _
        have hp5 : PG w1 pb tb us1 w5 := by rw [hw5]; exact HP4.out.below (below_a1 _ _)
        have ha5 : EArgs (w.heap.size + 1) w5 (.slice aa e.args.length ac) e := by rw [hw5]; exact HA.out.alloc
        have hz5 : w4.heap.size < w5.heap.size := by rw [hw5]; simp
        rw [← hw5]
        have HR5 := Lib.hid hr5
        have HP5 := Lib.hid hp5
        have HA5 := Lib.hid ha5
        have hbne : w4.heap.size ≠ pb := by have := HP4.out.1.size; omega
        clear hw5 hr5 hp5 ha5
        go_upto_region 6 with (first
          | (go_at_call 72; refine (HWA.out _ w5.heap.size (HP5.out.2.ext (below_a1 _ _)) (heap_new _ _) HEN.out).mono ?_; rintro e' w6 ⟨⟨v6, rfl⟩, hp6⟩; have HP6 := Lib.hid ((HP5.out.below (below_a1 _ _)).trans hp6); have HA6 := Lib.hid (HA5.out.alloc.pg hp6 (by omega)); have hr6 := hp6.row (heap_old _ _ HR5.out) hbne; have HK6 := Lib.hid (((HP5.out.below (below_a1 _ _)).trans hp6).zero HW1.out hpl); have HR6 := Lib.hid hr6; have hz6 := hp6.1.size; rw [World.size_alloc] at hz6; clear hp6 hr6))
        have c0 := HR6.out.cell 0
        have c1 := HR6.out.cell 1
        have c2 := HR6.out.cell 2
        have c3 := HR6.out.cell 3
        have c4 := HR6.out.cell 4
        simp only [eRow, List.getElem?_cons_succ, List.getElem?_cons_zero] at c0 c1 c2 c3 c4
        have HK7 := Lib.hid (show (w6.alloc (.cells #[I e.kind, I e.op, I e.n, S e.name, .slice aa e.args.length ac] 31)).heap[w.heap.size]? = some (.cells eZ 31 (0, 0)) from heap_old _ _ HK6.out)
        go_wp2_with (first
          | (refine store_first 31 (.tmp 4) (.tmp 24) rfl ?_; refine wpList_store_row rfl 31 (.tmp 4) (.tmp 24) rfl w.heap.size _ rfl rfl 31 eZ HK7.out (by kernel_rfl) (by rfl) (by simp [Value.oneCell']) ?_))
        obtain ⟨w7, hw7⟩ : ∃ w7, w7 = w6.alloc (.cells #[I e.kind, I e.op, I e.n, S e.name, .slice aa e.args.length ac] 31) := ⟨_, rfl⟩
        have hk7 : w7.heap[w.heap.size]? = some (.cells eZ 31 (0, 0)) := by rw [hw7]; exact HK7.out
        have hr7 : Row w7 w6.heap.size 31 (eRow e (.slice aa e.args.length ac)) := by rw [hw7]; exact heap_new _ _
        have hpg : PG w pb tb r' w7 := by rw [hw7]; exact (HP6.out.below (below_a1 _ _)).pre HB1.out
        have hae : EArgs (w.heap.size + 1) w7 (.slice aa e.args.length ac) e := by rw [hw7]; exact HA6.out.alloc
        have hz4 := HP4.out.1.size
        have hav : EArgs (w.heap.size + 1) w7 (.slice (some ⟨w6.heap.size, 0, none⟩) 1 1) (.mk 6 0 0 nm [e]) := EArgs.one (x := e) rfl (by omega) hr7 hae
        rw [← hw7]
        clear hw7 HK7
        refine bodyPost_ret (results_cell_row rfl _ _ w.heap.size 31 _ (0, 0) _ rfl (setRow_heap _ _ _ _ _ _ hk7) Tryz.underlying31 rfl (by kernel_rfl)) rfl ?_
        exact ⟨eret hpg hk7 hav htl hpl, HWE.out HEN.out⟩
end Go.Proofs.YtjgbkdbkachciaaGreatDoor

namespace Go.Proofs.YtjgbkdbkachciaaGreatDoor
open Go.RowKit Go.Shelf
attribute [local go_sem] Oper.semAt_some

set_option maxRecDepth 100000 in
set_option maxHeartbeats 4000000 in
theorem climb_step {k : Nat} (ih : ∀ j, j ≤ k → EOk j) (pb tb : Nat) (lv : Int) (ts us : List Tok) (x : LE) (w : World) (h : PS w pb tb ts) (he : Ended ts) (hx : cF (k + 1) lv ts = some (x, us)) :
    Calls Tryz.prog 245 #[.pointer (some ⟨pb, 0, none⟩), I lv] w (fun e w' => ERet w pb tb x us e w' ∧ Ended us) := by
  obtain ⟨t', r', rfl⟩ := he.cons
  have hpl := h.lt
  have htl := h.tlt
  obtain ⟨w1, hw1⟩ : ∃ w1, w1 = w.alloc (.cells eZ 31) := ⟨_, rfl⟩
  have hb1 : Below w.heap.size w w1 := by rw [hw1]; exact below_a1 _ _
  have hz1 : w1.heap.size = w.heap.size + 1 := by rw [hw1]; simp
  have hwe : w.alloc (.cells eZ 31) = w1 := hw1.symm
  have h1 := h.ext hb1
  have HW1 := Lib.hid hw1
  have HB1 := Lib.hid hb1
  rw [cF] at hx
  cases ht : tF k (t' :: r') with
  | none => rw [ht] at hx; cases hx
  | some p =>
    obtain ⟨e0, us0⟩ := p
    rw [ht] at hx
    simp only [] at hx
    have HLF := Lib.hid hx
    have HTT := Lib.hid ((ih k (Nat.le_refl _)).t pb tb (t' :: r') us0 e0 w1 h1 he ht)
    have HIH := Lib.hid ih
    clear h he hx ht h1 hb1 hw1 ih
    go_enter Tryz.func245, Tryz.ntmps245
    go_upto_region 2 with (first
      | (go_at_call 257; refine HTT.out.mono ?_; rintro e w2 ⟨⟨av, rfl, ha, hp2⟩, hen⟩; obtain ⟨aa, ac, rfl⟩ := ha.slice; have HA := Lib.hid ha; have HP2 := Lib.hid hp2; have HEN := Lib.hid hen; clear ha hp2 hen))
    obtain ⟨t0, r0, rfl⟩ := HEN.out.cons
    obtain ⟨bb, hbb⟩ : ∃ bb, bb = w2.heap.size := ⟨_, rfl⟩
    have hsz2 := HP2.out.1.size
    obtain ⟨w3, hw3⟩ : ∃ w3, w3 = w2.alloc (.cells #[.int .i64 e0.kind, .int .i64 e0.op, .int .i64 e0.n, .string ⟨e0.name.toArray⟩, .slice aa e0.args.length ac] 31) := ⟨_, rfl⟩
    have hr3 : Row w3 bb 31 (eRow e0 (.slice aa e0.args.length ac)) := by rw [hw3, hbb]; exact heap_new _ _
    have hp3 : PG w1 pb tb (t0 :: r0) w3 := by rw [hw3]; exact HP2.out.below (below_a1 _ _)
    have hx3 : EX (fun b => w.heap.size + 1 ≤ b ∧ b ≠ bb) w3 (.slice aa e0.args.length ac) e0 := by
      have h1 : EX (w1.heap.size ≤ ·) w2 (.slice aa e0.args.length ac) e0 := HA.out
      rw [hw3]
      exact (h1.size.weak (fun b hb => ⟨by have := hb.1; omega, by have := hb.2; omega⟩)).alloc
    have hbp : pb < bb := by omega
    have hbw : w.heap.size < bb := by omega
    rw [← hw3, ← hbb]
    have HR3 := Lib.hid hr3
    have HP3 := Lib.hid hp3
    have HX3 := Lib.hid hx3
    clear hw3 hr3 hp3 hx3 hbb HA
    go_wp2_with (first
      | (go_at_call 258; refine (binary_yes pb tb lv t0 r0 w3 HP3.out.2).mono ?_; rintro e' w4 ⟨rfl, hb4⟩; have HP4 := Lib.hid (HP3.out.below hb4); have HR4 := Lib.hid (HR3.out.ext hb4); have HX4 := Lib.hid (HX3.out.grown (below_grown hb4 none) (fun r e => by cases e)); clear hb4))
    go_loopg [6] k (fun gh v wr => ∃ (e : LE) (av : Value) (t : Tok) (r : List Tok), v = I (binAt lv t 16 1) ∧ gh ≤ k ∧ Hid (PG w1 pb tb (t :: r) wr ∧ Row wr bb 31 (eRow e av) ∧ EX (fun b => w.heap.size + 1 ≤ b ∧ b ≠ bb) wr av e ∧ Ended (t :: r) ∧ lF gh lv e (t :: r) = some (x, us)))
    case atStart => exact ⟨e0, _, t0, r0, rfl, Nat.le_refl _, Lib.hid ⟨HP4.out, HR4.out, HX4.out, HEN.out, HLF.out⟩⟩
    case round =>
      obtain ⟨e, av, t, r, rfl, hgk, HH⟩ := hrel
      obtain ⟨wo, rfl⟩ : ∃ wo, wo = wr := ⟨_, rfl⟩
      obtain ⟨hp, hrw, hxx, hen, hlf⟩ := HH.out
      obtain ⟨ea, ec, rfl⟩ := hxx.slice
      obtain ⟨g1, rfl⟩ : ∃ g1, gk = g1 + 1 := by
        cases gk with
        | zero => rw [lF] at hlf; cases hlf
        | succ g => exact ⟨g, rfl⟩
      rw [lF] at hlf
      obtain ⟨op, hop⟩ : ∃ op, op = binAt lv t 16 1 := ⟨_, rfl⟩
      rw [← hop] at hlf ⊢
      have hz0 := hp.1.size
      have HP := Lib.hid hp
      have HRW := Lib.hid hrw
      have HXX := Lib.hid hxx
      have HEN2 := Lib.hid hen
      by_cases h0 : op = 0
      · rw [if_pos h0] at hlf
        simp only [Option.some.injEq, Prod.mk.injEq] at hlf
        obtain ⟨rfl, rfl⟩ := hlf
        have hne : (op != 0) = false := by rw [h0]; rfl
        have c0 := hrw.cell 0
        have c1 := hrw.cell 1
        have c2 := hrw.cell 2
        have c3 := hrw.cell 3
        have c4 := hrw.cell 4
        simp only [eRow, List.getElem?_cons_succ, List.getElem?_cons_zero] at c0 c1 c2 c3 c4
        have HK := Lib.hid (hp.zero HW1.out hpl)
        clear hp hrw hxx hen hop h0 HH
        go_wp2_with (first
          | (refine store_first 31 (.tmp 4) (.tmp 36) rfl ?_; refine wpList_store_row rfl 31 (.tmp 4) (.tmp 36) rfl w.heap.size _ rfl rfl 31 eZ HK.out (by kernel_rfl) (by rfl) (by simp [Value.oneCell']) ?_))
        refine bodyPost_ret (results_cell_row rfl _ _ w.heap.size 31 _ (0, 0) _ rfl (setRow_heap _ _ _ _ _ _ HK.out) Tryz.underlying31 rfl (by kernel_rfl)) rfl ?_
        exact ⟨eret (HP.out.pre HB1.out) HK.out (HXX.out.weak fun b hb => hb.1) htl hpl, HEN2.out⟩
      · rw [if_neg h0] at hlf
        cases hc : cF g1 (levelI op + 1) r with
        | none => rw [hc] at hlf; cases hlf
        | some p =>
          obtain ⟨f, r2⟩ := p
          rw [hc] at hlf
          simp only [] at hlf
          obtain ⟨hrne, hre⟩ := hen.tail (binAt_kind 16 1 (by rw [← hop]; exact h0))
          have hne : (op != 0) = true := by rw [bne_iff_ne]; exact h0
          obtain ⟨o, c, k1, k2, k3, k4⟩ := hp.2
          have c0 := cell_of_block k2 0
          have f0 : wo.frozen? ⟨pb, 0, none⟩ = false := Row.frozen (cs := [.slice (some ⟨tb, o, none⟩) (t :: r).length c]) k2 0
          simp only [List.getElem?_toArray, List.getElem?_cons_zero, List.length_cons] at c0
          have hrp : 0 < r.length := List.length_pos_iff.2 hrne
          have hc1 : r.length + 1 ≤ c := k1
          have hcz : ((r.length : Int) + 1) ≤ (c : Int) := by omega
          have hc2 : ¬ c = 1 := by omega
          have hpo : pb < wo.heap.size := by omega
          have hto : tb < wo.heap.size := by omega
          obtain ⟨L, hL⟩ : ∃ L, L = levelI op := ⟨_, rfl⟩
          have hLb : 0 ≤ L ∧ L ≤ 8 := by
            rw [hL]
            unfold levelI
            repeat' split
            all_goals omega
          obtain ⟨hL0, hL8⟩ := hLb
          have hlev : ∀ W, Calls Tryz.prog 144 #[I op] W fun e w' => e = .returned (I L) ∧ Below W.heap.size W w' := fun W => by rw [hL]; exact level_any op W
          rw [← hL] at hc
          have HLV := Lib.hid hlev
          have HCL := Lib.hid (fun W (hh : PS W pb tb r) => (HIH.out g1 (by omega)).c pb tb (L + 1) r r2 f W hh hre hc)
          have HLF2 := Lib.hid hlf
          have HOP := Lib.hid hop
          have K2 := Lib.hid k2
          have K3 := Lib.hid k3
          have K4 := Lib.hid k4
          have hgk2 : g1 ≤ k := by omega
          have hg1 : g1 < g1 + 1 := by omega
          clear hp hrw hxx hen hop h0 HH hlf hc hrne hre hlev hL k1 k2 k3 k4 hgk
          go_upto_region 6 with (fail)
          obtain ⟨w5, hw5⟩ : ∃ w5, w5 = wo.setCell ⟨pb, 0, none⟩ (.slice (some ⟨tb, o + 4, none⟩) r.length (c - 1)) := ⟨_, rfl⟩
          have hpg : PG wo pb tb r w5 := by rw [hw5]; exact PG.drop (Below.refl _ wo) hpo (by simpa using hc1) K2.out K3.out K4.out
          have hg5 : wo.grownBy w5 (some pb) := hpg.1
          rw [← hw5]
          have HP5 := Lib.hid (HP.out.trans hpg)
          have HR5 := Lib.hid (HRW.out.kept hg5 (by simp; omega))
          have HX5 := Lib.hid (HXX.out.grown hg5 (fun r e => by cases e; omega))
          clear hw5 hpg hg5 c0 f0
          go_upto_region 7 with (first
            | (go_at_call 144; refine (HLV.out w5).mono ?_; rintro e' w6 ⟨rfl, hb6⟩; have HP6 := Lib.hid (HP5.out.below hb6); have HR6 := Lib.hid (HR5.out.ext hb6); have HX6 := Lib.hid (HX5.out.grown (below_grown hb6 none) (fun r e => by cases e)); clear hb6)
            | (go_at_call 245; refine (HCL.out w6 HP6.out.2).mono ?_; rintro e' w7 ⟨⟨fv, rfl, ha7, hp7⟩, hen7⟩; have hz6 := HP6.out.1.size; have hz7 := hp7.1.size; have hl6 := HR6.out.lt; have HR7 := Lib.hid (hp7.row HR6.out (by omega)); have HX7 := Lib.hid (HX6.out.grown hp7.1 (fun r e => by cases e; omega)); obtain ⟨fa, fc, rfl⟩ := ha7.slice; have hf7 : EX (fun b => w.heap.size + 1 ≤ b ∧ b ≠ bb) w7 (.slice fa f.args.length fc) f := EX.weak (B := (w6.heap.size ≤ ·)) ha7 (fun b hb => ⟨by omega, by omega⟩); have HF7 := Lib.hid hf7; have HP7 := Lib.hid (HP6.out.trans hp7); have HE7 := Lib.hid hen7; clear hp7 hen7 ha7 hf7))
          obtain ⟨w8, hw8⟩ : ∃ w8, w8 = w7.alloc (.cells #[.int .i64 f.kind, .int .i64 f.op, .int .i64 f.n, .string ⟨f.name.toArray⟩, .slice fa f.args.length fc] 31) := ⟨_, rfl⟩
          obtain ⟨bf, hbf⟩ : ∃ bf, bf = w7.heap.size := ⟨_, rfl⟩
          have hr8 : Row w8 bf 31 (eRow f (.slice fa f.args.length fc)) := by rw [hw8, hbf]; exact heap_new _ _
          have hb8 : Below w7.heap.size w7 w8 := by rw [hw8]; exact below_a1 _ _
          rw [← hw8, ← hbf]
          have HP8 := Lib.hid (HP7.out.below hb8)
          have hrb8 := HR7.out.ext hb8
          have HRB8 := Lib.hid hrb8
          have HX8 := Lib.hid (HX7.out.grown (below_grown hb8 none) (fun r e => by cases e))
          have HF8 := Lib.hid (HF7.out.grown (below_grown hb8 none) (fun r e => by cases e))
          have hzz8 := HP8.out.1.size
          have c0 := hrb8.cell 0
          have c1 := hrb8.cell 1
          have c2 := hrb8.cell 2
          have c3 := hrb8.cell 3
          have c4 := hrb8.cell 4
          have d0 := hr8.cell 0
          have d1 := hr8.cell 1
          have d2 := hr8.cell 2
          have d3 := hr8.cell 3
          have d4 := hr8.cell 4
          simp only [eRow, List.getElem?_cons_succ, List.getElem?_cons_zero] at c0 c1 c2 c3 c4 d0 d1 d2 d3 d4
          have hlb := hrb8.lt
          have HK9 := Lib.hid (show (w8.alloc (.cells #[I e.kind, I e.op, I e.n, S e.name, .slice ea e.args.length ec, I f.kind, I f.op, I f.n, S f.name, .slice fa f.args.length fc] 31)).heap[bb]? = some (.cells #[I e.kind, I e.op, I e.n, S e.name, .slice ea e.args.length ec] 31 (0, 0)) from heap_old _ _ HRB8.out)
          clear hw8 hb8 hbf hrb8 hr8
          go_upto_region 4 with (first
            | (refine store_first 31 (.tmp 5) (.tmp 35) rfl ?_; refine wpList_store_row rfl 31 (.tmp 5) (.tmp 35) rfl bb _ rfl rfl 31 #[I e.kind, I e.op, I e.n, S e.name, .slice ea e.args.length ec] HK9.out (by kernel_rfl) (by rfl) (by simp [Value.oneCell']) ?_))
          obtain ⟨w9, hw9⟩ : ∃ w9, w9 = w8.alloc (.cells #[I e.kind, I e.op, I e.n, S e.name, .slice ea e.args.length ec, I f.kind, I f.op, I f.n, S f.name, .slice fa f.args.length fc] 31) := ⟨_, rfl⟩
          have hr9 : Row w9 w8.heap.size 31 (eRow e (.slice ea e.args.length ec) ++ eRow f (.slice fa f.args.length fc)) := by rw [hw9]; exact heap_new _ _
          have hk9 : w9.heap[bb]? = some (.cells #[I e.kind, I e.op, I e.n, S e.name, .slice ea e.args.length ec] 31 (0, 0)) := by rw [hw9]; exact HK9.out
          have hp9 : PG w1 pb tb r2 w9 := by rw [hw9]; exact HP8.out.below (below_a1 _ _)
          have hx9 : EX (fun b => w.heap.size + 1 ≤ b ∧ b ≠ bb) w9 (.slice (some ⟨w8.heap.size, 0, none⟩) 2 2) (.mk 4 op 0 [] [e, f]) := by
            refine EX.two (x := e) (y := f) rfl ⟨by omega, by omega⟩ hr9 ?_ ?_
            · rw [hw9]; exact HX8.out.alloc
            · rw [hw9]; exact HF8.out.alloc
          rw [← hw9]
          obtain ⟨w10, hw10⟩ : ∃ w10, w10 = w9.setRow bb #[.int .i64 4, I op, .int .i64 0, .string ⟨#[]⟩, .slice (some ⟨w8.heap.size, 0, none⟩) 2 2] := ⟨_, rfl⟩
          have hg10 : w9.grownBy w10 (some bb) := by rw [hw10]; exact setRow_grown
          have hr10 : Row w10 bb 31 (eRow (.mk 4 op 0 [] [e, f]) (.slice (some ⟨w8.heap.size, 0, none⟩) 2 2)) := by rw [hw10]; exact setRow_heap _ _ _ _ _ _ hk9
          have hp10 : PG w1 pb tb r2 w10 := hp9.new (by omega) hg10 (by omega) (by omega)
          have hx10 := hx9.grown hg10 (fun r e => by cases e; exact fun h => h.2 rfl)
          rw [← hw10]
          obtain ⟨t2, r2', rfl⟩ := HE7.out.cons
          have HP10 := Lib.hid hp10
          have HR10 := Lib.hid hr10
          have HX10 := Lib.hid hx10
          clear hw9 hr9 hk9 hp9 hx9 hw10 hg10 hr10 hp10 hx10 c0 c1 c2 c3 c4 d0 d1 d2 d3 d4 HK9
          go_wp2_with (first
            | (go_at_call 258; refine (binary_yes pb tb lv t2 r2' w10 HP10.out.2).mono ?_; rintro e' w11 ⟨rfl, hb11⟩; have HP11 := Lib.hid (HP10.out.below hb11); have HR11 := Lib.hid (HR10.out.ext hb11); have HX11 := Lib.hid (HX10.out.grown (below_grown hb11 none) (fun r e => by cases e)); clear hb11))
          go_roundg g1
          case measure => exact hg1
          case rel => exact ⟨.mk 4 op 0 [] [e, f], _, t2, r2', rfl, hgk2, Lib.hid ⟨HP11.out, HR11.out, HX11.out, HE7.out, HLF2.out⟩⟩

theorem eOk_all : ∀ k j, j ≤ k → EOk j
  | 0, j, hj => by
    obtain rfl : j = 0 := by omega
    refine ⟨fun pb tb ts us x w h he hx => ?_, fun pb tb nm ts us x w h he hx => ?_, fun pb tb ts us l w h he hl hx => ?_, fun pb tb lv ts us x w h he hx => ?_⟩
    · rw [tF] at hx; cases hx
    · rw [nF] at hx; cases hx
    · rw [agF] at hx; cases hx
    · rw [cF] at hx; cases hx
  | k + 1, j, hj => by
    by_cases h : j ≤ k
    · exact eOk_all k j h
    · obtain rfl : j = k + 1 := by omega
      exact ⟨fun pb tb ts us x w h he hx => tight_step (eOk_all k k (Nat.le_refl _)) pb tb ts us x w h he hx,
        fun pb tb nm ts us x w h he hx => named_step (eOk_all k k (Nat.le_refl _)) pb tb nm ts us x w h he hx,
        fun pb tb ts us l w h he hl hx => args_step k (eOk_all k) pb tb ts us l w h he hl hx,
        fun pb tb lv ts us x w h he hx => climb_step (eOk_all k) pb tb lv ts us x w h he hx⟩
theorem eOk (k : Nat) : EOk k := eOk_all k k (Nat.le_refl _)
end Go.Proofs.YtjgbkdbkachciaaGreatDoor
