import Derived.Test.YtjgbkdbkachciaaGreatDoorS5
namespace Go.Proofs.YtjgbkdbkachciaaGreatDoor
open Go.RowKit Go.Shelf
attribute [local go_sem] Oper.semAt_some

set_option maxRecDepth 100000 in
set_option maxHeartbeats 4000000 in
theorem named_step {k : Nat} (ih : EOk k) (pb tb : Nat) (nm : Str) (ts us : List Tok) (x : LE) (w : World) (h : PS w pb tb ts) (he : Ended ts) (hx : nF (k + 1) nm ts = some (x, us)) :
    Calls Tryz.prog 266 #[.pointer (some ⟨pb, 0, none⟩), S nm] w (fun e w' => ERet w pb tb x us e w' ∧ Ended us) := by
  cases ts with
  | nil => rw [nF] at hx; cases hx
  | cons t r =>
    have hpl := h.lt
    have htl := h.tlt
    obtain ⟨w1, hw1⟩ : ∃ w1, w1 = w.alloc (.cells eZ 31) := ⟨_, rfl⟩
    have hb1 : Below w.heap.size w w1 := by rw [hw1]; exact below_a1 _ _
    have hz1 : w1.heap.size = w.heap.size + 1 := by rw [hw1]; simp
    have hwe : w.alloc (.cells eZ 31) = w1 := hw1.symm
    have h1 := h.ext hb1
    have HW1 := Lib.hid hw1
    have HB1 := Lib.hid hb1
    have HP1 := Lib.hid (PG.start h1 (Below.refl _ w1))
    rw [nF] at hx
    cases hpar : tokIs t [40]
    case true => rw [hpar] at hx; simp at hx
    rw [hpar] at hx
    simp only [Bool.false_eq_true, if_false] at hx
    have HNO := Lib.hid (take_no pb tb t r [40] w1 h1 hpar)
    cases hbr : tokIs t [91]
    · rw [hbr] at hx
      simp only [Bool.false_eq_true, if_false, Option.some.injEq, Prod.mk.injEq] at hx
      obtain ⟨rfl, rfl⟩ := hx
      have HBR := Lib.hid (fun W (hh : PS W pb tb (t :: r)) => take_no pb tb t r [91] W hh hbr)
      have HEN := Lib.hid he
      clear h he hpar hbr hb1 hw1 h1
      go_enter Tryz.func266, Tryz.ntmps266
      go_upto_region 3 with (first
        | (go_at_call 74; refine HNO.out.mono ?_; rintro e w2 ⟨rfl, hb2⟩; have HP2 := Lib.hid (HP1.out.below hb2); clear hb2))
      go_wp2_with (first
        | (go_at_call 74; refine (HBR.out w2 HP2.out.2).mono ?_; rintro e w3 ⟨rfl, hb3⟩; have HP3 := Lib.hid (HP2.out.below hb3); have HK3 := Lib.hid ((HP2.out.below hb3).zero HW1.out hpl); clear hb3)
        | (refine store_first 31 (.tmp 4) (.tmp 26) rfl ?_; refine wpList_store_row rfl 31 (.tmp 4) (.tmp 26) rfl w.heap.size _ rfl rfl 31 eZ HK3.out (by kernel_rfl) (by rfl) (by simp [Value.oneCell']) ?_))
      refine bodyPost_ret (results_cell_row rfl _ _ w.heap.size 31 _ (0, 0) _ rfl (setRow_heap _ _ _ _ _ _ HK3.out) Tryz.underlying31 rfl (by kernel_rfl)) rfl ?_
      exact ⟨eret (x := .mk 2 0 0 nm []) (HP3.out.pre HB1.out) HK3.out (EArgs.nil rfl) htl hpl, HEN.out⟩
    · rw [hbr] at hx
      simp only [if_true] at hx
      obtain ⟨hrne, hre⟩ := he.tail (tokIs_kind hbr)
      cases hc : cF k 1 r with
      | none => rw [hc] at hx; cases hx
      | some p =>
        obtain ⟨e, us1⟩ := p
        rw [hc] at hx
        simp only [] at hx
        obtain ⟨r', hw, hx2⟩ := Option.map_eq_some_iff.1 hx
        clear hx
        simp only [Prod.mk.injEq] at hx2
        obtain ⟨rfl, rfl⟩ := hx2
        have HTK := Lib.hid (fun W (hh : PS W pb tb (t :: r)) => take_yes pb tb t r [91] W hh hbr hrne)
        have HEX := Lib.hid (fun W (hh : PS W pb tb r) => expr_of ih pb tb r us1 e W hh hre hc)
        have HWA := Lib.hid (fun W sb (hh : PS W pb tb us1) (hs : Row W sb 9 ([[93]].map S)) (hen : Ended us1) => want_yes pb tb sb 1 1 [[93]] us1 r' W hh hs rfl hw (hen.want hw).1 (by simp))
        have HWE := Lib.hid (fun (hen : Ended us1) => (hen.want hw).2)
        clear he h hrne hre hpar hbr hw hc hb1 hw1 h1
        go_enter Tryz.func266, Tryz.ntmps266
        go_upto_region 3 with (first
          | (go_at_call 74; refine HNO.out.mono ?_; rintro e w2 ⟨rfl, hb2⟩; have HP2 := Lib.hid (HP1.out.below hb2); clear hb2))
        go_upto_region 5 with (first
          | (go_at_call 74; refine (HTK.out w2 HP2.out.2).mono ?_; rintro e w3 ⟨rfl, hp3⟩; have HP3 := Lib.hid (HP2.out.trans hp3); clear hp3)
          | (go_at_call 226; refine (HEX.out w3 HP3.out.2).mono ?_; rintro e w4 ⟨⟨av, rfl, ha, hp4⟩, hen⟩; have hsz := HP3.out.1.size; have HA := Lib.hid (ha.mono (base' := w.heap.size + 1) (by omega)); obtain ⟨aa, ac, rfl⟩ := ha.slice; have HP4 := Lib.hid (HP3.out.trans hp4); have HEN := Lib.hid hen; clear hp4 hen ha))
        obtain ⟨w5, hw5⟩ : ∃ w5, w5 = w4.alloc (.cells #[.int .i64 e.kind, .int .i64 e.op, .int .i64 e.n, .string ⟨e.name.toArray⟩, .slice aa e.args.length ac] 31) := ⟨_, rfl⟩
        have hr5 : Row w5 w4.heap.size 31 (eRow e (.slice aa e.args.length ac)) := by rw [hw5]; exact heap_new _ _
        have hp5 : PG w1 pb tb us1 w5 := by rw [hw5]; exact HP4.out.below (below_a1 _ _)
        have ha5 : EArgs (w.heap.size + 1) w5 (.slice aa e.args.length ac) e := by rw [hw5]; exact HA.out.alloc
        have hz5 : w4.heap.size < w5.heap.size := by rw [hw5]; simp
        rw [← hw5]
        have HR5 := Lib.hid hr5
        have HP5 := Lib.hid hp5
        have HA5 := Lib.hid ha5
        have hbne : w4.heap.size ≠ pb := by have := HP4.out.1.size; omega
        clear hw5 hr5 hp5 ha5
        go_upto_region 6 with (first
          | (go_at_call 72; refine (HWA.out _ w5.heap.size (HP5.out.2.ext (below_a1 _ _)) (heap_new _ _) HEN.out).mono ?_; rintro e' w6 ⟨⟨v6, rfl⟩, hp6⟩; have HP6 := Lib.hid ((HP5.out.below (below_a1 _ _)).trans hp6); have HA6 := Lib.hid (HA5.out.alloc.pg hp6 (by omega)); have hr6 := hp6.row (heap_old _ _ HR5.out) hbne; have HK6 := Lib.hid (((HP5.out.below (below_a1 _ _)).trans hp6).zero HW1.out hpl); have HR6 := Lib.hid hr6; have hz6 := hp6.1.size; rw [World.size_alloc] at hz6; clear hp6 hr6))
        have c0 := HR6.out.cell 0
        have c1 := HR6.out.cell 1
        have c2 := HR6.out.cell 2
        have c3 := HR6.out.cell 3
        have c4 := HR6.out.cell 4
        simp only [eRow, List.getElem?_cons_succ, List.getElem?_cons_zero] at c0 c1 c2 c3 c4
        have HK7 := Lib.hid (show (w6.alloc (.cells #[I e.kind, I e.op, I e.n, S e.name, .slice aa e.args.length ac] 31)).heap[w.heap.size]? = some (.cells eZ 31 (0, 0)) from heap_old _ _ HK6.out)
        go_wp2_with (first
          | (refine store_first 31 (.tmp 4) (.tmp 24) rfl ?_; refine wpList_store_row rfl 31 (.tmp 4) (.tmp 24) rfl w.heap.size _ rfl rfl 31 eZ HK7.out (by kernel_rfl) (by rfl) (by simp [Value.oneCell']) ?_))
        obtain ⟨w7, hw7⟩ : ∃ w7, w7 = w6.alloc (.cells #[I e.kind, I e.op, I e.n, S e.name, .slice aa e.args.length ac] 31) := ⟨_, rfl⟩
        have hk7 : w7.heap[w.heap.size]? = some (.cells eZ 31 (0, 0)) := by rw [hw7]; exact HK7.out
        have hr7 : Row w7 w6.heap.size 31 (eRow e (.slice aa e.args.length ac)) := by rw [hw7]; exact heap_new _ _
        have hpg : PG w pb tb r' w7 := by rw [hw7]; exact (HP6.out.below (below_a1 _ _)).pre HB1.out
        have hae : EArgs (w.heap.size + 1) w7 (.slice aa e.args.length ac) e := by rw [hw7]; exact HA6.out.alloc
        have hz4 := HP4.out.1.size
        have hav : EArgs (w.heap.size + 1) w7 (.slice (some ⟨w6.heap.size, 0, none⟩) 1 1) (.mk 6 0 0 nm [e]) := EArgs.one (x := e) rfl (by omega) hr7 hae
        rw [← hw7]
        clear hw7 HK7
        refine bodyPost_ret (results_cell_row rfl _ _ w.heap.size 31 _ (0, 0) _ rfl (setRow_heap _ _ _ _ _ _ hk7) Tryz.underlying31 rfl (by kernel_rfl)) rfl ?_
        exact ⟨eret hpg hk7 hav htl hpl, HWE.out HEN.out⟩
end Go.Proofs.YtjgbkdbkachciaaGreatDoor
