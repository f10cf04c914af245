import Derived.Test.YtjgbkdbkachciaaGreatDoorS9
namespace Go.Proofs.YtjgbkdbkachciaaGreatDoor
open Go.RowKit Go.Shelf
attribute [local go_sem] Oper.semAt_some

abbrev wIf : Str := [105, 102]
abbrev wWhile : Str := [119, 104, 105, 108, 101]
/-- a statement: so far, a simple one -/
def stF (k : Nat) : List Tok → Option (LS × List Tok)
  | [] => none
  | t :: r => if tokIs t wIf then none else if tokIs t wWhile then none else match siF k (t :: r) with
    | none => none
    | some (s, us) => (wantF [[59]] us).map fun r' => (s, r')

set_option maxRecDepth 100000 in
set_option maxHeartbeats 4000000 in
theorem stmt_yes (k pb tb : Nat) (ts us : List Tok) (s : LS) (w : World) (h : PS w pb tb ts) (he : Ended ts) (hx : stF k ts = some (s, us)) :
    Calls Tryz.prog 176 #[.pointer (some ⟨pb, 0, none⟩)] w fun e w' => SiRet w pb tb s us e w' ∧ Ended us := by
  obtain ⟨t, r, rfl⟩ := he.cons
  have hpl := h.lt
  have htl := h.tlt
  obtain ⟨w1, hw1⟩ : ∃ w1, w1 = w.alloc (.cells sZ 54) := ⟨_, rfl⟩
  have hb1 : Below w.heap.size w w1 := by rw [hw1]; exact below_a1 _ _
  have hz1 : w1.heap.size = w.heap.size + 1 := by rw [hw1]; simp
  have hwe : w.alloc (.cells sZ 54) = w1 := hw1.symm
  have h1 := h.ext hb1
  have HW1 := Lib.hid hw1
  have HB1 := Lib.hid hb1
  have HP1 := Lib.hid (PG.start h1 (Below.refl _ w1))
  rw [stF] at hx
  cases hi : tokIs t wIf
  case true => rw [hi] at hx; simp at hx
  cases hwh : tokIs t wWhile
  case true => rw [hi, hwh] at hx; simp at hx
  rw [hi, hwh] at hx
  simp only [Bool.false_eq_true, if_false] at hx
  cases hsi : siF k (t :: r) with
  | none => rw [hsi] at hx; cases hx
  | some p =>
    obtain ⟨s', us1⟩ := p
    rw [hsi] at hx
    simp only [] at hx
    obtain ⟨r', hw, hx2⟩ := Option.map_eq_some_iff.1 hx
    clear hx
    simp only [Prod.mk.injEq] at hx2
    obtain ⟨rfl, rfl⟩ := hx2
    have HIF := Lib.hid (take_no pb tb t r wIf w1 h1 hi)
    have HWH := Lib.hid (fun W (hh : PS W pb tb (t :: r)) => take_no pb tb t r wWhile W hh hwh)
    have HSI := Lib.hid (fun W (hh : PS W pb tb (t :: r)) => simple_yes k pb tb (t :: r) us1 s' W hh he hsi)
    have HWA := Lib.hid (fun W sb (hh : PS W pb tb us1) (hs : Row W sb 9 ([[59]].map S)) (hen : Ended us1) => want_yes pb tb sb 1 1 [[59]] us1 r' W hh hs rfl hw (hen.want hw).1 (by simp))
    have HWE := Lib.hid (fun (hen : Ended us1) => (hen.want hw).2)
    clear h he h1 hb1 hw1 hi hwh hsi hw
    go_enter Tryz.func176, Tryz.ntmps176
    go_upto_region 6 with (first
      | (go_at_call 74; refine HIF.out.mono ?_; rintro e' w2 ⟨rfl, hb2⟩; have HP2 := Lib.hid (HP1.out.below hb2); clear hb2))
    go_upto_region 9 with (first
      | (go_at_call 74; refine (HWH.out w2 HP2.out.2).mono ?_; rintro e' w3 ⟨rfl, hb3⟩; have HP3 := Lib.hid (HP2.out.below hb3); clear hb3))
    have hz3 := HP3.out.1.size
    go_upto_region 10 with (first
      | (go_at_call 204; refine (HSI.out w3 HP3.out.2).mono ?_; rintro e' w4 ⟨⟨av, rfl, ha, hp4, hth, hel⟩, hen⟩; have HA := Lib.hid (ha.mono (base' := w.heap.size + 1) (by omega)); obtain ⟨aa, ac, rfl⟩ := ha.slice; have HP4 := Lib.hid (HP3.out.trans hp4); have HEN := Lib.hid hen; have HK4 := Lib.hid ((HP3.out.trans hp4).zero HW1.out hpl); have HTH := Lib.hid hth; have HEL := Lib.hid hel; clear hp4 hen ha hth hel)
      | (refine store_first 54 (.tmp 2) (.tmp 29) rfl ?_; refine wpList_store_row rfl 54 (.tmp 2) (.tmp 29) rfl w.heap.size _ rfl rfl 54 sZ HK4.out (by kernel_rfl) (by rfl) (by simp [Value.oneCell']) ?_))
    obtain ⟨w5, hw5⟩ : ∃ w5, w5 = w4.setRow w.heap.size #[I s'.kind, S s'.name, .slice aa (LE.mk 0 0 0 [] s'.args).args.length ac, .slice none 0 0, .slice none 0 0] := ⟨_, rfl⟩
    have hr5 : Row w5 w.heap.size 54 [I s'.kind, S s'.name, .slice aa (LE.mk 0 0 0 [] s'.args).args.length ac, .slice none 0 0, .slice none 0 0] := by rw [hw5]; exact setRow_heap _ _ _ _ _ _ HK4.out
    have hp5 : PG w pb tb us1 w5 := by rw [hw5]; exact (HP4.out.pre HB1.out).new (Nat.le_refl _) setRow_grown htl hpl
    have ha5 : ESl (w.heap.size + 1) w5 (.slice aa (LE.mk 0 0 0 [] s'.args).args.length ac) s'.args := by rw [hw5]; exact HA.out.grown setRow_grown (fun r e => by cases e; omega)
    rw [← hw5]
    have HR5 := Lib.hid hr5
    have HP5 := Lib.hid hp5
    have HA5 := Lib.hid ha5
    clear hw5 hr5 hp5 ha5
    go_wp2_with (first
      | (go_at_call 72; refine (HWA.out _ w5.heap.size (HP5.out.2.ext (below_a1 _ _)) (heap_new _ _) HEN.out).mono ?_; rintro e' w6 ⟨⟨v6, rfl⟩, hp6⟩; have hr6 : Row w6 w.heap.size 54 [I s'.kind, S s'.name, .slice aa (LE.mk 0 0 0 [] s'.args).args.length ac, .slice none 0 0, .slice none 0 0] := hp6.row (heap_old _ _ HR5.out) (by omega); have HR6 := Lib.hid hr6; have HA6 := Lib.hid (HA5.out.alloc.pg hp6 (by omega)); have HP6 := Lib.hid ((HP5.out.below (below_a1 _ _)).trans hp6); clear hp6 hr6))
    refine bodyPost_ret (results_cell_row rfl _ _ w.heap.size 54 _ (0, 0) _ rfl HR6.out Tryz.underlying54 rfl (by kernel_rfl)) rfl ?_
    exact ⟨⟨_, rfl, HA6.out.mono (by omega), HP6.out, HTH.out, HEL.out⟩, HWE.out HEN.out⟩
end Go.Proofs.YtjgbkdbkachciaaGreatDoor
