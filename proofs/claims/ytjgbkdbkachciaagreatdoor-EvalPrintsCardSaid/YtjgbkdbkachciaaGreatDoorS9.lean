import Derived.Test.YtjgbkdbkachciaaGreatDoorS8
namespace Go.Proofs.YtjgbkdbkachciaaGreatDoor
open Go.RowKit Go.Shelf
attribute [local go_sem] Oper.semAt_some

abbrev sZ : Array Value := #[.int .i64 0, .string ⟨#[]⟩, .slice none 0 0, .slice none 0 0, .slice none 0 0]
abbrev wBreak : Str := [98, 114, 101, 97, 107]
abbrev wContinue : Str := [99, 111, 110, 116, 105, 110, 117, 101]
abbrev wReturn : Str := [114, 101, 116, 117, 114, 110]
abbrev wPrint : Str := [112, 114, 105, 110, 116]
/-- a simple statement: so far, what returns and what prints -/
def siF (k : Nat) : List Tok → Option (LS × List Tok)
  | [] => none
  | t :: r =>
    if tokIs t wBreak then none else if tokIs t wContinue then none
    else if tokIs t wReturn then (cF k 1 r).map fun p => (.mk 7 [] [p.1] [] [], p.2)
    else if tokIs t wPrint then (inF k r).map fun p => (.mk 8 [] [p.1] [] [], p.2)
    else none
/-- a simple statement comes back -/
def SiRet (w : World) (pb tb : Nat) (s : LS) (us : List Tok) (e : Ending) (w' : World) : Prop := ∃ av, e = .returned (.agg #[I s.kind, S s.name, av, .slice none 0 0, .slice none 0 0]) ∧ ESl w.heap.size w' av s.args ∧ PG w pb tb us w' ∧ s.thn = [] ∧ s.els = []
theorem siret {w w4 : World} {pb tb : Nat} {us : List Tok} {s : LS} {av : Value} {cs : Array Value} (hpg : PG w pb tb us w4) (_hk : w4.heap[w.heap.size]? = some (.cells cs 54 (0, 0))) (hav : ESl (w.heap.size + 1) w4 av s.args) (ht : tb < w.heap.size) (hp : pb < w.heap.size) (h1 : s.thn = []) (h2 : s.els = []) :
    SiRet w pb tb s us (.returned (.agg #[I s.kind, S s.name, av, .slice none 0 0, .slice none 0 0])) (w4.setRow w.heap.size #[I s.kind, S s.name, av, .slice none 0 0, .slice none 0 0]) :=
  ⟨av, rfl, (hav.grown setRow_grown (fun r e => by cases e; omega)).mono (by omega), hpg.new (Nat.le_refl _) setRow_grown ht hp, h1, h2⟩

set_option maxRecDepth 100000 in
set_option maxHeartbeats 4000000 in
theorem simple_yes (k pb tb : Nat) (ts us : List Tok) (s : LS) (w : World) (h : PS w pb tb ts) (he : Ended ts) (hx : siF k ts = some (s, us)) :
    Calls Tryz.prog 204 #[.pointer (some ⟨pb, 0, none⟩)] w fun e w' => SiRet w pb tb s us e w' ∧ Ended us := by
  obtain ⟨t, r, rfl⟩ := he.cons
  have hpl := h.lt
  have htl := h.tlt
  obtain ⟨w1, hw1⟩ : ∃ w1, w1 = w.alloc (.cells sZ 54) := ⟨_, rfl⟩
  have hb1 : Below w.heap.size w w1 := by rw [hw1]; exact below_a1 _ _
  have hz1 : w1.heap.size = w.heap.size + 1 := by rw [hw1]; simp
  have hwe : w.alloc (.cells sZ 54) = w1 := hw1.symm
  have h1 := h.ext hb1
  have HW1 := Lib.hid hw1
  have HB1 := Lib.hid hb1
  have HP1 := Lib.hid (PG.start h1 (Below.refl _ w1))
  rw [siF] at hx
  cases hbk : tokIs t wBreak
  case true => rw [hbk] at hx; simp at hx
  cases hct : tokIs t wContinue
  case true => rw [hbk, hct] at hx; simp at hx
  rw [hbk, hct] at hx
  simp only [Bool.false_eq_true, if_false] at hx
  have HBK := Lib.hid (take_no pb tb t r wBreak w1 h1 hbk)
  have HCT := Lib.hid (fun W (hh : PS W pb tb (t :: r)) => take_no pb tb t r wContinue W hh hct)
  cases hrt : tokIs t wReturn
  · rw [hrt] at hx
    simp only [Bool.false_eq_true, if_false] at hx
    have HRT := Lib.hid (fun W (hh : PS W pb tb (t :: r)) => take_no pb tb t r wReturn W hh hrt)
    cases hpr : tokIs t wPrint
    case false => rw [hpr] at hx; simp at hx
    rw [hpr] at hx
    simp only [if_true] at hx
    obtain ⟨⟨e, us1⟩, hin, hx2⟩ := Option.map_eq_some_iff.1 hx
    clear hx
    simp only [Prod.mk.injEq] at hx2
    obtain ⟨rfl, rfl⟩ := hx2
    obtain ⟨hrne, hre⟩ := he.tail (tokIs_kind hpr)
    have HPR := Lib.hid (fun W (hh : PS W pb tb (t :: r)) => take_yes pb tb t r wPrint W hh hpr hrne)
    have HIN := Lib.hid (fun W (hh : PS W pb tb r) => inside_yes k pb tb r us1 e W hh hre hin)
    clear h he h1 hb1 hw1 hbk hct hrt hpr hin hrne hre
    go_enter Tryz.func204, Tryz.ntmps204
    go_upto_region 3 with (first
      | (go_at_call 74; refine HBK.out.mono ?_; rintro e' w2 ⟨rfl, hb2⟩; have HP2 := Lib.hid (HP1.out.below hb2); clear hb2))
    go_upto_region 5 with (first
      | (go_at_call 74; refine (HCT.out w2 HP2.out.2).mono ?_; rintro e' w3 ⟨rfl, hb3⟩; have HP3 := Lib.hid (HP2.out.below hb3); clear hb3))
    go_upto_region 7 with (first
      | (go_at_call 74; refine (HRT.out w3 HP3.out.2).mono ?_; rintro e' w4 ⟨rfl, hb4⟩; have HP4 := Lib.hid (HP3.out.below hb4); clear hb4))
    go_wp2_with (first
      | (go_at_call 74; refine (HPR.out w4 HP4.out.2).mono ?_; rintro e' w5 ⟨rfl, hp5⟩; have HP5 := Lib.hid (HP4.out.trans hp5); clear hp5)
      | (go_at_call 202; refine (HIN.out w5 HP5.out.2).mono ?_; rintro e' w6 ⟨⟨av, rfl, ha⟩, hp6, hen⟩; have hsz := HP5.out.1.size; have HA := Lib.hid (ha.mono (base' := w.heap.size + 1) (by omega)); obtain ⟨aa, ac, rfl⟩ := ha.slice; have HP6 := Lib.hid (HP5.out.trans hp6); have HEN := Lib.hid hen; have HK6 := Lib.hid ((HP5.out.trans hp6).zero HW1.out hpl); clear hp6 hen ha)
      | (refine store_first 54 (.tmp 2) (.tmp 25) rfl ?_; refine wpList_store_row rfl 54 (.tmp 2) (.tmp 25) rfl w.heap.size _ rfl rfl 54 sZ HK6.out (by kernel_rfl) (by rfl) (by simp [Value.oneCell']) ?_))
    refine bodyPost_ret (results_cell_row rfl _ _ w.heap.size 54 _ (0, 0) _ rfl (setRow_heap _ _ _ _ _ _ HK6.out) Tryz.underlying54 rfl (by kernel_rfl)) rfl ?_
    exact ⟨siret (s := .mk 8 [] [e] [] []) (HP6.out.pre HB1.out) HK6.out HA.out htl hpl rfl rfl, HEN.out⟩
  · rw [hrt] at hx
    simp only [if_true] at hx
    obtain ⟨⟨e, us1⟩, hc, hx2⟩ := Option.map_eq_some_iff.1 hx
    clear hx
    simp only [Prod.mk.injEq] at hx2
    obtain ⟨rfl, rfl⟩ := hx2
    obtain ⟨hrne, hre⟩ := he.tail (tokIs_kind hrt)
    have HRT := Lib.hid (fun W (hh : PS W pb tb (t :: r)) => take_yes pb tb t r wReturn W hh hrt hrne)
    have HEX := Lib.hid (fun W (hh : PS W pb tb r) => expr_of (eOk k) pb tb r us1 e W hh hre hc)
    clear h he h1 hb1 hw1 hbk hct hrt hc hrne hre
    go_enter Tryz.func204, Tryz.ntmps204
    go_upto_region 3 with (first
      | (go_at_call 74; refine HBK.out.mono ?_; rintro e' w2 ⟨rfl, hb2⟩; have HP2 := Lib.hid (HP1.out.below hb2); clear hb2))
    go_upto_region 5 with (first
      | (go_at_call 74; refine (HCT.out w2 HP2.out.2).mono ?_; rintro e' w3 ⟨rfl, hb3⟩; have HP3 := Lib.hid (HP2.out.below hb3); clear hb3))
    go_wp2_with (first
      | (go_at_call 74; refine (HRT.out w3 HP3.out.2).mono ?_; rintro e' w4 ⟨rfl, hp4⟩; have HP4 := Lib.hid (HP3.out.trans hp4); clear hp4)
      | (go_at_call 226; refine (HEX.out w4 HP4.out.2).mono ?_; rintro e' w5 ⟨⟨av, rfl, ha, hp5⟩, hen⟩; have hsz := HP4.out.1.size; have HA := Lib.hid (ha.mono (base' := w.heap.size + 1) (by omega)); obtain ⟨aa, ac, rfl⟩ := ha.slice; have HP5 := Lib.hid (HP4.out.trans hp5); have HEN := Lib.hid hen; have hsz5 := (HP4.out.trans hp5).1.size; have HK5 := Lib.hid ((HP4.out.trans hp5).zero HW1.out hpl); have HK6 := Lib.hid (show (w5.alloc (.cells #[I e.kind, I e.op, I e.n, S e.name, .slice aa e.args.length ac] 31)).heap[w.heap.size]? = some (.cells sZ 54 (0, 0)) from heap_old _ _ HK5.out); clear hp5 hen ha)
      | (refine store_first 54 (.tmp 2) (.tmp 19) rfl ?_; refine wpList_store_row rfl 54 (.tmp 2) (.tmp 19) rfl w.heap.size _ rfl rfl 54 sZ HK6.out (by kernel_rfl) (by rfl) (by simp [Value.oneCell']) ?_))
    obtain ⟨w6, hw6⟩ : ∃ w6, w6 = w5.alloc (.cells #[I e.kind, I e.op, I e.n, S e.name, .slice aa e.args.length ac] 31) := ⟨_, rfl⟩
    have hk6 : w6.heap[w.heap.size]? = some (.cells sZ 54 (0, 0)) := by rw [hw6]; exact HK6.out
    have hr6 : Row w6 w5.heap.size 31 (eRow e (.slice aa e.args.length ac)) := by rw [hw6]; exact heap_new _ _
    have hpg : PG w pb tb us1 w6 := by rw [hw6]; exact (HP5.out.below (below_a1 _ _)).pre HB1.out
    have hae : EArgs (w.heap.size + 1) w6 (.slice aa e.args.length ac) e := by rw [hw6]; exact HA.out.alloc
    have hav : ESl (w.heap.size + 1) w6 (.slice (some ⟨w5.heap.size, 0, none⟩) 1 1) [e] := EArgs.one (x := e) rfl (by omega) hr6 hae
    rw [← hw6]
    clear hw6 HK6
    refine bodyPost_ret (results_cell_row rfl _ _ w.heap.size 54 _ (0, 0) _ rfl (setRow_heap _ _ _ _ _ _ hk6) Tryz.underlying54 rfl (by kernel_rfl)) rfl ?_
    exact ⟨siret (s := .mk 7 [] [e] [] []) hpg hk6 hav htl hpl rfl rfl, HEN.out⟩
end Go.Proofs.YtjgbkdbkachciaaGreatDoor
