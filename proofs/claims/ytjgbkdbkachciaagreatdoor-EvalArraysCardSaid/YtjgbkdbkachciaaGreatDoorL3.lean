import Derived.Test.YtjgbkdbkachciaaGreatDoorT5
namespace Go.Proofs.YtjgbkdbkachciaaGreatDoor
open Go.RowKit Go.Shelf
attribute [local go_sem] Oper.semAt_some

theorem tok_f3 (a b c d : Value) (w : World) : (Instr.field 119 (.agg #[a, b, c, d]) 3).run Tryz.prog w = .ok d w := by kernel_rfl
/-- what a parse ends with -/
abbrev wrongV (line : Int) : List PanicEntry := [{ v := .iface 114 (.agg #[I line]), recovered := false }]
/-- a parse that ends -/
def Bad (w : World) (pb : Nat) (line : Int) (e : Ending) (w' : World) : Prop := e = .panicked (wrongV line) ∧ w.grownBy w' (some pb)

set_option maxRecDepth 100000 in
set_option maxHeartbeats 2000000 in
theorem fail_any (pb tb : Nat) (t : Tok) (r : List Tok) (w : World) (h : PS w pb tb (t :: r)) :
    Calls Tryz.prog 71 #[.pointer (some ⟨pb, 0, none⟩)] w (Bad w pb t.line) := by
  have HN := Lib.hid (next_yes pb tb t r w h)
  have hfd := tok_f3
  clear h
  go_enter Tryz.func71, Tryz.ntmps71
  go_wp2_with (first
    | (go_at_call 70; refine HN.out.mono ?_; rintro e w1 ⟨rfl, hb1⟩; have HB1 := Lib.hid hb1; clear hb1))
  exact ⟨rfl, rfl, below_grown HB1.out _⟩

set_option maxRecDepth 100000 in
set_option maxHeartbeats 2000000 in
theorem kind_no (pb tb : Nat) (t : Tok) (r : List Tok) (k : Int) (w : World) (h : PS w pb tb (t :: r)) (hk : (t.kind != k) = true) :
    Calls Tryz.prog 75 #[.pointer (some ⟨pb, 0, none⟩), I k] w (Bad w pb t.line) := by
  have HP := Lib.hid h
  have HN := Lib.hid (next_yes pb tb t r _ (h.ext (below_a1 w (.cells #[I 0, S [], I 0, I 0] 119))))
  clear h
  go_enter Tryz.func75, Tryz.ntmps75
  go_upto_region 3 with (first
    | (go_at_call 70; refine HN.out.mono ?_; rintro e w1 ⟨rfl, hb1⟩; have HB1 := Lib.hid ((below_a1 w _).trans (hb1.mono (by simp))); clear hb1))
  obtain ⟨w2, hw2⟩ : ∃ w2, w2 = w1.alloc (.cells #[.int .i64 t.kind, .string ⟨t.text.toArray⟩, .int .i64 t.n, .int .i64 t.line] 119) := ⟨_, rfl⟩
  have HB2 := Lib.hid (show Below w.heap.size w w2 by rw [hw2]; exact HB1.out.trans ((below_a1 w1 _).mono HB1.out.size))
  have HF := Lib.hid (fail_any pb tb t r w2 (HP.out.ext HB2.out))
  rw [← hw2]
  clear hw2
  go_wp2_with (first
    | (go_at_call 71; refine HF.out.mono ?_; rintro e w3 ⟨rfl, hg3⟩; have HG3 := Lib.hid hg3; clear hg3))
  exact ⟨rfl, rfl, (below_grown HB2.out _).trans HG3.out⟩

set_option maxRecDepth 100000 in
theorem pname_no (pb tb : Nat) (t : Tok) (r : List Tok) (w : World) (h : PS w pb tb (t :: r)) (hk : (t.kind != 1) = true) :
    Calls Tryz.prog 73 #[.pointer (some ⟨pb, 0, none⟩)] w (Bad w pb t.line) := by
  have HC := Lib.hid (kind_no pb tb t r 1 w h hk)
  clear h hk
  go_enter Tryz.func73, Tryz.ntmps73
  go_wp2_with (first
    | (go_at_call 75; refine HC.out.mono ?_; rintro e w1 ⟨rfl, hp1⟩; have HP1 := Lib.hid hp1; clear hp1))
  exact ⟨rfl, rfl, HP1.out⟩
end Go.Proofs.YtjgbkdbkachciaaGreatDoor

namespace Go.Proofs.YtjgbkdbkachciaaGreatDoor
open Go.RowKit Go.Shelf
attribute [local go_sem] Oper.semAt_some

/-- what no statement begins with -/
def noSt (t : Tok) : Bool := !tokIs t wIf && !tokIs t wWhile && !tokIs t wBreak && !tokIs t wContinue && !tokIs t wReturn && !tokIs t wPrint && !tokIs t wTrap && (t.kind != 1)
/-- where statements up to a brace end a parse: behind right ones, at what no statement begins with -/
def stsB (k : Nat) : Nat → List Tok → Option Int
  | 0, _ => none
  | _ + 1, [] => none
  | g + 1, t :: r => if tokIs t [125] then none else if noSt t then some t.line else match stF k g (t :: r) with
    | none => none
    | some (_, us) => stsB k g us

set_option maxRecDepth 100000 in
set_option maxHeartbeats 8000000 in
theorem simple_no (pb tb : Nat) (t : Tok) (r : List Tok) (w : World) (h : PS w pb tb (t :: r)) (h1 : tokIs t wBreak = false) (h2 : tokIs t wContinue = false) (h3 : tokIs t wReturn = false) (h4 : tokIs t wPrint = false) (h5 : tokIs t wTrap = false) (hk : (t.kind != 1) = true) :
    Calls Tryz.prog 204 #[.pointer (some ⟨pb, 0, none⟩)] w (Bad w pb t.line) := by
  obtain ⟨w1, hw1⟩ : ∃ w1, w1 = w.alloc (.cells sZ 54) := ⟨_, rfl⟩
  have hb1 : Below w.heap.size w w1 := by rw [hw1]; exact below_a1 _ _
  have hwe : w.alloc (.cells sZ 54) = w1 := hw1.symm
  have hh1 := h.ext hb1
  have HP1 := Lib.hid (show Below w.heap.size w w1 ∧ PS w1 pb tb (t :: r) from ⟨hb1, hh1⟩)
  have HBK := Lib.hid (take_no pb tb t r wBreak w1 hh1 h1)
  have HCT := Lib.hid (fun W (hh : PS W pb tb (t :: r)) => take_no pb tb t r wContinue W hh h2)
  have HRT := Lib.hid (fun W (hh : PS W pb tb (t :: r)) => take_no pb tb t r wReturn W hh h3)
  have HPR := Lib.hid (fun W (hh : PS W pb tb (t :: r)) => take_no pb tb t r wPrint W hh h4)
  have HTR := Lib.hid (fun W (hh : PS W pb tb (t :: r)) => take_no pb tb t r wTrap W hh h5)
  have HNM := Lib.hid (fun W (hh : PS W pb tb (t :: r)) => pname_no pb tb t r W hh hk)
  have step : ∀ (a b : World), (Below w.heap.size w a ∧ PS a pb tb (t :: r)) → Below a.heap.size a b → Below w.heap.size w b ∧ PS b pb tb (t :: r) := fun a b hp hb => ⟨hp.1.trans (hb.mono hp.1.size), hp.2.ext hb⟩
  have HST := Lib.hid step
  clear h hw1 hb1 hh1 h1 h2 h3 h4 h5 hk step
  go_enter Tryz.func204, Tryz.ntmps204
  go_upto_region 3 with (first
    | (go_at_call 74; refine HBK.out.mono ?_; rintro e' w2 ⟨rfl, hb2⟩; have HP2 := Lib.hid (HST.out _ _ HP1.out hb2); clear hb2))
  go_upto_region 5 with (first
    | (go_at_call 74; refine (HCT.out w2 HP2.out.2).mono ?_; rintro e' w3 ⟨rfl, hb3⟩; have HP3 := Lib.hid (HST.out _ _ HP2.out hb3); clear hb3))
  go_upto_region 7 with (first
    | (go_at_call 74; refine (HRT.out w3 HP3.out.2).mono ?_; rintro e' w4 ⟨rfl, hb4⟩; have HP4 := Lib.hid (HST.out _ _ HP3.out hb4); clear hb4))
  go_upto_region 9 with (first
    | (go_at_call 74; refine (HPR.out w4 HP4.out.2).mono ?_; rintro e' w5 ⟨rfl, hb5⟩; have HP5 := Lib.hid (HST.out _ _ HP4.out hb5); clear hb5))
  go_upto_region 11 with (first
    | (go_at_call 74; refine (HTR.out w5 HP5.out.2).mono ?_; rintro e' w6 ⟨rfl, hb6⟩; have HP6 := Lib.hid (HST.out _ _ HP5.out hb6); clear hb6))
  go_wp2_with (first
    | (go_at_call 73; refine (HNM.out w6 HP6.out.2).mono ?_; rintro e' w7 ⟨rfl, hg7⟩; have HG7 := Lib.hid hg7; clear hg7))
  exact ⟨rfl, rfl, (below_grown HP6.out.1 _).trans HG7.out⟩

set_option maxRecDepth 100000 in
set_option maxHeartbeats 4000000 in
theorem stmt_no (pb tb : Nat) (t : Tok) (r : List Tok) (w : World) (h : PS w pb tb (t :: r)) (hn : noSt t = true) :
    Calls Tryz.prog 176 #[.pointer (some ⟨pb, 0, none⟩)] w (Bad w pb t.line) := by
  simp only [noSt, Bool.and_eq_true, Bool.not_eq_true'] at hn
  obtain ⟨⟨⟨⟨⟨⟨⟨hi, hwh⟩, h1⟩, h2⟩, h3⟩, h4⟩, h5⟩, hk⟩ := hn
  obtain ⟨w1, hw1⟩ : ∃ w1, w1 = w.alloc (.cells sZ 54) := ⟨_, rfl⟩
  have hb1 : Below w.heap.size w w1 := by rw [hw1]; exact below_a1 _ _
  have hwe : w.alloc (.cells sZ 54) = w1 := hw1.symm
  have hh1 := h.ext hb1
  have HP1 := Lib.hid (show Below w.heap.size w w1 ∧ PS w1 pb tb (t :: r) from ⟨hb1, hh1⟩)
  have HIF := Lib.hid (take_no pb tb t r wIf w1 hh1 hi)
  have HWH := Lib.hid (fun W (hh : PS W pb tb (t :: r)) => take_no pb tb t r wWhile W hh hwh)
  have HSI := Lib.hid (fun W (hh : PS W pb tb (t :: r)) => simple_no pb tb t r W hh h1 h2 h3 h4 h5 hk)
  have step : ∀ (a b : World), (Below w.heap.size w a ∧ PS a pb tb (t :: r)) → Below a.heap.size a b → Below w.heap.size w b ∧ PS b pb tb (t :: r) := fun a b hp hb => ⟨hp.1.trans (hb.mono hp.1.size), hp.2.ext hb⟩
  have HST := Lib.hid step
  clear h hw1 hb1 hh1 h1 h2 h3 h4 h5 hk hi hwh step
  go_enter Tryz.func176, Tryz.ntmps176
  go_upto_region 6 with (first
    | (go_at_call 74; refine HIF.out.mono ?_; rintro e' w2 ⟨rfl, hb2⟩; have HP2 := Lib.hid (HST.out _ _ HP1.out hb2); clear hb2))
  go_upto_region 9 with (first
    | (go_at_call 74; refine (HWH.out w2 HP2.out.2).mono ?_; rintro e' w3 ⟨rfl, hb3⟩; have HP3 := Lib.hid (HST.out _ _ HP2.out hb3); clear hb3))
  go_wp2_with (first
    | (go_at_call 204; refine (HSI.out w3 HP3.out.2).mono ?_; rintro e' w7 ⟨rfl, hg7⟩; have HG7 := Lib.hid hg7; clear hg7))
  exact ⟨rfl, rfl, (below_grown HP3.out.1 _).trans HG7.out⟩

set_option maxRecDepth 100000 in
set_option maxHeartbeats 4000000 in
theorem stmts_bad (k pb tb g : Nat) (ts : List Tok) (line : Int) (w : World) (h : PS w pb tb ts) (he : Ended ts) (hg : g ≤ 100000) (hx : stsB k g ts = some line) :
    Calls Tryz.prog 115 #[.pointer (some ⟨pb, 0, none⟩)] w (Bad w pb line) := by
  suffices hsuf : Calls Tryz.prog 115 #[.pointer (some ⟨pb, 0, none⟩)] w (fun en w' => Hid (Bad w pb line en w')) from hsuf.mono fun _ _ h => h.out
  obtain ⟨Q, hQ⟩ : ∃ Q, Q = Bad w pb line := ⟨_, rfl⟩
  have HQ := Lib.hid hQ
  rw [← hQ]
  obtain ⟨t0, r0, rfl⟩ := he.cons
  have hpl := h.lt
  have htl := h.tlt
  have HP0 := Lib.hid (PG.start h (Below.refl _ w))
  have HX := Lib.hid hx
  have HE := Lib.hid he
  have hdn0 : g ≤ 100000 := hg
  clear h hx he hQ
  go_enter Tryz.func115, Tryz.ntmps115
  go_wp2
  go_loopg [2] g (fun gh v2 wr => ∃ (done : List SD) (ts' : List Tok), gh + done.length ≤ 100001 ∧ gh ≤ g ∧ Hid (PG w pb tb ts' wr ∧ Ended ts' ∧ SdI wr w.heap.size v2 done ∧ stsB k gh ts' = some line))
  case atStart => exact ⟨[], t0 :: r0, by simp; omega, Nat.le_refl _, Lib.hid ⟨HP0.out, HE.out, SdI.nil _ _, HX.out⟩⟩
  case round =>
    obtain ⟨done, ts', hdl, hgk, HH⟩ := hrel
    obtain ⟨wo, rfl⟩ : ∃ wo, wo = wr := ⟨_, rfl⟩
    obtain ⟨hp, hen, hsi, hst⟩ := HH.out
    obtain ⟨t, r, rfl⟩ := hen.cons
    obtain ⟨g1, rfl⟩ : ∃ g1, gk = g1 + 1 := by
      cases gk with
      | zero => rw [stsB] at hst; cases hst
      | succ g => exact ⟨g, rfl⟩
    rw [stsB] at hst
    have HP := Lib.hid hp
    have HSI := Lib.hid hsi
    have hz0 := hp.1.size
    cases htk : tokIs t [125]
    case true => rw [htk] at hst; simp at hst
    rw [htk] at hst
    simp only [Bool.false_eq_true, if_false] at hst
    have HTK := Lib.hid (take_no pb tb t r [125] wo hp.2 htk)
    cases hns : noSt t
    · rw [hns] at hst
      simp only [Bool.false_eq_true, if_false] at hst
      cases hs : stF k g1 (t :: r) with
      | none => rw [hs] at hst; cases hst
      | some p =>
        obtain ⟨s, us1⟩ := p
        rw [hs] at hst
        simp only [] at hst
        have HST := Lib.hid (fun W (hh : PS W pb tb (t :: r)) => (stOk_le k 100000 (Nat.le_refl _) g1 (by omega)).st pb tb (t :: r) us1 s W hh hen hs)
        have HS2 := Lib.hid hst
        have hdn : done.length ≤ 1000000000 := by omega
        have hms : g1 < g1 + 1 := by omega
        have hdl2 : g1 + (done.length + 1) ≤ 100001 := by omega
        have hgk2 : g1 ≤ g := by omega
        clear hp hen hsi hst htk hs HH hdl hgk hns
        go_upto_region 2 with (first
          | (go_at_call 74; refine HTK.out.mono ?_; rintro e' w1 ⟨rfl, hb1⟩; have HP1 := Lib.hid (HP.out.below hb1); have HS1 := Lib.hid (HSI.out.grown (below_grown hb1 none) (fun r e => by cases e)); clear hb1))
        have hz1 := HP1.out.1.size
        go_wp2_with (first
          | (go_at_call 176; refine (HST.out w1 HP1.out.2).mono ?_; rintro e' w2 ⟨⟨av, tv, ev, rfl, ha, htv, hev, hp2⟩, hen⟩; have hz2 := hp2.1.size; obtain ⟨aa, ac, rfl⟩ := ha.slice; obtain ⟨ta, tc, rfl⟩ := htv.slice; obtain ⟨ea, ec, rfl⟩ := hev.slice; have HA := Lib.hid ha; have HT := Lib.hid htv; have HV := Lib.hid hev; have HG2 := Lib.hid hp2.1; have HSX := Lib.hid (HS1.out.grown hp2.1 (fun r e => by cases e; exact hpl)); have HP2 := Lib.hid (HP1.out.trans hp2); have HEN := Lib.hid hen; clear hp2 hen ha htv hev)
          | (at_builtin; refine wpList_appS slStmt rfl (.tmp 6) (.tmp 9) rfl dEnc_len dEnc_one w.heap.size _ done rfl (HSX.out.1.tag (alloc_grown _ _ none) (NoTag.none _ _)) w2.heap.size ⟨s, aa, ac, ta, tc, ea, ec⟩ rfl (fun j hj => (cell_of_block (heap_new _ _) j).trans (by simp [dEnc, SD.av, SD.tv, SD.ev, LE.args])) hdn (by omega) (by simp; omega) ?_; intro g2 cap2 w3 ho3 hg3 hat3 hlt3; have HO3 := Lib.hid ho3; have HG3 := Lib.hid hg3; have HAT3 := Lib.hid hat3; clear ho3 hg3 hat3))
        go_roundg g1
        case measure => exact hms
        case rel =>
          refine ⟨done ++ [⟨s, aa, ac, ta, tc, ea, ec⟩], us1, by simpa using hdl2, hgk2, Lib.hid ⟨?_, HEN.out, ?_, HS2.out⟩⟩
          · exact (HP2.out.below (below_a1 _ _)).own HG3.out (fun r e => (ownsRow_base HSX.out.1 r e).1) htl hpl
          · exact HS1.out.app HG2.out (fun r e => by cases e; exact hpl) ⟨HA.out, HT.out, HV.out⟩ (by omega) (by simpa using HO3.out) HG3.out rfl HAT3.out
    · rw [hns] at hst
      simp only [if_true, Option.some.injEq] at hst
      have HST := Lib.hid (fun W (hh : PS W pb tb (t :: r)) => stmt_no pb tb t r W hh hns)
      have HL := Lib.hid hst
      have HNS := Lib.hid hns
      clear hp hen hsi hst htk HH hns
      go_upto_region 2 with (first
        | (go_at_call 74; refine HTK.out.mono ?_; rintro e' w1 ⟨rfl, hb1⟩; have HP1 := Lib.hid (HP.out.below hb1); clear hb1))
      go_wp2_with (first
        | (go_at_call 176; refine (HST.out w1 HP1.out.2).mono ?_; rintro e' w2 ⟨rfl, hg2⟩; have HG2 := Lib.hid hg2; clear hg2))
      have hend : Q (.panicked (wrongV t.line)) w2 := by
        rw [HQ.out, HL.out.symm]
        exact ⟨rfl, HP1.out.1.trans HG2.out⟩
      exact ⟨rfl, Lib.hid hend⟩
end Go.Proofs.YtjgbkdbkachciaaGreatDoor

namespace Go.Proofs.YtjgbkdbkachciaaGreatDoor
open Go.RowKit Go.Shelf
attribute [local go_sem] Oper.semAt_some

/-- where a function without locals ends a parse -/
def fnB (k g : Nat) (ts : List Tok) : Option Int := match paF g ts with
  | none => none
  | some (ps, us1) => if ps.length ≤ 1000 then match wantF [[123]] us1 with
      | none => none
      | some [] => none
      | some (t :: r) => if tokIs t wInt then none else stsB k g (t :: r)
    else none

set_option maxRecDepth 100000 in
set_option maxHeartbeats 4000000 in
theorem function_bad (k g pb tb : Nat) (nm : Str) (ts : List Tok) (line : Int) (w : World) (h : PS w pb tb ts) (he : Ended ts) (hg : g ≤ 100000) (hx : fnB k g ts = some line) :
    Calls Tryz.prog 76 #[.pointer (some ⟨pb, 0, none⟩), S nm] w (Bad w pb line) := by
  suffices hsuf : Calls Tryz.prog 76 #[.pointer (some ⟨pb, 0, none⟩), S nm] w (fun en w' => Hid (Bad w pb line en w')) from hsuf.mono fun _ _ h => h.out
  obtain ⟨Q, hQ⟩ : ∃ Q, Q = Bad w pb line := ⟨_, rfl⟩
  have HQ := Lib.hid hQ
  rw [← hQ]
  obtain ⟨t, r, rfl⟩ := he.cons
  have hpl := h.lt
  have htl := h.tlt
  unfold fnB at hx
  cases hpa : paF g (t :: r) with
  | none => rw [hpa] at hx; cases hx
  | some q =>
  obtain ⟨ps, us1⟩ := q
  rw [hpa] at hx
  simp only [] at hx
  split at hx
  case isFalse => cases hx
  next hps =>
  cases hwt : wantF [[123]] us1 with
  | none => rw [hwt] at hx; cases hx
  | some us2 =>
  rw [hwt] at hx
  cases us2 with
  | nil => cases hx
  | cons t1 r1 =>
  simp only [] at hx
  cases hin : tokIs t1 wInt
  case true => rw [hin] at hx; simp at hx
  rw [hin] at hx
  simp only [Bool.false_eq_true, if_false] at hx
  obtain ⟨g1, rfl⟩ : ∃ g1, g = g1 + 1 := by
    cases g with
    | zero => rw [paF] at hpa; cases hpa
    | succ g1 => exact ⟨g1, rfl⟩
  have hw : FnW w pb tb w.heap.size (w.heap.size + 1) (w.heap.size + 1 + 1) (w.heap.size + 3) := ⟨hpl, htl, Nat.le_refl _, rfl, rfl, rfl⟩
  have HW := Lib.hid hw
  have HCO := Lib.hid (fun (W : World) (hh : FnP w pb tb w.heap.size (w.heap.size + 1) (w.heap.size + 1 + 1) (w.heap.size + 3) nm (t :: r) [] [] W) => params_yes g1 pb tb _ _ _ _ nm (t :: r) us1 ps w W hw hh hpa hps)
  have HWA := Lib.hid (fun W sb (hen : Ended us1) (hh : PS W pb tb us1) (hs : Row W sb 9 ([[123]].map S)) => want_yes pb tb sb 1 1 [[123]] us1 (t1 :: r1) W hh hs rfl hwt (hen.want hwt).1 (by simp))
  have HWE := Lib.hid (fun (hen : Ended us1) => (hen.want hwt).2)
  have HST := Lib.hid (fun W (hen : Ended (t1 :: r1)) (hh : PS W pb tb (t1 :: r1)) => stmts_bad k pb tb (g1 + 1) (t1 :: r1) line W hh hen hg hx)
  have HTK := Lib.hid (fun W (hh : PS W pb tb (t1 :: r1)) => take_no pb tb t1 r1 wInt W hh hin)
  have HP0 := Lib.hid h
  have HEN0 := Lib.hid he
  clear h he hpa hwt hx hg hw hin hQ
  go_enter Tryz.func76, Tryz.ntmps76
  go_upto_region 2 with (first
    | (refine store_first 52 (.tmp 5) (.tmp 7) rfl ?_; refine wpList_store_row rfl 52 (.tmp 5) (.tmp 7) rfl (w.heap.size + 1 + 1) _ rfl rfl 52 fZ (heap_at (by simp)) (by kernel_rfl) (by rfl) (by simp [Value.oneCell']) ?_))
  obtain ⟨w3, hw3⟩ : ∃ w3, w3 = ((((w.alloc (.cells #[.pointer (some ⟨pb, 0, none⟩)] 89)).alloc (.cells fZ 52)).alloc (.cells fZ 52)).setRow (w.heap.size + 1 + 1) #[S nm, .slice none 0 0, .slice none 0 0, .slice none 0 0]) := ⟨_, rfl⟩
  have hfv : FnV w pb tb w.heap.size (w.heap.size + 1) (w.heap.size + 1 + 1) (w.heap.size + 3) nm (t :: r) [] [] (.slice none 0 0) (.slice none 0 0) w3 := by
    refine ⟨?_, HEN0.out, ?_, ?_, ?_, OwnS.nil, OwnS.nil, fun b e => by cases e⟩
    · rw [hw3]; exact (PG.start HP0.out (((below_a1 w _).alloc (by simp) _).alloc (by simp; omega) _)).new (by omega) setRow_grown htl hpl
    · rw [hw3]; exact (setRow_other _ _ _ _ (by omega)).trans (heap_old _ _ (heap_old _ _ (heap_new _ _)))
    · rw [hw3]; exact (setRow_other _ _ _ _ (by omega)).trans (heap_old _ _ (heap_at (by simp)))
    · rw [hw3]; exact setRow_heap _ _ _ _ _ _ (heap_at (by simp))
  have c0 := hfv.x.cell 0
  simp only [List.getElem?_cons_zero] at c0
  rw [← hw3]
  have HF3 := Lib.hid hfv
  clear hw3 hfv
  go_upto_region 3 with (first
    | (go_at_call 113; refine (HCO.out w3 ⟨_, _, HF3.out⟩).mono ?_; rintro e' w4 ⟨⟨v4, rfl⟩, pv4, lv4, hf4⟩; have HF4 := Lib.hid hf4; clear c0; have c0 := hf4.x.cell 0; simp only [List.getElem?_cons_zero] at c0; clear hf4))
  go_upto_region 4 with (first
    | (go_at_call 72; refine (HWA.out _ w4.heap.size HF4.out.en (HF4.out.pg.2.ext (below_a1 _ _)) (heap_new _ _)).mono ?_; rintro e' w5 ⟨⟨v5, rfl⟩, hp5⟩; have HF5 := Lib.hid ((HF4.out.below (below_a1 _ _)).take HW.out hp5 (HWE.out HF4.out.en)); clear hp5 c0))
  clear HCO HWA HF3 HF4
  go_loopg [] 0 (fun gh wr => Hid (∃ (lv : Value), FnV w pb tb w.heap.size (w.heap.size + 1) (w.heap.size + 1 + 1) (w.heap.size + 3) nm (t1 :: r1) ps [] pv4 lv wr))
  case atStart => exact Lib.hid ⟨lv4, HF5.out⟩
  case round =>
    obtain ⟨lv, hf⟩ := hrel.out
    obtain ⟨wo, rfl⟩ : ∃ wo, wo = wr := ⟨_, rfl⟩
    have HF := Lib.hid hf
    have c0 := hf.x.cell 0
    simp only [List.getElem?_cons_zero] at c0
    clear hf hrel
    go_upto_region 7 with (first
      | (go_at_call 74; refine (HTK.out wo HF.out.pg.2).mono ?_; rintro e' w6 ⟨rfl, hb6⟩; have HF6 := Lib.hid (HF.out.below hb6); clear hb6 c0; have c0 := HF6.out.x.cell 0; simp only [List.getElem?_cons_zero] at c0))
    go_wp2_with (first
      | (go_at_call 115; refine (HST.out w6 HF6.out.en HF6.out.pg.2).mono ?_; rintro e' w7 ⟨rfl, hg7⟩; have HG7 := Lib.hid hg7; clear hg7))
    have hend : Q (.panicked (wrongV line)) w7 := by
      rw [HQ.out]
      exact ⟨rfl, HF6.out.pg.1.trans HG7.out⟩
    exact ⟨rfl, Lib.hid hend⟩

/-- where a program ends a parse, at its first function -/
def pgB (k g : Nat) : Nat → List Tok → Option Int
  | 0, _ => none
  | _ + 1, [] => none
  | n + 1, t :: r => if t.kind = 5 then none else match hdF (t :: r) with
    | none => none
    | some (_, []) => none
    | some (_, t3 :: r3) => if tokIs t3 [91] = true then match arF r3 with
        | none => none
        | some (_, _, us) => pgB k g n us
      else match wantF [[40]] (t3 :: r3) with
        | none => none
        | some us => fnB k g us
end Go.Proofs.YtjgbkdbkachciaaGreatDoor

namespace Go.Proofs.YtjgbkdbkachciaaGreatDoor
open Go.RowKit Go.Shelf
attribute [local go_sem] Oper.semAt_some

set_option maxRecDepth 100000 in
set_option maxHeartbeats 4000000 in
theorem prog_bad (k g n pb tb : Nat) (ts : List Tok) (line : Int) (w : World) (h : PS w pb tb ts) (he : Ended ts) (hg : g ≤ 100000) (hn : n ≤ 100000) (hx : pgB k g n ts = some line) :
    Calls Tryz.prog 42 #[.pointer (some ⟨pb, 0, none⟩)] w (Bad w pb line) := by
  suffices hsuf : Calls Tryz.prog 42 #[.pointer (some ⟨pb, 0, none⟩)] w (fun en w' => Hid (Bad w pb line en w')) from hsuf.mono fun _ _ h => h.out
  obtain ⟨Q, hQ⟩ : ∃ Q, Q = Bad w pb line := ⟨_, rfl⟩
  have HQ := Lib.hid hQ
  rw [← hQ]
  clear hQ
  have hpl := h.lt
  have htl : tb < w.heap.size := by
    obtain ⟨t, r, rfl⟩ := he.cons
    exact h.tlt
  have hfd := tok_f0
  have hfd2 := tok_f2
  obtain ⟨w1, hw1'⟩ : ∃ w1, w1 = w.alloc (.cells pZ 27) := ⟨_, rfl⟩
  have hwe : w.alloc (.cells pZ 27) = w1 := hw1'.symm
  have hb1 : Below w.heap.size w w1 := by rw [hw1']; exact below_a1 _ _
  have HV1 := Lib.hid (show PgV w pb tb ts [] [] (.slice none 0 0) (.slice none 0 0) w1 from ⟨PG.start h hb1, he, by rw [hw1']; exact heap_new _ _, OwnS.nil, FsI.nil _ _, (fun b e => by cases e), fun _ => rfl⟩)
  have HX := Lib.hid hx
  clear h he hw1' hb1 hx
  go_enter Tryz.func42, Tryz.ntmps42
  go_wp2
  go_loopg [3] n (fun gh v3 wr => Hid (∃ (ts' : List Tok) (rs : List LA) (av fv : Value), gh + rs.length ≤ 100000 ∧ PgV w pb tb ts' rs [] av fv wr ∧ pgB k g gh ts' = some line))
  case atStart => exact Lib.hid ⟨ts, [], _, _, by simpa using hn, HV1.out, HX.out⟩
  case round =>
    obtain ⟨ts', rs, av, fv, hln1, hv, hx⟩ := hrel.out
    obtain ⟨wo, rfl⟩ : ∃ wo, wo = wr := ⟨_, rfl⟩
    clear hwe
    obtain ⟨t, r, rfl⟩ := hv.en.cons
    obtain ⟨n1, rfl⟩ : ∃ n1, gk = n1 + 1 := by
      cases gk with
      | zero => rw [pgB] at hx; cases hx
      | succ n1 => exact ⟨n1, rfl⟩
    rw [pgB] at hx
    have HV := Lib.hid hv
    have HNX := Lib.hid (fun W (hh : PS W pb tb (t :: r)) => next_yes pb tb t r W hh)
    by_cases h5 : t.kind = 5
    · rw [if_pos h5] at hx
      cases hx
    · rw [if_neg h5] at hx
      have h5n : (t.kind != 5) = true := by rw [bne_iff_ne]; exact h5
      clear h5
      split at hx
      · cases hx
      · cases hx
      next t2 t3 r3 hhd =>
      obtain ⟨hw1, ht1⟩ := hdF_some hhd
      obtain ⟨hn1, he1⟩ := hv.en.want hw1
      obtain ⟨hn3, he3⟩ := he1.tail (by omega)
      have HWI := Lib.hid (fun W sb (hh : PS W pb tb (t :: r)) (hs : Row W sb 9 ([wInt].map S)) => want_yes pb tb sb 1 1 [wInt] (t :: r) (t2 :: t3 :: r3) W hh hs rfl hw1 hn1 (by simp))
      have HNM := Lib.hid (fun W (hh : PS W pb tb (t2 :: t3 :: r3)) => pname_yes pb tb t2 (t3 :: r3) W hh hn3 ht1)
      have HE1 := Lib.hid he1
      have HE3 := Lib.hid he3
      split at hx
      · next hfst =>
        have h91 := hfst
        clear hfst
        cases har : arF r3 with
        | none => rw [har] at hx; cases hx
        | some q2 =>
        obtain ⟨x, r5, us2⟩ := q2
        rw [har] at hx
        simp only [] at hx
        have hrec := hx
        clear hx
        obtain ⟨t4, rfl, hk4, rfl, hw4⟩ := arF_some har
        obtain ⟨hn4, he4⟩ := he3.tail (tokIs_kind h91)
        obtain ⟨hn5, he5⟩ := he4.tail (by omega)
        obtain ⟨hn6, he6⟩ := he5.want hw4
        have hkd := fun W (hh : PS W pb tb (t4 :: r5)) => kind_yes pb tb t4 r5 W hh hn5
        rw [hk4] at hkd
        have HKD := Lib.hid hkd
        have HBR := Lib.hid (fun W (hh : PS W pb tb (t3 :: t4 :: r5)) => take_yes pb tb t3 (t4 :: r5) [91] W hh h91 hn4)
        have HWE := Lib.hid (fun W sb (hh : PS W pb tb r5) (hs : Row W sb 9 ([[93], [59]].map S)) => want_yes pb tb sb 2 2 [[93], [59]] r5 us2 W hh hs rfl hw4 hn6 (by simp))
        have HE4 := Lib.hid he4
        have HE5 := Lib.hid he5
        have HE6 := Lib.hid he6
        have HREC := Lib.hid hrec
        have hfv := hv.nf rfl
        subst hfv
        obtain ⟨aa, ac, rfl⟩ := hv.oa.slice
        obtain ⟨AN, hAN⟩ : ∃ n, n = rs.length := ⟨_, rfl⟩
        rw [← hAN] at HV hln1
        have HAN := Lib.hid hAN
        have hms : n1 < n1 + 1 := by omega
        clear hv hrel hhd hw1 ht1 hn1 he1 hn3 he3 h91 har hk4 hw4 hn4 he4 hn5 he5 hn6 he6 hkd hrec hAN
        go_upto_region 2 with (first
          | (go_at_call 70; refine (HNX.out wo HV.out.pg.2).mono ?_; rintro e' w2 ⟨rfl, hb2⟩; have HV2 := Lib.hid (HV.out.below hb2); clear hb2))
        go_upto_region 4 with (first
          | (go_at_call 72; refine (HWI.out _ w2.heap.size (HV2.out.pg.2.ext (below_a1 _ _)) (heap_new _ _)).mono ?_; rintro e' w3 ⟨⟨v3, rfl⟩, hp3⟩; have HV3 := Lib.hid ((HV2.out.below (below_a1 _ _)).take hpl hp3 HE1.out); clear hp3)
          | (go_at_call 73; refine (HNM.out w3 HV3.out.pg.2).mono ?_; rintro e' w4 ⟨rfl, hp4⟩; have HV4 := Lib.hid (HV3.out.take hpl hp4 HE3.out); have c1 := HV4.out.r.cell 1; simp only [List.getElem?_cons_zero, List.getElem?_cons_succ] at c1; clear hp4))
        go_upto_region 5 with (first
          | (go_at_call 74; refine (HBR.out w4 HV4.out.pg.2).mono ?_; rintro e' w5 ⟨rfl, hp5⟩; have HV5 := Lib.hid (HV4.out.take hpl hp5 HE4.out); clear hp5 c1))
        refine wp_region_ordW (by kernel_rfl) (fun X => X.cell? ⟨w.heap.size, 0, none⟩ = some (.slice aa AN ac)) [(0, 0), (0, 1), (0, 2), (0, 3), (1, 4), (0, 5), (0, 6), (1, 7), (1, 8), (0, 9), (2, 10)] (by kernel_rfl) ?hS ?_
        case hS => intro wd hh; exact row_at HV5.out.r hh 0
        intro wd hh hgd hS
        have HVD := Lib.hid (HV5.out.grown0 hpl htl hgd)
        clear hh hgd
        simp only [pickOps, List.map_cons, List.map_nil, List.getElem?_cons_zero, List.getElem?_cons_succ, Option.getD_some]
        repeat (refine wpOrd_look (v := ?_) (by rfl) ?_ (by assumption) (fun _ _ _ h => h) ?_; rotate_left; (· (intro wS hSw; (try dsimp only at hSw); go_simp; (first | done | with_reducible rfl))); simp only [Act.put, List.setIfInBounds_toArray, List.set_cons_zero, List.set_cons_succ])
        refine wpOrd_turn ?_
        go_wp2_with (first
          | (go_at_call 75; refine (HKD.out wd HVD.out.pg.2).mono ?_; rintro e' w6 ⟨rfl, hp6⟩; have HV6 := Lib.hid (HVD.out.take hpl hp6 HE5.out); clear hp6))
        clear hS
        refine QN_keep (HV6.out.r.cell 0) fun hS => ?_
        repeat (refine wpOrd_look (v := ?_) (by rfl) ?_ (by assumption) (fun _ _ _ h => h) ?_; rotate_left; (· (intro wS hSw; (try dsimp only at hSw); go_simp; (first | done | with_reducible rfl))); simp only [Act.put, List.setIfInBounds_toArray, List.set_cons_zero, List.set_cons_succ])
        refine wpOrd_turn ?_
        clear hS
        go_wp2
        obtain ⟨w7, hw7⟩ : ∃ w3, w3 = w6.alloc (.cells #[S t2.text, I t4.n] 68) := ⟨_, rfl⟩
        obtain ⟨gz, hgz⟩ : ∃ g, g = w6.heap.size := ⟨_, rfl⟩
        have HGZ := Lib.hid (show Row w7 gz 68 [S t2.text, I t4.n] by rw [hw7, hgz]; exact heap_new _ _)
        have HG7 := Lib.hid (show w6.grownBy w7 none by rw [hw7]; exact alloc_grown _ _ none)
        have HV7 := Lib.hid (show PgV _ _ _ _ _ _ _ _ w7 from HV6.out.grown0 hpl htl HG7.out)
        have hbz : w.heap.size + 1 ≤ w7.heap.size := by have := HV7.out.r.lt; omega
        change QN _ _ _ _ (w6.alloc (.cells #[S t2.text, I t4.n] 68))
        rw [← hw7, ← hgz]
        clear hw7 hgz
        refine QN_keep (HV7.out.r.cell 0) fun hS => ?_
        refine wpOrd_turn ?_
        clear hS
        go_wp2_with (first
          | (at_builtin; refine wpList_appS slArr rfl _ _ rfl a2Enc_len a2Enc_one (w.heap.size + 1) (.slice aa AN ac) rs rfl HV7.out.oa gz ⟨t2.text, t4.n⟩ rfl (fun j _ => HGZ.out.cell j) (by have := HAN.out; omega) (by decide) hbz ?_; intro g' cap w8 ho8 hg8 hat8 hlt8; rw [← HAN.out] at ho8 ⊢; have HO8 := Lib.hid ho8; have HG8 := Lib.hid hg8; clear ho8 hg8 hat8 hlt8))
        have hpo : ∀ b, (Value.slice aa AN ac).ownBlock = some b → w.heap.size + 1 ≤ b := fun b e => (ownsRow_base HV7.out.oa b e).1
        have HR8 := Lib.hid (HV7.out.r.kept HG8.out (fun e => by have := hpo _ e.symm; omega))
        refine QN_keep (HR8.out.cell 0) fun hS => ?_
        clear hpo
        repeat (refine wpOrd_look (v := ?_) (by rfl) ?_ (by assumption) (fun _ _ _ h => h) ?_; rotate_left; (· (intro wS hSw; (try dsimp only at hSw); go_simp; (first | done | with_reducible rfl))); simp only [Act.put, List.setIfInBounds_toArray, List.set_cons_zero, List.set_cons_succ])
        refine wpOrd_last ?_
        have f1 := HR8.out.frozen 0
        have c1 := HR8.out.cell 0
        simp only [List.getElem?_cons_zero] at c1
        clear hS
        go_wp2
        refine QN_normal (wpOrd_nil ?_)
        have hf9 := HV6.out.pushA hpl htl HG7.out HO8.out HG8.out
        obtain ⟨w9, hw9⟩ : ∃ w9, w9 = w8.setCell ⟨w.heap.size, 0, none⟩ (.slice (some ⟨g', 0, none⟩) (AN + 1) cap) := ⟨_, rfl⟩
        rw [← hw9] at hf9 ⊢
        have HV9 := Lib.hid hf9
        clear hf9 hw9 f1 c1
        go_wp2_with (first
          | (go_at_call 72; refine (HWE.out _ w9.heap.size (HV9.out.pg.2.ext (below_a1 _ _)) (heap_new _ _)).mono ?_; rintro e' wA ⟨⟨vA, rfl⟩, hpA⟩; have HVA := Lib.hid ((HV9.out.below (below_a1 _ _)).take hpl hpA HE6.out); clear hpA))
        go_roundg n1
        case measure => exact hms
        case rel => exact Lib.hid ⟨us2, rs ++ [⟨t2.text, t4.n⟩], _, _, by have := HAN.out; rw [List.length_append]; simp only [List.length_cons, List.length_nil]; omega, HVA.out, HREC.out⟩
      · next hfst =>
        have hb : tokIs t3 [91] = false := by simpa using hfst
        clear hfst
        cases hw4 : wantF [[40]] (t3 :: r3) with
        | none => rw [hw4] at hx; cases hx
        | some us1 =>
        rw [hw4] at hx
        simp only [] at hx
        obtain ⟨hn4, he4⟩ := he3.want hw4
        have HBR := Lib.hid (fun W (hh' : PS W pb tb (t3 :: r3)) => take_no pb tb t3 r3 [91] W hh' hb)
        have HWP := Lib.hid (fun W sb (hh : PS W pb tb (t3 :: r3)) (hs : Row W sb 9 ([[40]].map S)) => want_yes pb tb sb 1 1 [[40]] (t3 :: r3) us1 W hh hs rfl hw4 hn4 (by simp))
        have HFN := Lib.hid (fun W (hh : PS W pb tb us1) => function_bad k g pb tb t2.text us1 line W hh he4 hg hx)
        have HE4 := Lib.hid he4
        obtain ⟨aa, ac, rfl⟩ := hv.oa.slice
        have hfv := hv.nf rfl
        subst hfv
        obtain ⟨fa, fc, hfa⟩ : ∃ fa fc, (.slice none 0 0 : Value) = .slice fa 0 fc := ⟨_, _, rfl⟩
        rw [hfa] at HV
        clear hv hrel hhd hw1 ht1 hn1 he1 hn3 he3 hw4 hx hb hn4 he4 hfa
        go_upto_region 2 with (first
          | (go_at_call 70; refine (HNX.out wo HV.out.pg.2).mono ?_; rintro e' w2 ⟨rfl, hb2⟩; have HV2 := Lib.hid (HV.out.below hb2); clear hb2))
        go_upto_region 4 with (first
          | (go_at_call 72; refine (HWI.out _ w2.heap.size (HV2.out.pg.2.ext (below_a1 _ _)) (heap_new _ _)).mono ?_; rintro e' w3 ⟨⟨v3, rfl⟩, hp3⟩; have HV3 := Lib.hid ((HV2.out.below (below_a1 _ _)).take hpl hp3 HE1.out); clear hp3)
          | (go_at_call 73; refine (HNM.out w3 HV3.out.pg.2).mono ?_; rintro e' w4 ⟨rfl, hp4⟩; have HV4 := Lib.hid (HV3.out.take hpl hp4 HE3.out); have c1 := HV4.out.r.cell 1; simp only [List.getElem?_cons_zero, List.getElem?_cons_succ] at c1; clear hp4))
        go_upto_region 7 with (first
          | (go_at_call 74; refine (HBR.out w4 HV4.out.pg.2).mono ?_; rintro e' w5 ⟨rfl, hb5⟩; have HV5 := Lib.hid (HV4.out.below hb5); clear hb5 c1))
        go_upto_region 8 with (first
          | (go_at_call 72; refine (HWP.out _ w5.heap.size (HV5.out.pg.2.ext (below_a1 _ _)) (heap_new _ _)).mono ?_; rintro e' w6 ⟨⟨v6, rfl⟩, hp6⟩; have HV6 := Lib.hid ((HV5.out.below (below_a1 _ _)).take hpl hp6 HE4.out); clear hp6))
        refine wp_region_ordW (by kernel_rfl) (fun X => X.cell? ⟨w.heap.size, 1, none⟩ = some (.slice fa 0 fc)) [(0, 0), (0, 1), (0, 2), (0, 3), (1, 4), (1, 5), (1, 6), (0, 7), (2, 8)] (by kernel_rfl) ?hS ?_
        case hS => intro wd hh; exact row_at HV6.out.r hh 1
        intro wd hh hgd hS
        have HVD := Lib.hid (HV6.out.grown0 hpl htl hgd)
        clear hh hgd
        simp only [pickOps, List.map_cons, List.map_nil, List.getElem?_cons_zero, List.getElem?_cons_succ, Option.getD_some]
        repeat (refine wpOrd_look (v := ?_) (by rfl) ?_ (by assumption) (fun _ _ _ h => h) ?_; rotate_left; (· (intro wS hSw; (try dsimp only at hSw); go_simp; (first | done | with_reducible rfl))); simp only [Act.put, List.setIfInBounds_toArray, List.set_cons_zero, List.set_cons_succ])
        refine wpOrd_turn ?_
        clear hS
        go_wp2_with (first
          | (go_at_call 76; refine (HFN.out wd HVD.out.pg.2).mono ?_; rintro e' w7 ⟨rfl, hg7⟩; have HG7 := Lib.hid hg7; clear hg7))
        have hend : Q (.panicked (wrongV line)) w7 := by
          rw [HQ.out]
          exact ⟨rfl, HVD.out.pg.1.trans HG7.out⟩
        exact ⟨rfl, Lib.hid hend⟩
end Go.Proofs.YtjgbkdbkachciaaGreatDoor
