import Derived.Test.YtjgbkdbkachciaaGreatDoorS9
namespace Go.Proofs.YtjgbkdbkachciaaGreatDoor
open Go.RowKit Go.Shelf
attribute [local go_sem] Oper.semAt_some

abbrev wIf : Str := [105, 102]
abbrev wWhile : Str := [119, 104, 105, 108, 101]
/-- a statement: so far, a simple one -/
def stF (k : Nat) : List Tok → Option (LS × List Tok)
  | [] => none
  | t :: r => if tokIs t wIf then none else if tokIs t wWhile then none else match siF k (t :: r) with
    | none => none
    | some (s, us) => (wantF [[59]] us).map fun r' => (s, r')

set_option maxRecDepth 100000 in
set_option maxHeartbeats 4000000 in
theorem stmt_yes (k pb tb : Nat) (ts us : List Tok) (s : LS) (w : World) (h : PS w pb tb ts) (he : Ended ts) (hx : stF k ts = some (s, us)) :
    Calls Tryz.prog 176 #[.pointer (some ⟨pb, 0, none⟩)] w fun e w' => SiRet w pb tb s us e w' ∧ Ended us := by
  obtain ⟨t, r, rfl⟩ := he.cons
  have hpl := h.lt
  have htl := h.tlt
  obtain ⟨w1, hw1⟩ : ∃ w1, w1 = w.alloc (.cells sZ 54) := ⟨_, rfl⟩
  have hb1 : Below w.heap.size w w1 := by rw [hw1]; exact below_a1 _ _
  have hz1 : w1.heap.size = w.heap.size + 1 := by rw [hw1]; simp
  have hwe : w.alloc (.cells sZ 54) = w1 := hw1.symm
  have h1 := h.ext hb1
  have HW1 := Lib.hid hw1
  have HB1 := Lib.hid hb1
  have HP1 := Lib.hid (PG.start h1 (Below.refl _ w1))
  rw [stF] at hx
  cases hi : tokIs t wIf
  case true => rw [hi] at hx; simp at hx
  cases hwh : tokIs t wWhile
  case true => rw [hi, hwh] at hx; simp at hx
  rw [hi, hwh] at hx
  simp only [Bool.false_eq_true, if_false] at hx
  cases hsi : siF k (t :: r) with
  | none => rw [hsi] at hx; cases hx
  | some p =>
    obtain ⟨s', us1⟩ := p
    rw [hsi] at hx
    simp only [] at hx
    obtain ⟨r', hw, hx2⟩ := Option.map_eq_some_iff.1 hx
    clear hx
    simp only [Prod.mk.injEq] at hx2
    obtain ⟨rfl, rfl⟩ := hx2
    have HIF := Lib.hid (take_no pb tb t r wIf w1 h1 hi)
    have HWH := Lib.hid (fun W (hh : PS W pb tb (t :: r)) => take_no pb tb t r wWhile W hh hwh)
    have HSI := Lib.hid (fun W (hh : PS W pb tb (t :: r)) => simple_yes k pb tb (t :: r) us1 s' W hh he hsi)
    have HWA := Lib.hid (fun W sb (hh : PS W pb tb us1) (hs : Row W sb 9 ([[59]].map S)) (hen : Ended us1) => want_yes pb tb sb 1 1 [[59]] us1 r' W hh hs rfl hw (hen.want hw).1 (by simp))
    have HWE := Lib.hid (fun (hen : Ended us1) => (hen.want hw).2)
    clear h he h1 hb1 hw1 hi hwh hsi hw
    go_enter Tryz.func176, Tryz.ntmps176
    go_upto_region 6 with (first
      | (go_at_call 74; refine HIF.out.mono ?_; rintro e' w2 ⟨rfl, hb2⟩; have HP2 := Lib.hid (HP1.out.below hb2); clear hb2))
    go_upto_region 9 with (first
      | (go_at_call 74; refine (HWH.out w2 HP2.out.2).mono ?_; rintro e' w3 ⟨rfl, hb3⟩; have HP3 := Lib.hid (HP2.out.below hb3); clear hb3))
    have hz3 := HP3.out.1.size
    go_upto_region 10 with (first
      | (go_at_call 204; refine (HSI.out w3 HP3.out.2).mono ?_; rintro e' w4 ⟨⟨av, rfl, ha, hp4, hth, hel⟩, hen⟩; have HA := Lib.hid (ha.mono (base' := w.heap.size + 1) (by omega)); obtain ⟨aa, ac, rfl⟩ := ha.slice; have HP4 := Lib.hid (HP3.out.trans hp4); have HEN := Lib.hid hen; have HK4 := Lib.hid ((HP3.out.trans hp4).zero HW1.out hpl); have HTH := Lib.hid hth; have HEL := Lib.hid hel; clear hp4 hen ha hth hel)
      | (refine store_first 54 (.tmp 2) (.tmp 29) rfl ?_; refine wpList_store_row rfl 54 (.tmp 2) (.tmp 29) rfl w.heap.size _ rfl rfl 54 sZ HK4.out (by kernel_rfl) (by rfl) (by simp [Value.oneCell']) ?_))
    obtain ⟨w5, hw5⟩ : ∃ w5, w5 = w4.setRow w.heap.size #[I s'.kind, S s'.name, .slice aa (LE.mk 0 0 0 [] s'.args).args.length ac, .slice none 0 0, .slice none 0 0] := ⟨_, rfl⟩
    have hr5 : Row w5 w.heap.size 54 [I s'.kind, S s'.name, .slice aa (LE.mk 0 0 0 [] s'.args).args.length ac, .slice none 0 0, .slice none 0 0] := by rw [hw5]; exact setRow_heap _ _ _ _ _ _ HK4.out
    have hp5 : PG w pb tb us1 w5 := by rw [hw5]; exact (HP4.out.pre HB1.out).new (Nat.le_refl _) setRow_grown htl hpl
    have ha5 : ESl (w.heap.size + 1) w5 (.slice aa (LE.mk 0 0 0 [] s'.args).args.length ac) s'.args := by rw [hw5]; exact HA.out.grown setRow_grown (fun r e => by cases e; omega)
    rw [← hw5]
    have HR5 := Lib.hid hr5
    have HP5 := Lib.hid hp5
    have HA5 := Lib.hid ha5
    clear hw5 hr5 hp5 ha5
    go_wp2_with (first
      | (go_at_call 72; refine (HWA.out _ w5.heap.size (HP5.out.2.ext (below_a1 _ _)) (heap_new _ _) HEN.out).mono ?_; rintro e' w6 ⟨⟨v6, rfl⟩, hp6⟩; have hr6 : Row w6 w.heap.size 54 [I s'.kind, S s'.name, .slice aa (LE.mk 0 0 0 [] s'.args).args.length ac, .slice none 0 0, .slice none 0 0] := hp6.row (heap_old _ _ HR5.out) (by omega); have HR6 := Lib.hid hr6; have HA6 := Lib.hid (HA5.out.alloc.pg hp6 (by omega)); have HP6 := Lib.hid ((HP5.out.below (below_a1 _ _)).trans hp6); clear hp6 hr6))
    refine bodyPost_ret (results_cell_row rfl _ _ w.heap.size 54 _ (0, 0) _ rfl HR6.out Tryz.underlying54 rfl (by kernel_rfl)) rfl ?_
    exact ⟨⟨_, rfl, HA6.out.mono (by omega), HP6.out, HTH.out, HEL.out⟩, HWE.out HEN.out⟩
end Go.Proofs.YtjgbkdbkachciaaGreatDoor

namespace Go.Proofs.YtjgbkdbkachciaaGreatDoor
open Go.RowKit Go.Shelf
attribute [local go_sem] Oper.semAt_some

/-! ### what lies in memory of a statement -/
def RS : Nat → (Nat → Prop) → World → (Nat → Value) → LS → Prop
  | 0, _, _, _, _ => False
  | d + 1, B, W, C, s => C 0 = I s.kind ∧ C 1 = S s.name ∧ EX B W (C 2) (.mk 0 0 0 [] s.args) ∧ RSlB B 5 (RS d B) W (C 3) s.thn ∧ RSlB B 5 (RS d B) W (C 4) s.els
theorem RS.grown : ∀ (d : Nat) {B : Nat → Prop} {w w' : World} {row : Option Nat} (_ : w.grownBy w' row) (_ : ∀ r, row = some r → ¬ B r) {C : Nat → Value} {s : LS}, RS d B w C s → RS d B w' C s
  | 0, _, _, _, _, _, _, _, _, h => h
  | d + 1, _, _, _, _, hg, hB, _, _, ⟨h0, h1, h2, h3, h4⟩ => ⟨h0, h1, h2.grown hg hB, h3.grown hg hB fun _ _ h => RS.grown d hg hB h, h4.grown hg hB fun _ _ h => RS.grown d hg hB h⟩
theorem RS.weak : ∀ (d : Nat) {B B' : Nat → Prop} {w : World} (_ : ∀ b, B b → B' b) {C : Nat → Value} {s : LS}, RS d B w C s → RS d B' w C s
  | 0, _, _, _, _, _, _, h => h
  | d + 1, _, _, _, hB, _, _, ⟨h0, h1, h2, h3, h4⟩ => ⟨h0, h1, h2.weak hB, h3.weak hB fun _ _ h => RS.weak d hB h, h4.weak hB fun _ _ h => RS.weak d hB h⟩
theorem RS.succ : ∀ (d : Nat) {B : Nat → Prop} {w : World} {C : Nat → Value} {s : LS}, RS d B w C s → RS (d + 1) B w C s
  | 0, _, _, _, _, h => h.elim
  | d + 1, _, _, _, _, ⟨h0, h1, h2, h3, h4⟩ => ⟨h0, h1, h2, h3.weak (fun _ h => h) fun _ _ h => RS.succ d h, h4.weak (fun _ h => h) fun _ _ h => RS.succ d h⟩
theorem RS.le {d d' : Nat} (h : d ≤ d') {B : Nat → Prop} {w : World} {C : Nat → Value} {s : LS} (hr : RS d B w C s) : RS d' B w C s := by
  induction h with
  | refl => exact hr
  | step _ ih => exact RS.succ _ ih
/-- statements in a slice, in blocks of B -/
def SX (B : Nat → Prop) (W : World) (v : Value) (l : List LS) : Prop := ∃ d, RSlB B 5 (RS d B) W v l
theorem SX.grown {B : Nat → Prop} {w w' : World} {row : Option Nat} {v : Value} {l : List LS} (h : SX B w v l) (hg : w.grownBy w' row) (hr : ∀ r, row = some r → ¬ B r) : SX B w' v l := by
  obtain ⟨d, h⟩ := h
  exact ⟨d, h.grown hg hr fun _ _ h => RS.grown d hg hr h⟩
theorem SX.alloc {B : Nat → Prop} {w : World} {o : Obj} {v : Value} {l : List LS} (h : SX B w v l) : SX B (w.alloc o) v l := h.grown (alloc_grown w o none) (fun r e => by cases e)
theorem SX.ext {B : Nat → Prop} {w w' : World} {n : Nat} {v : Value} {l : List LS} (h : SX B w v l) (hb : Below n w w') (hn : w.heap.size ≤ n) : SX B w' v l := h.grown (below_grown (hb.mono hn) none) (fun r e => by cases e)
theorem SX.weak {B B' : Nat → Prop} {w : World} {v : Value} {l : List LS} (h : SX B w v l) (hb : ∀ b, B b → B' b) : SX B' w v l := by
  obtain ⟨d, h⟩ := h
  exact ⟨d, h.weak hb fun _ _ h => RS.weak d hb h⟩
theorem SX.slice {B : Nat → Prop} {w : World} {v : Value} {l : List LS} (h : SX B w v l) : ∃ a c, v = .slice a l.length c := by
  obtain ⟨d, a, c, h, _⟩ := h
  exact ⟨a, c, h⟩

/-- a statement as it is put together: its expressions lie at a place -/
structure SA where
  s : LS
  a : Option Addr
  c : Nat
abbrev SA.av (p : SA) : Value := .slice p.a p.s.args.length p.c
def sEnc (p : SA) : List Value := [I p.s.kind, S p.s.name, p.av, .slice none 0 0, .slice none 0 0]
theorem sEnc_len (p : SA) : (sEnc p).length = 5 := rfl
theorem sEnc_one (p : SA) : ∀ u ∈ sEnc p, u.oneCell' = true := by intro u hu; simp [sEnc] at hu; rcases hu with rfl | rfl | rfl | rfl | rfl <;> rfl
theorem slStmt : SlT 50 54 5 96 := SlT.mk' (z := .agg #[.int .i64 0, .string ByteArray.empty, .slice none 0 0, .slice none 0 0, .slice none 0 0]) Tryz.underlying50 (by kernel_rfl) rfl (by decide)
/-- a slice that owns its elements, as it is read -/
theorem OwnS.rslB {α β : Type} {k e : Nat} {enc : α → List Value} {w : World} {base : Nat} {v : Value} {l : List α} {R : World → (Nat → Value) → β → Prop} (f : α → β) (h : OwnS k e enc w base v l) (hk : ∀ x, (enc x).length = k) (hl : l.length ≤ 1000000000) (hR : ∀ x ∈ l, R w (fun j => (enc x).getD j undef) (f x)) : RSlB (base ≤ ·) k R w v (l.map f) := by
  obtain ⟨a, c, hv⟩ := h.slice
  refine ⟨a, c, by rw [List.length_map]; exact hv, by rw [List.length_map]; exact hl, ?_⟩
  cases l with
  | nil => exact .inl rfl
  | cons x0 l0 =>
    right
    obtain ⟨g, c', hv', hbg, _⟩ := h.cell hk (i := 0) (by simp)
    have ha : a = some ⟨g, 0, none⟩ := by rw [hv] at hv'; simp at hv'; exact hv'.1
    refine ⟨g, 0, ha, hbg, fun i x hx => ?_⟩
    rw [List.getElem?_map] at hx
    have hi : i < (x0 :: l0).length := by
      rcases Nat.lt_or_ge i (x0 :: l0).length with h' | h'
      · exact h'
      · rw [List.getElem?_eq_none h'] at hx; cases hx
    rw [List.getElem?_eq_getElem hi] at hx
    simp only [Option.map_some, Option.some.injEq] at hx
    obtain ⟨g2, c2, hv2, _, hcell⟩ := h.cell hk hi
    obtain rfl : g2 = g := by rw [hv'] at hv2; simp at hv2; exact hv2.1.symm
    refine ⟨fun j => (enc (x0 :: l0)[i]).getD j undef, fun j hj => ?_, by rw [← hx]; exact hR _ (List.getElem_mem hi)⟩
    rw [Nat.zero_add, (hcell j hj).1]
    have : j < (enc (x0 :: l0)[i]).length := by rw [hk]; exact hj
    simp [this]
/-- what was put together is read -/
theorem OwnS.stmts {w : World} {base : Nat} {v : Value} {l : List SA} (h : OwnS 5 54 sEnc w base v l) (hl : l.length ≤ 1000000000) (hA : ∀ p ∈ l, EX (base ≤ ·) w p.av (.mk 0 0 0 [] p.s.args) ∧ p.s.thn = [] ∧ p.s.els = []) : SX (base ≤ ·) w v (l.map SA.s) := by
  refine ⟨1, h.rslB SA.s sEnc_len hl fun p hp => ?_⟩
  obtain ⟨h1, h2, h3⟩ := hA p hp
  exact ⟨rfl, rfl, h1, by rw [h2]; exact RSlB.nil _ _ _ _, by rw [h3]; exact RSlB.nil _ _ _ _⟩
end Go.Proofs.YtjgbkdbkachciaaGreatDoor

namespace Go.Proofs.YtjgbkdbkachciaaGreatDoor
open Go.RowKit Go.Shelf
attribute [local go_sem] Oper.semAt_some

/-- statements up to a brace -/
def stsF (k : Nat) : Nat → List Tok → Option (List LS × List Tok)
  | 0, _ => none
  | _ + 1, [] => none
  | g + 1, t :: r => if tokIs t [125] then some ([], r) else match stF k (t :: r) with
    | none => none
    | some (s, us) => (stsF k g us).map fun p => (s :: p.1, p.2)
/-- what of the statements is there already -/
def StsI (wr : World) (base : Nat) (v : Value) (done : List SA) : Prop := OwnS 5 54 sEnc wr base v done ∧ ∀ p ∈ done, EX (fun b => base ≤ b ∧ b < wr.heap.size ∧ v.ownBlock ≠ some b) wr p.av (.mk 0 0 0 [] p.s.args) ∧ p.s.thn = [] ∧ p.s.els = []
theorem StsI.grown {w w' : World} {base : Nat} {v : Value} {done : List SA} {row : Option Nat} (h : StsI w base v done) (hg : w.grownBy w' row) (hr : ∀ r, row = some r → r < base) : StsI w' base v done := by
  have hsz := hg.size
  refine ⟨ownsRow_kept' h.1 hg ?_, fun p hp => ?_⟩
  · cases hv : v.ownBlock with
    | none => exact .inl rfl
    | some k =>
      right
      intro e
      have := hr k e.symm
      have := (ownsRow_base h.1 k hv).1
      omega
  · obtain ⟨h1, h2⟩ := h.2 p hp
    exact ⟨(h1.grown hg (fun r e hb => by have := hr r e; omega)).weak fun b hb => ⟨hb.1, by omega, hb.2.2⟩, h2⟩
theorem PG.own {a b c : World} {pb tb : Nat} {ts : List Tok} {row : Option Nat} (h : PG a pb tb ts b) (hg : b.grownBy c row) (hr : ∀ r, row = some r → a.heap.size ≤ r) (ht : tb < a.heap.size) (hp : pb < a.heap.size) : PG a pb tb ts c := by
  cases row with
  | none => exact h.new (row := a.heap.size) (Nat.le_refl _) ⟨hg.os, hg.tape, hg.output, hg.size, fun i hi _ => hg.block i hi (by simp)⟩ ht hp
  | some r => exact h.new (hr r rfl) hg ht hp
set_option maxRecDepth 100000 in
set_option maxHeartbeats 4000000 in
theorem stmts_yes (k pb tb fuel : Nat) (ts us : List Tok) (l : List LS) (w : World) (h : PS w pb tb ts) (he : Ended ts) (hf : fuel ≤ 100000) (hx : stsF k fuel ts = some (l, us)) :
    Calls Tryz.prog 115 #[.pointer (some ⟨pb, 0, none⟩)] w fun e w' => (∃ v, e = .returned v ∧ SX (w.heap.size ≤ ·) w' v l) ∧ PG w pb tb us w' ∧ Ended us := by
  obtain ⟨t0, r0, rfl⟩ := he.cons
  have hpl := h.lt
  have htl := h.tlt
  have HP0 := Lib.hid (PG.start h (Below.refl _ w))
  have HX := Lib.hid hx
  have HE := Lib.hid he
  clear h hx he
  go_enter Tryz.func115, Tryz.ntmps115
  go_wp2
  go_loopg [2] fuel (fun gh v2 wr => ∃ (done : List SA) (ts' : List Tok) (l' : List LS), gh + done.length ≤ 100000 ∧ Hid (PG w pb tb ts' wr ∧ Ended ts' ∧ StsI wr w.heap.size v2 done ∧ stsF k gh ts' = some (l', us) ∧ l = done.map SA.s ++ l'))
  case atStart => exact ⟨[], t0 :: r0, l, by simpa using hf, Lib.hid ⟨HP0.out, HE.out, ⟨OwnS.nil, fun p hp => by cases hp⟩, HX.out, rfl⟩⟩
  case round =>
    obtain ⟨done, ts', l', hdl, HH⟩ := hrel
    obtain ⟨wo, rfl⟩ : ∃ wo, wo = wr := ⟨_, rfl⟩
    obtain ⟨hp, hen, hsi, hst, hl⟩ := HH.out
    obtain ⟨t, r, rfl⟩ := hen.cons
    obtain ⟨g1, rfl⟩ : ∃ g1, gk = g1 + 1 := by
      cases gk with
      | zero => rw [stsF] at hst; cases hst
      | succ g => exact ⟨g, rfl⟩
    rw [stsF] at hst
    have HP := Lib.hid hp
    have HSI := Lib.hid hsi
    have HL := Lib.hid hl
    have hz0 := hp.1.size
    cases htk : tokIs t [125]
    · rw [htk] at hst
      simp only [Bool.false_eq_true, if_false] at hst
      cases hs : stF k (t :: r) with
      | none => rw [hs] at hst; cases hst
      | some p =>
        obtain ⟨s, us1⟩ := p
        rw [hs] at hst
        simp only [] at hst
        obtain ⟨⟨l2, us2⟩, hst2, hx2⟩ := Option.map_eq_some_iff.1 hst
        clear hst
        simp only [Prod.mk.injEq] at hx2
        obtain ⟨rfl, rfl⟩ := hx2
        have HTK := Lib.hid (take_no pb tb t r [125] wo hp.2 htk)
        have HST := Lib.hid (fun W (hh : PS W pb tb (t :: r)) => stmt_yes k pb tb (t :: r) us1 s W hh hen hs)
        have HS2 := Lib.hid hst2
        have hdn : done.length ≤ 1000000000 := by omega
        have hms : g1 < g1 + 1 := by omega
        have hdl2 : g1 + (done.length + 1) ≤ 100000 := by omega
        clear hp hen hsi hst2 hl htk hs HH hdl
        go_upto_region 2 with (first
          | (go_at_call 74; refine HTK.out.mono ?_; rintro e' w1 ⟨rfl, hb1⟩; have HP1 := Lib.hid (HP.out.below hb1); have HS1 := Lib.hid (HSI.out.grown (below_grown hb1 none) (fun r e => by cases e)); clear hb1))
        have hz1 := HP1.out.1.size
        go_wp2_with (first
          | (go_at_call 176; refine (HST.out w1 HP1.out.2).mono ?_; rintro e' w2 ⟨⟨av, rfl, ha, hp2, hth, hel⟩, hen⟩; have hz2 := hp2.1.size; obtain ⟨aa, ac, rfl⟩ := ha.slice; have HA := Lib.hid ha; have HSX := Lib.hid (HS1.out.grown hp2.1 (fun r e => by cases e; exact hpl)); have HP2 := Lib.hid (HP1.out.trans hp2); have HEN := Lib.hid hen; have HTE := Lib.hid (And.intro hth hel); clear hp2 hen ha hth hel)
          | (at_builtin; refine wpList_appS slStmt rfl (.tmp 6) (.tmp 9) rfl sEnc_len sEnc_one w.heap.size _ done rfl (HSX.out.1.tag (alloc_grown _ _ none) (NoTag.none _ _)) w2.heap.size ⟨s, aa, ac⟩ rfl (fun j hj => (cell_of_block (heap_new _ _) j).trans (by simp [sEnc, SA.av, LE.args])) hdn (by omega) (by simp; omega) ?_; intro g2 cap2 w3 ho3 hg3 hat3 hlt3; have HO3 := Lib.hid ho3; have HG3 := Lib.hid hg3; have HAT3 := Lib.hid hat3; clear ho3 hg3 hat3))
        go_roundg g1
        case measure => exact hms
        case rel =>
          refine ⟨done ++ [⟨s, aa, ac⟩], us1, l2, by simpa using hdl2, Lib.hid ⟨?_, HEN.out, ⟨HO3.out, fun p hp => ?_⟩, HS2.out, by rw [HL.out]; simp⟩⟩
          · exact (HP2.out.below (below_a1 _ _)).own HG3.out (fun r e => (ownsRow_base HSX.out.1 r e).1) htl hpl
          · have hz2a : (w2.alloc (.cells #[I s.kind, S s.name, .slice aa (LE.mk 0 0 0 [] s.args).args.length ac, .slice none 0 0, .slice none 0 0] 54)).heap.size = w2.heap.size + 1 := by simp
            have hz3 := HG3.out.size
            have hnb : ∀ b, w.heap.size ≤ b → b < w2.heap.size → u2.ownBlock ≠ some b → w.heap.size ≤ b ∧ b < w3.heap.size ∧ (Value.slice (some ⟨g2, 0, none⟩) (done.length + 1) cap2).ownBlock ≠ some b := by
              intro b h1 h2 h3
              refine ⟨h1, by omega, fun e => ?_⟩
              simp only [Value.ownBlock, Option.some.injEq] at e
              subst e
              rcases HAT3.out with h4 | h4
              · exact h3 h4
              · omega
            rcases List.mem_append.1 hp with hp | hp
            · obtain ⟨h1, h2⟩ := HSX.out.2 p hp
              exact ⟨(h1.alloc.grown HG3.out (fun r e hb => hb.2.2 e)).weak fun b hb => hnb b hb.1 hb.2.1 hb.2.2, h2⟩
            · obtain rfl := List.mem_singleton.1 hp
              have h1 : EX (w1.heap.size ≤ ·) w2 (.slice aa (LE.mk 0 0 0 [] s.args).args.length ac) (.mk 0 0 0 [] s.args) := HA.out
              have h5 : ∀ r, u2.ownBlock = some r → r < w1.heap.size := fun r e => (ownsRow_base HS1.out.1 r e).2
              exact ⟨((h1.size.alloc).grown HG3.out (fun r e hb => by have := h5 r e; omega)).weak fun b hb => hnb b (by omega) hb.2 (fun e => by have := h5 b e; omega), HTE.out⟩
    · rw [htk] at hst
      simp only [if_true] at hst
      simp only [Option.some.injEq, Prod.mk.injEq] at hst
      obtain ⟨rfl, rfl⟩ := hst
      obtain ⟨hrne, hre⟩ := hen.tail (tokIs_kind htk)
      have HTK := Lib.hid (take_yes pb tb t r [125] wo hp.2 htk hrne)
      have HRE := Lib.hid hre
      have hdn : done.length ≤ 1000000000 := by omega
      clear hp hen hsi hl htk HH hrne hre
      go_wp2_with (first
        | (go_at_call 74; refine HTK.out.mono ?_; rintro e' w1 ⟨rfl, hp1⟩; have HP1 := Lib.hid (HP.out.trans hp1); have HS1 := Lib.hid (HSI.out.grown hp1.1 (fun r e => by cases e; exact hpl)); clear hp1))
      go_ret
      exact ⟨⟨_, rfl, by rw [HL.out, List.append_nil]; exact HS1.out.1.stmts hdn (fun p hp => ⟨(HS1.out.2 p hp).1.weak fun b hb => hb.1, (HS1.out.2 p hp).2⟩)⟩, HP1.out, HRE.out⟩
end Go.Proofs.YtjgbkdbkachciaaGreatDoor

namespace Go.Proofs.YtjgbkdbkachciaaGreatDoor
open Go.RowKit Go.Shelf
attribute [local go_sem] Oper.semAt_some

set_option maxRecDepth 100000 in
set_option maxHeartbeats 2000000 in
/-- no things with commas between -/
theorem commas_none (pb tb : Nat) (t : Tok) (r : List Tok) (fv : Value) (w : World) (h : PS w pb tb (t :: r)) (hx : tokIs t [41] = true) (hr : r ≠ []) :
    Calls Tryz.prog 113 #[.pointer (some ⟨pb, 0, none⟩), fv] w fun e w' => (∃ v, e = .returned v) ∧ PG w pb tb r w' := by
  have HTK := Lib.hid (take_yes pb tb t r [41] w h hx hr)
  clear h hx hr
  go_enter Tryz.func113, Tryz.ntmps113
  go_wp2_with (first
    | (go_at_call 74; refine HTK.out.mono ?_; rintro e' w1 ⟨rfl, hp1⟩; have HP1 := Lib.hid hp1; clear hp1))
  refine bodyPost_ret (results_none rfl _ _ _) rfl ?_
  exact ⟨⟨_, rfl⟩, HP1.out⟩

theorem heap_at {w : World} {o : Obj} {k : Nat} (h : k = w.heap.size) : (w.alloc o).heap[k]? = some o := by rw [h]; exact heap_new _ _
abbrev wInt : Str := [105, 110, 116]
abbrev fZ : Array Value := #[.string ⟨#[]⟩, .slice none 0 0, .slice none 0 0, .slice none 0 0]
/-- a function behind its name's parenthesis: so far, one without parameters and locals -/
def fnF (k g : Nat) (nm : Str) : List Tok → Option (LF × List Tok)
  | [] => none
  | t :: r => if tokIs t [41] then match wantF [[123]] r with
      | none => none
      | some [] => none
      | some (t2 :: r2) => if tokIs t2 wInt then none else (stsF k g (t2 :: r2)).map fun p => (⟨nm, [], [], p.1⟩, p.2)
    else none
def FnRet (w : World) (pb tb : Nat) (f : LF) (us : List Tok) (e : Ending) (w' : World) : Prop := ∃ bv, e = .returned (.agg #[S f.name, .slice none 0 0, .slice none 0 0, bv]) ∧ SX (w.heap.size ≤ ·) w' bv f.body ∧ PG w pb tb us w' ∧ f.params = [] ∧ f.locals = []

set_option maxRecDepth 100000 in
set_option maxHeartbeats 4000000 in
theorem function_yes (k g pb tb : Nat) (nm : Str) (ts us : List Tok) (f : LF) (w : World) (h : PS w pb tb ts) (he : Ended ts) (hg : g ≤ 100000) (hx : fnF k g nm ts = some (f, us)) :
    Calls Tryz.prog 76 #[.pointer (some ⟨pb, 0, none⟩), S nm] w fun e w' => FnRet w pb tb f us e w' ∧ Ended us := by
  obtain ⟨t, r, rfl⟩ := he.cons
  have hpl := h.lt
  have htl := h.tlt
  rw [fnF] at hx
  cases htk : tokIs t [41]
  case false => rw [htk] at hx; simp at hx
  rw [htk] at hx
  simp only [if_true] at hx
  obtain ⟨hrne, hre⟩ := he.tail (tokIs_kind htk)
  cases hwt : wantF [[123]] r with
  | none => rw [hwt] at hx; cases hx
  | some rr =>
    cases rr with
    | nil => rw [hwt] at hx; cases hx
    | cons t2 r2 =>
      rw [hwt] at hx
      simp only [] at hx
      obtain ⟨hn2, he2⟩ := hre.want hwt
      cases hin : tokIs t2 wInt
      case true => rw [hin] at hx; simp at hx
      rw [hin] at hx
      simp only [Bool.false_eq_true, if_false] at hx
      obtain ⟨⟨l, us2⟩, hst, hx2⟩ := Option.map_eq_some_iff.1 hx
      clear hx
      simp only [Prod.mk.injEq] at hx2
      obtain ⟨rfl, rfl⟩ := hx2
      have HCO := Lib.hid (fun W fv (hh : PS W pb tb (t :: r)) => commas_none pb tb t r fv W hh htk hrne)
      have HWA := Lib.hid (fun W sb (hh : PS W pb tb r) (hs : Row W sb 9 ([[123]].map S)) => want_yes pb tb sb 1 1 [[123]] r (t2 :: r2) W hh hs rfl hwt hn2 (by simp))
      have HTK := Lib.hid (fun W (hh : PS W pb tb (t2 :: r2)) => take_no pb tb t2 r2 wInt W hh hin)
      have HST := Lib.hid (fun W (hh : PS W pb tb (t2 :: r2)) => stmts_yes k pb tb g (t2 :: r2) us2 l W hh he2 hg hst)
      have HP0 := Lib.hid h
      obtain ⟨n, hn⟩ : ∃ n, n = w.heap.size := ⟨_, rfl⟩
      clear h he htk hrne hre hwt hn2 he2 hin hst hg
      go_enter Tryz.func76, Tryz.ntmps76
      go_upto_region 2 with (first
        | (refine store_first 52 (.tmp 5) (.tmp 7) rfl ?_; refine wpList_store_row rfl 52 (.tmp 5) (.tmp 7) rfl (w.heap.size + 1 + 1) _ rfl rfl 52 fZ (heap_at (by simp)) (by kernel_rfl) (by rfl) (by simp [Value.oneCell']) ?_))
      obtain ⟨w3, hw3⟩ : ∃ w3, w3 = ((((w.alloc (.cells #[.pointer (some ⟨pb, 0, none⟩)] 89)).alloc (.cells fZ 52)).alloc (.cells fZ 52)).setRow (w.heap.size + 1 + 1) #[S nm, .slice none 0 0, .slice none 0 0, .slice none 0 0]) := ⟨_, rfl⟩
      have hr3 : Row w3 w.heap.size 89 [.pointer (some ⟨pb, 0, none⟩)] := by
        rw [hw3]; exact (setRow_other _ _ _ _ (by omega)).trans (heap_old _ _ (heap_old _ _ (heap_new _ _)))
      have hk3 : Row w3 (w.heap.size + 1) 52 [.string ⟨#[]⟩, .slice none 0 0, .slice none 0 0, .slice none 0 0] := by
        rw [hw3]; exact (setRow_other _ _ _ _ (by omega)).trans (heap_old _ _ (heap_at (by simp)))
      have hf3 : Row w3 (w.heap.size + 1 + 1) 52 [S nm, .slice none 0 0, .slice none 0 0, .slice none 0 0] := by
        rw [hw3]; exact setRow_heap _ _ _ _ _ _ (heap_at (by simp))
      have hp3 : PG w pb tb (t :: r) w3 := by
        rw [hw3]; exact (PG.start HP0.out (((below_a1 w _).alloc (by simp) _).alloc (by simp; omega) _)).new (by omega) setRow_grown htl hpl
      have hz3 := hp3.1.size
      have hl3 := hf3.lt
      have c0 := hr3.cell 0
      simp only [List.getElem?_cons_zero] at c0
      rw [← hw3]
      have HR3 := Lib.hid hr3
      have HK3 := Lib.hid hk3
      have HF3 := Lib.hid hf3
      have HP3 := Lib.hid hp3
      clear hw3 hr3 hk3 hf3 hp3
      go_upto_region 3 with (first
        | (go_at_call 113; refine (HCO.out w3 _ HP3.out.2).mono ?_; rintro e' w4 ⟨⟨v4, rfl⟩, hp4⟩; have HP4 := Lib.hid (HP3.out.trans hp4); have hr4 := hp4.row HR3.out (by omega); have HR4 := Lib.hid hr4; have HK4 := Lib.hid (hp4.row HK3.out (by omega)); have HF4 := Lib.hid (hp4.row HF3.out (by omega)); clear hp4 c0; have c0 := hr4.cell 0; simp only [List.getElem?_cons_zero] at c0; clear hr4))
      have hz4 := HP4.out.1.size
      go_upto_region 4 with (first
        | (go_at_call 72; refine (HWA.out _ w4.heap.size (HP4.out.2.ext (below_a1 _ _)) (heap_new _ _)).mono ?_; rintro e' w5 ⟨⟨v5, rfl⟩, hp5⟩; have HP5 := Lib.hid ((HP4.out.below (below_a1 _ _)).trans hp5); have hr5 := hp5.row (heap_old _ _ HR4.out) (by omega); have HR5 := Lib.hid hr5; have HK5 := Lib.hid (hp5.row (heap_old _ _ HK4.out) (by omega)); have HF5 := Lib.hid (hp5.row (heap_old _ _ HF4.out) (by omega)); clear hp5 c0; have c0 := hr5.cell 0; simp only [List.getElem?_cons_zero] at c0; clear hr5))
      go_loopg [] 0 (fun gh wr => wr = w5)
      case atStart => rfl
      case round =>
        obtain rfl := hrel
        obtain ⟨wo, rfl⟩ : ∃ wo, wo = wr := ⟨_, rfl⟩
        have hz5 := HP5.out.1.size
        go_upto_region 7 with (first
          | (go_at_call 74; refine (HTK.out wo HP5.out.2).mono ?_; rintro e' w6 ⟨rfl, hb6⟩; have HP6 := Lib.hid (HP5.out.below hb6); have hr6 := HR5.out.ext hb6; have HR6 := Lib.hid hr6; have HK6 := Lib.hid (HK5.out.ext hb6); have HF6 := Lib.hid (HF5.out.ext hb6); clear hb6 c0; have c0 := hr6.cell 0; simp only [List.getElem?_cons_zero] at c0; clear hr6))
        have hz6 := HP6.out.1.size
        have hl6 := HF6.out.lt
        go_upto_region 8 with (first
          | (go_at_call 115; refine (HST.out w6 HP6.out.2).mono ?_; rintro e' w7 ⟨⟨bv, rfl, hb⟩, hp7, hen⟩; obtain ⟨ba, bc, rfl⟩ := hb.slice; have HB7 := Lib.hid (hb.weak (B' := (w.heap.size + 3 ≤ ·)) (fun b hb => by omega)); have HEN := Lib.hid hen; have HP7 := Lib.hid (HP6.out.trans hp7); have HK7 := Lib.hid (hp7.row HK6.out (by omega)); have hf7 := hp7.row HF6.out (by omega); have HF7 := Lib.hid hf7; clear hp7 c0 hb hen; have c3 := hf7.cell 3; have f3 := hf7.frozen 3; simp only [List.getElem?_cons_zero, List.getElem?_cons_succ] at c3; clear hf7))
        obtain ⟨w8, hw8⟩ : ∃ w8, w8 = w7.setCell ⟨w.heap.size + 1 + 1, 3, none⟩ (.slice ba l.length bc) := ⟨_, rfl⟩
        have hg8 : w7.grownBy w8 (some (w.heap.size + 1 + 1)) := by rw [hw8]; exact setCell_grown _ _ _ _
        have hf8 : Row w8 (w.heap.size + 1 + 1) 52 [S nm, .slice none 0 0, .slice none 0 0, .slice ba l.length bc] := by rw [hw8]; exact HF7.out.set 3 _
        have HK8 := Lib.hid (HK7.out.kept hg8 (by simp))
        have HP8 := Lib.hid (HP7.out.new (by omega) hg8 htl hpl)
        have HB8 := Lib.hid (HB7.out.grown hg8 (fun r e => by cases e; omega))
        have d0 := hf8.cell 0
        have d1 := hf8.cell 1
        have d2 := hf8.cell 2
        have d3 := hf8.cell 3
        simp only [List.getElem?_cons_succ, List.getElem?_cons_zero] at d0 d1 d2 d3
        rw [← hw8]
        clear hw8 hg8 hf8 c3 f3
        go_wp2_with (first
          | (refine store_first 52 (.tmp 4) (.tmp 29) rfl ?_; refine wpList_store_row rfl 52 (.tmp 4) (.tmp 29) rfl (w.heap.size + 1) _ rfl rfl 52 fZ HK8.out (by kernel_rfl) (by rfl) (by simp [Value.oneCell']) ?_))
        refine bodyPost_ret (results_cell_row rfl _ _ (w.heap.size + 1) 52 _ (0, 0) _ rfl (setRow_heap _ _ _ _ _ _ HK8.out) Tryz.underlying52 rfl (by kernel_rfl)) rfl ?_
        exact ⟨⟨_, rfl, (HB8.out.grown setRow_grown (fun r e => by cases e; omega)).weak fun b hb => by omega, HP8.out.new (by omega) setRow_grown htl hpl, rfl, rfl⟩, HEN.out⟩
end Go.Proofs.YtjgbkdbkachciaaGreatDoor
