import Derived.Test.YtjgbkdbkachciaaGreatDoorT4
import Derived.Recover
namespace Go.Proofs.YtjgbkdbkachciaaGreatDoor
open Go.RowKit Go.Shelf
attribute [local go_sem] Oper.semAt_some

/-! ### what lies in memory of a function, and of a program -/
def RStr (_ : World) (C : Nat → Value) (x : Str) : Prop := C 0 = S x
def RArr (_ : World) (C : Nat → Value) (x : LA) : Prop := C 0 = S x.name ∧ C 1 = I x.size
def RF (B : Nat → Prop) (W : World) (C : Nat → Value) (f : LF) : Prop := C 0 = S f.name ∧ RSlB B 1 RStr W (C 1) f.params ∧ RSlB B 1 RStr W (C 2) f.locals ∧ SX B W (C 3) f.body
theorem RF.grown {B : Nat → Prop} {w w' : World} {row : Option Nat} (hg : w.grownBy w' row) (hB : ∀ r, row = some r → ¬ B r) {C : Nat → Value} {f : LF} (h : RF B w C f) : RF B w' C f :=
  ⟨h.1, h.2.1.grown hg hB fun _ _ h => h, h.2.2.1.grown hg hB fun _ _ h => h, h.2.2.2.grown hg hB⟩
theorem RF.weak {B B' : Nat → Prop} {w : World} (hB : ∀ b, B b → B' b) {C : Nat → Value} {f : LF} (h : RF B w C f) : RF B' w C f :=
  ⟨h.1, h.2.1.weak hB fun _ _ h => h, h.2.2.1.weak hB fun _ _ h => h, h.2.2.2.weak hB⟩
/-- a program -/
structure PX (B : Nat → Prop) (W : World) (av fv : Value) (p : LP) : Prop where
  arrays : RSlB B 2 RArr W av p.arrays
  funcs : RSlB B 4 (RF B) W fv p.funcs
theorem PX.grown {B : Nat → Prop} {w w' : World} {row : Option Nat} (hg : w.grownBy w' row) (hB : ∀ r, row = some r → ¬ B r) {av fv : Value} {p : LP} (h : PX B w av fv p) : PX B w' av fv p :=
  ⟨h.1.grown hg hB fun _ _ h => h, h.2.grown hg hB fun _ _ h => h.grown hg hB⟩
theorem PX.alloc {B : Nat → Prop} {w : World} {o : Obj} {av fv : Value} {p : LP} (h : PX B w av fv p) : PX B (w.alloc o) av fv p := h.grown (alloc_grown w o none) (fun r e => by cases e)
theorem PX.below {B : Nat → Prop} {w w' : World} {av fv : Value} {p : LP} (h : PX B w av fv p) (hb : Below w.heap.size w w') : PX B w' av fv p := h.grown (below_grown hb none) (fun r e => by cases e)
theorem PX.weak {B B' : Nat → Prop} {w : World} (hB : ∀ b, B b → B' b) {av fv : Value} {p : LP} (h : PX B w av fv p) : PX B' w av fv p :=
  ⟨h.1.weak hB fun _ _ h => h, h.2.weak hB fun _ _ h => h.weak hB⟩
theorem PX.slice {B : Nat → Prop} {w : World} {av fv : Value} {p : LP} (h : PX B w av fv p) : ∃ a c a' c', av = .slice a p.arrays.length c ∧ fv = .slice a' p.funcs.length c' := by
  obtain ⟨⟨a, c, h1, _⟩, ⟨a', c', h2, _⟩⟩ := h
  exact ⟨a, c, a', c', h1, h2⟩

structure FA where
  f : LF
  a : Option Addr
  c : Nat
abbrev FA.bv (p : FA) : Value := .slice p.a p.f.body.length p.c
def fEnc (p : FA) : List Value := [S p.f.name, .slice none 0 0, .slice none 0 0, p.bv]
theorem fEnc_len (p : FA) : (fEnc p).length = 4 := rfl
theorem fEnc_one (p : FA) : ∀ u ∈ fEnc p, u.oneCell' = true := by intro u hu; simp [fEnc] at hu; rcases hu with rfl | rfl | rfl | rfl <;> rfl
theorem slFunc : SlT 25 52 4 88 := SlT.mk' (z := .agg #[.string ByteArray.empty, .slice none 0 0, .slice none 0 0, .slice none 0 0]) Tryz.underlying25 (by kernel_rfl) rfl (by decide)

/-- a program: so far, of one function alone -/
def prF (k g : Nat) : List Tok → Option (LF × List Tok)
  | [] => none
  | t :: r => if t.kind = 5 then none else match wantF [wInt] (t :: r) with
    | none => none
    | some [] => none
    | some (t2 :: r2) => if t2.kind ≠ 1 then none else match r2 with
      | [] => none
      | t3 :: r3 => if tokIs t3 [91] then none else match wantF [[40]] (t3 :: r3) with
        | none => none
        | some us => match fnF k g t2.text us with
          | none => none
          | some (_f, []) => none
          | some (f, e :: vs) => if e.kind = 5 then some (f, e :: vs) else none

abbrev pZ : Array Value := #[.slice none 0 0, .slice none 0 0]
set_option maxRecDepth 100000 in
set_option maxHeartbeats 4000000 in
theorem prog_yes (k g pb tb : Nat) (ts us : List Tok) (f : LF) (w : World) (h : PS w pb tb ts) (he : Ended ts) (hg : g ≤ 100000) (hx : prF k g ts = some (f, us)) :
    Calls Tryz.prog 42 #[.pointer (some ⟨pb, 0, none⟩)] w fun e w' => ∃ fv, e = .returned (.agg #[.slice none 0 0, fv]) ∧ PX (w.heap.size ≤ ·) w' (.slice none 0 0) fv ⟨[], [f]⟩ ∧ PG w pb tb us w' ∧ ∃ t r, us = t :: r ∧ t.kind = 5 := by
  obtain ⟨t, r, rfl⟩ := he.cons
  have hpl := h.lt
  have htl := h.tlt
  rw [prF] at hx
  split at hx
  · cases hx
  next ht5 =>
  cases hw1 : wantF [wInt] (t :: r) with
  | none => rw [hw1] at hx; cases hx
  | some q =>
  cases q with
  | nil => rw [hw1] at hx; cases hx
  | cons t2 r2 =>
  rw [hw1] at hx
  simp only [] at hx
  split at hx
  · cases hx
  next ht1 =>
  cases r2 with
  | nil => cases hx
  | cons t3 r3 =>
  simp only [] at hx
  cases ht3 : tokIs t3 [91]
  case true => rw [ht3] at hx; simp at hx
  rw [ht3] at hx
  simp only [Bool.false_eq_true, if_false] at hx
  cases hw2 : wantF [[40]] (t3 :: r3) with
  | none => rw [hw2] at hx; cases hx
  | some us1 =>
  rw [hw2] at hx
  simp only [] at hx
  cases hf : fnF k g t2.text us1 with
  | none => rw [hf] at hx; cases hx
  | some q =>
  obtain ⟨f', vs⟩ := q
  rw [hf] at hx
  cases vs with
  | nil => cases hx
  | cons e vs =>
  simp only [] at hx
  split at hx
  case isFalse => cases hx
  next he5 =>
  simp only [Option.some.injEq, Prod.mk.injEq] at hx
  obtain ⟨rfl, rfl⟩ := hx
  have ht1' : t2.kind = 1 := by omega
  obtain ⟨hn1, he1⟩ := he.want hw1
  obtain ⟨hn3, he3⟩ := he1.tail (by omega)
  obtain ⟨hn4, he4⟩ := he3.want hw2
  have ht5n : (t.kind != 5) = true := by rw [bne_iff_ne]; exact ht5
  have he5n : (e.kind != 5) = false := by rw [he5]; rfl
  have hfd := tok_f0
  have HNX := Lib.hid (fun W (hh : PS W pb tb (t :: r)) => next_yes pb tb t r W hh)
  have HWI := Lib.hid (fun W sb (hh : PS W pb tb (t :: r)) (hs : Row W sb 9 ([wInt].map S)) => want_yes pb tb sb 1 1 [wInt] (t :: r) (t2 :: t3 :: r3) W hh hs rfl hw1 hn1 (by simp))
  have HNM := Lib.hid (fun W (hh : PS W pb tb (t2 :: t3 :: r3)) => pname_yes pb tb t2 (t3 :: r3) W hh hn3 ht1')
  have HBR := Lib.hid (fun W (hh : PS W pb tb (t3 :: r3)) => take_no pb tb t3 r3 [91] W hh ht3)
  have HWP := Lib.hid (fun W sb (hh : PS W pb tb (t3 :: r3)) (hs : Row W sb 9 ([[40]].map S)) => want_yes pb tb sb 1 1 [[40]] (t3 :: r3) us1 W hh hs rfl hw2 hn4 (by simp))
  have HFN := Lib.hid (fun W (hh : PS W pb tb us1) => function_yes k g pb tb t2.text us1 (e :: vs) f' W hh he4 hg hf)
  have HNE := Lib.hid (fun W (hh : PS W pb tb (e :: vs)) => next_yes pb tb e vs W hh)
  have HE5 := Lib.hid he5
  obtain ⟨w1, hw1'⟩ : ∃ w1, w1 = w.alloc (.cells pZ 27) := ⟨_, rfl⟩
  have hwe : w.alloc (.cells pZ 27) = w1 := hw1'.symm
  have hb1 : Below w.heap.size w w1 := by rw [hw1']; exact below_a1 _ _
  have HR1 := Lib.hid (show Row w1 w.heap.size 27 [.slice none 0 0, .slice none 0 0] by rw [hw1']; exact heap_new _ _)
  have HP1 := Lib.hid (PG.start h hb1)
  clear h he hw1 hw2 hf he1 hn1 hn3 he3 hn4 he4 ht1 ht1' ht3 hg hw1' hb1 ht5 he5
  go_enter Tryz.func42, Tryz.ntmps42
  go_wp2
  go_loopg [3] 1 (fun gh v3 wr => (gh = 1 ∧ wr = w1) ∨ (gh = 0 ∧ Hid (PG w pb tb (e :: vs) wr ∧ ∃ fv, Row wr w.heap.size 27 [.slice none 0 0, fv] ∧ PX (w.heap.size + 1 ≤ ·) wr (.slice none 0 0) fv ⟨[], [f']⟩)))
  case atStart => exact .inl ⟨rfl, rfl⟩
  case round =>
    rcases hrel with ⟨rfl, rfl⟩ | ⟨rfl, HH⟩
    · obtain ⟨wo, rfl⟩ : ∃ wo, wo = wr := ⟨_, rfl⟩
      clear hwe
      have hz1 := HP1.out.1.size
      have hl1 := HR1.out.lt
      go_upto_region 2 with (first
        | (go_at_call 70; refine (HNX.out wo HP1.out.2).mono ?_; rintro e' w2 ⟨rfl, hb2⟩; have HP2 := Lib.hid (HP1.out.below hb2); have HR2 := Lib.hid (HR1.out.ext hb2); have hz2 := hb2.size; clear hb2))
      go_upto_region 4 with (first
        | (go_at_call 72; refine (HWI.out _ w2.heap.size (HP2.out.2.ext (below_a1 _ _)) (heap_new _ _)).mono ?_; rintro e' w3 ⟨⟨v3, rfl⟩, hp3⟩; have HR3 := Lib.hid (hp3.row (heap_old _ _ HR2.out) (by omega)); have HP3 := Lib.hid ((HP2.out.below (below_a1 _ _)).trans hp3); clear hp3)
        | (go_at_call 73; refine (HNM.out w3 HP3.out.2).mono ?_; rintro e' w4 ⟨rfl, hp4⟩; have hr4 := hp4.row HR3.out (by omega); have c1 := hr4.cell 1; have HR4 := Lib.hid hr4; have HP4 := Lib.hid (HP3.out.trans hp4); simp only [List.getElem?_cons_zero, List.getElem?_cons_succ] at c1; clear hr4 hp4))
      go_upto_region 7 with (first
        | (go_at_call 74; refine (HBR.out w4 HP4.out.2).mono ?_; rintro e' w5 ⟨rfl, hb5⟩; have HR5 := Lib.hid (HR4.out.ext hb5); have HP5 := Lib.hid (HP4.out.below hb5); clear hb5))
      clear c1
      go_upto_region 8 with (first
        | (go_at_call 72; refine (HWP.out _ w5.heap.size (HP5.out.2.ext (below_a1 _ _)) (heap_new _ _)).mono ?_; rintro e' w6 ⟨⟨v6, rfl⟩, hp6⟩; have hr6 := hp6.row (heap_old _ _ HR5.out) (by omega); have c1 := hr6.cell 1; have HR6 := Lib.hid hr6; have HP6 := Lib.hid ((HP5.out.below (below_a1 _ _)).trans hp6); simp only [List.getElem?_cons_zero, List.getElem?_cons_succ] at c1; clear hr6 hp6))
      refine wp_region_ordW (by kernel_rfl) (fun W => W.cell? ⟨w.heap.size, 1, none⟩ = some (.slice none 0 0)) [(0, 0), (0, 1), (0, 2), (0, 3), (1, 4), (1, 5), (1, 6), (0, 7), (2, 8)] (by kernel_rfl) ?hS ?_
      case hS => intro wd hh; simp only [World.cell?, hh] at c1 ⊢; exact c1
      intro wd hh hgd hS
      have HR7 := Lib.hid (HR6.out.kept hgd (by simp))
      have hp7 : PG w pb tb us1 wd := HP6.out.own hgd (fun r e => by cases e) htl hpl
      have HP7 := Lib.hid hp7
      clear c1 hh hgd hp7
      simp only [pickOps, List.map_cons, List.map_nil, List.getElem?_cons_zero, List.getElem?_cons_succ, Option.getD_some]
      repeat (refine wpOrd_look (v := ?_) (by rfl) ?_ (by assumption) (fun _ _ _ h => h) ?_; rotate_left; (· (intro wS hSw; (try dsimp only at hSw); go_simp; (first | done | with_reducible rfl))); simp only [Act.put, List.setIfInBounds_toArray, List.set_cons_zero, List.set_cons_succ])
      refine wpOrd_turn ?_
      go_wp2_with (first
        | (go_at_call 76; refine (HFN.out wd HP7.out.2).mono ?_; rintro e' w8 ⟨⟨bv, rfl, hb, hp8, hfp, hfl⟩, hen⟩; obtain ⟨ba, bc, rfl⟩ := hb.slice; have HB8 := Lib.hid hb; have hr8 := hp8.row HR7.out (by omega); have HR8 := Lib.hid hr8; have HP8 := Lib.hid (HP7.out.trans hp8); have HFP := Lib.hid hfp; have HFL := Lib.hid hfl; clear hb hr8 hp8 hfp hfl hen))
      refine QN_keep (HR8.out.cell 1) fun hS => ?_
      have hz7 := HP7.out.1.size
      have hl7 := HR7.out.lt
      have hz8 := HP8.out.1.size
      refine wpOrd_turn ?_
      go_wp2
      refine QN_keep (Row.cell (heap_old _ _ HR8.out) 1) fun hS => ?_
      obtain ⟨w9, hw9⟩ : ∃ w9, w9 = w8.alloc (.cells #[S f'.name, .slice none 0 0, .slice none 0 0, .slice ba f'.body.length bc] 52) := ⟨_, rfl⟩
      have hn9 : w9.heap[w8.heap.size]? = some (.cells #[S f'.name, .slice none 0 0, .slice none 0 0, .slice ba f'.body.length bc] 52) := by rw [hw9]; exact heap_new _ _
      have HR9 := Lib.hid (show Row w9 w.heap.size 27 [.slice none 0 0, .slice none 0 0] by rw [hw9]; exact heap_old _ _ HR8.out)
      have HP9 := Lib.hid (show PG w pb tb (e :: vs) w9 by rw [hw9]; exact HP8.out.below (below_a1 _ _))
      have HB9 := Lib.hid (show SX (wd.heap.size ≤ ·) w9 (.slice ba f'.body.length bc) f'.body by rw [hw9]; exact HB8.out.alloc)
      rw [← hw9] at hS ⊢
      have HN9 := Lib.hid hn9
      have hz9 : w8.heap.size < w9.heap.size := by rw [hw9]; simp
      clear hw9 hn9
      refine wpOrd_turn ?_
      go_wp2_with (first
        | (at_builtin; refine wpList_appS slFunc rfl _ _ rfl fEnc_len fEnc_one (w.heap.size + 1) (.slice none 0 0) [] rfl OwnS.nil w8.heap.size ⟨f', ba, bc⟩ rfl (fun j hj => (cell_of_block HN9.out j).trans (by simp [fEnc, FA.bv])) (by simp) (by omega) (by omega) ?_; intro g2 cap2 w10 ho10 hg10 hat10 hlt10; have HO10 := Lib.hid ho10; have HG10 := Lib.hid hg10; clear ho10 hg10 hat10))
      have HR10 := Lib.hid (HR9.out.kept HG10.out (by simp [Value.ownBlock]))
      refine QN_keep (HR10.out.cell 1) fun hS => ?_
      repeat (refine wpOrd_look (v := ?_) (by rfl) ?_ (by assumption) (fun _ _ _ h => h) ?_; rotate_left; (· (intro wS hSw; (try dsimp only at hSw); go_simp; (first | done | with_reducible rfl))); simp only [Act.put, List.setIfInBounds_toArray, List.set_cons_zero, List.set_cons_succ])
      refine wpOrd_last ?_
      have f1 := HR10.out.frozen 1
      go_wp2
      refine QN_normal (wpOrd_nil ?_)
      go_wp2
      go_roundg 0
      case measure => omega
      case rel =>
        refine .inr ⟨rfl, Lib.hid ⟨?_, _, HR10.out.set 1 _, ?_⟩⟩
        · exact ((HP9.out.own HG10.out (fun r e => by cases e) htl hpl).own (setCell_grown _ _ _ _) (fun r e => by cases e; omega) htl hpl)
        · refine ⟨RSlB.nil _ _ _ _, ?_⟩
          have hb10 : SX (w.heap.size + 1 ≤ ·) w10 (.slice ba f'.body.length bc) f'.body := (HB9.out.grown HG10.out (fun r e => by cases e)).weak fun b hb => by omega
          have hr10 : RSlB (w.heap.size + 1 ≤ ·) 4 (RF (w.heap.size + 1 ≤ ·)) w10 (.slice (some ⟨g2, 0, none⟩) 1 cap2) [f'] := by
            refine OwnS.rslB (l := [⟨f', ba, bc⟩]) FA.f HO10.out fEnc_len (by simp) fun x hx => ?_
            obtain rfl := List.mem_singleton.1 hx
            exact ⟨rfl, by rw [HFP.out]; exact RSlB.nil _ _ _ _, by rw [HFL.out]; exact RSlB.nil _ _ _ _, hb10⟩
          exact hr10.grown (setCell_grown _ _ _ _) (fun r e => by cases e; omega) (fun C x h => h.grown (setCell_grown _ _ _ _) (fun r e => by cases e; omega))
    · obtain ⟨wo, rfl⟩ : ∃ wo, wo = wr := ⟨_, rfl⟩
      obtain ⟨hp, fv, hr, hpx⟩ := HH.out
      have HP := Lib.hid hp
      have HR := Lib.hid hr
      have HX := Lib.hid hpx
      clear hp hr hpx
      go_wp2_with (first
        | (go_at_call 70; refine (HNE.out wo HP.out.2).mono ?_; rintro e' w2 ⟨rfl, hb2⟩; have HP2 := Lib.hid (HP.out.below hb2); have HR2 := Lib.hid (HR.out.ext hb2); have HX2 := Lib.hid (HX.out.below hb2); clear hb2))
      refine bodyPost_ret (results_cell_row rfl _ _ w.heap.size 27 _ (0, 0) _ rfl HR2.out Tryz.underlying27 rfl (by kernel_rfl)) rfl ?_
      exact ⟨fv, rfl, HX2.out.weak fun b hb => by omega, HP2.out, e, vs, rfl, HE5.out⟩
end Go.Proofs.YtjgbkdbkachciaaGreatDoor

namespace Go.Proofs.YtjgbkdbkachciaaGreatDoor
open Go.RowKit Go.Shelf
attribute [local go_sem] Oper.semAt_some

theorem assert_nil (w : World) : (Instr.typeAssert Value.nilIface 20 114 true).run Tryz.prog w = .ok (.tuple #[.agg #[I 0], .bool false]) w := by kernel_rfl
set_option maxRecDepth 100000 in
set_option maxHeartbeats 400000 in
theorem whole1_idle (p4 p5 p6 : Value) (w : World) :
    CallsD Tryz.prog 69 #[p4, p5, p6] .returning w fun e u' w' => e = .returned (.tuple #[]) ∧ u' = .returning ∧ Below w.heap.size w w' := by
  refine callsD_of_wpS Tryz.func69 rfl fun c₀ cs hu => ?_
  apply wpS_seq
  apply wpS_region
  have hta := assert_nil
  simp [wpOpsS, go_sem, recoverD, hu, Tryz.ntmps69, Exit.thenS, hta]
  apply wpS_seq
  apply wpS_region
  simp [wpOpsS, go_sem, Exit.thenS]
  refine wpS_cond (t := false) (by simp [Act.eval, Array.replicate]) ?_
  simp only [Bool.false_eq_true, if_false]
  refine wpS_of_wp (wp_skip ?_)
  have hb := below_a1 w (.cells #[.int .i64 0] 114)
  cases c₀
  simp_all [bodyPostS, results, Tryz.results69]
/-- what was scanned, as a parser's own -/
theorem toks_of {w : World} {base : Nat} {v : Value} {toks : List Tok} (h : OwnS 4 119 tEnc w base v toks) (hne : toks ≠ []) : ∃ tb c, v = .slice (some ⟨tb, 0, none⟩) toks.length c ∧ toks.length ≤ c ∧ base ≤ tb ∧ tb < w.heap.size ∧ Toks w tb 0 toks := by
  have h0 : 0 < toks.length := List.length_pos_iff.2 hne
  have hcell : ∀ i, (hi : i < toks.length) → _ := fun i hi => OwnS.cell h tEnc_len hi
  rcases h.2 with ⟨rfl, h1⟩ | ⟨g, cap, cur, rfl, hb, hg, hc, _⟩
  · omega
  · refine ⟨g, cap, rfl, hc, hb, (Array.getElem?_eq_some_iff.1 hg).1, fun i t ht j hj => ?_⟩
    have hi : i < toks.length := (List.getElem?_eq_some_iff.1 ht).1
    obtain ⟨g2, c2, hv, _, hcl⟩ := hcell i hi
    simp only [Value.slice.injEq, Option.some.injEq, Addr.mk.injEq] at hv
    obtain rfl : g2 = g := hv.1.1.symm
    rw [Nat.zero_add, (hcl j hj).1]
    have : toks[i] = t := by
      rw [List.getElem?_eq_getElem hi] at ht
      exact Option.some.inj ht
    rw [this]
theorem ended_of_prF {k g : Nat} {ts us : List Tok} {f : LF} (h : prF k g ts = some (f, us)) : ts ≠ [] := by
  rintro rfl
  cases h
end Go.Proofs.YtjgbkdbkachciaaGreatDoor

namespace Go.Proofs.YtjgbkdbkachciaaGreatDoor
open Go.RowKit Go.Shelf
attribute [local go_sem] Oper.semAt_some

theorem PS.grown {W W' : World} {pb tb : Nat} {ts : List Tok} {row : Option Nat} (h : PS W pb tb ts) (hg : W.grownBy W' row) (h1 : some pb ≠ row) (h2 : some tb ≠ row) : PS W' pb tb ts := by
  obtain ⟨o, c, k1, k2, k3, k4⟩ := h
  exact ⟨o, c, k1, grown_old hg k2 h1, k3, k4.ext hg h2⟩
theorem results_whole {tmps : Array Value} {w : World} {n : Nat} {a b x y : Value} (h4 : tmps.getD 4 undef = .pointer (some ⟨n, 0, none⟩)) (h5 : tmps.getD 5 undef = .pointer (some ⟨n + 1, 0, none⟩)) (h6 : tmps.getD 6 undef = .pointer (some ⟨n + 1 + 1, 0, none⟩))
    (hr : Row w n 27 [a, b]) (hs : Row w (n + 1) 44 [x]) (ht : Row w (n + 1 + 1) 3 [y]) : (results Tryz.f41 tmps).run Tryz.prog w = .ok (.tuple #[.agg #[a, b], x, y]) w := by
  have h4' : tmps[4]?.getD undef = .pointer (some ⟨n, 0, none⟩) := by simpa using h4
  have h5' : tmps[5]?.getD undef = .pointer (some ⟨n + 1, 0, none⟩) := by simpa using h5
  have h6' : tmps[6]?.getD undef = .pointer (some ⟨n + 1 + 1, 0, none⟩) := by simpa using h6
  have s0 := hs.cell 0
  have t0 := ht.cell 0
  simp only [List.getElem?_cons_zero] at s0 t0
  have r0 := hr.cell 0
  have r1 := hr.cell 1
  simp only [List.getElem?_cons_zero, List.getElem?_cons_succ] at r0 r1
  simp [results, h4', h5', h6', asAddr, go_sem, r0, r1, s0, t0]
set_option maxRecDepth 100000 in
set_option maxHeartbeats 4000000 in
theorem whole_yes (l0 : Str) (ha : Asc l0) (hl : l0.length ≤ 20000) (fuel k g : Nat) (toks us : List Tok) (f : LF) (ht : scanF fuel 1 l0 = some toks) (hg : g ≤ 100000) (he : Ended toks) (hp : prF k g toks = some (f, us)) (w : World) :
    Calls Tryz.prog 41 #[S l0, .func (.func 42) #[] #[]] w fun e w' => ∃ fv, e = .returned (.tuple #[.agg #[.slice none 0 0, fv], I 0, I 0]) ∧ PX (w.heap.size ≤ ·) w' (.slice none 0 0) fv ⟨[], [f]⟩ ∧ Below w.heap.size w w' := by
  have hmf : ∀ (fn : Fn) (first cap : Array Value) (w : World), (Instr.makeFunc fn first cap).run Tryz.prog w = .ok (.func fn first cap) w := fun _ _ _ _ => rfl
  have hfd := tok_f0
  have HSC := Lib.hid (fun W => scan_yes l0 ha hl fuel toks ht W)
  have HPR := Lib.hid (fun W pb tb (hh : PS W pb tb toks) => prog_yes k g pb tb toks us f W hh he hg hp)
  have hne := ended_of_prF hp
  have HNE := Lib.hid hne
  clear ha hl ht hg he hp hne
  go_enter_defers Tryz.func41, Tryz.ntmps41
  go_upto_region 1 with (fail)
  obtain ⟨w0, hw0⟩ : ∃ w0, w0 = ((w.alloc (.cells pZ 27)).alloc (.cells #[.int .i64 0] 44)).alloc (.cells #[.int .i64 0] 3) := ⟨_, rfl⟩
  have hr0 : Row w0 w.heap.size 27 [.slice none 0 0, .slice none 0 0] := by rw [hw0]; exact heap_old _ _ (heap_old _ _ (heap_new _ _))
  have hs0 : Row w0 (w.heap.size + 1) 44 [.int .i64 0] := by rw [hw0]; exact heap_old _ _ (heap_at (by simp))
  have ht0 : Row w0 (w.heap.size + 1 + 1) 3 [.int .i64 0] := by rw [hw0]; exact heap_at (by simp)
  have hb0 : Below w.heap.size w w0 := by rw [hw0]; exact ((below_a1 w _).alloc (by simp) _).alloc (by simp; omega) _
  have hz0 := hb0.size
  have hl0 := ht0.lt
  rw [← hw0]
  have HB0 := Lib.hid hb0
  have HR0 := Lib.hid hr0
  have HS0 := Lib.hid hs0
  have HT0 := Lib.hid ht0
  clear hw0 hr0 hs0 ht0 hb0
  go_upto_region 2 with (first
    | (go_at_call 68; refine (HSC.out w0).mono ?_; rintro e' w1 ⟨v, rfl, ho, hb1⟩; obtain ⟨tb, c, rfl, hc, hbt, htl, htk⟩ := toks_of ho HNE.out; have hr1 := HR0.out.ext hb1; have hs1 := HS0.out.ext hb1; have ht1 := HT0.out.ext hb1; have s0 := hs1.cell 0; have t0 := ht1.cell 0; have s0f := hs1.frozen 0; have t0f := ht1.frozen 0; simp only [List.getElem?_cons_zero] at s0 t0; have HR1 := Lib.hid hr1; have HS1 := Lib.hid hs1; have HT1 := Lib.hid ht1; have HB1 := Lib.hid (HB0.out.trans (hb1.mono hz0)); have HTK := Lib.hid htk; clear ho hb1 htk hr1 hs1 ht1))
  have hz1 := HB1.out.size
  have hl1 := HT1.out.lt
  obtain ⟨w2, hw2⟩ : ∃ w2, w2 = ((w1.setCell ⟨w.heap.size + 1, 0, none⟩ (I 0)).setCell ⟨w.heap.size + 1 + 1, 0, none⟩ (I 0)) := ⟨_, rfl⟩
  have hg1 := setCell_grown w1 (w.heap.size + 1) 0 (I 0)
  have hg2 := setCell_grown (w1.setCell ⟨w.heap.size + 1, 0, none⟩ (I 0)) (w.heap.size + 1 + 1) 0 (I 0)
  rw [← hw2] at hg2
  have hR2 : Row w2 w.heap.size 27 [.slice none 0 0, .slice none 0 0] := (HR1.out.kept hg1 (by simp)).kept hg2 (by simp; omega)
  have hS2 : Row w2 (w.heap.size + 1) 44 [I 0] := by rw [hw2]; exact Row.kept (HS1.out.set 0 (I 0)) (setCell_grown _ _ _ _) (by simp)
  have hT2 : Row w2 (w.heap.size + 1 + 1) 3 [I 0] := by rw [hw2]; exact Row.set (HT1.out.kept hg1 (by simp)) 0 (I 0)
  have hB2 : Below w.heap.size w w2 := (HB1.out.grown hg1 (by omega) (fun r e => by cases e; omega)).grown hg2 (by have := hg1.size; omega) (fun r e => by cases e; omega)
  have hK2 : Toks w2 tb 0 toks := (HTK.out.ext hg1 (by simp; omega)).ext hg2 (by simp; omega)
  have hlt2 : tb < w2.heap.size := by have := hg1.size; have := hg2.size; omega
  rw [← hw2]
  have HR2 := Lib.hid hR2
  have HS2 := Lib.hid hS2
  have HT2 := Lib.hid hT2
  have HB2 := Lib.hid hB2
  have HK2 := Lib.hid hK2
  have s0 := hS2.cell 0
  simp only [List.getElem?_cons_zero] at s0
  clear hw2 hg1 hg2 hR2 hS2 hT2 hB2 hK2 t0 s0f t0f
  have hps : PS (w2.alloc (.cells #[.slice (some ⟨tb, 0, none⟩) toks.length c] 117)) w2.heap.size tb toks := ⟨0, c, hc, heap_new _ _, by omega, HK2.out.ext (alloc_grown _ _ none) (by simp)⟩
  have HPS := Lib.hid hps
  have hz2 := HB2.out.size
  have hl2 := HT2.out.lt
  clear hps
  go_upto_region 7 with (first
    | (go_at_call 42; refine (HPR.out _ _ _ HPS.out).mono ?_; rintro e' w3 ⟨fv, rfl, hpx, hpg, t, r, rfl, h5⟩; obtain ⟨_, _, fa, fc, _, rfl⟩ := hpx.slice; have HX3 := Lib.hid hpx; have HP3 := Lib.hid hpg; have H5 := Lib.hid h5; have HR3 := Lib.hid (hpg.row (heap_old _ _ HR2.out) (by omega)); have HS3 := Lib.hid (hpg.row (heap_old _ _ HS2.out) (by omega)); have HT3 := Lib.hid (hpg.row (heap_old _ _ HT2.out) (by omega)); clear hpx hpg h5)
    | (refine store_first 27 (.tmp 4) (.tmp 26) rfl ?_; refine wpList_store_row rfl 27 (.tmp 4) (.tmp 26) rfl w.heap.size _ rfl rfl 27 pZ HR3.out (by kernel_rfl) (by rfl) (by simp [Value.oneCell']) ?_))
  have hz3 := HP3.out.1.size
  rw [World.size_alloc] at hz3
  obtain ⟨w4, hw4⟩ : ∃ w4, w4 = w3.setRow w.heap.size #[.slice none 0 0, .slice fa 1 fc] := ⟨_, rfl⟩
  have hg4 : w3.grownBy w4 (some w.heap.size) := by rw [hw4]; exact setRow_grown
  have hr4 : Row w4 w.heap.size 27 [.slice none 0 0, .slice fa 1 fc] := by rw [hw4]; exact setRow_heap _ _ _ _ _ _ HR3.out
  have HP4 := Lib.hid (HP3.out.2.grown hg4 (by simp; omega) (by simp; omega))
  have HX4 := Lib.hid (HX3.out.grown hg4 (fun r e => by cases e; simp; omega))
  have HR4 := Lib.hid hr4
  have HS4 := Lib.hid (HS3.out.kept hg4 (by simp))
  have HT4 := Lib.hid (HT3.out.kept hg4 (by simp; omega))
  have hb3 : Below w.heap.size w w3 := (HB2.out.alloc hz2 _).grown HP3.out.1 (by simp; omega) (fun r e => by cases e; omega)
  have HB4 := Lib.hid (hb3.grown hg4 (by omega) (fun r e => by cases e; omega))
  have h5n : (t.kind != 5) = false := by rw [H5.out]; rfl
  rw [← hw4]
  clear hw4 hg4 hr4 hb3 s0
  go_upto_region 9 with (first
    | (go_at_call 70; refine (next_yes _ tb t r w4 HP4.out).mono ?_; rintro e' w5 ⟨rfl, hb5⟩; have hr5 := HR4.out.ext hb5; have HR5 := Lib.hid hr5; have hs5 := HS4.out.ext hb5; have ht5 := HT4.out.ext hb5; have HS5 := Lib.hid hs5; have HT5 := Lib.hid ht5; have HX5 := Lib.hid (HX4.out.below hb5); have HB5 := Lib.hid (HB4.out.trans (hb5.mono HB4.out.size)); clear hb5 hr5 hs5 ht5))
  have r50 := HR5.out.cell 0
  have r51 := HR5.out.cell 1
  simp only [List.getElem?_cons_zero, List.getElem?_cons_succ] at r50 r51
  have hz5 := HB5.out.size
  obtain ⟨w6, hw6⟩ : ∃ w6, w6 = w5.setRow w.heap.size #[.slice none 0 0, .slice fa 1 fc] := ⟨_, rfl⟩
  have hg6 : w5.grownBy w6 (some w.heap.size) := by rw [hw6]; exact setRow_grown
  have hr6 : Row w6 w.heap.size 27 [.slice none 0 0, .slice fa 1 fc] := by rw [hw6]; exact setRow_heap _ _ _ _ _ _ HR5.out
  have HX6 := Lib.hid (HX5.out.grown hg6 (fun r e => by cases e; simp; omega))
  have HR6 := Lib.hid hr6
  have hs6 := HS5.out.kept hg6 (by simp)
  have ht6 := HT5.out.kept hg6 (by simp; omega)
  have HS6 := Lib.hid hs6
  have HT6 := Lib.hid ht6
  have HB6 := Lib.hid (HB5.out.grown hg6 (by omega) (fun r e => by cases e; omega))
  have s60 := hs6.cell 0
  have t60 := ht6.cell 0
  have s6f := hs6.frozen 0
  have t6f := ht6.frozen 0
  simp only [List.getElem?_cons_zero] at s60 t60
  have HW6 := Lib.hid hw6
  clear hw6 hg6 hr6 hs6 ht6
  go_wp2_with (first
    | (refine store_first 27 (.tmp 4) (.tmp 33) rfl ?_; refine wpList_store_row rfl 27 (.tmp 4) (.tmp 33) rfl w.heap.size _ rfl rfl 27 #[.slice none 0 0, .slice fa 1 fc] HR5.out (by kernel_rfl) (by rfl) (by simp [Value.oneCell']) ?_; rw [← HW6.out]))
  obtain ⟨w7, hw7⟩ : ∃ w7, w7 = ((w6.setCell ⟨w.heap.size + 1, 0, none⟩ (I 0)).setCell ⟨w.heap.size + 1 + 1, 0, none⟩ (I 0)) := ⟨_, rfl⟩
  have hg1 := setCell_grown w6 (w.heap.size + 1) 0 (I 0)
  have hg2 := setCell_grown (w6.setCell ⟨w.heap.size + 1, 0, none⟩ (I 0)) (w.heap.size + 1 + 1) 0 (I 0)
  rw [← hw7] at hg2
  have hz6 := HB6.out.size
  have hR7 : Row w7 w.heap.size 27 [.slice none 0 0, .slice fa 1 fc] := (HR6.out.kept hg1 (by simp)).kept hg2 (by simp; omega)
  have hS7 : Row w7 (w.heap.size + 1) 44 [I 0] := by rw [hw7]; exact Row.kept (HS6.out.set 0 (I 0)) (setCell_grown _ _ _ _) (by simp)
  have hT7 : Row w7 (w.heap.size + 1 + 1) 3 [I 0] := by rw [hw7]; exact Row.set (HT6.out.kept hg1 (by simp)) 0 (I 0)
  have hB7 : Below w.heap.size w w7 := (HB6.out.grown hg1 (by omega) (fun r e => by cases e; omega)).grown hg2 (by have := hg1.size; omega) (fun r e => by cases e; omega)
  have hX7 := (HX6.out.grown hg1 (fun r e => by cases e; simp; omega)).grown hg2 (fun r e => by cases e; simp; omega)
  rw [← hw7]
  refine leaves_cons (f := 69) (args := #[.pointer (some ⟨w.heap.size, 0, none⟩), .pointer (some ⟨w.heap.size + 1, 0, none⟩), .pointer (some ⟨w.heap.size + 1 + 1, 0, none⟩)]) (by simp) (by simp [go_sem]) ?_
  refine (whole1_idle _ _ _ w7).mono ?_
  rintro e' u' w8 ⟨rfl, rfl, hb8⟩
  have hR8 := hR7.ext hb8
  have hS8 := hS7.ext hb8
  have hT8 := hT7.ext hb8
  have HX8 := Lib.hid (hX7.below hb8)
  have HB8 := Lib.hid (hB7.trans (hb8.mono hB7.size))
  clear hb8 hw7 hg1 hg2 hB7 hX7
  exact ⟨_, results_whole rfl rfl rfl hR8 hS8 hT8, _, rfl, HX8.out.weak (fun b hb => by simp at hb; omega), HB8.out⟩
end Go.Proofs.YtjgbkdbkachciaaGreatDoor
