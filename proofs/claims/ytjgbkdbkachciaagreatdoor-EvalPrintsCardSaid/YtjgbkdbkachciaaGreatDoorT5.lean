import Derived.Test.YtjgbkdbkachciaaGreatDoorT4
namespace Go.Proofs.YtjgbkdbkachciaaGreatDoor
open Go.RowKit Go.Shelf
attribute [local go_sem] Oper.semAt_some

/-! ### what lies in memory of a function, and of a program -/
def RStr (_ : World) (C : Nat → Value) (x : Str) : Prop := C 0 = S x
def RArr (_ : World) (C : Nat → Value) (x : LA) : Prop := C 0 = S x.name ∧ C 1 = I x.size
def RF (B : Nat → Prop) (W : World) (C : Nat → Value) (f : LF) : Prop := C 0 = S f.name ∧ RSlB B 1 RStr W (C 1) f.params ∧ RSlB B 1 RStr W (C 2) f.locals ∧ SX B W (C 3) f.body
theorem RF.grown {B : Nat → Prop} {w w' : World} {row : Option Nat} (hg : w.grownBy w' row) (hB : ∀ r, row = some r → ¬ B r) {C : Nat → Value} {f : LF} (h : RF B w C f) : RF B w' C f :=
  ⟨h.1, h.2.1.grown hg hB fun _ _ h => h, h.2.2.1.grown hg hB fun _ _ h => h, h.2.2.2.grown hg hB⟩
theorem RF.weak {B B' : Nat → Prop} {w : World} (hB : ∀ b, B b → B' b) {C : Nat → Value} {f : LF} (h : RF B w C f) : RF B' w C f :=
  ⟨h.1, h.2.1.weak hB fun _ _ h => h, h.2.2.1.weak hB fun _ _ h => h, h.2.2.2.weak hB⟩
/-- a program -/
structure PX (B : Nat → Prop) (W : World) (av fv : Value) (p : LP) : Prop where
  arrays : RSlB B 2 RArr W av p.arrays
  funcs : RSlB B 4 (RF B) W fv p.funcs
theorem PX.grown {B : Nat → Prop} {w w' : World} {row : Option Nat} (hg : w.grownBy w' row) (hB : ∀ r, row = some r → ¬ B r) {av fv : Value} {p : LP} (h : PX B w av fv p) : PX B w' av fv p :=
  ⟨h.1.grown hg hB fun _ _ h => h, h.2.grown hg hB fun _ _ h => h.grown hg hB⟩
theorem PX.alloc {B : Nat → Prop} {w : World} {o : Obj} {av fv : Value} {p : LP} (h : PX B w av fv p) : PX B (w.alloc o) av fv p := h.grown (alloc_grown w o none) (fun r e => by cases e)
theorem PX.below {B : Nat → Prop} {w w' : World} {av fv : Value} {p : LP} (h : PX B w av fv p) (hb : Below w.heap.size w w') : PX B w' av fv p := h.grown (below_grown hb none) (fun r e => by cases e)
theorem PX.weak {B B' : Nat → Prop} {w : World} (hB : ∀ b, B b → B' b) {av fv : Value} {p : LP} (h : PX B w av fv p) : PX B' w av fv p :=
  ⟨h.1.weak hB fun _ _ h => h, h.2.weak hB fun _ _ h => h.weak hB⟩
theorem PX.slice {B : Nat → Prop} {w : World} {av fv : Value} {p : LP} (h : PX B w av fv p) : ∃ a c a' c', av = .slice a p.arrays.length c ∧ fv = .slice a' p.funcs.length c' := by
  obtain ⟨⟨a, c, h1, _⟩, ⟨a', c', h2, _⟩⟩ := h
  exact ⟨a, c, a', c', h1, h2⟩

structure FA where
  f : LF
  a : Option Addr
  c : Nat
abbrev FA.bv (p : FA) : Value := .slice p.a p.f.body.length p.c
def fEnc (p : FA) : List Value := [S p.f.name, .slice none 0 0, .slice none 0 0, p.bv]
theorem fEnc_len (p : FA) : (fEnc p).length = 4 := rfl
theorem fEnc_one (p : FA) : ∀ u ∈ fEnc p, u.oneCell' = true := by intro u hu; simp [fEnc] at hu; rcases hu with rfl | rfl | rfl | rfl <;> rfl
theorem slFunc : SlT 25 52 4 88 := SlT.mk' (z := .agg #[.string ByteArray.empty, .slice none 0 0, .slice none 0 0, .slice none 0 0]) Tryz.underlying25 (by kernel_rfl) rfl (by decide)

/-- a program: so far, of one function alone -/
def prF (k g : Nat) : List Tok → Option (LF × List Tok)
  | [] => none
  | t :: r => if t.kind = 5 then none else match wantF [wInt] (t :: r) with
    | none => none
    | some [] => none
    | some (t2 :: r2) => if t2.kind ≠ 1 then none else match r2 with
      | [] => none
      | t3 :: r3 => if tokIs t3 [91] then none else match wantF [[40]] (t3 :: r3) with
        | none => none
        | some us => match fnF k g t2.text us with
          | none => none
          | some (_f, []) => none
          | some (f, e :: vs) => if e.kind = 5 then some (f, e :: vs) else none

abbrev pZ : Array Value := #[.slice none 0 0, .slice none 0 0]
set_option maxRecDepth 100000 in
set_option maxHeartbeats 4000000 in
theorem prog_yes (k g pb tb : Nat) (ts us : List Tok) (f : LF) (w : World) (h : PS w pb tb ts) (he : Ended ts) (hg : g ≤ 100000) (hx : prF k g ts = some (f, us)) :
    Calls Tryz.prog 42 #[.pointer (some ⟨pb, 0, none⟩)] w fun e w' => ∃ fv, e = .returned (.agg #[.slice none 0 0, fv]) ∧ PX (w.heap.size ≤ ·) w' (.slice none 0 0) fv ⟨[], [f]⟩ ∧ PG w pb tb us w' ∧ ∃ t r, us = t :: r ∧ t.kind = 5 := by
  obtain ⟨t, r, rfl⟩ := he.cons
  have hpl := h.lt
  have htl := h.tlt
  rw [prF] at hx
  split at hx
  · cases hx
  next ht5 =>
  cases hw1 : wantF [wInt] (t :: r) with
  | none => rw [hw1] at hx; cases hx
  | some q =>
  cases q with
  | nil => rw [hw1] at hx; cases hx
  | cons t2 r2 =>
  rw [hw1] at hx
  simp only [] at hx
  split at hx
  · cases hx
  next ht1 =>
  cases r2 with
  | nil => cases hx
  | cons t3 r3 =>
  simp only [] at hx
  cases ht3 : tokIs t3 [91]
  case true => rw [ht3] at hx; simp at hx
  rw [ht3] at hx
  simp only [Bool.false_eq_true, if_false] at hx
  cases hw2 : wantF [[40]] (t3 :: r3) with
  | none => rw [hw2] at hx; cases hx
  | some us1 =>
  rw [hw2] at hx
  simp only [] at hx
  cases hf : fnF k g t2.text us1 with
  | none => rw [hf] at hx; cases hx
  | some q =>
  obtain ⟨f', vs⟩ := q
  rw [hf] at hx
  cases vs with
  | nil => cases hx
  | cons e vs =>
  simp only [] at hx
  split at hx
  case isFalse => cases hx
  next he5 =>
  simp only [Option.some.injEq, Prod.mk.injEq] at hx
  obtain ⟨rfl, rfl⟩ := hx
  have ht1' : t2.kind = 1 := by omega
  obtain ⟨hn1, he1⟩ := he.want hw1
  obtain ⟨hn3, he3⟩ := he1.tail (by omega)
  obtain ⟨hn4, he4⟩ := he3.want hw2
  have ht5n : (t.kind != 5) = true := by rw [bne_iff_ne]; exact ht5
  have he5n : (e.kind != 5) = false := by rw [he5]; rfl
  have hfd := tok_f0
  have HNX := Lib.hid (fun W (hh : PS W pb tb (t :: r)) => next_yes pb tb t r W hh)
  have HWI := Lib.hid (fun W sb (hh : PS W pb tb (t :: r)) (hs : Row W sb 9 ([wInt].map S)) => want_yes pb tb sb 1 1 [wInt] (t :: r) (t2 :: t3 :: r3) W hh hs rfl hw1 hn1 (by simp))
  have HNM := Lib.hid (fun W (hh : PS W pb tb (t2 :: t3 :: r3)) => pname_yes pb tb t2 (t3 :: r3) W hh hn3 ht1')
  have HBR := Lib.hid (fun W (hh : PS W pb tb (t3 :: r3)) => take_no pb tb t3 r3 [91] W hh ht3)
  have HWP := Lib.hid (fun W sb (hh : PS W pb tb (t3 :: r3)) (hs : Row W sb 9 ([[40]].map S)) => want_yes pb tb sb 1 1 [[40]] (t3 :: r3) us1 W hh hs rfl hw2 hn4 (by simp))
  have HFN := Lib.hid (fun W (hh : PS W pb tb us1) => function_yes k g pb tb t2.text us1 (e :: vs) f' W hh he4 hg hf)
  have HNE := Lib.hid (fun W (hh : PS W pb tb (e :: vs)) => next_yes pb tb e vs W hh)
  have HE5 := Lib.hid he5
  obtain ⟨w1, hw1'⟩ : ∃ w1, w1 = w.alloc (.cells pZ 27) := ⟨_, rfl⟩
  have hwe : w.alloc (.cells pZ 27) = w1 := hw1'.symm
  have hb1 : Below w.heap.size w w1 := by rw [hw1']; exact below_a1 _ _
  have HR1 := Lib.hid (show Row w1 w.heap.size 27 [.slice none 0 0, .slice none 0 0] by rw [hw1']; exact heap_new _ _)
  have HP1 := Lib.hid (PG.start h hb1)
  clear h he hw1 hw2 hf he1 hn1 hn3 he3 hn4 he4 ht1 ht1' ht3 hg hw1' hb1 ht5 he5
  go_enter Tryz.func42, Tryz.ntmps42
  go_wp2
  go_loopg [3] 1 (fun gh v3 wr => (gh = 1 ∧ wr = w1) ∨ (gh = 0 ∧ Hid (PG w pb tb (e :: vs) wr ∧ ∃ fv, Row wr w.heap.size 27 [.slice none 0 0, fv] ∧ PX (w.heap.size + 1 ≤ ·) wr (.slice none 0 0) fv ⟨[], [f']⟩)))
  case atStart => exact .inl ⟨rfl, rfl⟩
  case round =>
    rcases hrel with ⟨rfl, rfl⟩ | ⟨rfl, HH⟩
    · obtain ⟨wo, rfl⟩ : ∃ wo, wo = wr := ⟨_, rfl⟩
      clear hwe
      have hz1 := HP1.out.1.size
      have hl1 := HR1.out.lt
      go_upto_region 2 with (first
        | (go_at_call 70; refine (HNX.out wo HP1.out.2).mono ?_; rintro e' w2 ⟨rfl, hb2⟩; have HP2 := Lib.hid (HP1.out.below hb2); have HR2 := Lib.hid (HR1.out.ext hb2); have hz2 := hb2.size; clear hb2))
      go_upto_region 4 with (first
        | (go_at_call 72; refine (HWI.out _ w2.heap.size (HP2.out.2.ext (below_a1 _ _)) (heap_new _ _)).mono ?_; rintro e' w3 ⟨⟨v3, rfl⟩, hp3⟩; have HR3 := Lib.hid (hp3.row (heap_old _ _ HR2.out) (by omega)); have HP3 := Lib.hid ((HP2.out.below (below_a1 _ _)).trans hp3); clear hp3)
        | (go_at_call 73; refine (HNM.out w3 HP3.out.2).mono ?_; rintro e' w4 ⟨rfl, hp4⟩; have hr4 := hp4.row HR3.out (by omega); have c1 := hr4.cell 1; have HR4 := Lib.hid hr4; have HP4 := Lib.hid (HP3.out.trans hp4); simp only [List.getElem?_cons_zero, List.getElem?_cons_succ] at c1; clear hr4 hp4))
      go_upto_region 7 with (first
        | (go_at_call 74; refine (HBR.out w4 HP4.out.2).mono ?_; rintro e' w5 ⟨rfl, hb5⟩; have HR5 := Lib.hid (HR4.out.ext hb5); have HP5 := Lib.hid (HP4.out.below hb5); clear hb5))
      clear c1
      go_upto_region 8 with (first
        | (go_at_call 72; refine (HWP.out _ w5.heap.size (HP5.out.2.ext (below_a1 _ _)) (heap_new _ _)).mono ?_; rintro e' w6 ⟨⟨v6, rfl⟩, hp6⟩; have hr6 := hp6.row (heap_old _ _ HR5.out) (by omega); have c1 := hr6.cell 1; have HR6 := Lib.hid hr6; have HP6 := Lib.hid ((HP5.out.below (below_a1 _ _)).trans hp6); simp only [List.getElem?_cons_zero, List.getElem?_cons_succ] at c1; clear hr6 hp6))
      refine wp_region_ordW (by kernel_rfl) (fun W => W.cell? ⟨w.heap.size, 1, none⟩ = some (.slice none 0 0)) [(0, 0), (0, 1), (0, 2), (0, 3), (1, 4), (1, 5), (1, 6), (0, 7), (2, 8)] (by kernel_rfl) ?hS ?_
      case hS => intro wd hh; simp only [World.cell?, hh] at c1 ⊢; exact c1
      intro wd hh hgd hS
      have HR7 := Lib.hid (HR6.out.kept hgd (by simp))
      have hp7 : PG w pb tb us1 wd := HP6.out.own hgd (fun r e => by cases e) htl hpl
      have HP7 := Lib.hid hp7
      clear c1 hh hgd hp7
      simp only [pickOps, List.map_cons, List.map_nil, List.getElem?_cons_zero, List.getElem?_cons_succ, Option.getD_some]
      repeat (refine wpOrd_look (v := ?_) (by rfl) ?_ (by assumption) (fun _ _ _ h => h) ?_; rotate_left; (· (intro wS hSw; (try dsimp only at hSw); go_simp; (first | done | with_reducible rfl))); simp only [Act.put, List.setIfInBounds_toArray, List.set_cons_zero, List.set_cons_succ])
      refine wpOrd_turn ?_
      go_wp2_with (first
        | (go_at_call 76; refine (HFN.out wd HP7.out.2).mono ?_; rintro e' w8 ⟨⟨bv, rfl, hb, hp8, hfp, hfl⟩, hen⟩; obtain ⟨ba, bc, rfl⟩ := hb.slice; have HB8 := Lib.hid hb; have hr8 := hp8.row HR7.out (by omega); have HR8 := Lib.hid hr8; have HP8 := Lib.hid (HP7.out.trans hp8); have HFP := Lib.hid hfp; have HFL := Lib.hid hfl; clear hb hr8 hp8 hfp hfl hen))
      refine QN_keep (HR8.out.cell 1) fun hS => ?_
      have hz7 := HP7.out.1.size
      have hl7 := HR7.out.lt
      have hz8 := HP8.out.1.size
      refine wpOrd_turn ?_
      go_wp2
      refine QN_keep (Row.cell (heap_old _ _ HR8.out) 1) fun hS => ?_
      obtain ⟨w9, hw9⟩ : ∃ w9, w9 = w8.alloc (.cells #[S f'.name, .slice none 0 0, .slice none 0 0, .slice ba f'.body.length bc] 52) := ⟨_, rfl⟩
      have hn9 : w9.heap[w8.heap.size]? = some (.cells #[S f'.name, .slice none 0 0, .slice none 0 0, .slice ba f'.body.length bc] 52) := by rw [hw9]; exact heap_new _ _
      have HR9 := Lib.hid (show Row w9 w.heap.size 27 [.slice none 0 0, .slice none 0 0] by rw [hw9]; exact heap_old _ _ HR8.out)
      have HP9 := Lib.hid (show PG w pb tb (e :: vs) w9 by rw [hw9]; exact HP8.out.below (below_a1 _ _))
      have HB9 := Lib.hid (show SX (wd.heap.size ≤ ·) w9 (.slice ba f'.body.length bc) f'.body by rw [hw9]; exact HB8.out.alloc)
      rw [← hw9] at hS ⊢
      have HN9 := Lib.hid hn9
      have hz9 : w8.heap.size < w9.heap.size := by rw [hw9]; simp
      clear hw9 hn9
      refine wpOrd_turn ?_
      go_wp2_with (first
        | (at_builtin; refine wpList_appS slFunc rfl _ _ rfl fEnc_len fEnc_one (w.heap.size + 1) (.slice none 0 0) [] rfl OwnS.nil w8.heap.size ⟨f', ba, bc⟩ rfl (fun j hj => (cell_of_block HN9.out j).trans (by simp [fEnc, FA.bv])) (by simp) (by omega) (by omega) ?_; intro g2 cap2 w10 ho10 hg10 hat10 hlt10; have HO10 := Lib.hid ho10; have HG10 := Lib.hid hg10; clear ho10 hg10 hat10))
      have HR10 := Lib.hid (HR9.out.kept HG10.out (by simp [Value.ownBlock]))
      refine QN_keep (HR10.out.cell 1) fun hS => ?_
      repeat (refine wpOrd_look (v := ?_) (by rfl) ?_ (by assumption) (fun _ _ _ h => h) ?_; rotate_left; (· (intro wS hSw; (try dsimp only at hSw); go_simp; (first | done | with_reducible rfl))); simp only [Act.put, List.setIfInBounds_toArray, List.set_cons_zero, List.set_cons_succ])
      refine wpOrd_last ?_
      have f1 := HR10.out.frozen 1
      go_wp2
      refine QN_normal (wpOrd_nil ?_)
      go_wp2
      go_roundg 0
      case measure => omega
      case rel =>
        refine .inr ⟨rfl, Lib.hid ⟨?_, _, HR10.out.set 1 _, ?_⟩⟩
        · exact ((HP9.out.own HG10.out (fun r e => by cases e) htl hpl).own (setCell_grown _ _ _ _) (fun r e => by cases e; omega) htl hpl)
        · refine ⟨RSlB.nil _ _ _ _, ?_⟩
          have hb10 : SX (w.heap.size + 1 ≤ ·) w10 (.slice ba f'.body.length bc) f'.body := (HB9.out.grown HG10.out (fun r e => by cases e)).weak fun b hb => by omega
          have hr10 : RSlB (w.heap.size + 1 ≤ ·) 4 (RF (w.heap.size + 1 ≤ ·)) w10 (.slice (some ⟨g2, 0, none⟩) 1 cap2) [f'] := by
            refine OwnS.rslB (l := [⟨f', ba, bc⟩]) FA.f HO10.out fEnc_len (by simp) fun x hx => ?_
            obtain rfl := List.mem_singleton.1 hx
            exact ⟨rfl, by rw [HFP.out]; exact RSlB.nil _ _ _ _, by rw [HFL.out]; exact RSlB.nil _ _ _ _, hb10⟩
          exact hr10.grown (setCell_grown _ _ _ _) (fun r e => by cases e; omega) (fun C x h => h.grown (setCell_grown _ _ _ _) (fun r e => by cases e; omega))
    · obtain ⟨wo, rfl⟩ : ∃ wo, wo = wr := ⟨_, rfl⟩
      obtain ⟨hp, fv, hr, hpx⟩ := HH.out
      have HP := Lib.hid hp
      have HR := Lib.hid hr
      have HX := Lib.hid hpx
      clear hp hr hpx
      go_wp2_with (first
        | (go_at_call 70; refine (HNE.out wo HP.out.2).mono ?_; rintro e' w2 ⟨rfl, hb2⟩; have HP2 := Lib.hid (HP.out.below hb2); have HR2 := Lib.hid (HR.out.ext hb2); have HX2 := Lib.hid (HX.out.below hb2); clear hb2))
      refine bodyPost_ret (results_cell_row rfl _ _ w.heap.size 27 _ (0, 0) _ rfl HR2.out Tryz.underlying27 rfl (by kernel_rfl)) rfl ?_
      exact ⟨fv, rfl, HX2.out.weak fun b hb => by omega, HP2.out, e, vs, rfl, HE5.out⟩
end Go.Proofs.YtjgbkdbkachciaaGreatDoor
