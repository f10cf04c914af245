import Derived.Test.YtjgbkdbkachciaaGreatDoorT3
namespace Go.Proofs.YtjgbkdbkachciaaGreatDoor
open Go.RowKit Go.Shelf
attribute [local go_sem] Oper.semAt_some

theorem slStr : SlT 49 9 1 16 := SlT.mk' (z := .string ByteArray.empty) Tryz.underlying49 (by kernel_rfl) rfl (by decide)
def sEncS (x : Str) : List Value := [S x]
theorem sEncS_len (x : Str) : (sEncS x).length = 1 := rfl
theorem sEncS_one (x : Str) : ∀ u ∈ sEncS x, u.oneCell' = true := by intro u hu; simp [sEncS] at hu; subst hu; rfl
theorem heap_at {w : World} {o : Obj} {k : Nat} (h : k = w.heap.size) : (w.alloc o).heap[k]? = some o := by rw [h]; exact heap_new _ _
abbrev wInt : Str := [105, 110, 116]
abbrev fZ : Array Value := #[.string ⟨#[]⟩, .slice none 0 0, .slice none 0 0, .slice none 0 0]
/-- where a function is put together -/
structure FnW (W0 : World) (pb tb xb kb fb base : Nat) : Prop where
  p : pb < W0.heap.size
  t : tb < W0.heap.size
  x : W0.heap.size ≤ xb
  k : kb = xb + 1
  f : fb = xb + 2
  b : base = xb + 3
/-- what of a function is there already -/
structure FnV (W0 : World) (pb tb xb kb fb base : Nat) (nm : Str) (ts : List Tok) (ps ls : List Str) (pv lv : Value) (W : World) : Prop where
  pg : PG W0 pb tb ts W
  en : Ended ts
  x : Row W xb 89 [.pointer (some ⟨pb, 0, none⟩)]
  k : Row W kb 52 [S [], .slice none 0 0, .slice none 0 0, .slice none 0 0]
  r : Row W fb 52 [S nm, pv, lv, .slice none 0 0]
  op : OwnS 1 9 sEncS W base pv ps
  ol : OwnS 1 9 sEncS W base lv ls
  dj : ∀ b, pv.ownBlock = some b → lv.ownBlock ≠ some b
def FnP (W0 : World) (pb tb xb kb fb base : Nat) (nm : Str) (ts : List Tok) (ps ls : List Str) (W : World) : Prop := ∃ pv lv, FnV W0 pb tb xb kb fb base nm ts ps ls pv lv W
section
variable {W0 W W' : World} {pb tb xb kb fb base : Nat} {nm : Str} {ts us : List Tok} {ps ls : List Str} {pv lv : Value}
theorem no_row (v : Value) : v.ownBlock = none ∨ v.ownBlock ≠ (none : Option Nat) := by cases v.ownBlock with
    | none => exact .inl rfl
    | some k => exact .inr (by simp)
theorem FnV.grown0 (hw : FnW W0 pb tb xb kb fb base) (h : FnV W0 pb tb xb kb fb base nm ts ps ls pv lv W) (hg : W.grownBy W' none) : FnV W0 pb tb xb kb fb base nm ts ps ls pv lv W' :=
  ⟨h.pg.own hg (fun r e => by cases e) hw.t hw.p, h.en, h.x.kept hg (by simp), h.k.kept hg (by simp), h.r.kept hg (by simp), ownsRow_kept' h.op hg (no_row _), ownsRow_kept' h.ol hg (no_row _), h.dj⟩
theorem FnV.below (h : FnV W0 pb tb xb kb fb base nm ts ps ls pv lv W) (hb : Below W.heap.size W W') : FnV W0 pb tb xb kb fb base nm ts ps ls pv lv W' := by
  have hg := below_grown hb none
  exact ⟨h.pg.below hb, h.en, h.x.ext hb, h.k.ext hb, h.r.ext hb, ownsRow_kept' h.op hg (no_row _), ownsRow_kept' h.ol hg (no_row _), h.dj⟩
theorem FnV.take (hw : FnW W0 pb tb xb kb fb base) (h : FnV W0 pb tb xb kb fb base nm ts ps ls pv lv W) (hp : PG W pb tb us W') (he : Ended us) : FnV W0 pb tb xb kb fb base nm us ps ls pv lv W' := by
  have h1 := hw.p; have h2 := hw.x; have h3 := hw.k; have h4 := hw.f; have h5 := hw.b
  have hn : ∀ {v : Value} {l : List Str}, OwnS 1 9 sEncS W base v l → (v.ownBlock = none ∨ v.ownBlock ≠ some pb) := fun {v l} h => by
    right; intro e
    have := (ownsRow_base h pb e).1
    omega
  exact ⟨h.pg.trans hp, he, hp.row h.x (by omega), hp.row h.k (by omega), hp.row h.r (by omega), ownsRow_kept' h.op hp.1 (hn h.op), ownsRow_kept' h.ol hp.1 (hn h.ol), h.dj⟩
/-- a parameter more -/
theorem FnV.push {w4 w5 : World} {n g cap : Nat} {x : Str} (hw : FnW W0 pb tb xb kb fb base) (h : FnV W0 pb tb xb kb fb base nm ts ps ls pv lv W)
    (ho : W.grownBy w4 none) (hz : W.heap.size < w4.heap.size) (h5 : OwnS 1 9 sEncS w5 base (.slice (some ⟨g, 0, none⟩) n cap) (ps ++ [x])) (hg5 : w4.grownBy w5 pv.ownBlock) (hat : pv.ownBlock = some g ∨ g = w4.heap.size) :
    FnV W0 pb tb xb kb fb base nm ts (ps ++ [x]) ls (.slice (some ⟨g, 0, none⟩) n cap) lv (w5.setCell ⟨fb, 1, none⟩ (.slice (some ⟨g, 0, none⟩) n cap)) := by
  have e1 := hw.p; have e2 := hw.x; have e3 := hw.k; have e4 := hw.f; have e5 := hw.b
  have hpo : ∀ b, pv.ownBlock = some b → base ≤ b := fun b e => (ownsRow_base h.op b e).1
  have hgs := setCell_grown w5 fb 1 (.slice (some ⟨g, 0, none⟩) n cap)
  have hr' := (h.r.kept ho (by simp)).kept hg5 (fun e => by have := hpo _ e.symm; omega)
  have hx' := ((h.x.kept ho (by simp)).kept hg5 (fun e => by have := hpo _ e.symm; omega)).kept hgs (fun e => by cases e; omega)
  have hk' := ((h.k.kept ho (by simp)).kept hg5 (fun e => by have := hpo _ e.symm; omega)).kept hgs (fun e => by cases e; omega)
  have hb5 := (ownsRow_base h5 g rfl).1
  have hl5 : OwnS 1 9 sEncS w5 base lv ls := ownsRow_kept' (ownsRow_kept' h.ol ho (no_row _)) hg5 (by
    cases hl : lv.ownBlock with
    | none => exact .inl rfl
    | some b => exact .inr fun e => h.dj b e.symm hl)
  have hpg' : PG W0 pb tb ts (w5.setCell ⟨fb, 1, none⟩ (.slice (some ⟨g, 0, none⟩) n cap)) := ((h.pg.own ho (fun r e => by cases e) hw.t hw.p).own hg5 (fun r e => by have := hpo _ e; omega) hw.t hw.p).own hgs (fun r e => by cases e; omega) hw.t hw.p
  refine ⟨hpg', h.en, hx', hk', hr'.set 1 _, ownsRow_kept' h5 hgs (.inr fun e => by have : g = fb := Option.some.inj e; omega), ownsRow_kept' hl5 hgs ?_, fun b hb hl => ?_⟩
  · cases hl : lv.ownBlock with
    | none => exact .inl rfl
    | some b => exact .inr fun e => by have := (ownsRow_base hl5 b hl).1; have : b = fb := Option.some.inj e; omega
  · obtain rfl : g = b := Option.some.inj hb
    rcases hat with h' | h'
    · exact h.dj g h' hl
    · have := (ownsRow_base h.ol g hl).2; omega
/-- a local more -/
theorem FnV.pushL {w4 w5 : World} {n g cap : Nat} {x : Str} (hw : FnW W0 pb tb xb kb fb base) (h : FnV W0 pb tb xb kb fb base nm ts ps ls pv lv W)
    (ho : W.grownBy w4 none) (hz : W.heap.size < w4.heap.size) (h5 : OwnS 1 9 sEncS w5 base (.slice (some ⟨g, 0, none⟩) n cap) (ls ++ [x])) (hg5 : w4.grownBy w5 lv.ownBlock) (hat : lv.ownBlock = some g ∨ g = w4.heap.size) :
    FnV W0 pb tb xb kb fb base nm ts ps (ls ++ [x]) pv (.slice (some ⟨g, 0, none⟩) n cap) (w5.setCell ⟨fb, 2, none⟩ (.slice (some ⟨g, 0, none⟩) n cap)) := by
  have e1 := hw.p; have e2 := hw.x; have e3 := hw.k; have e4 := hw.f; have e5 := hw.b
  have hpo : ∀ b, lv.ownBlock = some b → base ≤ b := fun b e => (ownsRow_base h.ol b e).1
  have hgs := setCell_grown w5 fb 2 (.slice (some ⟨g, 0, none⟩) n cap)
  have hr' := (h.r.kept ho (by simp)).kept hg5 (fun e => by have := hpo _ e.symm; omega)
  have hx' := ((h.x.kept ho (by simp)).kept hg5 (fun e => by have := hpo _ e.symm; omega)).kept hgs (fun e => by cases e; omega)
  have hk' := ((h.k.kept ho (by simp)).kept hg5 (fun e => by have := hpo _ e.symm; omega)).kept hgs (fun e => by cases e; omega)
  have hb5 := (ownsRow_base h5 g rfl).1
  have hl5 : OwnS 1 9 sEncS w5 base pv ps := ownsRow_kept' (ownsRow_kept' h.op ho (no_row _)) hg5 (by
    cases hl : pv.ownBlock with
    | none => exact .inl rfl
    | some b => exact .inr fun e => h.dj b hl e.symm)
  have hpg' : PG W0 pb tb ts (w5.setCell ⟨fb, 2, none⟩ (.slice (some ⟨g, 0, none⟩) n cap)) := ((h.pg.own ho (fun r e => by cases e) hw.t hw.p).own hg5 (fun r e => by have := hpo _ e; omega) hw.t hw.p).own hgs (fun r e => by cases e; omega) hw.t hw.p
  refine ⟨hpg', h.en, hx', hk', hr'.set 2 _, ownsRow_kept' hl5 hgs ?_, ownsRow_kept' h5 hgs (.inr fun e => by have : g = fb := Option.some.inj e; omega), fun b hb hl => ?_⟩
  · cases hl : pv.ownBlock with
    | none => exact .inl rfl
    | some b => exact .inr fun e => by have := (ownsRow_base hl5 b hl).1; have : b = fb := Option.some.inj e; omega
  · obtain rfl : g = b := Option.some.inj hl
    rcases hat with h' | h'
    · exact h.dj g hb h'
    · have := (ownsRow_base h.op g hb).2; omega
end
end Go.Proofs.YtjgbkdbkachciaaGreatDoor

namespace Go.Proofs.YtjgbkdbkachciaaGreatDoor
open Go.RowKit Go.Shelf
attribute [local go_sem] Oper.semAt_some

set_option maxRecDepth 100000 in
set_option maxHeartbeats 4000000 in
/-- one more -/
theorem param1_yes (pb tb xb kb fb base : Nat) (nm : Str) (ts r : List Tok) (t : Tok) (ps ls : List Str) (W0 W : World) (hw : FnW W0 pb tb xb kb fb base) (h : FnP W0 pb tb xb kb fb base nm ts ps ls W) (hx : wantF [wInt] ts = some (t :: r)) (hk : t.kind = 1) (hl : ps.length ≤ 1000) :
    Calls Tryz.prog 114 #[.pointer (some ⟨xb, 0, none⟩), .pointer (some ⟨fb, 0, none⟩)] W fun en w' => (∃ u, en = .returned u) ∧ FnP W0 pb tb xb kb fb base nm r (ps ++ [t.text]) ls w' := by
  obtain ⟨pv, lv, h⟩ := h
  obtain ⟨hne, he1⟩ := h.en.want hx
  obtain ⟨hrne, hre⟩ := he1.tail (by omega)
  have HWA := Lib.hid (fun W sb (hh : PS W pb tb ts) (hs : Row W sb 9 ([wInt].map S)) => want_yes pb tb sb 1 1 [wInt] ts (t :: r) W hh hs rfl hx hne (by simp))
  have HNM := Lib.hid (fun W (hh : PS W pb tb (t :: r)) => pname_yes pb tb t r W hh hrne hk)
  obtain ⟨pa, pc, rfl⟩ := h.op.slice
  obtain ⟨PN, hPN⟩ : ∃ n, n = ps.length := ⟨_, rfl⟩
  rw [← hPN] at h hl
  have HPN := Lib.hid hPN
  have HH := Lib.hid h
  have HW := Lib.hid hw
  have HE1 := Lib.hid he1
  have HRE := Lib.hid hre
  have c0 := h.x.cell 0
  simp only [List.getElem?_cons_zero] at c0
  clear h hx hk hw hne hrne hre he1 hPN
  go_enter Tryz.func114, Tryz.ntmps114
  go_upto_region 1 with (first
    | (go_at_call 72; refine (HWA.out _ W.heap.size (HH.out.pg.2.ext (below_a1 _ _)) (heap_new _ _)).mono ?_; rintro en w1 ⟨⟨u, rfl⟩, hp1⟩; have H1 := Lib.hid ((HH.out.below (below_a1 _ _)).take HW.out hp1 HE1.out); clear hp1))
  clear c0 HWA
  refine wp_region_ordW (by kernel_rfl) (fun X => X.cell? ⟨fb, 1, none⟩ = some (.slice pa PN pc) ∧ X.cell? ⟨xb, 0, none⟩ = some (.pointer (some ⟨pb, 0, none⟩))) [(0, 0), (0, 1), (0, 2), (1, 3), (1, 4), (1, 5), (0, 6), (2, 7)] (by kernel_rfl) ?hS ?_
  case hS => intro wd hh; exact ⟨row_at H1.out.r hh 1, row_at H1.out.x hh 0⟩
  intro wd hh hgd hS
  have HD := Lib.hid (H1.out.grown0 HW.out hgd)
  clear hh hgd
  simp only [pickOps, List.map_cons, List.map_nil, List.getElem?_cons_zero, List.getElem?_cons_succ, Option.getD_some]
  repeat (refine wpOrd_look (v := ?_) (by rfl) ?_ (by assumption) (fun _ _ _ h => h) ?_; rotate_left; (· (intro wS hSw; (try dsimp only at hSw); go_simp; (first | done | with_reducible rfl))); simp only [Act.put, List.setIfInBounds_toArray, List.set_cons_zero, List.set_cons_succ])
  refine wpOrd_turn ?_
  go_wp2_with (first
    | (go_at_call 73; refine (HNM.out wd HD.out.pg.2).mono ?_; rintro en w2 ⟨rfl, hp2⟩; have H2 := Lib.hid (HD.out.take HW.out hp2 HRE.out); clear hp2))
  clear hS
  refine QN_keep ⟨H2.out.r.cell 1, H2.out.x.cell 0⟩ fun hS => ?_
  refine wpOrd_turn ?_
  go_wp2
  obtain ⟨w3, hw3⟩ : ∃ w3, w3 = w2.alloc (.cells #[.string ⟨t.text.toArray⟩] 9) := ⟨_, rfl⟩
  obtain ⟨gz, hgz⟩ : ∃ g, g = w2.heap.size := ⟨_, rfl⟩
  have HGZ := Lib.hid (show Row w3 gz 9 [S t.text] by rw [hw3, hgz]; exact heap_new _ _)
  have HG3 := Lib.hid (show w2.grownBy w3 none by rw [hw3]; exact alloc_grown _ _ none)
  have H3 := Lib.hid (show FnV _ _ _ _ _ _ _ _ _ _ _ _ _ w3 from H2.out.grown0 HW.out HG3.out)
  have hz3 : w2.heap.size < w3.heap.size := by rw [hw3]; simp
  have hbz : base ≤ w3.heap.size := by have := H3.out.r.lt; have := HW.out.f; have := HW.out.b; omega
  change QN _ _ _ _ (w2.alloc (.cells #[.string ⟨t.text.toArray⟩] 9))
  rw [← hw3, ← hgz]
  clear hw3 hgz hS
  refine QN_keep ⟨H3.out.r.cell 1, H3.out.x.cell 0⟩ fun hS => ?_
  refine wpOrd_turn ?_
  go_wp2_with (first
    | (at_builtin; refine wpList_appS slStr rfl _ _ rfl sEncS_len sEncS_one base (.slice pa PN pc) ps rfl H3.out.op gz t.text rfl (fun j _ => HGZ.out.cell j) (by have := HPN.out; omega) (by decide) hbz ?_; intro g' cap w5 ho5 hg5 hat5 hlt5; rw [← HPN.out] at ho5 ⊢; have HO5 := Lib.hid ho5; have HG5 := Lib.hid hg5; have HAT := Lib.hid hat5; clear ho5 hg5 hat5 hlt5 hS))
  have hpo : ∀ b, (Value.slice pa PN pc).ownBlock = some b → base ≤ b := fun b e => (ownsRow_base H3.out.op b e).1
  have hfb : fb < base := by have := HW.out.f; have := HW.out.b; omega
  have hxb : xb < base := by have := HW.out.b; omega
  have HR5 := Lib.hid (H3.out.r.kept HG5.out (fun e => by have := hpo _ e.symm; omega))
  have HX5 := Lib.hid (H3.out.x.kept HG5.out (fun e => by have := hpo _ e.symm; omega))
  refine QN_keep ⟨HR5.out.cell 1, HX5.out.cell 0⟩ fun hS => ?_
  clear hpo
  repeat (refine wpOrd_look (v := ?_) (by rfl) ?_ (by assumption) (fun _ _ _ h => h) ?_; rotate_left; (· (intro wS hSw; (try dsimp only at hSw); go_simp; (first | done | with_reducible rfl))); simp only [Act.put, List.setIfInBounds_toArray, List.set_cons_zero, List.set_cons_succ])
  refine wpOrd_last ?_
  have f1 := HR5.out.frozen 1
  have c1 := HR5.out.cell 1
  simp only [List.getElem?_cons_zero, List.getElem?_cons_succ] at c1
  clear hS
  go_wp2
  refine QN_normal (wpOrd_nil ?_)
  go_end0
  exact ⟨⟨_, rfl⟩, _, _, H2.out.push HW.out HG3.out hz3 HO5.out HG5.out HAT.out⟩

/-- names with int ahead, and commas between -/
def pmF : Nat → List Tok → Option (List Str × List Tok)
  | 0, _ => none
  | k + 1, ts => match wantF [wInt] ts with
    | some (t :: u :: r) => if t.kind = 1 then
        if tokIs u [44] then (pmF k r).map fun p => (t.text :: p.1, p.2)
        else if tokIs u [41] then some ([t.text], r) else none
      else none
    | _ => none
def paF : Nat → List Tok → Option (List Str × List Tok)
  | 0, _ => none
  | _ + 1, [] => none
  | k + 1, t :: r => if tokIs t [41] then some ([], r) else pmF k (t :: r)
theorem pmF_some {k : Nat} {ts us : List Tok} {l : List Str} (h : pmF k ts = some (l, us)) : ∃ j t0 t r l', k = j + 1 ∧ wantF [wInt] ts = some (t0 :: t :: r) ∧ t0.kind = 1 ∧ l = t0.text :: l' ∧ ((tokIs t [44] = true ∧ pmF j r = some (l', us)) ∨ (tokIs t [44] = false ∧ tokIs t [41] = true ∧ l' = [] ∧ us = r)) := by
  cases k with
  | zero => rw [pmF] at h; cases h
  | succ j =>
    rw [pmF] at h
    split at h
    · next t u r hw =>
      split at h
      · next hk =>
        cases h44 : tokIs u [44]
        · rw [h44] at h
          simp only [Bool.false_eq_true, if_false] at h
          cases h41 : tokIs u [41]
          · rw [h41] at h; simp at h
          · rw [h41] at h
            simp only [if_true, Option.some.injEq, Prod.mk.injEq] at h
            exact ⟨j, t, u, r, [], rfl, hw, hk, h.1.symm, .inr ⟨h44, h41, rfl, h.2.symm⟩⟩
        · rw [h44] at h
          simp only [if_true] at h
          obtain ⟨⟨l', u'⟩, h1, h2⟩ := Option.map_eq_some_iff.1 h
          simp only [Prod.mk.injEq] at h2
          exact ⟨j, t, u, r, l', rfl, hw, hk, h2.1.symm, .inl ⟨h44, by rw [h1, h2.2]⟩⟩
      · cases h
    · cases h
/-- what is still to come, behind a name -/
def PomF (j : Nat) (t : Tok) (r us : List Tok) (l' : List Str) : Prop := (tokIs t [44] = true ∧ pmF j r = some (l', us)) ∨ (tokIs t [44] = false ∧ tokIs t [41] = true ∧ l' = [] ∧ us = r)
theorem FnP.below {W0 W W' : World} {pb tb xb kb fb base : Nat} {nm : Str} {ts : List Tok} {ps ls : List Str} (h : FnP W0 pb tb xb kb fb base nm ts ps ls W) (hb : Below W.heap.size W W') : FnP W0 pb tb xb kb fb base nm ts ps ls W' := by
  obtain ⟨pv, lv, h⟩ := h
  exact ⟨pv, lv, h.below hb⟩
theorem FnP.take {W0 W W' : World} {pb tb xb kb fb base : Nat} {nm : Str} {ts us : List Tok} {ps ls : List Str} (hw : FnW W0 pb tb xb kb fb base) (h : FnP W0 pb tb xb kb fb base nm ts ps ls W) (hp : PG W pb tb us W') (he : Ended us) : FnP W0 pb tb xb kb fb base nm us ps ls W' := by
  obtain ⟨pv, lv, h⟩ := h
  exact ⟨pv, lv, h.take hw hp he⟩
theorem FnP.pg {W0 W : World} {pb tb xb kb fb base : Nat} {nm : Str} {ts : List Tok} {ps ls : List Str} (h : FnP W0 pb tb xb kb fb base nm ts ps ls W) : PG W0 pb tb ts W := by
  obtain ⟨pv, lv, h⟩ := h
  exact h.pg
theorem FnP.en {W0 W : World} {pb tb xb kb fb base : Nat} {nm : Str} {ts : List Tok} {ps ls : List Str} (h : FnP W0 pb tb xb kb fb base nm ts ps ls W) : Ended ts := by
  obtain ⟨pv, lv, h⟩ := h
  exact h.en
set_option maxRecDepth 100000 in
set_option maxHeartbeats 4000000 in
/-- parameters, with commas between -/
theorem params_yes (k : Nat) (pb tb xb kb fb base : Nat) (nm : Str) (ts us : List Tok) (l : List Str) (W0 W : World) (hw : FnW W0 pb tb xb kb fb base) (h : FnP W0 pb tb xb kb fb base nm ts [] [] W) (hx : paF (k + 1) ts = some (l, us)) (hl : l.length ≤ 1000) :
    Calls Tryz.prog 113 #[.pointer (some ⟨pb, 0, none⟩), .func (.func 114) #[] #[.pointer (some ⟨xb, 0, none⟩), .pointer (some ⟨fb, 0, none⟩)]] W fun en w' => (∃ u, en = .returned u) ∧ FnP W0 pb tb xb kb fb base nm us l [] w' := by
  have eg : ∀ args w, (callFunc 114 args).run Tryz.prog w = .ok (.enter 114 args) w := enters_of Tryz.func114 (by kernel_rfl) rfl
  obtain ⟨t, r, rfl⟩ := h.en.cons
  rw [paF] at hx
  have HA := Lib.hid h
  have HW := Lib.hid hw
  cases h41 : tokIs t [41]
  · rw [h41] at hx
    simp only [Bool.false_eq_true, if_false] at hx
    obtain ⟨j, t0, t1, r1, l', rfl, hwt, hk, rfl, hcom⟩ := pmF_some hx
    have HNO := Lib.hid (take_no pb tb t r [41] W h.pg.2 h41)
    have HAR := Lib.hid (fun (W' : World) (h' : FnP W0 pb tb xb kb fb base nm (t :: r) [] [] W') => param1_yes pb tb xb kb fb base nm (t :: r) (t1 :: r1) t0 [] [] W0 W' HW.out h' hwt hk (by decide))
    have HCO := Lib.hid (show PomF j t1 r1 us l' from hcom)
    obtain ⟨L, hL⟩ : ∃ L, L = t0.text :: l' := ⟨_, rfl⟩
    have HL0 := Lib.hid hL
    rw [← hL] at hl ⊢
    clear hL
    clear h hx h41 hwt hk hcom hw
    go_enter Tryz.func113, Tryz.ntmps113
    go_upto_region 2 with (first
      | (go_at_call 74; refine HNO.out.mono ?_; rintro en w1 ⟨rfl, hb1⟩; have HA1 := Lib.hid (HA.out.below hb1); clear hb1)
      | (go_at_call 114; refine (HAR.out _ HA1.out).mono ?_; rintro en w2 ⟨⟨u, rfl⟩, hag⟩; have HA2 := Lib.hid hag; clear hag))
    go_loopg [] j (fun gh wr => gh ≤ j ∧ Hid (∃ (t : Tok) (r : List Tok) (done : List Str) (l2 : List Str), FnP W0 pb tb xb kb fb base nm (t :: r) done [] wr ∧ PomF gh t r us l2 ∧ L = done ++ l2))
    case atStart => exact ⟨Nat.le_refl _, Lib.hid ⟨t1, r1, [t0.text], l', HA2.out, HCO.out, by rw [HL0.out]; rfl⟩⟩
    case round =>
      obtain ⟨hgj, HH⟩ := hrel
      obtain ⟨wo, rfl⟩ : ∃ wo, wo = wr := ⟨_, rfl⟩
      obtain ⟨t2, r2, done, l2, hag, hco, hll⟩ := HH.out
      have HAG := Lib.hid hag
      have HLL := Lib.hid hll
      rcases hco with ⟨h44, ham⟩ | ⟨h44, h41, rfl, rfl⟩
      · obtain ⟨j2, t3, t4, r4, l3, rfl, hw2, hk2, rfl, hcom2⟩ := pmF_some ham
        obtain ⟨hrne, hre⟩ := hag.en.tail (tokIs_kind h44)
        have HTK := Lib.hid (take_yes pb tb t2 r2 [44] wo hag.pg.2 h44 hrne)
        have hdl : done.length ≤ 1000 := by
          have := congrArg List.length hll
          simp only [List.length_append] at this
          omega
        have HAR2 := Lib.hid (fun (W' : World) (h' : FnP W0 pb tb xb kb fb base nm r2 done [] W') => param1_yes pb tb xb kb fb base nm r2 (t4 :: r4) t3 done [] W0 W' HW.out h' hw2 hk2 hdl)
        have HC2 := Lib.hid (show PomF j2 t4 r4 us l3 from hcom2)
        have HRE := Lib.hid hre
        have hms : j2 < j2 + 1 := by omega
        have hgj2 : j2 ≤ j := by omega
        clear HH hag hll h44 ham hw2 hk2 hcom2 hrne hre HAR HCO HA HA1 HA2 HNO hgj
        go_wp2_with (first
          | (go_at_call 74; refine HTK.out.mono ?_; rintro en w1 ⟨rfl, hp1⟩; have HG1 := Lib.hid (HAG.out.take HW.out hp1 HRE.out); clear hp1)
          | (go_at_call 114; refine (HAR2.out _ HG1.out).mono ?_; rintro en w2 ⟨⟨u2, rfl⟩, hag2⟩; have HG2 := Lib.hid hag2; clear hag2))
        go_roundg j2
        case measure => exact hms
        case rel => exact ⟨hgj2, Lib.hid ⟨t4, r4, done ++ [t3.text], l3, HG2.out, HC2.out, by rw [HLL.out]; simp⟩⟩
      · obtain ⟨hrne, hre⟩ := hag.en.tail (tokIs_kind h41)
        have HTK := Lib.hid (take_no pb tb t2 us [44] wo hag.pg.2 h44)
        have hwn : wantF [[41]] (t2 :: us) = some us := by rw [wantF, if_pos h41]; rfl
        have HWA := Lib.hid (fun W sb (hh : PS W pb tb (t2 :: us)) (hs : Row W sb 9 ([[41]].map S)) => want_yes pb tb sb 1 1 [[41]] (t2 :: us) us W hh hs rfl hwn hrne (by simp))
        have HRE := Lib.hid hre
        clear HH hag hll h44 h41 hwn hrne hre HAR HCO HA HA1 HA2 HNO
        go_wp2_with (first
          | (go_at_call 74; refine HTK.out.mono ?_; rintro en w1 ⟨rfl, hb1⟩; have HG1 := Lib.hid (HAG.out.below hb1); clear hb1)
          | (go_at_call 72; refine (HWA.out _ w1.heap.size (HG1.out.pg.2.ext (below_a1 _ _)) (heap_new _ _)).mono ?_; rintro en w2 ⟨⟨u2, rfl⟩, hp2⟩; have HG2 := Lib.hid ((HG1.out.below (below_a1 _ _)).take HW.out hp2 HRE.out); clear hp2))
        go_end0
        exact ⟨⟨_, rfl⟩, by rw [HLL.out, List.append_nil]; exact HG2.out⟩
  · rw [h41] at hx
    simp only [if_true, Option.some.injEq, Prod.mk.injEq] at hx
    obtain ⟨rfl, rfl⟩ := hx
    obtain ⟨hrne, hre⟩ := h.en.tail (tokIs_kind h41)
    have HTK := Lib.hid (take_yes pb tb t r [41] W h.pg.2 h41 hrne)
    have HRE := Lib.hid hre
    clear h h41 hrne hre hw
    go_enter Tryz.func113, Tryz.ntmps113
    go_wp2_with (first
      | (go_at_call 74; refine HTK.out.mono ?_; rintro en w1 ⟨rfl, hp1⟩; have HG1 := Lib.hid (HA.out.take HW.out hp1 HRE.out); clear hp1))
    refine bodyPost_ret (results_none rfl _ _ _) rfl ?_
    exact ⟨⟨_, rfl⟩, HG1.out⟩
end Go.Proofs.YtjgbkdbkachciaaGreatDoor
