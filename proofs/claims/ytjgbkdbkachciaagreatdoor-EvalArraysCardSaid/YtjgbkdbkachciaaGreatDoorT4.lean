import Derived.Test.YtjgbkdbkachciaaGreatDoorN3
namespace Go.Proofs.YtjgbkdbkachciaaGreatDoor
open Go.RowKit Go.Shelf
attribute [local go_sem] Oper.semAt_some

/-! ### what lies in memory of a function, and of a program -/
def RStr (_ : World) (C : Nat → Value) (x : Str) : Prop := C 0 = S x
def RArr (_ : World) (C : Nat → Value) (x : LA) : Prop := C 0 = S x.name ∧ C 1 = I x.size
def RF (B : Nat → Prop) (W : World) (C : Nat → Value) (f : LF) : Prop := C 0 = S f.name ∧ RSlB B 1 RStr W (C 1) f.params ∧ RSlB B 1 RStr W (C 2) f.locals ∧ SX B W (C 3) f.body
theorem RF.grown {B : Nat → Prop} {w w' : World} {row : Option Nat} (hg : w.grownBy w' row) (hB : ∀ r, row = some r → ¬ B r) {C : Nat → Value} {f : LF} (h : RF B w C f) : RF B w' C f :=
  ⟨h.1, h.2.1.grown hg hB fun _ _ h => h, h.2.2.1.grown hg hB fun _ _ h => h, h.2.2.2.grown hg hB⟩
theorem RF.weak {B B' : Nat → Prop} {w : World} (hB : ∀ b, B b → B' b) {C : Nat → Value} {f : LF} (h : RF B w C f) : RF B' w C f :=
  ⟨h.1, h.2.1.weak hB fun _ _ h => h, h.2.2.1.weak hB fun _ _ h => h, h.2.2.2.weak hB⟩
/-- a program -/
structure PX (B : Nat → Prop) (W : World) (av fv : Value) (p : LP) : Prop where
  arrays : RSlB B 2 RArr W av p.arrays
  funcs : RSlB B 4 (RF B) W fv p.funcs
theorem PX.grown {B : Nat → Prop} {w w' : World} {row : Option Nat} (hg : w.grownBy w' row) (hB : ∀ r, row = some r → ¬ B r) {av fv : Value} {p : LP} (h : PX B w av fv p) : PX B w' av fv p :=
  ⟨h.1.grown hg hB fun _ _ h => h, h.2.grown hg hB fun _ _ h => h.grown hg hB⟩
theorem PX.alloc {B : Nat → Prop} {w : World} {o : Obj} {av fv : Value} {p : LP} (h : PX B w av fv p) : PX B (w.alloc o) av fv p := h.grown (alloc_grown w o none) (fun r e => by cases e)
theorem PX.below {B : Nat → Prop} {w w' : World} {av fv : Value} {p : LP} (h : PX B w av fv p) (hb : Below w.heap.size w w') : PX B w' av fv p := h.grown (below_grown hb none) (fun r e => by cases e)
theorem PX.weak {B B' : Nat → Prop} {w : World} (hB : ∀ b, B b → B' b) {av fv : Value} {p : LP} (h : PX B w av fv p) : PX B' w av fv p :=
  ⟨h.1.weak hB fun _ _ h => h, h.2.weak hB fun _ _ h => h.weak hB⟩
theorem PX.slice {B : Nat → Prop} {w : World} {av fv : Value} {p : LP} (h : PX B w av fv p) : ∃ a c a' c', av = .slice a p.arrays.length c ∧ fv = .slice a' p.funcs.length c' := by
  obtain ⟨⟨a, c, h1, _⟩, ⟨a', c', h2, _⟩⟩ := h
  exact ⟨a, c, a', c', h1, h2⟩

theorem slFunc : SlT 25 52 4 88 := SlT.mk' (z := .agg #[.string ByteArray.empty, .slice none 0 0, .slice none 0 0, .slice none 0 0]) Tryz.underlying25 (by kernel_rfl) rfl (by decide)
def a2Enc (x : LA) : List Value := [S x.name, I x.size]
theorem a2Enc_len (x : LA) : (a2Enc x).length = 2 := rfl
theorem a2Enc_one (x : LA) : ∀ u ∈ a2Enc x, u.oneCell' = true := by intro u hu; simp [a2Enc] at hu; rcases hu with rfl | rfl <;> rfl
theorem slArr : SlT 24 68 2 24 := SlT.mk' (z := .agg #[.string ByteArray.empty, .int .i64 0]) Tryz.underlying24 (by kernel_rfl) rfl (by decide)
theorem OwnS.arrs {w : World} {base : Nat} {v : Value} {l : List LA} (h : OwnS 2 68 a2Enc w base v l) (hl : l.length ≤ 1000000000) : RSlB (base ≤ ·) 2 RArr w v l := by
  have := h.rslB (R := RArr) (fun x => x) a2Enc_len hl fun x _ => ⟨rfl, rfl⟩
  simpa using this
theorem OwnS.strs {w : World} {base : Nat} {v : Value} {l : List Str} (h : OwnS 1 9 sEncS w base v l) (hl : l.length ≤ 1000000000) : RSlB (base ≤ ·) 1 RStr w v l := by
  have := h.rslB (R := RStr) (fun x => x) sEncS_len hl fun x _ => rfl
  simpa using this
/-- a function, and where its parts lie -/
structure FG where
  f : LF
  pa : Option Addr
  pc : Nat
  la : Option Addr
  lc : Nat
  ba : Option Addr
  bc : Nat
abbrev FG.pv (p : FG) : Value := .slice p.pa p.f.params.length p.pc
abbrev FG.lv (p : FG) : Value := .slice p.la p.f.locals.length p.lc
abbrev FG.bv (p : FG) : Value := .slice p.ba p.f.body.length p.bc
def fgEnc (p : FG) : List Value := [S p.f.name, p.pv, p.lv, p.bv]
theorem fgEnc_len (p : FG) : (fgEnc p).length = 4 := rfl
theorem fgEnc_one (p : FG) : ∀ u ∈ fgEnc p, u.oneCell' = true := by intro u hu; simp [fgEnc] at hu; rcases hu with rfl | rfl | rfl | rfl <;> rfl
/-- a function's parts, where they lie -/
structure PartG (B : Nat → Prop) (w : World) (pv lv bv : Value) (f : LF) : Prop where
  fp : RSlB B 1 RStr w pv f.params
  fl : RSlB B 1 RStr w lv f.locals
  fb : SX B w bv f.body
theorem PartG.grown {B : Nat → Prop} {w w' : World} {row : Option Nat} {pv lv bv : Value} {f : LF} (h : PartG B w pv lv bv f) (hg : w.grownBy w' row) (hr : ∀ r, row = some r → ¬ B r) : PartG B w' pv lv bv f :=
  ⟨h.fp.grown hg hr (fun _ _ h => h), h.fl.grown hg hr (fun _ _ h => h), SX.grown h.fb hg hr⟩
theorem PartG.weak {B B' : Nat → Prop} {w : World} {pv lv bv : Value} {f : LF} (h : PartG B w pv lv bv f) (hB : ∀ b, B b → B' b) : PartG B' w pv lv bv f := ⟨h.fp.weak hB (fun _ _ h => h), h.fl.weak hB (fun _ _ h => h), SX.weak h.fb hB⟩
theorem PartG.size {B : Nat → Prop} {w : World} {pv lv bv : Value} {f : LF} (h : PartG B w pv lv bv f) : PartG (fun b => B b ∧ b < w.heap.size) w pv lv bv f := ⟨h.fp.size (by omega) (fun _ _ h => h), h.fl.size (by omega) (fun _ _ h => h), SX.size h.fb⟩
theorem PartG.slice {B : Nat → Prop} {w : World} {pv lv bv : Value} {f : LF} (h : PartG B w pv lv bv f) : ∃ p : FG, p.f = f ∧ pv = p.pv ∧ lv = p.lv ∧ bv = p.bv := by
  obtain ⟨⟨a, c, h1, _⟩, ⟨a', c', h2, _⟩, h3⟩ := h
  obtain ⟨a'', c'', h3⟩ := h3.slice
  exact ⟨⟨f, a, c, a', c', a'', c''⟩, rfl, h1, h2, h3⟩
/-- what was put together is read -/
theorem OwnS.fgs {w : World} {base : Nat} {v : Value} {l : List FG} (h : OwnS 4 52 fgEnc w base v l) (hl : l.length ≤ 1000000000) (hA : ∀ p ∈ l, PartG (base ≤ ·) w p.pv p.lv p.bv p.f) : RSlB (base ≤ ·) 4 (RF (base ≤ ·)) w v (l.map FG.f) :=
  h.rslB FG.f fgEnc_len hl fun p hp => ⟨rfl, (hA p hp).fp, (hA p hp).fl, (hA p hp).fb⟩
/-- what of the functions is there already -/
def FsI (wr : World) (base : Nat) (v : Value) (done : List FG) : Prop := OwnS 4 52 fgEnc wr base v done ∧ ∀ p ∈ done, PartG (fun b => base ≤ b ∧ b < wr.heap.size ∧ v.ownBlock ≠ some b) wr p.pv p.lv p.bv p.f
theorem FsI.nil (w : World) (base : Nat) : FsI w base (.slice none 0 0) [] := ⟨OwnS.nil, fun p hp => by cases hp⟩
theorem FsI.grown {w w' : World} {base : Nat} {v : Value} {done : List FG} {row : Option Nat} (h : FsI w base v done) (hg : w.grownBy w' row) (hr : ∀ r, row = some r → r < base) : FsI w' base v done := by
  have hsz := hg.size
  refine ⟨ownsRow_kept' h.1 hg ?_, fun p hp => ?_⟩
  · cases hv : v.ownBlock with
    | none => exact .inl rfl
    | some k =>
      right
      intro e
      have := hr k e.symm
      have := (ownsRow_base h.1 k hv).1
      omega
  · exact ((h.2 p hp).grown hg (fun r e hb => by have := hr r e; omega)).weak fun b hb => ⟨hb.1, by omega, hb.2.2⟩
theorem FsI.app {w1 w2 w3 : World} {base g : Nat} {v v' : Value} {done : List FG} {row : Option Nat} {y : FG} {o : Obj} (h : FsI w1 base v done) (hg : w1.grownBy w2 row) (hr : ∀ r, row = some r → r < base) (hx : PartG (w1.heap.size ≤ ·) w2 y.pv y.lv y.bv y.f) (hb : base ≤ w1.heap.size)
    (ho : OwnS 4 52 fgEnc w3 base v' (done ++ [y])) (hg3 : (w2.alloc o).grownBy w3 v.ownBlock) (hv' : v'.ownBlock = some g) (hat : v.ownBlock = some g ∨ g = (w2.alloc o).heap.size) : FsI w3 base v' (done ++ [y]) := by
  have hs2 := hg.size
  have hz2 : (w2.alloc o).heap.size = w2.heap.size + 1 := by simp
  have hz3 := hg3.size
  have h2 := h.grown hg hr
  have hnb : ∀ b, base ≤ b → b < w2.heap.size → v.ownBlock ≠ some b → base ≤ b ∧ b < w3.heap.size ∧ v'.ownBlock ≠ some b := by
    intro b h1 h2 h3
    refine ⟨h1, by omega, fun e => ?_⟩
    rw [hv'] at e
    obtain rfl := Option.some.inj e
    rcases hat with h4 | h4
    · exact h3 h4
    · omega
  refine ⟨ho, fun p hp => ?_⟩
  rcases List.mem_append.1 hp with hp | hp
  · exact (((h2.2 p hp).grown (alloc_grown _ o none) (fun r e => by cases e)).grown hg3 (fun r e hb => hb.2.2 e)).weak fun b hb => hnb b hb.1 hb.2.1 hb.2.2
  · obtain rfl := List.mem_singleton.1 hp
    have h5 : ∀ r, v.ownBlock = some r → r < w1.heap.size := fun r e => (ownsRow_base h.1 r e).2
    exact ((hx.size.grown (alloc_grown _ o none) (fun r e => by cases e)).grown hg3 (fun r e hb => by have := h5 r e; omega)).weak fun b hb => hnb b (by omega) hb.2 (fun e => by have := h5 b e; omega)
theorem FsI.read {w : World} {base : Nat} {v : Value} {done : List FG} (h : FsI w base v done) (hl : done.length ≤ 1000000000) : RSlB (base ≤ ·) 4 (RF (base ≤ ·)) w v (done.map FG.f) :=
  h.1.fgs hl fun p hp => (h.2 p hp).weak fun _ hb => hb.1
end Go.Proofs.YtjgbkdbkachciaaGreatDoor

namespace Go.Proofs.YtjgbkdbkachciaaGreatDoor
open Go.RowKit Go.Shelf
attribute [local go_sem] Oper.semAt_some

/-- a name and a semicolon -/
def nmsF : List Tok → Option (Tok × List Tok × List Tok)
  | [] => none
  | t :: r => if t.kind = 1 then (wantF [[59]] r).map fun us => (t, r, us) else none
theorem nmsF_some {ts r us : List Tok} {t : Tok} (h : nmsF ts = some (t, r, us)) : ts = t :: r ∧ t.kind = 1 ∧ wantF [[59]] r = some us := by
  cases ts with
  | nil => cases h
  | cons t0 r0 =>
    rw [nmsF] at h
    split at h
    · next hk =>
      obtain ⟨us', h1, h2⟩ := Option.map_eq_some_iff.1 h
      simp only [Prod.mk.injEq] at h2
      obtain ⟨rfl, rfl, rfl⟩ := h2
      exact ⟨rfl, hk, h1⟩
    · cases h
/-- locals -/
def loF : Nat → List Tok → Option (List Str × List Tok)
  | 0, _ => none
  | _ + 1, [] => none
  | g + 1, t :: r => if tokIs t wInt then match nmsF r with
      | none => none
      | some (t2, _, us) => (loF g us).map fun p => (t2.text :: p.1, p.2)
    else some ([], t :: r)
/-- a function behind its name's parenthesis -/
def fnF (k g : Nat) (nm : Str) (ts : List Tok) : Option (LF × List Tok) := match paF g ts with
  | none => none
  | some (ps, us1) => if ps.length ≤ 1000 then match wantF [[123]] us1 with
      | none => none
      | some us2 => match loF g us2 with
        | none => none
        | some (ls, us3) => if ls.length ≤ 1000 then (stsF k g us3).map fun p => (⟨nm, ps, ls, p.1⟩, p.2) else none
    else none
def FnRet (w : World) (pb tb : Nat) (f : LF) (us : List Tok) (e : Ending) (w' : World) : Prop := ∃ pv lv bv, e = .returned (.agg #[S f.name, pv, lv, bv]) ∧ PartG (w.heap.size ≤ ·) w' pv lv bv f ∧ PG w pb tb us w'

set_option maxRecDepth 100000 in
set_option maxHeartbeats 4000000 in
theorem function_yes (k g pb tb : Nat) (nm : Str) (ts us : List Tok) (f : LF) (w : World) (h : PS w pb tb ts) (he : Ended ts) (hg : g ≤ 100000) (hx : fnF k g nm ts = some (f, us)) :
    Calls Tryz.prog 76 #[.pointer (some ⟨pb, 0, none⟩), S nm] w fun e w' => FnRet w pb tb f us e w' ∧ Ended us := by
  obtain ⟨t, r, rfl⟩ := he.cons
  have hpl := h.lt
  have htl := h.tlt
  unfold fnF at hx
  cases hpa : paF g (t :: r) with
  | none => rw [hpa] at hx; cases hx
  | some q =>
  obtain ⟨ps, us1⟩ := q
  rw [hpa] at hx
  simp only [] at hx
  split at hx
  case isFalse => cases hx
  next hps =>
  cases hwt : wantF [[123]] us1 with
  | none => rw [hwt] at hx; cases hx
  | some us2 =>
  rw [hwt] at hx
  simp only [] at hx
  cases hlo : loF g us2 with
  | none => rw [hlo] at hx; cases hx
  | some q =>
  obtain ⟨ls, us3⟩ := q
  rw [hlo] at hx
  simp only [] at hx
  split at hx
  case isFalse => cases hx
  next hls =>
  obtain ⟨⟨l, us4⟩, hst, hx2⟩ := Option.map_eq_some_iff.1 hx
  clear hx
  simp only [Prod.mk.injEq] at hx2
  obtain ⟨rfl, rfl⟩ := hx2
  obtain ⟨g1, rfl⟩ : ∃ g1, g = g1 + 1 := by
    cases g with
    | zero => rw [paF] at hpa; cases hpa
    | succ g1 => exact ⟨g1, rfl⟩
  have hw : FnW w pb tb w.heap.size (w.heap.size + 1) (w.heap.size + 1 + 1) (w.heap.size + 3) := ⟨hpl, htl, Nat.le_refl _, rfl, rfl, rfl⟩
  have HW := Lib.hid hw
  have HCO := Lib.hid (fun (W : World) (hh : FnP w pb tb w.heap.size (w.heap.size + 1) (w.heap.size + 1 + 1) (w.heap.size + 3) nm (t :: r) [] [] W) => params_yes g1 pb tb _ _ _ _ nm (t :: r) us1 ps w W hw hh hpa hps)
  have HWA := Lib.hid (fun W sb (hen : Ended us1) (hh : PS W pb tb us1) (hs : Row W sb 9 ([[123]].map S)) => want_yes pb tb sb 1 1 [[123]] us1 us2 W hh hs rfl hwt (hen.want hwt).1 (by simp))
  have HWE := Lib.hid (fun (hen : Ended us1) => (hen.want hwt).2)
  have HST := Lib.hid (fun W (hen : Ended us3) (hh : PS W pb tb us3) => stmts_yes k pb tb (g1 + 1) us3 us4 l W hh hen hg hst)
  have HLO := Lib.hid hlo
  have HP0 := Lib.hid h
  have HEN0 := Lib.hid he
  clear h he hpa hwt hlo hst hg hw
  go_enter Tryz.func76, Tryz.ntmps76
  go_upto_region 2 with (first
    | (refine store_first 52 (.tmp 5) (.tmp 7) rfl ?_; refine wpList_store_row rfl 52 (.tmp 5) (.tmp 7) rfl (w.heap.size + 1 + 1) _ rfl rfl 52 fZ (heap_at (by simp)) (by kernel_rfl) (by rfl) (by simp [Value.oneCell']) ?_))
  obtain ⟨w3, hw3⟩ : ∃ w3, w3 = ((((w.alloc (.cells #[.pointer (some ⟨pb, 0, none⟩)] 89)).alloc (.cells fZ 52)).alloc (.cells fZ 52)).setRow (w.heap.size + 1 + 1) #[S nm, .slice none 0 0, .slice none 0 0, .slice none 0 0]) := ⟨_, rfl⟩
  have hfv : FnV w pb tb w.heap.size (w.heap.size + 1) (w.heap.size + 1 + 1) (w.heap.size + 3) nm (t :: r) [] [] (.slice none 0 0) (.slice none 0 0) w3 := by
    refine ⟨?_, HEN0.out, ?_, ?_, ?_, OwnS.nil, OwnS.nil, fun b e => by cases e⟩
    · rw [hw3]; exact (PG.start HP0.out (((below_a1 w _).alloc (by simp) _).alloc (by simp; omega) _)).new (by omega) setRow_grown htl hpl
    · rw [hw3]; exact (setRow_other _ _ _ _ (by omega)).trans (heap_old _ _ (heap_old _ _ (heap_new _ _)))
    · rw [hw3]; exact (setRow_other _ _ _ _ (by omega)).trans (heap_old _ _ (heap_at (by simp)))
    · rw [hw3]; exact setRow_heap _ _ _ _ _ _ (heap_at (by simp))
  have c0 := hfv.x.cell 0
  simp only [List.getElem?_cons_zero] at c0
  rw [← hw3]
  have HF3 := Lib.hid hfv
  clear hw3 hfv
  go_upto_region 3 with (first
    | (go_at_call 113; refine (HCO.out w3 ⟨_, _, HF3.out⟩).mono ?_; rintro e' w4 ⟨⟨v4, rfl⟩, pv4, lv4, hf4⟩; have HF4 := Lib.hid hf4; clear c0; have c0 := hf4.x.cell 0; simp only [List.getElem?_cons_zero] at c0; clear hf4))
  go_upto_region 4 with (first
    | (go_at_call 72; refine (HWA.out _ w4.heap.size HF4.out.en (HF4.out.pg.2.ext (below_a1 _ _)) (heap_new _ _)).mono ?_; rintro e' w5 ⟨⟨v5, rfl⟩, hp5⟩; have HF5 := Lib.hid ((HF4.out.below (below_a1 _ _)).take HW.out hp5 (HWE.out HF4.out.en)); clear hp5 c0))
  clear HCO HWA HF3 HF4
  go_loopg [] (g1 + 1) (fun gh wr => Hid (∃ (ts' : List Tok) (done l2 : List Str) (lv : Value), FnV w pb tb w.heap.size (w.heap.size + 1) (w.heap.size + 1 + 1) (w.heap.size + 3) nm ts' ps done pv4 lv wr ∧ loF gh ts' = some (l2, us3) ∧ ls = done ++ l2))
  case atStart => exact Lib.hid ⟨us2, [], ls, lv4, HF5.out, HLO.out, rfl⟩
  case round =>
    obtain ⟨ts', done, l2, lv, hf, hlo, hll⟩ := hrel.out
    obtain ⟨wo, rfl⟩ : ∃ wo, wo = wr := ⟨_, rfl⟩
    obtain ⟨t1, r1, rfl⟩ := hf.en.cons
    obtain ⟨g2, rfl⟩ : ∃ g2, gk = g2 + 1 := by
      cases gk with
      | zero => rw [loF] at hlo; cases hlo
      | succ g2 => exact ⟨g2, rfl⟩
    rw [loF] at hlo
    have HF := Lib.hid hf
    have HLL := Lib.hid hll
    have c0 := hf.x.cell 0
    simp only [List.getElem?_cons_zero] at c0
    cases hin : tokIs t1 wInt
    · rw [hin] at hlo
      simp only [Bool.false_eq_true, if_false, Option.some.injEq, Prod.mk.injEq] at hlo
      obtain ⟨rfl, rfl⟩ := hlo
      have HTK := Lib.hid (take_no pb tb t1 r1 wInt wo hf.pg.2 hin)
      have hlse : ls = done := by rw [hll, List.append_nil]
      subst hlse
      obtain ⟨pa, pc, rfl⟩ := hf.op.slice
      obtain ⟨la, lc, rfl⟩ := hf.ol.slice
      clear hf hll hin hrel HLL
      go_upto_region 7 with (first
        | (go_at_call 74; refine HTK.out.mono ?_; rintro e' w6 ⟨rfl, hb6⟩; have HF6 := Lib.hid (HF.out.below hb6); clear hb6 c0; have c0 := HF6.out.x.cell 0; simp only [List.getElem?_cons_zero] at c0))
      have hz6 := HF6.out.pg.1.size
      have hl6 := HF6.out.r.lt
      go_upto_region 8 with (first
        | (go_at_call 115; refine (HST.out w6 HF6.out.en HF6.out.pg.2).mono ?_; rintro e' w7 ⟨⟨⟨bv, rfl, hb⟩, hp7⟩, hen⟩; obtain ⟨ba, bc, rfl⟩ := hb.slice; have HB7 := Lib.hid (hb.weak (B' := (w.heap.size + 3 ≤ ·)) (fun b hb => by omega)); have HF7 := Lib.hid (HF6.out.take HW.out hp7 hen); clear hp7 c0 hb hen; have c3 := HF7.out.r.cell 3; have f3 := HF7.out.r.frozen 3; simp only [List.getElem?_cons_zero, List.getElem?_cons_succ] at c3))
      obtain ⟨w8, hw8⟩ : ∃ w8, w8 = w7.setCell ⟨w.heap.size + 1 + 1, 3, none⟩ (.slice ba l.length bc) := ⟨_, rfl⟩
      have hg8 : w7.grownBy w8 (some (w.heap.size + 1 + 1)) := by rw [hw8]; exact setCell_grown _ _ _ _
      have hf8 : Row w8 (w.heap.size + 1 + 1) 52 [S nm, .slice pa ps.length pc, .slice la ls.length lc, .slice ba l.length bc] := by rw [hw8]; exact HF7.out.r.set 3 _
      have HK8 := Lib.hid (HF7.out.k.kept hg8 (by simp))
      have HP8 := Lib.hid (HF7.out.pg.new (by omega) hg8 htl hpl)
      have hprt : PartG (w.heap.size + 3 ≤ ·) w7 (.slice pa ps.length pc) (.slice la ls.length lc) (.slice ba l.length bc) ⟨nm, ps, ls, l⟩ := ⟨HF7.out.op.strs (by omega), HF7.out.ol.strs (by omega), HB7.out⟩
      have HB8 := Lib.hid (hprt.grown hg8 (fun r e => by cases e; omega))
      have d0 := hf8.cell 0
      have d1 := hf8.cell 1
      have d2 := hf8.cell 2
      have d3 := hf8.cell 3
      simp only [List.getElem?_cons_succ, List.getElem?_cons_zero] at d0 d1 d2 d3
      have HE8 := Lib.hid HF7.out.en
      rw [← hw8]
      clear hw8 hg8 hf8 c3 f3 hprt
      go_wp2_with (first
        | (refine store_first 52 (.tmp 4) (.tmp 29) rfl ?_; refine wpList_store_row rfl 52 (.tmp 4) (.tmp 29) rfl (w.heap.size + 1) _ rfl rfl 52 fZ HK8.out (by kernel_rfl) (by rfl) (by simp [Value.oneCell']) ?_))
      refine bodyPost_ret (results_cell_row rfl _ _ (w.heap.size + 1) 52 _ (0, 0) _ rfl (setRow_heap _ _ _ _ _ _ HK8.out) Tryz.underlying52 rfl (by kernel_rfl)) rfl ?_
      exact ⟨⟨_, _, _, rfl, (HB8.out.grown setRow_grown (fun r e => by cases e; omega)).weak fun b hb => by omega, HP8.out.new (by omega) setRow_grown htl hpl⟩, HE8.out⟩
    · rw [hin] at hlo
      simp only [if_true] at hlo
      cases hnm : nmsF r1 with
      | none => rw [hnm] at hlo; cases hlo
      | some q =>
      obtain ⟨t2, r2, us5⟩ := q
      rw [hnm] at hlo
      simp only [] at hlo
      obtain ⟨rfl, hk2, hw2⟩ := nmsF_some hnm
      clear hnm
      obtain ⟨⟨l3, us6⟩, hlo2, hx3⟩ := Option.map_eq_some_iff.1 hlo
      clear hlo
      simp only [Prod.mk.injEq] at hx3
      obtain ⟨rfl, rfl⟩ := hx3
      obtain ⟨hn1, he1⟩ := hf.en.tail (tokIs_kind hin)
      obtain ⟨hn2, he2⟩ := he1.tail (by omega)
      obtain ⟨hn3, he3⟩ := he2.want hw2
      have HTK := Lib.hid (take_yes pb tb t1 (t2 :: r2) wInt wo hf.pg.2 hin hn1)
      have HNM := Lib.hid (fun W (hh : PS W pb tb (t2 :: r2)) => pname_yes pb tb t2 r2 W hh hn2 hk2)
      have HWS := Lib.hid (fun W sb (hh : PS W pb tb r2) (hs : Row W sb 9 ([[59]].map S)) => want_yes pb tb sb 1 1 [[59]] r2 us5 W hh hs rfl hw2 hn3 (by simp))
      have HE1 := Lib.hid he1
      have HE2 := Lib.hid he2
      have HE3 := Lib.hid he3
      have HL2 := Lib.hid hlo2
      have hdl : done.length ≤ 1000 := by
        have := congrArg List.length hll
        simp only [List.length_append] at this
        omega
      obtain ⟨la, lc, rfl⟩ := hf.ol.slice
      obtain ⟨LN, hLN⟩ : ∃ n, n = done.length := ⟨_, rfl⟩
      rw [← hLN] at HF hdl
      have HLN := Lib.hid hLN
      clear hf hll hin hrel hk2 hw2 hlo2 hn1 hn2 hn3 he1 he2 he3 hLN
      go_upto_region 5 with (first
        | (go_at_call 74; refine HTK.out.mono ?_; rintro e' w6 ⟨rfl, hp6⟩; have HF6 := Lib.hid (HF.out.take HW.out hp6 HE1.out); clear hp6 c0))
      refine wp_region_ordW (by kernel_rfl) (fun X => X.cell? ⟨w.heap.size + 1 + 1, 2, none⟩ = some (.slice la LN lc) ∧ X.cell? ⟨w.heap.size, 0, none⟩ = some (.pointer (some ⟨pb, 0, none⟩))) [(0, 0), (0, 1), (0, 2), (1, 3), (1, 4), (1, 5), (0, 6), (2, 7)] (by kernel_rfl) ?hS ?_
      case hS => intro wd hh; exact ⟨row_at HF6.out.r hh 2, row_at HF6.out.x hh 0⟩
      intro wd hh hgd hS
      have HD := Lib.hid (HF6.out.grown0 HW.out hgd)
      clear hh hgd
      simp only [pickOps, List.map_cons, List.map_nil, List.getElem?_cons_zero, List.getElem?_cons_succ, Option.getD_some]
      repeat (refine wpOrd_look (v := ?_) (by rfl) ?_ (by assumption) (fun _ _ _ h => h) ?_; rotate_left; (· (intro wS hSw; (try dsimp only at hSw); go_simp; (first | done | with_reducible rfl))); simp only [Act.put, List.setIfInBounds_toArray, List.set_cons_zero, List.set_cons_succ])
      refine wpOrd_turn ?_
      go_wp2_with (first
        | (go_at_call 73; refine (HNM.out wd HD.out.pg.2).mono ?_; rintro en w2 ⟨rfl, hp2⟩; have H2 := Lib.hid (HD.out.take HW.out hp2 HE2.out); clear hp2))
      clear hS
      refine QN_keep ⟨H2.out.r.cell 2, H2.out.x.cell 0⟩ fun hS => ?_
      refine wpOrd_turn ?_
      go_wp2
      obtain ⟨w3', hw3⟩ : ∃ w3, w3 = w2.alloc (.cells #[.string ⟨t2.text.toArray⟩] 9) := ⟨_, rfl⟩
      obtain ⟨gz, hgz⟩ : ∃ g, g = w2.heap.size := ⟨_, rfl⟩
      have HGZ := Lib.hid (show Row w3' gz 9 [S t2.text] by rw [hw3, hgz]; exact heap_new _ _)
      have HG3 := Lib.hid (show w2.grownBy w3' none by rw [hw3]; exact alloc_grown _ _ none)
      have H3 := Lib.hid (show FnV _ _ _ _ _ _ _ _ _ _ _ _ _ w3' from H2.out.grown0 HW.out HG3.out)
      have hz3 : w2.heap.size < w3'.heap.size := by rw [hw3]; simp
      have hbz : w.heap.size + 3 ≤ w3'.heap.size := by have := H3.out.r.lt; omega
      change QN _ _ _ _ (w2.alloc (.cells #[.string ⟨t2.text.toArray⟩] 9))
      rw [← hw3, ← hgz]
      clear hw3 hgz hS
      refine QN_keep ⟨H3.out.r.cell 2, H3.out.x.cell 0⟩ fun hS => ?_
      refine wpOrd_turn ?_
      go_wp2_with (first
        | (at_builtin; refine wpList_appS slStr rfl _ _ rfl sEncS_len sEncS_one (w.heap.size + 3) (.slice la LN lc) done rfl H3.out.ol gz t2.text rfl (fun j _ => HGZ.out.cell j) (by have := HLN.out; omega) (by decide) hbz ?_; intro g' cap w5 ho5 hg5 hat5 hlt5; rw [← HLN.out] at ho5 ⊢; have HO5 := Lib.hid ho5; have HG5 := Lib.hid hg5; have HAT := Lib.hid hat5; clear ho5 hg5 hat5 hlt5 hS))
      have hpo : ∀ b, (Value.slice la LN lc).ownBlock = some b → w.heap.size + 3 ≤ b := fun b e => (ownsRow_base H3.out.ol b e).1
      have HR5 := Lib.hid (H3.out.r.kept HG5.out (fun e => by have := hpo _ e.symm; omega))
      have HX5 := Lib.hid (H3.out.x.kept HG5.out (fun e => by have := hpo _ e.symm; omega))
      refine QN_keep ⟨HR5.out.cell 2, HX5.out.cell 0⟩ fun hS => ?_
      clear hpo
      repeat (refine wpOrd_look (v := ?_) (by rfl) ?_ (by assumption) (fun _ _ _ h => h) ?_; rotate_left; (· (intro wS hSw; (try dsimp only at hSw); go_simp; (first | done | with_reducible rfl))); simp only [Act.put, List.setIfInBounds_toArray, List.set_cons_zero, List.set_cons_succ])
      refine wpOrd_last ?_
      have f1 := HR5.out.frozen 2
      have c1 := HR5.out.cell 2
      simp only [List.getElem?_cons_zero, List.getElem?_cons_succ] at c1
      clear hS
      go_wp2
      refine QN_normal (wpOrd_nil ?_)
      have hf9 := H2.out.pushL HW.out HG3.out hz3 HO5.out HG5.out HAT.out
      obtain ⟨w9, hw9⟩ : ∃ w9, w9 = w5.setCell ⟨w.heap.size + 1 + 1, 2, none⟩ (.slice (some ⟨g', 0, none⟩) (LN + 1) cap) := ⟨_, rfl⟩
      rw [← hw9] at hf9 ⊢
      have HF9 := Lib.hid hf9
      have c0 := hf9.x.cell 0
      simp only [List.getElem?_cons_zero] at c0
      clear hf9 hw9 f1 c1
      go_wp2_with (first
        | (go_at_call 72; refine (HWS.out _ w9.heap.size (HF9.out.pg.2.ext (below_a1 _ _)) (heap_new _ _)).mono ?_; rintro e' wA ⟨⟨vA, rfl⟩, hpA⟩; have HFA := Lib.hid ((HF9.out.below (below_a1 _ _)).take HW.out hpA HE3.out); clear hpA c0))
      go_roundg g2
      case measure => omega
      case rel => exact Lib.hid ⟨us5, done ++ [t2.text], l3, _, HFA.out, HL2.out, by rw [HLL.out]; simp⟩
end Go.Proofs.YtjgbkdbkachciaaGreatDoor
