import Derived.Test.YtjgbkdbkachciaaGreatDoorS9
namespace Go.Proofs.YtjgbkdbkachciaaGreatDoor
open Go.RowKit Go.Shelf
attribute [local go_sem] Oper.semAt_some

/-! ### what lies in memory of a statement -/
def RS : Nat → (Nat → Prop) → World → (Nat → Value) → LS → Prop
  | 0, _, _, _, _ => False
  | d + 1, B, W, C, s => C 0 = I s.kind ∧ C 1 = S s.name ∧ EX B W (C 2) (.mk 0 0 0 [] s.args) ∧ RSlB B 5 (RS d B) W (C 3) s.thn ∧ RSlB B 5 (RS d B) W (C 4) s.els
theorem RS.grown : ∀ (d : Nat) {B : Nat → Prop} {w w' : World} {row : Option Nat} (_ : w.grownBy w' row) (_ : ∀ r, row = some r → ¬ B r) {C : Nat → Value} {s : LS}, RS d B w C s → RS d B w' C s
  | 0, _, _, _, _, _, _, _, _, h => h
  | d + 1, _, _, _, _, hg, hB, _, _, ⟨h0, h1, h2, h3, h4⟩ => ⟨h0, h1, h2.grown hg hB, h3.grown hg hB fun _ _ h => RS.grown d hg hB h, h4.grown hg hB fun _ _ h => RS.grown d hg hB h⟩
theorem RS.weak : ∀ (d : Nat) {B B' : Nat → Prop} {w : World} (_ : ∀ b, B b → B' b) {C : Nat → Value} {s : LS}, RS d B w C s → RS d B' w C s
  | 0, _, _, _, _, _, _, h => h
  | d + 1, _, _, _, hB, _, _, ⟨h0, h1, h2, h3, h4⟩ => ⟨h0, h1, h2.weak hB, h3.weak hB fun _ _ h => RS.weak d hB h, h4.weak hB fun _ _ h => RS.weak d hB h⟩
theorem RS.succ : ∀ (d : Nat) {B : Nat → Prop} {w : World} {C : Nat → Value} {s : LS}, RS d B w C s → RS (d + 1) B w C s
  | 0, _, _, _, _, h => h.elim
  | d + 1, _, _, _, _, ⟨h0, h1, h2, h3, h4⟩ => ⟨h0, h1, h2, h3.weak (fun _ h => h) fun _ _ h => RS.succ d h, h4.weak (fun _ h => h) fun _ _ h => RS.succ d h⟩
theorem RS.le {d d' : Nat} (h : d ≤ d') {B : Nat → Prop} {w : World} {C : Nat → Value} {s : LS} (hr : RS d B w C s) : RS d' B w C s := by
  induction h with
  | refl => exact hr
  | step _ ih => exact RS.succ _ ih
/-- statements in a slice, in blocks of B -/
def SX (B : Nat → Prop) (W : World) (v : Value) (l : List LS) : Prop := ∃ d, RSlB B 5 (RS d B) W v l
theorem SX.grown {B : Nat → Prop} {w w' : World} {row : Option Nat} {v : Value} {l : List LS} (h : SX B w v l) (hg : w.grownBy w' row) (hr : ∀ r, row = some r → ¬ B r) : SX B w' v l := by
  obtain ⟨d, h⟩ := h
  exact ⟨d, h.grown hg hr fun _ _ h => RS.grown d hg hr h⟩
theorem SX.alloc {B : Nat → Prop} {w : World} {o : Obj} {v : Value} {l : List LS} (h : SX B w v l) : SX B (w.alloc o) v l := h.grown (alloc_grown w o none) (fun r e => by cases e)
theorem SX.ext {B : Nat → Prop} {w w' : World} {n : Nat} {v : Value} {l : List LS} (h : SX B w v l) (hb : Below n w w') (hn : w.heap.size ≤ n) : SX B w' v l := h.grown (below_grown (hb.mono hn) none) (fun r e => by cases e)
theorem SX.weak {B B' : Nat → Prop} {w : World} {v : Value} {l : List LS} (h : SX B w v l) (hb : ∀ b, B b → B' b) : SX B' w v l := by
  obtain ⟨d, h⟩ := h
  exact ⟨d, h.weak hb fun _ _ h => RS.weak d hb h⟩
theorem SX.slice {B : Nat → Prop} {w : World} {v : Value} {l : List LS} (h : SX B w v l) : ∃ a c, v = .slice a l.length c := by
  obtain ⟨d, a, c, h, _⟩ := h
  exact ⟨a, c, h⟩

theorem RS.size : ∀ (d : Nat) {B : Nat → Prop} {w : World} {C : Nat → Value} {s : LS}, RS d B w C s → RS d (fun b => B b ∧ b < w.heap.size) w C s
  | 0, _, _, _, _, h => h
  | d + 1, _, _, _, _, ⟨h0, h1, h2, h3, h4⟩ => ⟨h0, h1, h2.size, h3.size (by omega) fun _ _ h => RS.size d h, h4.size (by omega) fun _ _ h => RS.size d h⟩
theorem SX.size {B : Nat → Prop} {w : World} {v : Value} {l : List LS} (h : SX B w v l) : SX (fun b => B b ∧ b < w.heap.size) w v l := by
  obtain ⟨d, h⟩ := h
  exact ⟨d, h.size (by omega) fun _ _ h => RS.size d h⟩
/-- expressions in a slice -/
abbrev AX (B : Nat → Prop) (W : World) (v : Value) (l : List LE) : Prop := EX B W v (.mk 0 0 0 [] l)
theorem slStmt : SlT 50 54 5 96 := SlT.mk' (z := .agg #[.int .i64 0, .string ByteArray.empty, .slice none 0 0, .slice none 0 0, .slice none 0 0]) Tryz.underlying50 (by kernel_rfl) rfl (by decide)
/-! ### statements, put in a row -/
structure SD where
  s : LS
  a : Option Addr
  ac : Nat
  t : Option Addr
  tc : Nat
  e : Option Addr
  ec : Nat
abbrev SD.av (p : SD) : Value := .slice p.a p.s.args.length p.ac
abbrev SD.tv (p : SD) : Value := .slice p.t p.s.thn.length p.tc
abbrev SD.ev (p : SD) : Value := .slice p.e p.s.els.length p.ec
def dEnc (p : SD) : List Value := [I p.s.kind, S p.s.name, p.av, p.tv, p.ev]
theorem dEnc_len (p : SD) : (dEnc p).length = 5 := rfl
theorem dEnc_one (p : SD) : ∀ u ∈ dEnc p, u.oneCell' = true := by intro u hu; simp [dEnc] at hu; rcases hu with rfl | rfl | rfl | rfl | rfl <;> rfl
/-- a statement's parts, where they lie -/
structure PartD (B : Nat → Prop) (w : World) (p : SD) : Prop where
  a : AX B w p.av p.s.args
  t : SX B w p.tv p.s.thn
  e : SX B w p.ev p.s.els
theorem PartD.grown {B : Nat → Prop} {w w' : World} {row : Option Nat} {p : SD} (h : PartD B w p) (hg : w.grownBy w' row) (hr : ∀ r, row = some r → ¬ B r) : PartD B w' p :=
  ⟨EX.grown h.a hg hr, SX.grown h.t hg hr, SX.grown h.e hg hr⟩
theorem PartD.weak {B B' : Nat → Prop} {w : World} {p : SD} (h : PartD B w p) (hB : ∀ b, B b → B' b) : PartD B' w p := ⟨EX.weak h.a hB, SX.weak h.t hB, SX.weak h.e hB⟩
theorem PartD.size {B : Nat → Prop} {w : World} {p : SD} (h : PartD B w p) : PartD (fun b => B b ∧ b < w.heap.size) w p := ⟨EX.size h.a, SX.size h.t, SX.size h.e⟩
theorem list_leD {l : List SD} {P : Nat → SD → Prop} (hs : ∀ {d d' : Nat} {x : SD}, d ≤ d' → P d x → P d' x) (h : ∀ x ∈ l, ∃ d, P d x) : ∃ d, ∀ x ∈ l, P d x := by
  induction l with
  | nil => exact ⟨0, fun x hx => by cases hx⟩
  | cons y l ih =>
    obtain ⟨d1, h1⟩ := ih fun x hx => h x (List.mem_cons_of_mem _ hx)
    obtain ⟨d2, h2⟩ := h y (List.mem_cons_self ..)
    refine ⟨max d1 d2, fun x hx => ?_⟩
    rcases List.mem_cons.1 hx with rfl | hx
    · exact hs (Nat.le_max_right _ _) h2
    · exact hs (Nat.le_max_left _ _) (h1 x hx)
/-- what was put together is read -/
theorem OwnS.stmtsD {w : World} {base : Nat} {v : Value} {l : List SD} (h : OwnS 5 54 dEnc w base v l) (hl : l.length ≤ 1000000000) (hA : ∀ p ∈ l, PartD (base ≤ ·) w p) : SX (base ≤ ·) w v (l.map SD.s) := by
  obtain ⟨d, hd⟩ := list_leD (P := fun d p => RSlB (base ≤ ·) 5 (RS d (base ≤ ·)) w p.tv p.s.thn ∧ RSlB (base ≤ ·) 5 (RS d (base ≤ ·)) w p.ev p.s.els)
    (fun h k => ⟨k.1.weak (fun _ h => h) (fun _ _ h' => RS.le h h'), k.2.weak (fun _ h => h) (fun _ _ h' => RS.le h h')⟩) (fun p hp => by
      obtain ⟨d1, h1⟩ := (hA p hp).t
      obtain ⟨d2, h2⟩ := (hA p hp).e
      exact ⟨max d1 d2, h1.weak (fun _ h => h) (fun _ _ h' => RS.le (Nat.le_max_left _ _) h'), h2.weak (fun _ h => h) (fun _ _ h' => RS.le (Nat.le_max_right _ _) h')⟩)
  refine ⟨d + 1, ?_⟩
  exact h.rslB SD.s dEnc_len hl fun p hp => ⟨rfl, rfl, (hA p hp).a, (hd p hp).1, (hd p hp).2⟩
/-- what of the statements is there already -/
def SdI (wr : World) (base : Nat) (v : Value) (done : List SD) : Prop := OwnS 5 54 dEnc wr base v done ∧ ∀ p ∈ done, PartD (fun b => base ≤ b ∧ b < wr.heap.size ∧ v.ownBlock ≠ some b) wr p
theorem SdI.nil (w : World) (base : Nat) : SdI w base (.slice none 0 0) [] := ⟨OwnS.nil, fun p hp => by cases hp⟩
theorem SdI.grown {w w' : World} {base : Nat} {v : Value} {done : List SD} {row : Option Nat} (h : SdI w base v done) (hg : w.grownBy w' row) (hr : ∀ r, row = some r → r < base) : SdI w' base v done := by
  have hsz := hg.size
  refine ⟨ownsRow_kept' h.1 hg ?_, fun p hp => ?_⟩
  · cases hv : v.ownBlock with
    | none => exact .inl rfl
    | some k =>
      right
      intro e
      have := hr k e.symm
      have := (ownsRow_base h.1 k hv).1
      omega
  · exact ((h.2 p hp).grown hg (fun r e hb => by have := hr r e; omega)).weak fun b hb => ⟨hb.1, by omega, hb.2.2⟩
theorem SdI.app {w1 w2 w3 : World} {base g : Nat} {v v' : Value} {done : List SD} {row : Option Nat} {y : SD} {o : Obj} (h : SdI w1 base v done) (hg : w1.grownBy w2 row) (hr : ∀ r, row = some r → r < base) (hx : PartD (w1.heap.size ≤ ·) w2 y) (hb : base ≤ w1.heap.size)
    (ho : OwnS 5 54 dEnc w3 base v' (done ++ [y])) (hg3 : (w2.alloc o).grownBy w3 v.ownBlock) (hv' : v'.ownBlock = some g) (hat : v.ownBlock = some g ∨ g = (w2.alloc o).heap.size) : SdI w3 base v' (done ++ [y]) := by
  have hs2 := hg.size
  have hz2 : (w2.alloc o).heap.size = w2.heap.size + 1 := by simp
  have hz3 := hg3.size
  have h2 := h.grown hg hr
  have hnb : ∀ b, base ≤ b → b < w2.heap.size → v.ownBlock ≠ some b → base ≤ b ∧ b < w3.heap.size ∧ v'.ownBlock ≠ some b := by
    intro b h1 h2 h3
    refine ⟨h1, by omega, fun e => ?_⟩
    rw [hv'] at e
    obtain rfl := Option.some.inj e
    rcases hat with h4 | h4
    · exact h3 h4
    · omega
  have ha : ∀ {B : Nat → Prop} {p : SD}, PartD B w2 p → PartD B (w2.alloc o) p := fun h => h.grown (alloc_grown _ _ none) (fun r e => by cases e)
  refine ⟨ho, fun p hp => ?_⟩
  rcases List.mem_append.1 hp with hp | hp
  · exact ((ha (h2.2 p hp)).grown hg3 (fun r e hb => hb.2.2 e)).weak fun b hb => hnb b hb.1 hb.2.1 hb.2.2
  · obtain rfl := List.mem_singleton.1 hp
    have h5 : ∀ r, v.ownBlock = some r → r < w1.heap.size := fun r e => (ownsRow_base h.1 r e).2
    exact ((ha hx.size).grown hg3 (fun r e hb => by have := h5 r e; omega)).weak fun b hb => hnb b (by omega) hb.2 (fun e => by have := h5 b e; omega)
theorem SdI.read {w : World} {base : Nat} {v : Value} {done : List SD} (h : SdI w base v done) (hl : done.length ≤ 1000000000) : SX (base ≤ ·) w v (done.map SD.s) :=
  h.1.stmtsD hl fun p hp => (h.2 p hp).weak fun _ hb => hb.1
end Go.Proofs.YtjgbkdbkachciaaGreatDoor

namespace Go.Proofs.YtjgbkdbkachciaaGreatDoor
open Go.RowKit Go.Shelf
attribute [local go_sem] Oper.semAt_some

abbrev wIf : Str := [105, 102]
abbrev wElse : Str := [101, 108, 115, 101]
abbrev wWhile : Str := [119, 104, 105, 108, 101]
mutual
/-- a statement -/
def stF (k : Nat) : Nat → List Tok → Option (LS × List Tok)
  | 0, _ => none
  | _ + 1, [] => none
  | g + 1, t :: r =>
    if tokIs t wIf then match inF k r with
      | none => none
      | some (e, us) => match blF k g us with
        | some (th, u :: vs) => if tokIs u wElse then (blF k g vs).map fun p => (.mk 3 [] [e] th p.1, p.2) else some (.mk 3 [] [e] th [], u :: vs)
        | _ => none
    else if tokIs t wWhile then match inF k r with
      | none => none
      | some (e, us) => (blF k g us).map fun p => (.mk 4 [] [e] p.1 [], p.2)
    else match siF k (t :: r) with
      | none => none
      | some (s, us) => (wantF [[59]] us).map fun r' => (s, r')
/-- statements in braces -/
def blF (k : Nat) : Nat → List Tok → Option (List LS × List Tok)
  | 0, _ => none
  | g + 1, ts => match wantF [[123]] ts with
    | none => none
    | some us => stsF k g us
/-- statements up to a brace -/
def stsF (k : Nat) : Nat → List Tok → Option (List LS × List Tok)
  | 0, _ => none
  | _ + 1, [] => none
  | g + 1, t :: r => if tokIs t [125] then some ([], r) else match stF k g (t :: r) with
    | none => none
    | some (s, us) => (stsF k g us).map fun p => (s :: p.1, p.2)
end
theorem SX.nil (B : Nat → Prop) (W : World) : SX B W (.slice none 0 0) [] := ⟨0, RSlB.nil _ _ _ _⟩
/-- a statement comes back -/
def StRet (w : World) (pb tb : Nat) (s : LS) (us : List Tok) (e : Ending) (w' : World) : Prop := ∃ av tv ev, e = .returned (.agg #[I s.kind, S s.name, av, tv, ev]) ∧ ESl w.heap.size w' av s.args ∧ SX (w.heap.size ≤ ·) w' tv s.thn ∧ SX (w.heap.size ≤ ·) w' ev s.els ∧ PG w pb tb us w'
/-- statements come back -/
def SsRet (w : World) (pb tb : Nat) (l : List LS) (us : List Tok) (e : Ending) (w' : World) : Prop := (∃ v, e = .returned v ∧ SX (w.heap.size ≤ ·) w' v l) ∧ PG w pb tb us w'
structure StOk (k g : Nat) : Prop where
  st : ∀ (pb tb : Nat) (ts us : List Tok) (s : LS) (w : World), PS w pb tb ts → Ended ts → stF k g ts = some (s, us) → Calls Tryz.prog 176 #[.pointer (some ⟨pb, 0, none⟩)] w (fun e w' => StRet w pb tb s us e w' ∧ Ended us)
  bl : ∀ (pb tb : Nat) (ts us : List Tok) (l : List LS) (w : World), PS w pb tb ts → Ended ts → blF k g ts = some (l, us) → Calls Tryz.prog 203 #[.pointer (some ⟨pb, 0, none⟩)] w (fun e w' => SsRet w pb tb l us e w' ∧ Ended us)
  ss : ∀ (pb tb : Nat) (ts us : List Tok) (l : List LS) (w : World), PS w pb tb ts → Ended ts → stsF k g ts = some (l, us) → Calls Tryz.prog 115 #[.pointer (some ⟨pb, 0, none⟩)] w (fun e w' => SsRet w pb tb l us e w' ∧ Ended us)

set_option maxRecDepth 100000 in
set_option maxHeartbeats 4000000 in
theorem block_step {k g : Nat} (ih : StOk k g) (pb tb : Nat) (ts us : List Tok) (l : List LS) (w : World) (h : PS w pb tb ts) (he : Ended ts) (hx : blF k (g + 1) ts = some (l, us)) :
    Calls Tryz.prog 203 #[.pointer (some ⟨pb, 0, none⟩)] w (fun e w' => SsRet w pb tb l us e w' ∧ Ended us) := by
  obtain ⟨t0, r0, rfl⟩ := he.cons
  have hpl := h.lt
  have htl := h.tlt
  rw [blF] at hx
  cases hw1 : wantF [[123]] (t0 :: r0) with
  | none => rw [hw1] at hx; cases hx
  | some us0 =>
    rw [hw1] at hx
    simp only [] at hx
    obtain ⟨hn0, he0⟩ := he.want hw1
    have HW0 := Lib.hid (fun W sb (hh : PS W pb tb (t0 :: r0)) (hs : Row W sb 9 ([[123]].map S)) => want_yes pb tb sb 1 1 [[123]] (t0 :: r0) us0 W hh hs rfl hw1 hn0 (by simp))
    have HSS := Lib.hid (fun W (hh : PS W pb tb us0) => ih.ss pb tb us0 us l W hh he0 hx)
    have HP0 := Lib.hid (PG.start h (Below.refl _ w))
    clear h he hw1 hn0 he0 hx ih
    go_enter Tryz.func203, Tryz.ntmps203
    go_wp2_with (first
      | (go_at_call 72; refine (HW0.out _ w.heap.size (HP0.out.2.ext (below_a1 _ _)) (heap_new _ _)).mono ?_; rintro e' w1 ⟨⟨v1, rfl⟩, hp1⟩; have HP1 := Lib.hid ((HP0.out.below (below_a1 _ _)).trans hp1); have hz1 := hp1.1.size; clear hp1)
      | (go_at_call 115; refine (HSS.out w1 HP1.out.2).mono ?_; rintro e' w2 ⟨⟨⟨v, rfl, hb⟩, hp2⟩, hen⟩; have HP2 := Lib.hid (HP1.out.trans hp2); have HB2 := Lib.hid (hb.weak (B' := (w.heap.size ≤ ·)) (fun b hb => by have := HP1.out.1.size; omega)); have HEN := Lib.hid hen; clear hb hp2 hen))
    go_ret
    exact ⟨⟨⟨_, rfl, HB2.out⟩, HP2.out⟩, HEN.out⟩
end Go.Proofs.YtjgbkdbkachciaaGreatDoor

namespace Go.Proofs.YtjgbkdbkachciaaGreatDoor
open Go.RowKit Go.Shelf
attribute [local go_sem] Oper.semAt_some

set_option maxRecDepth 100000 in
set_option maxHeartbeats 4000000 in
theorem stmt_simple (k pb tb : Nat) (t : Tok) (r us us1 : List Tok) (s : LS) (w : World) (h : PS w pb tb (t :: r)) (he : Ended (t :: r)) (hi : tokIs t wIf = false) (hwh : tokIs t wWhile = false) (hsi : siF k (t :: r) = some (s, us1)) (hw : wantF [[59]] us1 = some us) :
    Calls Tryz.prog 176 #[.pointer (some ⟨pb, 0, none⟩)] w (fun e w' => StRet w pb tb s us e w' ∧ Ended us) := by
  have hpl := h.lt
  have htl := h.tlt
  obtain ⟨w1, hw1⟩ : ∃ w1, w1 = w.alloc (.cells sZ 54) := ⟨_, rfl⟩
  have hb1 : Below w.heap.size w w1 := by rw [hw1]; exact below_a1 _ _
  have hz1 : w1.heap.size = w.heap.size + 1 := by rw [hw1]; simp
  have hwe : w.alloc (.cells sZ 54) = w1 := hw1.symm
  have h1 := h.ext hb1
  have HW1 := Lib.hid hw1
  have HB1 := Lib.hid hb1
  have HP1 := Lib.hid (PG.start h1 (Below.refl _ w1))
  have HIF := Lib.hid (take_no pb tb t r wIf w1 h1 hi)
  have HWH := Lib.hid (fun W (hh : PS W pb tb (t :: r)) => take_no pb tb t r wWhile W hh hwh)
  have HSI := Lib.hid (fun W (hh : PS W pb tb (t :: r)) => simple_yes k pb tb (t :: r) us1 s W hh he hsi)
  have HWA := Lib.hid (fun W sb (hh : PS W pb tb us1) (hs : Row W sb 9 ([[59]].map S)) (hen : Ended us1) => want_yes pb tb sb 1 1 [[59]] us1 us W hh hs rfl hw (hen.want hw).1 (by simp))
  have HWE := Lib.hid (fun (hen : Ended us1) => (hen.want hw).2)
  clear h he h1 hb1 hw1 hi hwh hsi hw
  go_enter Tryz.func176, Tryz.ntmps176
  go_upto_region 6 with (first
    | (go_at_call 74; refine HIF.out.mono ?_; rintro e' w2 ⟨rfl, hb2⟩; have HP2 := Lib.hid (HP1.out.below hb2); clear hb2))
  go_upto_region 9 with (first
    | (go_at_call 74; refine (HWH.out w2 HP2.out.2).mono ?_; rintro e' w3 ⟨rfl, hb3⟩; have HP3 := Lib.hid (HP2.out.below hb3); clear hb3))
  have hz3 := HP3.out.1.size
  go_upto_region 10 with (first
    | (go_at_call 204; refine (HSI.out w3 HP3.out.2).mono ?_; rintro e' w4 ⟨⟨av, rfl, ha, hp4, hth, hel⟩, hen⟩; have HA := Lib.hid (ha.mono (base' := w.heap.size + 1) (by omega)); obtain ⟨aa, ac, rfl⟩ := ha.slice; have HP4 := Lib.hid (HP3.out.trans hp4); have HEN := Lib.hid hen; have HK4 := Lib.hid ((HP3.out.trans hp4).zero HW1.out hpl); have HTH := Lib.hid hth; have HEL := Lib.hid hel; clear hp4 hen ha hth hel)
    | (refine store_first 54 (.tmp 2) (.tmp 29) rfl ?_; refine wpList_store_row rfl 54 (.tmp 2) (.tmp 29) rfl w.heap.size _ rfl rfl 54 sZ HK4.out (by kernel_rfl) (by rfl) (by simp [Value.oneCell']) ?_))
  obtain ⟨w5, hw5⟩ : ∃ w5, w5 = w4.setRow w.heap.size #[I s.kind, S s.name, .slice aa (LE.mk 0 0 0 [] s.args).args.length ac, .slice none 0 0, .slice none 0 0] := ⟨_, rfl⟩
  have hr5 : Row w5 w.heap.size 54 [I s.kind, S s.name, .slice aa (LE.mk 0 0 0 [] s.args).args.length ac, .slice none 0 0, .slice none 0 0] := by rw [hw5]; exact setRow_heap _ _ _ _ _ _ HK4.out
  have hp5 : PG w pb tb us1 w5 := by rw [hw5]; exact (HP4.out.pre HB1.out).new (Nat.le_refl _) setRow_grown htl hpl
  have ha5 : ESl (w.heap.size + 1) w5 (.slice aa (LE.mk 0 0 0 [] s.args).args.length ac) s.args := by rw [hw5]; exact HA.out.grown setRow_grown (fun r e => by cases e; omega)
  rw [← hw5]
  have HR5 := Lib.hid hr5
  have HP5 := Lib.hid hp5
  have HA5 := Lib.hid ha5
  clear hw5 hr5 hp5 ha5
  go_wp2_with (first
    | (go_at_call 72; refine (HWA.out _ w5.heap.size (HP5.out.2.ext (below_a1 _ _)) (heap_new _ _) HEN.out).mono ?_; rintro e' w6 ⟨⟨v6, rfl⟩, hp6⟩; have hr6 : Row w6 w.heap.size 54 [I s.kind, S s.name, .slice aa (LE.mk 0 0 0 [] s.args).args.length ac, .slice none 0 0, .slice none 0 0] := hp6.row (heap_old _ _ HR5.out) (by omega); have HR6 := Lib.hid hr6; have HA6 := Lib.hid (HA5.out.alloc.pg hp6 (by omega)); have HP6 := Lib.hid ((HP5.out.below (below_a1 _ _)).trans hp6); clear hp6 hr6))
  refine bodyPost_ret (results_cell_row rfl _ _ w.heap.size 54 _ (0, 0) _ rfl HR6.out Tryz.underlying54 rfl (by kernel_rfl)) rfl ?_
  exact ⟨⟨_, _, _, rfl, HA6.out.mono (by omega), by rw [HTH.out]; exact SX.nil _ _, by rw [HEL.out]; exact SX.nil _ _, HP6.out⟩, HWE.out HEN.out⟩

set_option maxRecDepth 100000 in
set_option maxHeartbeats 4000000 in
theorem stmt_while {k g : Nat} (ih : StOk k g) (pb tb : Nat) (t : Tok) (r us0 us : List Tok) (e : LE) (th : List LS) (w : World) (h : PS w pb tb (t :: r)) (he : Ended (t :: r)) (hi : tokIs t wIf = false) (hwh : tokIs t wWhile = true) (hin : inF k r = some (e, us0)) (hb : blF k g us0 = some (th, us)) :
    Calls Tryz.prog 176 #[.pointer (some ⟨pb, 0, none⟩)] w (fun e' w' => StRet w pb tb (.mk 4 [] [e] th []) us e' w' ∧ Ended us) := by
  have hpl := h.lt
  have htl := h.tlt
  obtain ⟨w1, hw1⟩ : ∃ w1, w1 = w.alloc (.cells sZ 54) := ⟨_, rfl⟩
  have hb1 : Below w.heap.size w w1 := by rw [hw1]; exact below_a1 _ _
  have hz1 : w1.heap.size = w.heap.size + 1 := by rw [hw1]; simp
  have hwe : w.alloc (.cells sZ 54) = w1 := hw1.symm
  have h1 := h.ext hb1
  have HW1 := Lib.hid hw1
  have HB1 := Lib.hid hb1
  have HP1 := Lib.hid (PG.start h1 (Below.refl _ w1))
  obtain ⟨hrne, hre⟩ := he.tail (tokIs_kind hwh)
  have HIF := Lib.hid (take_no pb tb t r wIf w1 h1 hi)
  have HWH := Lib.hid (fun W (hh : PS W pb tb (t :: r)) => take_yes pb tb t r wWhile W hh hwh hrne)
  have HIN := Lib.hid (fun W (hh : PS W pb tb r) => inside_yes k pb tb r us0 e W hh hre hin)
  have HBL := Lib.hid (fun W (hen : Ended us0) (hh : PS W pb tb us0) => ih.bl pb tb us0 us th W hh hen hb)
  clear h he h1 hb1 hw1 hi hwh hin hb ih hrne hre
  go_enter Tryz.func176, Tryz.ntmps176
  go_upto_region 6 with (first
    | (go_at_call 74; refine HIF.out.mono ?_; rintro e' w2 ⟨rfl, hb2⟩; have HP2 := Lib.hid (HP1.out.below hb2); clear hb2))
  go_upto_region 7 with (first
    | (go_at_call 74; refine (HWH.out w2 HP2.out.2).mono ?_; rintro e' w3 ⟨rfl, hp3⟩; have HP3 := Lib.hid (HP2.out.trans hp3); clear hp3))
  have hz3 := HP3.out.1.size
  go_upto_region 8 with (first
    | (go_at_call 202; refine (HIN.out w3 HP3.out.2).mono ?_; rintro e' w4 ⟨⟨av, rfl, ha⟩, hp4, hen⟩; have HA4 := Lib.hid (ha.mono (base' := w.heap.size + 1) (by omega)); obtain ⟨aa, ac, rfl⟩ := ha.slice; have HP4 := Lib.hid (HP3.out.trans hp4); have HEN := Lib.hid hen; have hk4 : Row w4 w.heap.size 54 [I 0, S [], .slice none 0 0, .slice none 0 0, .slice none 0 0] := (HP3.out.trans hp4).zero HW1.out hpl; have c0 := hk4.cell 0; have c2 := hk4.cell 2; have f0 := hk4.frozen 0; have f2 := hk4.frozen 2; have HK4 := Lib.hid hk4; simp only [List.getElem?_cons_zero, List.getElem?_cons_succ] at c0 c2; clear hp4 hen ha hk4))
  obtain ⟨w5, hw5⟩ : ∃ w5, w5 = (w4.setCell ⟨w.heap.size, 0, none⟩ (I 4)).setCell ⟨w.heap.size, 2, none⟩ (.slice aa (LE.mk 0 0 0 [] [e]).args.length ac) := ⟨_, rfl⟩
  have hk5 : Row w5 w.heap.size 54 [I 4, S [], .slice aa (LE.mk 0 0 0 [] [e]).args.length ac, .slice none 0 0, .slice none 0 0] := by rw [hw5]; exact (HK4.out.set 0 _).set 2 _
  have hg5 : w4.grownBy w5 (some w.heap.size) := by rw [hw5]; exact (setCell_grown _ _ _ _).trans (setCell_grown _ _ _ _)
  have hp5 : PG w pb tb us0 w5 := (HP4.out.pre HB1.out).new (Nat.le_refl _) hg5 htl hpl
  have ha5 : ESl (w.heap.size + 1) w5 (.slice aa (LE.mk 0 0 0 [] [e]).args.length ac) [e] := HA4.out.grown hg5 (fun r e => by cases e; omega)
  rw [← hw5]
  have HK5 := Lib.hid hk5
  have HP5 := Lib.hid hp5
  have HA5 := Lib.hid ha5
  have hz5 := hp5.1.size
  have hl5 := hk5.lt
  clear hw5 hk5 hg5 hp5 ha5 c0 c2 f0 f2
  go_wp2_with (first
    | (go_at_call 203; refine (HBL.out w5 HEN.out HP5.out.2).mono ?_; rintro e' w6 ⟨⟨⟨tv, rfl, hb⟩, hp6⟩, hen⟩; have HB6 := Lib.hid (hb.weak (B' := (w.heap.size + 1 ≤ ·)) (fun b hb => by omega)); obtain ⟨ta, tc, rfl⟩ := hb.slice; have hk6 := hp6.row HK5.out (by omega); have c3 := hk6.cell 3; have f3 := hk6.frozen 3; have HK6 := Lib.hid hk6; have HA6 := Lib.hid (HA5.out.pg hp6 (by omega)); have HP6 := Lib.hid (HP5.out.trans hp6); have HEN6 := Lib.hid hen; simp only [List.getElem?_cons_zero, List.getElem?_cons_succ] at c3; clear hp6 hen hb hk6))
  have hg7 := setCell_grown w6 w.heap.size 3 (.slice ta th.length tc)
  refine bodyPost_ret (results_cell_row rfl _ _ w.heap.size 54 _ (0, 0) _ rfl (HK6.out.set 3 _) Tryz.underlying54 rfl (by kernel_rfl)) rfl ?_
  exact ⟨⟨_, _, _, rfl, (HA6.out.grown hg7 (fun r e => by cases e; omega)).mono (by omega), (HB6.out.grown hg7 (fun r e => by cases e; omega)).weak (fun b hb => by omega), SX.nil _ _, HP6.out.new (Nat.le_refl _) hg7 htl hpl⟩, HEN6.out⟩
set_option maxRecDepth 100000 in
set_option maxHeartbeats 4000000 in
theorem stmt_if {k g : Nat} (ih : StOk k g) (pb tb : Nat) (t : Tok) (u : Tok) (r us0 vs : List Tok) (e : LE) (th : List LS) (w : World) (h : PS w pb tb (t :: r)) (he : Ended (t :: r)) (hi : tokIs t wIf = true) (hin : inF k r = some (e, us0)) (hb : blF k g us0 = some (th, u :: vs)) (hu : tokIs u wElse = false) :
    Calls Tryz.prog 176 #[.pointer (some ⟨pb, 0, none⟩)] w (fun e' w' => StRet w pb tb (.mk 3 [] [e] th []) (u :: vs) e' w' ∧ Ended (u :: vs)) := by
  have hpl := h.lt
  have htl := h.tlt
  obtain ⟨w1, hw1⟩ : ∃ w1, w1 = w.alloc (.cells sZ 54) := ⟨_, rfl⟩
  have hb1 : Below w.heap.size w w1 := by rw [hw1]; exact below_a1 _ _
  have hz1 : w1.heap.size = w.heap.size + 1 := by rw [hw1]; simp
  have hwe : w.alloc (.cells sZ 54) = w1 := hw1.symm
  have h1 := h.ext hb1
  have HW1 := Lib.hid hw1
  have HB1 := Lib.hid hb1
  have HP1 := Lib.hid (PG.start h1 (Below.refl _ w1))
  obtain ⟨hrne, hre⟩ := he.tail (tokIs_kind hi)
  have HIF := Lib.hid (take_yes pb tb t r wIf w1 h1 hi hrne)
  have HIN := Lib.hid (fun W (hh : PS W pb tb r) => inside_yes k pb tb r us0 e W hh hre hin)
  have HBL := Lib.hid (fun W (hen : Ended us0) (hh : PS W pb tb us0) => ih.bl pb tb us0 (u :: vs) th W hh hen hb)
  have HEL := Lib.hid (fun W (hh : PS W pb tb (u :: vs)) => take_no pb tb u vs wElse W hh hu)
  clear h he h1 hb1 hw1 hi hin hb ih hrne hre hu
  go_enter Tryz.func176, Tryz.ntmps176
  go_upto_region 2 with (first
    | (go_at_call 74; refine HIF.out.mono ?_; rintro e' w3 ⟨rfl, hp3⟩; have HP3 := Lib.hid (HP1.out.trans hp3); clear hp3))
  have hz3 := HP3.out.1.size
  go_upto_region 3 with (first
    | (go_at_call 202; refine (HIN.out w3 HP3.out.2).mono ?_; rintro e' w4 ⟨⟨av, rfl, ha⟩, hp4, hen⟩; have HA4 := Lib.hid (ha.mono (base' := w.heap.size + 1) (by omega)); obtain ⟨aa, ac, rfl⟩ := ha.slice; have HP4 := Lib.hid (HP3.out.trans hp4); have HEN := Lib.hid hen; have hk4 : Row w4 w.heap.size 54 [I 0, S [], .slice none 0 0, .slice none 0 0, .slice none 0 0] := (HP3.out.trans hp4).zero HW1.out hpl; have c0 := hk4.cell 0; have c2 := hk4.cell 2; have f0 := hk4.frozen 0; have f2 := hk4.frozen 2; have HK4 := Lib.hid hk4; simp only [List.getElem?_cons_zero, List.getElem?_cons_succ] at c0 c2; clear hp4 hen ha hk4))
  obtain ⟨w5, hw5⟩ : ∃ w5, w5 = (w4.setCell ⟨w.heap.size, 0, none⟩ (I 3)).setCell ⟨w.heap.size, 2, none⟩ (.slice aa (LE.mk 0 0 0 [] [e]).args.length ac) := ⟨_, rfl⟩
  have hk5 : Row w5 w.heap.size 54 [I 3, S [], .slice aa (LE.mk 0 0 0 [] [e]).args.length ac, .slice none 0 0, .slice none 0 0] := by rw [hw5]; exact (HK4.out.set 0 _).set 2 _
  have hg5 : w4.grownBy w5 (some w.heap.size) := by rw [hw5]; exact (setCell_grown _ _ _ _).trans (setCell_grown _ _ _ _)
  have hp5 : PG w pb tb us0 w5 := (HP4.out.pre HB1.out).new (Nat.le_refl _) hg5 htl hpl
  have ha5 : ESl (w.heap.size + 1) w5 (.slice aa (LE.mk 0 0 0 [] [e]).args.length ac) [e] := HA4.out.grown hg5 (fun r e => by cases e; omega)
  rw [← hw5]
  have HK5 := Lib.hid hk5
  have HP5 := Lib.hid hp5
  have HA5 := Lib.hid ha5
  have hz5 := hp5.1.size
  have hl5 := hk5.lt
  clear hw5 hk5 hg5 hp5 ha5 c0 c2 f0 f2
  go_upto_region 4 with (first
    | (go_at_call 203; refine (HBL.out w5 HEN.out HP5.out.2).mono ?_; rintro e' w6 ⟨⟨⟨tv, rfl, hb⟩, hp6⟩, hen⟩; have HB6 := Lib.hid (hb.weak (B' := (w.heap.size + 1 ≤ ·)) (fun b hb => by omega)); obtain ⟨ta, tc, rfl⟩ := hb.slice; have hk6 := hp6.row HK5.out (by omega); have c3 := hk6.cell 3; have f3 := hk6.frozen 3; have HK6 := Lib.hid hk6; have HA6 := Lib.hid (HA5.out.pg hp6 (by omega)); have HP6 := Lib.hid (HP5.out.trans hp6); have HEN6 := Lib.hid hen; simp only [List.getElem?_cons_zero, List.getElem?_cons_succ] at c3; clear hp6 hen hb hk6))
  obtain ⟨w7, hw7⟩ : ∃ w7, w7 = w6.setCell ⟨w.heap.size, 3, none⟩ (.slice ta th.length tc) := ⟨_, rfl⟩
  have hg7 : w6.grownBy w7 (some w.heap.size) := by rw [hw7]; exact setCell_grown _ _ _ _
  have hk7 : Row w7 w.heap.size 54 [I 3, S [], .slice aa (LE.mk 0 0 0 [] [e]).args.length ac, .slice ta th.length tc, .slice none 0 0] := by rw [hw7]; exact HK6.out.set 3 _
  have hp7 : PG w pb tb (u :: vs) w7 := HP6.out.new (Nat.le_refl _) hg7 htl hpl
  rw [← hw7]
  have HK7 := Lib.hid hk7
  have HP7 := Lib.hid hp7
  have HA7 := Lib.hid (HA6.out.grown hg7 (fun r e => by cases e; omega))
  have HB7 := Lib.hid (HB6.out.grown hg7 (fun r e => by cases e; omega))
  have hz7 := hp7.1.size
  have hl7 := hk7.lt
  clear hw7 hg7 hk7 hp7 c3 f3
  go_wp2_with (first
    | (go_at_call 74; refine (HEL.out w7 HP7.out.2).mono ?_; rintro e' w8 ⟨rfl, hb8⟩; have HK8 := Lib.hid (HK7.out.ext hb8); have HA8 := Lib.hid (HA7.out.grown (below_grown hb8 none) (fun r e => by cases e)); have HB8 := Lib.hid (HB7.out.ext hb8 (Nat.le_refl _)); have HP8 := Lib.hid (HP7.out.below hb8); clear hb8))
  refine bodyPost_ret (results_cell_row rfl _ _ w.heap.size 54 _ (0, 0) _ rfl HK8.out Tryz.underlying54 rfl (by kernel_rfl)) rfl ?_
  exact ⟨⟨_, _, _, rfl, HA8.out.mono (by omega), HB8.out.weak (fun b hb => by omega), SX.nil _ _, HP8.out⟩, HEN6.out⟩

set_option maxRecDepth 100000 in
set_option maxHeartbeats 4000000 in
theorem stmt_else {k g : Nat} (ih : StOk k g) (pb tb : Nat) (t : Tok) (u : Tok) (r us0 vs us : List Tok) (e : LE) (th el : List LS) (w : World) (h : PS w pb tb (t :: r)) (he : Ended (t :: r)) (hi : tokIs t wIf = true) (hin : inF k r = some (e, us0)) (hb : blF k g us0 = some (th, u :: vs)) (hu : tokIs u wElse = true) (hb2 : blF k g vs = some (el, us)) :
    Calls Tryz.prog 176 #[.pointer (some ⟨pb, 0, none⟩)] w (fun e' w' => StRet w pb tb (.mk 3 [] [e] th el) us e' w' ∧ Ended us) := by
  have hpl := h.lt
  have htl := h.tlt
  obtain ⟨w1, hw1⟩ : ∃ w1, w1 = w.alloc (.cells sZ 54) := ⟨_, rfl⟩
  have hb1 : Below w.heap.size w w1 := by rw [hw1]; exact below_a1 _ _
  have hz1 : w1.heap.size = w.heap.size + 1 := by rw [hw1]; simp
  have hwe : w.alloc (.cells sZ 54) = w1 := hw1.symm
  have h1 := h.ext hb1
  have HW1 := Lib.hid hw1
  have HB1 := Lib.hid hb1
  have HP1 := Lib.hid (PG.start h1 (Below.refl _ w1))
  obtain ⟨hrne, hre⟩ := he.tail (tokIs_kind hi)
  have HIF := Lib.hid (take_yes pb tb t r wIf w1 h1 hi hrne)
  have HIN := Lib.hid (fun W (hh : PS W pb tb r) => inside_yes k pb tb r us0 e W hh hre hin)
  have HBL := Lib.hid (fun W (hen : Ended us0) (hh : PS W pb tb us0) => ih.bl pb tb us0 (u :: vs) th W hh hen hb)
  have HEL := Lib.hid (fun W (hen : Ended (u :: vs)) (hh : PS W pb tb (u :: vs)) => take_yes pb tb u vs wElse W hh hu (hen.tail (tokIs_kind hu)).1)
  have HEB := Lib.hid (fun W (hen : Ended (u :: vs)) (hh : PS W pb tb vs) => ih.bl pb tb vs us el W hh (hen.tail (tokIs_kind hu)).2 hb2)
  clear h he h1 hb1 hw1 hi hin hb ih hrne hre hu hb2
  go_enter Tryz.func176, Tryz.ntmps176
  go_upto_region 2 with (first
    | (go_at_call 74; refine HIF.out.mono ?_; rintro e' w3 ⟨rfl, hp3⟩; have HP3 := Lib.hid (HP1.out.trans hp3); clear hp3))
  have hz3 := HP3.out.1.size
  go_upto_region 3 with (first
    | (go_at_call 202; refine (HIN.out w3 HP3.out.2).mono ?_; rintro e' w4 ⟨⟨av, rfl, ha⟩, hp4, hen⟩; have HA4 := Lib.hid (ha.mono (base' := w.heap.size + 1) (by omega)); obtain ⟨aa, ac, rfl⟩ := ha.slice; have HP4 := Lib.hid (HP3.out.trans hp4); have HEN := Lib.hid hen; have hk4 : Row w4 w.heap.size 54 [I 0, S [], .slice none 0 0, .slice none 0 0, .slice none 0 0] := (HP3.out.trans hp4).zero HW1.out hpl; have c0 := hk4.cell 0; have c2 := hk4.cell 2; have f0 := hk4.frozen 0; have f2 := hk4.frozen 2; have HK4 := Lib.hid hk4; simp only [List.getElem?_cons_zero, List.getElem?_cons_succ] at c0 c2; clear hp4 hen ha hk4))
  obtain ⟨w5, hw5⟩ : ∃ w5, w5 = (w4.setCell ⟨w.heap.size, 0, none⟩ (I 3)).setCell ⟨w.heap.size, 2, none⟩ (.slice aa (LE.mk 0 0 0 [] [e]).args.length ac) := ⟨_, rfl⟩
  have hk5 : Row w5 w.heap.size 54 [I 3, S [], .slice aa (LE.mk 0 0 0 [] [e]).args.length ac, .slice none 0 0, .slice none 0 0] := by rw [hw5]; exact (HK4.out.set 0 _).set 2 _
  have hg5 : w4.grownBy w5 (some w.heap.size) := by rw [hw5]; exact (setCell_grown _ _ _ _).trans (setCell_grown _ _ _ _)
  have hp5 : PG w pb tb us0 w5 := (HP4.out.pre HB1.out).new (Nat.le_refl _) hg5 htl hpl
  have ha5 : ESl (w.heap.size + 1) w5 (.slice aa (LE.mk 0 0 0 [] [e]).args.length ac) [e] := HA4.out.grown hg5 (fun r e => by cases e; omega)
  rw [← hw5]
  have HK5 := Lib.hid hk5
  have HP5 := Lib.hid hp5
  have HA5 := Lib.hid ha5
  have hz5 := hp5.1.size
  have hl5 := hk5.lt
  clear hw5 hk5 hg5 hp5 ha5 c0 c2 f0 f2
  go_upto_region 4 with (first
    | (go_at_call 203; refine (HBL.out w5 HEN.out HP5.out.2).mono ?_; rintro e' w6 ⟨⟨⟨tv, rfl, hb⟩, hp6⟩, hen⟩; have HB6 := Lib.hid (hb.weak (B' := (w.heap.size + 1 ≤ ·)) (fun b hb => by omega)); obtain ⟨ta, tc, rfl⟩ := hb.slice; have hk6 := hp6.row HK5.out (by omega); have c3 := hk6.cell 3; have f3 := hk6.frozen 3; have HK6 := Lib.hid hk6; have HA6 := Lib.hid (HA5.out.pg hp6 (by omega)); have HP6 := Lib.hid (HP5.out.trans hp6); have HEN6 := Lib.hid hen; simp only [List.getElem?_cons_zero, List.getElem?_cons_succ] at c3; clear hp6 hen hb hk6))
  obtain ⟨w7, hw7⟩ : ∃ w7, w7 = w6.setCell ⟨w.heap.size, 3, none⟩ (.slice ta th.length tc) := ⟨_, rfl⟩
  have hg7 : w6.grownBy w7 (some w.heap.size) := by rw [hw7]; exact setCell_grown _ _ _ _
  have hk7 : Row w7 w.heap.size 54 [I 3, S [], .slice aa (LE.mk 0 0 0 [] [e]).args.length ac, .slice ta th.length tc, .slice none 0 0] := by rw [hw7]; exact HK6.out.set 3 _
  have hp7 : PG w pb tb (u :: vs) w7 := HP6.out.new (Nat.le_refl _) hg7 htl hpl
  rw [← hw7]
  have HK7 := Lib.hid hk7
  have HP7 := Lib.hid hp7
  have HA7 := Lib.hid (HA6.out.grown hg7 (fun r e => by cases e; omega))
  have HB7 := Lib.hid (HB6.out.grown hg7 (fun r e => by cases e; omega))
  have hz7 := hp7.1.size
  have hl7 := hk7.lt
  clear hw7 hg7 hk7 hp7 c3 f3
  go_upto_region 5 with (first
    | (go_at_call 74; refine (HEL.out w7 HEN6.out HP7.out.2).mono ?_; rintro e' w8 ⟨rfl, hp8⟩; have HK8 := Lib.hid (hp8.row HK7.out (by omega)); have HA8 := Lib.hid (HA7.out.pg hp8 (by omega)); have HB8 := Lib.hid (HB7.out.grown hp8.1 (fun r e => by cases e; omega)); have HP8 := Lib.hid (HP7.out.trans hp8); have hz8 := hp8.1.size; have hl8 := HK8.out.lt; clear hp8))
  go_wp2_with (first
    | (go_at_call 203; refine (HEB.out w8 HEN6.out HP8.out.2).mono ?_; rintro e' w9 ⟨⟨⟨ev, rfl, hb⟩, hp9⟩, hen⟩; have HC9 := Lib.hid (hb.weak (B' := (w.heap.size + 1 ≤ ·)) (fun b hb => by omega)); obtain ⟨ea, ec, rfl⟩ := hb.slice; have hk9 := hp9.row HK8.out (by omega); have c4 := hk9.cell 4; have f4 := hk9.frozen 4; have HK9 := Lib.hid hk9; have HA9 := Lib.hid (HA8.out.pg hp9 (by omega)); have HB9 := Lib.hid (HB8.out.grown hp9.1 (fun r e => by cases e; omega)); have HP9 := Lib.hid (HP8.out.trans hp9); have HEN9 := Lib.hid hen; simp only [List.getElem?_cons_zero, List.getElem?_cons_succ] at c4; clear hp9 hen hb hk9))
  have hgA := setCell_grown w9 w.heap.size 4 (.slice ea el.length ec)
  refine bodyPost_ret (results_cell_row rfl _ _ w.heap.size 54 _ (0, 0) _ rfl (HK9.out.set 4 _) Tryz.underlying54 rfl (by kernel_rfl)) rfl ?_
  exact ⟨⟨_, _, _, rfl, (HA9.out.grown hgA (fun r e => by cases e; omega)).mono (by omega), (HB9.out.grown hgA (fun r e => by cases e; omega)).weak (fun b hb => by omega), (HC9.out.grown hgA (fun r e => by cases e; omega)).weak (fun b hb => by omega), HP9.out.new (Nat.le_refl _) hgA htl hpl⟩, HEN9.out⟩

theorem stmt_step {k g : Nat} (ih : StOk k g) (pb tb : Nat) (ts us : List Tok) (s : LS) (w : World) (h : PS w pb tb ts) (he : Ended ts) (hx : stF k (g + 1) ts = some (s, us)) :
    Calls Tryz.prog 176 #[.pointer (some ⟨pb, 0, none⟩)] w (fun e w' => StRet w pb tb s us e w' ∧ Ended us) := by
  obtain ⟨t, r, rfl⟩ := he.cons
  rw [stF] at hx
  split at hx
  · next hi =>
    cases hin : inF k r with
    | none => rw [hin] at hx; cases hx
    | some p =>
      obtain ⟨e, us0⟩ := p
      rw [hin] at hx
      simp only [] at hx
      split at hx
      · next th u vs hb =>
        split at hx
        · next hu =>
          obtain ⟨⟨el, us2⟩, hb2, hx2⟩ := Option.map_eq_some_iff.1 hx
          simp only [Prod.mk.injEq] at hx2
          obtain ⟨rfl, rfl⟩ := hx2
          exact stmt_else ih pb tb t u r us0 vs us2 e th el w h he hi hin hb hu hb2
        · next hu =>
          simp only [Option.some.injEq, Prod.mk.injEq] at hx
          obtain ⟨rfl, rfl⟩ := hx
          exact stmt_if ih pb tb t u r us0 vs e th w h he hi hin hb (by simpa using hu)
      · cases hx
  · next hi =>
    split at hx
    · next hwh =>
      cases hin : inF k r with
      | none => rw [hin] at hx; cases hx
      | some p =>
        obtain ⟨e, us0⟩ := p
        rw [hin] at hx
        simp only [] at hx
        obtain ⟨⟨th, us2⟩, hb, hx2⟩ := Option.map_eq_some_iff.1 hx
        simp only [Prod.mk.injEq] at hx2
        obtain ⟨rfl, rfl⟩ := hx2
        exact stmt_while ih pb tb t r us0 us2 e th w h he (by simpa using hi) hwh hin hb
    · next hwh =>
      cases hsi : siF k (t :: r) with
      | none => rw [hsi] at hx; cases hx
      | some p =>
        obtain ⟨s', us1⟩ := p
        rw [hsi] at hx
        simp only [] at hx
        obtain ⟨r', hw, hx2⟩ := Option.map_eq_some_iff.1 hx
        simp only [Prod.mk.injEq] at hx2
        obtain ⟨rfl, rfl⟩ := hx2
        exact stmt_simple k pb tb t r r' us1 s' w h he (by simpa using hi) (by simpa using hwh) hsi hw
end Go.Proofs.YtjgbkdbkachciaaGreatDoor

namespace Go.Proofs.YtjgbkdbkachciaaGreatDoor
open Go.RowKit Go.Shelf
attribute [local go_sem] Oper.semAt_some

set_option maxRecDepth 100000 in
set_option maxHeartbeats 4000000 in
theorem stmts_step {k g : Nat} (ih : ∀ j, j ≤ g → StOk k j) (hg : g ≤ 100000) (pb tb : Nat) (ts us : List Tok) (l : List LS) (w : World) (h : PS w pb tb ts) (he : Ended ts) (hx : stsF k (g + 1) ts = some (l, us)) :
    Calls Tryz.prog 115 #[.pointer (some ⟨pb, 0, none⟩)] w (fun e w' => SsRet w pb tb l us e w' ∧ Ended us) := by
  obtain ⟨t0, r0, rfl⟩ := he.cons
  have hpl := h.lt
  have htl := h.tlt
  have HP0 := Lib.hid (PG.start h (Below.refl _ w))
  have HX := Lib.hid hx
  have HE := Lib.hid he
  have HIH := Lib.hid ih
  clear h hx he ih
  go_enter Tryz.func115, Tryz.ntmps115
  go_wp2
  go_loopg [2] (g + 1) (fun gh v2 wr => ∃ (done : List SD) (ts' : List Tok) (l' : List LS), gh + done.length ≤ 100001 ∧ gh ≤ g + 1 ∧ Hid (PG w pb tb ts' wr ∧ Ended ts' ∧ SdI wr w.heap.size v2 done ∧ stsF k gh ts' = some (l', us) ∧ l = done.map SD.s ++ l'))
  case atStart => exact ⟨[], t0 :: r0, l, by simpa using hg, Nat.le_refl _, Lib.hid ⟨HP0.out, HE.out, SdI.nil _ _, HX.out, rfl⟩⟩
  case round =>
    obtain ⟨done, ts', l', hdl, hgk, HH⟩ := hrel
    obtain ⟨wo, rfl⟩ : ∃ wo, wo = wr := ⟨_, rfl⟩
    obtain ⟨hp, hen, hsi, hst, hl⟩ := HH.out
    obtain ⟨t, r, rfl⟩ := hen.cons
    obtain ⟨g1, rfl⟩ : ∃ g1, gk = g1 + 1 := by
      cases gk with
      | zero => rw [stsF] at hst; cases hst
      | succ g => exact ⟨g, rfl⟩
    rw [stsF] at hst
    have HP := Lib.hid hp
    have HSI := Lib.hid hsi
    have HL := Lib.hid hl
    have hz0 := hp.1.size
    cases htk : tokIs t [125]
    · rw [htk] at hst
      simp only [Bool.false_eq_true, if_false] at hst
      cases hs : stF k g1 (t :: r) with
      | none => rw [hs] at hst; cases hst
      | some p =>
        obtain ⟨s, us1⟩ := p
        rw [hs] at hst
        simp only [] at hst
        obtain ⟨⟨l2, us2⟩, hst2, hx2⟩ := Option.map_eq_some_iff.1 hst
        clear hst
        simp only [Prod.mk.injEq] at hx2
        obtain ⟨rfl, rfl⟩ := hx2
        have HTK := Lib.hid (take_no pb tb t r [125] wo hp.2 htk)
        have HST := Lib.hid (fun W (hh : PS W pb tb (t :: r)) => (HIH.out g1 (by omega)).st pb tb (t :: r) us1 s W hh hen hs)
        have HS2 := Lib.hid hst2
        have hdn : done.length ≤ 1000000000 := by omega
        have hms : g1 < g1 + 1 := by omega
        have hdl2 : g1 + (done.length + 1) ≤ 100001 := by omega
        have hgk2 : g1 ≤ g + 1 := by omega
        clear hp hen hsi hst2 hl htk hs HH hdl hgk
        go_upto_region 2 with (first
          | (go_at_call 74; refine HTK.out.mono ?_; rintro e' w1 ⟨rfl, hb1⟩; have HP1 := Lib.hid (HP.out.below hb1); have HS1 := Lib.hid (HSI.out.grown (below_grown hb1 none) (fun r e => by cases e)); clear hb1))
        have hz1 := HP1.out.1.size
        go_wp2_with (first
          | (go_at_call 176; refine (HST.out w1 HP1.out.2).mono ?_; rintro e' w2 ⟨⟨av, tv, ev, rfl, ha, htv, hev, hp2⟩, hen⟩; have hz2 := hp2.1.size; obtain ⟨aa, ac, rfl⟩ := ha.slice; obtain ⟨ta, tc, rfl⟩ := htv.slice; obtain ⟨ea, ec, rfl⟩ := hev.slice; have HA := Lib.hid ha; have HT := Lib.hid htv; have HV := Lib.hid hev; have HG2 := Lib.hid hp2.1; have HSX := Lib.hid (HS1.out.grown hp2.1 (fun r e => by cases e; exact hpl)); have HP2 := Lib.hid (HP1.out.trans hp2); have HEN := Lib.hid hen; clear hp2 hen ha htv hev)
          | (at_builtin; refine wpList_appS slStmt rfl (.tmp 6) (.tmp 9) rfl dEnc_len dEnc_one w.heap.size _ done rfl (HSX.out.1.tag (alloc_grown _ _ none) (NoTag.none _ _)) w2.heap.size ⟨s, aa, ac, ta, tc, ea, ec⟩ rfl (fun j hj => (cell_of_block (heap_new _ _) j).trans (by simp [dEnc, SD.av, SD.tv, SD.ev, LE.args])) hdn (by omega) (by simp; omega) ?_; intro g2 cap2 w3 ho3 hg3 hat3 hlt3; have HO3 := Lib.hid ho3; have HG3 := Lib.hid hg3; have HAT3 := Lib.hid hat3; clear ho3 hg3 hat3))
        go_roundg g1
        case measure => exact hms
        case rel =>
          refine ⟨done ++ [⟨s, aa, ac, ta, tc, ea, ec⟩], us1, l2, by simpa using hdl2, hgk2, Lib.hid ⟨?_, HEN.out, ?_, HS2.out, by rw [HL.out]; simp⟩⟩
          · exact (HP2.out.below (below_a1 _ _)).own HG3.out (fun r e => (ownsRow_base HSX.out.1 r e).1) htl hpl
          · exact HS1.out.app HG2.out (fun r e => by cases e; exact hpl) ⟨HA.out, HT.out, HV.out⟩ (by omega) (by simpa using HO3.out) HG3.out rfl HAT3.out
    · rw [htk] at hst
      simp only [if_true] at hst
      simp only [Option.some.injEq, Prod.mk.injEq] at hst
      obtain ⟨rfl, rfl⟩ := hst
      obtain ⟨hrne, hre⟩ := hen.tail (tokIs_kind htk)
      have HTK := Lib.hid (take_yes pb tb t r [125] wo hp.2 htk hrne)
      have HRE := Lib.hid hre
      have hdn : done.length ≤ 1000000000 := by omega
      clear hp hen hsi hl htk HH hrne hre
      go_wp2_with (first
        | (go_at_call 74; refine HTK.out.mono ?_; rintro e' w1 ⟨rfl, hp1⟩; have HP1 := Lib.hid (HP.out.trans hp1); have HS1 := Lib.hid (HSI.out.grown hp1.1 (fun r e => by cases e; exact hpl)); clear hp1))
      go_ret
      exact ⟨⟨⟨_, rfl, by rw [HL.out, List.append_nil]; exact HS1.out.read hdn⟩, HP1.out⟩, HRE.out⟩

theorem stOk_zero (k : Nat) : StOk k 0 := ⟨fun pb tb ts us s w _ _ hx => (by rw [stF] at hx; cases hx), fun pb tb ts us s w _ _ hx => (by rw [blF] at hx; cases hx), fun pb tb ts us s w _ _ hx => (by rw [stsF] at hx; cases hx)⟩
theorem stOk_le (k : Nat) : ∀ (g : Nat), g ≤ 100000 → ∀ j, j ≤ g → StOk k j
  | 0, _, j, hj => by obtain rfl : j = 0 := by omega
                      exact stOk_zero k
  | g + 1, hg, j, hj => by
    have ih := stOk_le k g (by omega)
    rcases Nat.lt_or_ge j (g + 1) with h | h
    · exact ih j (by omega)
    · obtain rfl : j = g + 1 := by omega
      exact ⟨fun pb tb ts us s w h1 h2 h3 => stmt_step (ih g (Nat.le_refl _)) pb tb ts us s w h1 h2 h3,
        fun pb tb ts us l w h1 h2 h3 => block_step (ih g (Nat.le_refl _)) pb tb ts us l w h1 h2 h3,
        fun pb tb ts us l w h1 h2 h3 => stmts_step ih (by omega) pb tb ts us l w h1 h2 h3⟩
/-- statements come back -/
theorem stmts_yes (k pb tb g : Nat) (ts us : List Tok) (l : List LS) (w : World) (h : PS w pb tb ts) (he : Ended ts) (hg : g ≤ 100000) (hx : stsF k g ts = some (l, us)) :
    Calls Tryz.prog 115 #[.pointer (some ⟨pb, 0, none⟩)] w (fun e w' => SsRet w pb tb l us e w' ∧ Ended us) := (stOk_le k g hg g (Nat.le_refl _)).ss pb tb ts us l w h he hx
end Go.Proofs.YtjgbkdbkachciaaGreatDoor
