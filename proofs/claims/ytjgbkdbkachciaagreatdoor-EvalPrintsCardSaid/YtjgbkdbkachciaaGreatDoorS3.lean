import Derived.Test.YtjgbkdbkachciaaGreatDoorS2
namespace Go.Proofs.YtjgbkdbkachciaaGreatDoor
open Go.RowKit Go.Shelf

/-! ### what lies in memory of an expression -/
def RSlB {α : Type} (B : Nat → Prop) (k : Nat) (R : World → (Nat → Value) → α → Prop) (w : World) (v : Value) (l : List α) : Prop :=
  ∃ a c, v = .slice a l.length c ∧ l.length ≤ 1000000000 ∧ (l = [] ∨ ∃ b o, a = some ⟨b, o, none⟩ ∧ B b ∧
    ∀ i x, l[i]? = some x → ∃ C : Nat → Value, (∀ j, j < k → w.cell? ⟨b, o + i * k + j, none⟩ = some (C j)) ∧ R w C x)
theorem RSlB.grown {α : Type} {B : Nat → Prop} {k : Nat} {R : World → (Nat → Value) → α → Prop} {w w' : World} {row : Option Nat} (hg : w.grownBy w' row) (hB : ∀ r, row = some r → ¬ B r) (hR : ∀ C x, R w C x → R w' C x) {v : Value} {l : List α} (h : RSlB B k R w v l) : RSlB B k R w' v l := by
  obtain ⟨a, c, h1, h2, h3⟩ := h
  refine ⟨a, c, h1, h2, h3.imp (fun h => h) ?_⟩
  rintro ⟨b, o, h4, h5, h6⟩
  refine ⟨b, o, h4, h5, fun i x hx => ?_⟩
  obtain ⟨C, hC, hr⟩ := h6 i x hx
  exact ⟨C, fun j hj => gcell (hC j hj) hg (fun e => hB b e.symm h5), hR C x hr⟩
theorem RSlB.weak {α : Type} {B B' : Nat → Prop} {k : Nat} {R R' : World → (Nat → Value) → α → Prop} {w : World} (hB : ∀ b, B b → B' b) (hR : ∀ C x, R w C x → R' w C x) {v : Value} {l : List α} (h : RSlB B k R w v l) : RSlB B' k R' w v l := by
  obtain ⟨a, c, h1, h2, h3⟩ := h
  refine ⟨a, c, h1, h2, h3.imp (fun h => h) ?_⟩
  rintro ⟨b, o, h4, h5, h6⟩
  refine ⟨b, o, h4, hB b h5, fun i x hx => ?_⟩
  obtain ⟨C, hC, hr⟩ := h6 i x hx
  exact ⟨C, hC, hR C x hr⟩
theorem RSlB.nil {α : Type} (B : Nat → Prop) (k : Nat) (R : World → (Nat → Value) → α → Prop) (w : World) : RSlB B k R w (.slice none 0 0) ([] : List α) := ⟨none, 0, rfl, by simp, .inl rfl⟩

/-- an expression, so deep at most, whose rows lie in blocks of B -/
def RE : Nat → (Nat → Prop) → World → (Nat → Value) → LE → Prop
  | 0, _, _, _, _ => False
  | d + 1, B, W, C, e => C 0 = I e.kind ∧ C 1 = I e.op ∧ C 2 = I e.n ∧ C 3 = S e.name ∧ RSlB B 5 (RE d B) W (C 4) e.args
theorem RE.grown : ∀ (d : Nat) {B : Nat → Prop} {w w' : World} {row : Option Nat} (_ : w.grownBy w' row) (_ : ∀ r, row = some r → ¬ B r) {C : Nat → Value} {e : LE}, RE d B w C e → RE d B w' C e
  | 0, _, _, _, _, _, _, _, _, h => h
  | d + 1, _, _, _, _, hg, hB, _, _, ⟨h0, h1, h2, h3, h4⟩ => ⟨h0, h1, h2, h3, h4.grown hg hB fun _ _ h => RE.grown d hg hB h⟩
theorem RE.weak : ∀ (d : Nat) {B B' : Nat → Prop} {w : World} (_ : ∀ b, B b → B' b) {C : Nat → Value} {e : LE}, RE d B w C e → RE d B' w C e
  | 0, _, _, _, _, _, _, h => h
  | d + 1, _, _, _, hB, _, _, ⟨h0, h1, h2, h3, h4⟩ => ⟨h0, h1, h2, h3, h4.weak hB fun _ _ h => RE.weak d hB h⟩
theorem RE.succ : ∀ (d : Nat) {B : Nat → Prop} {w : World} {C : Nat → Value} {e : LE}, RE d B w C e → RE (d + 1) B w C e
  | 0, _, _, _, _, h => h.elim
  | d + 1, _, _, _, _, ⟨h0, h1, h2, h3, h4⟩ => ⟨h0, h1, h2, h3, h4.weak (fun _ h => h) fun _ _ h => RE.succ d h⟩
theorem RE.le {d d' : Nat} (h : d ≤ d') {B : Nat → Prop} {w : World} {C : Nat → Value} {e : LE} (hr : RE d B w C e) : RE d' B w C e := by
  induction h with
  | refl => exact hr
  | step _ ih => exact RE.succ _ ih

abbrev eV (e : LE) (av : Value) : Value := .agg #[I e.kind, I e.op, I e.n, S e.name, av]
/-- an expression's parts, in blocks from a base on -/
def EArgs (base : Nat) (W : World) (av : Value) (e : LE) : Prop := ∃ d, RSlB (base ≤ ·) 5 (RE d (base ≤ ·)) W av e.args
theorem EArgs.grown {base : Nat} {w w' : World} {row : Option Nat} {av : Value} {e : LE} (h : EArgs base w av e) (hg : w.grownBy w' row) (hr : ∀ r, row = some r → r < base) : EArgs base w' av e := by
  obtain ⟨d, h⟩ := h
  have hB : ∀ r, row = some r → ¬ (base ≤ r) := fun r e => by have := hr r e; omega
  exact ⟨d, h.grown hg hB fun _ _ h => RE.grown d hg hB h⟩
theorem EArgs.mono {base base' : Nat} {w : World} {av : Value} {e : LE} (h : EArgs base w av e) (hb : base' ≤ base) : EArgs base' w av e := by
  obtain ⟨d, h⟩ := h
  exact ⟨d, h.weak (fun b hb' => Nat.le_trans hb hb') fun _ _ h => RE.weak d (fun b hb' => Nat.le_trans hb hb') h⟩
theorem EArgs.slice {base : Nat} {w : World} {av : Value} {e : LE} (h : EArgs base w av e) : ∃ a c, av = .slice a e.args.length c := by
  obtain ⟨d, a, c, h, _⟩ := h
  exact ⟨a, c, h⟩
theorem EArgs.nil {base : Nat} {w : World} {e : LE} (h : e.args = []) : EArgs base w (.slice none 0 0) e := ⟨0, by rw [h]; exact RSlB.nil _ _ _ _⟩
def eRow (e : LE) (av : Value) : List Value := [I e.kind, I e.op, I e.n, S e.name, av]
/-- a new row of one expression -/
theorem EArgs.one {base g : Nat} {w : World} {e x : LE} {xv : Value} (hx : e.args = [x]) (hb : base ≤ g) (hrow : Row w g 31 (eRow x xv)) (h : EArgs base w xv x) : EArgs base w (.slice (some ⟨g, 0, none⟩) 1 1) e := by
  obtain ⟨d, h⟩ := h
  refine ⟨d + 1, some ⟨g, 0, none⟩, 1, by rw [hx]; rfl, by rw [hx]; simp, .inr ⟨g, 0, rfl, hb, fun i y hy => ?_⟩⟩
  rw [hx] at hy
  obtain ⟨rfl, rfl⟩ : i = 0 ∧ y = x := by
    cases i with
    | zero => simp at hy; exact ⟨rfl, hy.symm⟩
    | succ i => simp at hy
  refine ⟨fun j => (eRow y xv).getD j undef, fun j hj => ?_, rfl, rfl, rfl, rfl, h⟩
  rw [hrow.cell]
  rcases (by omega : j = 0 ∨ j = 1 ∨ j = 2 ∨ j = 3 ∨ j = 4) with rfl | rfl | rfl | rfl | rfl <;> rfl
/-- .. and of two -/
theorem EArgs.two {base g : Nat} {w : World} {e x y : LE} {xv yv : Value} (hx : e.args = [x, y]) (hb : base ≤ g) (hrow : Row w g 31 (eRow x xv ++ eRow y yv)) (h : EArgs base w xv x) (k : EArgs base w yv y) : EArgs base w (.slice (some ⟨g, 0, none⟩) 2 2) e := by
  obtain ⟨d, h⟩ := h
  obtain ⟨d', k⟩ := k
  have h' := h.weak (B' := (base ≤ ·)) (R' := RE (max d d') (base ≤ ·)) (fun _ h => h) (fun _ _ h => RE.le (Nat.le_max_left d d') h)
  have k' := k.weak (B' := (base ≤ ·)) (R' := RE (max d d') (base ≤ ·)) (fun _ h => h) (fun _ _ h => RE.le (Nat.le_max_right d d') h)
  refine ⟨max d d' + 1, some ⟨g, 0, none⟩, 2, by rw [hx]; rfl, by rw [hx]; simp, .inr ⟨g, 0, rfl, hb, fun i z hz => ?_⟩⟩
  rw [hx] at hz
  rcases (by cases i with
    | zero => simp at hz; exact .inl ⟨rfl, hz.symm⟩
    | succ i => cases i with
      | zero => simp at hz; exact .inr ⟨rfl, hz.symm⟩
      | succ i => simp at hz : (i = 0 ∧ z = x) ∨ (i = 1 ∧ z = y)) with ⟨rfl, rfl⟩ | ⟨rfl, rfl⟩
  · refine ⟨fun j => (eRow z xv).getD j undef, fun j hj => ?_, rfl, rfl, rfl, rfl, h'⟩
    rw [hrow.cell]
    rcases (by omega : j = 0 ∨ j = 1 ∨ j = 2 ∨ j = 3 ∨ j = 4) with rfl | rfl | rfl | rfl | rfl <;> rfl
  · refine ⟨fun j => (eRow z yv).getD j undef, fun j hj => ?_, rfl, rfl, rfl, rfl, k'⟩
    rw [hrow.cell]
    rcases (by omega : j = 0 ∨ j = 1 ∨ j = 2 ∨ j = 3 ∨ j = 4) with rfl | rfl | rfl | rfl | rfl <;> rfl

/-! ### tokens that end -/
def Ended (ts : List Tok) : Prop := ∃ e, ts.getLast? = some e ∧ e.kind = 5
theorem Ended.tail {t : Tok} {r : List Tok} (h : Ended (t :: r)) (hk : t.kind ≠ 5) : r ≠ [] ∧ Ended r := by
  obtain ⟨e, h1, h2⟩ := h
  cases r with
  | nil => simp at h1; subst h1; exact absurd h2 hk
  | cons u r => exact ⟨by simp, e, by simpa using h1, h2⟩
theorem tokIs_kind {t : Tok} {x : Str} (h : tokIs t x = true) : t.kind ≠ 5 := by
  unfold tokIs at h
  simp only [Bool.and_eq_true, Bool.or_eq_true, decide_eq_true_eq] at h
  omega
theorem binAt_kind {lv : Int} {t : Tok} : ∀ (k : Nat) (op : Int), binAt lv t k op ≠ 0 → t.kind ≠ 5
  | 0, op, h => absurd rfl h
  | k + 1, op, h => by
    rw [binAt_succ] at h
    split at h
    · next h1 => simp only [Bool.and_eq_true] at h1; exact tokIs_kind h1.1
    · exact binAt_kind k (op + 1) h
theorem unAt_kind {t : Tok} : ∀ (k : Nat) (op : Int), unAt t k op ≠ 0 → t.kind ≠ 5
  | 0, op, h => absurd rfl h
  | k + 1, op, h => by
    rw [unAt_succ] at h
    split at h
    · next h1 => exact tokIs_kind h1
    · exact unAt_kind k (op + 1) h
theorem Ended.want : ∀ {xs : List Str} {ts us : List Tok}, Ended ts → wantF xs ts = some us → us ≠ [] ∧ Ended us
  | [], ts, us, h, hw => by
    cases hw
    refine ⟨?_, h⟩
    rintro rfl
    obtain ⟨e, h1, _⟩ := h
    cases h1
  | x :: xs, [], us, h, hw => by cases hw
  | x :: xs, t :: r, us, h, hw => by
    rw [wantF] at hw
    split at hw
    · next ht => exact Ended.want (h.tail (tokIs_kind ht)).2 hw
    · cases hw

/-! ### expressions without calls, as they are parsed -/
mutual
def tF : Nat → List Tok → Option (LE × List Tok)
  | 0, _ => none
  | _ + 1, [] => none
  | k + 1, t :: r =>
    if unAt t 3 17 ≠ 0 then (tF k r).map fun p => (.mk 3 (unAt t 3 17) 0 [] [p.1], p.2)
    else if tokIs t [40] then match cF k 1 r with
      | some (e, us) => (wantF [[41]] us).map fun r' => (e, r')
      | none => none
    else if tokIs t [114, 101, 97, 100] then (wantF [[40], [41]] r).map fun r' => (.mk 7 0 0 [] [], r')
    else if t.kind = 3 then some (.mk 1 0 t.n [] [], r)
    else if t.kind = 1 then nF k t.text r
    else none
def nF : Nat → Str → List Tok → Option (LE × List Tok)
  | 0, _, _ => none
  | _ + 1, _, [] => none
  | k + 1, nm, t :: r =>
    if tokIs t [40] then none
    else if tokIs t [91] then match cF k 1 r with
      | some (e, us) => (wantF [[93]] us).map fun r' => (.mk 6 0 0 nm [e], r')
      | none => none
    else some (.mk 2 0 0 nm [], t :: r)
def cF : Nat → Int → List Tok → Option (LE × List Tok)
  | 0, _, _ => none
  | k + 1, lv, ts => match tF k ts with
    | some (e, r) => lF k lv e r
    | none => none
def lF : Nat → Int → LE → List Tok → Option (LE × List Tok)
  | 0, _, _, _ => none
  | _ + 1, _, _, [] => none
  | k + 1, lv, e, t :: r =>
    if binAt lv t 16 1 = 0 then some (e, t :: r)
    else match cF k (levelI (binAt lv t 16 1) + 1) r with
      | some (f, r') => lF k lv (.mk 4 (binAt lv t 16 1) 0 [] [e, f]) r'
      | none => none
end
/-- what a parse of an expression comes to -/
def ERet (w : World) (pb tb : Nat) (x : LE) (us : List Tok) (e : Ending) (w' : World) : Prop := ∃ av, e = .returned (eV x av) ∧ EArgs w.heap.size w' av x ∧ PG w pb tb us w'
structure EOk (k : Nat) : Prop where
  t : ∀ (pb tb : Nat) (ts us : List Tok) (x : LE) (w : World), PS w pb tb ts → Ended ts → tF k ts = some (x, us) → Calls Tryz.prog 257 #[.pointer (some ⟨pb, 0, none⟩)] w (fun e w' => ERet w pb tb x us e w' ∧ Ended us)
  n : ∀ (pb tb : Nat) (nm : Str) (ts us : List Tok) (x : LE) (w : World), PS w pb tb ts → Ended ts → nF k nm ts = some (x, us) → Calls Tryz.prog 266 #[.pointer (some ⟨pb, 0, none⟩), S nm] w (fun e w' => ERet w pb tb x us e w' ∧ Ended us)
  c : ∀ (pb tb : Nat) (lv : Int) (ts us : List Tok) (x : LE) (w : World), PS w pb tb ts → Ended ts → cF k lv ts = some (x, us) → Calls Tryz.prog 245 #[.pointer (some ⟨pb, 0, none⟩), I lv] w (fun e w' => ERet w pb tb x us e w' ∧ Ended us)
end Go.Proofs.YtjgbkdbkachciaaGreatDoor
