import Derived.Test.YtjgbkdbkachciaaGreatDoorS2
namespace Go.Proofs.YtjgbkdbkachciaaGreatDoor
open Go.RowKit Go.Shelf

/-! ### what lies in memory of an expression -/
def RSlB {α : Type} (B : Nat → Prop) (k : Nat) (R : World → (Nat → Value) → α → Prop) (w : World) (v : Value) (l : List α) : Prop :=
  ∃ a c, v = .slice a l.length c ∧ l.length ≤ 1000000000 ∧ (l = [] ∨ ∃ b o, a = some ⟨b, o, none⟩ ∧ B b ∧
    ∀ i x, l[i]? = some x → ∃ C : Nat → Value, (∀ j, j < k → w.cell? ⟨b, o + i * k + j, none⟩ = some (C j)) ∧ R w C x)
theorem RSlB.grown {α : Type} {B : Nat → Prop} {k : Nat} {R : World → (Nat → Value) → α → Prop} {w w' : World} {row : Option Nat} (hg : w.grownBy w' row) (hB : ∀ r, row = some r → ¬ B r) (hR : ∀ C x, R w C x → R w' C x) {v : Value} {l : List α} (h : RSlB B k R w v l) : RSlB B k R w' v l := by
  obtain ⟨a, c, h1, h2, h3⟩ := h
  refine ⟨a, c, h1, h2, h3.imp (fun h => h) ?_⟩
  rintro ⟨b, o, h4, h5, h6⟩
  refine ⟨b, o, h4, h5, fun i x hx => ?_⟩
  obtain ⟨C, hC, hr⟩ := h6 i x hx
  exact ⟨C, fun j hj => gcell (hC j hj) hg (fun e => hB b e.symm h5), hR C x hr⟩
theorem RSlB.weak {α : Type} {B B' : Nat → Prop} {k : Nat} {R R' : World → (Nat → Value) → α → Prop} {w : World} (hB : ∀ b, B b → B' b) (hR : ∀ C x, R w C x → R' w C x) {v : Value} {l : List α} (h : RSlB B k R w v l) : RSlB B' k R' w v l := by
  obtain ⟨a, c, h1, h2, h3⟩ := h
  refine ⟨a, c, h1, h2, h3.imp (fun h => h) ?_⟩
  rintro ⟨b, o, h4, h5, h6⟩
  refine ⟨b, o, h4, hB b h5, fun i x hx => ?_⟩
  obtain ⟨C, hC, hr⟩ := h6 i x hx
  exact ⟨C, hC, hR C x hr⟩
theorem RSlB.nil {α : Type} (B : Nat → Prop) (k : Nat) (R : World → (Nat → Value) → α → Prop) (w : World) : RSlB B k R w (.slice none 0 0) ([] : List α) := ⟨none, 0, rfl, by simp, .inl rfl⟩

/-- an expression, so deep at most, whose rows lie in blocks of B -/
def RE : Nat → (Nat → Prop) → World → (Nat → Value) → LE → Prop
  | 0, _, _, _, _ => False
  | d + 1, B, W, C, e => C 0 = I e.kind ∧ C 1 = I e.op ∧ C 2 = I e.n ∧ C 3 = S e.name ∧ RSlB B 5 (RE d B) W (C 4) e.args
theorem RE.grown : ∀ (d : Nat) {B : Nat → Prop} {w w' : World} {row : Option Nat} (_ : w.grownBy w' row) (_ : ∀ r, row = some r → ¬ B r) {C : Nat → Value} {e : LE}, RE d B w C e → RE d B w' C e
  | 0, _, _, _, _, _, _, _, _, h => h
  | d + 1, _, _, _, _, hg, hB, _, _, ⟨h0, h1, h2, h3, h4⟩ => ⟨h0, h1, h2, h3, h4.grown hg hB fun _ _ h => RE.grown d hg hB h⟩
theorem RE.weak : ∀ (d : Nat) {B B' : Nat → Prop} {w : World} (_ : ∀ b, B b → B' b) {C : Nat → Value} {e : LE}, RE d B w C e → RE d B' w C e
  | 0, _, _, _, _, _, _, h => h
  | d + 1, _, _, _, hB, _, _, ⟨h0, h1, h2, h3, h4⟩ => ⟨h0, h1, h2, h3, h4.weak hB fun _ _ h => RE.weak d hB h⟩
theorem RE.succ : ∀ (d : Nat) {B : Nat → Prop} {w : World} {C : Nat → Value} {e : LE}, RE d B w C e → RE (d + 1) B w C e
  | 0, _, _, _, _, h => h.elim
  | d + 1, _, _, _, _, ⟨h0, h1, h2, h3, h4⟩ => ⟨h0, h1, h2, h3, h4.weak (fun _ h => h) fun _ _ h => RE.succ d h⟩
theorem RE.le {d d' : Nat} (h : d ≤ d') {B : Nat → Prop} {w : World} {C : Nat → Value} {e : LE} (hr : RE d B w C e) : RE d' B w C e := by
  induction h with
  | refl => exact hr
  | step _ ih => exact RE.succ _ ih

abbrev eV (e : LE) (av : Value) : Value := .agg #[I e.kind, I e.op, I e.n, S e.name, av]
/-- an expression's parts, in blocks from a base on -/
def EArgs (base : Nat) (W : World) (av : Value) (e : LE) : Prop := ∃ d, RSlB (base ≤ ·) 5 (RE d (base ≤ ·)) W av e.args
theorem EArgs.grown {base : Nat} {w w' : World} {row : Option Nat} {av : Value} {e : LE} (h : EArgs base w av e) (hg : w.grownBy w' row) (hr : ∀ r, row = some r → r < base) : EArgs base w' av e := by
  obtain ⟨d, h⟩ := h
  have hB : ∀ r, row = some r → ¬ (base ≤ r) := fun r e => by have := hr r e; omega
  exact ⟨d, h.grown hg hB fun _ _ h => RE.grown d hg hB h⟩
theorem EArgs.mono {base base' : Nat} {w : World} {av : Value} {e : LE} (h : EArgs base w av e) (hb : base' ≤ base) : EArgs base' w av e := by
  obtain ⟨d, h⟩ := h
  exact ⟨d, h.weak (fun b hb' => Nat.le_trans hb hb') fun _ _ h => RE.weak d (fun b hb' => Nat.le_trans hb hb') h⟩
theorem EArgs.slice {base : Nat} {w : World} {av : Value} {e : LE} (h : EArgs base w av e) : ∃ a c, av = .slice a e.args.length c := by
  obtain ⟨d, a, c, h, _⟩ := h
  exact ⟨a, c, h⟩
theorem EArgs.nil {base : Nat} {w : World} {e : LE} (h : e.args = []) : EArgs base w (.slice none 0 0) e := ⟨0, by rw [h]; exact RSlB.nil _ _ _ _⟩
def eRow (e : LE) (av : Value) : List Value := [I e.kind, I e.op, I e.n, S e.name, av]
/-- a new row of one expression -/
theorem EArgs.one {base g : Nat} {w : World} {e x : LE} {xv : Value} (hx : e.args = [x]) (hb : base ≤ g) (hrow : Row w g 31 (eRow x xv)) (h : EArgs base w xv x) : EArgs base w (.slice (some ⟨g, 0, none⟩) 1 1) e := by
  obtain ⟨d, h⟩ := h
  refine ⟨d + 1, some ⟨g, 0, none⟩, 1, by rw [hx]; rfl, by rw [hx]; simp, .inr ⟨g, 0, rfl, hb, fun i y hy => ?_⟩⟩
  rw [hx] at hy
  obtain ⟨rfl, rfl⟩ : i = 0 ∧ y = x := by
    cases i with
    | zero => simp at hy; exact ⟨rfl, hy.symm⟩
    | succ i => simp at hy
  refine ⟨fun j => (eRow y xv).getD j undef, fun j hj => ?_, rfl, rfl, rfl, rfl, h⟩
  rw [hrow.cell]
  rcases (by omega : j = 0 ∨ j = 1 ∨ j = 2 ∨ j = 3 ∨ j = 4) with rfl | rfl | rfl | rfl | rfl <;> rfl
/-- .. and of two -/
theorem EArgs.two {base g : Nat} {w : World} {e x y : LE} {xv yv : Value} (hx : e.args = [x, y]) (hb : base ≤ g) (hrow : Row w g 31 (eRow x xv ++ eRow y yv)) (h : EArgs base w xv x) (k : EArgs base w yv y) : EArgs base w (.slice (some ⟨g, 0, none⟩) 2 2) e := by
  obtain ⟨d, h⟩ := h
  obtain ⟨d', k⟩ := k
  have h' := h.weak (B' := (base ≤ ·)) (R' := RE (max d d') (base ≤ ·)) (fun _ h => h) (fun _ _ h => RE.le (Nat.le_max_left d d') h)
  have k' := k.weak (B' := (base ≤ ·)) (R' := RE (max d d') (base ≤ ·)) (fun _ h => h) (fun _ _ h => RE.le (Nat.le_max_right d d') h)
  refine ⟨max d d' + 1, some ⟨g, 0, none⟩, 2, by rw [hx]; rfl, by rw [hx]; simp, .inr ⟨g, 0, rfl, hb, fun i z hz => ?_⟩⟩
  rw [hx] at hz
  rcases (by cases i with
    | zero => simp at hz; exact .inl ⟨rfl, hz.symm⟩
    | succ i => cases i with
      | zero => simp at hz; exact .inr ⟨rfl, hz.symm⟩
      | succ i => simp at hz : (i = 0 ∧ z = x) ∨ (i = 1 ∧ z = y)) with ⟨rfl, rfl⟩ | ⟨rfl, rfl⟩
  · refine ⟨fun j => (eRow z xv).getD j undef, fun j hj => ?_, rfl, rfl, rfl, rfl, h'⟩
    rw [hrow.cell]
    rcases (by omega : j = 0 ∨ j = 1 ∨ j = 2 ∨ j = 3 ∨ j = 4) with rfl | rfl | rfl | rfl | rfl <;> rfl
  · refine ⟨fun j => (eRow z yv).getD j undef, fun j hj => ?_, rfl, rfl, rfl, rfl, k'⟩
    rw [hrow.cell]
    rcases (by omega : j = 0 ∨ j = 1 ∨ j = 2 ∨ j = 3 ∨ j = 4) with rfl | rfl | rfl | rfl | rfl <;> rfl

/-! ### tokens that end -/
def Ended (ts : List Tok) : Prop := ∃ e, ts.getLast? = some e ∧ e.kind = 5
theorem Ended.tail {t : Tok} {r : List Tok} (h : Ended (t :: r)) (hk : t.kind ≠ 5) : r ≠ [] ∧ Ended r := by
  obtain ⟨e, h1, h2⟩ := h
  cases r with
  | nil => simp at h1; subst h1; exact absurd h2 hk
  | cons u r => exact ⟨by simp, e, by simpa using h1, h2⟩
theorem tokIs_kind {t : Tok} {x : Str} (h : tokIs t x = true) : t.kind ≠ 5 := by
  unfold tokIs at h
  simp only [Bool.and_eq_true, Bool.or_eq_true, decide_eq_true_eq] at h
  omega
theorem binAt_kind {lv : Int} {t : Tok} : ∀ (k : Nat) (op : Int), binAt lv t k op ≠ 0 → t.kind ≠ 5
  | 0, op, h => absurd rfl h
  | k + 1, op, h => by
    rw [binAt_succ] at h
    split at h
    · next h1 => simp only [Bool.and_eq_true] at h1; exact tokIs_kind h1.1
    · exact binAt_kind k (op + 1) h
theorem unAt_kind {t : Tok} : ∀ (k : Nat) (op : Int), unAt t k op ≠ 0 → t.kind ≠ 5
  | 0, op, h => absurd rfl h
  | k + 1, op, h => by
    rw [unAt_succ] at h
    split at h
    · next h1 => exact tokIs_kind h1
    · exact unAt_kind k (op + 1) h
theorem Ended.want : ∀ {xs : List Str} {ts us : List Tok}, Ended ts → wantF xs ts = some us → us ≠ [] ∧ Ended us
  | [], ts, us, h, hw => by
    cases hw
    refine ⟨?_, h⟩
    rintro rfl
    obtain ⟨e, h1, _⟩ := h
    cases h1
  | x :: xs, [], us, h, hw => by cases hw
  | x :: xs, t :: r, us, h, hw => by
    rw [wantF] at hw
    split at hw
    · next ht => exact Ended.want (h.tail (tokIs_kind ht)).2 hw
    · cases hw

/-! ### expressions, as they are parsed -/
mutual
def tF : Nat → List Tok → Option (LE × List Tok)
  | 0, _ => none
  | _ + 1, [] => none
  | k + 1, t :: r =>
    if unAt t 3 17 ≠ 0 then (tF k r).map fun p => (.mk 3 (unAt t 3 17) 0 [] [p.1], p.2)
    else if tokIs t [40] then match cF k 1 r with
      | some (e, us) => (wantF [[41]] us).map fun r' => (e, r')
      | none => none
    else if tokIs t [114, 101, 97, 100] then (wantF [[40], [41]] r).map fun r' => (.mk 7 0 0 [] [], r')
    else if t.kind = 3 then some (.mk 1 0 t.n [] [], r)
    else if t.kind = 1 then nF k t.text r
    else none
def nF : Nat → Str → List Tok → Option (LE × List Tok)
  | 0, _, _ => none
  | _ + 1, _, [] => none
  | k + 1, nm, t :: r =>
    if tokIs t [40] then match agF k r with
      | some (l, us) => if l.length ≤ 1000 then some (.mk 5 0 0 nm l, us) else none
      | none => none
    else if tokIs t [91] then match cF k 1 r with
      | some (e, us) => (wantF [[93]] us).map fun r' => (.mk 6 0 0 nm [e], r')
      | none => none
    else some (.mk 2 0 0 nm [], t :: r)
def agF : Nat → List Tok → Option (List LE × List Tok)
  | 0, _ => none
  | _ + 1, [] => none
  | k + 1, t :: r => if tokIs t [41] then some ([], r) else amF k (t :: r)
def amF : Nat → List Tok → Option (List LE × List Tok)
  | 0, _ => none
  | k + 1, ts => match cF k 1 ts with
    | some (e, t :: r) =>
      if tokIs t [44] then (amF k r).map fun p => (e :: p.1, p.2)
      else if tokIs t [41] then some ([e], r)
      else none
    | _ => none
def cF : Nat → Int → List Tok → Option (LE × List Tok)
  | 0, _, _ => none
  | k + 1, lv, ts => match tF k ts with
    | some (e, r) => lF k lv e r
    | none => none
def lF : Nat → Int → LE → List Tok → Option (LE × List Tok)
  | 0, _, _, _ => none
  | _ + 1, _, _, [] => none
  | k + 1, lv, e, t :: r =>
    if binAt lv t 16 1 = 0 then some (e, t :: r)
    else match cF k (levelI (binAt lv t 16 1) + 1) r with
      | some (f, r') => lF k lv (.mk 4 (binAt lv t 16 1) 0 [] [e, f]) r'
      | none => none
end
/-- what a parse of an expression comes to -/
def ERet (w : World) (pb tb : Nat) (x : LE) (us : List Tok) (e : Ending) (w' : World) : Prop := ∃ av, e = .returned (eV x av) ∧ EArgs w.heap.size w' av x ∧ PG w pb tb us w'
structure EOk (k : Nat) : Prop where
  t : ∀ (pb tb : Nat) (ts us : List Tok) (x : LE) (w : World), PS w pb tb ts → Ended ts → tF k ts = some (x, us) → Calls Tryz.prog 257 #[.pointer (some ⟨pb, 0, none⟩)] w (fun e w' => ERet w pb tb x us e w' ∧ Ended us)
  n : ∀ (pb tb : Nat) (nm : Str) (ts us : List Tok) (x : LE) (w : World), PS w pb tb ts → Ended ts → nF k nm ts = some (x, us) → Calls Tryz.prog 266 #[.pointer (some ⟨pb, 0, none⟩), S nm] w (fun e w' => ERet w pb tb x us e w' ∧ Ended us)
  a : ∀ (pb tb : Nat) (ts us : List Tok) (l : List LE) (w : World), PS w pb tb ts → Ended ts → l.length ≤ 1000 → agF k ts = some (l, us) → Calls Tryz.prog 227 #[.pointer (some ⟨pb, 0, none⟩)] w (fun e w' => (∃ av, e = .returned av ∧ EArgs w.heap.size w' av (.mk 0 0 0 [] l) ∧ PG w pb tb us w') ∧ Ended us)
  c : ∀ (pb tb : Nat) (lv : Int) (ts us : List Tok) (x : LE) (w : World), PS w pb tb ts → Ended ts → cF k lv ts = some (x, us) → Calls Tryz.prog 245 #[.pointer (some ⟨pb, 0, none⟩), I lv] w (fun e w' => ERet w pb tb x us e w' ∧ Ended us)
end Go.Proofs.YtjgbkdbkachciaaGreatDoor

namespace Go.Proofs.YtjgbkdbkachciaaGreatDoor
open Go.RowKit Go.Shelf
attribute [local go_sem] Oper.semAt_some

theorem PG.pre {w w1 w2 : World} {pb tb : Nat} {ts : List Tok} (hb : Below w.heap.size w w1) (h : PG w1 pb tb ts w2) : PG w pb tb ts w2 := ⟨grown_trans (below_grown hb _) h.1, h.2⟩
theorem setRow_grown {w : World} {g : Nat} {cs : Array Value} : w.grownBy (w.setRow g cs) (some g) := ⟨rfl, rfl, rfl, by simp, fun i _ hi => setRow_other _ _ _ _ (fun e => hi (by rw [e]))⟩
/-- a guard: the operation at hand is this store -/
theorem store_first {P : Program} {ops : Array Oper} {rest : List Oper} {o : Oper} {a : Act} {w : World} {Q : Exit → Act → World → Prop} (ty : TypeId) (x y : Operand) (_ : o.op = .store ty x y) (h : wpList P ops Q (o :: rest) a w) : wpList P ops Q (o :: rest) a w := h
/-- the end of a function that hands back an expression: its own cell is written -/
theorem eret {w w4 : World} {pb tb : Nat} {us : List Tok} {x : LE} {av : Value} {cs : Array Value} (hpg : PG w pb tb us w4) (_hk : w4.heap[w.heap.size]? = some (.cells cs 31 (0, 0))) (hav : EArgs (w.heap.size + 1) w4 av x) (ht : tb < w.heap.size) (hp : pb < w.heap.size) :
    ERet w pb tb x us (.returned (eV x av)) (w4.setRow w.heap.size #[I x.kind, I x.op, I x.n, S x.name, av]) :=
  ⟨av, rfl, (hav.grown setRow_grown (fun r e => by cases e; omega)).mono (by omega), hpg.new (Nat.le_refl _) setRow_grown ht hp⟩
abbrev eZ : Array Value := #[.int .i64 0, .int .i64 0, .int .i64 0, .string ⟨#[]⟩, .slice none 0 0]
theorem zero_kept {w w1 w2 : World} {o : Obj} {row : Option Nat} (hw : w1 = w.alloc o) (hg : w1.grownBy w2 row) (hr : ∀ r, row = some r → r < w.heap.size) : w2.heap[w.heap.size]? = some o := by
  subst hw
  exact grown_old hg (heap_new _ _) (fun e => by have := hr _ e.symm; omega)

set_option maxRecDepth 100000 in
set_option maxHeartbeats 2000000 in
/-- an expression, by the function that names no level -/
theorem expr_of {k : Nat} (ih : EOk k) (pb tb : Nat) (ts us : List Tok) (x : LE) (w : World) (h : PS w pb tb ts) (he : Ended ts) (hx : cF k 1 ts = some (x, us)) :
    Calls Tryz.prog 226 #[.pointer (some ⟨pb, 0, none⟩)] w (fun e w' => ERet w pb tb x us e w' ∧ Ended us) := by
  obtain ⟨t, r, rfl⟩ : ∃ t r, ts = t :: r := by
    obtain ⟨e, h1, _⟩ := he
    cases ts with
    | nil => cases h1
    | cons t r => exact ⟨t, r, rfl⟩
  have hpl := h.lt
  have htl := h.tlt
  obtain ⟨w1, hw1⟩ : ∃ w1, w1 = w.alloc (.cells eZ 31) := ⟨_, rfl⟩
  have hb1 : Below w.heap.size w w1 := by rw [hw1]; exact below_a1 _ _
  have hz1 : w1.heap.size = w.heap.size + 1 := by rw [hw1]; simp
  have HC := Lib.hid (ih.c pb tb 1 (t :: r) us x w1 (h.ext hb1) he hx)
  have HW1 := Lib.hid hw1
  have hwe : w.alloc (.cells eZ 31) = w1 := hw1.symm
  have HB1 := Lib.hid hb1
  clear h he hx hw1 hb1
  go_enter Tryz.func226, Tryz.ntmps226
  go_wp2_with (first
    | (go_at_call 245; refine HC.out.mono ?_; rintro e w2 ⟨⟨av, rfl, ha, hp⟩, hen⟩; have HA := Lib.hid ha; have HP := Lib.hid hp; have HE := Lib.hid hen; have hk2 := zero_kept HW1.out hp.1 (fun r e => by cases e; exact hpl); have HK2 := Lib.hid hk2; clear ha hp hen hk2)
    | (refine wpList_store_row rfl 31 (.tmp 2) (.tmp 4) rfl w.heap.size _ rfl rfl 31 _ HK2.out (by kernel_rfl) (by rfl) (by obtain ⟨a, c, rfl⟩ := HA.out.slice; simp [Value.oneCell']) ?_))
  refine bodyPost_ret (results_cell_row rfl _ _ w.heap.size 31 _ (0, 0) _ rfl (setRow_heap _ _ _ _ _ _ HK2.out) Tryz.underlying31 rfl (by kernel_rfl)) rfl ?_
  exact ⟨eret (HP.out.pre HB1.out) HK2.out (by rw [← hz1]; exact HA.out) htl hpl, HE.out⟩
end Go.Proofs.YtjgbkdbkachciaaGreatDoor

namespace Go.Proofs.YtjgbkdbkachciaaGreatDoor
open Go.RowKit Go.Shelf
attribute [local go_sem] Oper.semAt_some

theorem PG.zero {w w1 w2 : World} {pb tb : Nat} {ts : List Tok} {o : Obj} (h : PG w1 pb tb ts w2) (hw : w1 = w.alloc o) (hp : pb < w.heap.size) : w2.heap[w.heap.size]? = some o := zero_kept hw h.1 (fun r e => by cases e; exact hp)
theorem EArgs.pg {base : Nat} {w w' : World} {pb tb : Nat} {ts : List Tok} {av : Value} {e : LE} (h : EArgs base w av e) (hg : PG w pb tb ts w') (hp : pb < base) : EArgs base w' av e := h.grown hg.1 (fun r e => by cases e; exact hp)
theorem EArgs.alloc {base : Nat} {w : World} {o : Obj} {av : Value} {e : LE} (h : EArgs base w av e) : EArgs base (w.alloc o) av e := h.grown (alloc_grown w o none) (fun r e => by cases e)
theorem PG.row {w w' : World} {pb tb : Nat} {ts : List Tok} (h : PG w pb tb ts w') {g : Nat} {t : TypeId} {cs : List Value} (hr : Row w g t cs) (hg : g ≠ pb) : Row w' g t cs := hr.kept h.1 (by simpa using hg)

set_option maxRecDepth 100000 in
set_option maxHeartbeats 4000000 in
theorem tight_step {k : Nat} (ih : EOk k) (pb tb : Nat) (ts us : List Tok) (x : LE) (w : World) (h : PS w pb tb ts) (he : Ended ts) (hx : tF (k + 1) ts = some (x, us)) :
    Calls Tryz.prog 257 #[.pointer (some ⟨pb, 0, none⟩)] w (fun e w' => ERet w pb tb x us e w' ∧ Ended us) := by
  cases ts with
  | nil => rw [tF] at hx; cases hx
  | cons t r =>
    have hpl := h.lt
    have htl := h.tlt
    obtain ⟨w1, hw1⟩ : ∃ w1, w1 = w.alloc (.cells eZ 31) := ⟨_, rfl⟩
    have hb1 : Below w.heap.size w w1 := by rw [hw1]; exact below_a1 _ _
    have hz1 : w1.heap.size = w.heap.size + 1 := by rw [hw1]; simp
    have hwe : w.alloc (.cells eZ 31) = w1 := hw1.symm
    have h1 := h.ext hb1
    have HW1 := Lib.hid hw1
    have HB1 := Lib.hid hb1
    have HP1 := Lib.hid (PG.start h1 (Below.refl _ w1))
    obtain ⟨u, hu⟩ : ∃ u, u = unAt t 3 17 := ⟨_, rfl⟩
    have hun := unary_yes pb tb t r w1 h1
    rw [tF] at hx
    rw [← hu] at hx hun
    by_cases hu0 : u = 0
    · have hr5 : t.kind ≠ 5 → r ≠ [] ∧ Ended r := he.tail
      rw [if_neg (by simpa using hu0)] at hx
      have hk5 : t.kind ≠ 5 := by
        intro e
        have hno : ∀ y, tokIs t y = false := fun y => by unfold tokIs; rw [e]; simp
        rw [hno, hno] at hx
        simp [e] at hx
      obtain ⟨hrne, hre⟩ := hr5 hk5
      replace hun := hun hrne
      rw [if_pos hu0] at hun
      subst hu0
      have HUN := Lib.hid hun
      have HNE := Lib.hid hrne
      clear hun hr5 hk5 hb1 hw1 hu h1
      cases hpar : tokIs t [40]
      · rw [hpar] at hx
        simp only [Bool.false_eq_true, if_false] at hx
        have HPAR := Lib.hid hpar
        clear hpar
        cases hrd : tokIs t [114, 101, 97, 100]
        · rw [hrd] at hx
          simp only [Bool.false_eq_true, if_false] at hx
          have HRD := Lib.hid hrd
          clear hrd
          by_cases hk3 : t.kind = 3
          · rw [if_pos hk3] at hx
            simp only [Option.some.injEq, Prod.mk.injEq] at hx
            obtain ⟨rfl, rfl⟩ := hx
            have hkd := fun W (hh : PS W pb tb (t :: r)) => kind_yes pb tb t r W hh hrne
            rw [hk3] at hkd
            have HKD := Lib.hid hkd
            have hfd := tok_f0
            have hfd2 := tok_f2
            have HRE := Lib.hid hre
            clear hkd he h hrne hre
            as_aux_lemma =>
            go_enter Tryz.func257, Tryz.ntmps257
            go_upto_region 8 with (first
              | (go_at_call 265; refine HUN.out.mono ?_; rintro e w2 ⟨rfl, hp2⟩; have HP2 := Lib.hid hp2; clear hp2)
              | (go_at_call 74; refine (take_no pb tb t r [40] w2 HP2.out.2 HPAR.out).mono ?_; rintro e w3 ⟨rfl, hb3⟩; have HP3 := Lib.hid (HP2.out.below hb3); clear hb3))
            go_upto_region 11 with (first
              | (go_at_call 74; refine (take_no pb tb t r [114, 101, 97, 100] w3 HP3.out.2 HRD.out).mono ?_; rintro e w4 ⟨rfl, hb4⟩; have HP4 := Lib.hid (HP3.out.below hb4); clear hb4))
            go_wp2_with (first
              | (go_at_call 70; refine (next_yes pb tb t r w4 HP4.out.2).mono ?_; rintro e w5 ⟨rfl, hb5⟩; have HP5 := Lib.hid (HP4.out.below hb5); clear hb5)
              | (go_at_call 75; refine (HKD.out w5 HP5.out.2).mono ?_; rintro e w6 ⟨rfl, hp6⟩; have HP6 := Lib.hid (HP5.out.trans hp6); have HK6 := Lib.hid ((HP5.out.trans hp6).zero HW1.out hpl); clear hp6)
              | (refine wpList_store_row rfl 31 (.tmp 2) (.tmp 38) rfl w.heap.size _ rfl rfl 31 _ HK6.out (by kernel_rfl) (by rfl) (by simp [Value.oneCell']) ?_))
            refine bodyPost_ret (results_cell_row rfl _ _ w.heap.size 31 _ (0, 0) _ rfl (setRow_heap _ _ _ _ _ _ HK6.out) Tryz.underlying31 rfl (by kernel_rfl)) rfl ?_
            exact ⟨eret (x := .mk 1 0 t.n [] []) (HP6.out.pre HB1.out) HK6.out (EArgs.nil rfl) htl hpl, HRE.out⟩
          · rw [if_neg hk3] at hx
            by_cases hk1 : t.kind = 1
            · rw [if_pos hk1] at hx
              have HNM := Lib.hid (fun W (hh : PS W pb tb (t :: r)) => pname_yes pb tb t r W hh hrne hk1)
              have HNN := Lib.hid (fun W (hh : PS W pb tb r) => ih.n pb tb t.text r us x W hh hre hx)
              have hfd := tok_f0
              clear hx he h hrne hre hk3
              as_aux_lemma =>
              go_enter Tryz.func257, Tryz.ntmps257
              go_upto_region 8 with (first
                | (go_at_call 265; refine HUN.out.mono ?_; rintro e w2 ⟨rfl, hp2⟩; have HP2 := Lib.hid hp2; clear hp2)
                | (go_at_call 74; refine (take_no pb tb t r [40] w2 HP2.out.2 HPAR.out).mono ?_; rintro e w3 ⟨rfl, hb3⟩; have HP3 := Lib.hid (HP2.out.below hb3); clear hb3))
              go_upto_region 11 with (first
                | (go_at_call 74; refine (take_no pb tb t r [114, 101, 97, 100] w3 HP3.out.2 HRD.out).mono ?_; rintro e w4 ⟨rfl, hb4⟩; have HP4 := Lib.hid (HP3.out.below hb4); clear hb4))
              go_wp2_with (first
                | (go_at_call 70; refine (next_yes pb tb t r w4 HP4.out.2).mono ?_; rintro e w5 ⟨rfl, hb5⟩; have HP5 := Lib.hid (HP4.out.below hb5); clear hb5)
                | (go_at_call 73; refine (HNM.out w5 HP5.out.2).mono ?_; rintro e w6 ⟨rfl, hp6⟩; have HP6 := Lib.hid (HP5.out.trans hp6); clear hp6)
                | (go_at_call 266; refine (HNN.out w6 HP6.out.2).mono ?_; rintro e w7 ⟨⟨av, rfl, ha, hp7⟩, hen⟩; have hsz := HP6.out.1.size; have HA := Lib.hid (ha.mono (base' := w.heap.size + 1) (by omega)); obtain ⟨aa, ac, rfl⟩ := ha.slice; have HP7 := Lib.hid (HP6.out.trans hp7); have HEN := Lib.hid hen; have HK7 := Lib.hid ((HP6.out.trans hp7).zero HW1.out hpl); clear hp7 hen ha)
                | (refine wpList_store_row rfl 31 (.tmp 2) (.tmp 42) rfl w.heap.size _ rfl rfl 31 _ HK7.out (by kernel_rfl) (by rfl) (by simp [Value.oneCell']) ?_))
              refine bodyPost_ret (results_cell_row rfl _ _ w.heap.size 31 _ (0, 0) _ rfl (setRow_heap _ _ _ _ _ _ HK7.out) Tryz.underlying31 rfl (by kernel_rfl)) rfl ?_
              exact ⟨eret (HP7.out.pre HB1.out) HK7.out HA.out htl hpl, HEN.out⟩
            · rw [if_neg hk1] at hx; cases hx
        · rw [hrd] at hx
          simp only [if_true] at hx
          obtain ⟨r', hw, hx2⟩ := Option.map_eq_some_iff.1 hx
          clear hx
          simp only [Prod.mk.injEq] at hx2
          obtain ⟨rfl, rfl⟩ := hx2
          obtain ⟨hun, heu⟩ := hre.want hw
          have HTK := Lib.hid (fun W (hh : PS W pb tb (t :: r)) => take_yes pb tb t r [114, 101, 97, 100] W hh hrd hrne)
          have HWA := Lib.hid (fun W sb (hh : PS W pb tb r) (hs : Row W sb 9 ([[40], [41]].map S)) => want_yes pb tb sb 2 2 [[40], [41]] r r' W hh hs rfl hw hun (by simp))
          have HEU := Lib.hid heu
          clear he h hrne hre hrd hw hun heu
          as_aux_lemma =>
          go_enter Tryz.func257, Tryz.ntmps257
          go_upto_region 8 with (first
            | (go_at_call 265; refine HUN.out.mono ?_; rintro e w2 ⟨rfl, hp2⟩; have HP2 := Lib.hid hp2; clear hp2)
            | (go_at_call 74; refine (take_no pb tb t r [40] w2 HP2.out.2 HPAR.out).mono ?_; rintro e w3 ⟨rfl, hb3⟩; have HP3 := Lib.hid (HP2.out.below hb3); clear hb3))
          go_wp2_with (first
            | (go_at_call 74; refine (HTK.out w3 HP3.out.2).mono ?_; rintro e w4 ⟨rfl, hp4⟩; have HP4 := Lib.hid (HP3.out.trans hp4); clear hp4)
            | (go_at_call 72; refine (HWA.out _ w4.heap.size (HP4.out.2.ext (below_a1 _ _)) (heap_new _ _)).mono ?_; rintro e w5 ⟨⟨v5, rfl⟩, hp5⟩; have HP5 := Lib.hid ((HP4.out.below (below_a1 _ _)).trans hp5); have HK5 := Lib.hid (((HP4.out.below (below_a1 _ _)).trans hp5).zero HW1.out hpl); clear hp5)
            | (refine wpList_store_row rfl 31 (.tmp 2) (.tmp 29) rfl w.heap.size _ rfl rfl 31 _ HK5.out (by kernel_rfl) (by rfl) (by simp [Value.oneCell']) ?_))
          refine bodyPost_ret (results_cell_row rfl _ _ w.heap.size 31 _ (0, 0) _ rfl (setRow_heap _ _ _ _ _ _ HK5.out) Tryz.underlying31 rfl (by kernel_rfl)) rfl ?_
          exact ⟨eret (x := .mk 7 0 0 [] []) (HP5.out.pre HB1.out) HK5.out (EArgs.nil rfl) htl hpl, HEU.out⟩
      · rw [hpar] at hx
        simp only [if_true] at hx
        cases hc : cF k 1 r with
        | none => rw [hc] at hx; cases hx
        | some p =>
          obtain ⟨e, us1⟩ := p
          rw [hc] at hx
          simp only [] at hx
          obtain ⟨r', hw, hx2⟩ := Option.map_eq_some_iff.1 hx
          clear hx
          simp only [Prod.mk.injEq] at hx2
          obtain ⟨rfl, rfl⟩ := hx2
          have HTK := Lib.hid (fun W (hh : PS W pb tb (t :: r)) => take_yes pb tb t r [40] W hh hpar hrne)
          have HEX := Lib.hid (fun W (hh : PS W pb tb r) => expr_of ih pb tb r us1 e W hh hre hc)
          have HWA := Lib.hid (fun W sb (hh : PS W pb tb us1) (hs : Row W sb 9 ([[41]].map S)) (hen : Ended us1) => want_yes pb tb sb 1 1 [[41]] us1 r' W hh hs rfl hw (hen.want hw).1 (by simp))
          have HWE := Lib.hid (fun (hen : Ended us1) => (hen.want hw).2)
          clear he h hrne hre hpar hw hc
          as_aux_lemma =>
          go_enter Tryz.func257, Tryz.ntmps257
          go_upto_region 6 with (first
            | (go_at_call 265; refine HUN.out.mono ?_; rintro e w2 ⟨rfl, hp2⟩; have HP2 := Lib.hid hp2; clear hp2)
            | (go_at_call 74; refine (HTK.out w2 HP2.out.2).mono ?_; rintro e w3 ⟨rfl, hp3⟩; have HP3 := Lib.hid (HP2.out.trans hp3); clear hp3)
            | (go_at_call 226; refine (HEX.out w3 HP3.out.2).mono ?_; rintro e w4 ⟨⟨av, rfl, ha, hp4⟩, hen⟩; have hsz := HP3.out.1.size; have HA := Lib.hid (ha.mono (base' := w.heap.size + 1) (by omega)); obtain ⟨aa, ac, rfl⟩ := ha.slice; have HP4 := Lib.hid (HP3.out.trans hp4); have HEN := Lib.hid hen; clear hp4 hen ha))
          obtain ⟨w5, hw5⟩ : ∃ w5, w5 = w4.alloc (.cells #[.int .i64 e.kind, .int .i64 e.op, .int .i64 e.n, .string ⟨e.name.toArray⟩, .slice aa e.args.length ac] 31) := ⟨_, rfl⟩
          have hr5 : Row w5 w4.heap.size 31 (eRow e (.slice aa e.args.length ac)) := by rw [hw5]; exact heap_new _ _
          have hp5 : PG w1 pb tb us1 w5 := by rw [hw5]; exact HP4.out.below (below_a1 _ _)
          have ha5 : EArgs (w.heap.size + 1) w5 (.slice aa e.args.length ac) e := by rw [hw5]; exact HA.out.alloc
          rw [← hw5]
          have HR5 := Lib.hid hr5
          have HP5 := Lib.hid hp5
          have HA5 := Lib.hid ha5
          have hbne : w4.heap.size ≠ pb := by have := HP4.out.1.size; omega
          have hz5 : w4.heap.size < w5.heap.size := by rw [hw5]; simp
          clear hw5 hr5 hp5 ha5
          go_upto_region 7 with (first
            | (go_at_call 72; refine (HWA.out _ w5.heap.size (HP5.out.2.ext (below_a1 _ _)) (heap_new _ _) HEN.out).mono ?_; rintro e' w6 ⟨⟨v6, rfl⟩, hp6⟩; have HP6 := Lib.hid ((HP5.out.below (below_a1 _ _)).trans hp6); have HA6 := Lib.hid (HA5.out.alloc.pg hp6 (by omega)); have hr6 := hp6.row (heap_old _ _ HR5.out) hbne; have HK6 := Lib.hid (((HP5.out.below (below_a1 _ _)).trans hp6).zero HW1.out hpl); have HR6 := Lib.hid hr6; clear hp6 hr6))
          have c0 := HR6.out.cell 0
          have c1 := HR6.out.cell 1
          have c2 := HR6.out.cell 2
          have c3 := HR6.out.cell 3
          have c4 := HR6.out.cell 4
          simp only [eRow, List.getElem?_cons_succ, List.getElem?_cons_zero] at c0 c1 c2 c3 c4
          go_wp2_with (first
            | (refine wpList_store_row rfl 31 (.tmp 2) (.tmp 22) rfl w.heap.size _ rfl rfl 31 _ HK6.out (by kernel_rfl) (by rfl) (by simp [Value.oneCell']) ?_))
          refine bodyPost_ret (results_cell_row rfl _ _ w.heap.size 31 _ (0, 0) _ rfl (setRow_heap _ _ _ _ _ _ HK6.out) Tryz.underlying31 rfl (by kernel_rfl)) rfl ?_
          exact ⟨eret (HP6.out.pre HB1.out) HK6.out HA6.out htl hpl, HWE.out HEN.out⟩
    · rw [if_pos (by simpa using hu0)] at hx
      have hk5 : t.kind ≠ 5 := unAt_kind 3 17 (by rw [← hu]; exact hu0)
      obtain ⟨hrne, hre⟩ := he.tail hk5
      replace hun := hun hrne
      rw [if_neg hu0] at hun
      obtain ⟨⟨e, us1⟩, ht, hx2⟩ := Option.map_eq_some_iff.1 hx
      clear hx
      simp only [Prod.mk.injEq] at hx2
      obtain ⟨rfl, rfl⟩ := hx2
      have HUN := Lib.hid hun
      have HTT := Lib.hid (fun W (hh : PS W pb tb r) => ih.t pb tb r us1 e W hh hre ht)
      have hune : (u != 0) = true := by rw [bne_iff_ne]; exact hu0
      clear hun hk5 hb1 hw1 hu h1 hrne hre ht he h hu0
      go_enter Tryz.func257, Tryz.ntmps257
      go_wp2_with (first
        | (go_at_call 265; refine HUN.out.mono ?_; rintro e w2 ⟨rfl, hp2⟩; have HP2 := Lib.hid hp2; clear hp2)
        | (go_at_call 257; refine (HTT.out w2 HP2.out.2).mono ?_; rintro e' w3 ⟨⟨av, rfl, ha, hp3⟩, hen⟩; have hsz := HP2.out.1.size; have HA := Lib.hid (ha.mono (base' := w.heap.size + 1) (by omega)); obtain ⟨aa, ac, rfl⟩ := ha.slice; have HP3 := Lib.hid (HP2.out.trans hp3); have HEN := Lib.hid hen; have hsz3 := (HP2.out.trans hp3).1.size; have HK3 := Lib.hid ((HP2.out.trans hp3).zero HW1.out hpl); have HK4 := Lib.hid (show (w3.alloc (.cells #[I e.kind, I e.op, I e.n, S e.name, .slice aa e.args.length ac] 31)).heap[w.heap.size]? = some (.cells eZ 31 (0, 0)) from heap_old _ _ HK3.out); clear hp3 hen ha)
        | (refine store_first 31 (.tmp 2) (.tmp 13) rfl ?_; refine wpList_store_row rfl 31 (.tmp 2) (.tmp 13) rfl w.heap.size _ rfl rfl 31 eZ HK4.out (by kernel_rfl) (by rfl) (by simp [Value.oneCell']) ?_))
      obtain ⟨w4, hw4⟩ : ∃ w4, w4 = w3.alloc (.cells #[I e.kind, I e.op, I e.n, S e.name, .slice aa e.args.length ac] 31) := ⟨_, rfl⟩
      have hk4 : w4.heap[w.heap.size]? = some (.cells eZ 31 (0, 0)) := by rw [hw4]; exact HK4.out
      have hr4 : Row w4 w3.heap.size 31 (eRow e (.slice aa e.args.length ac)) := by rw [hw4]; exact heap_new _ _
      have hpg : PG w pb tb us1 w4 := by rw [hw4]; exact (HP3.out.below (below_a1 _ _)).pre HB1.out
      have hae : EArgs (w.heap.size + 1) w4 (.slice aa e.args.length ac) e := by rw [hw4]; exact HA.out.alloc
      have hav : EArgs (w.heap.size + 1) w4 (.slice (some ⟨w3.heap.size, 0, none⟩) 1 1) (.mk 3 u 0 [] [e]) := EArgs.one (x := e) rfl (by omega) hr4 hae
      rw [← hw4]
      clear hw4 HK4
      refine bodyPost_ret (results_cell_row rfl _ _ w.heap.size 31 _ (0, 0) _ rfl (setRow_heap _ _ _ _ _ _ hk4) Tryz.underlying31 rfl (by kernel_rfl)) rfl ?_
      exact ⟨eret hpg hk4 hav htl hpl, HEN.out⟩
end Go.Proofs.YtjgbkdbkachciaaGreatDoor
