import Derived.Test.YtjgbkdbkachciaaGreatDoorC4
import Derived.Test.YtjgbkdbkachciaaGreatDoorE1
import Derived.Test.YtjgbkdbkachciaaGreatDoorE4
import Derived.Test.YtjgbkdbkachciaaGreatDoorB8
namespace Go.Proofs.YtjgbkdbkachciaaGreatDoor
open Go.RowKit Go.Shelf
attribute [local go_sem] Oper.semAt_some

/-! ### arrays and functions, put in a row -/
def a2Enc (x : LA) : List Value := [S x.name, I x.size]
theorem a2Enc_len (x : LA) : (a2Enc x).length = 2 := rfl
theorem a2Enc_one (x : LA) : ∀ u ∈ a2Enc x, u.oneCell' = true := by intro u hu; simp [a2Enc] at hu; rcases hu with rfl | rfl <;> rfl
theorem slArr : SlT 24 68 2 24 := SlT.mk' (z := .agg #[.string ByteArray.empty, .int .i64 0]) Tryz.underlying24 (by kernel_rfl) rfl (by decide)
theorem OwnS.arrs {w : World} {base : Nat} {v : Value} {l : List LA} (h : OwnS 2 68 a2Enc w base v l) (hl : l.length ≤ 1000000000) : RSlB (base ≤ ·) 2 RArr w v l := by
  have := h.rslB (R := RArr) (fun x => x) a2Enc_len hl fun x _ => ⟨rfl, rfl⟩
  simpa using this
/-- a function that is being put together, where its parts lie -/
structure FD where
  q : PQ
  pa : Option Addr
  pc : Nat
  la : Option Addr
  lc : Nat
  ba : Option Addr
  bc : Nat
abbrev FD.pv (p : FD) : Value := .slice p.pa p.q.np p.pc
abbrev FD.lv (p : FD) : Value := .slice p.la p.q.nl p.lc
abbrev FD.bv (p : FD) : Value := .slice p.ba p.q.body.length p.bc
def fnEnc (p : FD) : List Value := [S p.q.nm, p.pv, p.lv, p.bv]
theorem fnEnc_len (p : FD) : (fnEnc p).length = 4 := rfl
theorem fnEnc_one (p : FD) : ∀ u ∈ fnEnc p, u.oneCell' = true := by intro u hu; simp [fnEnc] at hu; rcases hu with rfl | rfl | rfl | rfl <;> rfl
structure PartF (B : Nat → Prop) (w : World) (p : FD) : Prop where
  fp : RSlB B 1 RStr w p.pv (nmP.take p.q.np)
  fl : RSlB B 1 RStr w p.lv (nmL.take p.q.nl)
  fb : SX B w p.bv p.q.body
theorem PartF.grown {B : Nat → Prop} {w w' : World} {row : Option Nat} {p : FD} (h : PartF B w p) (hg : w.grownBy w' row) (hr : ∀ r, row = some r → ¬ B r) : PartF B w' p :=
  ⟨h.fp.grown hg hr (fun _ _ h => h), h.fl.grown hg hr (fun _ _ h => h), SX.grown h.fb hg hr⟩
theorem PartF.weak {B B' : Nat → Prop} {w : World} {p : FD} (h : PartF B w p) (hB : ∀ b, B b → B' b) : PartF B' w p := ⟨h.fp.weak hB (fun _ _ h => h), h.fl.weak hB (fun _ _ h => h), SX.weak h.fb hB⟩
theorem PartF.size {B : Nat → Prop} {w : World} {p : FD} (h : PartF B w p) : PartF (fun b => B b ∧ b < w.heap.size) w p := ⟨h.fp.size (by omega) (fun _ _ h => h), h.fl.size (by omega) (fun _ _ h => h), SX.size h.fb⟩
/-- what was put together is read -/
theorem OwnS.fns {w : World} {base : Nat} {v : Value} {l : List FD} (h : OwnS 4 52 fnEnc w base v l) (hl : l.length ≤ 1000000000) (hA : ∀ p ∈ l, PartF (base ≤ ·) w p) : RSlB (base ≤ ·) 4 (RF (base ≤ ·)) w v (l.map fun p => p.q.f) :=
  h.rslB (fun p => p.q.f) fnEnc_len hl fun p hp => ⟨rfl, (hA p hp).fp, (hA p hp).fl, (hA p hp).fb⟩
/-- what of the functions is there already -/
def FnI (wr : World) (lo base : Nat) (v : Value) (done : List FD) : Prop := lo ≤ base ∧ OwnS 4 52 fnEnc wr base v done ∧ ∀ p ∈ done, PartF (fun b => lo ≤ b ∧ b < wr.heap.size ∧ v.ownBlock ≠ some b) wr p
theorem FnI.nil (w : World) {lo base : Nat} (h : lo ≤ base) : FnI w lo base (.slice none 0 0) [] := ⟨h, OwnS.nil, fun p hp => by cases hp⟩
theorem FnI.grown {w w' : World} {lo base : Nat} {v : Value} {done : List FD} {row : Option Nat} (h : FnI w lo base v done) (hg : w.grownBy w' row) (hr : ∀ r, row = some r → r < lo) : FnI w' lo base v done := by
  have hsz := hg.size
  have hlo := h.1
  refine ⟨h.1, ownsRow_kept' h.2.1 hg ?_, fun p hp => ?_⟩
  · cases hv : v.ownBlock with
    | none => exact .inl rfl
    | some k =>
      right
      intro e
      have := hr k e.symm
      have := (ownsRow_base h.2.1 k hv).1
      omega
  · exact ((h.2.2 p hp).grown hg (fun r e hb => by have := hr r e; omega)).weak fun b hb => ⟨hb.1, by omega, hb.2.2⟩
theorem FnI.app {w1 w2 w3 : World} {lo base g : Nat} {v v' : Value} {done : List FD} {row : Option Nat} {y : FD} {o : Obj} (h : FnI w1 lo base v done) (hg : w1.grownBy w2 row) (hr : ∀ r, row = some r → r < lo) (hx : PartF (fun b => lo ≤ b ∧ b < w2.heap.size ∧ v.ownBlock ≠ some b) w2 y)
    (ho : OwnS 4 52 fnEnc w3 base v' (done ++ [y])) (hg3 : (w2.alloc o).grownBy w3 v.ownBlock) (hv' : v'.ownBlock = some g) (hat : v.ownBlock = some g ∨ g = (w2.alloc o).heap.size) : FnI w3 lo base v' (done ++ [y]) := by
  have hs2 := hg.size
  have hz2 : (w2.alloc o).heap.size = w2.heap.size + 1 := by simp
  have hz3 := hg3.size
  have h2 := h.grown hg hr
  have hnb : ∀ b, lo ≤ b → b < w2.heap.size → v.ownBlock ≠ some b → lo ≤ b ∧ b < w3.heap.size ∧ v'.ownBlock ≠ some b := by
    intro b h1 h2 h3
    refine ⟨h1, by omega, fun e => ?_⟩
    rw [hv'] at e
    obtain rfl := Option.some.inj e
    rcases hat with h4 | h4
    · exact h3 h4
    · omega
  have ha : ∀ {B : Nat → Prop} {p : FD}, PartF B w2 p → PartF B (w2.alloc o) p := fun h => h.grown (alloc_grown _ _ none) (fun r e => by cases e)
  have hall : ∀ p, PartF (fun b => lo ≤ b ∧ b < w2.heap.size ∧ v.ownBlock ≠ some b) w2 p → PartF (fun b => lo ≤ b ∧ b < w3.heap.size ∧ v'.ownBlock ≠ some b) w3 p := fun p hp =>
    ((ha hp).grown hg3 (fun r e hb => hb.2.2 e)).weak fun b hb => hnb b hb.1 hb.2.1 hb.2.2
  refine ⟨h.1, ho, fun p hp => ?_⟩
  rcases List.mem_append.1 hp with hp | hp
  · exact hall p (h2.2.2 p hp)
  · obtain rfl := List.mem_singleton.1 hp
    exact hall p hx
theorem FnI.read {w : World} {lo base : Nat} {v : Value} {done : List FD} (h : FnI w lo base v done) (hl : done.length ≤ 1000000000) : RSlB (fun b => lo ≤ b ∧ b < w.heap.size) 4 (RF (fun b => lo ≤ b ∧ b < w.heap.size)) w v (done.map fun p => p.q.f) :=
  ((h.2.1.mono h.1).fns hl fun p hp => (h.2.2 p hp).weak fun _ hb => hb.1).size (by omega) fun _ _ h => ⟨h.1, h.2.1.size (by omega) (fun _ _ h => h), h.2.2.1.size (by omega) (fun _ _ h => h), SX.size h.2.2.2⟩

/-- a row of texts, from its beginning -/
theorem row_strs {B : Nat → Prop} {w : World} {g c : Nat} {l : List Str} (h : Row w g 9 (l.map S)) (hB : B g) {r : Nat} (hr : r ≤ l.length) (hl : l.length ≤ 1000) : RSlB B 1 RStr w (.slice (some ⟨g, 0, none⟩) r c) (l.take r) := by
  have hlen : (l.take r).length = r := by rw [List.length_take]; omega
  refine ⟨some ⟨g, 0, none⟩, c, by rw [hlen], by omega, .inr ⟨g, 0, rfl, hB, fun i x hx => ?_⟩⟩
  rw [List.getElem?_take] at hx
  split at hx
  · refine ⟨fun _ => S x, fun j hj => ?_, rfl⟩
    obtain rfl : j = 0 := by omega
    rw [h.cell, List.getElem?_map]
    simp only [Nat.mul_one, Nat.zero_add, Nat.add_zero, hx, Option.map_some]
  · cases hx

/-! ### names in their turn, from behind -/
def dn (f : Nat → Str) (n k : Nat) : List Str := (List.range (n - k)).map fun j => f (n - j)
theorem dn_start (f : Nat → Str) (n : Nat) : dn f n n = [] := by unfold dn; rw [Nat.sub_self]; rfl
theorem dn_step (f : Nat → Str) {n k : Nat} (h : k + 1 ≤ n) : dn f n k = dn f n (k + 1) ++ [f (k + 1)] := by
  unfold dn
  rw [show n - k = (n - (k + 1)) + 1 by omega, List.range_succ, List.map_append, List.map_singleton, show n - (n - (k + 1)) = k + 1 by omega]
def nmA : Nat → Str
  | 1 => nB
  | _ => nC
def nmF : Nat → Str
  | 1 => nG
  | _ => nH
theorem dn_arr {n : Nat} (h : n < 3) : dn nmA n 0 = [] ∨ dn nmA n 0 = [nB] ∨ dn nmA n 0 = [nC, nB] := by
  have : n = 0 ∨ n = 1 ∨ n = 2 := by omega
  rcases this with rfl | rfl | rfl <;> decide
theorem dn_fun {n : Nat} (h : n < 3) : wMain :: dn nmF n 0 = [wMain] ∨ wMain :: dn nmF n 0 = [wMain, nG] ∨ wMain :: dn nmF n 0 = [wMain, nH, nG] := by
  have : n = 0 ∨ n = 1 ∨ n = 2 := by omega
  rcases this with rfl | rfl | rfl <;> decide

/-! ### what there is in a function -/
def scL (ars : List LA) (ps : List (Str × Nat)) (np nl : Nat) : Sc := ⟨false, fun x => x ∈ nmP.take np ++ nmL.take nl, fun x => ∃ a ∈ ars, a.name = x, fun x n => (x, n) ∈ ps⟩
theorem scQ_eq (ars : List LA) (fs : List PQ) (q : PQ) : scQ ars fs q = scL ars (fs.map fun q => (q.nm, q.np)) q.np q.nl := by
  unfold scQ scL
  congr 1
  funext x n
  apply propext
  simp only [List.mem_map, Prod.mk.injEq]
def headOf (p : FD) : Str × Nat := (p.q.nm, p.q.np)
/-- heads of functions -/
structure Heads (hs : List FD) : Prop where
  names : hs.map (fun p => p.q.nm) = [wMain] ∨ hs.map (fun p => p.q.nm) = [wMain, nG] ∨ hs.map (fun p => p.q.nm) = [wMain, nH, nG]
  few : ∀ p ∈ hs, p.q.np ≤ 6 ∧ (p.q.nm = wMain → p.q.np = 0)
/-- what is drawn is a raw program -/
theorem raw_of {ars : List LA} {hs done : List FD} (h1 : ars.map (·.name) = [] ∨ ars.map (·.name) = [nB] ∨ ars.map (·.name) = [nC, nB]) (h2 : ∀ a ∈ ars, 1 ≤ a.size ∧ a.size ≤ 1048576) (hh : Heads hs)
    (hd : done.map headOf = hs.map headOf) (h3 : ∀ p ∈ done, p.q.nl ≤ 5 ∧ ∀ s ∈ p.q.body, DrS (scL ars (hs.map headOf) p.q.np p.q.nl) 4 false s) : RawP ars (done.map FD.q) := by
  have hn : done.map (fun p => p.q.nm) = hs.map fun p => p.q.nm := by
    have := congrArg (List.map Prod.fst) hd
    simpa only [List.map_map, Function.comp_def, headOf] using this
  have hm : ∀ p ∈ done, ∃ p' ∈ hs, headOf p' = headOf p := fun p hp => by
    have : headOf p ∈ hs.map headOf := hd ▸ List.mem_map.2 ⟨p, hp, rfl⟩
    obtain ⟨p', h, e⟩ := List.mem_map.1 this
    exact ⟨p', h, e⟩
  refine ⟨h1, h2, ?_, fun q hq => ?_, fun q hq s hs' => ?_⟩
  · rw [List.map_map, show PQ.nm ∘ FD.q = fun p : FD => p.q.nm from rfl, hn]; exact hh.names
  · obtain ⟨p, hp, rfl⟩ := List.mem_map.1 hq
    obtain ⟨p', hp', e⟩ := hm p hp
    simp only [headOf, Prod.mk.injEq] at e
    have := hh.few p' hp'
    rw [e.1, e.2] at this
    exact ⟨this.1, (h3 p hp).1, this.2⟩
  · obtain ⟨p, hp, rfl⟩ := List.mem_map.1 hq
    rw [scQ_eq, List.map_map, show (fun q : PQ => (q.nm, q.np)) ∘ FD.q = headOf from rfl, hd]
    exact (h3 p hp).2 s hs'
end Go.Proofs.YtjgbkdbkachciaaGreatDoor

namespace Go.Proofs.YtjgbkdbkachciaaGreatDoor
open Go.RowKit Go.Shelf
attribute [local go_sem] Oper.semAt_some

/-- what of a raw program's rows is there -/
structure PgI (W : World) (cb pb : Nat) (cr pr : List Value) (w : World) : Prop where
  below : Below W.heap.size W w
  out : Row w W.heap.size 27 [.slice none 0 0, .slice none 0 0]
  c : Row w cb 64 cr
  p : Row w pb 27 pr
  src : Src (W.heap.size + 1) w
  lc : W.heap.size + 1 < cb
  lp : cb < pb
section
variable {W w w' : World} {cb pb : Nat} {cr pr : List Value}
theorem PgI.lt (h : PgI W cb pb cr pr w) : pb < w.heap.size := h.p.lt
theorem PgI.draw (h : PgI W cb pb cr pr w) (hs : SG (W.heap.size + 1) w w') : PgI W cb pb cr pr w' :=
  ⟨h.below.grown hs.1 h.below.size (fun r e => by cases e; omega), hs.row h.out (by omega), hs.row h.c (by have := h.lc; omega), hs.row h.p (by have := h.lc; have := h.lp; omega), hs.2, h.lc, h.lp⟩
theorem PgI.kept {row : Option Nat} (h : PgI W cb pb cr pr w) (hg : w.grownBy w' row) (hr : ∀ r, row = some r → pb < r) : PgI W cb pb cr pr w' := by
  have h1 := h.lc
  have h2 := h.lp
  exact ⟨h.below.grown hg h.below.size (fun r e => by have := hr r e; omega), h.out.kept hg (fun e => by have := hr _ e.symm; omega), h.c.kept hg (fun e => by have := hr _ e.symm; omega), h.p.kept hg (fun e => by have := hr _ e.symm; omega), h.src.kept hg (fun r e => by have := hr r e; omega), h1, h2⟩
theorem PgI.setc (h : PgI W cb pb cr pr w) (j : Nat) (v : Value) : PgI W cb pb (cr.set j v) pr (w.setCell ⟨cb, j, none⟩ v) := by
  have h1 := h.lc
  have h2 := h.lp
  have hg := setCell_grown w cb j v
  exact ⟨h.below.grown hg h.below.size (fun r e => by cases e; omega), h.out.kept hg (fun e => by cases e; omega), h.c.set j v, h.p.kept hg (fun e => by cases e; omega), h.src.kept hg (fun r e => by cases e; omega), h1, h2⟩
theorem PgI.setp (h : PgI W cb pb cr pr w) (j : Nat) (v : Value) : PgI W cb pb cr (pr.set j v) (w.setCell ⟨pb, j, none⟩ v) := by
  have h1 := h.lc
  have h2 := h.lp
  have hg := setCell_grown w pb j v
  exact ⟨h.below.grown hg h.below.size (fun r e => by cases e; omega), h.out.kept hg (fun e => by cases e; omega), h.c.kept hg (fun e => by cases e; omega), h.p.set j v, h.src.kept hg (fun r e => by cases e; omega), h1, h2⟩
end

/-- but for the source, and rows of one type, nothing is changed -/
structure StepX (t : TypeId) (sb n₀ : Nat) (W W' : World) : Prop where
  old : ∀ (k : Nat) (o : Obj), W.heap[k]? = some o → k = sb ∨ (∃ cs, o = Obj.cells cs t (0, 0)) ∨ W'.heap[k]? = some o
  new : ∀ (k : Nat) (cs : List Value), n₀ ≤ k → Row W k t cs → ∃ cs' : List Value, cs'.length = cs.length ∧ Row W' k t cs'
theorem StepX.of {t : TypeId} {sb n₀ : Nat} {W W' : World} (h : W.grownBy W' (some sb)) (hn : sb < n₀) : StepX t sb n₀ W W' :=
  ⟨fun k o hk => by
    by_cases hks : k = sb
    · exact .inl hks
    · exact .inr (.inr (grown_old h hk (fun e => hks (Option.some.inj e)))), fun k cs hk hr => ⟨cs, rfl, hr.kept h (fun e => by cases e; omega)⟩⟩
theorem StepX.refl (t : TypeId) (sb n₀ : Nat) (W : World) (hn : sb < n₀) : StepX t sb n₀ W W := StepX.of ⟨rfl, rfl, rfl, Nat.le_refl _, fun _ _ _ => rfl⟩ hn
theorem StepX.al (t : TypeId) (sb n₀ : Nat) (W : World) (o : Obj) (hn : sb < n₀) : StepX t sb n₀ W (W.alloc o) := StepX.of (alloc_grown _ _ _) hn
theorem StepX.row {t : TypeId} {sb n₀ : Nat} {W W' : World} (h : StepX t sb n₀ W W') {g : Nat} {e : TypeId} {cs : List Value} (hr : Row W g e cs) (he : e ≠ t) (hg : n₀ ≤ g) (hn : sb < n₀) : Row W' g e cs := by
  rcases h.old g _ hr with h1 | ⟨c, h1⟩ | h1
  · omega
  · simp only [Obj.cells.injEq] at h1; exact absurd h1.2.1 he
  · exact h1
theorem StepX.set {t : TypeId} {sb n₀ : Nat} {W : World} {g : Nat} {cs cs' : List Value} (hr : Row W g t cs) (hl : cs'.length = cs.length) : StepX t sb n₀ W (W.setRow g cs'.toArray) := by
  have hrow : Row (W.setRow g cs'.toArray) g t cs' := setRow_heap _ _ _ _ _ _ hr
  refine ⟨fun k o hk => ?_, fun k c hk hr' => ?_⟩
  · by_cases hkg : k = g
    · subst hkg
      unfold Row at hr
      rw [hr] at hk
      exact .inr (.inl ⟨_, (Option.some.inj hk).symm⟩)
    · exact .inr (.inr (grown_old setRow_grown hk (fun e => hkg (Option.some.inj e))))
  · by_cases hkg : k = g
    · subst hkg
      unfold Row at hr hr'
      rw [hr] at hr'
      have : cs.toArray = c.toArray := by simpa using hr'
      have := congrArg Array.toList this
      simp only at this
      subst this
      exact ⟨cs', hl, hrow⟩
    · exact ⟨c, rfl, grown_old setRow_grown hr' (fun e => hkg (Option.some.inj e))⟩
/-- a whole struct stored, where an order is drawn -/
theorem rg_row {F : Fence} {n : Nat} {P : Program} {ops : Array Oper} {Q : Exit → Act → World → Prop} {i : Nat} {o : Oper} {a : Act} {W : World} {K : Act → World → Prop} (ho : ops[i]? = some o) (hg : o.guard = none) (ty : TypeId) (x y : Operand) (hop : o.op = .store ty x y)
    (g : Nat) (cells : List Value) (hx : a.eval x = .pointer (some ⟨g, 0, none⟩)) (hy : a.eval y = .agg cells.toArray) (t : TypeId) (old : List Value) (hr : Row W g t old) (hi : (P.info? ty).map (·.size) = some cells.length) (hold : old.length = cells.length) (h1 : cells.all (·.oneCell') = true)
    (h : K (a.put o.dst undef) (W.setRow g cells.toArray)) : wpOpIn F n P ops Q i K a W := by
  refine rg_skip ho hg (fun f hf => by simp [Oper.about, hop] at hf) (by rw [hop]; intro c hc; cases hc) (W' := W.setRow g cells.toArray) ?_ h
  simp only [execOp, hop, hx, hy, Instr.storeAt, Instr.sureAddr, Sem.run_bind, Sem.run_pure, Result.andThen_ok, run_storeVar_row W g t ty old.toArray cells.toArray hr (by simpa using hi) (by simpa using hold) (by simpa using h1)]
end Go.Proofs.YtjgbkdbkachciaaGreatDoor
