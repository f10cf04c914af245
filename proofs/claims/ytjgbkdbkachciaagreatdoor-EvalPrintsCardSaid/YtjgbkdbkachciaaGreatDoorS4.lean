import Derived.Test.YtjgbkdbkachciaaGreatDoorS3
namespace Go.Proofs.YtjgbkdbkachciaaGreatDoor
open Go.RowKit Go.Shelf
attribute [local go_sem] Oper.semAt_some

theorem PG.pre {w w1 w2 : World} {pb tb : Nat} {ts : List Tok} (hb : Below w.heap.size w w1) (h : PG w1 pb tb ts w2) : PG w pb tb ts w2 := ⟨grown_trans (below_grown hb _) h.1, h.2⟩
theorem setRow_grown {w : World} {g : Nat} {cs : Array Value} : w.grownBy (w.setRow g cs) (some g) := ⟨rfl, rfl, rfl, by simp, fun i _ hi => setRow_other _ _ _ _ (fun e => hi (by rw [e]))⟩
/-- a guard: the operation at hand is this store -/
theorem store_first {P : Program} {ops : Array Oper} {rest : List Oper} {o : Oper} {a : Act} {w : World} {Q : Exit → Act → World → Prop} (ty : TypeId) (x y : Operand) (_ : o.op = .store ty x y) (h : wpList P ops Q (o :: rest) a w) : wpList P ops Q (o :: rest) a w := h
/-- the end of a function that hands back an expression: its own cell is written -/
theorem eret {w w4 : World} {pb tb : Nat} {us : List Tok} {x : LE} {av : Value} {cs : Array Value} (hpg : PG w pb tb us w4) (_hk : w4.heap[w.heap.size]? = some (.cells cs 31 (0, 0))) (hav : EArgs (w.heap.size + 1) w4 av x) (ht : tb < w.heap.size) (hp : pb < w.heap.size) :
    ERet w pb tb x us (.returned (eV x av)) (w4.setRow w.heap.size #[I x.kind, I x.op, I x.n, S x.name, av]) :=
  ⟨av, rfl, (hav.grown setRow_grown (fun r e => by cases e; omega)).mono (by omega), hpg.new (Nat.le_refl _) setRow_grown ht hp⟩
abbrev eZ : Array Value := #[.int .i64 0, .int .i64 0, .int .i64 0, .string ⟨#[]⟩, .slice none 0 0]
theorem zero_kept {w w1 w2 : World} {o : Obj} {row : Option Nat} (hw : w1 = w.alloc o) (hg : w1.grownBy w2 row) (hr : ∀ r, row = some r → r < w.heap.size) : w2.heap[w.heap.size]? = some o := by
  subst hw
  exact grown_old hg (heap_new _ _) (fun e => by have := hr _ e.symm; omega)

set_option maxRecDepth 100000 in
set_option maxHeartbeats 2000000 in
/-- an expression, by the function that names no level -/
theorem expr_of {k : Nat} (ih : EOk k) (pb tb : Nat) (ts us : List Tok) (x : LE) (w : World) (h : PS w pb tb ts) (he : Ended ts) (hx : cF k 1 ts = some (x, us)) :
    Calls Tryz.prog 226 #[.pointer (some ⟨pb, 0, none⟩)] w (fun e w' => ERet w pb tb x us e w' ∧ Ended us) := by
  obtain ⟨t, r, rfl⟩ : ∃ t r, ts = t :: r := by
    obtain ⟨e, h1, _⟩ := he
    cases ts with
    | nil => cases h1
    | cons t r => exact ⟨t, r, rfl⟩
  have hpl := h.lt
  have htl := h.tlt
  obtain ⟨w1, hw1⟩ : ∃ w1, w1 = w.alloc (.cells eZ 31) := ⟨_, rfl⟩
  have hb1 : Below w.heap.size w w1 := by rw [hw1]; exact below_a1 _ _
  have hz1 : w1.heap.size = w.heap.size + 1 := by rw [hw1]; simp
  have HC := Lib.hid (ih.c pb tb 1 (t :: r) us x w1 (h.ext hb1) he hx)
  have HW1 := Lib.hid hw1
  have hwe : w.alloc (.cells eZ 31) = w1 := hw1.symm
  have HB1 := Lib.hid hb1
  clear h he hx hw1 hb1
  go_enter Tryz.func226, Tryz.ntmps226
  go_wp2_with (first
    | (go_at_call 245; refine HC.out.mono ?_; rintro e w2 ⟨⟨av, rfl, ha, hp⟩, hen⟩; have HA := Lib.hid ha; have HP := Lib.hid hp; have HE := Lib.hid hen; have hk2 := zero_kept HW1.out hp.1 (fun r e => by cases e; exact hpl); have HK2 := Lib.hid hk2; clear ha hp hen hk2)
    | (refine wpList_store_row rfl 31 (.tmp 2) (.tmp 4) rfl w.heap.size _ rfl rfl 31 _ HK2.out (by kernel_rfl) (by rfl) (by obtain ⟨a, c, rfl⟩ := HA.out.slice; simp [Value.oneCell']) ?_))
  refine bodyPost_ret (results_cell_row rfl _ _ w.heap.size 31 _ (0, 0) _ rfl (setRow_heap _ _ _ _ _ _ HK2.out) Tryz.underlying31 rfl (by kernel_rfl)) rfl ?_
  exact ⟨eret (HP.out.pre HB1.out) HK2.out (by rw [← hz1]; exact HA.out) htl hpl, HE.out⟩
end Go.Proofs.YtjgbkdbkachciaaGreatDoor
