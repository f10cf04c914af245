import Derived.Test.YtdlcpmjhngfgkaaC5
namespace Go.Proofs.Ytdlcpmjhngfgkaa
open Go.RowKit Go.Shelf

/-- block g is a row of cells -/
def Row (w : World) (g : Nat) (e : TypeId) (cs : List Value) : Prop := w.heap[g]? = some (.cells cs.toArray e (0, 0))
theorem Row.lt {w : World} {g : Nat} {e : TypeId} {cs : List Value} (h : Row w g e cs) : g < w.heap.size := (Array.getElem?_eq_some_iff.1 h).1
theorem Row.cell {w : World} {g : Nat} {e : TypeId} {cs : List Value} (h : Row w g e cs) (j : Nat) : w.cell? ⟨g, j, none⟩ = cs[j]? := by
  rw [cell_of_block h]; simp
theorem Row.frozen {w : World} {g : Nat} {e : TypeId} {cs : List Value} (h : Row w g e cs) (j : Nat) : w.frozen? ⟨g, j, none⟩ = false := by
  simp [World.frozen?, show w.heap[g]? = _ from h]
theorem Row.kept {w w' : World} {row : Option Nat} {g : Nat} {e : TypeId} {cs : List Value} (h : Row w g e cs) (hg : w.grownBy w' row) (hne : some g ≠ row) : Row w' g e cs := (hg.block g h.lt hne).trans h
theorem Row.ext {w w' : World} {g : Nat} {e : TypeId} {cs : List Value} (h : Row w g e cs) (hb : Below w.heap.size w w') : Row w' g e cs := (hb.block g h.lt).trans h
theorem Row.set {w : World} {g : Nat} {e : TypeId} {cs : List Value} (h : Row w g e cs) (j : Nat) (v : Value) : Row (w.setCell ⟨g, j, none⟩ v) g e (cs.set j v) := by
  obtain ⟨hlt, hk⟩ := Array.getElem?_eq_some_iff.1 h
  show (w.heap.modify g _)[g]? = _
  rw [Array.getElem?_eq_getElem (by rw [Array.size_modify]; exact hlt), Array.getElem_modify_self, hk]
  simp
theorem setCell_grown (w : World) (g j : Nat) (v : Value) : w.grownBy (w.setCell ⟨g, j, none⟩ v) (some g) :=
  ⟨rfl, rfl, rfl, (KeepsWalks.setCell w _ v).size, fun k _ hk => Below.heap_setCell _ _ _ k (fun e => hk (by rw [e]))⟩
theorem alloc_grown (w : World) (o : Obj) (row : Option Nat) : w.grownBy (w.alloc o) row := below_grown (below_a1 w o) row
theorem Row.new (w : World) (e : TypeId) (cs : List Value) : Row (w.alloc (.cells cs.toArray e)) w.heap.size e cs := heap_new _ _

theorem madeCells1 (z : Value) (n : Nat) : madeCells #[z] n = (List.replicate n z).toArray := by
  apply Array.ext
  · simp [madeCells]
  · intro i h1 h2
    simp [madeCells, Nat.mod_one]

section
variable {F : Fence} {m : Nat} {w : World} {ops : Array Oper} {rest : List Oper} {o : Oper} {a : Act} {Q : Exit → Act → World → Prop} {t e bytes : Nat}

/-- make of elements of one cell -/
theorem run_make1 {z : Value} (S : SlT t e 1 bytes) (hz : (Try.prog.info? e).map (·.zero) = some (some z)) (h1 : z.cells = #[z]) (n : Nat) (hb : bytes * n ≤ 281474976710656) (hn : n ≤ 1000000000000) :
    (Instr.makeSlice t (.int .i64 n) (.int .i64 n)).run Try.prog w = .ok (.slice (some ⟨w.heap.size, 0, none⟩) n n) (w.alloc (.cells (List.replicate n z).toArray e)) := by
  obtain ⟨i, z', hi, hz', hs, hby, _⟩ := S.hi
  have : z' = z := by rw [hi] at hz; simpa [hz'] using hz
  subst this
  have hmul : ((i.bytes : Int) * (n : Int)) ≤ 281474976710656 := by rw [hby, ← Int.natCast_mul]; omega
  have := run_make (P := Try.prog) w t e i z' S.ht hi hz' .i64 .i64 n n (by omega) (by omega) hmul (by omega)
  rw [this, hs, h1, madeCells1]
  simp

theorem wpList_make1 {z : Value} (S : SlT t e 1 bytes) (hz : (Try.prog.info? e).map (·.zero) = some (some z)) (h1 : z.cells = #[z]) (hgd : o.guard = none) (x y : Operand) (hop : o.op = .makeSlice t x y) (n : Nat) (hx : a.eval x = .int .i64 n) (hy : a.eval y = .int .i64 n)
    (hb : bytes * n ≤ 281474976710656) (hn : n ≤ 1000000000000)
    (h : wpList Try.prog ops Q rest (a.put o.dst (.slice (some ⟨w.heap.size, 0, none⟩) n n)) (w.alloc (.cells (List.replicate n z).toArray e))) : wpList Try.prog ops Q (o :: rest) a w := by
  refine wpList_plain hgd fun K' hK' => ?_
  have hrun := run_make1 (w := w) S hz h1 n hb hn
  unfold Oper.wp
  simp [execOp, hop, hx, hy, hrun, Result.andThen]
  exact hK' _ _ h
theorem wpListIn_make1 {z : Value} (S : SlT t e 1 bytes) (hz : (Try.prog.info? e).map (·.zero) = some (some z)) (h1 : z.cells = #[z]) (hgd : o.guard = none) (x y : Operand) (hop : o.op = .makeSlice t x y) (n : Nat) (hx : a.eval x = .int .i64 n) (hy : a.eval y = .int .i64 n)
    (hb : bytes * n ≤ 281474976710656) (hn : n ≤ 1000000000000)
    (h : wpListIn F m Try.prog ops Q rest (a.put o.dst (.slice (some ⟨w.heap.size, 0, none⟩) n n)) (w.alloc (.cells (List.replicate n z).toArray e))) : wpListIn F m Try.prog ops Q (o :: rest) a w := by
  refine wpListIn_plain hgd fun K' hK' => ?_
  have hrun := run_make1 (w := w) S hz h1 n hb hn
  unfold Oper.wpIn
  refine ⟨by simp [Oper.about, hop], ?_⟩
  rw [Oper.semAt_plain F _ _ (by rw [hop]; intro c hc'; cases hc')]
  simp [execOp, hop, hx, hy, hrun, Result.andThen]
  exact hK' _ _ h
end

theorem slSet : SlT 84 86 1 8 := SlT.mk' (z := .map none) Try.underlying84 (by kernel_rfl) rfl (by decide)

end Go.Proofs.Ytdlcpmjhngfgkaa
