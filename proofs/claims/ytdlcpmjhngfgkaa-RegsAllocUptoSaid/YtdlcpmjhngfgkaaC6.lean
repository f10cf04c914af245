import Derived.Test.YtdlcpmjhngfgkaaC3
namespace Go.Proofs.Ytdlcpmjhngfgkaa
open Go.RowKit Go.Shelf
attribute [local go_sem] Oper.semAt_some

/-- the values that Backward of blocks hands on -/
abbrev ABlk (w : World) (bl : List LBlock) := { p : Nat × LBlock × Value // bl[p.1]? = some p.2.1 ∧ GBlk w p.2.1 p.2.2 }
def encBlk {w : World} {bl : List LBlock} (p : ABlk w bl) : Array Value := #[.int .i64 (p.1.1 : Int), p.1.2.1.agg p.1.2.2]

set_option maxRecDepth 100000 in
set_option maxHeartbeats 2000000 in
theorem backB1_in (F : Fence) (n : Nat) (h73 : F.fn 73) (hro : F.round = none) (hn : 1 ≤ n) (w0 : World) (l Bs : Nat) (iv : Value) (xs : List LBlock) (hiv : RSl 5 RBlk w0 iv xs) (J Jx : List (ABlk w0 xs) → World → Prop)
    (hY : ∀ pre x W, J pre W → pre.length < xs.length → YieldAt F (n - 1) Try.prog l (encBlk x) W fun e W' =>
      (e = .returned (.bool true) ∧ J (pre ++ [x]) W' ∧ KpB w0.heap.size Bs W W') ∨ (e = .returned (.bool false) ∧ Jx (pre ++ [x]) W'))
    (W : World) (hW : Below w0.heap.size w0 W) (hBs : Boxed W Bs 22 iv) (h0 : J [] W) :
    CallsIn F n Try.prog 73 #[.func (.yield l) #[] #[], .pointer (some ⟨Bs, 0, none⟩)] W fun e W' => (∃ v, e = .returned v) ∧
      ((∃ ys : List (ABlk w0 xs), ys.map (fun p => (p.1.1, p.1.2.1)) = (xs.zipIdx.map fun p => (p.2, p.1)).reverse ∧ J ys W') ∨ (∃ pre, True ∧ Jx pre W')) := by
  obtain ⟨a0, c0, rfl, hlen⟩ := hiv.form
  refine callsIn_of_wp Try.func73 rfl h73 ?_ hro
  simp only [Try.ntmps73, List.size_toArray, List.length_cons, List.length_nil, Nat.reduceAdd, Nat.reduceSub, Array.replicate_succ, Array.replicate_zero, List.push_toArray, List.append_toArray, List.nil_append, List.cons_append]
  have hBW := hBs.cell
  gi_wp2
  gi_loopg [3] xs.length (fun g i wr => ∃ (k : Nat) (ys : List (ABlk w0 xs)), k ≤ xs.length ∧ g = xs.length - k ∧ i = .int .i64 (((xs.length : Int) - k) - 1) ∧ ys.length = k ∧ ys.map (fun p => (p.1.1, p.1.2.1)) = ((xs.zipIdx.map fun p => (p.2, p.1)).reverse).take k ∧ J ys wr ∧ Below w0.heap.size w0 wr ∧ Boxed wr Bs 22 (.slice a0 xs.length c0))
  case atStart => exact ⟨0, [], Nat.zero_le _, rfl, by simp, rfl, by simp, h0, hW, hBs⟩
  case round =>
    obtain ⟨k, ys, hk, hg, rfl, hl, hys, hj, hB, hbx⟩ := hrel
    have HBX := Lib.hid hbx
    have HG := Lib.hid hg
    have HL := Lib.hid hl
    have HYS := Lib.hid hys
    have HJ := Lib.hid hj
    have hBr := hbx.cell
    clear hg hl hys hj hbx
    by_cases hlt : k < xs.length
    · obtain ⟨i, hi⟩ : ∃ i : Nat, (xs.length : Int) - k - 1 = i := ⟨xs.length - k - 1, by omega⟩
      rw [hi]
      have hix : i < xs.length := by omega
      obtain ⟨b1, o1, c1, C, he, hC, h1', h2', h3', h4', h7'⟩ := RSl.at hiv hix
      obtain ⟨rfl, rfl⟩ : a0 = some ⟨b1, o1, none⟩ ∧ c0 = c1 := by simpa using he
      have hcell : ∀ j, j < 5 → wr.cell? ⟨b1, o1 + i * 5 + j, none⟩ = some (C j) := fun j hj => by
        rw [hB.cell (p := ⟨b1, o1 + i * 5 + j, none⟩) (World.block_lt_of_cell? w0 _ (hC j hj))]; exact hC j hj
      have e0 := hcell 0 (by decide)
      have e1 := hcell 1 (by decide); rw [h1'] at e1
      have e2 := hcell 2 (by decide); rw [h2'] at e2
      have e3 := hcell 3 (by decide); rw [h3'] at e3
      have e4 := hcell 4 (by decide); rw [h4'] at e4
      simp only [Nat.add_zero] at e0
      obtain ⟨fn, tmps, assign, body, hyy, hR⟩ := hY ys ⟨(i, xs[i], C 0), List.getElem?_eq_getElem hix, h7'⟩ wr HJ.out (by have := HL.out; omega)
      dsimp only [encBlk] at hyy
      clear hC hcell h1' h2' h3' h4' he
      gi_wp2
      refine hR.mono ?_
      rintro e W3 (⟨rfl, hJ3, hk3⟩ | ⟨rfl, hJx3⟩)
      · have HK3 := Lib.hid hk3
        have HJ3 := Lib.hid hJ3
        clear hk3 hJ3
        gi_wp2
        gi_roundg (xs.length - (k + 1))
        case measure => have := HG.out; omega
        case rel =>
          refine ⟨k + 1, _, by omega, rfl, by congr 1; omega, by simp [HL.out], ?_, HJ3.out, hB.trans HK3.out.1, HK3.out.2.trans HBX.out⟩
          rw [List.map_append, HYS.out, back_take xs hix (by omega)]
          rfl
      · gi_wp2
        refine bodyPost_ret (results_none rfl _ _ _) rfl ?_
        exact ⟨⟨_, rfl⟩, .inr ⟨_, trivial, hJx3⟩⟩
    · have hkl : k = xs.length := by omega
      gi_wp2
      go_end0
      refine ⟨⟨_, rfl⟩, .inl ⟨ys, ?_, HJ.out⟩⟩
      rw [HYS.out, hkl, List.take_of_length_le (by simp)]

theorem backB_stops (F : Fence) (n : Nat) (h73 : F.fn 73) (hro : F.round = none) (hn : 1 ≤ n) (Bs : Nat) (iv : Value) (xs : List LBlock) (w W0 : World) (hb : Below w.heap.size w W0) (hiv : RSl 5 RBlk w iv xs) (hBs : Boxed W0 Bs 22 iv) :
    SeqStopsK F n Try.prog 73 #[.pointer (some ⟨Bs, 0, none⟩)] (encBlk (w := w) (bl := xs)) (KpB w.heap.size Bs) (fun ys => ys.map (fun p => (p.1.1, p.1.2.1)) = (xs.zipIdx.map fun p => (p.2, p.1)).reverse) (fun _ => True) xs.length W0 := fun l J Jx W hW _ _ hY h0 =>
  backB1_in F n h73 hro hn w l Bs iv xs hiv J Jx hY W (hb.trans (hW.mono hb.size)) ((hW.block Bs hBs.lt).trans hBs) h0

set_option maxHeartbeats 1000000 in
theorem backB_any (a : Option Addr) (n c : Nat) (w : World) :
    Calls Try.prog 64 #[.slice a n c] w fun e w' => e = .returned (.func (.func 73) #[] #[.pointer (some ⟨w.heap.size, 0, none⟩)]) ∧ w' = w.alloc (.cells #[.slice a n c] 22) := by
  go_enter Try.func64, Try.ntmps64
  go_wp2
  go_ret
  exact ⟨rfl, rfl⟩

end Go.Proofs.Ytdlcpmjhngfgkaa

namespace Go.Proofs.Ytdlcpmjhngfgkaa
open Go.RowKit Go.Shelf

/-! ### what is wanted, in plain words -/
def aheadS (x : LIns) (S : Int → Prop) : Int → Prop := fun v => v ∈ x.uses ∨ (S v ∧ v ∉ x.sets)
def endS (t : LTerm) (L : Nat → Int → Prop) : Int → Prop := fun v => (∃ k ∈ t.next, L k.toNat v) ∨ v ∈ t.wants
def beginS (b : LBlock) (L : Nat → Int → Prop) : Int → Prop := b.ins.foldr aheadS (endS b.term L)
def ClosedS (bl : List LBlock) (L : Nat → Int → Prop) : Prop := ∀ i b, bl[i]? = some b → ∀ v, beginS b L v → L i v
/-- what is wanted at a block's beginning: what is in whatever is closed -/
def LiveS (bl : List LBlock) (i : Nat) (v : Int) : Prop := ∀ L, ClosedS bl L → L i v

theorem aheadS_mono {x : LIns} {S S' : Int → Prop} (h : ∀ v, S v → S' v) : ∀ v, aheadS x S v → aheadS x S' v := by
  rintro v (h1 | ⟨h1, h2⟩)
  · exact .inl h1
  · exact .inr ⟨h v h1, h2⟩
theorem foldr_mono (l : List LIns) {S S' : Int → Prop} (h : ∀ v, S v → S' v) : ∀ v, l.foldr aheadS S v → l.foldr aheadS S' v := by
  induction l with
  | nil => exact h
  | cons x l ih => exact aheadS_mono ih
theorem endS_mono {t : LTerm} {L L' : Nat → Int → Prop} (h : ∀ i v, L i v → L' i v) : ∀ v, endS t L v → endS t L' v := by
  rintro v (⟨k, hk, h1⟩ | h1)
  · exact .inl ⟨k, hk, h _ _ h1⟩
  · exact .inr h1
theorem beginS_mono {b : LBlock} {L L' : Nat → Int → Prop} (h : ∀ i v, L i v → L' i v) : ∀ v, beginS b L v → beginS b L' v := foldr_mono _ (endS_mono h)
theorem LiveS_closed (bl : List LBlock) : ClosedS bl (LiveS bl) := fun i b hb v hv L hL => hL i b hb v (beginS_mono (fun _j _u hu => hu L hL) v hv)

/-- all that is looked at anywhere -/
def blkUses (b : LBlock) : List Int := b.ins.flatMap LIns.uses ++ b.term.wants
def allUses (bl : List LBlock) : List Int := bl.flatMap blkUses
theorem foldr_uses (l : List LIns) (S U : Int → Prop) (h : ∀ v, S v → U v) (hu : ∀ x ∈ l, ∀ v ∈ x.uses, U v) : ∀ v, l.foldr aheadS S v → U v := by
  induction l with
  | nil => exact h
  | cons x l ih =>
    rintro v (h1 | ⟨h1, _⟩)
    · exact hu x List.mem_cons_self v h1
    · exact ih (fun y hy => hu y (List.mem_cons_of_mem _ hy)) v h1
theorem LiveS_uses {bl : List LBlock} {i : Nat} {v : Int} (h : LiveS bl i v) : v ∈ allUses bl := by
  refine h (fun _ v => v ∈ allUses bl) ?_
  intro i b hb v hv
  have hmem := List.mem_of_getElem? hb
  refine foldr_uses b.ins _ (fun v => v ∈ allUses bl) ?_ ?_ v hv
  · rintro v (⟨k, _, h1⟩ | h1)
    · exact h1
    · exact List.mem_flatMap.2 ⟨b, hmem, List.mem_append_right _ h1⟩
  · intro x hx v hv
    exact List.mem_flatMap.2 ⟨b, hmem, List.mem_append_left _ (List.mem_flatMap.2 ⟨x, hx, hv⟩)⟩

/-- lists as sets of what is wanted -/
def asS (Ls : List (List Int)) : Nat → Int → Prop := fun i v => ∃ l, Ls[i]? = some l ∧ v ∈ l

/-- how the steps go, from behind the last instruction -/
def stepL (x : LIns) (S : List Int) : List Int := insAll x.uses (eraseAll x.sets S)
theorem nodup_stepL {x : LIns} {S : List Int} (h : S.Nodup) : (stepL x S).Nodup := nodup_insAll (nodup_eraseAll h)
theorem mem_stepL {x : LIns} {S : List Int} (h : S.Nodup) {v : Int} : v ∈ stepL x S ↔ aheadS x (· ∈ S) v := by
  unfold stepL aheadS; rw [mem_insAll, mem_eraseAll h]
theorem aheadS_congr {x : LIns} {S S' : Int → Prop} (h : ∀ v, S v ↔ S' v) (v : Int) : aheadS x S v ↔ aheadS x S' v := by unfold aheadS; rw [h v]
theorem nodup_foldl {l : List LIns} {S : List Int} (h : S.Nodup) : (l.foldl (fun s x => stepL x s) S).Nodup := by
  induction l generalizing S with
  | nil => exact h
  | cons x l ih => exact ih (nodup_stepL h)
theorem mem_foldl {l : List LIns} {S : List Int} {S' : Int → Prop} (hn : S.Nodup) (h : ∀ v, v ∈ S ↔ S' v) (v : Int) : v ∈ l.foldl (fun s x => stepL x s) S ↔ l.reverse.foldr aheadS S' v := by
  induction l generalizing S S' with
  | nil => exact h v
  | cons x l ih =>
    rw [List.foldl_cons, List.reverse_cons, List.foldr_append]
    exact ih (nodup_stepL hn) (fun v => by rw [mem_stepL hn]; exact aheadS_congr h v)

def sortL (S : List Int) : List Int := S.mergeSort (fun x y => decide (x ≤ y))
theorem mem_sortL {S : List Int} {v : Int} : v ∈ sortL S ↔ v ∈ S := (List.mergeSort_perm S _).mem_iff

def RisingSaid : Prop := ∀ (b : Nat) (S : List Int) (w : World), SetAt w b (S.map I) → S.Nodup → S.length ≤ 1000000000000 → (∀ x ∈ S, InI x) → Calls Try.prog 47 #[.map (some b)] w (RetInts w (sortL S))

/-- the marks of loops that are over -/
def marks (ds : List Nat) : List Deferred := ds.map fun D => { target := .collected D, args := #[] }

theorem leaves_marks {F : Fence} {n : Nat} {fn : Func} {tmps : Array Value} {R : Ending → World → Prop} : ∀ (ds : List Nat) (w : World), (∀ d ∈ ds, w.heap[d]? = some (.deferred (some []))) → ds.Nodup →
    (∀ w', (∀ k, k ∉ ds → w'.heap[k]? = w.heap[k]?) → w'.heap.size = w.heap.size → w'.os = w.os → w'.tape = w.tape → w'.output = w.output → LeavesInM F n Try.prog fn tmps R [] .returning w') →
    LeavesInM F n Try.prog fn tmps R (marks ds) .returning w
  | [], w, _, _, h => h w (fun _ _ => rfl) rfl rfl rfl rfl
  | d :: ds, w, hd, hn, h => by
    rw [List.nodup_cons] at hn
    have h0 := hd d List.mem_cons_self
    refine ⟨by simp, .inl ⟨d, _, rfl, run_takeDeferred h0, ?_⟩⟩
    refine leaves_marks ds _ (fun e he => ?_) hn.2 (fun w' hw hs ho ht hu => ?_)
    · rw [World.putObj_heap_other (by rintro rfl; exact hn.1 he)]; exact hd e (List.mem_cons_of_mem _ he)
    · refine h w' (fun k hk => ?_) (by rw [hs]; simp) ho ht hu
      rw [hw k (fun h' => hk (List.mem_cons_of_mem _ h')), World.putObj_heap_other (by rintro rfl; exact hk List.mem_cons_self)]

end Go.Proofs.Ytdlcpmjhngfgkaa

namespace Go.Proofs.Ytdlcpmjhngfgkaa
open Go.RowKit Go.Shelf

/-- block g is a row of cells -/
def Row (w : World) (g : Nat) (e : TypeId) (cs : List Value) : Prop := w.heap[g]? = some (.cells cs.toArray e (0, 0))
theorem Row.lt {w : World} {g : Nat} {e : TypeId} {cs : List Value} (h : Row w g e cs) : g < w.heap.size := (Array.getElem?_eq_some_iff.1 h).1
theorem Row.cell {w : World} {g : Nat} {e : TypeId} {cs : List Value} (h : Row w g e cs) (j : Nat) : w.cell? ⟨g, j, none⟩ = cs[j]? := by
  rw [cell_of_block h]; simp
theorem Row.frozen {w : World} {g : Nat} {e : TypeId} {cs : List Value} (h : Row w g e cs) (j : Nat) : w.frozen? ⟨g, j, none⟩ = false := by
  simp [World.frozen?, show w.heap[g]? = _ from h]
theorem Row.kept {w w' : World} {row : Option Nat} {g : Nat} {e : TypeId} {cs : List Value} (h : Row w g e cs) (hg : w.grownBy w' row) (hne : some g ≠ row) : Row w' g e cs := (hg.block g h.lt hne).trans h
theorem Row.ext {w w' : World} {g : Nat} {e : TypeId} {cs : List Value} (h : Row w g e cs) (hb : Below w.heap.size w w') : Row w' g e cs := (hb.block g h.lt).trans h
theorem Row.set {w : World} {g : Nat} {e : TypeId} {cs : List Value} (h : Row w g e cs) (j : Nat) (v : Value) : Row (w.setCell ⟨g, j, none⟩ v) g e (cs.set j v) := by
  obtain ⟨hlt, hk⟩ := Array.getElem?_eq_some_iff.1 h
  show (w.heap.modify g _)[g]? = _
  rw [Array.getElem?_eq_getElem (by rw [Array.size_modify]; exact hlt), Array.getElem_modify_self, hk]
  simp
theorem setCell_grown (w : World) (g j : Nat) (v : Value) : w.grownBy (w.setCell ⟨g, j, none⟩ v) (some g) :=
  ⟨rfl, rfl, rfl, (KeepsWalks.setCell w _ v).size, fun k _ hk => Below.heap_setCell _ _ _ k (fun e => hk (by rw [e]))⟩
theorem alloc_grown (w : World) (o : Obj) (row : Option Nat) : w.grownBy (w.alloc o) row := below_grown (below_a1 w o) row
theorem Row.new (w : World) (e : TypeId) (cs : List Value) : Row (w.alloc (.cells cs.toArray e)) w.heap.size e cs := heap_new _ _

theorem madeCells1 (z : Value) (n : Nat) : madeCells #[z] n = (List.replicate n z).toArray := by
  apply Array.ext
  · simp [madeCells]
  · intro i h1 h2
    simp [madeCells, Nat.mod_one]

section
variable {F : Fence} {m : Nat} {w : World} {ops : Array Oper} {rest : List Oper} {o : Oper} {a : Act} {Q : Exit → Act → World → Prop} {t e bytes : Nat}

/-- make of elements of one cell -/
theorem run_make1 {z : Value} (S : SlT t e 1 bytes) (hz : (Try.prog.info? e).map (·.zero) = some (some z)) (h1 : z.cells = #[z]) (n : Nat) (hb : bytes * n ≤ 281474976710656) (hn : n ≤ 1000000000000) :
    (Instr.makeSlice t (.int .i64 n) (.int .i64 n)).run Try.prog w = .ok (.slice (some ⟨w.heap.size, 0, none⟩) n n) (w.alloc (.cells (List.replicate n z).toArray e)) := by
  obtain ⟨i, z', hi, hz', hs, hby, _⟩ := S.hi
  have : z' = z := by rw [hi] at hz; simpa [hz'] using hz
  subst this
  have hmul : ((i.bytes : Int) * (n : Int)) ≤ 281474976710656 := by rw [hby, ← Int.natCast_mul]; omega
  have := run_make (P := Try.prog) w t e i z' S.ht hi hz' .i64 .i64 n n (by omega) (by omega) hmul (by omega)
  rw [this, hs, h1, madeCells1]
  simp

theorem wpList_make1 {z : Value} (S : SlT t e 1 bytes) (hz : (Try.prog.info? e).map (·.zero) = some (some z)) (h1 : z.cells = #[z]) (hgd : o.guard = none) (x y : Operand) (hop : o.op = .makeSlice t x y) (n : Nat) (hx : a.eval x = .int .i64 n) (hy : a.eval y = .int .i64 n)
    (hb : bytes * n ≤ 281474976710656) (hn : n ≤ 1000000000000)
    (h : wpList Try.prog ops Q rest (a.put o.dst (.slice (some ⟨w.heap.size, 0, none⟩) n n)) (w.alloc (.cells (List.replicate n z).toArray e))) : wpList Try.prog ops Q (o :: rest) a w := by
  refine wpList_plain hgd fun K' hK' => ?_
  have hrun := run_make1 (w := w) S hz h1 n hb hn
  unfold Oper.wp
  simp [execOp, hop, hx, hy, hrun, Result.andThen]
  exact hK' _ _ h
theorem wpListIn_make1 {z : Value} (S : SlT t e 1 bytes) (hz : (Try.prog.info? e).map (·.zero) = some (some z)) (h1 : z.cells = #[z]) (hgd : o.guard = none) (x y : Operand) (hop : o.op = .makeSlice t x y) (n : Nat) (hx : a.eval x = .int .i64 n) (hy : a.eval y = .int .i64 n)
    (hb : bytes * n ≤ 281474976710656) (hn : n ≤ 1000000000000)
    (h : wpListIn F m Try.prog ops Q rest (a.put o.dst (.slice (some ⟨w.heap.size, 0, none⟩) n n)) (w.alloc (.cells (List.replicate n z).toArray e))) : wpListIn F m Try.prog ops Q (o :: rest) a w := by
  refine wpListIn_plain hgd fun K' hK' => ?_
  have hrun := run_make1 (w := w) S hz h1 n hb hn
  unfold Oper.wpIn
  refine ⟨by simp [Oper.about, hop], ?_⟩
  rw [Oper.semAt_plain F _ _ (by rw [hop]; intro c hc'; cases hc')]
  simp [execOp, hop, hx, hy, hrun, Result.andThen]
  exact hK' _ _ h
end

theorem slSet : SlT 84 86 1 8 := SlT.mk' (z := .map none) Try.underlying84 (by kernel_rfl) rfl (by decide)

end Go.Proofs.Ytdlcpmjhngfgkaa
