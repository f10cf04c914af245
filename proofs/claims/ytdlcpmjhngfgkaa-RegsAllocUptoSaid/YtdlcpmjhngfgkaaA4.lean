import Derived.Test.YtdlcpmjhngfgkaaA1
import Derived.Deep.AppendLies
import Derived.Deep.RegionHeld3
namespace Go.Proofs.Ytdlcpmjhngfgkaa
open Go.RowKit

def OwnInts (w : World) (base : Nat) (v : Value) (l : List Int) : Prop := w.ownsRow base 3 1 v l.length (l.map (Value.int .i64))

def RetInts (w : World) (l : List Int) (e : Ending) (w' : World) : Prop := ∃ v, e = .returned v ∧ OwnInts w' w.heap.size v l ∧ Below w.heap.size w w'

theorem OwnInts.nil (w : World) (base : Nat) : OwnInts w base (.slice none 0 0) [] := ⟨rfl, .inl ⟨rfl, rfl⟩⟩

/-- a new block of ints -/
theorem OwnInts.block {w : World} {base g : Nat} (l : List Int) (hb : base ≤ g) (h : w.heap[g]? = some (.cells (l.map (Value.int .i64)).toArray 3 (0, 0))) (hm : l.length ≤ maxLen) :
    OwnInts w base (.slice (some ⟨g, 0, none⟩) l.length l.length) l :=
  ⟨by simp, .inr ⟨g, l.length, _, rfl, hb, h, Nat.le_refl _, hm, by simp, by simp [List.take_of_length_le]⟩⟩

/-- which blocks an end leads to -/
def nextL (k to els : Int) : List Int := if k = 2 ∧ to ≠ els then [to, els] else if k = 2 ∨ k = 1 then [to] else []
/-- what an end wants itself -/
def wantsL (k a : Int) : List Int := if k = 2 ∨ k = 3 ∨ k = 4 then [a] else []
def setsL (k d : Int) : List Int := if k < 1 ∨ 9 < k ∨ k = 6 ∨ k = 8 then [] else [d]
def setsI (k d : Int) : Int := if k < 1 ∨ 9 < k ∨ k = 6 ∨ k = 8 then -1 else d


theorem heap_new (w : World) (o : Obj) : (w.alloc o).heap[w.heap.size]? = some o := by
  show (w.heap.push o)[w.heap.size]? = _; simp
theorem heap_new2 (w : World) (o o' : Obj) : ((w.alloc o).alloc o').heap[w.heap.size + 1]? = some o' := by
  have := heap_new (w.alloc o) o'; rwa [World.size_alloc] at this

theorem below_a1 (w : World) (o : Obj) : Below w.heap.size w (w.alloc o) := (Below.refl _ w).alloc (Nat.le_refl _) _
theorem below_a2 (w : World) (o o' : Obj) : Below w.heap.size w ((w.alloc o).alloc o') := (below_a1 w o).alloc (by simp) _

theorem RetInts.one {w : World} {o : Obj} {l : List Int} {x : Int} (h : l = [x]) :
    RetInts w l (.returned (.slice (some ⟨w.heap.size + 1, 0, none⟩) 1 1)) ((w.alloc o).alloc (.cells #[.int .i64 x] 3)) := by
  subst h
  exact ⟨_, rfl, OwnInts.block [x] (by simp) (heap_new2 _ _ _) (by simp [maxLen]), below_a2 _ _ _⟩
theorem RetInts.two {w : World} {o : Obj} {l : List Int} {x y : Int} (h : l = [x, y]) :
    RetInts w l (.returned (.slice (some ⟨w.heap.size + 1, 0, none⟩) 2 2)) ((w.alloc o).alloc (.cells #[.int .i64 x, .int .i64 y] 3)) := by
  subst h
  exact ⟨_, rfl, OwnInts.block [x, y] (by simp) (heap_new2 _ _ _) (by simp [maxLen]), below_a2 _ _ _⟩
theorem RetInts.none {w : World} {o : Obj} {l : List Int} (h : l = []) :
    RetInts w l (.returned (.slice none 0 0)) (w.alloc o) := by
  subst h
  exact ⟨_, rfl, OwnInts.nil _ _, below_a1 _ _⟩

set_option maxHeartbeats 1000000 in
theorem next_any (k a to els : Int) (w : World) :
    Calls Try.prog 60 #[.agg #[.int .i64 k, .int .i64 a, .int .i64 to, .int .i64 els]] w (RetInts w (nextL k to els)) := by
  go_enter Try.func60, Try.ntmps60
  go_wp2
  · go_ret
    exact RetInts.two (by simp_all [nextL])
  · go_ret
    exact RetInts.one (by simp_all [nextL])
  · go_ret
    exact RetInts.one (by simp_all [nextL])
  · go_ret
    exact RetInts.none (by simp_all [nextL])

set_option maxHeartbeats 1000000 in
theorem wants_any (k a to els : Int) (w : World) :
    Calls Try.prog 62 #[.agg #[.int .i64 k, .int .i64 a, .int .i64 to, .int .i64 els]] w (RetInts w (wantsL k a)) := by
  go_enter Try.func62, Try.ntmps62
  go_wp2
  all_goals
    go_ret
    first
    | exact RetInts.one (by simp_all [wantsL])
    | exact RetInts.none (by simp_all [wantsL])

set_option maxHeartbeats 1000000 in
theorem sets_any (k d a b op n : Int) (nm : ByteArray) (ag : Value) (w : World) :
    Calls Try.prog 63 #[.agg #[.int .i64 k, .int .i64 d, .int .i64 a, .int .i64 b, .int .i64 op, .int .i64 n, .string nm, ag]] w (RetInts w (setsL k d)) := by
  go_enter Try.func63, Try.ntmps63
  go_wp2
  all_goals
    go_ret
    first
    | (refine RetInts.one ?_; unfold setsL; rw [if_neg]; simp_all; try omega)
    | (refine RetInts.none ?_; unfold setsL; rw [if_pos]; simp_all; try omega)

def placeB (n : Int) : Bool := decide (0 ≤ n) && decide (n < 50000)
set_option maxHeartbeats 1000000 in
theorem place_any (n : Int) (w : World) : Calls Try.prog 59 #[.int .i64 n] w fun e w' => e = .returned (.bool (placeB n)) ∧ w = w' := by
  by_cases h : 0 ≤ n <;> by_cases h2 : n < 50000
  all_goals
    go_enter Try.func59, Try.ntmps59
    go_wp2
    go_ret
    exact ⟨by simp [placeB, *], rfl⟩

end Go.Proofs.Ytdlcpmjhngfgkaa

namespace Go.Proofs.Ytdlcpmjhngfgkaa
open Go.RowKit

theorem havingOf_at (k h : Int) (w : World) (hk : havI k = h) :
    Calls Try.prog 50 #[.int .i64 k] w fun e w' => e = .returned (.int .i64 h) ∧ w = w' := hk ▸ havingOf_any k w

set_option maxHeartbeats 400000 in
theorem has_any (a b : Int) (w : World) :
    Calls Try.prog 51 #[.int .i64 a, .int .i64 b] w fun e w' => e = .returned (.bool (bits BinOp.and IntKind.i64 a b != 0)) ∧ w = w' := by
  go_enter Try.func51, Try.ntmps51
  go_wp2
  go_ret
  exact ⟨rfl, rfl⟩
theorem has_at (a b : Int) (r : Bool) (w : World) (h : (bits BinOp.and IntKind.i64 a b != 0) = r) :
    Calls Try.prog 51 #[.int .i64 a, .int .i64 b] w fun e w' => e = .returned (.bool r) ∧ w = w' := h ▸ has_any a b w

theorem havI_cases (k : Int) : (k = 1 ∧ havI k = 33) ∨ (k = 2 ∧ havI k = 3) ∨ (k = 3 ∧ havI k = 11) ∨ (k = 4 ∧ havI k = 23) ∨ (k = 5 ∧ havI k = 67) ∨
    (k = 6 ∧ havI k = 70) ∨ (k = 7 ∧ havI k = 1) ∨ (k = 8 ∧ havI k = 2) ∨ (k = 9 ∧ havI k = 129) ∨ ((k < 1 ∨ 9 < k) ∧ havI k = 0) := by
  have hk : k = 1 ∨ k = 2 ∨ k = 3 ∨ k = 4 ∨ k = 5 ∨ k = 6 ∨ k = 7 ∨ k = 8 ∨ k = 9 ∨ (k < 1 ∨ 9 < k) := by omega
  rcases hk with rfl | rfl | rfl | rfl | rfl | rfl | rfl | rfl | rfl | h
  · exact .inl ⟨rfl, rfl⟩
  · exact .inr (.inl ⟨rfl, rfl⟩)
  · exact .inr (.inr (.inl ⟨rfl, rfl⟩))
  · exact .inr (.inr (.inr (.inl ⟨rfl, rfl⟩)))
  · exact .inr (.inr (.inr (.inr (.inl ⟨rfl, rfl⟩))))
  · exact .inr (.inr (.inr (.inr (.inr (.inl ⟨rfl, rfl⟩)))))
  · exact .inr (.inr (.inr (.inr (.inr (.inr (.inl ⟨rfl, rfl⟩))))))
  · exact .inr (.inr (.inr (.inr (.inr (.inr (.inr (.inl ⟨rfl, rfl⟩)))))))
  · exact .inr (.inr (.inr (.inr (.inr (.inr (.inr (.inr (.inl ⟨rfl, rfl⟩))))))))
  · refine .inr (.inr (.inr (.inr (.inr (.inr (.inr (.inr (.inr ⟨h, ?_⟩))))))))
    unfold havI
    rw [if_neg (by omega), if_neg (by omega), if_neg (by omega), if_neg (by omega), if_neg (by omega), if_neg (by omega), if_neg (by omega), if_neg (by omega), if_neg (by omega)]

def RetInt (w : World) (x : Int) (e : Ending) (w' : World) : Prop := e = .returned (.int .i64 x) ∧ Below w.heap.size w w'

set_option maxHeartbeats 1000000 in
theorem irSets_any (k d a b op n : Int) (nm : ByteArray) (ag : Value) (w : World) :
    Calls Try.prog 34 #[.agg #[.int .i64 k, .int .i64 d, .int .i64 a, .int .i64 b, .int .i64 op, .int .i64 n, .string nm, ag]] w (RetInt w (setsI k d)) := by
  rcases havI_cases k with ⟨h, g⟩ | ⟨h, g⟩ | ⟨h, g⟩ | ⟨h, g⟩ | ⟨h, g⟩ | ⟨h, g⟩ | ⟨h, g⟩ | ⟨h, g⟩ | ⟨h, g⟩ | ⟨h, g⟩
  all_goals
    have G := Lib.hid g
    have H := Lib.hid h
    clear g h
    go_enter Try.func34, Try.ntmps34
    go_wp2_with (first | (go_at_call 50; refine (havingOf_at _ _ _ G.out).mono ?_; rintro e w' ⟨rfl, rfl⟩) | (go_at_call 51; refine (has_at _ _ true _ (by decide +kernel)).mono ?_; rintro e w' ⟨rfl, rfl⟩) | (go_at_call 51; refine (has_at _ _ false _ (by decide +kernel)).mono ?_; rintro e w' ⟨rfl, rfl⟩))
    go_ret
    refine ⟨ret_int ?_, below_a1 _ _⟩
    have h := H.out
    unfold setsI
    first
    | (rw [if_neg (by omega)]; done)
    | (rw [if_pos (by omega)])

end Go.Proofs.Ytdlcpmjhngfgkaa

namespace Go.Proofs.Ytdlcpmjhngfgkaa
open Go.RowKit

/-- t is a slice type of elements e, of so many cells and bytes -/
structure SlT (t e size bytes : Nat) : Prop where
  ht : Try.prog.underlying t = some (.slice e)
  hi : ∃ i z, Try.prog.info? e = some i ∧ i.zero = some z ∧ i.size = size ∧ i.bytes = bytes ∧ z.cells.size = size
  pos : 0 < size

theorem SlT.mk' {t e size bytes : Nat} {z : Value} (ht : Try.prog.underlying t = some (.slice e)) (h : (Try.prog.info? e).map (fun i => (i.zero, i.size, i.bytes)) = some (some z, size, bytes)) (hz : z.cells.size = size) (hp : 0 < size) : SlT t e size bytes := by
  obtain ⟨i0, hi, hz0, hz1, hz2⟩ := info_parts h
  exact ⟨ht, ⟨i0, z, hi, hz0, hz1, hz2, hz⟩, hp⟩

theorem slInt : SlT 32 3 1 8 := SlT.mk' (z := .int .i64 0) Try.underlying32 (by kernel_rfl) rfl (by decide)
theorem slIns : SlT 42 41 8 88 := SlT.mk' (z := .agg #[.int .i64 0, .int .i64 0, .int .i64 0, .int .i64 0, .int .i64 0, .int .i64 0, .string ByteArray.empty, .slice none 0 0]) Try.underlying42 (by kernel_rfl) rfl (by decide)
theorem slBlock : SlT 22 46 5 56 := SlT.mk' (z := .agg #[.slice none 0 0, .int .i64 0, .int .i64 0, .int .i64 0, .int .i64 0]) Try.underlying22 (by kernel_rfl) rfl (by decide)
theorem slFlow : SlT 28 24 4 56 := SlT.mk' (z := .agg #[.string ByteArray.empty, .int .i64 0, .int .i64 0, .slice none 0 0]) Try.underlying28 (by kernel_rfl) rfl (by decide)
theorem slInts : SlT 58 32 1 24 := SlT.mk' (z := .slice none 0 0) Try.underlying58 (by kernel_rfl) rfl (by decide)

/-- append, at a plain region's list: the source is not empty -/
theorem wpList_app {t e size bytes : Nat} (S : SlT t e size bytes) {w : World} {ops : Array Oper} {rest : List Oper} {o : Oper} {a : Act} {Q : Exit → Act → World → Prop} (hgd : o.guard = none) (s x : Operand)
    (ho : o.op = .call { callee := .builtin .append, args := #[s, x], argTypes := #[t, t] })
    (base : Nat) (v : Value) (n : Nat) (xs : List Value) (hs : a.eval s = v) (hown : w.ownsRow base e size v n xs)
    (ad : Addr) (m c : Nat) (news : List Value) (hx : a.eval x = .slice (some ad) m c) (hl : news.length = m * size) (hnews : ∀ j u, news[j]? = some u → w.cell? (ad.add j) = some u) (h1 : ∀ u ∈ news, u.oneCell' = true)
    (hm : 0 < m) (hbytes : (n + m) * bytes ≤ 140737488355328) (h63 : n + m ≤ maxLen) (hbase : base ≤ w.heap.size)
    (h : ∀ g cap w', w'.ownsRow base e size (.slice (some ⟨g, 0, none⟩) (n + m) cap) (n + m) (xs ++ news) → w.grownBy w' v.ownBlock → (v.ownBlock = some g ∨ g = w.heap.size) → g < w'.heap.size → wpList Try.prog ops Q rest (a.put o.dst (.slice (some ⟨g, 0, none⟩) (n + m) cap)) w') : wpList Try.prog ops Q (o :: rest) a w := by
  obtain ⟨i, z, hi, hz, hsz, hby, hzs⟩ := S.hi
  exact wpList_append_lies w hgd s x t ho base e i z size bytes S.ht hi hz hsz hby hzs S.pos v n xs hs hown ad m c news hx hl hnews h1 hm h63 hbytes hbase w.heap.size rfl h

/-- append of a source that is empty, whatever it is -/
theorem wpList_app0 {t e size bytes : Nat} (S : SlT t e size bytes) {w : World} {ops : Array Oper} {rest : List Oper} {o : Oper} {a : Act} {Q : Exit → Act → World → Prop} (hgd : o.guard = none) (s x : Operand)
    (ho : o.op = .call { callee := .builtin .append, args := #[s, x], argTypes := #[t, t] })
    (base : Nat) (v : Value) (n : Nat) (xs : List Value) (hs : a.eval s = v) (hown : w.ownsRow base e size v n xs)
    (ad : Option Addr) (c : Nat) (hx : a.eval x = .slice ad 0 c)
    (h : wpList Try.prog ops Q rest (a.put o.dst v) w) : wpList Try.prog ops Q (o :: rest) a w := by
  obtain ⟨i, z, hi, hz, hsz, hby, hzs⟩ := S.hi
  refine wpList_plain hgd fun K hK => ?_
  have hrun : (Builtin.append_ #[t, t] o.type #[v, .slice ad 0 c]).run Try.prog w = .ok v w := by
    have hld : ∀ x : Addr, (loadCells x 0).run Try.prog w = .ok #[] w := fun x => by simp [loadCells, loadCellsFrom]
    rcases hown.2 with ⟨rfl, rfl⟩ | ⟨g, cap, cur, rfl, _, _, hnc, _⟩
    · cases ad <;> simp [Builtin.append_, run_underlying S.ht, sizeOf, typeInfo, hi, Builtin.lenOf, Builtin.firstCells, hld]
    · cases ad <;> simp [Builtin.append_, run_underlying S.ht, sizeOf, typeInfo, hi, Builtin.lenOf, Builtin.firstCells, hnc, storeCells, hld]
  unfold Oper.wp
  simp [execOp, ho, resolve, invoke, builtin, hs, hx, hrun, Result.andThen]
  exact hK _ _ h

/-- a slice value reads ys a list, each element of k cells reading by R -/
def RSl {α : Type} (k : Nat) (R : World → (Nat → Value) → α → Prop) (w : World) (v : Value) (l : List α) : Prop :=
  ∃ a c, v = .slice a l.length c ∧ l.length ≤ 140737488351232 ∧ (l = [] ∨ ∃ b o, a = some ⟨b, o, none⟩ ∧
    ∀ i x, l[i]? = some x → ∃ C : Nat → Value, (∀ j, j < k → w.cell? ⟨b, o + i * k + j, none⟩ = some (C j)) ∧ R w C x)

def RInt (_ : World) (C : Nat → Value) (x : Int) : Prop := C 0 = .int .i64 x ∧ InI x
def RInts : World → Value → List Int → Prop := RSl 1 RInt

def UseL (k a b : Int) (ys : List Int) : List Int :=
  if k = 2 ∨ k = 3 ∨ k = 5 ∨ k = 8 then [a] else if k = 4 ∨ k = 6 then [a, b] else if k = 9 then ys else []

theorem RInts.form {w : World} {v : Value} {l : List Int} (h : RInts w v l) : l.length ≤ 140737488351232 ∧ ((l = [] ∧ ∃ a c, v = .slice a 0 c) ∨ (0 < l.length ∧ ∃ b o c, v = .slice (some ⟨b, o, none⟩) l.length c ∧ ∀ j u, (l.map (Value.int .i64))[j]? = some u → w.cell? ⟨b, o + j, none⟩ = some u)) := by
  obtain ⟨a, c, hv, hm, h⟩ := h
  refine ⟨hm, ?_⟩
  rcases h with rfl | ⟨b, o, rfl, h⟩
  · exact .inl ⟨rfl, a, c, hv⟩
  · by_cases hl : l.length = 0
    · have hl' := List.eq_nil_of_length_eq_zero hl
      subst hl'; exact .inl ⟨rfl, _, _, hv⟩
    · refine .inr ⟨by omega, b, o, c, hv, fun j u hu => ?_⟩
      rw [List.getElem?_map] at hu
      cases hx : l[j]? with
      | none => rw [hx] at hu; cases hu
      | some x =>
        rw [hx] at hu
        obtain ⟨C, hC, h0, _⟩ := h j x hx
        have := hC 0 (by decide)
        simp at this hu
        rw [this, h0, hu]

theorem add_nat (b o j : Nat) : (⟨b, o, none⟩ : Addr).add j = ⟨b, o + j, none⟩ := by
  unfold Addr.add; split
  · next h => subst h; rfl
  · rfl


theorem cell_of_block {w : World} {g : Nat} {c : Array Value} {t : TypeId} {fr : Nat × Nat} (h : w.heap[g]? = some (.cells c t fr)) (j : Nat) : w.cell? ⟨g, j, none⟩ = c[j]? := by
  simp [World.cell?, h]

/-- append of one int -/
theorem wpList_app1 {w : World} {ops : Array Oper} {rest : List Oper} {o : Oper} {a : Act} {Q : Exit → Act → World → Prop} (hgd : o.guard = none) (s x : Operand)
    (ho : o.op = .call { callee := .builtin .append, args := #[s, x], argTypes := #[32, 32] })
    (base : Nat) (v : Value) (l : List Int) (hs : a.eval s = v) (hown : OwnInts w base v l)
    (g : Nat) (y : Int) (hx : a.eval x = .slice (some ⟨g, 0, none⟩) 1 1) (hg : w.cell? ⟨g, 0, none⟩ = some (.int .i64 y))
    (hl : l.length ≤ 10000000000000) (hbase : base ≤ w.heap.size)
    (h : ∀ g' cap w', OwnInts w' base (.slice (some ⟨g', 0, none⟩) (l.length + 1) cap) (l ++ [y]) → w.grownBy w' v.ownBlock → (v.ownBlock = some g' ∨ g' = w.heap.size) → g' < w'.heap.size → wpList Try.prog ops Q rest (a.put o.dst (.slice (some ⟨g', 0, none⟩) (l.length + 1) cap)) w') : wpList Try.prog ops Q (o :: rest) a w := by
  refine wpList_app slInt hgd s x ho base v l.length _ hs hown ⟨g, 0, none⟩ 1 1 [.int .i64 y] hx rfl ?_ ?_ (by decide) (by omega) (by unfold maxLen; omega) hbase ?_
  · intro j u hu
    cases j with
    | zero => simp at hu; subst hu; exact hg
    | succ j => simp at hu
  · simp [Value.oneCell']
  · intro g' cap w' h1 h2 h3 h4
    exact h g' cap w' (by unfold OwnInts; rw [List.map_append, List.length_append]; exact h1) h2 h3 h4

/-- append of ints that lie somewhere -/
theorem wpList_appN {w : World} {ops : Array Oper} {rest : List Oper} {o : Oper} {a : Act} {Q : Exit → Act → World → Prop} (hgd : o.guard = none) (s x : Operand)
    (ho : o.op = .call { callee := .builtin .append, args := #[s, x], argTypes := #[32, 32] })
    (base : Nat) (v : Value) (l : List Int) (hs : a.eval s = v) (hown : OwnInts w base v l)
    (xv : Value) (ys : List Int) (hx : a.eval x = xv) (hys : RInts w xv ys)
    (hl : l.length + ys.length ≤ 10000000000000) (hbase : base ≤ w.heap.size)
    (h : ∀ v' w', OwnInts w' base v' (l ++ ys) → w.grownBy w' v.ownBlock → wpList Try.prog ops Q rest (a.put o.dst v') w') : wpList Try.prog ops Q (o :: rest) a w := by
  obtain ⟨hm, ⟨rfl, ad, c, rfl⟩ | ⟨hp, b, of, c, rfl, hc⟩⟩ := hys.form
  · refine wpList_app0 slInt hgd s x ho base v l.length _ hs hown ad c hx ?_
    refine h v w (by simpa using hown) ⟨rfl, rfl, rfl, Nat.le_refl _, fun _ _ _ => rfl⟩
  · refine wpList_app slInt hgd s x ho base v l.length _ hs hown ⟨b, of, none⟩ ys.length c (ys.map (Value.int .i64)) hx (by simp) ?_ ?_ hp (by omega) (by unfold maxLen; omega) hbase ?_
    · intro j u hu; rw [add_nat]; exact hc j u hu
    · intro u hu; obtain ⟨x, _, rfl⟩ := List.mem_map.1 hu; rfl
    · intro g' cap w' h1 h2 h3 h4
      exact h _ w' (by unfold OwnInts; rw [List.map_append, List.length_append]; exact h1) h2

theorem RSl.below {α : Type} {k : Nat} {R : World → (Nat → Value) → α → Prop} (hR : ∀ {w w' : World} {C : Nat → Value} {x : α}, Below w.heap.size w w' → R w C x → R w' C x) {w w' : World} (hb : Below w.heap.size w w') {v : Value} {l : List α} (h : RSl k R w v l) : RSl k R w' v l := by
  obtain ⟨a, c, hv, hm, h⟩ := h
  refine ⟨a, c, hv, hm, h.imp id ?_⟩
  rintro ⟨b, o, ha, h⟩
  refine ⟨b, o, ha, fun i x hx => ?_⟩
  obtain ⟨C, hC, hr⟩ := h i x hx
  refine ⟨C, fun j hj => ?_, hR hb hr⟩
  have := hC j hj
  rw [hb.cell (p := ⟨b, o + i * k + j, none⟩) (World.block_lt_of_cell? w _ this)]
  exact this
theorem RInts.below {w w' : World} (hb : Below w.heap.size w w') {v : Value} {l : List Int} (h : RInts w v l) : RInts w' v l :=
  RSl.below (fun _ h => h) hb h

theorem Below.le {B : Nat} {w w' : World} (h : Below B w w') (hB : w.heap.size ≤ B) : Below w.heap.size w w' := h.mono hB


theorem heap_old (w : World) (o : Obj) {k : Nat} {x : Obj} (h : w.heap[k]? = some x) : (w.alloc o).heap[k]? = some x := by
  rw [Below.heap_alloc w o k (Array.getElem?_eq_some_iff.1 h).1]; exact h
theorem grown_old {w w' : World} {row : Option Nat} (hg : w.grownBy w' row) {k : Nat} {x : Obj} (h : w.heap[k]? = some x) (hr : some k ≠ row) : w'.heap[k]? = some x := by
  rw [hg.block k (Array.getElem?_eq_some_iff.1 h).1 hr]; exact h

theorem below_grown1 {w w' : World} {o o' : Obj} {v : Value} (hg : ((w.alloc o).alloc o').grownBy w' v.ownBlock) (hv : ∀ k, v.ownBlock = some k → w.heap.size ≤ k) : Below w.heap.size w w' :=
  (below_a2 w o o').grown hg (by simp; omega) hv

set_option maxRecDepth 100000 in
set_option maxHeartbeats 1000000 in
theorem uses_any (k d a b op n : Int) (nm : ByteArray) (ag : Value) (ys : List Int) (w : World) (hag : RInts w ag ys) (hsz : ys.length ≤ 1000000000000) :
    Calls Try.prog 36 #[.agg #[.int .i64 k, .int .i64 d, .int .i64 a, .int .i64 b, .int .i64 op, .int .i64 n, .string nm, ag]] w (RetInts w (UseL k a b ys)) := by
  rcases havI_cases k with ⟨h, g⟩ | ⟨h, g⟩ | ⟨h, g⟩ | ⟨h, g⟩ | ⟨h, g⟩ | ⟨h, g⟩ | ⟨h, g⟩ | ⟨h, g⟩ | ⟨h, g⟩ | ⟨h, g⟩
  all_goals
    have G := Lib.hid g
    have H := Lib.hid h
    have HAG := Lib.hid hag
    clear g h hag
    go_enter Try.func36, Try.ntmps36
    go_wp2_with (first
      | (go_at_call 50; refine (havingOf_at _ _ _ G.out).mono ?_; rintro e w' ⟨rfl, rfl⟩)
      | (go_at_call 51; refine (has_at _ _ true _ (by decide +kernel)).mono ?_; rintro e w' ⟨rfl, rfl⟩)
      | (go_at_call 51; refine (has_at _ _ false _ (by decide +kernel)).mono ?_; rintro e w' ⟨rfl, rfl⟩)
      | (at_builtin; refine wpList_app1 rfl (.tmp 9) (.tmp 12) rfl w.heap.size (.slice none 0 0) [] rfl (OwnInts.nil _ _) (w.heap.size + 1) a rfl (by rw [cell_of_block (heap_new2 _ _ _)]; rfl) (by decide) (by simp; omega) ?_; intro g1 cap1 w1 own1 grow1 at1 lt1; have hb1 := grown_old grow1 (heap_old _ _ (heap_new w _)) (by simp [Value.ownBlock]); have hc3 := cell_of_block hb1 3; simp only [List.getElem?_toArray, List.getElem?_cons_succ, List.getElem?_cons_zero] at hc3; have HB1 := Lib.hid hb1; have BEL1 := Lib.hid (below_grown1 grow1 (by simp [Value.ownBlock])); have OWN1 := Lib.hid own1; have GROW1 := Lib.hid grow1; have AT1 := Lib.hid at1; clear own1 grow1 at1 hb1)
      | (at_builtin; refine wpList_app1 rfl (.tmp 16) (.tmp 19) rfl w.heap.size (.slice (some ⟨g1, 0, none⟩) 1 cap1) [a] rfl (World.ownsRow.alloc OWN1.out _) w1.heap.size b rfl (by rw [cell_of_block (heap_new _ _)]; rfl) (by simp) (by have := BEL1.out.size; simp; omega) ?_; intro g2 cap2 w2 own2 grow2 at2 lt2; have OWN2 := Lib.hid own2; have GROW2 := Lib.hid grow2; clear own2 grow2 at2)
      | (at_builtin; refine wpList_appN rfl (.tmp 23) (.tmp 25) rfl w.heap.size (.slice none 0 0) [] rfl (OwnInts.nil _ _) ag ys rfl (HAG.out.below (below_a1 _ _)) (by simp; omega) (by simp) ?_; intro v1 w1 own1 grow1; have OWN1 := Lib.hid own1; have GROW1 := Lib.hid grow1; clear own1 grow1))
  · go_ret
    exact RetInts.none (by simp [UseL, H.out])
  · go_ret
    exact ⟨_, rfl, by simpa [UseL, H.out] using OWN1.out, BEL1.out⟩
  · go_ret
    exact ⟨_, rfl, by simpa [UseL, H.out] using OWN1.out, BEL1.out⟩
  · go_ret
    exact ⟨_, rfl, by simpa [UseL, H.out] using OWN2.out, (BEL1.out.alloc BEL1.out.size _).grown GROW2.out (by have := BEL1.out.size; simp; omega) (by have := AT1.out; simp [Value.ownBlock] at this ⊢; omega)⟩
  · go_ret
    exact ⟨_, rfl, by simpa [UseL, H.out] using OWN1.out, BEL1.out⟩
  · go_ret
    exact ⟨_, rfl, by simpa [UseL, H.out] using OWN2.out, (BEL1.out.alloc BEL1.out.size _).grown GROW2.out (by have := BEL1.out.size; simp; omega) (by have := AT1.out; simp [Value.ownBlock] at this ⊢; omega)⟩
  · go_ret
    exact RetInts.none (by simp [UseL, H.out])
  · go_ret
    exact ⟨_, rfl, by simpa [UseL, H.out] using OWN1.out, BEL1.out⟩
  · go_ret
    exact ⟨_, rfl, by simpa [UseL, H.out] using OWN1.out, (below_a1 _ _).grown GROW1.out (by simp) (by simp [Value.ownBlock])⟩
  · go_ret
    refine RetInts.none ?_
    have := H.out
    unfold UseL
    rw [if_neg (by omega), if_neg (by omega), if_neg (by omega)]

end Go.Proofs.Ytdlcpmjhngfgkaa
