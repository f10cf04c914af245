import Derived.Test.YtdlcpmjhngfgkaaA1
import Derived.Deep.AppendLies
import Derived.Deep.RegionHeld3
namespace Go.Proofs.Ytdlcpmjhngfgkaa
open Go.RowKit

def OwnInts (w : World) (base : Nat) (v : Value) (l : List Int) : Prop := w.ownsRow base 3 1 v l.length (l.map (Value.int .i64))

def RetInts (w : World) (l : List Int) (e : Ending) (w' : World) : Prop := ∃ v, e = .returned v ∧ OwnInts w' w.heap.size v l ∧ Below w.heap.size w w'

theorem OwnInts.nil (w : World) (base : Nat) : OwnInts w base (.slice none 0 0) [] := ⟨rfl, .inl ⟨rfl, rfl⟩⟩

/-- a new block of ints -/
theorem OwnInts.block {w : World} {base g : Nat} (l : List Int) (hb : base ≤ g) (h : w.heap[g]? = some (.cells (l.map (Value.int .i64)).toArray 3 (0, 0))) (hm : l.length ≤ maxLen) :
    OwnInts w base (.slice (some ⟨g, 0, none⟩) l.length l.length) l :=
  ⟨by simp, .inr ⟨g, l.length, _, rfl, hb, h, Nat.le_refl _, hm, by simp, by simp [List.take_of_length_le]⟩⟩

/-- which blocks an end leads to -/
def nextL (k to els : Int) : List Int := if k = 2 ∧ to ≠ els then [to, els] else if k = 2 ∨ k = 1 then [to] else []
/-- what an end wants itself -/
def wantsL (k a : Int) : List Int := if k = 2 ∨ k = 3 ∨ k = 4 then [a] else []
def setsL (k d : Int) : List Int := if k < 1 ∨ 9 < k ∨ k = 6 ∨ k = 8 then [] else [d]
def setsI (k d : Int) : Int := if k < 1 ∨ 9 < k ∨ k = 6 ∨ k = 8 then -1 else d


theorem heap_new (w : World) (o : Obj) : (w.alloc o).heap[w.heap.size]? = some o := by
  show (w.heap.push o)[w.heap.size]? = _; simp
theorem heap_new2 (w : World) (o o' : Obj) : ((w.alloc o).alloc o').heap[w.heap.size + 1]? = some o' := by
  have := heap_new (w.alloc o) o'; rwa [World.size_alloc] at this

theorem below_a1 (w : World) (o : Obj) : Below w.heap.size w (w.alloc o) := (Below.refl _ w).alloc (Nat.le_refl _) _
theorem below_a2 (w : World) (o o' : Obj) : Below w.heap.size w ((w.alloc o).alloc o') := (below_a1 w o).alloc (by simp) _

theorem RetInts.one {w : World} {o : Obj} {l : List Int} {x : Int} (h : l = [x]) :
    RetInts w l (.returned (.slice (some ⟨w.heap.size + 1, 0, none⟩) 1 1)) ((w.alloc o).alloc (.cells #[.int .i64 x] 3)) := by
  subst h
  exact ⟨_, rfl, OwnInts.block [x] (by simp) (heap_new2 _ _ _) (by simp [maxLen]), below_a2 _ _ _⟩
theorem RetInts.two {w : World} {o : Obj} {l : List Int} {x y : Int} (h : l = [x, y]) :
    RetInts w l (.returned (.slice (some ⟨w.heap.size + 1, 0, none⟩) 2 2)) ((w.alloc o).alloc (.cells #[.int .i64 x, .int .i64 y] 3)) := by
  subst h
  exact ⟨_, rfl, OwnInts.block [x, y] (by simp) (heap_new2 _ _ _) (by simp [maxLen]), below_a2 _ _ _⟩
theorem RetInts.none {w : World} {o : Obj} {l : List Int} (h : l = []) :
    RetInts w l (.returned (.slice none 0 0)) (w.alloc o) := by
  subst h
  exact ⟨_, rfl, OwnInts.nil _ _, below_a1 _ _⟩

set_option maxHeartbeats 1000000 in
theorem next_any (k a to els : Int) (w : World) :
    Calls Try.prog 60 #[.agg #[.int .i64 k, .int .i64 a, .int .i64 to, .int .i64 els]] w (RetInts w (nextL k to els)) := by
  go_enter Try.func60, Try.ntmps60
  go_wp2
  · go_ret
    exact RetInts.two (by simp_all [nextL])
  · go_ret
    exact RetInts.one (by simp_all [nextL])
  · go_ret
    exact RetInts.one (by simp_all [nextL])
  · go_ret
    exact RetInts.none (by simp_all [nextL])

set_option maxHeartbeats 1000000 in
theorem wants_any (k a to els : Int) (w : World) :
    Calls Try.prog 62 #[.agg #[.int .i64 k, .int .i64 a, .int .i64 to, .int .i64 els]] w (RetInts w (wantsL k a)) := by
  go_enter Try.func62, Try.ntmps62
  go_wp2
  all_goals
    go_ret
    first
    | exact RetInts.one (by simp_all [wantsL])
    | exact RetInts.none (by simp_all [wantsL])

set_option maxHeartbeats 1000000 in
theorem sets_any (k d a b op n : Int) (nm : ByteArray) (ag : Value) (w : World) :
    Calls Try.prog 63 #[.agg #[.int .i64 k, .int .i64 d, .int .i64 a, .int .i64 b, .int .i64 op, .int .i64 n, .string nm, ag]] w (RetInts w (setsL k d)) := by
  go_enter Try.func63, Try.ntmps63
  go_wp2
  all_goals
    go_ret
    first
    | (refine RetInts.one ?_; unfold setsL; rw [if_neg]; simp_all; try omega)
    | (refine RetInts.none ?_; unfold setsL; rw [if_pos]; simp_all; try omega)

def placeB (n : Int) : Bool := decide (0 ≤ n) && decide (n < 50000)
set_option maxHeartbeats 1000000 in
theorem place_any (n : Int) (w : World) : Calls Try.prog 59 #[.int .i64 n] w fun e w' => e = .returned (.bool (placeB n)) ∧ w = w' := by
  by_cases h : 0 ≤ n <;> by_cases h2 : n < 50000
  all_goals
    go_enter Try.func59, Try.ntmps59
    go_wp2
    go_ret
    exact ⟨by simp [placeB, *], rfl⟩

end Go.Proofs.Ytdlcpmjhngfgkaa
