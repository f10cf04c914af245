import Derived.Test.YtjgbkdbkachciaaGreatDoorZ7
import Derived.Deep.MidRow
import Derived.Test.YtjgbkdbkachciaaGreatDoorX6
namespace Go.Proofs.YtjgbkdbkachciaaGreatDoor
open Go.RowKit Go.Shelf
attribute [local go_sem] Oper.semAt_some

/-- an array with some cells in others' places -/
def spl : Array Value → Nat → List Value → Array Value
  | c, _, [] => c
  | c, o, v :: r => spl (c.setIfInBounds o v) (o + 1) r
theorem spl_size : ∀ (vs : List Value) (c : Array Value) (o : Nat), (spl c o vs).size = c.size
  | [], _, _ => rfl
  | v :: r, c, o => by unfold spl; rw [spl_size r]; simp
theorem spl_get : ∀ (vs : List Value) (c : Array Value) (o m : Nat), (spl c o vs)[m]? = if o ≤ m ∧ m < o + vs.length ∧ m < c.size then vs[m - o]? else c[m]?
  | [], c, o, m => by
    rw [if_neg (by simp; omega)]; rfl
  | v :: r, c, o, m => by
    unfold spl
    rw [spl_get r, Array.size_setIfInBounds]
    by_cases h1 : o = m
    · subst h1
      rw [if_neg (by omega)]
      by_cases h2 : o < c.size
      · rw [if_pos (by simp; omega)]; simp [h2]
      · rw [if_neg (by omega)]; simp [h2]
    · rw [Array.getElem?_setIfInBounds_ne h1]
      by_cases h2 : o + 1 ≤ m ∧ m < o + 1 + r.length ∧ m < c.size
      · rw [if_pos h2, if_pos (by simp only [List.length_cons]; omega), show m - o = (m - (o + 1)) + 1 by omega]
        simp
      · rw [if_neg h2, if_neg (by simp only [List.length_cons]; omega)]
theorem setCell_heap {W : World} {g o : Nat} {cur : Array Value} {t : TypeId} {fr : Nat × Nat} (h : W.heap[g]? = some (.cells cur t fr)) (v : Value) : (W.setCell ⟨g, o, none⟩ v).heap[g]? = some (.cells (cur.setIfInBounds o v) t fr) := by
  obtain ⟨hlt, hk⟩ := Array.getElem?_eq_some_iff.1 h
  show (W.heap.modify g _)[g]? = _
  rw [Array.getElem?_eq_getElem (by rw [Array.size_modify]; exact hlt), Array.getElem_modify_self, hk]
  simp
theorem setCells_heap {g : Nat} {t : TypeId} {fr : Nat × Nat} : ∀ (vs : List Value) {W : World} {o : Nat} {cur : Array Value}, W.heap[g]? = some (.cells cur t fr) → (W.setCells g o vs).heap[g]? = some (.cells (spl cur o vs) t fr)
  | [], _, _, _, h => h
  | v :: r, _W, _o, _cur, h => setCells_heap r (setCell_heap h v)
theorem setCells_grown {g : Nat} : ∀ (vs : List Value) (W : World) (o : Nat), W.grownBy (W.setCells g o vs) (some g)
  | [], W, _ => World.grownBy.refl W _
  | v :: r, W, o => (setCell_grown W g o v).trans (setCells_grown r _ _)

/-- one element in another's place -/
theorem OwnS.set {α : Type} {k e : Nat} {enc : α → List Value} {W : World} {base g cap : Nat} {l : List α} (h : OwnS k e enc W base (.slice (some ⟨g, 0, none⟩) l.length cap) l) (hk : ∀ x, (enc x).length = k) (hk0 : 0 < k) {i : Nat} (hi : i < l.length) (y : α) :
    OwnS k e enc (W.setCells g (i * k) (enc y)) base (.slice (some ⟨g, 0, none⟩) l.length cap) (l.set i y) := by
  rcases h.2 with ⟨h0, _⟩ | ⟨g', cap', cur, hv, hb, hg, hc, hm, hs, ht⟩
  · cases h0
  · obtain ⟨rfl, rfl⟩ : g = g' ∧ cap = cap' := by simpa using hv
    refine ⟨flat_len hk _, .inr ⟨g, cap, spl cur (i * k) (enc y), by rw [List.length_set], hb, setCells_heap _ hg, by rw [List.length_set]; exact hc, hm, by rw [spl_size]; exact hs, ?_⟩⟩
    rw [List.length_set]
    refine List.ext_getElem? fun m => ?_
    rw [List.getElem?_take]
    have hfl := flat_len hk (l.set i y)
    rw [List.length_set] at hfl
    by_cases hmn : m < l.length * k
    · rw [if_pos hmn]
      have hmd : m / k * k + m % k = m := by rw [Nat.mul_comm]; exact Nat.div_add_mod m k
      have hmk : m % k < k := Nat.mod_lt _ hk0
      have hq : m / k < l.length := (Nat.div_lt_iff_lt_mul hk0).2 hmn
      have h1 := flat_get hk (l.set i y) (m / k) (m % k) hmk
      have h2 := flat_get hk l (m / k) (m % k) hmk
      rw [hmd] at h1 h2
      rw [h1]
      have hcs : m < cur.size := by
        have : l.length * k ≤ cap * k := Nat.mul_le_mul_right k hc
        omega
      rw [Array.getElem?_toList, spl_get, hk]
      by_cases hqi : m / k = i
      · rw [hqi, List.getElem?_set_self hi, if_pos ⟨by rw [hqi] at hmd; omega, by rw [hqi] at hmd; omega, hcs⟩]
        simp only [Option.bind_some]
        congr 1
        rw [hqi] at hmd; omega
      · rw [List.getElem?_set_ne (fun e => hqi e.symm), ← h2, if_neg ?_, ← ht, List.getElem?_take, if_pos hmn, Array.getElem?_toList]
        intro ⟨h3, h4, _⟩
        apply hqi
        have h5 : (m / k) < i + 1 := (Nat.div_lt_iff_lt_mul hk0).2 (by rw [Nat.succ_mul]; omega)
        have h6 : i ≤ m / k := (Nat.le_div_iff_mul_le hk0).2 (by omega)
        omega
    · rw [if_neg hmn, List.getElem?_eq_none (by omega)]


/-! ### which of two ways an append goes, drawn -/
end Go.Proofs.YtjgbkdbkachciaaGreatDoor

namespace Go.Proofs.YtjgbkdbkachciaaGreatDoor
open Go.RowKit Go.Shelf
attribute [local go_sem] Oper.semAt_some

/-! ### a program put together -/
abbrev IT := Int × Int × Nat
def itE : Option IT → List Value
  | none => [I 0, S [], .slice none 0 0, .slice none 0 0, .slice none 0 0]
  | some it => [I it.1, S [], .slice (some ⟨it.2.2, 0, none⟩) 1 1, .slice none 0 0, .slice none 0 0]
theorem itE_len (x : Option IT) : (itE x).length = 5 := by cases x <;> rfl
abbrev argRow (n : Int) : List Value := [I 1, I 0, I n, S [], .slice none 0 0]
theorem Row.tagk {W W' : World} {row : Option Nat} {g : Nat} {t : TypeId} {cs : List Value} (h : Row W g t cs) (hg : W.grownBy W' row) (hn : NoTag W row t) : Row W' g t cs :=
  h.kept hg fun e => hn g e.symm _ _ h
structure BodyI (W0 : World) (pb fb : Nat) (l : List (Option IT)) (bv : Value) (W : World) : Prop where
  below : Below W0.heap.size W0 W
  hp : W0.heap.size ≤ pb
  hf : W0.heap.size ≤ fb
  prow : Row W pb 27 [.slice none 0 0, .slice (some ⟨fb, 0, none⟩) 1 1]
  frow : Row W fb 52 [S wMain, .slice none 0 0, .slice none 0 0, bv]
  own : OwnS 5 54 itE W W0.heap.size bv l
  arg : ∀ it, some it ∈ l → Row W it.2.2 31 (argRow it.2.1) ∧ W0.heap.size ≤ it.2.2
section
variable {W0 W W' : World} {pb fb : Nat} {l : List (Option IT)} {bv : Value}
theorem BodyI.other {row : Option Nat} (h : BodyI W0 pb fb l bv W) (hg : W.grownBy W' row) (hb : ∀ r, row = some r → W0.heap.size ≤ r) (h1 : NoTag W row 27) (h2 : NoTag W row 52) (h3 : NoTag W row 54) (h4 : NoTag W row 31) : BodyI W0 pb fb l bv W' :=
  ⟨h.below.grown hg h.below.size hb, h.hp, h.hf, h.prow.tagk hg h1, h.frow.tagk hg h2, h.own.tag hg h3, fun it hi => ⟨(h.arg it hi).1.tagk hg h4, (h.arg it hi).2⟩⟩
theorem BodyI.ext (h : BodyI W0 pb fb l bv W) (hg : W.grownBy W' none) : BodyI W0 pb fb l bv W' :=
  h.other hg (fun r e => by cases e) (NoTag.none _ _) (NoTag.none _ _) (NoTag.none _ _) (NoTag.none _ _)
/-- one more behind, and the slice laid -/
theorem BodyI.app {v' : Value} {z : Option IT} (h : BodyI W0 pb fb l bv W) (ho : OwnS 5 54 itE W' W0.heap.size v' (l ++ [z])) (hg : W.grownBy W' bv.ownBlock) (hz : ∀ it, z = some it → Row W it.2.2 31 (argRow it.2.1) ∧ W0.heap.size ≤ it.2.2) :
    BodyI W0 pb fb (l ++ [z]) v' (W'.setCell ⟨fb, 3, none⟩ v') := by
  have hn : ∀ t : TypeId, 54 ≠ t → NoTag W bv.ownBlock t := fun t ht => ownsRow_notag h.own ht
  have hf' := h.frow.tagk hg (hn 52 (by decide))
  have hc := setCell_grown W' fb 3 v'
  refine ⟨(h.below.grown hg h.below.size (fun r e => (ownsRow_base h.own r e).1)).setCell h.hf _, h.hp, h.hf, (h.prow.tagk hg (hn 27 (by decide))).tagk hc (NoTag.box 27 hf' (by decide)), hf'.set 3 v', ho.tag hc (NoTag.box 54 hf' (by decide)), fun it hi => ?_⟩
  rcases List.mem_append.1 hi with hi | hi
  · exact ⟨((h.arg it hi).1.tagk hg (hn 31 (by decide))).tagk hc (NoTag.box 31 hf' (by decide)), (h.arg it hi).2⟩
  · have hz' := hz it (by simpa using (List.mem_singleton.1 hi).symm)
    exact ⟨(hz'.1.tagk hg (hn 31 (by decide))).tagk hc (NoTag.box 31 hf' (by decide)), hz'.2⟩
/-- the last one set -/
theorem BodyI.put {g n cap : Nat} {z : Option IT} {it : IT} (h : BodyI W0 pb fb (l ++ [z]) (.slice (some ⟨g, 0, none⟩) n cap) W) (hn : n = (l ++ [z]).length) (hz : Row W it.2.2 31 (argRow it.2.1) ∧ W0.heap.size ≤ it.2.2) :
    BodyI W0 pb fb (l ++ [some it]) (.slice (some ⟨g, 0, none⟩) n cap) (W.setCells g (l.length * 5) (itE (some it))) := by
  subst hn
  have hs := OwnS.set h.own itE_len (by decide) (i := l.length) (by simp) (some it)
  have hls : (l ++ [z]).set l.length (some it) = l ++ [some it] := by simp
  rw [hls] at hs
  have hg := setCells_grown (itE (some it)) W (l.length * 5) (g := g)
  have hnt : ∀ t : TypeId, 54 ≠ t → NoTag W (some g) t := fun t ht => ownsRow_notag h.own ht
  refine ⟨h.below.grown hg h.below.size (fun r e => by cases e; exact (ownsRow_base h.own g rfl).1), h.hp, h.hf, h.prow.tagk hg (hnt 27 (by decide)), h.frow.tagk hg (hnt 52 (by decide)), hs, fun x hx => ?_⟩
  rcases List.mem_append.1 hx with hx | hx
  · have := h.arg x (List.mem_append_left _ hx)
    exact ⟨this.1.tagk hg (hnt 31 (by decide)), this.2⟩
  · obtain rfl : x = it := by simpa using List.mem_singleton.1 hx
    exact ⟨hz.1.tagk hg (hnt 31 (by decide)), hz.2⟩
end
abbrev itS (it : IT) : LS := .mk it.1 [] [numE it.2.1] [] []
theorem arg_AX {B : Nat → Prop} {W : World} {g : Nat} {n : Int} (h : Row W g 31 (argRow n)) (hB : B g) : AX B W (.slice (some ⟨g, 0, none⟩) 1 1) [numE n] := by
  refine ⟨1, _, _, rfl, by simp [LE.args], .inr ⟨g, 0, rfl, hB, fun i x hx => ?_⟩⟩
  have hx : [numE n][i]? = some x := hx
  match i, hx with
  | 0, hx =>
    obtain rfl : numE n = x := by simpa using hx
    refine ⟨fun j => (argRow n).getD j undef, fun j hj => ?_, rfl, rfl, rfl, rfl, RSlB.nil _ _ _ _⟩
    rw [show 0 + 0 * 5 + j = j by omega, h.cell]
    rcases (by omega : j = 0 ∨ j = 1 ∨ j = 2 ∨ j = 3 ∨ j = 4) with rfl | rfl | rfl | rfl | rfl <;> rfl
  | i + 1, hx => simp at hx
/-- what was put together, as a program -/
theorem BodyI.px {W0 W : World} {pb fb : Nat} {its : List IT} {bv : Value} (h : BodyI W0 pb fb (its.map some) bv W) (hl : its.length ≤ 1000000000) : PX (· < W.heap.size) W (.slice none 0 0) (.slice (some ⟨fb, 0, none⟩) 1 1) ⟨[], [⟨wMain, [], [], its.map itS⟩]⟩ := by
  have hb : RSlB (W0.heap.size ≤ ·) 5 (RS 1 (fun _ => True)) W bv ((its.map some).map fun x : Option IT => itS (x.getD (0, 0, 0))) :=
    h.own.rslB (fun x : Option IT => itS (x.getD (0, 0, 0))) itE_len (by simpa using hl) fun x hx => by
      obtain ⟨it, hit, rfl⟩ := List.mem_map.1 hx
      exact ⟨rfl, rfl, arg_AX (h.arg it hx).1 trivial, RSlB.nil _ _ _ _, RSlB.nil _ _ _ _⟩
  have hm : (its.map some).map (fun x : Option IT => itS (x.getD (0, 0, 0))) = its.map itS := by rw [List.map_map]; rfl
  rw [hm] at hb
  have hs : SX (fun _ => True) W bv (its.map itS) := ⟨1, hb.weak (fun _ _ => trivial) fun _ _ h => h⟩
  refine PX.lt (B := fun _ => True) ⟨RSlB.nil _ _ _ _, _, _, rfl, by simp, .inr ⟨fb, 0, rfl, trivial, fun i x hx => ?_⟩⟩
  match i, hx with
  | 0, hx =>
    obtain rfl : (⟨wMain, [], [], its.map itS⟩ : LF) = x := by simpa using hx
    refine ⟨fun j => [S wMain, .slice none 0 0, .slice none 0 0, bv].getD j undef, fun j hj => ?_, rfl, RSlB.nil _ _ _ _, RSlB.nil _ _ _ _, hs⟩
    rw [show 0 + 0 * 4 + j = j by omega, h.frow.cell]
    rcases (by omega : j = 0 ∨ j = 1 ∨ j = 2 ∨ j = 3) with rfl | rfl | rfl | rfl <;> rfl
  | i + 1, hx => simp at hx
end Go.Proofs.YtjgbkdbkachciaaGreatDoor

namespace Go.Proofs.YtjgbkdbkachciaaGreatDoor
open Go.RowKit Go.Shelf

end Go.Proofs.YtjgbkdbkachciaaGreatDoor
