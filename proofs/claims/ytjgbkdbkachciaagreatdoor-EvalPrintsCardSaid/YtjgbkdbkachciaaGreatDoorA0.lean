import Derived.Test.YtjgbkdbkachciaaGreatDoorZ7
import Derived.Deep.MidRow
import Derived.Test.YtjgbkdbkachciaaGreatDoorX6
namespace Go.Proofs.YtjgbkdbkachciaaGreatDoor
open Go.RowKit Go.Shelf
attribute [local go_sem] Oper.semAt_some

/-- an array with some cells in others' places -/
def spl : Array Value → Nat → List Value → Array Value
  | c, _, [] => c
  | c, o, v :: r => spl (c.setIfInBounds o v) (o + 1) r
theorem spl_size : ∀ (vs : List Value) (c : Array Value) (o : Nat), (spl c o vs).size = c.size
  | [], _, _ => rfl
  | v :: r, c, o => by unfold spl; rw [spl_size r]; simp
theorem spl_get : ∀ (vs : List Value) (c : Array Value) (o m : Nat), (spl c o vs)[m]? = if o ≤ m ∧ m < o + vs.length ∧ m < c.size then vs[m - o]? else c[m]?
  | [], c, o, m => by
    rw [if_neg (by simp; omega)]; rfl
  | v :: r, c, o, m => by
    unfold spl
    rw [spl_get r, Array.size_setIfInBounds]
    by_cases h1 : o = m
    · subst h1
      rw [if_neg (by omega)]
      by_cases h2 : o < c.size
      · rw [if_pos (by simp; omega)]; simp [h2]
      · rw [if_neg (by omega)]; simp [h2]
    · rw [Array.getElem?_setIfInBounds_ne h1]
      by_cases h2 : o + 1 ≤ m ∧ m < o + 1 + r.length ∧ m < c.size
      · rw [if_pos h2, if_pos (by simp only [List.length_cons]; omega), show m - o = (m - (o + 1)) + 1 by omega]
        simp
      · rw [if_neg h2, if_neg (by simp only [List.length_cons]; omega)]
theorem setCell_heap {W : World} {g o : Nat} {cur : Array Value} {t : TypeId} {fr : Nat × Nat} (h : W.heap[g]? = some (.cells cur t fr)) (v : Value) : (W.setCell ⟨g, o, none⟩ v).heap[g]? = some (.cells (cur.setIfInBounds o v) t fr) := by
  obtain ⟨hlt, hk⟩ := Array.getElem?_eq_some_iff.1 h
  show (W.heap.modify g _)[g]? = _
  rw [Array.getElem?_eq_getElem (by rw [Array.size_modify]; exact hlt), Array.getElem_modify_self, hk]
  simp
theorem setCells_heap {g : Nat} {t : TypeId} {fr : Nat × Nat} : ∀ (vs : List Value) {W : World} {o : Nat} {cur : Array Value}, W.heap[g]? = some (.cells cur t fr) → (W.setCells g o vs).heap[g]? = some (.cells (spl cur o vs) t fr)
  | [], _, _, _, h => h
  | v :: r, _W, _o, _cur, h => setCells_heap r (setCell_heap h v)
theorem setCells_grown {g : Nat} : ∀ (vs : List Value) (W : World) (o : Nat), W.grownBy (W.setCells g o vs) (some g)
  | [], W, _ => World.grownBy.refl W _
  | v :: r, W, o => (setCell_grown W g o v).trans (setCells_grown r _ _)

/-- one element in another's place -/
theorem OwnS.set {α : Type} {k e : Nat} {enc : α → List Value} {W : World} {base g cap : Nat} {l : List α} (h : OwnS k e enc W base (.slice (some ⟨g, 0, none⟩) l.length cap) l) (hk : ∀ x, (enc x).length = k) (hk0 : 0 < k) {i : Nat} (hi : i < l.length) (y : α) :
    OwnS k e enc (W.setCells g (i * k) (enc y)) base (.slice (some ⟨g, 0, none⟩) l.length cap) (l.set i y) := by
  rcases h.2 with ⟨h0, _⟩ | ⟨g', cap', cur, hv, hb, hg, hc, hm, hs, ht⟩
  · cases h0
  · obtain ⟨rfl, rfl⟩ : g = g' ∧ cap = cap' := by simpa using hv
    refine ⟨flat_len hk _, .inr ⟨g, cap, spl cur (i * k) (enc y), by rw [List.length_set], hb, setCells_heap _ hg, by rw [List.length_set]; exact hc, hm, by rw [spl_size]; exact hs, ?_⟩⟩
    rw [List.length_set]
    refine List.ext_getElem? fun m => ?_
    rw [List.getElem?_take]
    have hfl := flat_len hk (l.set i y)
    rw [List.length_set] at hfl
    by_cases hmn : m < l.length * k
    · rw [if_pos hmn]
      have hmd : m / k * k + m % k = m := by rw [Nat.mul_comm]; exact Nat.div_add_mod m k
      have hmk : m % k < k := Nat.mod_lt _ hk0
      have hq : m / k < l.length := (Nat.div_lt_iff_lt_mul hk0).2 hmn
      have h1 := flat_get hk (l.set i y) (m / k) (m % k) hmk
      have h2 := flat_get hk l (m / k) (m % k) hmk
      rw [hmd] at h1 h2
      rw [h1]
      have hcs : m < cur.size := by
        have : l.length * k ≤ cap * k := Nat.mul_le_mul_right k hc
        omega
      rw [Array.getElem?_toList, spl_get, hk]
      by_cases hqi : m / k = i
      · rw [hqi, List.getElem?_set_self hi, if_pos ⟨by rw [hqi] at hmd; omega, by rw [hqi] at hmd; omega, hcs⟩]
        simp only [Option.bind_some]
        congr 1
        rw [hqi] at hmd; omega
      · rw [List.getElem?_set_ne (fun e => hqi e.symm), ← h2, if_neg ?_, ← ht, List.getElem?_take, if_pos hmn, Array.getElem?_toList]
        intro ⟨h3, h4, _⟩
        apply hqi
        have h5 : (m / k) < i + 1 := (Nat.div_lt_iff_lt_mul hk0).2 (by rw [Nat.succ_mul]; omega)
        have h6 : i ≤ m / k := (Nat.le_div_iff_mul_le hk0).2 (by omega)
        omega
    · rw [if_neg hmn, List.getElem?_eq_none (by omega)]


/-! ### which of two ways an append goes, drawn -/
theorem wp_toss {P : Program} {Q : Exit → Act → World → Prop} {id : Nat} {o0 o1 o2 o3 : Oper} {a : Act} {w : World} (hm : P.follows .mixedOrders = true)
    (h0 : Region.ready .any #[o0, o1, o2, o3] #[false, false, false, false] = [0]) (h1 : Region.ready .any #[o0, o1, o2, o3] #[true, false, false, false] = [1, 2])
    (h2 : Region.ready .any #[o0, o1, o2, o3] #[true, true, false, false] = [2]) (h3 : Region.ready .any #[o0, o1, o2, o3] #[true, false, true, false] = [1])
    (h4 : Region.ready .any #[o0, o1, o2, o3] #[true, true, true, false] = [3]) (h5 : Region.ready .any #[o0, o1, o2, o3] #[true, true, true, true] = [])
    (h : ∀ wd : World, w.grownBy wd none → wpList P #[o0, o1, o2, o3] (QN Q fun a1 w1 =>
      wpList P #[o0, o1, o2, o3] (QN Q fun a2 w2 => wpList P #[o0, o1, o2, o3] (QN Q fun a3 w3 => wpList P #[o0, o1, o2, o3] (QN Q fun a4 w4 => Q .normal a4 w4) [o3] a3 w3) [o2] a2 w2) [o1] a1 w1 ∧
      wpList P #[o0, o1, o2, o3] (QN Q fun a2 w2 => wpList P #[o0, o1, o2, o3] (QN Q fun a3 w3 => wpList P #[o0, o1, o2, o3] (QN Q fun a4 w4 => Q .normal a4 w4) [o3] a3 w3) [o1] a2 w2) [o2] a1 w1) [o0] a wd) :
    (Code.region id #[o0, o1, o2, o3] true).wp P Q a w := by
  refine wp_region_any hm ?_
  have h' := h { w with drawn := w.drawn + 1 } ⟨rfl, rfl, rfl, Nat.le_refl _, fun _ _ _ => rfl⟩
  have e0 : (Array.replicate (#[o0, o1, o2, o3] : Array Oper).size false) = #[false, false, false, false] := rfl
  rw [e0]
  show wpAny P .any #[o0, o1, o2, o3] Q 4 _ a _
  have last : ∀ a3 w3, wpList P #[o0, o1, o2, o3] (QN Q fun a4 w4 => Q .normal a4 w4) [o3] a3 w3 → wpAny P .any #[o0, o1, o2, o3] Q 1 #[true, true, true, false] a3 w3 := by
    intro a3 w3 hh
    refine ⟨fun hr => (by rw [h4] at hr; cases hr), fun i hi => ?_⟩
    rw [h4] at hi
    obtain rfl : i = 3 := by simpa using hi
    refine wpOp_mono (fun a' w' hq => ?_) (wpOp_of_list (o := o3) rfl hh)
    exact ⟨h5, hq⟩
  refine ⟨fun hr => (by rw [h0] at hr; cases hr), fun i hi => ?_⟩
  rw [h0] at hi
  obtain rfl : i = 0 := by simpa using hi
  refine wpOp_mono (fun a1 w1 hq => ?_) (wpOp_of_list (o := o0) rfl h')
  refine ⟨fun hr => (by rw [show (#[false, false, false, false] : Array Bool).setIfInBounds 0 true = #[true, false, false, false] from rfl, h1] at hr; cases hr), fun i hi => ?_⟩
  rw [show (#[false, false, false, false] : Array Bool).setIfInBounds 0 true = #[true, false, false, false] from rfl, h1] at hi
  rcases (by simpa using hi : i = 1 ∨ i = 2) with rfl | rfl
  · refine wpOp_mono (fun a2 w2 hq2 => ?_) (wpOp_of_list (o := o1) rfl hq.1)
    refine ⟨fun hr => (by rw [show ((#[false, false, false, false] : Array Bool).setIfInBounds 0 true).setIfInBounds 1 true = #[true, true, false, false] from rfl, h2] at hr; cases hr), fun i hi => ?_⟩
    rw [show ((#[false, false, false, false] : Array Bool).setIfInBounds 0 true).setIfInBounds 1 true = #[true, true, false, false] from rfl, h2] at hi
    obtain rfl : i = 2 := by simpa using hi
    exact wpOp_mono (fun a3 w3 hq3 => last a3 w3 hq3) (wpOp_of_list (o := o2) rfl hq2)
  · refine wpOp_mono (fun a2 w2 hq2 => ?_) (wpOp_of_list (o := o2) rfl hq.2)
    refine ⟨fun hr => (by rw [show ((#[false, false, false, false] : Array Bool).setIfInBounds 0 true).setIfInBounds 2 true = #[true, false, true, false] from rfl, h3] at hr; cases hr), fun i hi => ?_⟩
    rw [show ((#[false, false, false, false] : Array Bool).setIfInBounds 0 true).setIfInBounds 2 true = #[true, false, true, false] from rfl, h3] at hi
    obtain rfl : i = 1 := by simpa using hi
    exact wpOp_mono (fun a3 w3 hq3 => last a3 w3 hq3) (wpOp_of_list (o := o1) rfl hq2)
end Go.Proofs.YtjgbkdbkachciaaGreatDoor

namespace Go.Proofs.YtjgbkdbkachciaaGreatDoor
open Go.RowKit Go.Shelf
attribute [local go_sem] Oper.semAt_some

/-! ### a program put together -/
abbrev IT := Int × Int × Nat
def itE : Option IT → List Value
  | none => [I 0, S [], .slice none 0 0, .slice none 0 0, .slice none 0 0]
  | some it => [I it.1, S [], .slice (some ⟨it.2.2, 0, none⟩) 1 1, .slice none 0 0, .slice none 0 0]
theorem itE_len (x : Option IT) : (itE x).length = 5 := by cases x <;> rfl
theorem itE_one (x : Option IT) : ∀ u ∈ itE x, u.oneCell' = true := by
  intro u hu
  cases x <;> (simp [itE] at hu; rcases hu with rfl | rfl | rfl | rfl | rfl <;> rfl)
abbrev argRow (n : Int) : List Value := [I 1, I 0, I n, S [], .slice none 0 0]
theorem Row.tagk {W W' : World} {row : Option Nat} {g : Nat} {t : TypeId} {cs : List Value} (h : Row W g t cs) (hg : W.grownBy W' row) (hn : NoTag W row t) : Row W' g t cs :=
  h.kept hg fun e => hn g e.symm _ _ h
structure BodyI (W0 : World) (pb fb : Nat) (l : List (Option IT)) (bv : Value) (W : World) : Prop where
  below : Below W0.heap.size W0 W
  hp : W0.heap.size ≤ pb
  hf : W0.heap.size ≤ fb
  prow : Row W pb 27 [.slice none 0 0, .slice (some ⟨fb, 0, none⟩) 1 1]
  frow : Row W fb 52 [S wMain, .slice none 0 0, .slice none 0 0, bv]
  own : OwnS 5 54 itE W W0.heap.size bv l
  arg : ∀ it, some it ∈ l → Row W it.2.2 31 (argRow it.2.1) ∧ W0.heap.size ≤ it.2.2
section
variable {W0 W W' : World} {pb fb : Nat} {l : List (Option IT)} {bv : Value}
theorem BodyI.other {row : Option Nat} (h : BodyI W0 pb fb l bv W) (hg : W.grownBy W' row) (hb : ∀ r, row = some r → W0.heap.size ≤ r) (h1 : NoTag W row 27) (h2 : NoTag W row 52) (h3 : NoTag W row 54) (h4 : NoTag W row 31) : BodyI W0 pb fb l bv W' :=
  ⟨h.below.grown hg h.below.size hb, h.hp, h.hf, h.prow.tagk hg h1, h.frow.tagk hg h2, h.own.tag hg h3, fun it hi => ⟨(h.arg it hi).1.tagk hg h4, (h.arg it hi).2⟩⟩
theorem BodyI.ext (h : BodyI W0 pb fb l bv W) (hg : W.grownBy W' none) : BodyI W0 pb fb l bv W' :=
  h.other hg (fun r e => by cases e) (NoTag.none _ _) (NoTag.none _ _) (NoTag.none _ _) (NoTag.none _ _)
/-- one more behind, and the slice laid -/
theorem BodyI.app {v' : Value} {z : Option IT} (h : BodyI W0 pb fb l bv W) (ho : OwnS 5 54 itE W' W0.heap.size v' (l ++ [z])) (hg : W.grownBy W' bv.ownBlock) (hz : ∀ it, z = some it → Row W it.2.2 31 (argRow it.2.1) ∧ W0.heap.size ≤ it.2.2) :
    BodyI W0 pb fb (l ++ [z]) v' (W'.setCell ⟨fb, 3, none⟩ v') := by
  have hn : ∀ t : TypeId, 54 ≠ t → NoTag W bv.ownBlock t := fun t ht => ownsRow_notag h.own ht
  have hf' := h.frow.tagk hg (hn 52 (by decide))
  have hc := setCell_grown W' fb 3 v'
  refine ⟨(h.below.grown hg h.below.size (fun r e => (ownsRow_base h.own r e).1)).setCell h.hf _, h.hp, h.hf, (h.prow.tagk hg (hn 27 (by decide))).tagk hc (NoTag.box 27 hf' (by decide)), hf'.set 3 v', ho.tag hc (NoTag.box 54 hf' (by decide)), fun it hi => ?_⟩
  rcases List.mem_append.1 hi with hi | hi
  · exact ⟨((h.arg it hi).1.tagk hg (hn 31 (by decide))).tagk hc (NoTag.box 31 hf' (by decide)), (h.arg it hi).2⟩
  · have hz' := hz it (by simpa using (List.mem_singleton.1 hi).symm)
    exact ⟨(hz'.1.tagk hg (hn 31 (by decide))).tagk hc (NoTag.box 31 hf' (by decide)), hz'.2⟩
/-- the last one set -/
theorem BodyI.put {g n cap : Nat} {z : Option IT} {it : IT} (h : BodyI W0 pb fb (l ++ [z]) (.slice (some ⟨g, 0, none⟩) n cap) W) (hn : n = (l ++ [z]).length) (hz : Row W it.2.2 31 (argRow it.2.1) ∧ W0.heap.size ≤ it.2.2) :
    BodyI W0 pb fb (l ++ [some it]) (.slice (some ⟨g, 0, none⟩) n cap) (W.setCells g (l.length * 5) (itE (some it))) := by
  subst hn
  have hs := OwnS.set h.own itE_len (by decide) (i := l.length) (by simp) (some it)
  have hls : (l ++ [z]).set l.length (some it) = l ++ [some it] := by simp
  rw [hls] at hs
  have hg := setCells_grown (itE (some it)) W (l.length * 5) (g := g)
  have hnt : ∀ t : TypeId, 54 ≠ t → NoTag W (some g) t := fun t ht => ownsRow_notag h.own ht
  refine ⟨h.below.grown hg h.below.size (fun r e => by cases e; exact (ownsRow_base h.own g rfl).1), h.hp, h.hf, h.prow.tagk hg (hnt 27 (by decide)), h.frow.tagk hg (hnt 52 (by decide)), hs, fun x hx => ?_⟩
  rcases List.mem_append.1 hx with hx | hx
  · have := h.arg x (List.mem_append_left _ hx)
    exact ⟨this.1.tagk hg (hnt 31 (by decide)), this.2⟩
  · obtain rfl : x = it := by simpa using List.mem_singleton.1 hx
    exact ⟨hz.1.tagk hg (hnt 31 (by decide)), hz.2⟩
end
abbrev itS (it : IT) : LS := .mk it.1 [] [numE it.2.1] [] []
theorem arg_AX {B : Nat → Prop} {W : World} {g : Nat} {n : Int} (h : Row W g 31 (argRow n)) (hB : B g) : AX B W (.slice (some ⟨g, 0, none⟩) 1 1) [numE n] := by
  refine ⟨1, _, _, rfl, by simp [LE.args], .inr ⟨g, 0, rfl, hB, fun i x hx => ?_⟩⟩
  have hx : [numE n][i]? = some x := hx
  match i, hx with
  | 0, hx =>
    obtain rfl : numE n = x := by simpa using hx
    refine ⟨fun j => (argRow n).getD j undef, fun j hj => ?_, rfl, rfl, rfl, rfl, RSlB.nil _ _ _ _⟩
    rw [show 0 + 0 * 5 + j = j by omega, h.cell]
    rcases (by omega : j = 0 ∨ j = 1 ∨ j = 2 ∨ j = 3 ∨ j = 4) with rfl | rfl | rfl | rfl | rfl <;> rfl
  | i + 1, hx => simp at hx
/-- what was put together, as a program -/
theorem BodyI.px {W0 W : World} {pb fb : Nat} {its : List IT} {bv : Value} (h : BodyI W0 pb fb (its.map some) bv W) (hl : its.length ≤ 1000000000) : PX (· < W.heap.size) W (.slice none 0 0) (.slice (some ⟨fb, 0, none⟩) 1 1) ⟨[], [⟨wMain, [], [], its.map itS⟩]⟩ := by
  have hb : RSlB (W0.heap.size ≤ ·) 5 (RS 1 (fun _ => True)) W bv ((its.map some).map fun x : Option IT => itS (x.getD (0, 0, 0))) :=
    h.own.rslB (fun x : Option IT => itS (x.getD (0, 0, 0))) itE_len (by simpa using hl) fun x hx => by
      obtain ⟨it, hit, rfl⟩ := List.mem_map.1 hx
      exact ⟨rfl, rfl, arg_AX (h.arg it hx).1 trivial, RSlB.nil _ _ _ _, RSlB.nil _ _ _ _⟩
  have hm : (its.map some).map (fun x : Option IT => itS (x.getD (0, 0, 0))) = its.map itS := by rw [List.map_map]; rfl
  rw [hm] at hb
  have hs : SX (fun _ => True) W bv (its.map itS) := ⟨1, hb.weak (fun _ _ => trivial) fun _ _ h => h⟩
  refine PX.lt (B := fun _ => True) ⟨RSlB.nil _ _ _ _, _, _, rfl, by simp, .inr ⟨fb, 0, rfl, trivial, fun i x hx => ?_⟩⟩
  match i, hx with
  | 0, hx =>
    obtain rfl : (⟨wMain, [], [], its.map itS⟩ : LF) = x := by simpa using hx
    refine ⟨fun j => [S wMain, .slice none 0 0, .slice none 0 0, bv].getD j undef, fun j hj => ?_, rfl, RSlB.nil _ _ _ _, RSlB.nil _ _ _ _, hs⟩
    rw [show 0 + 0 * 4 + j = j by omega, h.frow.cell]
    rcases (by omega : j = 0 ∨ j = 1 ∨ j = 2 ∨ j = 3) with rfl | rfl | rfl | rfl <;> rfl
  | i + 1, hx => simp at hx
end Go.Proofs.YtjgbkdbkachciaaGreatDoor

namespace Go.Proofs.YtjgbkdbkachciaaGreatDoor
open Go.RowKit Go.Shelf

theorem flat_one (x : LS) (ht : x.thn = []) (he : x.els = []) (hk : x.kind = 7 ∨ x.kind = 8) : flatS false x = [(x, false)] := by
  obtain ⟨k, n, a, t, e⟩ := x
  simp only [LS.thn, LS.els] at ht he
  subst ht he
  simp [flatS, flatSs]
theorem flat_all : ∀ (l : List LS), (∀ x ∈ l, x.thn = [] ∧ x.els = [] ∧ (x.kind = 7 ∨ x.kind = 8)) → flatSs false l = l.map fun x => (x, false)
  | [], _ => by rw [flatSs]; rfl
  | x :: l, h => by
    have hx := h x (by simp)
    rw [flatSs, flat_one x hx.1 hx.2.1 hx.2.2, flat_all l (fun y hy => h y (by simp [hy]))]
    rfl
theorem stmtJ_num (p : LP) {k : Int} (hk : k = 7 ∨ k = 8) (n : Int) : stmtJ p [] false (.mk k [] [numE n] [] []) = 0 := by
  rcases hk with rfl | rfl <;> simp [stmtJ, stmtO, exprsJ, exprJ, ownI, LS.kind, LS.args, LE.kind]
theorem pP_runs (l : List Int) (c : Int) (hl : ∀ x ∈ l, 0 ≤ x) (hc : 0 ≤ c) : Runs (pP l c) := by
  have hmem : ∀ x ∈ l.map prS ++ [rtS c], ∃ k n, (k = 7 ∨ k = 8) ∧ 0 ≤ n ∧ x = .mk k [] [numE n] [] [] := by
    intro x hx
    rcases List.mem_append.1 hx with hx | hx
    · obtain ⟨n, hn, rfl⟩ := List.mem_map.1 hx
      exact ⟨8, n, .inr rfl, hl n hn, rfl⟩
    · exact ⟨7, c, .inl rfl, hc, List.mem_singleton.1 hx⟩
  refine main_runs _ (fun x hx => ?_) ?_ (fun x hx => ?_)
  · obtain ⟨k, n, hk, hn, rfl⟩ := hmem x hx
    exact one_okS hk _ (num_okE n hn 39) 39
  · unfold functionJ
    show (if twiceB ([] ++ []) || ([] ++ [] : List Str).any _ then (50 : Int) else firstI _ (flatSs false (l.map prS ++ [rtS c]))) = 0
    have tw : twiceB ([] : List Str) = false := by decide +kernel
    rw [if_neg (by rw [List.append_nil, tw]; simp), flat_all _ (fun x hx => by obtain ⟨k, n, hk, hn, rfl⟩ := hmem x hx; exact ⟨rfl, rfl, hk⟩)]
    refine firstI_none fun j hj => ?_
    rw [List.getElem_map]
    obtain ⟨k, n, hk, hn, hx⟩ := hmem _ (List.getElem_mem (by simpa using hj : j < (l.map prS ++ [rtS c]).length))
    rw [hx]
    exact stmtJ_num _ hk n
  · obtain ⟨k, n, hk, hn, rfl⟩ := hmem x hx
    exact one_YS _ hk _ (num_XE _ n)
end Go.Proofs.YtjgbkdbkachciaaGreatDoor

namespace Go.Proofs.YtjgbkdbkachciaaGreatDoor
open Go.RowKit Go.Shelf
attribute [local go_sem] Oper.semAt_some

/-- an element's cells are there -/
theorem OwnS.there {W : World} {base g n cap : Nat} {l : List (Option IT)} (h : OwnS 5 54 itE W base (.slice (some ⟨g, 0, none⟩) n cap) l) {i : Nat} (hi : i < n) : W.there g (i * 5) 5 := by
  rcases h.2 with ⟨h0, _⟩ | ⟨g', cap', cur, hv, _, hg, hc, _, hs, _⟩
  · cases h0
  · obtain ⟨hgg, hnl, hcc⟩ := Value.slice.inj hv
    have hgg : g = g' := by simpa using hgg
    subst hgg hnl hcc
    intro j hj
    have hlt : i * 5 + j < cur.size := by rw [hs]; have : (i + 1) * 5 ≤ cap * 5 := Nat.mul_le_mul_right 5 (by omega); omega
    exact ⟨by rw [cell_of_block hg, Array.getElem?_eq_getElem hlt]; rfl, (show Row W g 54 cur.toList from by unfold Row; simpa using hg).frozen _⟩
abbrev pk62 (x : Int) : Int := pickI x 4611686018427387904
set_option maxRecDepth 100000 in
set_option maxHeartbeats 32000000 in
theorem prints_any (W : World) (lv : Value) (ls : List Int) (code : Int) (hl : RInts W lv ls) (hc : InI code) :
    Calls Tryz.prog 8 #[lv, I code] W fun e w' => e = .returned (.bool true) ∧ Below W.heap.size W w' := by
  obtain ⟨a0, c0, rfl⟩ : ∃ a c, lv = .slice a ls.length c := by obtain ⟨a, c, h, _⟩ := hl; exact ⟨a, c, h⟩
  obtain ⟨L, hL⟩ : ∃ n, n = ls.length := ⟨_, rfl⟩
  have hLm : L ≤ 140737488351232 := by rw [hL]; exact hl.form.1
  rw [← hL]
  rw [← hL] at hl
  have HLL := Lib.hid hL
  have HL := Lib.hid hl
  have HC := Lib.hid hc
  have HAW := Lib.hid (awake_any W)
  clear hl hc hL
  go_enter Tryz.func8, Tryz.ntmps8
  go_upto_region 2 with (first
    | (go_at_call 11; refine HAW.out.mono ?_; rintro e' w1 ⟨rfl, hb1⟩; have HB1 := Lib.hid hb1; clear hb1))
  go_upto_region 3 with (fail)
  obtain ⟨w2, hw2⟩ : ∃ w2, w2 = (w1.alloc (.cells #[S wMain, .slice none 0 0, .slice none 0 0, .slice none 0 0] 52)).alloc (.cells #[.slice none 0 0, .slice (some ⟨w1.heap.size, 0, none⟩) 1 1] 27) := ⟨_, rfl⟩
  obtain ⟨fb, hfb⟩ : ∃ n, n = w1.heap.size := ⟨_, rfl⟩
  obtain ⟨pb, hpb⟩ : ∃ n, n = w1.heap.size + 1 := ⟨_, rfl⟩
  have hbi : BodyI w1 pb fb [] (.slice none 0 0) w2 := by
    refine ⟨by rw [hw2]; exact below_a2 _ _ _, by omega, by omega, ?_, ?_, OwnS.nil, fun it hi => by cases hi⟩
    · rw [hw2, hpb, hfb]; exact heap_at (by simp)
    · rw [hw2, hfb]; exact heap_old _ _ (heap_new _ _)
  have hnpf : pb ≠ fb := by omega
  change Code.wp _ _ _ _ ((w1.alloc (.cells #[S wMain, .slice none 0 0, .slice none 0 0, .slice none 0 0] 52)).alloc (.cells #[.slice none 0 0, .slice (some ⟨w1.heap.size, 0, none⟩) 1 1] 27))
  rw [← hw2, ← hpb]
  try rw [← hfb]
  have HBI := Lib.hid hbi
  have HFB := Lib.hid hfb
  have HPB := Lib.hid hpb
  clear hw2 hbi hfb hpb
  obtain ⟨N, hN⟩ : ∃ N, N = min L 20 := ⟨_, rfl⟩
  have hN1 : N ≤ 20 := by omega
  have hN2 : N ≤ L := by omega
  have HN := Lib.hid hN
  clear hN
  go_upto_region 5 with (fail)
  go_loopg [7, 8] N (fun gh v i wr => ∃ k : Nat, gh + k = N ∧ i = I k ∧ Hid (∃ (bv : Value) (its : List IT), BodyI w1 pb fb (its.map some) bv wr ∧ its.map itS = ((ls.take k).map pk62).map prS ∧ its.length = k ∧ OwnInts wr w1.heap.size v ((ls.take k).map pk62)))
  case atStart => exact ⟨0, rfl, rfl, Lib.hid ⟨_, [], HBI.out, rfl, rfl, ⟨rfl, .inl ⟨rfl, rfl⟩⟩⟩⟩
  case round =>
    obtain ⟨k, hg, rfl, HH⟩ := hrel
    obtain ⟨wo, rfl⟩ : ∃ wo, wo = wr := ⟨_, rfl⟩
    obtain ⟨bv, its, hbi, hit, hil, how⟩ := HH.out
    by_cases hlt : k < N
    · have hltz : (k : Int) < (L : Int) := by omega
      have hltz2 : (k : Int) < (20 : Int) := by omega
      have hkl : k < ls.length := by rw [← HLL.out]; omega
      obtain ⟨b, o, c, hsl, hcell, hin⟩ := (RInts.below (HB1.out.trans (hbi.below.mono HB1.out.size)) (show RInts W (.slice a0 ls.length c0) ls by rw [← HLL.out]; exact HL.out)).at hkl
      obtain ⟨rfl, -, rfl⟩ := Value.slice.inj hsl
      obtain ⟨x, hx⟩ : ∃ x, x = ls[k] := ⟨_, rfl⟩
      rw [← hx] at hcell hin
      have htk : ls.take (k + 1) = ls.take k ++ [x] := by rw [List.take_succ_eq_append_getElem hkl, ← hx]
      have hpk := pick15_any x 4611686018427387904 hin (by decide) (by decide) wo
      obtain ⟨y, hy⟩ : ∃ y, y = pk62 x := ⟨_, rfl⟩
      rw [show pickI x 4611686018427387904 = y from hy.symm] at hpk
      obtain ⟨ns, hns⟩ : ∃ l, l = (ls.take k).map pk62 := ⟨_, rfl⟩
      have hnl : ns.length = k := by rw [hns, List.length_map, List.length_take]; omega
      rw [← hns] at how hit
      have HPK := Lib.hid hpk
      have HTK := Lib.hid htk
      have HY := Lib.hid hy
      have HNS := Lib.hid hns
      have HNL := Lib.hid hnl
      have HBO := Lib.hid hbi
      have HIT := Lib.hid hit
      have HIL := Lib.hid hil
      have HOW := Lib.hid how
      clear hsl hin hx htk hpk hy hns hnl hbi hit hil how HH
      go_upto_region 8 with (first
        | (go_at_call 15; refine HPK.out.mono ?_; rintro e' w3 ⟨rfl, rfl⟩))
      have HOA := Lib.hid (HOW.out.kept (alloc_grown w3 (.cells #[I y] 3) none) (fun r e => by cases e))
      have hcn : (w3.alloc (.cells #[I y] 3)).cell? ⟨w3.heap.size, 0, none⟩ = some (.int .i64 y) := by rw [cell_of_block (heap_new w3 (.cells #[I y] 3))]; rfl
      have HCN := Lib.hid hcn
      have hbs : w1.heap.size ≤ (w3.alloc (.cells #[I y] 3)).heap.size := by have := HBO.out.below.size; simp; omega
      have hll : ns.length ≤ 10000000000000 := by rw [HNL.out]; omega
      have HBS := Lib.hid hbs
      have HLLn := Lib.hid hll
      clear hcn hbs hll hcell
      go_upto_region 9 with (first
        | (at_builtin; refine wpList_app1 rfl _ _ rfl w1.heap.size u7 ns rfl HOA.out w3.heap.size y rfl HCN.out HLLn.out HBS.out ?_; intro g' cap' w6 ho6 hg6 hat6 hlt6; have HO6 := Lib.hid ho6; have HG6 := Lib.hid hg6; clear ho6 hg6 hat6))
      have hnt : ∀ t : TypeId, 3 ≠ t → NoTag (w3.alloc (.cells #[I y] 3)) u7.ownBlock t := fun t ht => ownsRow_notag HOA.out ht
      have hbi6 : BodyI w1 pb fb (its.map some) bv w6 := (HBO.out.ext (alloc_grown w3 (.cells #[I y] 3) none)).other HG6.out (fun r e => (ownsRow_base HOA.out r e).1) (hnt 27 (by decide)) (hnt 52 (by decide)) (hnt 54 (by decide)) (hnt 31 (by decide))
      have HB6 := Lib.hid hbi6
      clear hnt hbi6
      refine wp_toss (by kernel_rfl) (by kernel_rfl) (by kernel_rfl) (by kernel_rfl) (by kernel_rfl) (by kernel_rfl) (by kernel_rfl) ?_
      intro wd hgd
      have HBD := Lib.hid (HB6.out.ext hgd)
      have HOD := Lib.hid (HO6.out.kept hgd (fun r e => by cases e))
      clear hgd
      go_wp2
      refine QN_normal ⟨?_, ?_⟩
      · go_wp2
        refine QN_normal ?_
        go_wp2
        refine QN_normal ?_
        go_wp2
        refine QN_normal ?_
        have hg7 := alloc_grown wd (.cells #[.bool false] 4) none
        obtain ⟨w7, hw7⟩ : ∃ w, w = wd.alloc (.cells #[.bool false] 4) := ⟨_, rfl⟩
        rw [← hw7] at hg7
        have HB7 := Lib.hid (HBD.out.ext hg7)
        have HO7 := Lib.hid (HOD.out.kept hg7 (fun r e => by cases e))
        rw [← hw7]
        clear hw7 hg7
        go_upto_region 12 with (fail)
        have hbs7 := HB7.out
        obtain ⟨ba, bc, hbv⟩ := hbs7.own.slice
        rw [hbv] at hbs7
        obtain ⟨bn, hbn⟩ : ∃ n, n = (its.map some).length := ⟨_, rfl⟩
        rw [← hbn] at hbs7
        have HB7' := Lib.hid hbs7
        have HBN := Lib.hid hbn
        clear hbs7 hbn
        refine wp_region_ordV (by kernel_rfl) (fun X => X.cell? ⟨pb, 1, none⟩ = some (.slice (some ⟨fb, 0, none⟩) 1 1) ∧ X.cell? ⟨fb, 3, none⟩ = some (.slice ba bn bc)) [(0, 0), (0, 1), (0, 2), (0, 3), (0, 4), (0, 5), (0, 6), (0, 7), (0, 8), (1, 9), (0, 10), (1, 11), (1, 12), (0, 13), (0, 14), (2, 15)] (by kernel_rfl) ?hS12 ?_
        case hS12 => intro wd hh; exact ⟨row_at HB7'.out.prow hh 1, row_at HB7'.out.frow hh 3⟩
        intro we hh hgd hS
        have HBE := Lib.hid (HB7'.out.ext hgd)
        have HOE := Lib.hid (HO7.out.kept hgd (fun r e => by cases e))
        clear hh hgd
        simp only [pickOps, List.map_cons, List.map_nil, List.getElem?_cons_zero, List.getElem?_cons_succ, Option.getD_some]
        repeat (first | (refine wpOrd_pass (by rfl) (by assumption) (fun _ _ _ h => h) ?_; simp only [Act.put, List.setIfInBounds_toArray, List.set_cons_zero, List.set_cons_succ]) | (refine wpOrd_look (v := ?_) (by rfl) ?_ (by assumption) (fun _ _ _ h => h) ?_; rotate_left; (· (intro wS hSw; (try dsimp only at hSw); go_simp; (first | done | with_reducible rfl))); simp only [Act.put, List.setIfInBounds_toArray, List.set_cons_zero, List.set_cons_succ]))
        refine wpOrd_turn ?_
        go_wp2
        have hga := alloc_grown we (.cells #[I 1, I 0, I y, S [], .slice none 0 0] 31) none
        have hra : Row (we.alloc (.cells #[I 1, I 0, I y, S [], .slice none 0 0] 31)) we.heap.size 31 (argRow y) := heap_new _ _
        obtain ⟨x1, hx1⟩ : ∃ w, w = we.alloc (.cells #[I 1, I 0, I y, S [], .slice none 0 0] 31) := ⟨_, rfl⟩
        obtain ⟨ag, hag⟩ : ∃ n, n = we.heap.size := ⟨_, rfl⟩
        rw [← hx1] at hga hra
        rw [← hag] at hra
        have hb1' := HBE.out.ext hga
        have ho1 := HOE.out.kept hga (fun r e => by cases e)
        have hbel := HBE.out.below.size
        refine QN_keep ?_ fun hS => ?_
        · exact (show (we.alloc (.cells #[I 1, I 0, I y, S [], .slice none 0 0] 31)).cell? ⟨pb, 1, none⟩ = _ ∧ (we.alloc (.cells #[I 1, I 0, I y, S [], .slice none 0 0] 31)).cell? ⟨fb, 3, none⟩ = _ from by rw [← hx1]; exact ⟨hb1'.prow.cell 1, hb1'.frow.cell 3⟩)
        change wpOrd _ _ _ _ _ _ (we.alloc (.cells #[I 1, I 0, I y, S [], .slice none 0 0] 31))
        replace hS : x1.cell? ⟨pb, 1, none⟩ = some (.slice (some ⟨fb, 0, none⟩) 1 1) ∧ x1.cell? ⟨fb, 3, none⟩ = some (.slice ba bn bc) := by rw [hx1]; exact hS
        rw [← hx1, ← hag]
        have HX1B := Lib.hid hb1'
        have HX1O := Lib.hid ho1
        have HRA := Lib.hid hra
        have HAGB := Lib.hid (show w1.heap.size ≤ ag by rw [hag]; exact hbel)
        clear hx1 hag hga hra hb1' ho1 hbel
        repeat (first | (refine wpOrd_pass (by rfl) (by assumption) (fun _ _ _ h => h) ?_; simp only [Act.put, List.setIfInBounds_toArray, List.set_cons_zero, List.set_cons_succ]) | (refine wpOrd_look (v := ?_) (by rfl) ?_ (by assumption) (fun _ _ _ h => h) ?_; rotate_left; (· (intro wS hSw; (try dsimp only at hSw); go_simp; (first | done | with_reducible rfl))); simp only [Act.put, List.setIfInBounds_toArray, List.set_cons_zero, List.set_cons_succ]))
        refine wpOrd_turn ?_
        go_wp2
        have hgb := alloc_grown x1 (.cells #[I 8, S [], .slice (some ⟨ag, 0, none⟩) 1 1, .slice none 0 0, .slice none 0 0] 54) none
        obtain ⟨x2, hx2⟩ : ∃ w, w = x1.alloc (.cells #[I 8, S [], .slice (some ⟨ag, 0, none⟩) 1 1, .slice none 0 0, .slice none 0 0] 54) := ⟨_, rfl⟩
        have hsb : Row x2 x1.heap.size 54 (itE (some (8, y, ag))) := by rw [hx2]; exact heap_new _ _
        rw [← hx2] at hgb
        have hb2' := HX1B.out.ext hgb
        have ho2 := HX1O.out.kept hgb (fun r e => by cases e)
        have hra2 := HRA.out.kept hgb (by simp)
        have hbel := HX1B.out.below.size
        refine QN_keep ?_ fun hS => ?_
        · exact (show (x1.alloc (.cells #[I 8, S [], .slice (some ⟨ag, 0, none⟩) 1 1, .slice none 0 0, .slice none 0 0] 54)).cell? ⟨pb, 1, none⟩ = _ ∧ (x1.alloc (.cells #[I 8, S [], .slice (some ⟨ag, 0, none⟩) 1 1, .slice none 0 0, .slice none 0 0] 54)).cell? ⟨fb, 3, none⟩ = _ from by rw [← hx2]; exact ⟨hb2'.prow.cell 1, hb2'.frow.cell 3⟩)
        change wpOrd _ _ _ _ _ _ (x1.alloc (.cells #[I 8, S [], .slice (some ⟨ag, 0, none⟩) 1 1, .slice none 0 0, .slice none 0 0] 54))
        replace hS : x2.cell? ⟨pb, 1, none⟩ = some (.slice (some ⟨fb, 0, none⟩) 1 1) ∧ x2.cell? ⟨fb, 3, none⟩ = some (.slice ba bn bc) := by rw [hx2]; exact hS
        rw [← hx2]
        have HX2B := Lib.hid hb2'
        have HX2O := Lib.hid ho2
        have HRA2 := Lib.hid hra2
        have HSB := Lib.hid hsb
        have hbs2 : w1.heap.size ≤ x2.heap.size := Nat.le_trans hbel hgb.size
        have HBS2 := Lib.hid hbs2
        obtain ⟨sb, hsbn⟩ : ∃ n, n = x1.heap.size := ⟨_, rfl⟩
        rw [← hsbn] at HSB ⊢
        clear hx2 hgb hsb hb2' ho2 hra2 hbel hbs2 hsbn
        have hown := HX2B.out.own
        have HOWN := Lib.hid hown
        have hlen : (its.map some).length ≤ 1000000000 := by rw [List.length_map]; have := HIL.out; omega
        have HLEN := Lib.hid hlen
        clear hown hlen
        refine wpOrd_turn ?_
        go_wp2_with (first
          | (at_builtin; refine wpList_appS slStmt rfl _ _ rfl itE_len itE_one w1.heap.size (.slice ba bn bc) (its.map some) rfl HOWN.out sb (some (8, y, ag)) rfl (fun j _ => HSB.out.cell j) HLEN.out (by decide) HBS2.out ?_; intro g3 cap3 x3 ho3 hg3 hat3 hlt3; have HO3 := Lib.hid ho3; have HG3 := Lib.hid hg3; clear ho3 hg3 hat3 hS))
        have happ := HX2B.out.app HO3.out HG3.out (fun it hit => by obtain rfl := Option.some.inj hit; exact ⟨HRA2.out, HAGB.out⟩)
        have hnt : ∀ t : TypeId, 54 ≠ t → NoTag x2 (Value.slice ba bn bc).ownBlock t := fun t ht => ownsRow_notag HOWN.out ht
        have hp3 := HX2B.out.prow.tagk HG3.out (hnt 27 (by decide))
        have hf3 := HX2B.out.frow.tagk HG3.out (hnt 52 (by decide))
        have v3 := hf3.cell 3
        have z3 := hf3.frozen 3
        simp only [List.getElem?_cons_zero, List.getElem?_cons_succ] at v3
        have ho3' := OwnInts.tag (OwnInts.tag HX2O.out HG3.out (hnt 3 (by decide))) (setCell_grown x3 fb 3 (.slice (some ⟨g3, 0, none⟩) ((its.map some).length + 1) cap3)) (NoTag.box 3 hf3 (by decide))
        refine QN_keep ⟨hp3.cell 1, v3⟩ fun hS => ?_
        rw [List.length_map] at happ ho3'
        have HAPP := Lib.hid happ
        have HOF := Lib.hid ho3'
        clear happ hnt hp3 hf3 ho3'
        repeat (first | (refine wpOrd_pass (by rfl) (by assumption) (fun _ _ _ h => h) ?_; simp only [Act.put, List.setIfInBounds_toArray, List.set_cons_zero, List.set_cons_succ]) | (refine wpOrd_look (v := ?_) (by rfl) ?_ (by assumption) (fun _ _ _ h => h) ?_; rotate_left; (· (intro wS hSw; (try dsimp only at hSw); go_simp; (first | done | with_reducible rfl))); simp only [Act.put, List.setIfInBounds_toArray, List.set_cons_zero, List.set_cons_succ]))
        refine wpOrd_last ?_
        go_wp2
        refine QN_normal ?_
        refine wpOrd_nil ?_
        clear hS v3 z3
        have hres := HAPP.out
        rw [show its.map some ++ [some ((8 : Int), y, ag)] = (its ++ [((8 : Int), y, ag)]).map some by simp] at hres
        have HRES := Lib.hid hres
        clear hres HAPP
        go_wp2
        go_roundg (N - (k + 1))
        case measure => omega
        case rel =>
          refine ⟨k + 1, by omega, by go_num, Lib.hid ⟨_, its ++ [((8 : Int), y, ag)], HRES.out, ?_, by simp [HIL.out], ?_⟩⟩
          · rw [List.map_append, HIT.out, HTK.out, List.map_append, List.map_append, ← HNS.out, List.map_cons, List.map_nil, List.map_cons, List.map_nil, ← HY.out]; rfl
          · rw [HTK.out, List.map_append, ← HNS.out, List.map_cons, List.map_nil, ← HY.out]; exact HOF.out
      · go_wp2
        refine QN_normal ?_
        go_wp2
        refine QN_normal ?_
        go_wp2
        refine QN_normal ?_
        have hg7 := alloc_grown wd (.cells #[.bool true] 4) none
        obtain ⟨w7, hw7⟩ : ∃ w, w = wd.alloc (.cells #[.bool true] 4) := ⟨_, rfl⟩
        rw [← hw7] at hg7
        have HB7 := Lib.hid (HBD.out.ext hg7)
        have HO7 := Lib.hid (HOD.out.kept hg7 (fun r e => by cases e))
        rw [← hw7]
        clear hw7 hg7
        have hbs7 := HB7.out
        obtain ⟨ba, bc, hbv⟩ := hbs7.own.slice
        rw [hbv] at hbs7
        obtain ⟨bn, hbn⟩ : ∃ n, n = (its.map some).length := ⟨_, rfl⟩
        rw [← hbn] at hbs7
        have hbn2 : bn = its.length := by rw [hbn, List.length_map]
        have hbn3 : bn ≤ 20 := by rw [hbn2]; have := HIL.out; omega
        have m1 := hbs7.prow.cell 1
        have m3 := hbs7.frow.cell 3
        simp only [List.getElem?_cons_zero, List.getElem?_cons_succ] at m1 m3
        have hga := alloc_grown w7 (.cells #[I 1, I 0, I y, S [], .slice none 0 0] 31) none
        have hra : Row (w7.alloc (.cells #[I 1, I 0, I y, S [], .slice none 0 0] 31)) w7.heap.size 31 (argRow y) := heap_new _ _
        obtain ⟨x1, hx1⟩ : ∃ w, w = w7.alloc (.cells #[I 1, I 0, I y, S [], .slice none 0 0] 31) := ⟨_, rfl⟩
        rw [← hx1] at hga hra
        have hgb := alloc_grown x1 (.cells #[I 0, S [], .slice none 0 0, .slice none 0 0, .slice none 0 0] 54) none
        obtain ⟨x2, hx2⟩ : ∃ w, w = x1.alloc (.cells #[I 0, S [], .slice none 0 0, .slice none 0 0, .slice none 0 0] 54) := ⟨_, rfl⟩
        have hsb : Row x2 x1.heap.size 54 (itE none) := by rw [hx2]; exact heap_new _ _
        rw [← hx2] at hgb
        have hb2' := (hbs7.ext hga).ext hgb
        have ho2 := (HO7.out.kept hga (fun r e => by cases e)).kept hgb (fun r e => by cases e)
        have hra2 := hra.kept hgb (by simp)
        have hagb : w1.heap.size ≤ w7.heap.size := hbs7.below.size
        have hbs2 : w1.heap.size ≤ x2.heap.size := Nat.le_trans hagb (Nat.le_trans hga.size hgb.size)
        have hlen : (its.map some).length ≤ 1000000000 := by rw [← hbn]; omega
        obtain ⟨ag, hag⟩ : ∃ n, n = w7.heap.size := ⟨_, rfl⟩
        obtain ⟨sb, hsbn⟩ : ∃ n, n = x1.heap.size := ⟨_, rfl⟩
        have hagw := hag.symm
        have hsbw := hsbn.symm
        have hxw1 := hx1.symm
        have hxw2 := hx2.symm
        rw [← hag] at hra2 hagb
        rw [← hsbn] at hsb
        have HX2B := Lib.hid hb2'
        have HX2O := Lib.hid ho2
        have HRA2 := Lib.hid hra2
        have HSB := Lib.hid hsb
        have HBS2 := Lib.hid hbs2
        have HAGB := Lib.hid hagb
        have HOWN := Lib.hid hb2'.own
        have HLEN := Lib.hid hlen
        have HBN := Lib.hid hbn
        have HBN2 := Lib.hid hbn2
        clear hbs7 hbn hbn2 hga hra hx1 hgb hx2 hsb hb2' ho2 hra2 hagb hbs2 hlen hag hsbn
        go_upto_region 11 with (first
          | (at_builtin; refine wpList_appS slStmt rfl _ _ rfl itE_len itE_one w1.heap.size (.slice ba bn bc) (its.map some) rfl HOWN.out sb none rfl (fun j _ => HSB.out.cell j) HLEN.out (by decide) HBS2.out ?_; intro g3 cap3 x3 ho3 hg3 hat3 hlt3; have HO3 := Lib.hid ho3; have HG3 := Lib.hid hg3; clear ho3 hg3 hat3 m1 m3; have hf3 := HX2B.out.frow.tagk HG3.out (ownsRow_notag HOWN.out (by decide)); have v3 := hf3.cell 3; have z3 := hf3.frozen 3; simp only [List.getElem?_cons_zero, List.getElem?_cons_succ] at v3; have HF3 := Lib.hid hf3; clear hf3))
        have happ := HX2B.out.app HO3.out HG3.out (fun it hit => by cases hit)
        rw [List.length_map] at happ
        have hnt : ∀ t : TypeId, 54 ≠ t → NoTag x2 (Value.slice ba bn bc).ownBlock t := fun t ht => ownsRow_notag HOWN.out ht
        have hsc := setCell_grown x3 fb 3 (.slice (some ⟨g3, 0, none⟩) (its.length + 1) cap3)
        have hra3 := (HRA2.out.tagk HG3.out (hnt 31 (by decide))).tagk hsc (NoTag.box 31 HF3.out (by decide))
        have ho3' := OwnInts.tag (OwnInts.tag HX2O.out HG3.out (hnt 3 (by decide))) hsc (NoTag.box 3 HF3.out (by decide))
        obtain ⟨x4, hx4⟩ : ∃ w, w = x3.setCell ⟨fb, 3, none⟩ (.slice (some ⟨g3, 0, none⟩) (its.length + 1) cap3) := ⟨_, rfl⟩
        rw [← hx4] at happ hra3 ho3' ⊢
        have hth := OwnS.there happ.own (i := bn) (by rw [← HBN2.out]; omega)
        have hput := happ.put (it := (8, y, ag)) (by simp) ⟨hra3, HAGB.out⟩
        rw [show (its.map some).length = bn from HBN.out.symm] at hput
        have hpo := OwnInts.tag ho3' (setCells_grown (g := g3) (itE (some (8, y, ag))) x4 (bn * 5)) (ownsRow_notag happ.own (by decide))
        have hbz : (bn : Int) < (its.length : Int) + 1 := by have := HBN2.out; omega
        have HTH := Lib.hid hth
        have HPUT := Lib.hid hput
        have HPO := Lib.hid hpo
        clear happ hnt hsc hra3 ho3' hx4 hth hput hpo v3 z3
        go_upto_region 6 with (first
          | (refine wpList_store_mid rfl 54 (.tmp 50) (.tmp 44) rfl g3 (bn * 5) _ rfl rfl HTH.out (by kernel_rfl) (by simp [Value.oneCell']) ?_))
        clear hbz
        have hres := HPUT.out
        rw [show its.map some ++ [some ((8 : Int), y, ag)] = (its ++ [((8 : Int), y, ag)]).map some by simp] at hres
        obtain ⟨x5, hx5⟩ : ∃ w, w = x4.setCells g3 (bn * 5) (itE (some ((8 : Int), y, ag))) := ⟨_, rfl⟩
        have HOF := HPO
        rw [← hx5] at hres HOF
        change Code.wp _ _ _ _ (x4.setCells g3 (bn * 5) (itE (some ((8 : Int), y, ag))))
        rw [← hx5]
        have HRES := Lib.hid hres
        clear hres hx5 HPUT HPO
        go_wp2
        go_roundg (N - (k + 1))
        case measure => omega
        case rel =>
          refine ⟨k + 1, by omega, by go_num, Lib.hid ⟨_, its ++ [((8 : Int), y, ag)], HRES.out, ?_, by simp [HIL.out], ?_⟩⟩
          · rw [List.map_append, HIT.out, HTK.out, List.map_append, List.map_append, ← HNS.out, List.map_cons, List.map_nil, List.map_cons, List.map_nil, ← HY.out]; rfl
          · rw [HTK.out, List.map_append, ← HNS.out, List.map_cons, List.map_nil, ← HY.out]; exact HOF.out
    · have hcond : (k : Int) < (L : Int) ∧ ¬ (k : Int) < (20 : Int) ∨ ¬ (k : Int) < (L : Int) := by have := HN.out; omega
      have hkN : k = N := by omega
      obtain ⟨lw, hlw⟩ : ∃ l, l = (ls.take k).map pk62 := ⟨_, rfl⟩
      have hlwl : lw.length ≤ 20 := by rw [hlw, List.length_map, List.length_take]; omega
      have hlw0 : ∀ x ∈ lw, 0 ≤ x := by
        rw [hlw]
        intro x hx
        obtain ⟨y, _, rfl⟩ := List.mem_map.1 hx
        exact (pickI_nonneg y _ (by decide)).1
      rw [← hlw] at how hit
      obtain ⟨cd, hcd⟩ : ∃ c, c = pk62 code := ⟨_, rfl⟩
      have hcd0 : 0 ≤ cd := by rw [hcd]; exact (pickI_nonneg code _ (by decide)).1
      have hpc := fun X => pick15_any code 4611686018427387904 HC.out (by decide) (by decide) X
      rw [show pickI code 4611686018427387904 = cd from hcd.symm] at hpc
      obtain ⟨va, vc, rfl⟩ := how.slice
      obtain ⟨vn, hvn⟩ : ∃ n, n = lw.length := ⟨_, rfl⟩
      rw [← hvn] at how hlwl ⊢
      have HPC := Lib.hid hpc
      have HBI6 := Lib.hid hbi
      have HIT := Lib.hid hit
      have HIL := Lib.hid (show its.length = k ∧ k ≤ 20 from ⟨hil, by omega⟩)
      have HOW := Lib.hid how
      have HLW0 := Lib.hid hlw0
      have HCD0 := Lib.hid hcd0
      have HVN := Lib.hid hvn
      clear hbi hit hil how HH hlw hlw0 hcd hcd0 hpc hvn hkN
      rcases hcond with ⟨hltz, hltz2⟩ | hltz
      all_goals
        go_upto_region 14 with (first
          | (go_at_call 15; refine (HPC.out _).mono ?_; rintro e' w6 ⟨rfl, rfl⟩))
        refine wp_toss (by kernel_rfl) (by kernel_rfl) (by kernel_rfl) (by kernel_rfl) (by kernel_rfl) (by kernel_rfl) (by kernel_rfl) ?_
        intro wd hgd
        have HBD := Lib.hid (HBI6.out.ext hgd)
        have HOD := Lib.hid (HOW.out.kept hgd (fun r e => by cases e))
        clear hgd
        go_wp2
        refine QN_normal ⟨?_, ?_⟩
        · go_wp2
          refine QN_normal ?_
          go_wp2
          refine QN_normal ?_
          go_wp2
          refine QN_normal ?_
          have hg7 := alloc_grown wd (.cells #[.bool false] 4) none
          obtain ⟨w7, hw7⟩ : ∃ w, w = wd.alloc (.cells #[.bool false] 4) := ⟨_, rfl⟩
          rw [← hw7] at hg7
          have HB7 := Lib.hid (HBD.out.ext hg7)
          have HO7 := Lib.hid (HOD.out.kept hg7 (fun r e => by cases e))
          rw [← hw7]
          clear hw7 hg7
          go_upto_region 17 with (fail)
          have hbs7 := HB7.out
          obtain ⟨ba, bc, hbv⟩ := hbs7.own.slice
          rw [hbv] at hbs7
          obtain ⟨bn, hbn⟩ : ∃ n, n = (its.map some).length := ⟨_, rfl⟩
          rw [← hbn] at hbs7
          have HB7' := Lib.hid hbs7
          have HBN := Lib.hid hbn
          clear hbs7 hbn
          refine wp_region_ordV (by kernel_rfl) (fun X => X.cell? ⟨pb, 1, none⟩ = some (.slice (some ⟨fb, 0, none⟩) 1 1) ∧ X.cell? ⟨fb, 3, none⟩ = some (.slice ba bn bc)) [(0, 0), (0, 1), (0, 2), (0, 3), (0, 4), (0, 5), (0, 6), (0, 7), (0, 8), (1, 9), (0, 10), (1, 11), (1, 12), (0, 13), (0, 14), (2, 15)] (by kernel_rfl) ?hS17 ?_
          case hS17 => intro wd hh; exact ⟨row_at HB7'.out.prow hh 1, row_at HB7'.out.frow hh 3⟩
          intro we hh hgd hS
          have HBE := Lib.hid (HB7'.out.ext hgd)
          have HOE := Lib.hid (HO7.out.kept hgd (fun r e => by cases e))
          clear hh hgd
          simp only [pickOps, List.map_cons, List.map_nil, List.getElem?_cons_zero, List.getElem?_cons_succ, Option.getD_some]
          repeat (first | (refine wpOrd_pass (by rfl) (by assumption) (fun _ _ _ h => h) ?_; simp only [Act.put, List.setIfInBounds_toArray, List.set_cons_zero, List.set_cons_succ]) | (refine wpOrd_look (v := ?_) (by rfl) ?_ (by assumption) (fun _ _ _ h => h) ?_; rotate_left; (· (intro wS hSw; (try dsimp only at hSw); go_simp; (first | done | with_reducible rfl))); simp only [Act.put, List.setIfInBounds_toArray, List.set_cons_zero, List.set_cons_succ]))
          refine wpOrd_turn ?_
          go_wp2
          have hga := alloc_grown we (.cells #[I 1, I 0, I cd, S [], .slice none 0 0] 31) none
          have hra : Row (we.alloc (.cells #[I 1, I 0, I cd, S [], .slice none 0 0] 31)) we.heap.size 31 (argRow cd) := heap_new _ _
          obtain ⟨x1, hx1⟩ : ∃ w, w = we.alloc (.cells #[I 1, I 0, I cd, S [], .slice none 0 0] 31) := ⟨_, rfl⟩
          obtain ⟨ag, hag⟩ : ∃ n, n = we.heap.size := ⟨_, rfl⟩
          rw [← hx1] at hga hra
          rw [← hag] at hra
          have hb1' := HBE.out.ext hga
          have ho1 := HOE.out.kept hga (fun r e => by cases e)
          have hbel := HBE.out.below.size
          refine QN_keep ?_ fun hS => ?_
          · exact (show (we.alloc (.cells #[I 1, I 0, I cd, S [], .slice none 0 0] 31)).cell? ⟨pb, 1, none⟩ = _ ∧ (we.alloc (.cells #[I 1, I 0, I cd, S [], .slice none 0 0] 31)).cell? ⟨fb, 3, none⟩ = _ from by rw [← hx1]; exact ⟨hb1'.prow.cell 1, hb1'.frow.cell 3⟩)
          change wpOrd _ _ _ _ _ _ (we.alloc (.cells #[I 1, I 0, I cd, S [], .slice none 0 0] 31))
          replace hS : x1.cell? ⟨pb, 1, none⟩ = some (.slice (some ⟨fb, 0, none⟩) 1 1) ∧ x1.cell? ⟨fb, 3, none⟩ = some (.slice ba bn bc) := by rw [hx1]; exact hS
          rw [← hx1, ← hag]
          have HX1B := Lib.hid hb1'
          have HX1O := Lib.hid ho1
          have HRA := Lib.hid hra
          have HAGB := Lib.hid (show w1.heap.size ≤ ag by rw [hag]; exact hbel)
          clear hx1 hag hga hra hb1' ho1 hbel
          repeat (first | (refine wpOrd_pass (by rfl) (by assumption) (fun _ _ _ h => h) ?_; simp only [Act.put, List.setIfInBounds_toArray, List.set_cons_zero, List.set_cons_succ]) | (refine wpOrd_look (v := ?_) (by rfl) ?_ (by assumption) (fun _ _ _ h => h) ?_; rotate_left; (· (intro wS hSw; (try dsimp only at hSw); go_simp; (first | done | with_reducible rfl))); simp only [Act.put, List.setIfInBounds_toArray, List.set_cons_zero, List.set_cons_succ]))
          refine wpOrd_turn ?_
          go_wp2
          have hgb := alloc_grown x1 (.cells #[I 7, S [], .slice (some ⟨ag, 0, none⟩) 1 1, .slice none 0 0, .slice none 0 0] 54) none
          obtain ⟨x2, hx2⟩ : ∃ w, w = x1.alloc (.cells #[I 7, S [], .slice (some ⟨ag, 0, none⟩) 1 1, .slice none 0 0, .slice none 0 0] 54) := ⟨_, rfl⟩
          have hsb : Row x2 x1.heap.size 54 (itE (some (7, cd, ag))) := by rw [hx2]; exact heap_new _ _
          rw [← hx2] at hgb
          have hb2' := HX1B.out.ext hgb
          have ho2 := HX1O.out.kept hgb (fun r e => by cases e)
          have hra2 := HRA.out.kept hgb (by simp)
          have hbel := HX1B.out.below.size
          refine QN_keep ?_ fun hS => ?_
          · exact (show (x1.alloc (.cells #[I 7, S [], .slice (some ⟨ag, 0, none⟩) 1 1, .slice none 0 0, .slice none 0 0] 54)).cell? ⟨pb, 1, none⟩ = _ ∧ (x1.alloc (.cells #[I 7, S [], .slice (some ⟨ag, 0, none⟩) 1 1, .slice none 0 0, .slice none 0 0] 54)).cell? ⟨fb, 3, none⟩ = _ from by rw [← hx2]; exact ⟨hb2'.prow.cell 1, hb2'.frow.cell 3⟩)
          change wpOrd _ _ _ _ _ _ (x1.alloc (.cells #[I 7, S [], .slice (some ⟨ag, 0, none⟩) 1 1, .slice none 0 0, .slice none 0 0] 54))
          replace hS : x2.cell? ⟨pb, 1, none⟩ = some (.slice (some ⟨fb, 0, none⟩) 1 1) ∧ x2.cell? ⟨fb, 3, none⟩ = some (.slice ba bn bc) := by rw [hx2]; exact hS
          rw [← hx2]
          have HX2B := Lib.hid hb2'
          have HX2O := Lib.hid ho2
          have HRA2 := Lib.hid hra2
          have HSB := Lib.hid hsb
          have hbs2 : w1.heap.size ≤ x2.heap.size := Nat.le_trans hbel hgb.size
          have HBS2 := Lib.hid hbs2
          obtain ⟨sb, hsbn⟩ : ∃ n, n = x1.heap.size := ⟨_, rfl⟩
          rw [← hsbn] at HSB ⊢
          clear hx2 hgb hsb hb2' ho2 hra2 hbel hbs2 hsbn
          have hown := HX2B.out.own
          have HOWN := Lib.hid hown
          have hlen : (its.map some).length ≤ 1000000000 := by rw [List.length_map]; have := HIL.out; omega
          have HLEN := Lib.hid hlen
          clear hown hlen
          refine wpOrd_turn ?_
          go_wp2_with (first
            | (at_builtin; refine wpList_appS slStmt rfl _ _ rfl itE_len itE_one w1.heap.size (.slice ba bn bc) (its.map some) rfl HOWN.out sb (some (7, cd, ag)) rfl (fun j _ => HSB.out.cell j) HLEN.out (by decide) HBS2.out ?_; intro g3 cap3 x3 ho3 hg3 hat3 hlt3; have HO3 := Lib.hid ho3; have HG3 := Lib.hid hg3; clear ho3 hg3 hat3 hS))
          have happ := HX2B.out.app HO3.out HG3.out (fun it hit => by obtain rfl := Option.some.inj hit; exact ⟨HRA2.out, HAGB.out⟩)
          have hnt : ∀ t : TypeId, 54 ≠ t → NoTag x2 (Value.slice ba bn bc).ownBlock t := fun t ht => ownsRow_notag HOWN.out ht
          have hp3 := HX2B.out.prow.tagk HG3.out (hnt 27 (by decide))
          have hf3 := HX2B.out.frow.tagk HG3.out (hnt 52 (by decide))
          have v3 := hf3.cell 3
          have z3 := hf3.frozen 3
          simp only [List.getElem?_cons_zero, List.getElem?_cons_succ] at v3
          have ho3' := OwnInts.tag (OwnInts.tag HX2O.out HG3.out (hnt 3 (by decide))) (setCell_grown x3 fb 3 (.slice (some ⟨g3, 0, none⟩) ((its.map some).length + 1) cap3)) (NoTag.box 3 hf3 (by decide))
          refine QN_keep ⟨hp3.cell 1, v3⟩ fun hS => ?_
          rw [List.length_map] at happ ho3'
          have HAPP := Lib.hid happ
          have HOF := Lib.hid ho3'
          clear happ hnt hp3 hf3 ho3'
          repeat (first | (refine wpOrd_pass (by rfl) (by assumption) (fun _ _ _ h => h) ?_; simp only [Act.put, List.setIfInBounds_toArray, List.set_cons_zero, List.set_cons_succ]) | (refine wpOrd_look (v := ?_) (by rfl) ?_ (by assumption) (fun _ _ _ h => h) ?_; rotate_left; (· (intro wS hSw; (try dsimp only at hSw); go_simp; (first | done | with_reducible rfl))); simp only [Act.put, List.setIfInBounds_toArray, List.set_cons_zero, List.set_cons_succ]))
          refine wpOrd_last ?_
          go_wp2
          refine QN_normal ?_
          refine wpOrd_nil ?_
          clear hS v3 z3
          have hres := HAPP.out
          rw [show its.map some ++ [some ((7 : Int), cd, ag)] = (its ++ [((7 : Int), cd, ag)]).map some by simp] at hres
          have HRES := Lib.hid hres
          clear hres HAPP
          go_upto_region 18 with (fail)
          obtain ⟨x5, hx5⟩ : ∃ w, w = x3.setCell ⟨fb, 3, none⟩ (.slice (some ⟨g3, 0, none⟩) (its.length + 1) cap3) := ⟨_, rfl⟩
          have hres := HRES.out
          have hof := HOF.out
          rw [← hx5] at hres hof
          change Code.wp _ _ _ _ (x3.setCell ⟨fb, 3, none⟩ (.slice (some ⟨g3, 0, none⟩) (its.length + 1) cap3))
          rw [← hx5]
          clear HRES HOF hx5
          have HRES := Lib.hid hres
          have HOF := Lib.hid hof
          clear hres hof
          have hpx := HRES.out.px (by rw [List.length_append]; have := HIL.out; simp; omega)
          have hprog : (⟨[], [⟨wMain, [], [], (its ++ [((7 : Int), cd, ag)]).map itS⟩]⟩ : LP) = pP lw cd := by unfold pP; rw [List.map_append, HIT.out]; rfl
          rw [hprog] at hpx
          have hrun := run0_any (pP lw cd) (pP_runs lw cd HLW0.out HCD0.out) rfl (.slice none 0 0) (.slice (some ⟨fb, 0, none⟩) 1 1) (.slice none 0 0) [] 100 x5 hpx (RIn.nil _ _) (by decide) 203 (by decide)
          have hpr : runM (pP lw cd) 203 [] 100 = ⟨1, cd, lw, 2 * lw.length + 2⟩ := prints_run lw cd 100 201 (by have := HVN.out; omega)
          rw [hpr] at hrun
          have hrun2 : Calls Tryz.prog 17 #[.agg #[.slice none 0 0, .slice (some ⟨fb, 0, none⟩) 1 1], .slice none 0 0, I 100] x5 fun e w' => ∃ ov, e = .returned (RunV 1 cd ov (2 * (vn : Int) + 2)) ∧ OwnInts w' 0 ov lw ∧ Below x5.heap.size x5 w' :=
            hrun.mono fun e w' ⟨ov, h1, h2, h3⟩ => ⟨ov, by rw [h1]; show Ending.returned (.agg #[I 1, I cd, ov, I ((2 * lw.length + 2 : Nat) : Int)]) = _; rw [← HVN.out]; rfl, h2, h3⟩
          have HRUN := Lib.hid hrun2
          have p0 := HRES.out.prow.cell 0
          have p1 := HRES.out.prow.cell 1
          simp only [List.getElem?_cons_zero, List.getElem?_cons_succ] at p0 p1
          have hll : lw.length ≤ 1000000000 := by rw [← HVN.out]; omega
          have HLL2 := Lib.hid hll
          have hof := HOF.out.rslB HLL2.out
          have HLO := Lib.hid (show Lst x5 (.slice va vn vc) lw from hof)
          have HBX := Lib.hid (HB1.out.trans (HRES.out.below.mono HB1.out.size))
          clear hpx hprog hrun hpr hrun2 hll hof
          go_wp2_with (first
            | (go_at_call 17; refine HRUN.out.mono ?_; rintro e' x6 ⟨ov, rfl, ho6, hb6⟩; have HS := Lib.hid (same_yes 1 cd (2 * (vn : Int) + 2) lw ov (.slice va vn vc) x6 (ho6.rslB HLL2.out) (HLO.out.below hb6)); have HBX6 := Lib.hid (HBX.out.trans (hb6.mono HBX.out.size)); clear ho6 hb6)
            | (go_at_call 16; refine HS.out.mono ?_; rintro e' x7 ⟨rfl, hb7⟩; have HBX7 := Lib.hid (HBX6.out.trans (hb7.mono HBX6.out.size)); clear hb7))
          go_ret
          exact ⟨rfl, HBX7.out⟩
        · go_wp2
          refine QN_normal ?_
          go_wp2
          refine QN_normal ?_
          go_wp2
          refine QN_normal ?_
          have hg7 := alloc_grown wd (.cells #[.bool true] 4) none
          obtain ⟨w7, hw7⟩ : ∃ w, w = wd.alloc (.cells #[.bool true] 4) := ⟨_, rfl⟩
          rw [← hw7] at hg7
          have HB7 := Lib.hid (HBD.out.ext hg7)
          have HO7 := Lib.hid (HOD.out.kept hg7 (fun r e => by cases e))
          rw [← hw7]
          clear hw7 hg7
          have hbs7 := HB7.out
          obtain ⟨ba, bc, hbv⟩ := hbs7.own.slice
          rw [hbv] at hbs7
          obtain ⟨bn, hbn⟩ : ∃ n, n = (its.map some).length := ⟨_, rfl⟩
          rw [← hbn] at hbs7
          have hbn2 : bn = its.length := by rw [hbn, List.length_map]
          have hbn3 : bn ≤ 20 := by rw [hbn2]; have := HIL.out; omega
          have m1 := hbs7.prow.cell 1
          have m3 := hbs7.frow.cell 3
          simp only [List.getElem?_cons_zero, List.getElem?_cons_succ] at m1 m3
          have hga := alloc_grown w7 (.cells #[I 1, I 0, I cd, S [], .slice none 0 0] 31) none
          have hra : Row (w7.alloc (.cells #[I 1, I 0, I cd, S [], .slice none 0 0] 31)) w7.heap.size 31 (argRow cd) := heap_new _ _
          obtain ⟨x1, hx1⟩ : ∃ w, w = w7.alloc (.cells #[I 1, I 0, I cd, S [], .slice none 0 0] 31) := ⟨_, rfl⟩
          rw [← hx1] at hga hra
          have hgb := alloc_grown x1 (.cells #[I 0, S [], .slice none 0 0, .slice none 0 0, .slice none 0 0] 54) none
          obtain ⟨x2, hx2⟩ : ∃ w, w = x1.alloc (.cells #[I 0, S [], .slice none 0 0, .slice none 0 0, .slice none 0 0] 54) := ⟨_, rfl⟩
          have hsb : Row x2 x1.heap.size 54 (itE none) := by rw [hx2]; exact heap_new _ _
          rw [← hx2] at hgb
          have hb2' := (hbs7.ext hga).ext hgb
          have ho2 := (HO7.out.kept hga (fun r e => by cases e)).kept hgb (fun r e => by cases e)
          have hra2 := hra.kept hgb (by simp)
          have hagb : w1.heap.size ≤ w7.heap.size := hbs7.below.size
          have hbs2 : w1.heap.size ≤ x2.heap.size := Nat.le_trans hagb (Nat.le_trans hga.size hgb.size)
          have hlen : (its.map some).length ≤ 1000000000 := by rw [← hbn]; omega
          obtain ⟨ag, hag⟩ : ∃ n, n = w7.heap.size := ⟨_, rfl⟩
          obtain ⟨sb, hsbn⟩ : ∃ n, n = x1.heap.size := ⟨_, rfl⟩
          have hagw := hag.symm
          have hsbw := hsbn.symm
          have hxw1 := hx1.symm
          have hxw2 := hx2.symm
          rw [← hag] at hra2 hagb
          rw [← hsbn] at hsb
          have HX2B := Lib.hid hb2'
          have HX2O := Lib.hid ho2
          have HRA2 := Lib.hid hra2
          have HSB := Lib.hid hsb
          have HBS2 := Lib.hid hbs2
          have HAGB := Lib.hid hagb
          have HOWN := Lib.hid hb2'.own
          have HLEN := Lib.hid hlen
          have HBN := Lib.hid hbn
          have HBN2 := Lib.hid hbn2
          clear hbs7 hbn hbn2 hga hra hx1 hgb hx2 hsb hb2' ho2 hra2 hagb hbs2 hlen hag hsbn
          go_upto_region 16 with (first
            | (at_builtin; refine wpList_appS slStmt rfl _ _ rfl itE_len itE_one w1.heap.size (.slice ba bn bc) (its.map some) rfl HOWN.out sb none rfl (fun j _ => HSB.out.cell j) HLEN.out (by decide) HBS2.out ?_; intro g3 cap3 x3 ho3 hg3 hat3 hlt3; have HO3 := Lib.hid ho3; have HG3 := Lib.hid hg3; clear ho3 hg3 hat3 m1 m3; have hf3 := HX2B.out.frow.tagk HG3.out (ownsRow_notag HOWN.out (by decide)); have v3 := hf3.cell 3; have z3 := hf3.frozen 3; simp only [List.getElem?_cons_zero, List.getElem?_cons_succ] at v3; have HF3 := Lib.hid hf3; clear hf3))
          have happ := HX2B.out.app HO3.out HG3.out (fun it hit => by cases hit)
          rw [List.length_map] at happ
          have hnt : ∀ t : TypeId, 54 ≠ t → NoTag x2 (Value.slice ba bn bc).ownBlock t := fun t ht => ownsRow_notag HOWN.out ht
          have hsc := setCell_grown x3 fb 3 (.slice (some ⟨g3, 0, none⟩) (its.length + 1) cap3)
          have hra3 := (HRA2.out.tagk HG3.out (hnt 31 (by decide))).tagk hsc (NoTag.box 31 HF3.out (by decide))
          have ho3' := OwnInts.tag (OwnInts.tag HX2O.out HG3.out (hnt 3 (by decide))) hsc (NoTag.box 3 HF3.out (by decide))
          obtain ⟨x4, hx4⟩ : ∃ w, w = x3.setCell ⟨fb, 3, none⟩ (.slice (some ⟨g3, 0, none⟩) (its.length + 1) cap3) := ⟨_, rfl⟩
          rw [← hx4] at happ hra3 ho3' ⊢
          have hth := OwnS.there happ.own (i := bn) (by rw [← HBN2.out]; omega)
          have hput := happ.put (it := (7, cd, ag)) (by simp) ⟨hra3, HAGB.out⟩
          rw [show (its.map some).length = bn from HBN.out.symm] at hput
          have hpo := OwnInts.tag ho3' (setCells_grown (g := g3) (itE (some (7, cd, ag))) x4 (bn * 5)) (ownsRow_notag happ.own (by decide))
          have hbz : (bn : Int) < (its.length : Int) + 1 := by have := HBN2.out; omega
          have HTH := Lib.hid hth
          have HPUT := Lib.hid hput
          have HPO := Lib.hid hpo
          clear happ hnt hsc hra3 ho3' hx4 hth hput hpo v3 z3
          go_upto_region 18 with (first
            | (refine wpList_store_mid rfl 54 (.tmp 84) (.tmp 78) rfl g3 (bn * 5) _ rfl rfl HTH.out (by kernel_rfl) (by simp [Value.oneCell']) ?_))
          clear hbz
          have hres := HPUT.out
          rw [show its.map some ++ [some ((7 : Int), cd, ag)] = (its ++ [((7 : Int), cd, ag)]).map some by simp] at hres
          obtain ⟨x5, hx5⟩ : ∃ w, w = x4.setCells g3 (bn * 5) (itE (some ((7 : Int), cd, ag))) := ⟨_, rfl⟩
          have HOF := HPO
          rw [← hx5] at hres HOF
          change Code.wp _ _ _ _ (x4.setCells g3 (bn * 5) (itE (some ((7 : Int), cd, ag))))
          rw [← hx5]
          have HRES := Lib.hid hres
          clear hres hx5 HPUT HPO
          have hpx := HRES.out.px (by rw [List.length_append]; have := HIL.out; simp; omega)
          have hprog : (⟨[], [⟨wMain, [], [], (its ++ [((7 : Int), cd, ag)]).map itS⟩]⟩ : LP) = pP lw cd := by unfold pP; rw [List.map_append, HIT.out]; rfl
          rw [hprog] at hpx
          have hrun := run0_any (pP lw cd) (pP_runs lw cd HLW0.out HCD0.out) rfl (.slice none 0 0) (.slice (some ⟨fb, 0, none⟩) 1 1) (.slice none 0 0) [] 100 x5 hpx (RIn.nil _ _) (by decide) 203 (by decide)
          have hpr : runM (pP lw cd) 203 [] 100 = ⟨1, cd, lw, 2 * lw.length + 2⟩ := prints_run lw cd 100 201 (by have := HVN.out; omega)
          rw [hpr] at hrun
          have hrun2 : Calls Tryz.prog 17 #[.agg #[.slice none 0 0, .slice (some ⟨fb, 0, none⟩) 1 1], .slice none 0 0, I 100] x5 fun e w' => ∃ ov, e = .returned (RunV 1 cd ov (2 * (vn : Int) + 2)) ∧ OwnInts w' 0 ov lw ∧ Below x5.heap.size x5 w' :=
            hrun.mono fun e w' ⟨ov, h1, h2, h3⟩ => ⟨ov, by rw [h1]; show Ending.returned (.agg #[I 1, I cd, ov, I ((2 * lw.length + 2 : Nat) : Int)]) = _; rw [← HVN.out]; rfl, h2, h3⟩
          have HRUN := Lib.hid hrun2
          have p0 := HRES.out.prow.cell 0
          have p1 := HRES.out.prow.cell 1
          simp only [List.getElem?_cons_zero, List.getElem?_cons_succ] at p0 p1
          have hll : lw.length ≤ 1000000000 := by rw [← HVN.out]; omega
          have HLL2 := Lib.hid hll
          have hof := HOF.out.rslB HLL2.out
          have HLO := Lib.hid (show Lst x5 (.slice va vn vc) lw from hof)
          have HBX := Lib.hid (HB1.out.trans (HRES.out.below.mono HB1.out.size))
          clear hpx hprog hrun hpr hrun2 hll hof
          go_wp2_with (first
            | (go_at_call 17; refine HRUN.out.mono ?_; rintro e' x6 ⟨ov, rfl, ho6, hb6⟩; have HS := Lib.hid (same_yes 1 cd (2 * (vn : Int) + 2) lw ov (.slice va vn vc) x6 (ho6.rslB HLL2.out) (HLO.out.below hb6)); have HBX6 := Lib.hid (HBX.out.trans (hb6.mono HBX.out.size)); clear ho6 hb6)
            | (go_at_call 16; refine HS.out.mono ?_; rintro e' x7 ⟨rfl, hb7⟩; have HBX7 := Lib.hid (HBX6.out.trans (hb7.mono HBX6.out.size)); clear hb7))
          go_ret
          exact ⟨rfl, HBX7.out⟩
end Go.Proofs.YtjgbkdbkachciaaGreatDoor
