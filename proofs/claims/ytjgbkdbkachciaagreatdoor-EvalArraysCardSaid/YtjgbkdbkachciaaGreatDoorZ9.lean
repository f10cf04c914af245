import Derived.Test.YtjgbkdbkachciaaGreatDoorZ7
namespace Go.Proofs.YtjgbkdbkachciaaGreatDoor
open Go.RowKit Go.Shelf
attribute [local go_sem] Oper.semAt_some

/-! ### which of two ways an append goes, drawn -/
theorem wp_toss {P : Program} {Q : Exit → Act → World → Prop} {id : Nat} {o0 o1 o2 o3 : Oper} {a : Act} {w : World} (hm : P.follows .mixedOrders = true)
    (h0 : Region.ready .any #[o0, o1, o2, o3] #[false, false, false, false] = [0]) (h1 : Region.ready .any #[o0, o1, o2, o3] #[true, false, false, false] = [1, 2])
    (h2 : Region.ready .any #[o0, o1, o2, o3] #[true, true, false, false] = [2]) (h3 : Region.ready .any #[o0, o1, o2, o3] #[true, false, true, false] = [1])
    (h4 : Region.ready .any #[o0, o1, o2, o3] #[true, true, true, false] = [3]) (h5 : Region.ready .any #[o0, o1, o2, o3] #[true, true, true, true] = [])
    (h : ∀ wd : World, w.grownBy wd none → wpList P #[o0, o1, o2, o3] (QN Q fun a1 w1 =>
      wpList P #[o0, o1, o2, o3] (QN Q fun a2 w2 => wpList P #[o0, o1, o2, o3] (QN Q fun a3 w3 => wpList P #[o0, o1, o2, o3] (QN Q fun a4 w4 => Q .normal a4 w4) [o3] a3 w3) [o2] a2 w2) [o1] a1 w1 ∧
      wpList P #[o0, o1, o2, o3] (QN Q fun a2 w2 => wpList P #[o0, o1, o2, o3] (QN Q fun a3 w3 => wpList P #[o0, o1, o2, o3] (QN Q fun a4 w4 => Q .normal a4 w4) [o3] a3 w3) [o1] a2 w2) [o2] a1 w1) [o0] a wd) :
    (Code.region id #[o0, o1, o2, o3] true).wp P Q a w := by
  refine wp_region_any hm ?_
  have h' := h { w with drawn := w.drawn + 1 } ⟨rfl, rfl, rfl, Nat.le_refl _, fun _ _ _ => rfl⟩
  have e0 : (Array.replicate (#[o0, o1, o2, o3] : Array Oper).size false) = #[false, false, false, false] := rfl
  rw [e0]
  show wpAny P .any #[o0, o1, o2, o3] Q 4 _ a _
  have last : ∀ a3 w3, wpList P #[o0, o1, o2, o3] (QN Q fun a4 w4 => Q .normal a4 w4) [o3] a3 w3 → wpAny P .any #[o0, o1, o2, o3] Q 1 #[true, true, true, false] a3 w3 := by
    intro a3 w3 hh
    refine ⟨fun hr => (by rw [h4] at hr; cases hr), fun i hi => ?_⟩
    rw [h4] at hi
    obtain rfl : i = 3 := by simpa using hi
    refine wpOp_mono (fun a' w' hq => ?_) (wpOp_of_list (o := o3) rfl hh)
    exact ⟨h5, hq⟩
  refine ⟨fun hr => (by rw [h0] at hr; cases hr), fun i hi => ?_⟩
  rw [h0] at hi
  obtain rfl : i = 0 := by simpa using hi
  refine wpOp_mono (fun a1 w1 hq => ?_) (wpOp_of_list (o := o0) rfl h')
  refine ⟨fun hr => (by rw [show (#[false, false, false, false] : Array Bool).setIfInBounds 0 true = #[true, false, false, false] from rfl, h1] at hr; cases hr), fun i hi => ?_⟩
  rw [show (#[false, false, false, false] : Array Bool).setIfInBounds 0 true = #[true, false, false, false] from rfl, h1] at hi
  rcases (by simpa using hi : i = 1 ∨ i = 2) with rfl | rfl
  · refine wpOp_mono (fun a2 w2 hq2 => ?_) (wpOp_of_list (o := o1) rfl hq.1)
    refine ⟨fun hr => (by rw [show ((#[false, false, false, false] : Array Bool).setIfInBounds 0 true).setIfInBounds 1 true = #[true, true, false, false] from rfl, h2] at hr; cases hr), fun i hi => ?_⟩
    rw [show ((#[false, false, false, false] : Array Bool).setIfInBounds 0 true).setIfInBounds 1 true = #[true, true, false, false] from rfl, h2] at hi
    obtain rfl : i = 2 := by simpa using hi
    exact wpOp_mono (fun a3 w3 hq3 => last a3 w3 hq3) (wpOp_of_list (o := o2) rfl hq2)
  · refine wpOp_mono (fun a2 w2 hq2 => ?_) (wpOp_of_list (o := o2) rfl hq.2)
    refine ⟨fun hr => (by rw [show ((#[false, false, false, false] : Array Bool).setIfInBounds 0 true).setIfInBounds 2 true = #[true, false, true, false] from rfl, h3] at hr; cases hr), fun i hi => ?_⟩
    rw [show ((#[false, false, false, false] : Array Bool).setIfInBounds 0 true).setIfInBounds 2 true = #[true, false, true, false] from rfl, h3] at hi
    obtain rfl : i = 1 := by simpa using hi
    exact wpOp_mono (fun a3 w3 hq3 => last a3 w3 hq3) (wpOp_of_list (o := o1) rfl hq2)
end Go.Proofs.YtjgbkdbkachciaaGreatDoor

namespace Go.Proofs.YtjgbkdbkachciaaGreatDoor
open Go.RowKit Go.Shelf
attribute [local go_sem] Oper.semAt_some

/-! ### a program put together -/
abbrev IT := Int × Int × Nat
def itE : Option IT → List Value
  | none => [I 0, S [], .slice none 0 0, .slice none 0 0, .slice none 0 0]
  | some it => [I it.1, S [], .slice (some ⟨it.2.2, 0, none⟩) 1 1, .slice none 0 0, .slice none 0 0]
theorem itE_len (x : Option IT) : (itE x).length = 5 := by cases x <;> rfl
theorem itE_one (x : Option IT) : ∀ u ∈ itE x, u.oneCell' = true := by
  intro u hu
  cases x <;> (simp [itE] at hu; rcases hu with rfl | rfl | rfl | rfl | rfl <;> rfl)
abbrev argRow (n : Int) : List Value := [I 1, I 0, I n, S [], .slice none 0 0]
theorem Row.tagk {W W' : World} {row : Option Nat} {g : Nat} {t : TypeId} {cs : List Value} (h : Row W g t cs) (hg : W.grownBy W' row) (hn : NoTag W row t) : Row W' g t cs :=
  h.kept hg fun e => hn g e.symm _ _ h
structure BodyI (W0 : World) (pb fb : Nat) (l : List (Option IT)) (bv : Value) (W : World) : Prop where
  below : Below W0.heap.size W0 W
  hp : W0.heap.size ≤ pb
  hf : W0.heap.size ≤ fb
  prow : Row W pb 27 [.slice none 0 0, .slice (some ⟨fb, 0, none⟩) 1 1]
  frow : Row W fb 52 [S wMain, .slice none 0 0, .slice none 0 0, bv]
  own : OwnS 5 54 itE W W0.heap.size bv l
  arg : ∀ it, some it ∈ l → Row W it.2.2 31 (argRow it.2.1) ∧ W0.heap.size ≤ it.2.2
section
variable {W0 W W' : World} {pb fb : Nat} {l : List (Option IT)} {bv : Value}
theorem BodyI.other {row : Option Nat} (h : BodyI W0 pb fb l bv W) (hg : W.grownBy W' row) (hb : ∀ r, row = some r → W0.heap.size ≤ r) (h1 : NoTag W row 27) (h2 : NoTag W row 52) (h3 : NoTag W row 54) (h4 : NoTag W row 31) : BodyI W0 pb fb l bv W' :=
  ⟨h.below.grown hg h.below.size hb, h.hp, h.hf, h.prow.tagk hg h1, h.frow.tagk hg h2, h.own.tag hg h3, fun it hi => ⟨(h.arg it hi).1.tagk hg h4, (h.arg it hi).2⟩⟩
theorem BodyI.ext (h : BodyI W0 pb fb l bv W) (hg : W.grownBy W' none) : BodyI W0 pb fb l bv W' :=
  h.other hg (fun r e => by cases e) (NoTag.none _ _) (NoTag.none _ _) (NoTag.none _ _) (NoTag.none _ _)
/-- one more behind, and the slice laid -/
theorem BodyI.app {v' : Value} {z : Option IT} (h : BodyI W0 pb fb l bv W) (ho : OwnS 5 54 itE W' W0.heap.size v' (l ++ [z])) (hg : W.grownBy W' bv.ownBlock) (hz : ∀ it, z = some it → Row W it.2.2 31 (argRow it.2.1) ∧ W0.heap.size ≤ it.2.2) :
    BodyI W0 pb fb (l ++ [z]) v' (W'.setCell ⟨fb, 3, none⟩ v') := by
  have hn : ∀ t : TypeId, 54 ≠ t → NoTag W bv.ownBlock t := fun t ht => ownsRow_notag h.own ht
  have hf' := h.frow.tagk hg (hn 52 (by decide))
  have hc := setCell_grown W' fb 3 v'
  refine ⟨(h.below.grown hg h.below.size (fun r e => (ownsRow_base h.own r e).1)).setCell h.hf _, h.hp, h.hf, (h.prow.tagk hg (hn 27 (by decide))).tagk hc (NoTag.box 27 hf' (by decide)), hf'.set 3 v', ho.tag hc (NoTag.box 54 hf' (by decide)), fun it hi => ?_⟩
  rcases List.mem_append.1 hi with hi | hi
  · exact ⟨((h.arg it hi).1.tagk hg (hn 31 (by decide))).tagk hc (NoTag.box 31 hf' (by decide)), (h.arg it hi).2⟩
  · have hz' := hz it (by simpa using (List.mem_singleton.1 hi).symm)
    exact ⟨(hz'.1.tagk hg (hn 31 (by decide))).tagk hc (NoTag.box 31 hf' (by decide)), hz'.2⟩
/-- the last one set -/
theorem BodyI.put {g n cap : Nat} {z : Option IT} {it : IT} (h : BodyI W0 pb fb (l ++ [z]) (.slice (some ⟨g, 0, none⟩) n cap) W) (hn : n = (l ++ [z]).length) (hz : Row W it.2.2 31 (argRow it.2.1) ∧ W0.heap.size ≤ it.2.2) :
    BodyI W0 pb fb (l ++ [some it]) (.slice (some ⟨g, 0, none⟩) n cap) (W.setCells g (l.length * 5) (itE (some it))) := by
  subst hn
  have hs := OwnS.set h.own itE_len (by decide) (i := l.length) (by simp) (some it)
  have hls : (l ++ [z]).set l.length (some it) = l ++ [some it] := by simp
  rw [hls] at hs
  have hg := setCells_grown (itE (some it)) W (l.length * 5) (g := g)
  have hnt : ∀ t : TypeId, 54 ≠ t → NoTag W (some g) t := fun t ht => ownsRow_notag h.own ht
  refine ⟨h.below.grown hg h.below.size (fun r e => by cases e; exact (ownsRow_base h.own g rfl).1), h.hp, h.hf, h.prow.tagk hg (hnt 27 (by decide)), h.frow.tagk hg (hnt 52 (by decide)), hs, fun x hx => ?_⟩
  rcases List.mem_append.1 hx with hx | hx
  · have := h.arg x (List.mem_append_left _ hx)
    exact ⟨this.1.tagk hg (hnt 31 (by decide)), this.2⟩
  · obtain rfl : x = it := by simpa using List.mem_singleton.1 hx
    exact ⟨hz.1.tagk hg (hnt 31 (by decide)), hz.2⟩
end
abbrev itS (it : IT) : LS := .mk it.1 [] [numE it.2.1] [] []
theorem arg_AX {B : Nat → Prop} {W : World} {g : Nat} {n : Int} (h : Row W g 31 (argRow n)) (hB : B g) : AX B W (.slice (some ⟨g, 0, none⟩) 1 1) [numE n] := by
  refine ⟨1, _, _, rfl, by simp [LE.args], .inr ⟨g, 0, rfl, hB, fun i x hx => ?_⟩⟩
  have hx : [numE n][i]? = some x := hx
  match i, hx with
  | 0, hx =>
    obtain rfl : numE n = x := by simpa using hx
    refine ⟨fun j => (argRow n).getD j undef, fun j hj => ?_, rfl, rfl, rfl, rfl, RSlB.nil _ _ _ _⟩
    rw [show 0 + 0 * 5 + j = j by omega, h.cell]
    rcases (by omega : j = 0 ∨ j = 1 ∨ j = 2 ∨ j = 3 ∨ j = 4) with rfl | rfl | rfl | rfl | rfl <;> rfl
  | i + 1, hx => simp at hx
/-- what was put together, as a program -/
theorem BodyI.px {W0 W : World} {pb fb : Nat} {its : List IT} {bv : Value} (h : BodyI W0 pb fb (its.map some) bv W) (hl : its.length ≤ 1000000000) : PX (· < W.heap.size) W (.slice none 0 0) (.slice (some ⟨fb, 0, none⟩) 1 1) ⟨[], [⟨wMain, [], [], its.map itS⟩]⟩ := by
  have hb : RSlB (W0.heap.size ≤ ·) 5 (RS 1 (fun _ => True)) W bv ((its.map some).map fun x : Option IT => itS (x.getD (0, 0, 0))) :=
    h.own.rslB (fun x : Option IT => itS (x.getD (0, 0, 0))) itE_len (by simpa using hl) fun x hx => by
      obtain ⟨it, hit, rfl⟩ := List.mem_map.1 hx
      exact ⟨rfl, rfl, arg_AX (h.arg it hx).1 trivial, RSlB.nil _ _ _ _, RSlB.nil _ _ _ _⟩
  have hm : (its.map some).map (fun x : Option IT => itS (x.getD (0, 0, 0))) = its.map itS := by rw [List.map_map]; rfl
  rw [hm] at hb
  have hs : SX (fun _ => True) W bv (its.map itS) := ⟨1, hb.weak (fun _ _ => trivial) fun _ _ h => h⟩
  refine PX.lt (B := fun _ => True) ⟨RSlB.nil _ _ _ _, _, _, rfl, by simp, .inr ⟨fb, 0, rfl, trivial, fun i x hx => ?_⟩⟩
  match i, hx with
  | 0, hx =>
    obtain rfl : (⟨wMain, [], [], its.map itS⟩ : LF) = x := by simpa using hx
    refine ⟨fun j => [S wMain, .slice none 0 0, .slice none 0 0, bv].getD j undef, fun j hj => ?_, rfl, RSlB.nil _ _ _ _, RSlB.nil _ _ _ _, hs⟩
    rw [show 0 + 0 * 4 + j = j by omega, h.frow.cell]
    rcases (by omega : j = 0 ∨ j = 1 ∨ j = 2 ∨ j = 3) with rfl | rfl | rfl | rfl <;> rfl
  | i + 1, hx => simp at hx
end Go.Proofs.YtjgbkdbkachciaaGreatDoor
