import Derived.Test.YtjgbkdbkachciaaGreatDoorB0
import Derived.Test.YtjgbkdbkachciaaGreatDoorG0
import Derived.Test.YtjgbkdbkachciaaGreatDoorS5
import Derived.Deep.MidRow
/-
  A region that draws its order, walked in the orders of a tree, up to an operation that stands alone; from it on nothing is asked of the worlds but by operations that look at none.
-/
namespace Go.Proofs.YtjgbkdbkachciaaGreatDoor

section
variable {P : Program} {ops : Array Oper} {Q : Exit → Act → World → Prop} {S : World → Prop} {D : Nat}

theorem wpAnyV_all : ∀ (fuel : Nat) (listed : Array Bool) (a : Act) (w : World), wpAny P .any ops Q fuel listed a w → wpAnyV P ops Q (fun _ => True) fuel listed a w
  | 0, _, _, _, h => h
  | fuel + 1, _, _, _, h => ⟨h.1, fun i hi => wpOp_mono (fun a' w' h' => ⟨fun _ => trivial, wpAnyV_all fuel _ a' w' h'⟩) (h.2 i hi)⟩
def wpAnyC (P : Program) (ops : Array Oper) (Q : Exit → Act → World → Prop) (S : World → Prop) (D : Nat) : Nat → Array Bool → Act → World → Prop
  | 0, listed, a, w => Region.ready .any ops listed = [] ∧ Q .normal a w
  | fuel + 1, listed, a, w =>
    (Region.ready .any ops listed = [] → Q .normal a w) ∧
    ∀ i ∈ Region.ready .any ops listed, wpOp P ops Q i (fun a' w' => (i = D → wpAny P .any ops Q fuel (listed.setIfInBounds i true) a' w') ∧ (i ≠ D → S w' ∧ wpAnyC P ops Q S D fuel (listed.setIfInBounds i true) a' w')) a w
theorem wpAny_of_C : ∀ (fuel : Nat) (listed : Array Bool) (a : Act) (w : World), wpAnyC P ops Q S D fuel listed a w → wpAny P .any ops Q fuel listed a w
  | 0, _, _, _, h => h
  | fuel + 1, _, _, _, h => ⟨h.1, fun i hi => wpOp_mono (fun a' w' h' => by
      by_cases hD : i = D
      · exact h'.1 hD
      · exact wpAny_of_C fuel _ a' w' (h'.2 hD).2) (h.2 i hi)⟩
def listedL (listed : Array Bool) (i : Nat) : Prop := listed.getD i false = true
theorem not_listed {listed : Array Bool} {i : Nat} (h : i ∈ Region.ready .any ops listed) : listed.getD i false ≠ true := fun h' => by
  have hun := (_root_.Go.mem_ready.1 h).1
  rcases Nat.lt_or_ge i listed.size with k | k
  · simp [k] at h' hun; rw [hun] at h'; cases h'
  · simp [Array.getElem?_eq_none k] at h'
/-- who waits for another is not ready before it -/
theorem bef_ready {listed : Array Bool} {i j : Nat} (hc : Closed ops listed) (hj : j ∈ Region.ready .any ops listed) (hb : bef ops j i = true) : listed.getD i false = true := by
  have hcl : closedL ops (fun k => listed.getD k false = true) := fun k hk o ho e he hbi => hc k o ho hk e (Array.mem_toList_iff.1 he) hbi
  obtain ⟨_, o, ho, hall⟩ := _root_.Go.mem_ready.1 hj
  exact bef_in hb hcl fun o' ho' e he hbi => by
    obtain rfl := Option.some.inj (ho.symm.trans ho')
    exact hall e (Array.mem_toList_iff.1 he) hbi
theorem wpAnyC_first {S' : World → Prop} {i : Nat} {oi : Oper} {v : Value} (hi : ops[i]? = some oi) (hsel : ∀ (j : Nat) (o : Oper) cs b, ops[j]? = some o → o.op ≠ .select cs b)
    (hQ : ∀ c a w, Q (.panic c) (a.put oi.dst v) w → Q (.panic c) a w) (hiD : i ≠ D) (hSS : ∀ w, S w → S' w) (hy0 : bef ops D i = true ∨ ∀ w, S' w) :
    ∀ (fuel : Nat) (listed : Array Bool) (a : Act) (w : World), Closed ops listed →
      (∀ j oj, ops[j]? = some oj → j ≠ i → listed.getD j true = false → (∀ e ∈ oj.after, Region.binds .any e = true → e.on ≠ i) → oi.apart ops oj = true) →
      i ∈ Region.ready .any ops listed → YieldsIf P ops S' oi v a → S w →
      wpAnyC P ops Q S D fuel (listed.setIfInBounds i true) (a.put oi.dst v) w → wpAnyC P ops Q S D (fuel + 1) listed a w := by
  intro fuel
  induction fuel with
  | zero =>
    intro listed a w _ _ hr hy hS H
    refine ⟨fun h => (by rw [h] at hr; cases hr), fun j hj => ?_⟩
    by_cases hji : j = i
    · subst hji; exact hy.wpOp hi (hSS w hS) ⟨fun e => absurd e hiD, fun _ => ⟨hS, H⟩⟩
    · have := ready_mono hj hji
      rw [H.1] at this
      cases this
  | succ fuel ih =>
    intro listed a w hcl hfree hr hy hS H
    refine ⟨fun h => (by rw [h] at hr; cases hr), fun j hj => ?_⟩
    by_cases hji : j = i
    · subst hji; exact hy.wpOp hi (hSS w hS) ⟨fun e => absurd e hiD, fun _ => ⟨hS, H⟩⟩
    · have h1 := H.2 j (ready_mono hj hji)
      obtain ⟨hjun, oj, hoj, hall⟩ := _root_.Go.mem_ready.1 hj
      have hnl := not_listed hr
      have hnot : ∀ e ∈ oj.after, Region.binds .any e = true → e.on ≠ i := fun e he hb heq => by
        have h1 := hall e he hb
        rw [heq] at h1
        exact hnl h1
      have hfree' : ∀ k ok, ops[k]? = some ok → k ≠ i → (listed.setIfInBounds j true).getD k true = false →
          (∀ e ∈ ok.after, Region.binds .any e = true → e.on ≠ i) → oi.apart ops ok = true := fun k ok hk hki hun hno => by
        refine hfree k ok hk hki ?_ hno
        by_cases hjk : j = k
        · subst hjk; exact hjun
        · rw [getD_set_ne true hjk] at hun; exact hun
      have h2 := wpOp_putIf hoj (hfree j oj hoj hji hjun hnot) (fun cs b => hsel i oi cs b hi) (fun cs b => hsel j oj cs b hoj) hQ hy h1
      by_cases hjD : j = D
      · subst hjD
        rcases hy0 with hb | hp
        · exact absurd (bef_ready hcl hj hb) hnl
        · refine wpOp_mono (fun a' w' h3 => ⟨fun _ => ?_, fun h => absurd rfl h⟩) h2
          have h4 := h3.2.1 rfl
          rw [← Array.setIfInBounds_comm _ _ hji] at h4
          exact wpAny_of_V _ _ _ _ (wpAnyV_first hi hsel hQ fuel _ _ _ (closed_set hcl hj) hfree' (ready_mono hr (Ne.symm hji)) (h3.1.imp (fun ⟨x, y⟩ => ⟨x, fun w _ => y w (hp w)⟩) id) trivial (wpAnyV_all _ _ _ _ h4))
      · refine wpOp_mono (fun a' w' h3 => ⟨fun h => absurd h hjD, fun _ => ?_⟩) h2
        obtain ⟨hS', h4⟩ := h3.2.2 hjD
        refine ⟨hS', ih (listed.setIfInBounds j true) a' w' (closed_set hcl hj) hfree' (ready_mono hr (Ne.symm hji)) h3.1 hS' ?_⟩
        rw [Array.setIfInBounds_comm _ _ hji]
        exact h4

inductive OC where
  | cut (t : OT)
  | look (i : Nat) (r : OC)
  | pure (i : Nat) (r : OC)
  | one (i : Nat) (r : OC)
  | two (i j : Nat) (r s : OC)
def wpOrdC (P : Program) (l : List Oper) (Q : Exit → Act → World → Prop) (S : World → Prop) (D : Nat) : OC → Act → World → Prop
  | .cut t, a, w => ∃ o, l[D]? = some o ∧ wpList P l.toArray (QN Q fun a' w' => wpOrdT P l Q (fun _ => True) t a' w') [o] a w
  | .look i r, a, w => ∃ o v, l[i]? = some o ∧ YieldsIf P l.toArray S o v a ∧ S w ∧ (∀ c a w, Q (.panic c) (a.put o.dst v) w → Q (.panic c) a w) ∧ wpOrdC P l Q S D r (a.put o.dst v) w
  | .pure i r, a, w => ∃ o v, l[i]? = some o ∧ YieldsIf P l.toArray (fun _ => True) o v a ∧ S w ∧ (∀ c a w, Q (.panic c) (a.put o.dst v) w → Q (.panic c) a w) ∧ wpOrdC P l Q S D r (a.put o.dst v) w
  | .one i r, a, w => ∃ o, l[i]? = some o ∧ wpList P l.toArray (QN Q fun a' w' => S w' ∧ wpOrdC P l Q S D r a' w') [o] a w
  | .two i j r s, a, w => (∃ o, l[i]? = some o ∧ wpList P l.toArray (QN Q fun a' w' => S w' ∧ wpOrdC P l Q S D r a' w') [o] a w) ∧ ∃ o, l[j]? = some o ∧ wpList P l.toArray (QN Q fun a' w' => S w' ∧ wpOrdC P l Q S D s a' w') [o] a w
def ordC (ops : Array Oper) (D : Nat) : OC → Nat → Array Bool → Bool
  | .cut t, n + 1, listed => decide (Region.ready .any ops listed = [D]) && ordT ops t n (listed.setIfInBounds D true)
  | .look i r, n + 1, listed => (Region.ready .any ops listed).contains i && Region.free .any ops listed i && decide (i ≠ D) && bef ops D i && ordC ops D r n (listed.setIfInBounds i true)
  | .pure i r, n + 1, listed => (Region.ready .any ops listed).contains i && Region.free .any ops listed i && decide (i ≠ D) && ordC ops D r n (listed.setIfInBounds i true)
  | .one i r, n + 1, listed => decide (Region.ready .any ops listed = [i]) && decide (i ≠ D) && ordC ops D r n (listed.setIfInBounds i true)
  | .two i j r s, n + 1, listed => decide (Region.ready .any ops listed = [i, j]) && decide (i ≠ D) && decide (j ≠ D) && ordC ops D r n (listed.setIfInBounds i true) && ordC ops D s n (listed.setIfInBounds j true)
  | _, 0, _ => false
theorem wpAnyC_of_tree {l : List Oper} (hsel : Region.noSelect l.toArray = true) : ∀ (t : OC) (n : Nat) (listed : Array Bool) (a : Act) (w : World), Closed l.toArray listed → ordC l.toArray D t n listed = true → wpOrdC P l Q S D t a w → wpAnyC P l.toArray Q S D n listed a w
  | .cut t, n + 1, listed, a, w, hcl, hB, h => by
    simp only [ordC, Bool.and_eq_true, decide_eq_true_eq] at hB
    obtain ⟨h1, h3⟩ := hB
    have hr : D ∈ Region.ready .any l.toArray listed := by rw [h1]; simp
    obtain ⟨o, ho, h⟩ := h
    have ho : l.toArray[D]? = some o := by simpa using ho
    refine ⟨fun h0 => (by rw [h1] at h0; cases h0), fun j hj => ?_⟩
    rw [h1] at hj
    obtain rfl : j = D := by simpa using hj
    exact wpOp_mono (fun a' w' h' => ⟨fun _ => wpAny_of_V _ _ _ _ (wpAnyV_of_tree hsel t _ _ _ _ (closed_set hcl hr) h3 h'), fun e => absurd rfl e⟩) (wpOp_of_list ho h)
  | .look i r, n + 1, listed, a, w, hcl, hB, h => by
    simp only [ordC, Bool.and_eq_true, decide_eq_true_eq] at hB
    obtain ⟨⟨⟨⟨h1, h2⟩, hD⟩, hb⟩, h3⟩ := hB
    have hr : i ∈ Region.ready .any l.toArray listed := by simpa using h1
    obtain ⟨o, v, ho, hy, hS, hQ, hK⟩ := h
    have ho : l.toArray[i]? = some o := by simpa using ho
    exact wpAnyC_first ho (Region.noSelect_spec hsel) hQ hD (fun _ h => h) (.inl hb) n listed a w hcl (Region.free_spec ho h2) hr hy hS (wpAnyC_of_tree hsel r _ _ _ _ (closed_set hcl hr) h3 hK)
  | .pure i r, n + 1, listed, a, w, hcl, hB, h => by
    simp only [ordC, Bool.and_eq_true, decide_eq_true_eq] at hB
    obtain ⟨⟨⟨h1, h2⟩, hD⟩, h3⟩ := hB
    have hr : i ∈ Region.ready .any l.toArray listed := by simpa using h1
    obtain ⟨o, v, ho, hy, hS, hQ, hK⟩ := h
    have ho : l.toArray[i]? = some o := by simpa using ho
    exact wpAnyC_first ho (Region.noSelect_spec hsel) hQ hD (fun _ _ => trivial) (.inr fun _ => trivial) n listed a w hcl (Region.free_spec ho h2) hr hy hS (wpAnyC_of_tree hsel r _ _ _ _ (closed_set hcl hr) h3 hK)
  | .one i r, n + 1, listed, a, w, hcl, hB, h => by
    simp only [ordC, Bool.and_eq_true, decide_eq_true_eq] at hB
    obtain ⟨⟨h1, hD⟩, h3⟩ := hB
    have hr : i ∈ Region.ready .any l.toArray listed := by rw [h1]; simp
    obtain ⟨o, ho, h⟩ := h
    have ho : l.toArray[i]? = some o := by simpa using ho
    refine ⟨fun h0 => (by rw [h1] at h0; cases h0), fun j hj => ?_⟩
    rw [h1] at hj
    obtain rfl : j = i := by simpa using hj
    exact wpOp_mono (fun a' w' h' => ⟨fun e => absurd e hD, fun _ => ⟨h'.1, wpAnyC_of_tree hsel r _ _ _ _ (closed_set hcl hr) h3 h'.2⟩⟩) (wpOp_of_list ho h)
  | .two i j r s, n + 1, listed, a, w, hcl, hB, h => by
    simp only [ordC, Bool.and_eq_true, decide_eq_true_eq] at hB
    obtain ⟨⟨⟨⟨h1, hDi⟩, hDj⟩, h3⟩, h4⟩ := hB
    have hi : i ∈ Region.ready .any l.toArray listed := by rw [h1]; simp
    have hj : j ∈ Region.ready .any l.toArray listed := by rw [h1]; simp
    obtain ⟨⟨o, ho, h⟩, o', ho', h'⟩ := h
    have ho : l.toArray[i]? = some o := by simpa using ho
    have ho' : l.toArray[j]? = some o' := by simpa using ho'
    refine ⟨fun h0 => (by rw [h1] at h0; cases h0), fun k hk => ?_⟩
    rw [h1] at hk
    rcases (by simpa using hk : k = i ∨ k = j) with rfl | rfl
    · exact wpOp_mono (fun a' w' h' => ⟨fun e => absurd e hDi, fun _ => ⟨h'.1, wpAnyC_of_tree hsel r _ _ _ _ (closed_set hcl hi) h3 h'.2⟩⟩) (wpOp_of_list ho h)
    · exact wpOp_mono (fun a' w' h' => ⟨fun e => absurd e hDj, fun _ => ⟨h'.1, wpAnyC_of_tree hsel s _ _ _ _ (closed_set hcl hj) h4 h'.2⟩⟩) (wpOp_of_list ho' h')
  | .cut _, 0, _, _, _, _, hB, _ => by simp [ordC] at hB
  | .look _ _, 0, _, _, _, _, hB, _ => by simp [ordC] at hB
  | .pure _ _, 0, _, _, _, _, hB, _ => by simp [ordC] at hB
  | .one _ _, 0, _, _, _, _, hB, _ => by simp [ordC] at hB
  | .two _ _ _ _, 0, _, _, _, _, hB, _ => by simp [ordC] at hB

theorem wp_region_ordC {id : Nat} {l : List Oper} {a : Act} {w : World} (hm : P.follows .mixedOrders = true) (S : World → Prop) (D : Nat) (t : OC)
    (hB : (Region.noSelect l.toArray && ordC l.toArray D t l.length (Array.replicate l.length false)) = true)
    (hS : ∀ wd : World, wd.heap = w.heap → S wd)
    (h : ∀ wd : World, wd.heap = w.heap → w.grownBy wd none → S wd → wpOrdC P l Q S D t a wd) : (Code.region id l.toArray true).wp P Q a w := by
  simp only [Bool.and_eq_true] at hB
  obtain ⟨h1, h3⟩ := hB
  refine wp_region_any hm ?_
  have := wpAny_of_C _ _ _ _ (wpAnyC_of_tree h1 t _ _ a _ (closed_none _ _) h3 (h { w with drawn := w.drawn + 1 } rfl ⟨rfl, rfl, rfl, Nat.le_refl _, fun _ _ _ => rfl⟩ (hS _ rfl)))
  simpa using this

theorem wpOrdC_look {l : List Oper} {i : Nat} {o : Oper} {r : OC} {a : Act} {w : World} {v : Value} (ho : l[i]? = some o) (hw : Region.wanted o (yielded l.toArray a.tmps) = true) (hv : ∀ w, S w → (execOp a.eval o).run P w = .ok (.value v) w) (hS : S w)
    (hQ : ∀ c a w, Q (.panic c) (a.put o.dst v) w → Q (.panic c) a w) (h : wpOrdC P l Q S D r (a.put o.dst v) w) : wpOrdC P l Q S D (.look i r) a w := ⟨o, v, ho, .inl ⟨hw, hv⟩, hS, hQ, h⟩
theorem wpOrdC_pure {l : List Oper} {i : Nat} {o : Oper} {r : OC} {a : Act} {w : World} {v : Value} (ho : l[i]? = some o) (hw : Region.wanted o (yielded l.toArray a.tmps) = true) (hv : ∀ w, (execOp a.eval o).run P w = .ok (.value v) w) (hS : S w)
    (hQ : ∀ c a w, Q (.panic c) (a.put o.dst v) w → Q (.panic c) a w) (h : wpOrdC P l Q S D r (a.put o.dst v) w) : wpOrdC P l Q S D (.pure i r) a w := ⟨o, v, ho, .inl ⟨hw, fun w _ => hv w⟩, hS, hQ, h⟩
theorem wpOrdC_one {l : List Oper} {i : Nat} {o : Oper} {r : OC} {a : Act} {w : World} (ho : l[i]? = some o) (h : wpList P l.toArray (QN Q fun a' w' => S w' ∧ wpOrdC P l Q S D r a' w') [o] a w) : wpOrdC P l Q S D (.one i r) a w := ⟨o, ho, h⟩
theorem wpOrdC_cut {l : List Oper} {o : Oper} {t : OT} {a : Act} {w : World} (ho : l[D]? = some o) (h : wpList P l.toArray (QN Q fun a' w' => wpOrdT P l Q (fun _ => True) t a' w') [o] a w) : wpOrdC P l Q S D (.cut t) a w := ⟨o, ho, h⟩
theorem wpOrdC_two {l : List Oper} {i j : Nat} {o o' : Oper} {r s : OC} {a : Act} {w : World} (ho : l[i]? = some o) (ho' : l[j]? = some o') (h : wpList P l.toArray (QN Q fun a' w' => S w' ∧ wpOrdC P l Q S D r a' w') [o] a w) (h' : wpList P l.toArray (QN Q fun a' w' => S w' ∧ wpOrdC P l Q S D s a' w') [o'] a w) : wpOrdC P l Q S D (.two i j r s) a w := ⟨⟨o, ho, h⟩, o', ho', h'⟩
theorem QNC_keep {l : List Oper} {r : OC} {a : Act} {w : World} (hS : S w) (h : S w → wpOrdC P l Q S D r a w) : QN Q (fun a' w' => S w' ∧ wpOrdC P l Q S D r a' w') .normal a w := ⟨hS, h hS⟩
end
end Go.Proofs.YtjgbkdbkachciaaGreatDoor

namespace Go.Proofs.YtjgbkdbkachciaaGreatDoor
open Go.RowKit Go.Shelf
attribute [local go_sem] Oper.semAt_some

def EX (B : Nat → Prop) (W : World) (av : Value) (e : LE) : Prop := ∃ d, RSlB B 5 (RE d B) W av e.args
theorem EX.grown {B : Nat → Prop} {w w' : World} {row : Option Nat} {av : Value} {e : LE} (h : EX B w av e) (hg : w.grownBy w' row) (hr : ∀ r, row = some r → ¬ B r) : EX B w' av e := by
  obtain ⟨d, h⟩ := h
  exact ⟨d, h.grown hg hr fun _ _ h => RE.grown d hg hr h⟩
theorem EX.alloc {B : Nat → Prop} {w : World} {o : Obj} {av : Value} {e : LE} (h : EX B w av e) : EX B (w.alloc o) av e := h.grown (alloc_grown w o none) (fun r e => by cases e)
theorem EX.weak {B B' : Nat → Prop} {w : World} {av : Value} {e : LE} (h : EX B w av e) (hb : ∀ b, B b → B' b) : EX B' w av e := by
  obtain ⟨d, h⟩ := h
  exact ⟨d, h.weak hb fun _ _ h => RE.weak d hb h⟩
theorem EX.slice {B : Nat → Prop} {w : World} {av : Value} {e : LE} (h : EX B w av e) : ∃ a c, av = .slice a e.args.length c := by
  obtain ⟨d, a, c, h, _⟩ := h
  exact ⟨a, c, h⟩
theorem RSlB.size {α : Type} {B : Nat → Prop} {k : Nat} (hk : 0 < k) {R R' : World → (Nat → Value) → α → Prop} {w : World} (hR : ∀ C x, R w C x → R' w C x) {v : Value} {l : List α} (h : RSlB B k R w v l) : RSlB (fun b => B b ∧ b < w.heap.size) k R' w v l := by
  obtain ⟨a, c, h1, h2, h3⟩ := h
  refine ⟨a, c, h1, h2, ?_⟩
  cases l with
  | nil => exact .inl rfl
  | cons x0 l0 =>
    rcases h3 with h3 | ⟨b, o, h4, h5, h6⟩
    · cases h3
    · right
      refine ⟨b, o, h4, ⟨h5, ?_⟩, fun i x hx => ?_⟩
      · obtain ⟨C, hC, _⟩ := h6 0 x0 rfl
        exact World.block_lt_of_cell? w ⟨b, o + 0 * k + 0, none⟩ (hC 0 hk)
      · obtain ⟨C, hC, hr⟩ := h6 i x hx
        exact ⟨C, hC, hR C x hr⟩
theorem RE.size : ∀ (d : Nat) {B : Nat → Prop} {w : World} {C : Nat → Value} {e : LE}, RE d B w C e → RE d (fun b => B b ∧ b < w.heap.size) w C e
  | 0, _, _, _, _, h => h
  | d + 1, _, _, _, _, ⟨h0, h1, h2, h3, h4⟩ => ⟨h0, h1, h2, h3, h4.size (by omega) fun _ _ h => RE.size d h⟩
theorem EX.size {B : Nat → Prop} {w : World} {av : Value} {e : LE} (h : EX B w av e) : EX (fun b => B b ∧ b < w.heap.size) w av e := by
  obtain ⟨d, h⟩ := h
  exact ⟨d, h.size (by omega) fun _ _ h => RE.size d h⟩
/-- a new row of two expressions -/
theorem EX.two {B : Nat → Prop} {g : Nat} {w : World} {e x y : LE} {xv yv : Value} (hx : e.args = [x, y]) (hb : B g) (hrow : Row w g 31 (eRow x xv ++ eRow y yv)) (h : EX B w xv x) (k : EX B w yv y) : EX B w (.slice (some ⟨g, 0, none⟩) 2 2) e := by
  obtain ⟨d, h⟩ := h
  obtain ⟨d', k⟩ := k
  have h' := h.weak (B' := B) (R' := RE (max d d') B) (fun _ h => h) (fun _ _ h => RE.le (Nat.le_max_left d d') h)
  have k' := k.weak (B' := B) (R' := RE (max d d') B) (fun _ h => h) (fun _ _ h => RE.le (Nat.le_max_right d d') h)
  refine ⟨max d d' + 1, some ⟨g, 0, none⟩, 2, by rw [hx]; rfl, by rw [hx]; simp, .inr ⟨g, 0, rfl, hb, fun i z hz => ?_⟩⟩
  rw [hx] at hz
  rcases (by cases i with
    | zero => simp at hz; exact .inl ⟨rfl, hz.symm⟩
    | succ i => cases i with
      | zero => simp at hz; exact .inr ⟨rfl, hz.symm⟩
      | succ i => simp at hz : (i = 0 ∧ z = x) ∨ (i = 1 ∧ z = y)) with ⟨rfl, rfl⟩ | ⟨rfl, rfl⟩
  · refine ⟨fun j => (eRow z xv).getD j undef, fun j hj => ?_, rfl, rfl, rfl, rfl, h'⟩
    rw [hrow.cell]
    rcases (by omega : j = 0 ∨ j = 1 ∨ j = 2 ∨ j = 3 ∨ j = 4) with rfl | rfl | rfl | rfl | rfl <;> rfl
  · refine ⟨fun j => (eRow z yv).getD j undef, fun j hj => ?_, rfl, rfl, rfl, rfl, k'⟩
    rw [hrow.cell]
    rcases (by omega : j = 0 ∨ j = 1 ∨ j = 2 ∨ j = 3 ∨ j = 4) with rfl | rfl | rfl | rfl | rfl <;> rfl

theorem Ended.cons {ts : List Tok} (h : Ended ts) : ∃ t r, ts = t :: r := by
  obtain ⟨e, h1, _⟩ := h
  cases ts with
  | nil => cases h1
  | cons t r => exact ⟨t, r, rfl⟩

theorem OwnS.rslB {α β : Type} {k e : Nat} {enc : α → List Value} {w : World} {base : Nat} {v : Value} {l : List α} {R : World → (Nat → Value) → β → Prop} (f : α → β) (h : OwnS k e enc w base v l) (hk : ∀ x, (enc x).length = k) (hl : l.length ≤ 1000000000) (hR : ∀ x ∈ l, R w (fun j => (enc x).getD j undef) (f x)) : RSlB (base ≤ ·) k R w v (l.map f) := by
  obtain ⟨a, c, hv⟩ := h.slice
  refine ⟨a, c, by rw [List.length_map]; exact hv, by rw [List.length_map]; exact hl, ?_⟩
  cases l with
  | nil => exact .inl rfl
  | cons x0 l0 =>
    right
    obtain ⟨g, c', hv', hbg, _⟩ := h.cell hk (i := 0) (by simp)
    have ha : a = some ⟨g, 0, none⟩ := by rw [hv] at hv'; simp at hv'; exact hv'.1
    refine ⟨g, 0, ha, hbg, fun i x hx => ?_⟩
    rw [List.getElem?_map] at hx
    have hi : i < (x0 :: l0).length := by
      rcases Nat.lt_or_ge i (x0 :: l0).length with h' | h'
      · exact h'
      · rw [List.getElem?_eq_none h'] at hx; cases hx
    rw [List.getElem?_eq_getElem hi] at hx
    simp only [Option.map_some, Option.some.injEq] at hx
    obtain ⟨g2, c2, hv2, _, hcell⟩ := h.cell hk hi
    obtain rfl : g2 = g := by rw [hv'] at hv2; simp at hv2; exact hv2.1.symm
    refine ⟨fun j => (enc (x0 :: l0)[i]).getD j undef, fun j hj => ?_, by rw [← hx]; exact hR _ (List.getElem_mem hi)⟩
    rw [Nat.zero_add, (hcell j hj).1]
    have : j < (enc (x0 :: l0)[i]).length := by rw [hk]; exact hj
    simp [this]
/-- an array with some cells in others' places -/
def spl : Array Value → Nat → List Value → Array Value
  | c, _, [] => c
  | c, o, v :: r => spl (c.setIfInBounds o v) (o + 1) r
theorem spl_size : ∀ (vs : List Value) (c : Array Value) (o : Nat), (spl c o vs).size = c.size
  | [], _, _ => rfl
  | v :: r, c, o => by unfold spl; rw [spl_size r]; simp
theorem spl_get : ∀ (vs : List Value) (c : Array Value) (o m : Nat), (spl c o vs)[m]? = if o ≤ m ∧ m < o + vs.length ∧ m < c.size then vs[m - o]? else c[m]?
  | [], c, o, m => by
    rw [if_neg (by simp; omega)]; rfl
  | v :: r, c, o, m => by
    unfold spl
    rw [spl_get r, Array.size_setIfInBounds]
    by_cases h1 : o = m
    · subst h1
      rw [if_neg (by omega)]
      by_cases h2 : o < c.size
      · rw [if_pos (by simp; omega)]; simp [h2]
      · rw [if_neg (by omega)]; simp [h2]
    · rw [Array.getElem?_setIfInBounds_ne h1]
      by_cases h2 : o + 1 ≤ m ∧ m < o + 1 + r.length ∧ m < c.size
      · rw [if_pos h2, if_pos (by simp only [List.length_cons]; omega), show m - o = (m - (o + 1)) + 1 by omega]
        simp
      · rw [if_neg h2, if_neg (by simp only [List.length_cons]; omega)]
theorem setCell_heap {W : World} {g o : Nat} {cur : Array Value} {t : TypeId} {fr : Nat × Nat} (h : W.heap[g]? = some (.cells cur t fr)) (v : Value) : (W.setCell ⟨g, o, none⟩ v).heap[g]? = some (.cells (cur.setIfInBounds o v) t fr) := by
  obtain ⟨hlt, hk⟩ := Array.getElem?_eq_some_iff.1 h
  show (W.heap.modify g _)[g]? = _
  rw [Array.getElem?_eq_getElem (by rw [Array.size_modify]; exact hlt), Array.getElem_modify_self, hk]
  simp
theorem setCells_heap {g : Nat} {t : TypeId} {fr : Nat × Nat} : ∀ (vs : List Value) {W : World} {o : Nat} {cur : Array Value}, W.heap[g]? = some (.cells cur t fr) → (W.setCells g o vs).heap[g]? = some (.cells (spl cur o vs) t fr)
  | [], _, _, _, h => h
  | v :: r, _W, _o, _cur, h => setCells_heap r (setCell_heap h v)
theorem setCells_grown {g : Nat} : ∀ (vs : List Value) (W : World) (o : Nat), W.grownBy (W.setCells g o vs) (some g)
  | [], W, _ => World.grownBy.refl W _
  | v :: r, W, o => (setCell_grown W g o v).trans (setCells_grown r _ _)

/-- one element in another's place -/
theorem OwnS.set {α : Type} {k e : Nat} {enc : α → List Value} {W : World} {base g cap : Nat} {l : List α} (h : OwnS k e enc W base (.slice (some ⟨g, 0, none⟩) l.length cap) l) (hk : ∀ x, (enc x).length = k) (hk0 : 0 < k) {i : Nat} (hi : i < l.length) (y : α) :
    OwnS k e enc (W.setCells g (i * k) (enc y)) base (.slice (some ⟨g, 0, none⟩) l.length cap) (l.set i y) := by
  rcases h.2 with ⟨h0, _⟩ | ⟨g', cap', cur, hv, hb, hg, hc, hm, hs, ht⟩
  · cases h0
  · obtain ⟨rfl, rfl⟩ : g = g' ∧ cap = cap' := by simpa using hv
    refine ⟨flat_len hk _, .inr ⟨g, cap, spl cur (i * k) (enc y), by rw [List.length_set], hb, setCells_heap _ hg, by rw [List.length_set]; exact hc, hm, by rw [spl_size]; exact hs, ?_⟩⟩
    rw [List.length_set]
    refine List.ext_getElem? fun m => ?_
    rw [List.getElem?_take]
    have hfl := flat_len hk (l.set i y)
    rw [List.length_set] at hfl
    by_cases hmn : m < l.length * k
    · rw [if_pos hmn]
      have hmd : m / k * k + m % k = m := by rw [Nat.mul_comm]; exact Nat.div_add_mod m k
      have hmk : m % k < k := Nat.mod_lt _ hk0
      have hq : m / k < l.length := (Nat.div_lt_iff_lt_mul hk0).2 hmn
      have h1 := flat_get hk (l.set i y) (m / k) (m % k) hmk
      have h2 := flat_get hk l (m / k) (m % k) hmk
      rw [hmd] at h1 h2
      rw [h1]
      have hcs : m < cur.size := by
        have : l.length * k ≤ cap * k := Nat.mul_le_mul_right k hc
        omega
      rw [Array.getElem?_toList, spl_get, hk]
      by_cases hqi : m / k = i
      · rw [hqi, List.getElem?_set_self hi, if_pos ⟨by rw [hqi] at hmd; omega, by rw [hqi] at hmd; omega, hcs⟩]
        simp only [Option.bind_some]
        congr 1
        rw [hqi] at hmd; omega
      · rw [List.getElem?_set_ne (fun e => hqi e.symm), ← h2, if_neg ?_, ← ht, List.getElem?_take, if_pos hmn, Array.getElem?_toList]
        intro ⟨h3, h4, _⟩
        apply hqi
        have h5 : (m / k) < i + 1 := (Nat.div_lt_iff_lt_mul hk0).2 (by rw [Nat.succ_mul]; omega)
        have h6 : i ≤ m / k := (Nat.le_div_iff_mul_le hk0).2 (by omega)
        omega
    · rw [if_neg hmn, List.getElem?_eq_none (by omega)]


/-! ### expressions, put in a row -/
structure EA where
  e : LE
  a : Option Addr
  c : Nat
abbrev EA.av (p : EA) : Value := .slice p.a p.e.args.length p.c
def eEnc (p : EA) : List Value := [I p.e.kind, I p.e.op, I p.e.n, S p.e.name, p.av]
theorem eEnc_len (p : EA) : (eEnc p).length = 5 := rfl
theorem eEnc_one (p : EA) : ∀ u ∈ eEnc p, u.oneCell' = true := by intro u hu; simp [eEnc] at hu; rcases hu with rfl | rfl | rfl | rfl | rfl <;> rfl
theorem slExpr : SlT 29 31 5 64 := SlT.mk' (z := .agg #[.int .i64 0, .int .i64 0, .int .i64 0, .string ByteArray.empty, .slice none 0 0]) Tryz.underlying29 (by kernel_rfl) rfl (by decide)
theorem list_leE {l : List EA} {P : Nat → EA → Prop} (hs : ∀ {d d' : Nat} {x : EA}, d ≤ d' → P d x → P d' x) (h : ∀ x ∈ l, ∃ d, P d x) : ∃ d, ∀ x ∈ l, P d x := by
  induction l with
  | nil => exact ⟨0, fun x hx => by cases hx⟩
  | cons y l ih =>
    obtain ⟨d1, h1⟩ := ih fun x hx => h x (List.mem_cons_of_mem _ hx)
    obtain ⟨d2, h2⟩ := h y (List.mem_cons_self ..)
    refine ⟨max d1 d2, fun x hx => ?_⟩
    rcases List.mem_cons.1 hx with rfl | hx
    · exact hs (Nat.le_max_right _ _) h2
    · exact hs (Nat.le_max_left _ _) (h1 x hx)
/-- what was put together is read -/
theorem OwnS.exprs {w : World} {base : Nat} {v : Value} {l : List EA} {e : LE} (h : OwnS 5 31 eEnc w base v l) (hl : l.length ≤ 1000000000) (he : e.args = l.map EA.e) (hA : ∀ p ∈ l, EX (base ≤ ·) w p.av p.e) : EX (base ≤ ·) w v e := by
  obtain ⟨d, hd⟩ := list_leE (P := fun d p => RSlB (base ≤ ·) 5 (RE d (base ≤ ·)) w p.av p.e.args) (fun h k => k.weak (fun _ h => h) (fun _ _ h' => RE.le h h')) hA
  refine ⟨d + 1, ?_⟩
  rw [he]
  exact h.rslB EA.e eEnc_len hl fun p hp => ⟨rfl, rfl, rfl, rfl, hd p hp⟩
/-- what of the expressions is there already -/
def EsI (wr : World) (base : Nat) (v : Value) (done : List EA) : Prop := OwnS 5 31 eEnc wr base v done ∧ ∀ p ∈ done, EX (fun b => base ≤ b ∧ b < wr.heap.size ∧ v.ownBlock ≠ some b) wr p.av p.e
theorem EsI.nil (w : World) (base : Nat) : EsI w base (.slice none 0 0) [] := ⟨OwnS.nil, fun p hp => by cases hp⟩
theorem EsI.grown {w w' : World} {base : Nat} {v : Value} {done : List EA} {row : Option Nat} (h : EsI w base v done) (hg : w.grownBy w' row) (hr : ∀ r, row = some r → r < base) : EsI w' base v done := by
  have hsz := hg.size
  refine ⟨ownsRow_kept' h.1 hg ?_, fun p hp => ?_⟩
  · cases hv : v.ownBlock with
    | none => exact .inl rfl
    | some k =>
      right
      intro e
      have := hr k e.symm
      have := (ownsRow_base h.1 k hv).1
      omega
  · exact ((h.2 p hp).grown hg (fun r e hb => by have := hr r e; omega)).weak fun b hb => ⟨hb.1, by omega, hb.2.2⟩
theorem EsI.app {w1 w2 w3 : World} {base g : Nat} {v v' : Value} {done : List EA} {row : Option Nat} {y : EA} {o : Obj} (h : EsI w1 base v done) (hg : w1.grownBy w2 row) (hr : ∀ r, row = some r → r < base) (hx : EX (w1.heap.size ≤ ·) w2 y.av y.e) (hb : base ≤ w1.heap.size)
    (ho : OwnS 5 31 eEnc w3 base v' (done ++ [y])) (hg3 : (w2.alloc o).grownBy w3 v.ownBlock) (hv' : v'.ownBlock = some g) (hat : v.ownBlock = some g ∨ g = (w2.alloc o).heap.size) : EsI w3 base v' (done ++ [y]) := by
  have hs2 := hg.size
  have hz2 : (w2.alloc o).heap.size = w2.heap.size + 1 := by simp
  have hz3 := hg3.size
  have h2 := h.grown hg hr
  have hnb : ∀ b, base ≤ b → b < w2.heap.size → v.ownBlock ≠ some b → base ≤ b ∧ b < w3.heap.size ∧ v'.ownBlock ≠ some b := by
    intro b h1 h2 h3
    refine ⟨h1, by omega, fun e => ?_⟩
    rw [hv'] at e
    obtain rfl := Option.some.inj e
    rcases hat with h4 | h4
    · exact h3 h4
    · omega
  refine ⟨ho, fun p hp => ?_⟩
  rcases List.mem_append.1 hp with hp | hp
  · exact ((h2.2 p hp).alloc.grown hg3 (fun r e hb => hb.2.2 e)).weak fun b hb => hnb b hb.1 hb.2.1 hb.2.2
  · obtain rfl := List.mem_singleton.1 hp
    have h5 : ∀ r, v.ownBlock = some r → r < w1.heap.size := fun r e => (ownsRow_base h.1 r e).2
    exact ((hx.size.alloc).grown hg3 (fun r e hb => by have := h5 r e; omega)).weak fun b hb => hnb b (by omega) hb.2 (fun e => by have := h5 b e; omega)
theorem EsI.read {w : World} {base : Nat} {v : Value} {done : List EA} {e : LE} (h : EsI w base v done) (hl : done.length ≤ 1000000000) (he : e.args = done.map EA.e) : EX (base ≤ ·) w v e :=
  h.1.exprs hl he fun p hp => (h.2 p hp).weak fun _ hb => hb.1

theorem row_at {n : Nat} {t : TypeId} {w wd : World} {cs : List Value} (hr : Row w n t cs) (hh : wd.heap = w.heap) (j : Nat) : wd.cell? ⟨n, j, none⟩ = cs[j]? := by
  have : Row wd n t cs := by unfold Row at *; rw [hh]; exact hr
  exact this.cell j
theorem PG.own {a b c : World} {pb tb : Nat} {ts : List Tok} {row : Option Nat} (h : PG a pb tb ts b) (hg : b.grownBy c row) (hr : ∀ r, row = some r → a.heap.size ≤ r) (ht : tb < a.heap.size) (hp : pb < a.heap.size) : PG a pb tb ts c := by
  cases row with
  | none => exact h.new (row := a.heap.size) (Nat.le_refl _) ⟨hg.os, hg.tape, hg.output, hg.size, fun i hi _ => hg.block i hi (by simp)⟩ ht hp
  | some r => exact h.new (hr r rfl) hg ht hp
end Go.Proofs.YtjgbkdbkachciaaGreatDoor
