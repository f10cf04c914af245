import Derived.OrdersHeld
import Derived.Tactics
import Derived.KernelRfl
import Derived.Below
namespace Go.Proofs.Ytdlcpmjhngfgkaa

/-- the post with another word on the normal end -/
def QN (Q : Exit → Act → World → Prop) (K : Act → World → Prop) : Exit → Act → World → Prop
  | .normal, a, w => K a w
  | e, a, w => Q e a w

/-- an operation that waits for all others -/
def sinkAt (ops : Array Oper) (i : Nat) : Bool := match ops[i]? with
  | some o => (List.range ops.size).all fun j => j == i || o.after.any (fun e => Region.binds .any e && e.on == j)
  | none => false

section
variable {P : Program} {ops : Array Oper} {Q : Exit → Act → World → Prop} {S : World → Prop}

def wpAnyG (P : Program) (ops : Array Oper) (Q : Exit → Act → World → Prop) (S : World → Prop) : Nat → Array Bool → Act → World → Prop
  | 0, listed, a, w => Region.ready .any ops listed = [] ∧ Q .normal a w
  | fuel + 1, listed, a, w =>
    (Region.ready .any ops listed = [] → Q .normal a w) ∧
    ∀ i ∈ Region.ready .any ops listed, wpOp P ops Q i (fun a' w' => (sinkAt ops i = false → S w') ∧ wpAnyG P ops Q S fuel (listed.setIfInBounds i true) a' w') a w

theorem wpAny_of_G : ∀ (fuel : Nat) (listed : Array Bool) (a : Act) (w : World), wpAnyG P ops Q S fuel listed a w → wpAny P .any ops Q fuel listed a w
  | 0, _, _, _, h => h
  | fuel + 1, _, _, _, h => ⟨h.1, fun i hi => wpOp_mono (fun a' w' h' => wpAny_of_G fuel _ a' w' h'.2) (h.2 i hi)⟩

theorem wpAnyG_first {i : Nat} {oi : Oper} {v : Value} (hi : ops[i]? = some oi) (hsel : ∀ (j : Nat) (o : Oper) cs b, ops[j]? = some o → o.op ≠ .select cs b)
    (hQ : ∀ c a w, Q (.panic c) (a.put oi.dst v) w → Q (.panic c) a w) :
    ∀ (fuel : Nat) (listed : Array Bool) (a : Act) (w : World),
      (∀ j oj, ops[j]? = some oj → j ≠ i → listed.getD j true = false → (∀ e ∈ oj.after, Region.binds .any e = true → e.on ≠ i) → oi.apart ops oj = true) →
      i ∈ Region.ready .any ops listed → YieldsIf P ops S oi v a → S w →
      wpAnyG P ops Q S fuel (listed.setIfInBounds i true) (a.put oi.dst v) w → wpAnyG P ops Q S (fuel + 1) listed a w := by
  intro fuel
  induction fuel with
  | zero =>
    intro listed a w _ hr hy hS H
    refine ⟨fun h => (by rw [h] at hr; cases hr), fun j hj => ?_⟩
    by_cases hji : j = i
    · subst hji; exact hy.wpOp hi hS ⟨fun _ => hS, H⟩
    · have := ready_mono hj hji
      rw [H.1] at this
      cases this
  | succ fuel ih =>
    intro listed a w hfree hr hy hS H
    refine ⟨fun h => (by rw [h] at hr; cases hr), fun j hj => ?_⟩
    by_cases hji : j = i
    · subst hji; exact hy.wpOp hi hS ⟨fun _ => hS, H⟩
    · have h1 := H.2 j (ready_mono hj hji)
      obtain ⟨hjun, oj, hoj, hall⟩ := mem_ready.1 hj
      have hnot : ∀ e ∈ oj.after, Region.binds .any e = true → e.on ≠ i := fun e he hb heq => by
        have h1 := hall e he hb
        have h0 := (mem_ready.1 hr).1
        rw [heq] at h1
        rcases Nat.lt_or_ge i listed.size with h' | h'
        · simp [h'] at h0 h1; rw [h0] at h1; cases h1
        · simp [Array.getElem?_eq_none h'] at h1
      have hsk : sinkAt ops j = false := by
        cases hs : sinkAt ops j with
        | false => rfl
        | true =>
          exfalso
          simp only [sinkAt, hoj, List.all_eq_true, List.mem_range] at hs
          have hlt := (Array.getElem?_eq_some_iff.1 hi).1
          have := hs i hlt
          simp only [Bool.or_eq_true, beq_iff_eq] at this
          rcases this with h | h
          · exact hji h.symm
          · obtain ⟨e, he, hb⟩ := Array.any_eq_true'.1 h
            simp only [Bool.and_eq_true, beq_iff_eq] at hb
            exact hnot e he hb.1 hb.2
      have h2 := wpOp_putIf hoj (hfree j oj hoj hji hjun hnot) (fun cs b => hsel i oi cs b hi) (fun cs b => hsel j oj cs b hoj) hQ hy h1
      have hfree' : ∀ k ok, ops[k]? = some ok → k ≠ i → (listed.setIfInBounds j true).getD k true = false →
          (∀ e ∈ ok.after, Region.binds .any e = true → e.on ≠ i) → oi.apart ops ok = true := fun k ok hk hki hun hno => by
        refine hfree k ok hk hki ?_ hno
        by_cases hjk : j = k
        · subst hjk; exact hjun
        · rw [getD_set_ne true hjk] at hun; exact hun
      refine wpOp_mono (fun a' w' h3 => ⟨fun _ => h3.2.1 hsk, ih (listed.setIfInBounds j true) a' w' hfree' (ready_mono hr (Ne.symm hji)) h3.1 (h3.2.1 hsk) ?_⟩) h2
      rw [Array.setIfInBounds_comm _ _ hji]
      exact h3.2.2

/-- a region's operations in an order of the prover's: 0: it only looks, and yields the same wherever S holds · 1: it turns the world, and S holds behind it · 2: it turns the world, and waits for all others -/
def wpOrd (P : Program) (ops : Array Oper) (Q : Exit → Act → World → Prop) (S : World → Prop) : List (Nat × Oper) → Act → World → Prop
  | [], a, w => Q .normal a w
  | (0, o) :: r, a, w => ∃ v, YieldsIf P ops S o v a ∧ S w ∧ (∀ c a w, Q (.panic c) (a.put o.dst v) w → Q (.panic c) a w) ∧ wpOrd P ops Q S r (a.put o.dst v) w
  | (1, o) :: r, a, w => wpList P ops (QN Q fun a' w' => S w' ∧ wpOrd P ops Q S r a' w') [o] a w
  | (_ + 2, o) :: r, a, w => wpList P ops (QN Q fun a' w' => wpOrd P ops Q S r a' w') [o] a w

def ordB (ops : Array Oper) : List (Nat × Nat) → Array Bool → Bool
  | [], listed => (Region.ready .any ops listed).isEmpty
  | (0, i) :: r, listed => (Region.ready .any ops listed).contains i && Region.free .any ops listed i && ordB ops r (listed.setIfInBounds i true)
  | (1, i) :: r, listed => decide (Region.ready .any ops listed = [i]) && ordB ops r (listed.setIfInBounds i true)
  | (_ + 2, i) :: r, listed => decide (Region.ready .any ops listed = [i]) && sinkAt ops i && ordB ops r (listed.setIfInBounds i true)

def pickOps (l : List Oper) (ord : List (Nat × Nat)) : List (Nat × Oper) := ord.map fun p => (p.1, (l[p.2]?).getD ⟨none, .move (.const undef), 0, "", #[], none⟩)

theorem wpOp_of_list {o : Oper} {i : Nat} (hi : ops[i]? = some o) {K : Act → World → Prop} {a : Act} {w : World} (h : wpList P ops (QN Q K) [o] a w) : wpOp P ops Q i K a w := by
  unfold wpOp
  simp only [hi]
  unfold wpList at h
  split at h
  · next hw =>
    rw [if_pos hw]
    refine h.imp (fun h => ?_) (fun h => h)
    unfold Oper.wp at *
    generalize (execOp a.eval o).run P w = r at *
    cases r with
    | ok n w' =>
      cases n <;> simp only [Oper.upon] at h ⊢ <;>
        first
          | exact h
          | exact Calls.mono h (fun e w'' he => by cases e <;> exact he)
          | exact Rows.mono h (fun _ _ he => he)
    | halt x w' => cases x <;> simp only [Oper.upon] at h ⊢ <;> exact h
  · next hw => rw [if_neg hw]; exact h

theorem wpAnyG_of_ord {l : List Oper} (hsel : Region.noSelect l.toArray = true) : ∀ (ord : List (Nat × Nat)) (listed : Array Bool) (a : Act) (w : World), ordB l.toArray ord listed = true → wpOrd P l.toArray Q S (pickOps l ord) a w → wpAnyG P l.toArray Q S ord.length listed a w
  | [], listed, a, w, hB, h => ⟨by simpa [ordB] using hB, h⟩
  | (0, i) :: r, listed, a, w, hB, h => by
    simp only [ordB, Bool.and_eq_true] at hB
    obtain ⟨⟨h1, h2⟩, h3⟩ := hB
    have hr : i ∈ Region.ready .any l.toArray listed := by simpa using h1
    obtain ⟨_, o, ho, _⟩ := mem_ready.1 hr
    have hp : pickOps l ((0, i) :: r) = (0, o) :: pickOps l r := by
      have : l[i]? = some o := by simpa using ho
      simp [pickOps, this]
    rw [hp] at h
    obtain ⟨v, hy, hS, hQ, hK⟩ := h
    exact wpAnyG_first ho (Region.noSelect_spec hsel) hQ r.length listed a w (Region.free_spec ho h2) hr hy hS (wpAnyG_of_ord hsel r _ _ _ h3 hK)
  | (1, i) :: r, listed, a, w, hB, h => by
    simp only [ordB, Bool.and_eq_true, decide_eq_true_eq] at hB
    obtain ⟨h1, h3⟩ := hB
    have hr : i ∈ Region.ready .any l.toArray listed := by rw [h1]; simp
    obtain ⟨_, o, ho, _⟩ := mem_ready.1 hr
    have hp : pickOps l ((1, i) :: r) = (1, o) :: pickOps l r := by
      have : l[i]? = some o := by simpa using ho
      simp [pickOps, this]
    rw [hp] at h
    refine ⟨fun h0 => (by rw [h1] at h0; cases h0), fun j hj => ?_⟩
    rw [h1] at hj
    obtain rfl : j = i := by simpa using hj
    exact wpOp_mono (fun a' w' h' => ⟨fun _ => h'.1, wpAnyG_of_ord hsel r _ _ _ h3 h'.2⟩) (wpOp_of_list ho h)
  | (k + 2, i) :: r, listed, a, w, hB, h => by
    simp only [ordB, Bool.and_eq_true, decide_eq_true_eq] at hB
    obtain ⟨⟨h1, h2⟩, h3⟩ := hB
    have hr : i ∈ Region.ready .any l.toArray listed := by rw [h1]; simp
    obtain ⟨_, o, ho, _⟩ := mem_ready.1 hr
    have hp : pickOps l ((k + 2, i) :: r) = (k + 2, o) :: pickOps l r := by
      have : l[i]? = some o := by simpa using ho
      simp [pickOps, this]
    rw [hp] at h
    refine ⟨fun h0 => (by rw [h1] at h0; cases h0), fun j hj => ?_⟩
    rw [h1] at hj
    obtain rfl : j = i := by simpa using hj
    exact wpOp_mono (fun a' w' h' => ⟨fun hs => (by rw [h2] at hs; cases hs), wpAnyG_of_ord hsel r _ _ _ h3 h'⟩) (wpOp_of_list ho h)

/-- a region that draws its order, walked once in an order of the prover's -/
theorem wp_region_ord {id : Nat} {l : List Oper} {a : Act} {w : World} (hm : P.follows .mixedOrders = true) (S : World → Prop) (ord : List (Nat × Nat))
    (hB : (Region.noSelect l.toArray && decide (ord.length = l.length) && ordB l.toArray ord (Array.replicate l.length false)) = true)
    (h : wpOrd P l.toArray Q S (pickOps l ord) a { w with drawn := w.drawn + 1 }) : (Code.region id l.toArray true).wp P Q a w := by
  simp only [Bool.and_eq_true, decide_eq_true_eq] at hB
  obtain ⟨⟨h1, h2⟩, h3⟩ := hB
  refine wp_region_any hm ?_
  have := wpAny_of_G _ _ _ _ (wpAnyG_of_ord h1 ord _ a _ h3 h)
  rw [h2] at this
  simpa using this

/-- the same, the world behind the draw a letter -/
theorem wp_region_ordW {id : Nat} {l : List Oper} {a : Act} {w : World} (hm : P.follows .mixedOrders = true) (S : World → Prop) (ord : List (Nat × Nat))
    (hB : (Region.noSelect l.toArray && decide (ord.length = l.length) && ordB l.toArray ord (Array.replicate l.length false)) = true)
    (hS : ∀ wd : World, wd.heap = w.heap → S wd)
    (h : ∀ wd : World, wd.heap = w.heap → w.grownBy wd none → S wd → wpOrd P l.toArray Q S (pickOps l ord) a wd) : (Code.region id l.toArray true).wp P Q a w :=
  wp_region_ord hm S ord hB (h _ rfl ⟨rfl, rfl, rfl, Nat.le_refl _, fun _ _ _ => rfl⟩ (hS _ rfl))

theorem wpOrd_nil {a : Act} {w : World} (h : Q .normal a w) : wpOrd P ops Q S [] a w := h
/-- an operation that only looks -/
theorem wpOrd_look {o : Oper} {r : List (Nat × Oper)} {a : Act} {w : World} {v : Value} (hw : Region.wanted o (yielded ops a.tmps) = true) (hv : ∀ w, S w → (execOp a.eval o).run P w = .ok (.value v) w) (hS : S w)
    (hQ : ∀ c a w, Q (.panic c) (a.put o.dst v) w → Q (.panic c) a w) (h : wpOrd P ops Q S r (a.put o.dst v) w) : wpOrd P ops Q S ((0, o) :: r) a w := ⟨v, .inl ⟨hw, hv⟩, hS, hQ, h⟩
/-- one that its guard passes over -/
theorem wpOrd_pass {o : Oper} {r : List (Nat × Oper)} {a : Act} {w : World} (hw : Region.wanted o (yielded ops a.tmps) = false) (hS : S w)
    (hQ : ∀ c a w, Q (.panic c) (a.put o.dst undef) w → Q (.panic c) a w) (h : wpOrd P ops Q S r (a.put o.dst undef) w) : wpOrd P ops Q S ((0, o) :: r) a w := ⟨undef, .inr ⟨hw, rfl⟩, hS, hQ, h⟩
theorem wpOrd_turn {o : Oper} {r : List (Nat × Oper)} {a : Act} {w : World} (h : wpList P ops (QN Q fun a' w' => S w' ∧ wpOrd P ops Q S r a' w') [o] a w) : wpOrd P ops Q S ((1, o) :: r) a w := h
theorem wpOrd_last {o : Oper} {r : List (Nat × Oper)} {a : Act} {w : World} (h : wpList P ops (QN Q fun a' w' => wpOrd P ops Q S r a' w') [o] a w) : wpOrd P ops Q S ((2, o) :: r) a w := h
theorem QN_keep {r : List (Nat × Oper)} {a : Act} {w : World} (hS : S w) (h : S w → wpOrd P ops Q S r a w) : QN Q (fun a' w' => S w' ∧ wpOrd P ops Q S r a' w') .normal a w := ⟨hS, h hS⟩
theorem QN_normal {K : Act → World → Prop} {a : Act} {w : World} (h : K a w) : QN Q K .normal a w := h
end
end Go.Proofs.Ytdlcpmjhngfgkaa
