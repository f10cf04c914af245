import Derived.Test.YtjgbkdbkachciaaGreatDoorQ0
/-
  A region that draws its order, walked once in an order of the prover's: the last operation may wait for the others through a chain.
-/
namespace Go.Proofs.YtjgbkdbkachciaaGreatDoor

def afterHas (ops : Array Oper) (k j : Nat) : Bool := match ops[k]? with
  | some o => o.after.any fun e => Region.binds .any e && e.on == j
  | none => false
def chainV (ops : Array Oper) : Nat → Nat → List Nat
  | 0, i => [i]
  | n + 1, i => i :: match ops[i]? with
    | some o => (match o.after[0]? with
      | some e => if Region.binds .any e then chainV ops n e.on else []
      | none => [])
    | none => []
def sinkV (ops : Array Oper) (i : Nat) : Bool := (List.range ops.size).all fun j => j == i || (chainV ops 6 i).any fun k => afterHas ops k j
/-- whoever is listed, those that it waits for are -/
def Closed (ops : Array Oper) (listed : Array Bool) : Prop := ∀ k o, ops[k]? = some o → listed.getD k false = true → ∀ e ∈ o.after, Region.binds .any e = true → listed.getD e.on false = true
theorem closed_none (ops : Array Oper) (n : Nat) : Closed ops (Array.replicate n false) := fun k o _ h => by
  exfalso
  by_cases hk : k < n <;> simp [hk] at h
theorem getD_set_self {listed : Array Bool} {i : Nat} (h : listed.getD i true = false) : (listed.setIfInBounds i true).getD i false = true := by
  rcases Nat.lt_or_ge i listed.size with h' | h'
  · simp [h']
  · simp [Array.getElem?_eq_none h'] at h
theorem closed_set {ops : Array Oper} {listed : Array Bool} {i : Nat} (h : Closed ops listed) (hi : i ∈ Region.ready .any ops listed) : Closed ops (listed.setIfInBounds i true) := by
  intro k o hk hl e he hb
  have hold : listed.getD e.on false = true → (listed.setIfInBounds i true).getD e.on false = true := fun hh => by
    by_cases hei : i = e.on
    · rw [← hei]; exact getD_set_self (mem_ready.1 hi).1
    · rw [getD_set_ne false hei]; exact hh
  by_cases hki : i = k
  · subst hki
    obtain ⟨_, o', ho', hall⟩ := mem_ready.1 hi
    obtain rfl : o = o' := Option.some.inj (hk.symm.trans ho')
    exact hold (hall e he hb)
  · rw [getD_set_ne false hki] at hl
    exact hold (h k o hk hl e he hb)
def AllIn (ops : Array Oper) (listed : Array Bool) (i : Nat) : Prop := ∀ o, ops[i]? = some o → ∀ e ∈ o.after, Region.binds .any e = true → listed.getD e.on false = true
theorem chain_all {ops : Array Oper} {listed : Array Bool} (hc : Closed ops listed) : ∀ (n i : Nat), AllIn ops listed i → ∀ k ∈ chainV ops n i, AllIn ops listed k
  | 0, i, h, k, hk => by simp [chainV] at hk; subst hk; exact h
  | n + 1, i, h, k, hk => by
    rw [chainV, List.mem_cons] at hk
    rcases hk with rfl | hk
    · exact h
    · cases ho : ops[i]? with
      | none => rw [ho] at hk; simp at hk
      | some o =>
        rw [ho] at hk
        simp only at hk
        cases he : o.after[0]? with
        | none => rw [he] at hk; simp at hk
        | some e =>
          rw [he] at hk
          simp only at hk
          split at hk
          · next hb =>
            have hl := h o ho e (Array.mem_of_getElem? he) hb
            exact chain_all hc n e.on (fun o' ho' => hc e.on o' ho' hl) k hk
          · simp at hk
theorem sink_listed {ops : Array Oper} {listed : Array Bool} {i j : Nat} (hc : Closed ops listed) (hi : i ∈ Region.ready .any ops listed) (hs : sinkV ops i = true) (hj : j < ops.size) (hne : j ≠ i) : listed.getD j false = true := by
  obtain ⟨_, o, ho, hall⟩ := mem_ready.1 hi
  simp only [sinkV, List.all_eq_true, List.mem_range, Bool.or_eq_true, beq_iff_eq, List.any_eq_true] at hs
  rcases hs j hj with h | ⟨k, hk, ha⟩
  · exact absurd h hne
  · have hA := chain_all hc 6 i (fun o' ho' => by obtain rfl := Option.some.inj (ho.symm.trans ho'); exact hall) k hk
    unfold afterHas at ha
    cases hok : ops[k]? with
    | none => rw [hok] at ha; simp at ha
    | some ok =>
      rw [hok] at ha
      simp only at ha
      obtain ⟨e, he, hb⟩ := Array.any_eq_true'.1 ha
      simp only [Bool.and_eq_true, beq_iff_eq] at hb
      rw [← hb.2]
      exact hA ok hok e he hb.1

section
variable {P : Program} {ops : Array Oper} {Q : Exit → Act → World → Prop} {S : World → Prop}

def wpAnyV (P : Program) (ops : Array Oper) (Q : Exit → Act → World → Prop) (S : World → Prop) : Nat → Array Bool → Act → World → Prop
  | 0, listed, a, w => Region.ready .any ops listed = [] ∧ Q .normal a w
  | fuel + 1, listed, a, w =>
    (Region.ready .any ops listed = [] → Q .normal a w) ∧
    ∀ i ∈ Region.ready .any ops listed, wpOp P ops Q i (fun a' w' => (sinkV ops i = false → S w') ∧ wpAnyV P ops Q S fuel (listed.setIfInBounds i true) a' w') a w
theorem wpAny_of_V : ∀ (fuel : Nat) (listed : Array Bool) (a : Act) (w : World), wpAnyV P ops Q S fuel listed a w → wpAny P .any ops Q fuel listed a w
  | 0, _, _, _, h => h
  | fuel + 1, _, _, _, h => ⟨h.1, fun i hi => wpOp_mono (fun a' w' h' => wpAny_of_V fuel _ a' w' h'.2) (h.2 i hi)⟩
theorem wpAnyV_first {i : Nat} {oi : Oper} {v : Value} (hi : ops[i]? = some oi) (hsel : ∀ (j : Nat) (o : Oper) cs b, ops[j]? = some o → o.op ≠ .select cs b)
    (hQ : ∀ c a w, Q (.panic c) (a.put oi.dst v) w → Q (.panic c) a w) :
    ∀ (fuel : Nat) (listed : Array Bool) (a : Act) (w : World), Closed ops listed →
      (∀ j oj, ops[j]? = some oj → j ≠ i → listed.getD j true = false → (∀ e ∈ oj.after, Region.binds .any e = true → e.on ≠ i) → oi.apart ops oj = true) →
      i ∈ Region.ready .any ops listed → YieldsIf P ops S oi v a → S w →
      wpAnyV P ops Q S fuel (listed.setIfInBounds i true) (a.put oi.dst v) w → wpAnyV P ops Q S (fuel + 1) listed a w := by
  intro fuel
  induction fuel with
  | zero =>
    intro listed a w _ _ hr hy hS H
    refine ⟨fun h => (by rw [h] at hr; cases hr), fun j hj => ?_⟩
    by_cases hji : j = i
    · subst hji; exact hy.wpOp hi hS ⟨fun _ => hS, H⟩
    · have := ready_mono hj hji
      rw [H.1] at this
      cases this
  | succ fuel ih =>
    intro listed a w hcl hfree hr hy hS H
    refine ⟨fun h => (by rw [h] at hr; cases hr), fun j hj => ?_⟩
    by_cases hji : j = i
    · subst hji; exact hy.wpOp hi hS ⟨fun _ => hS, H⟩
    · have h1 := H.2 j (ready_mono hj hji)
      obtain ⟨hjun, oj, hoj, hall⟩ := mem_ready.1 hj
      have hun := (mem_ready.1 hr).1
      have hnl : listed.getD i false ≠ true := fun h => by
        rcases Nat.lt_or_ge i listed.size with h' | h'
        · simp [h'] at h hun; rw [hun] at h; cases h
        · simp [Array.getElem?_eq_none h'] at h
      have hnot : ∀ e ∈ oj.after, Region.binds .any e = true → e.on ≠ i := fun e he hb heq => by
        have h1 := hall e he hb
        rw [heq] at h1
        exact hnl h1
      have hsk : sinkV ops j = false := by
        cases hs : sinkV ops j with
        | false => rfl
        | true => exact absurd (sink_listed hcl hj hs (Array.getElem?_eq_some_iff.1 hi).1 (Ne.symm hji)) hnl
      have h2 := wpOp_putIf hoj (hfree j oj hoj hji hjun hnot) (fun cs b => hsel i oi cs b hi) (fun cs b => hsel j oj cs b hoj) hQ hy h1
      have hfree' : ∀ k ok, ops[k]? = some ok → k ≠ i → (listed.setIfInBounds j true).getD k true = false →
          (∀ e ∈ ok.after, Region.binds .any e = true → e.on ≠ i) → oi.apart ops ok = true := fun k ok hk hki hun hno => by
        refine hfree k ok hk hki ?_ hno
        by_cases hjk : j = k
        · subst hjk; exact hjun
        · rw [getD_set_ne true hjk] at hun; exact hun
      refine wpOp_mono (fun a' w' h3 => ⟨fun _ => h3.2.1 hsk, ih (listed.setIfInBounds j true) a' w' (closed_set hcl hj) hfree' (ready_mono hr (Ne.symm hji)) h3.1 (h3.2.1 hsk) ?_⟩) h2
      rw [Array.setIfInBounds_comm _ _ hji]
      exact h3.2.2
def ordV (ops : Array Oper) : List (Nat × Nat) → Array Bool → Bool
  | [], listed => (Region.ready .any ops listed).isEmpty
  | (0, i) :: r, listed => (Region.ready .any ops listed).contains i && Region.free .any ops listed i && ordV ops r (listed.setIfInBounds i true)
  | (1, i) :: r, listed => decide (Region.ready .any ops listed = [i]) && ordV ops r (listed.setIfInBounds i true)
  | (_ + 2, i) :: r, listed => decide (Region.ready .any ops listed = [i]) && sinkV ops i && ordV ops r (listed.setIfInBounds i true)
theorem wpAnyV_of_ord {l : List Oper} (hsel : Region.noSelect l.toArray = true) : ∀ (ord : List (Nat × Nat)) (listed : Array Bool) (a : Act) (w : World), Closed l.toArray listed → ordV l.toArray ord listed = true → wpOrd P l.toArray Q S (pickOps l ord) a w → wpAnyV P l.toArray Q S ord.length listed a w
  | [], listed, a, w, _, hB, h => ⟨by simpa [ordV] using hB, h⟩
  | (0, i) :: r, listed, a, w, hcl, hB, h => by
    simp only [ordV, Bool.and_eq_true] at hB
    obtain ⟨⟨h1, h2⟩, h3⟩ := hB
    have hr : i ∈ Region.ready .any l.toArray listed := by simpa using h1
    obtain ⟨_, o, ho, _⟩ := mem_ready.1 hr
    have hp : pickOps l ((0, i) :: r) = (0, o) :: pickOps l r := by
      have : l[i]? = some o := by simpa using ho
      simp [pickOps, this]
    rw [hp] at h
    obtain ⟨v, hy, hS, hQ, hK⟩ := h
    exact wpAnyV_first ho (Region.noSelect_spec hsel) hQ r.length listed a w hcl (Region.free_spec ho h2) hr hy hS (wpAnyV_of_ord hsel r _ _ _ (closed_set hcl hr) h3 hK)
  | (1, i) :: r, listed, a, w, hcl, hB, h => by
    simp only [ordV, Bool.and_eq_true, decide_eq_true_eq] at hB
    obtain ⟨h1, h3⟩ := hB
    have hr : i ∈ Region.ready .any l.toArray listed := by rw [h1]; simp
    obtain ⟨_, o, ho, _⟩ := mem_ready.1 hr
    have hp : pickOps l ((1, i) :: r) = (1, o) :: pickOps l r := by
      have : l[i]? = some o := by simpa using ho
      simp [pickOps, this]
    rw [hp] at h
    refine ⟨fun h0 => (by rw [h1] at h0; cases h0), fun j hj => ?_⟩
    rw [h1] at hj
    obtain rfl : j = i := by simpa using hj
    exact wpOp_mono (fun a' w' h' => ⟨fun _ => h'.1, wpAnyV_of_ord hsel r _ _ _ (closed_set hcl hr) h3 h'.2⟩) (wpOp_of_list ho h)
  | (k + 2, i) :: r, listed, a, w, hcl, hB, h => by
    simp only [ordV, Bool.and_eq_true, decide_eq_true_eq] at hB
    obtain ⟨⟨h1, h2⟩, h3⟩ := hB
    have hr : i ∈ Region.ready .any l.toArray listed := by rw [h1]; simp
    obtain ⟨_, o, ho, _⟩ := mem_ready.1 hr
    have hp : pickOps l ((k + 2, i) :: r) = (k + 2, o) :: pickOps l r := by
      have : l[i]? = some o := by simpa using ho
      simp [pickOps, this]
    rw [hp] at h
    refine ⟨fun h0 => (by rw [h1] at h0; cases h0), fun j hj => ?_⟩
    rw [h1] at hj
    obtain rfl : j = i := by simpa using hj
    exact wpOp_mono (fun a' w' h' => ⟨fun hs => (by rw [h2] at hs; cases hs), wpAnyV_of_ord hsel r _ _ _ (closed_set hcl hr) h3 h'⟩) (wpOp_of_list ho h)
theorem wp_region_ordV {id : Nat} {l : List Oper} {a : Act} {w : World} (hm : P.follows .mixedOrders = true) (S : World → Prop) (ord : List (Nat × Nat))
    (hB : (Region.noSelect l.toArray && decide (ord.length = l.length) && ordV l.toArray ord (Array.replicate l.length false)) = true)
    (hS : ∀ wd : World, wd.heap = w.heap → S wd)
    (h : ∀ wd : World, wd.heap = w.heap → w.grownBy wd none → S wd → wpOrd P l.toArray Q S (pickOps l ord) a wd) : (Code.region id l.toArray true).wp P Q a w := by
  simp only [Bool.and_eq_true, decide_eq_true_eq] at hB
  obtain ⟨⟨h1, h2⟩, h3⟩ := hB
  refine wp_region_any hm ?_
  have := wpAny_of_V _ _ _ _ (wpAnyV_of_ord h1 ord _ a _ (closed_none _ _) h3 (h { w with drawn := w.drawn + 1 } rfl ⟨rfl, rfl, rfl, Nat.le_refl _, fun _ _ _ => rfl⟩ (hS _ rfl)))
  rw [h2] at this
  simpa using this
end
end Go.Proofs.YtjgbkdbkachciaaGreatDoor

/-
  A region that draws its order, walked in the orders of a tree: where two operations turn the world and neither waits for the other, both ways are walked.
-/
namespace Go.Proofs.YtjgbkdbkachciaaGreatDoor

inductive OT where
  | nil
  | one (k i : Nat) (r : OT)
  | two (i j : Nat) (r s : OT)

section
variable {P : Program} {Q : Exit → Act → World → Prop} {S : World → Prop}

/-- a region's operations in the orders of a tree -/
def wpOrdT (P : Program) (l : List Oper) (Q : Exit → Act → World → Prop) (S : World → Prop) : OT → Act → World → Prop
  | .nil, a, w => Q .normal a w
  | .one 0 i r, a, w => ∃ o v, l[i]? = some o ∧ YieldsIf P l.toArray S o v a ∧ S w ∧ (∀ c a w, Q (.panic c) (a.put o.dst v) w → Q (.panic c) a w) ∧ wpOrdT P l Q S r (a.put o.dst v) w
  | .one 1 i r, a, w => ∃ o, l[i]? = some o ∧ wpList P l.toArray (QN Q fun a' w' => S w' ∧ wpOrdT P l Q S r a' w') [o] a w
  | .one (_ + 2) i r, a, w => ∃ o, l[i]? = some o ∧ wpList P l.toArray (QN Q fun a' w' => wpOrdT P l Q S r a' w') [o] a w
  | .two i j r s, a, w => (∃ o, l[i]? = some o ∧ wpList P l.toArray (QN Q fun a' w' => S w' ∧ wpOrdT P l Q S r a' w') [o] a w) ∧ ∃ o, l[j]? = some o ∧ wpList P l.toArray (QN Q fun a' w' => S w' ∧ wpOrdT P l Q S s a' w') [o] a w

def ordT (ops : Array Oper) : OT → Nat → Array Bool → Bool
  | .nil, 0, listed => (Region.ready .any ops listed).isEmpty
  | .one 0 i r, n + 1, listed => (Region.ready .any ops listed).contains i && Region.free .any ops listed i && ordT ops r n (listed.setIfInBounds i true)
  | .one 1 i r, n + 1, listed => decide (Region.ready .any ops listed = [i]) && ordT ops r n (listed.setIfInBounds i true)
  | .one (_ + 2) i r, n + 1, listed => decide (Region.ready .any ops listed = [i]) && sinkV ops i && ordT ops r n (listed.setIfInBounds i true)
  | .two i j r s, n + 1, listed => decide (Region.ready .any ops listed = [i, j]) && ordT ops r n (listed.setIfInBounds i true) && ordT ops s n (listed.setIfInBounds j true)
  | _, _, _ => false

theorem wpAnyV_of_tree {l : List Oper} (hsel : Region.noSelect l.toArray = true) : ∀ (t : OT) (n : Nat) (listed : Array Bool) (a : Act) (w : World), Closed l.toArray listed → ordT l.toArray t n listed = true → wpOrdT P l Q S t a w → wpAnyV P l.toArray Q S n listed a w
  | .nil, 0, listed, a, w, _, hB, h => ⟨by simpa [ordT] using hB, h⟩
  | .nil, n + 1, _, _, _, _, hB, _ => by simp [ordT] at hB
  | .one k i r, 0, _, _, _, _, hB, _ => by simp [ordT] at hB
  | .two i j r s, 0, _, _, _, _, hB, _ => by simp [ordT] at hB
  | .one 0 i r, n + 1, listed, a, w, hcl, hB, h => by
    simp only [ordT, Bool.and_eq_true] at hB
    obtain ⟨⟨h1, h2⟩, h3⟩ := hB
    have hr : i ∈ Region.ready .any l.toArray listed := by simpa using h1
    obtain ⟨o, v, ho, hy, hS, hQ, hK⟩ := h
    have ho : l.toArray[i]? = some o := by simpa using ho
    exact wpAnyV_first ho (Region.noSelect_spec hsel) hQ n listed a w hcl (Region.free_spec ho h2) hr hy hS (wpAnyV_of_tree hsel r _ _ _ _ (closed_set hcl hr) h3 hK)
  | .one 1 i r, n + 1, listed, a, w, hcl, hB, h => by
    simp only [ordT, Bool.and_eq_true, decide_eq_true_eq] at hB
    obtain ⟨h1, h3⟩ := hB
    have hr : i ∈ Region.ready .any l.toArray listed := by rw [h1]; simp
    obtain ⟨o, ho, h⟩ := h
    have ho : l.toArray[i]? = some o := by simpa using ho
    refine ⟨fun h0 => (by rw [h1] at h0; cases h0), fun j hj => ?_⟩
    rw [h1] at hj
    obtain rfl : j = i := by simpa using hj
    exact wpOp_mono (fun a' w' h' => ⟨fun _ => h'.1, wpAnyV_of_tree hsel r _ _ _ _ (closed_set hcl hr) h3 h'.2⟩) (wpOp_of_list ho h)
  | .one (k + 2) i r, n + 1, listed, a, w, hcl, hB, h => by
    simp only [ordT, Bool.and_eq_true, decide_eq_true_eq] at hB
    obtain ⟨⟨h1, h2⟩, h3⟩ := hB
    have hr : i ∈ Region.ready .any l.toArray listed := by rw [h1]; simp
    obtain ⟨o, ho, h⟩ := h
    have ho : l.toArray[i]? = some o := by simpa using ho
    refine ⟨fun h0 => (by rw [h1] at h0; cases h0), fun j hj => ?_⟩
    rw [h1] at hj
    obtain rfl : j = i := by simpa using hj
    exact wpOp_mono (fun a' w' h' => ⟨fun hs => (by rw [h2] at hs; cases hs), wpAnyV_of_tree hsel r _ _ _ _ (closed_set hcl hr) h3 h'⟩) (wpOp_of_list ho h)
  | .two i j r s, n + 1, listed, a, w, hcl, hB, h => by
    simp only [ordT, Bool.and_eq_true, decide_eq_true_eq] at hB
    obtain ⟨⟨h1, h3⟩, h4⟩ := hB
    have hi : i ∈ Region.ready .any l.toArray listed := by rw [h1]; simp
    have hj : j ∈ Region.ready .any l.toArray listed := by rw [h1]; simp
    obtain ⟨⟨o, ho, h⟩, o', ho', h'⟩ := h
    have ho : l.toArray[i]? = some o := by simpa using ho
    have ho' : l.toArray[j]? = some o' := by simpa using ho'
    refine ⟨fun h0 => (by rw [h1] at h0; cases h0), fun k hk => ?_⟩
    rw [h1] at hk
    rcases (by simpa using hk : k = i ∨ k = j) with rfl | rfl
    · exact wpOp_mono (fun a' w' h' => ⟨fun _ => h'.1, wpAnyV_of_tree hsel r _ _ _ _ (closed_set hcl hi) h3 h'.2⟩) (wpOp_of_list ho h)
    · exact wpOp_mono (fun a' w' h' => ⟨fun _ => h'.1, wpAnyV_of_tree hsel s _ _ _ _ (closed_set hcl hj) h4 h'.2⟩) (wpOp_of_list ho' h')

theorem wp_region_ordT {id : Nat} {l : List Oper} {a : Act} {w : World} (hm : P.follows .mixedOrders = true) (S : World → Prop) (t : OT)
    (hB : (Region.noSelect l.toArray && ordT l.toArray t l.length (Array.replicate l.length false)) = true)
    (hS : ∀ wd : World, wd.heap = w.heap → S wd)
    (h : ∀ wd : World, wd.heap = w.heap → w.grownBy wd none → S wd → wpOrdT P l Q S t a wd) : (Code.region id l.toArray true).wp P Q a w := by
  simp only [Bool.and_eq_true] at hB
  obtain ⟨h1, h3⟩ := hB
  refine wp_region_any hm ?_
  have := wpAny_of_V _ _ _ _ (wpAnyV_of_tree h1 t _ _ a _ (closed_none _ _) h3 (h { w with drawn := w.drawn + 1 } rfl ⟨rfl, rfl, rfl, Nat.le_refl _, fun _ _ _ => rfl⟩ (hS _ rfl)))
  simpa using this

theorem wpOrdT_nil {l : List Oper} {a : Act} {w : World} (h : Q .normal a w) : wpOrdT P l Q S .nil a w := h
theorem wpOrdT_look {l : List Oper} {i : Nat} {o : Oper} {r : OT} {a : Act} {w : World} {v : Value} (ho : l[i]? = some o) (hw : Region.wanted o (yielded l.toArray a.tmps) = true) (hv : ∀ w, S w → (execOp a.eval o).run P w = .ok (.value v) w) (hS : S w)
    (hQ : ∀ c a w, Q (.panic c) (a.put o.dst v) w → Q (.panic c) a w) (h : wpOrdT P l Q S r (a.put o.dst v) w) : wpOrdT P l Q S (.one 0 i r) a w := ⟨o, v, ho, .inl ⟨hw, hv⟩, hS, hQ, h⟩
theorem wpOrdT_turn {l : List Oper} {i : Nat} {o : Oper} {r : OT} {a : Act} {w : World} (ho : l[i]? = some o) (h : wpList P l.toArray (QN Q fun a' w' => S w' ∧ wpOrdT P l Q S r a' w') [o] a w) : wpOrdT P l Q S (.one 1 i r) a w := ⟨o, ho, h⟩
theorem wpOrdT_last {l : List Oper} {i : Nat} {o : Oper} {r : OT} {a : Act} {w : World} (ho : l[i]? = some o) (h : wpList P l.toArray (QN Q fun a' w' => wpOrdT P l Q S r a' w') [o] a w) : wpOrdT P l Q S (.one 2 i r) a w := ⟨o, ho, h⟩
theorem wpOrdT_two {l : List Oper} {i j : Nat} {o o' : Oper} {r s : OT} {a : Act} {w : World} (ho : l[i]? = some o) (ho' : l[j]? = some o') (h : wpList P l.toArray (QN Q fun a' w' => S w' ∧ wpOrdT P l Q S r a' w') [o] a w) (h' : wpList P l.toArray (QN Q fun a' w' => S w' ∧ wpOrdT P l Q S s a' w') [o'] a w) : wpOrdT P l Q S (.two i j r s) a w := ⟨⟨o, ho, h⟩, o', ho', h'⟩
theorem QNT_keep {l : List Oper} {r : OT} {a : Act} {w : World} (hS : S w) (h : S w → wpOrdT P l Q S r a w) : QN Q (fun a' w' => S w' ∧ wpOrdT P l Q S r a' w') .normal a w := ⟨hS, h hS⟩
end

/-- a frame by its slots -/
theorem frame_of (n : Nat) (a : Act) (h : a.tmps.size = n) : a = { tmps := ((List.range n).map fun i => a.tmps.getD i undef).toArray, defers := a.defers } := by
  obtain ⟨t, d⟩ := a
  simp only at h ⊢
  congr 1
  apply Array.ext
  · simp [h]
  · intro i h1 h2
    simp [Array.getD, h1]
end Go.Proofs.YtjgbkdbkachciaaGreatDoor
