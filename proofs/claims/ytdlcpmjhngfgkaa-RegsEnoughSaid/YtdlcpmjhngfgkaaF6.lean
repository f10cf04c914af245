import Derived.Test.YtdlcpmjhngfgkaaF5
namespace Go.Proofs.Ytdlcpmjhngfgkaa
open Go.RowKit Go.Shelf
attribute [local go_sem] Oper.semAt_some

theorem lawIns_any (k d a b op n : Int) (nm : ByteArray) (ag nv : Value) (nb : Nat) (w : World) (hk : InI k) (hd : InI d) (ha : InI a) (hb : InI b) (hop : InI op) (hn : InI n) (hnm : Names w nv nb) :
    Calls Try.prog 27 #[.agg #[I k, I d, I a, I b, I op, I n, .string nm, ag], nv] w (InsPost w) := by
  have h9 := pickI_nonneg k 9 (by omega)
  have h2 := pickI_nonneg n 2 (by omega)
  rcases (by omega : pickI k 9 = 0 ∨ pickI k 9 = 1 ∨ pickI k 9 = 2 ∨ pickI k 9 = 3 ∨ pickI k 9 = 4 ∨ pickI k 9 = 5 ∨ pickI k 9 = 6 ∨ pickI k 9 = 7 ∨ pickI k 9 = 8) with h | h | h | h | h | h | h | h | h
  · exact ins_1 k d a b op n nm ag nv w hk hd ha hb hop hn h
  · exact ins_2 k d a b op n nm ag nv w hk hd ha hb hop hn h
  · exact ins_3 k d a b op n nm ag nv w hk hd ha hb hop hn h
  · exact ins_4 k d a b op n nm ag nv w hk hd ha hb hop hn h
  · rcases (by omega : pickI n 2 = 0 ∨ pickI n 2 = 1) with h' | h'
    · exact ins_5a k d a b op n nm ag nv w hk hd ha hb hop hn h h'
    · exact ins_5b k d a b op n nm ag nv w hk hd ha hb hop hn h h'
  · rcases (by omega : pickI n 2 = 0 ∨ pickI n 2 = 1) with h' | h'
    · exact ins_6a k d a b op n nm ag nv w hk hd ha hb hop hn h h'
    · exact ins_6b k d a b op n nm ag nv w hk hd ha hb hop hn h h'
  · exact ins_7 k d a b op n nm ag nv w hk hd ha hb hop hn h
  · exact ins_8 k d a b op n nm ag nv w hk hd ha hb hop hn h
  · exact ins_9 k d a b op n nm ag nv nb w hk hd ha hb hop hn h hnm

theorem flat_get {α : Type} {enc : α → List Value} {k : Nat} (hk : ∀ x, (enc x).length = k) : ∀ (l : List α) (i j : Nat), j < k → (l.flatMap enc)[i * k + j]? = (l[i]?).bind fun x => (enc x)[j]?
  | [], i, j, _ => by simp
  | x :: l, 0, j, hj => by
    rw [List.flatMap_cons, Nat.zero_mul, Nat.zero_add, List.getElem?_append_left (by rw [hk]; exact hj)]
    simp
  | x :: l, i + 1, j, hj => by
    rw [List.flatMap_cons, List.getElem?_append_right (by rw [hk, Nat.succ_mul]; omega), hk, show (i + 1) * k + j - k = i * k + j by rw [Nat.succ_mul]; omega, flat_get hk l i j hj]
    simp
theorem flat_len {α : Type} {enc : α → List Value} {k : Nat} (hk : ∀ x, (enc x).length = k) : ∀ (l : List α), (l.flatMap enc).length = l.length * k
  | [] => by simp
  | x :: l => by rw [List.flatMap_cons, List.length_append, hk, flat_len hk l, List.length_cons, Nat.succ_mul, Nat.add_comm]

/-- a slice that owns its elements of k cells each -/
def OwnS {α : Type} (k e : Nat) (enc : α → List Value) (w : World) (base : Nat) (v : Value) (l : List α) : Prop := w.ownsRow base e k v l.length (l.flatMap enc)
section
variable {α : Type} {k e : Nat} {enc : α → List Value} {w : World} {base : Nat} {v : Value} {l : List α}
theorem OwnS.nil : OwnS k e enc w base (.slice none 0 0) ([] : List α) := ⟨by simp, .inl ⟨rfl, rfl⟩⟩
theorem OwnS.slice (h : OwnS k e enc w base v l) : ∃ a c, v = .slice a l.length c := by
  rcases h.2 with ⟨rfl, h0⟩ | ⟨g, cap, _, rfl, _⟩
  · exact ⟨_, _, by rw [h0]⟩
  · exact ⟨_, _, rfl⟩
theorem OwnS.cell (h : OwnS k e enc w base v l) (hk : ∀ x, (enc x).length = k) {i : Nat} (hi : i < l.length) :
    ∃ g c, v = .slice (some ⟨g, 0, none⟩) l.length c ∧ base ≤ g ∧ ∀ j, j < k → w.cell? ⟨g, i * k + j, none⟩ = (enc l[i])[j]? ∧ w.frozen? ⟨g, i * k + j, none⟩ = false := by
  rcases h.2 with ⟨rfl, h0⟩ | ⟨g, cap, cur, rfl, hb, hg, hc, hm, hs, ht⟩
  · omega
  · refine ⟨g, cap, rfl, hb, fun j hj => ⟨?_, by simp [World.frozen?, hg]⟩⟩
    rw [cell_of_block hg]
    have h1 := flat_get hk l i j hj
    rw [List.getElem?_eq_getElem hi] at h1
    simp only [Option.bind_some] at h1
    rw [← h1, ← ht, List.getElem?_take]
    have h2 : i * k + j < l.length * k := by
      have : (i + 1) * k ≤ l.length * k := Nat.mul_le_mul_right k hi
      rw [Nat.succ_mul] at this
      omega
    simp [h2]
theorem OwnS.rsl {β : Type} {R : World → (Nat → Value) → β → Prop} (f : α → β) (h : OwnS k e enc w base v l) (hk : ∀ x, (enc x).length = k) (hl : l.length ≤ 140737488351232) (hR : ∀ x ∈ l, R w (fun j => (enc x).getD j undef) (f x)) : RSl k R w v (l.map f) := by
  obtain ⟨a, c, hv⟩ := h.slice
  refine ⟨a, c, by rw [List.length_map]; exact hv, by rw [List.length_map]; exact hl, ?_⟩
  cases l with
  | nil => exact .inl rfl
  | cons x0 l0 =>
    right
    obtain ⟨g, c', hv', _, _⟩ := h.cell hk (i := 0) (by simp)
    have ha : a = some ⟨g, 0, none⟩ := by rw [hv] at hv'; simp at hv'; exact hv'.1
    refine ⟨g, 0, ha, fun i x hx => ?_⟩
    rw [List.getElem?_map] at hx
    have hi : i < (x0 :: l0).length := by
      rcases Nat.lt_or_ge i (x0 :: l0).length with h' | h'
      · exact h'
      · rw [List.getElem?_eq_none h'] at hx; cases hx
    rw [List.getElem?_eq_getElem hi] at hx
    simp only [Option.map_some, Option.some.injEq] at hx
    obtain ⟨g2, c2, hv2, _, hcell⟩ := h.cell hk hi
    obtain rfl : g2 = g := by rw [hv'] at hv2; simp at hv2; exact hv2.1.symm
    refine ⟨fun j => (enc (x0 :: l0)[i]).getD j undef, fun j hj => ?_, by rw [← hx]; exact hR _ (List.getElem_mem hi)⟩
    rw [Nat.zero_add, (hcell j hj).1]
    have : j < (enc (x0 :: l0)[i]).length := by rw [hk]; exact hj
    simp [this]
theorem OwnS.tag {w' : World} {row : Option Nat} (h : OwnS k e enc w base v l) (hg : w.grownBy w' row) (hr : NoTag w row e) : OwnS k e enc w' base v l := ownsRow_tag h hg hr
theorem OwnS.mono {base' : Nat} (h : OwnS k e enc w base v l) (hb : base' ≤ base) : OwnS k e enc w base' v l :=
  ⟨h.1, h.2.imp (fun h => h) (fun ⟨g, cap, cur, h1, h2, h3⟩ => ⟨g, cap, cur, h1, Nat.le_trans hb h2, h3⟩)⟩
theorem OwnS.fromB (h : OwnS k e enc w base v l) : FromB base v := fun ad m c hv => by
  rcases h.2 with ⟨rfl, h0⟩ | ⟨g, cap, _, rfl, hb, _⟩
  · cases hv
  · cases hv; exact hb
end

/-- append of one element of some cells -/
theorem wpList_appS {α : Type} {t e k bytes : Nat} {enc : α → List Value} (S : SlT t e k bytes) {w : World} {ops : Array Oper} {rest : List Oper} {o : Oper} {a : Act} {Q : Exit → Act → World → Prop} (hgd : o.guard = none) (s x : Operand)
    (ho : o.op = .call { callee := .builtin .append, args := #[s, x], argTypes := #[t, t] }) (hk : ∀ x, (enc x).length = k) (h1 : ∀ x, ∀ u ∈ enc x, u.oneCell' = true)
    (base : Nat) (v : Value) (l : List α) (hs : a.eval s = v) (hown : OwnS k e enc w base v l)
    (g : Nat) (y : α) (hx : a.eval x = .slice (some ⟨g, 0, none⟩) 1 1) (hg : ∀ j, j < k → w.cell? ⟨g, j, none⟩ = (enc y)[j]?)
    (hl : l.length ≤ 1000000000) (hb8 : bytes ≤ 100) (hbase : base ≤ w.heap.size)
    (h : ∀ g' cap w', OwnS k e enc w' base (.slice (some ⟨g', 0, none⟩) (l.length + 1) cap) (l ++ [y]) → w.grownBy w' v.ownBlock → (v.ownBlock = some g' ∨ g' = w.heap.size) → g' < w'.heap.size → wpList Try.prog ops Q rest (a.put o.dst (.slice (some ⟨g', 0, none⟩) (l.length + 1) cap)) w') : wpList Try.prog ops Q (o :: rest) a w := by
  refine wpList_app S hgd s x ho base v l.length _ hs hown ⟨g, 0, none⟩ 1 1 (enc y) hx (by rw [hk]; omega) ?_ (h1 y) (by decide) ?_ (by unfold maxLen; omega) hbase ?_
  · intro j u hu
    rw [add_nat, Nat.zero_add]
    have hj : j < k := by rw [← hk y]; exact (List.getElem?_eq_some_iff.1 hu).1
    rw [hg j hj]
    exact hu
  · have : (l.length + 1) * bytes ≤ (l.length + 1) * 100 := Nat.mul_le_mul_left _ hb8
    omega
  · intro g' cap w' h1 h2 h3 h4
    exact h g' cap w' (by unfold OwnS; rw [List.length_append, List.flatMap_append]; simpa using h1) h2 h3 h4

/-- a slice whose cells all lie from a place on stays while what lies ahead is changed -/
theorem RSl.grownF {α : Type} {k base : Nat} {R : World → (Nat → Value) → α → Prop} {w w' : World} {row : Option Nat} {v : Value} {l : List α} (hR : ∀ C x, x ∈ l → R w C x → R w' C x) (hv : FromB base v) (hg : w.grownBy w' row) (hr : ∀ r, row = some r → r < base) (h : RSl k R w v l) : RSl k R w' v l := by
  obtain ⟨a, c, h1, h2, h3⟩ := h
  refine ⟨a, c, h1, h2, h3.imp (fun h => h) ?_⟩
  rintro ⟨b, o, rfl, h4⟩
  refine ⟨b, o, rfl, fun i x hx => ?_⟩
  obtain ⟨C, hC, hRx⟩ := h4 i x hx
  have hb := hv _ _ _ h1
  simp only [] at hb
  refine ⟨C, fun j hj => gcell (hC j hj) hg (fun e => ?_), hR _ _ (List.mem_of_getElem? hx) hRx⟩
  have := hr b e.symm
  omega

end Go.Proofs.Ytdlcpmjhngfgkaa
