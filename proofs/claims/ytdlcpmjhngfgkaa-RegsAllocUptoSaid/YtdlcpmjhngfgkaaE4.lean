import Derived.Test.YtdlcpmjhngfgkaaE3
namespace Go.Proofs.Ytdlcpmjhngfgkaa
open Go.RowKit Go.Shelf

/-- a cell of what lay there first, when values have met -/
theorem keptT_cell {P R n : Nat} {w0 w : World} (hk : KeptT w0.heap.size P R w0 w) (hP : ∃ es c, w0.heap[P]? = some (.map es c)) (hR : Row w0 R 32 (List.replicate n (.slice none 0 0))) {p : Addr} {v : Value} (hc : w0.cell? p = some v) (hv : ∀ ad m c, v = .slice ad m c → p.block ≠ R) (hi : (∃ ad m c, v = .slice ad m c) ∨ ∀ ad m c, v ≠ .slice ad m c) : w.cell? p = some v := by
  refine (World.cell?_of_block (hk.block p.block (World.block_lt_of_cell? w0 _ hc) (fun e => ?_) (fun e => ?_))).trans hc
  · obtain ⟨es, c, h⟩ := hP
    rw [World.cell?, e, h] at hc; cases hc
  · rcases hi with ⟨ad, m, c, h⟩ | h
    · exact hv ad m c h e
    · rw [World.cell?, e, show w0.heap[R]? = _ from hR] at hc
      simp only at hc
      split at hc
      · cases hc
      · have := List.mem_of_getElem? (by rw [← List.getElem?_toArray]; exact hc : (List.replicate n (Value.slice none 0 0))[p.off]? = some v)
        exact h _ _ _ (List.eq_of_mem_replicate this)

theorem RInts.keptT {P R n : Nat} {w0 w : World} (hk : KeptT w0.heap.size P R w0 w) (hP : ∃ es c, w0.heap[P]? = some (.map es c)) (hR : Row w0 R 32 (List.replicate n (.slice none 0 0))) {v : Value} {l : List Int} (h : RInts w0 v l) : RInts w v l := by
  obtain ⟨a, c, hv, hm, h⟩ := h
  refine ⟨a, c, hv, hm, h.imp id ?_⟩
  rintro ⟨b, o, ha, h⟩
  refine ⟨b, o, ha, fun i x hx => ?_⟩
  obtain ⟨C, hC, hr⟩ := h i x hx
  refine ⟨C, fun j hj => ?_, hr⟩
  obtain rfl : j = 0 := by omega
  have h0 : C 0 = I x := hr.1
  exact keptT_cell hk hP hR (hC 0 (by omega)) (fun ad m c e => by rw [h0] at e; cases e) (.inr (fun ad m c e => by rw [h0] at e; cases e))

theorem RLs.keptT {P R n base : Nat} {w0 w : World} (hk : KeptT w0.heap.size P R w0 w) (hP : ∃ es c, w0.heap[P]? = some (.map es c)) (hR : Row w0 R 32 (List.replicate n (.slice none 0 0))) (hRb : R < base) {v : Value} {l : List (List Int)} (h : RLs w0 v l) (hv : FromB base v) : RLs w v l := by
  obtain ⟨a, c, rfl, hm, h⟩ := h
  refine ⟨a, c, rfl, hm, h.imp id ?_⟩
  rintro ⟨b, o, rfl, h'⟩
  have hb : base ≤ b := hv _ _ _ rfl
  refine ⟨b, o, rfl, fun i x hx => ?_⟩
  obtain ⟨C, hC, hr⟩ := h' i x hx
  refine ⟨C, fun j hj => ?_, RInts.keptT hk hP hR hr.1, hr.2⟩
  obtain rfl : j = 0 := by omega
  obtain ⟨ad, cc, h0, _⟩ := hr.2
  exact keptT_cell hk hP hR (hC 0 (by omega)) (fun _ _ _ _ => by simp only; omega) (.inl ⟨_, _, _, h0⟩)

theorem RLLs.keptT {P R n base : Nat} {w0 w : World} (hk : KeptT w0.heap.size P R w0 w) (hP : ∃ es c, w0.heap[P]? = some (.map es c)) (hR : Row w0 R 32 (List.replicate n (.slice none 0 0))) (hRb : R < base) {v : Value} {l : List (List (List Int))} (h : RLLs base w0 v l) (hv : FromB base v) : RLLs base w v l := by
  obtain ⟨a, c, rfl, hm, h⟩ := h
  refine ⟨a, c, rfl, hm, h.imp id ?_⟩
  rintro ⟨b, o, rfl, h'⟩
  have hb : base ≤ b := hv _ _ _ rfl
  refine ⟨b, o, rfl, fun i x hx => ?_⟩
  obtain ⟨C, hC, hr⟩ := h' i x hx
  refine ⟨C, fun j hj => ?_, RLs.keptT hk hP hR hRb hr.1 hr.2, hr.2⟩
  obtain rfl : j = 0 := by omega
  obtain ⟨ad, cc, h0, _⟩ := RSl.form hr.1
  exact keptT_cell hk hP hR (hC 0 (by omega)) (fun _ _ _ _ => by simp only; omega) (.inl ⟨_, _, _, h0⟩)

end Go.Proofs.Ytdlcpmjhngfgkaa
