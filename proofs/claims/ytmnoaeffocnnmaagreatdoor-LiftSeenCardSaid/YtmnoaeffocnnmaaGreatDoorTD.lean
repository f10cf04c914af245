import Derived.Test.YtmnoaeffocnnmaaGreatDoorQ0
import Derived.Deep.Slices
import Derived.SizedLaws
namespace Go.Proofs.YtmnoaeffocnnmaaGreatDoor
open Go.RowKit Go.Deep

section
variable {H : Type} {enc : TypeId × Value → H} {P : Program} {w : World} {sp : Nat → Bool} {held : Bool}

/-- the datum's sizes are within the form's reach -/
def Sized (P : Program) (t : TypeId) (d : DataW H) : Prop := ∀ n ∈ d.weights P t, n ≤ reachBytes

theorem weightsAll_mem {e : TypeId} : ∀ {l : List (DataW H)} {d : DataW H}, d ∈ l → ∀ n ∈ d.weights P e, n ∈ DataW.weightsAll P e l
  | x :: l, d, h, n, hn => by
    simp only [DataW.weightsAll, List.mem_append]
    rcases List.mem_cons.1 h with rfl | h
    · exact .inl hn
    · exact .inr (weightsAll_mem h n hn)

theorem Sized.of_all {ts : List TypeId} {ds : List (DataW H)} (h : (DataW.weightsEach P ts ds).all (· ≤ reachBytes) = true) {j : Nat} {t : TypeId} {d : DataW H} (ht : ts[j]? = some t) (hd : ds[j]? = some d) : Sized P t d := fun n hn => by
  have := List.all_eq_true.1 h n (DataW.weights_mem_each ht hd n hn)
  simpa using this

/-- a slice that came in reads as a list -/
theorem RSl.of_trod {α : Type} {k : Nat} (hk0 : 0 < k) {R : World → (Nat → Value) → α → Prop} {t e : TypeId} (ht : P.underlying t = some (.slice e)) (hk : P.cellsOf e = k) (hb : 0 < P.bytesOf e)
    (hel : ∀ n cs d ps, cs.length = k → DataW.trod enc P w 0 sp held n e cs = some (d, ps) → Sized P e d → ∃ a : α, R w (fun j => cs.getD j undef) a)
    {fuel : Nat} {v : Value} {d : DataW H} {ps : List MemPlace} (h : DataW.trod enc P w 0 sp held fuel t [v] = some (d, ps)) (hs : Sized P t d) : ∃ l : List α, RSl k R w v l := by
  rcases open_slice ht h with ⟨hv, _⟩ | ⟨a, len, cap, m, n, D, Pl, hv, _, hlc, hcap, hm, hx, hc⟩
  · simp only [List.cons.injEq, and_true] at hv
    subst hv
    exact ⟨[], none, 0, rfl, by simp, .inl rfl⟩
  · simp only [List.cons.injEq, and_true] at hv
    subst hv
    simp only [Prod.mk.injEq] at hx
    obtain ⟨rfl, rfl⟩ := hx
    have hlm : len ≤ m := by rw [hm]; split <;> omega
    have hlen : len ≤ 140737488351232 := by
      have h1 := hs _ (by simp only [DataW.weights, ht]; exact List.mem_cons_self)
      simp only [List.length_map, List.length_range] at h1
      have : len + (m - len) ≤ (len + (m - len)) * P.bytesOf e := Nat.le_mul_of_pos_right _ hb
      unfold reachBytes at h1
      omega
    have hone : ∀ i, i < len → ∃ a' : α, ∃ C : Nat → Value, (∀ j, j < k → w.cell? ((a.add (i * k)).add j) = some (C j)) ∧ R w C a' := fun i hi => by
      obtain ⟨cs, h1, h2⟩ := hc i (by omega)
      rw [hk] at h1
      obtain ⟨_, hl, hcell⟩ := World.cells?_some h1
      have hsz : Sized P e (D i) := fun q hq => hs q (by
        simp only [DataW.weights, ht, List.mem_cons, List.mem_append]
        exact .inr (.inl (weightsAll_mem (List.mem_map.2 ⟨i, List.mem_range.2 hi, rfl⟩) q hq)))
      obtain ⟨a', ha'⟩ := hel n cs _ _ hl h2 hsz
      refine ⟨a', _, fun j hj => ?_, ha'⟩
      rw [hcell j hj]
      simp [List.getD, List.getElem?_eq_getElem (show j < cs.length by omega)]
    by_cases h0 : len = 0
    · subst h0
      exact ⟨[], some a, cap, rfl, by simp, .inl rfl⟩
    · obtain ⟨a0, C0, _⟩ := hone 0 (by omega)
      classical
      haveI : Inhabited α := ⟨a0⟩
      obtain ⟨f, hf⟩ := choose_lt (α := α) (n := len) (p := fun i a' => ∃ C : Nat → Value, (∀ j, j < k → w.cell? ((a.add (i * k)).add j) = some (C j)) ∧ R w C a') hone
      refine ⟨(List.range len).map f, some a, cap, by simp, by simpa using hlen, ?_⟩
      · obtain ⟨C, hC, _⟩ := hf 0 (by omega)
        have hsp := World.cell?_spot (hC 0 hk0)
        have hsa : a.spot = none := by simpa [Addr.add] using hsp
        obtain ⟨b, o, s⟩ := a
        simp only at hsa
        subst hsa
        refine .inr ⟨b, o, rfl, fun i x hx => ?_⟩
        rw [List.getElem?_map] at hx
        by_cases hi : i < len
        · rw [List.getElem?_range hi] at hx
          simp at hx
          subst hx
          obtain ⟨C, hC, hr⟩ := hf i hi
          refine ⟨C, fun j hj => ?_, hr⟩
          have := hC j hj
          rw [add_nat, add_nat] at this
          exact this
        · rw [List.getElem?_eq_none (by simpa using hi)] at hx
          cases hx

/-- a field of a struct that came in -/
theorem field_of {t : TypeId} {fs : Array Field} (ht : P.underlying t = some (.struct fs)) {fuel : Nat} {cs : List Value} {d : DataW H} {ps : List MemPlace} (h : DataW.trod enc P w 0 sp held fuel t cs = some (d, ps)) (hs : Sized P t d)
    (i : Nat) (f : Field) (hf : fs[i]? = some f) : ∃ n d' ps', DataW.trod enc P w 0 sp held n f.type ((cs.drop f.offset).take (P.cellsOf f.type)) = some (d', ps') ∧ Sized P f.type d' := by
  obtain ⟨xs, n, _, hx, _, hl, hall⟩ := DataW.trod_struct ht h
  simp only [Prod.mk.injEq] at hx
  obtain ⟨rfl, rfl⟩ := hx
  have hi : i < xs.length := by
    rw [hl]
    exact (Array.getElem?_eq_some_iff.1 hf).1
  refine ⟨n, xs[i].1, xs[i].2, ?_, fun q hq => hs q ?_⟩
  · rw [hall i f hf, List.getElem?_eq_getElem hi]
  · simp only [DataW.weights, ht]
    refine DataW.weights_mem_each (j := i) (t := f.type) (d := xs[i].1) ?_ ?_ q hq
    · rw [List.getElem?_map, Array.getElem?_toList, hf]; rfl
    · rw [List.getElem?_map, List.getElem?_eq_getElem hi]; rfl

/-- .. its place and type told -/
theorem field_at {t : TypeId} {fs : Array Field} (ht : P.underlying t = some (.struct fs)) {fuel : Nat} {cs : List Value} {d : DataW H} {ps : List MemPlace} (h : DataW.trod enc P w 0 sp held fuel t cs = some (d, ps)) (hs : Sized P t d)
    (i o : Nat) (ty : TypeId) (hf : fs[i]?.map (fun f => (f.offset, f.type)) = some (o, ty)) : ∃ n d' ps', DataW.trod enc P w 0 sp held n ty ((cs.drop o).take (P.cellsOf ty)) = some (d', ps') ∧ Sized P ty d' := by
  obtain ⟨f, h1, h2⟩ := Option.map_eq_some_iff.1 hf
  simp only [Prod.mk.injEq] at h2
  obtain ⟨rfl, rfl⟩ := h2
  exact field_of ht h hs i f h1

theorem take_one {cs : List Value} {o : Nat} (h : o < cs.length) : (cs.drop o).take 1 = [cs.getD o undef] := by
  rw [List.drop_eq_getElem_cons h, List.take_succ_cons, List.take_zero]
  simp [List.getD, List.getElem?_eq_getElem h]

theorem int_field {t : TypeId} (ht : P.underlying t = some (.int .i64)) {n : Nat} {v : Value} {d : DataW H} {ps : List MemPlace} (h : DataW.trod enc P w 0 sp held n t [v] = some (d, ps)) : ∃ x : Int, v = .int .i64 x ∧ InI x := by
  obtain ⟨x, hv, _, hw⟩ := DataW.trod_int ht h
  simp only [List.cons.injEq, and_true] at hv
  refine ⟨x, hv, ?_⟩
  have e1 : IntKind.min .i64 = -9223372036854775808 := by decide
  have e2 : IntKind.max .i64 = 9223372036854775807 := by decide
  simp only [Lit.wf, e1, e2, Bool.and_eq_true, decide_eq_true_eq] at hw
  exact hw
theorem str_field {t : TypeId} (ht : P.underlying t = some .string) {n : Nat} {v : Value} {d : DataW H} {ps : List MemPlace} (h : DataW.trod enc P w 0 sp held n t [v] = some (d, ps)) : ∃ x : ByteArray, v = .string x := by
  obtain ⟨x, hv, _, hw⟩ := DataW.trod_string ht h
  simp only [List.cons.injEq, and_true] at hv
  exact ⟨x, hv⟩
end
end Go.Proofs.YtmnoaeffocnnmaaGreatDoor
