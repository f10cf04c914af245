import Derived.Test.YtdlcpmjhngfgkaaH1
import Derived.Test.YtdlcpmjhngfgkaaRows
namespace Go.Proofs.Ytdlcpmjhngfgkaa
open Go.RowKit Go.Deep

section
variable {H : Type} {enc : TypeId × Value → H} {w : World} {sp : Nat → Bool} {held : Bool}

theorem bulk_part {l : List (DataW H)} {d : DataW H} (h : d ∈ l) : Rows.uptoBulk d ≤ Rows.uptoBulkAll l := by
  induction l with
  | nil => cases h
  | cons x r ih =>
    simp only [Rows.uptoBulkAll]
    cases List.mem_cons.1 h with
    | inl e => subst e; omega
    | inr e => have := ih e; omega
theorem bulk_sum {α : Type} (μ : α → Nat) (f : Nat → α) (D : Nat → DataW H) : ∀ l : List Nat, (∀ i ∈ l, μ (f i) ≤ Rows.uptoBulk (D i)) → ((l.map f).map μ).sum ≤ Rows.uptoBulkAll (l.map D)
  | [], _ => by simp [Rows.uptoBulkAll]
  | x :: l, h => by
    have h1 := h x (by simp)
    have h2 := bulk_sum μ f D l (fun i hi => h i (by simp [hi]))
    simp only [List.map_cons, List.sum_cons, Rows.uptoBulkAll]
    omega
theorem sum_one {α : Type} : ∀ l : List α, (l.map fun _ => 1).sum = l.length
  | [] => rfl
  | _ :: l => by simp [sum_one l]; omega

set_option maxRecDepth 1000000 in
/-- a slice that came in reads as a list, no greater than its bulk -/
theorem RSl.of_bulk {α : Type} {k : Nat} (hk0 : 0 < k) {R : World → (Nat → Value) → α → Prop} {t e : TypeId} (ht : Try.prog.underlying t = some (.slice e)) (hk : Try.prog.cellsOf e = k) (μ : α → Nat)
    (hel : ∀ n cs d ps, cs.length = k → DataW.trod enc Try.prog w 0 sp held n e cs = some (d, ps) → Rows.uptoBulk d ≤ 1048576 → ∃ a : α, R w (fun j => cs.getD j undef) a ∧ μ a ≤ Rows.uptoBulk d)
    {fuel : Nat} {v : Value} {d : DataW H} {ps : List MemPlace} (h : DataW.trod enc Try.prog w 0 sp held fuel t [v] = some (d, ps)) (hs : Rows.uptoBulk d ≤ 1048576) : ∃ l : List α, RSl k R w v l ∧ (l.map μ).sum ≤ Rows.uptoBulk d := by
  rcases open_slice ht h with ⟨hv, _⟩ | ⟨a, len, cap, m, n, D, Pl, hv, _, hlc, hcap, hm, hx, hc⟩
  · simp only [List.cons.injEq, and_true] at hv
    subst hv
    exact ⟨[], ⟨none, 0, rfl, by simp, .inl rfl⟩, by simp⟩
  · simp only [List.cons.injEq, and_true] at hv
    subst hv
    simp only [Prod.mk.injEq] at hx
    obtain ⟨rfl, rfl⟩ := hx
    have hlm : len ≤ m := by rw [hm]; split <;> omega
    simp only [Rows.uptoBulk] at hs
    have hDi : ∀ i, i < len → Rows.uptoBulk (D i) ≤ 1048576 := fun i hi => by
      have := bulk_part (l := (List.range len).map D) (d := D i) (List.mem_map.2 ⟨i, List.mem_range.2 hi, rfl⟩)
      omega
    have hone : ∀ i, i < len → ∃ a' : α, (∃ C : Nat → Value, (∀ j, j < k → w.cell? ((a.add (i * k)).add j) = some (C j)) ∧ R w C a') ∧ μ a' ≤ Rows.uptoBulk (D i) := fun i hi => by
      obtain ⟨cs, h1, h2⟩ := hc i (by omega)
      rw [hk] at h1
      obtain ⟨_, hl, hcell⟩ := World.cells?_some h1
      obtain ⟨a', ha', hm'⟩ := hel n cs _ _ hl h2 (hDi i hi)
      refine ⟨a', ⟨_, fun j hj => ?_, ha'⟩, hm'⟩
      rw [hcell j hj]
      simp [List.getD, List.getElem?_eq_getElem (show j < cs.length by omega)]
    have hlen : len ≤ 140737488351232 := by
      have h1 : ∀ l : List Nat, l.length ≤ Rows.uptoBulkAll (l.map D) := fun l => by
        induction l with
        | nil => simp
        | cons x l ih =>
          have : 1 ≤ Rows.uptoBulk (D x) := by
            cases D x with
            | lit l => cases l <;> simp [Rows.uptoBulk]
            | nil => simp [Rows.uptoBulk]
            | ptr d => simp [Rows.uptoBulk]
            | slice elems spare => simp [Rows.uptoBulk]
            | agg parts => simp [Rows.uptoBulk]
            | iface t d => simp [Rows.uptoBulk]
            | map entries => simp [Rows.uptoBulk]
            | held h => simp [Rows.uptoBulk]
          simp only [List.map_cons, Rows.uptoBulkAll, List.length_cons]; omega
      have := h1 (List.range len)
      rw [List.length_range] at this
      omega
    by_cases h0 : len = 0
    · subst h0
      exact ⟨[], ⟨some a, cap, rfl, by simp, .inl rfl⟩, by simp⟩
    · obtain ⟨a0, ⟨C0, _⟩, _⟩ := hone 0 (by omega)
      classical
      haveI : Inhabited α := ⟨a0⟩
      obtain ⟨f, hf⟩ := choose_lt (α := α) (n := len) (p := fun i a' => (∃ C : Nat → Value, (∀ j, j < k → w.cell? ((a.add (i * k)).add j) = some (C j)) ∧ R w C a') ∧ μ a' ≤ Rows.uptoBulk (D i)) hone
      refine ⟨(List.range len).map f, ⟨some a, cap, by simp, by simpa using hlen, ?_⟩, ?_⟩
      · obtain ⟨C, hC, _⟩ := (hf 0 (by omega)).1
        have hsp := World.cell?_spot (hC 0 hk0)
        have hsa : a.spot = none := by simpa [Addr.add] using hsp
        obtain ⟨b, o, s⟩ := a
        simp only at hsa
        subst hsa
        refine .inr ⟨b, o, rfl, fun i x hx => ?_⟩
        rw [List.getElem?_map] at hx
        by_cases hi : i < len
        · rw [List.getElem?_range hi] at hx
          simp at hx
          subst hx
          obtain ⟨C, hC, hr⟩ := (hf i hi).1
          refine ⟨C, fun j hj => ?_, hr⟩
          have := hC j hj
          rw [add_nat, add_nat] at this
          exact this
        · rw [List.getElem?_eq_none (by simpa using hi)] at hx
          cases hx
      · have := bulk_sum μ f D (List.range len) (fun i hi => (hf i (List.mem_range.1 hi)).2)
        simp only [Rows.uptoBulk]
        omega

/-- a field of a struct that came in, with its bulk -/
theorem field_bulk {t : TypeId} {fs : Array Field} (ht : Try.prog.underlying t = some (.struct fs)) {fuel : Nat} {cs : List Value} {d : DataW H} {ps : List MemPlace} (h : DataW.trod enc Try.prog w 0 sp held fuel t cs = some (d, ps))
    (i o : Nat) (ty : TypeId) (hf : fs[i]?.map (fun f => (f.offset, f.type)) = some (o, ty)) : ∃ n d' ps', DataW.trod enc Try.prog w 0 sp held n ty ((cs.drop o).take (Try.prog.cellsOf ty)) = some (d', ps') ∧ Rows.uptoBulk d' + 1 ≤ Rows.uptoBulk d := by
  obtain ⟨f, h1, h2⟩ := Option.map_eq_some_iff.1 hf
  simp only [Prod.mk.injEq] at h2
  obtain ⟨rfl, rfl⟩ := h2
  obtain ⟨xs, n, _, hx, _, hl, hall⟩ := DataW.trod_struct ht h
  simp only [Prod.mk.injEq] at hx
  obtain ⟨rfl, rfl⟩ := hx
  have hi : i < xs.length := by
    rw [hl]
    exact (Array.getElem?_eq_some_iff.1 h1).1
  refine ⟨n, xs[i].1, xs[i].2, ?_, ?_⟩
  · rw [hall i f h1, List.getElem?_eq_getElem hi]
  · simp only [Rows.uptoBulk]
    have := bulk_part (l := xs.map (·.1)) (d := xs[i].1) (List.mem_map.2 ⟨xs[i], List.getElem_mem hi, rfl⟩)
    omega

def muI (x : LIns) : Nat := x.args.length + 1
def muB (b : LBlock) : Nat := (b.ins.map muI).sum + 1

theorem ints_bulk (n : Nat) (cs : List Value) (d : DataW H) (ps : List MemPlace) (hl : cs.length = 1) (h : DataW.trod enc Try.prog w 0 sp held n 3 cs = some (d, ps)) (_ : Rows.uptoBulk d ≤ 1048576) : ∃ a : Int, RInt w (fun j => cs.getD j undef) a ∧ 1 ≤ Rows.uptoBulk d := by
  obtain ⟨x, rfl⟩ : ∃ x, cs = [x] := by
    match cs, hl with
    | [x], _ => exact ⟨x, rfl⟩
  obtain ⟨y, rfl, hy⟩ := int_field Try.underlying3 h
  obtain ⟨_, _, hd, _⟩ := DataW.trod_int Try.underlying3 h
  simp only [Prod.mk.injEq] at hd
  refine ⟨y, ⟨rfl, hy⟩, ?_⟩
  rw [hd.1]
  simp [Rows.uptoBulk]

/-- an instruction that came in -/
theorem ins_bulk (n : Nat) (cs : List Value) (d : DataW H) (ps : List MemPlace) (hl : cs.length = 8) (h : DataW.trod enc Try.prog w 0 sp held n 41 cs = some (d, ps)) (hs : Rows.uptoBulk d ≤ 1048576) :
    ∃ x : LIns, RIns w (fun j => cs.getD j undef) x ∧ muI x ≤ Rows.uptoBulk d := by
  obtain ⟨_, _, _, h0, _⟩ := field_bulk Try.underlying41 h 0 0 3 rfl
  obtain ⟨_, _, _, h1, _⟩ := field_bulk Try.underlying41 h 1 1 3 rfl
  obtain ⟨_, _, _, h2, _⟩ := field_bulk Try.underlying41 h 2 2 3 rfl
  obtain ⟨_, _, _, h3, _⟩ := field_bulk Try.underlying41 h 3 3 3 rfl
  obtain ⟨_, _, _, h4, _⟩ := field_bulk Try.underlying41 h 4 4 3 rfl
  obtain ⟨_, _, _, h5, _⟩ := field_bulk Try.underlying41 h 5 5 3 rfl
  obtain ⟨_, _, _, h6, _⟩ := field_bulk Try.underlying41 h 6 6 9 rfl
  obtain ⟨_, _, _, h7, hs7⟩ := field_bulk Try.underlying41 h 7 7 32 rfl
  obtain ⟨x0, e0, i0⟩ := int3 (by omega) h0
  obtain ⟨x1, e1, i1⟩ := int3 (by omega) h1
  obtain ⟨x2, e2, i2⟩ := int3 (by omega) h2
  obtain ⟨x3, e3, i3⟩ := int3 (by omega) h3
  obtain ⟨x4, e4, i4⟩ := int3 (by omega) h4
  obtain ⟨x5, e5, i5⟩ := int3 (by omega) h5
  simp only [c9, c32] at h6 h7
  rw [take_one (by omega)] at h6 h7
  obtain ⟨x6, e6⟩ := str_field Try.underlying9 h6
  obtain ⟨l, hr, hm⟩ := RSl.of_bulk (by decide) Try.underlying32 c3 (R := RInt) (fun _ => 1) ints_bulk h7 (by omega)
  rw [sum_one] at hm
  refine ⟨⟨x0, x1, x2, x3, x4, x5, x6, l⟩, ⟨e0, e1, e2, e3, e4, e5, e6, ⟨i1, i2, i3, hr, by simp only []; omega⟩⟩, by simp only [muI]; omega⟩

/-- a block that came in -/
theorem blk_bulk (n : Nat) (cs : List Value) (d : DataW H) (ps : List MemPlace) (hl : cs.length = 5) (h : DataW.trod enc Try.prog w 0 sp held n 46 cs = some (d, ps)) (hs : Rows.uptoBulk d ≤ 1048576) : ∃ b : LBlock, RBlk w (fun j => cs.getD j undef) b ∧ muB b ≤ Rows.uptoBulk d := by
  obtain ⟨_, _, _, h0, hs0⟩ := field_bulk Try.underlying46 h 0 0 42 rfl
  obtain ⟨_, _, _, h1, hs1⟩ := field_bulk Try.underlying46 h 1 1 44 rfl
  simp only [c42, c44] at h0 h1
  rw [take_one (by omega)] at h0
  obtain ⟨l, hr, hm⟩ := RSl.of_bulk (by decide) Try.underlying42 c41 (R := RIns) muI ins_bulk h0 (by omega)
  obtain ⟨_, _, _, k0, _⟩ := field_bulk Try.underlying44 h1 0 0 3 rfl
  obtain ⟨_, _, _, k1, _⟩ := field_bulk Try.underlying44 h1 1 1 3 rfl
  obtain ⟨_, _, _, k2, _⟩ := field_bulk Try.underlying44 h1 2 2 3 rfl
  obtain ⟨_, _, _, k3, _⟩ := field_bulk Try.underlying44 h1 3 3 3 rfl
  have hl2 : ((cs.drop 1).take 4).length = 4 := by simp; omega
  obtain ⟨x0, e0, i0⟩ := int3 (by omega) k0
  obtain ⟨x1, e1, i1⟩ := int3 (by omega) k1
  obtain ⟨x2, e2, i2⟩ := int3 (by omega) k2
  obtain ⟨x3, e3, i3⟩ := int3 (by omega) k3
  have hg : ∀ j, j < 4 → ((cs.drop 1).take 4).getD j undef = cs.getD (j + 1) undef := fun j hj => by
    simp [List.getD, hj]
  rw [hg 0 (by omega)] at e0
  rw [hg 1 (by omega)] at e1
  rw [hg 2 (by omega)] at e2
  rw [hg 3 (by omega)] at e3
  exact ⟨⟨l, ⟨x0, x1, x2, x3⟩⟩, ⟨e0, e1, e2, e3, ⟨hr, ⟨i1, i2, i3⟩⟩⟩, by simp only [muB]; omega⟩

theorem flat_len4 {α : Type} (g : α → List Int) (μ : α → Nat) (h : ∀ a, (g a).length ≤ 4 * μ a) : ∀ l : List α, (l.flatMap g).length ≤ 4 * (l.map μ).sum
  | [] => by simp
  | x :: l => by
    have h1 := h x
    have h2 := flat_len4 g μ h l
    simp only [List.flatMap_cons, List.length_append, List.map_cons, List.sum_cons]
    omega
theorem len_sum {α : Type} (μ : α → Nat) (h : ∀ a, 1 ≤ μ a) : ∀ l : List α, l.length ≤ (l.map μ).sum
  | [] => by simp
  | x :: l => by
    have h1 := h x
    have h2 := len_sum μ h l
    simp only [List.length_cons, List.map_cons, List.sum_cons]
    omega
theorem uses_len2 (x : LIns) : x.uses.length ≤ x.args.length + 2 := by
  unfold LIns.uses UseL
  split
  · simp
  · split
    · simp
    · split <;> simp
theorem mem_sum {α : Type} (μ : α → Nat) : ∀ {l : List α} {x : α}, x ∈ l → μ x ≤ (l.map μ).sum
  | y :: l, x, h => by
    simp only [List.map_cons, List.sum_cons]
    rcases List.mem_cons.1 h with rfl | h
    · omega
    · have := mem_sum μ h; omega

set_option maxRecDepth 1000000 in
/-- a function that came in -/
theorem flow_arg {d : DataW H} {ps : List MemPlace} {n : Nat} {cs : List Value} (hl : cs.length = 4) (h : DataW.trod enc Try.prog w 0 sp held n 24 cs = some (d, ps)) (hs : Rows.uptoBulk d ≤ 1048576) :
    ∃ (f : LFlow) (bv : Value), cs = [.string f.name, I f.params, I f.values, bv] ∧ Fine w f bv ∧ InI f.params ∧ InI f.values := by
  obtain ⟨_, _, _, h0, _⟩ := field_bulk Try.underlying24 h 0 0 9 rfl
  obtain ⟨_, _, _, h1, _⟩ := field_bulk Try.underlying24 h 1 1 3 rfl
  obtain ⟨_, _, _, h2, _⟩ := field_bulk Try.underlying24 h 2 2 3 rfl
  obtain ⟨_, _, _, h3, hs3⟩ := field_bulk Try.underlying24 h 3 3 22 rfl
  obtain ⟨x1, e1, i1⟩ := int3 (by omega) h1
  obtain ⟨x2, e2, i2⟩ := int3 (by omega) h2
  simp only [c9, c22] at h0 h3
  rw [take_one (by omega)] at h0 h3
  obtain ⟨x0, e0⟩ := str_field Try.underlying9 h0
  obtain ⟨l, hr, hm⟩ := RSl.of_bulk (by decide) Try.underlying22 c46 (R := RBlk) muB blk_bulk h3 (by omega)
  have hB : (l.map muB).sum ≤ 1048576 := by omega
  have hi1 : ∀ x, 1 ≤ muI x := fun x => by unfold muI; omega
  have hb1 : ∀ x, 1 ≤ muB x := fun x => by unfold muB; omega
  refine ⟨⟨x0, x1, x2, l⟩, cs.getD 3 undef, ?_, ⟨hr, ?_, ?_, ?_, ?_⟩, i1, i2⟩
  · match cs, hl with
    | [a, b, c, d], _ => simp at e0 e1 e2 ⊢; exact ⟨e0, e1, e2⟩
  · have := len_sum muB hb1 l
    simp only []; omega
  · have := flat_len4 blkUses muB (fun b => by
      have h1 := flat_len4 LIns.uses muI (fun x => by have := uses_len2 x; unfold muI; omega) b.ins
      have h2 := b.term.wants_len
      simp only [blkUses, List.length_append, muB]
      omega) l
    simp only [allUses]; omega
  · have := flat_len4 plB muB (fun b => by
      have h1 := flat_len4 plI muI (fun x => by have := uses_len2 x; unfold muI plI; simp; omega) b.ins
      have h2 := b.term.wants_len
      simp only [plB, List.length_append, muB]
      omega) l
    simp only [placesL]; omega
  · intro b hb
    have h1 := mem_sum muB hb
    have h2 := len_sum muI hi1 b.ins
    simp only [muB] at h1
    omega
end
end Go.Proofs.Ytdlcpmjhngfgkaa
