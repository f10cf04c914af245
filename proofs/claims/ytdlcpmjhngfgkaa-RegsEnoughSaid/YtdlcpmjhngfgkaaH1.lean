import Derived.Test.YtdlcpmjhngfgkaaF8
import Derived.Test.YtdlcpmjhngfgkaaH0
namespace Go.Proofs.Ytdlcpmjhngfgkaa
open Go.RowKit Go.Deep

section
variable {H : Type} {enc : TypeId × Value → H} {w : World} {sp : Nat → Bool} {held : Bool}

theorem c3 : Try.prog.cellsOf 3 = 1 := by kernel_rfl
theorem c9 : Try.prog.cellsOf 9 = 1 := by kernel_rfl
theorem c32 : Try.prog.cellsOf 32 = 1 := by kernel_rfl
theorem c42 : Try.prog.cellsOf 42 = 1 := by kernel_rfl
theorem c44 : Try.prog.cellsOf 44 = 4 := by kernel_rfl
theorem c41 : Try.prog.cellsOf 41 = 8 := by kernel_rfl
theorem c46 : Try.prog.cellsOf 46 = 5 := by kernel_rfl
theorem c22 : Try.prog.cellsOf 22 = 1 := by kernel_rfl
theorem b3 : Try.prog.bytesOf 3 = 8 := by kernel_rfl
theorem b41 : Try.prog.bytesOf 41 = 88 := by kernel_rfl
theorem b46 : Try.prog.bytesOf 46 = 56 := by kernel_rfl

theorem slice_field {t e : TypeId} (ht : Try.prog.underlying t = some (.slice e)) {n : Nat} {v : Value} {d : DataW H} {ps : List MemPlace} (h : DataW.trod enc Try.prog w 0 sp held n t [v] = some (d, ps)) : ∃ a l c, v = .slice a l c := by
  rcases open_slice ht h with ⟨hv, _⟩ | ⟨a, len, cap, m, n, D, Pl, hv, _⟩
  · simp only [List.cons.injEq, and_true] at hv
    exact ⟨_, _, _, hv⟩
  · simp only [List.cons.injEq, and_true] at hv
    exact ⟨_, _, _, hv⟩

theorem int3 {cs : List Value} {o n : Nat} (ho : o < cs.length) {d : DataW H} {ps : List MemPlace} (h : DataW.trod enc Try.prog w 0 sp held n 3 ((cs.drop o).take (Try.prog.cellsOf 3)) = some (d, ps)) : ∃ x : Int, cs.getD o undef = .int .i64 x ∧ InI x := by
  rw [c3, take_one ho] at h
  exact int_field Try.underlying3 h

theorem ints_el (n : Nat) (cs : List Value) (d : DataW H) (ps : List MemPlace) (hl : cs.length = 1) (h : DataW.trod enc Try.prog w 0 sp held n 3 cs = some (d, ps)) (_ : Sized Try.prog 3 d) : ∃ a : Int, RInt w (fun j => cs.getD j undef) a := by
  obtain ⟨x, rfl⟩ : ∃ x, cs = [x] := by
    match cs, hl with
    | [x], _ => exact ⟨x, rfl⟩
  obtain ⟨y, rfl, hy⟩ := int_field Try.underlying3 h
  exact ⟨y, rfl, hy⟩

/-- an instruction that came in -/
theorem ins_el (n : Nat) (cs : List Value) (d : DataW H) (ps : List MemPlace) (hl : cs.length = 8) (h : DataW.trod enc Try.prog w 0 sp held n 41 cs = some (d, ps)) (hs : Sized Try.prog 41 d) :
    ∃ x : LIns, RRaw w (fun j => cs.getD j undef) x ∧ RInts w (cs.getD 7 undef) x.args := by
  obtain ⟨_, _, _, h0, _⟩ := field_at Try.underlying41 h hs 0 0 3 rfl
  obtain ⟨_, _, _, h1, _⟩ := field_at Try.underlying41 h hs 1 1 3 rfl
  obtain ⟨_, _, _, h2, _⟩ := field_at Try.underlying41 h hs 2 2 3 rfl
  obtain ⟨_, _, _, h3, _⟩ := field_at Try.underlying41 h hs 3 3 3 rfl
  obtain ⟨_, _, _, h4, _⟩ := field_at Try.underlying41 h hs 4 4 3 rfl
  obtain ⟨_, _, _, h5, _⟩ := field_at Try.underlying41 h hs 5 5 3 rfl
  obtain ⟨_, _, _, h6, _⟩ := field_at Try.underlying41 h hs 6 6 9 rfl
  obtain ⟨_, _, _, h7, hs7⟩ := field_at Try.underlying41 h hs 7 7 32 rfl
  obtain ⟨x0, e0, i0⟩ := int3 (by omega) h0
  obtain ⟨x1, e1, i1⟩ := int3 (by omega) h1
  obtain ⟨x2, e2, i2⟩ := int3 (by omega) h2
  obtain ⟨x3, e3, i3⟩ := int3 (by omega) h3
  obtain ⟨x4, e4, i4⟩ := int3 (by omega) h4
  obtain ⟨x5, e5, i5⟩ := int3 (by omega) h5
  simp only [c9, c32] at h6 h7
  rw [take_one (by omega)] at h6 h7
  obtain ⟨x6, e6⟩ := str_field Try.underlying9 h6
  obtain ⟨l, hr⟩ := RSl.of_trod (by decide) Try.underlying32 c3 (by rw [b3]; omega) (R := RInt) ints_el h7 hs7
  obtain ⟨aa, cc, e7, _⟩ := hr.form
  exact ⟨⟨x0, x1, x2, x3, x4, x5, x6, l⟩, ⟨e0, e1, e2, e3, e4, e5, e6, ⟨aa, cc, e7⟩, i0, i1, i2, i3, i4, i5⟩, hr⟩

/-- a block that came in -/
theorem blk_el (n : Nat) (cs : List Value) (d : DataW H) (ps : List MemPlace) (hl : cs.length = 5) (h : DataW.trod enc Try.prog w 0 sp held n 46 cs = some (d, ps)) (hs : Sized Try.prog 46 d) : ∃ b : LBlock, RRawB w (fun j => cs.getD j undef) b := by
  obtain ⟨_, _, _, h0, hs0⟩ := field_at Try.underlying46 h hs 0 0 42 rfl
  obtain ⟨_, _, _, h1, hs1⟩ := field_at Try.underlying46 h hs 1 1 44 rfl
  simp only [c42, c44] at h0 h1
  rw [take_one (by omega)] at h0
  obtain ⟨l, hr⟩ := RSl.of_trod (by decide) Try.underlying42 c41 (by rw [b41]; omega) (R := RRaw) (fun n cs d ps h1 h2 h3 => let ⟨x, hx, _⟩ := ins_el n cs d ps h1 h2 h3; ⟨x, hx⟩) h0 hs0
  obtain ⟨_, _, _, k0, _⟩ := field_at Try.underlying44 h1 hs1 0 0 3 rfl
  obtain ⟨_, _, _, k1, _⟩ := field_at Try.underlying44 h1 hs1 1 1 3 rfl
  obtain ⟨_, _, _, k2, _⟩ := field_at Try.underlying44 h1 hs1 2 2 3 rfl
  obtain ⟨_, _, _, k3, _⟩ := field_at Try.underlying44 h1 hs1 3 3 3 rfl
  have hl2 : ((cs.drop 1).take 4).length = 4 := by simp; omega
  obtain ⟨x0, e0, i0⟩ := int3 (by omega) k0
  obtain ⟨x1, e1, i1⟩ := int3 (by omega) k1
  obtain ⟨x2, e2, i2⟩ := int3 (by omega) k2
  obtain ⟨x3, e3, i3⟩ := int3 (by omega) k3
  have hg : ∀ j, j < 4 → ((cs.drop 1).take 4).getD j undef = cs.getD (j + 1) undef := fun j hj => by
    simp [List.getD, List.getElem?_take, List.getElem?_drop, hj, Nat.add_comm]
  rw [hg 0 (by omega)] at e0
  rw [hg 1 (by omega)] at e1
  rw [hg 2 (by omega)] at e2
  rw [hg 3 (by omega)] at e3
  obtain ⟨aa, cc, e7, _⟩ := hr.form
  refine ⟨⟨l, ⟨x0, x1, x2, x3⟩⟩, aa, cc, e7, e0, e1, e2, e3, ?_⟩
  rw [e7] at hr
  exact ⟨hr, i0, i1, i2, i3⟩

/-- raw blocks that came in -/
theorem raw_arg {v : Value} {d : DataW H} {ps : List MemPlace} {n : Nat} (h : DataW.trod enc Try.prog w 0 sp held n 22 [v] = some (d, ps)) (hs : Sized Try.prog 22 d) : ∃ raw : List LBlock, RSl 5 RRawB w v raw :=
  RSl.of_trod (by decide) Try.underlying22 c46 (by rw [b46]; omega) (R := RRawB) blk_el h hs
end
end Go.Proofs.Ytdlcpmjhngfgkaa
