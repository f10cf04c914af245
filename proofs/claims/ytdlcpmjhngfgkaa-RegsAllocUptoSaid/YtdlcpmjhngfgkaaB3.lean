import Derived.Test.YtdlcpmjhngfgkaaB2
import Derived.Maps.OwnOps
import Derived.Maps.OwnSet
namespace Go.Proofs.Ytdlcpmjhngfgkaa
open Go.RowKit

abbrev I (x : Int) : Value := .int .i64 x

def insAll (l S : List Int) : List Int := l.foldl (fun s x => insL x s) S
theorem insAll_snoc (l : List Int) (x : Int) (S : List Int) : insAll (l ++ [x]) S = insL x (insAll l S) := by simp [insAll]
theorem mem_insAll {l S : List Int} {x : Int} : x ∈ insAll l S ↔ x ∈ l ∨ x ∈ S := by
  induction l generalizing S with
  | nil => simp [insAll]
  | cons y l ih =>
    have : insAll (y :: l) S = insAll l (insL y S) := rfl
    rw [this, ih, mem_insL]; simp only [List.mem_cons]
    constructor
    · rintro (h | h | h)
      · exact .inl (.inr h)
      · exact .inl (.inl h)
      · exact .inr h
    · rintro ((h | h) | h)
      · exact .inr (.inl h)
      · exact .inl h
      · exact .inr (.inr h)
theorem nodup_insAll {l S : List Int} (h : S.Nodup) : (insAll l S).Nodup := by
  induction l generalizing S with
  | nil => exact h
  | cons y l ih => exact ih (S := insL y S) (nodup_insL h)

theorem grown_refl (w : World) (row : Option Nat) : w.grownBy w row := ⟨rfl, rfl, rfl, Nat.le_refl _, fun _ _ _ => rfl⟩
theorem grown_trans {a b c : World} {row : Option Nat} (h : a.grownBy b row) (k : b.grownBy c row) : a.grownBy c row :=
  ⟨k.os.trans h.os, k.tape.trans h.tape, k.output.trans h.output, Nat.le_trans h.size k.size, fun i hi hne => (k.block i (Nat.lt_of_lt_of_le hi h.size) hne).trans (h.block i hi hne)⟩
theorem grown_none {a b : World} (row : Option Nat) (h : a.grownBy b none) : a.grownBy b row := ⟨h.os, h.tape, h.output, h.size, fun i hi _ => h.block i hi (by simp)⟩

/-- a cell stays while a map is changed -/
theorem cell_grown {w w' : World} {b : Nat} {ks : List Value} (hs : SetAt w b ks) (hg : w.grownBy w' (some b)) {p : Addr} {v : Value} (h : w.cell? p = some v) : w'.cell? p = some v := by
  rw [← h]
  refine World.cell?_of_block (hg.block p.block (World.block_lt_of_cell? w _ h) ?_)
  intro e
  obtain ⟨es, clock, hb, _⟩ := hs
  simp only [Option.some.injEq] at e
  rw [World.cell?, e, hb] at h; cases h

theorem RSl.grown {α : Type} {k : Nat} {R : World → (Nat → Value) → α → Prop} {w w' : World} {b : Nat} {ks : List Value} (hs : SetAt w b ks) (hg : w.grownBy w' (some b))
    (hR : ∀ {C : Nat → Value} {x : α}, R w C x → R w' C x) {v : Value} {l : List α} (h : RSl k R w v l) : RSl k R w' v l := by
  obtain ⟨a, c, hv, hm, h⟩ := h
  refine ⟨a, c, hv, hm, h.imp id ?_⟩
  rintro ⟨b', o, ha, h⟩
  refine ⟨b', o, ha, fun i x hx => ?_⟩
  obtain ⟨C, hC, hr⟩ := h i x hx
  exact ⟨C, fun j hj => cell_grown hs hg (hC j hj), hR hr⟩

theorem RInts.grown {w w' : World} {b : Nat} {ks : List Value} (hs : SetAt w b ks) (hg : w.grownBy w' (some b)) {v : Value} {l : List Int} (h : RInts w v l) : RInts w' v l :=
  RSl.grown hs hg (fun h => h) h
theorem RInts.at {w : World} {v : Value} {l : List Int} (h : RInts w v l) {i : Nat} (hi : i < l.length) : ∃ b o c, v = .slice (some ⟨b, o, none⟩) l.length c ∧ w.cell? ⟨b, o + i, none⟩ = some (I l[i]) ∧ InI l[i] := by
  obtain ⟨a, c, hv, hm, h⟩ := h
  rcases h with rfl | ⟨b, o, rfl, h⟩
  · simp at hi
  · obtain ⟨C, hC, h0, h1⟩ := h i l[i] (List.getElem?_eq_getElem hi)
    have := hC 0 (by decide)
    simp at this
    exact ⟨b, o, c, hv, by rw [this, h0], h1⟩

def AddPost (b : Nat) (S l : List Int) (w : World) (e : Ending) (w' : World) : Prop :=
  e = .returned (.bool (decide (S.length < (insAll l S).length))) ∧ SetAt w' b ((insAll l S).map I) ∧ w.grownBy w' (some b) ∧ w'.heap.size = w.heap.size

set_option maxRecDepth 100000 in
set_option maxHeartbeats 1000000 in
theorem add_any (b : Nat) (S : List Int) (v : Value) (l : List Int) (w : World) (hs : SetAt w b (S.map I)) (hv : RInts w v l) :
    Calls Try.prog 68 #[.map (some b), v] w (AddPost b S l w) := by
  have HV := Lib.hid hv
  obtain ⟨a0, c0, rfl, hm, hh⟩ := hv
  clear hh
  go_enter Try.func68, Try.ntmps68
  go_wp2_with (first
    | (refine wpList_lenS Try.underlying86 rfl _ rfl b _ rfl hs ?_)
    | fail)
  go_loopw [12] (fun i wr => ∃ k : Nat, k ≤ l.length ∧ i = I k ∧ SetAt wr b ((insAll (l.take k) S).map I) ∧ w.grownBy wr (some b) ∧ wr.heap.size = w.heap.size) (fun i _ => l.length - (intOf i).toNat)
  case atStart => exact ⟨0, Nat.zero_le _, rfl, by simpa [insAll] using hs, grown_refl _ _, rfl⟩
  case round =>
    obtain ⟨k, hk, rfl, hs1, hg1, hz1⟩ := hrel
    by_cases hlt : k < l.length
    · obtain ⟨b1, o1, c1, he, hc, hin⟩ := RInts.at (RInts.grown hs hg1 HV.out) hlt
      obtain ⟨rfl, rfl⟩ : a0 = some ⟨b1, o1, none⟩ ∧ c0 = c1 := by simpa using he
      have HS := Lib.hid hs1
      have HG := Lib.hid hg1
      have HZ := Lib.hid hz1
      have HSN : Hid (l.take (k + 1) = l.take k ++ [l[k]]) := List.take_succ_eq_append_getElem hlt
      clear hs1 hg1 hz1 he hs
      obtain ⟨y, hy⟩ : ∃ y, y = l[k] := ⟨_, rfl⟩
      rw [← hy] at hc hin
      have HY := Lib.hid hy
      clear hy
      go_wp2_with (first
        | (at_mapUpdate; refine wpList_putS keyInt Try.underlying86 rfl _ _ _ rfl b _ y rfl rfl rfl HS.out ?_; intro w2 hs2 hg2 hz2; have HS2 := Lib.hid hs2; have HG2 := Lib.hid hg2; have HZ2 := Lib.hid hz2; clear hs2 hg2 hz2))
      go_roundw
      case rel => exact ⟨k + 1, by omega, by go_num, by rw [HSN.out, insAll_snoc, ← HY.out]; exact HS2.out, grown_trans HG.out HG2.out, by rw [HZ2.out, HZ.out]⟩
      case measure => simp [intOf]; omega
    · have hkl : k = l.length := by omega
      have HS := Lib.hid hs1
      clear hs
      go_wp2_with (first
        | (refine wpList_lenS Try.underlying86 rfl _ rfl b _ rfl HS.out ?_)
        | fail)
      go_ret
      refine ⟨?_, ?_, hg1, hz1⟩
      · rfl
      · have := HS.out; rwa [hkl, List.take_length] at this

end Go.Proofs.Ytdlcpmjhngfgkaa
