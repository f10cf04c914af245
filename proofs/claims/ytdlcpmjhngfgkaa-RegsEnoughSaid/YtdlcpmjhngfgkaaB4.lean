import Derived.Test.YtdlcpmjhngfgkaaB3
import Derived.Deep.LoopGhost
namespace Go.Proofs.Ytdlcpmjhngfgkaa
open Go.RowKit

structure LIns where
  kind : Int
  d : Int
  a : Int
  b : Int
  op : Int
  n : Int
  name : ByteArray
  args : List Int

/-- an instruction, by its cells -/
abbrev LIns.agg (x : LIns) (av : Value) : Value := .agg #[.int .i64 x.kind, .int .i64 x.d, .int .i64 x.a, .int .i64 x.b, .int .i64 x.op, .int .i64 x.n, .string x.name, av]
/-- what is known of one -/
structure GIns (w : World) (x : LIns) (av : Value) : Prop where
  d : InI x.d
  a : InI x.a
  b : InI x.b
  args : RInts w av x.args
  len : x.args.length ≤ 1000000000000
def LIns.uses (x : LIns) : List Int := UseL x.kind x.a x.b x.args
def LIns.sets (x : LIns) : List Int := setsL x.kind x.d

theorem RInts.mem {w : World} {v : Value} {l : List Int} (h : RInts w v l) : ∀ x ∈ l, InI x := by
  intro x hx
  obtain ⟨i, hi, rfl⟩ := List.getElem_of_mem hx
  obtain ⟨_, _, _, _, _, h⟩ := RInts.at h hi
  exact h

theorem GIns.uses {w : World} {x : LIns} {av : Value} (g : GIns w x av) : ∀ y ∈ x.uses, InI y := by
  intro y hy
  unfold LIns.uses UseL at hy
  split at hy
  · simp at hy; subst hy; exact g.a
  · split at hy
    · simp at hy; rcases hy with rfl | rfl
      · exact g.a
      · exact g.b
    · split at hy
      · exact g.args.mem y hy
      · cases hy
theorem GIns.sets {w : World} {x : LIns} {av : Value} (g : GIns w x av) : ∀ y ∈ x.sets, InI y := by
  intro y hy
  unfold LIns.sets setsL at hy
  split at hy
  · cases hy
  · simp at hy; subst hy; exact g.d
theorem LIns.uses_len (x : LIns) (h : x.args.length ≤ 1000000000000) : x.uses.length ≤ 1000000000000 := by
  unfold LIns.uses UseL; split
  · simp
  · split
    · simp
    · split
      · exact h
      · simp
theorem LIns.sets_len (x : LIns) : x.sets.length ≤ 1 := by unfold LIns.sets setsL; split <;> simp

theorem OwnInts.reads {w : World} {base : Nat} {v : Value} {l : List Int} (h : OwnInts w base v l) (hb : ∀ x ∈ l, InI x) (hl : l.length ≤ 140737488351232) : RInts w v l := by
  rcases h.2 with ⟨rfl, h0⟩ | ⟨g, cap, cur, rfl, hg, hh, hc, hm, hs, ht⟩
  · have := List.eq_nil_of_length_eq_zero h0
    subst this
    exact ⟨none, 0, rfl, hl, .inl rfl⟩
  · refine ⟨_, _, rfl, hl, .inr ⟨g, 0, rfl, fun i x hx => ⟨fun _ => I x, fun j hj => ?_, rfl, hb x (List.mem_of_getElem? hx)⟩⟩⟩
    obtain rfl : j = 0 := by omega
    have hi : i < l.length := (List.getElem?_eq_some_iff.1 hx).1
    rw [cell_of_block hh]
    have : (cur.toList.take (l.length * 1))[i]? = some (I x) := by rw [ht, List.getElem?_map, hx]; rfl
    rw [List.getElem?_take, if_pos (by omega), Array.getElem?_toList] at this
    simpa using this

theorem SetAt.below {w w' : World} {b : Nat} {ks : List Value} (h : SetAt w b ks) (hb : w'.heap[b]? = w.heap[b]?) : SetAt w' b ks := by
  obtain ⟨es, clock, h1, h2⟩ := h; exact ⟨es, clock, hb.trans h1, h2⟩
theorem SetAt.lt {w : World} {b : Nat} {ks : List Value} (h : SetAt w b ks) : b < w.heap.size := by
  obtain ⟨es, clock, h1, h2⟩ := h; exact (Array.getElem?_eq_some_iff.1 h1).1
theorem SetAt.ext {w w' : World} {b : Nat} {ks : List Value} (h : SetAt w b ks) (hb : Below w.heap.size w w') : SetAt w' b ks := h.below (hb.block b h.lt)
theorem below_grown {w w' : World} (h : Below w.heap.size w w') (row : Option Nat) : w.grownBy w' row := ⟨h.os, h.tape, h.output, h.size, fun k hk _ => h.block k hk⟩

def eraseAll (l S : List Int) : List Int := l.foldl (fun s x => s.erase x) S
theorem eraseAll_snoc (l : List Int) (x : Int) (S : List Int) : eraseAll (l ++ [x]) S = (eraseAll l S).erase x := by simp [eraseAll]
theorem nodup_eraseAll {l S : List Int} (h : S.Nodup) : (eraseAll l S).Nodup := by
  induction l generalizing S with
  | nil => exact h
  | cons y l ih => exact ih (S := S.erase y) (h.erase y)
theorem mem_eraseAll {l S : List Int} (h : S.Nodup) {x : Int} : x ∈ eraseAll l S ↔ x ∈ S ∧ x ∉ l := by
  induction l generalizing S with
  | nil => simp [eraseAll]
  | cons y l ih =>
    have : eraseAll (y :: l) S = eraseAll l (S.erase y) := rfl
    rw [this, ih (h.erase y), h.mem_erase_iff]; simp only [List.mem_cons, not_or]
    constructor
    · rintro ⟨⟨h1, h2⟩, h3⟩; exact ⟨h2, h1, h3⟩
    · rintro ⟨h1, h2, h3⟩; exact ⟨⟨h2, h1⟩, h3⟩

theorem sets_L (x : LIns) (av : Value) (w : World) : Calls Try.prog 63 #[x.agg av] w (RetInts w x.sets) := sets_any _ _ _ _ _ _ _ _ _
theorem uses_L (x : LIns) (av : Value) (w : World) (gx : GIns w x av) : Calls Try.prog 36 #[x.agg av] w (RetInts w x.uses) := uses_any _ _ _ _ _ _ _ _ _ _ gx.args gx.len
theorem GIns.below {w w' : World} (hb : Below w.heap.size w w') {x : LIns} {av : Value} (g : GIns w x av) : GIns w' x av := ⟨g.d, g.a, g.b, g.args.below hb, g.len⟩
theorem GIns.grown {w w' : World} {b : Nat} {ks : List Value} (hs : SetAt w b ks) (hg : w.grownBy w' (some b)) {x : LIns} {av : Value} (g : GIns w x av) : GIns w' x av := ⟨g.d, g.a, g.b, g.args.grown hs hg, g.len⟩

def StepPost (b : Nat) (S : List Int) (x : LIns) (w : World) (e : Ending) (w' : World) : Prop :=
  e = .returned (.tuple #[]) ∧ SetAt w' b ((insAll x.uses (eraseAll x.sets S)).map I) ∧ w.grownBy w' (some b)

set_option maxRecDepth 100000 in
set_option maxHeartbeats 1000000 in
theorem step_any (b : Nat) (S : List Int) (x : LIns) (av : Value) (w : World) (hs : SetAt w b (S.map I)) (gx : GIns w x av) :
    Calls Try.prog 67 #[.map (some b), x.agg av] w (StepPost b S x w) := by
  have hlen := x.sets_len
  go_enter Try.func67, Try.ntmps67
  go_wp2_with (first
    | (go_at_call 63; refine (sets_L x av _).mono ?_; rintro e w1 ⟨v1, rfl, own1, hb1⟩; have hr1 := OwnInts.reads own1 gx.sets (by have := x.sets_len; omega); have HV := Lib.hid hr1; obtain ⟨a1, c1, rfl, _⟩ := hr1; have hbw := (below_a1 _ _).trans (hb1.mono (by simp)); have HB := Lib.hid hbw; have HBX := Lib.hid (hb1.block w.heap.size (by simp)); clear own1 hb1 hbw))
  have hs1 := Lib.hid (hs.ext HB.out)
  go_loopg [9] x.sets.length (fun g i wr => ∃ k : Nat, k ≤ x.sets.length ∧ g = x.sets.length - k ∧ i = I k ∧ SetAt wr b ((eraseAll (x.sets.take k) S).map I) ∧ w1.grownBy wr (some b))
  case atStart => exact ⟨0, Nat.zero_le _, rfl, rfl, by simpa [eraseAll] using hs1.out, grown_refl _ _⟩
  case round =>
    obtain ⟨k, hk, hgk, rfl, hs2, hg2⟩ := hrel
    by_cases hlt : k < x.sets.length
    · obtain ⟨b1, o1, c1', he, hc, hin⟩ := RInts.at (RInts.grown hs1.out hg2 HV.out) hlt
      obtain ⟨rfl, rfl⟩ : a1 = some ⟨b1, o1, none⟩ ∧ c1 = c1' := by simpa using he
      have HS := Lib.hid hs2
      have HG := Lib.hid hg2
      have HK := Lib.hid hgk
      have HSN : Hid (x.sets.take (k + 1) = x.sets.take k ++ [x.sets[k]]) := List.take_succ_eq_append_getElem hlt
      clear hs2 hg2 he hgk
      obtain ⟨y, hy⟩ : ∃ y, y = x.sets[k] := ⟨_, rfl⟩
      rw [← hy] at hc hin
      have HY := Lib.hid hy
      clear hy
      go_wp2_with (first
        | (refine wpList_delS keyInt Try.underlying86 rfl _ _ rfl b _ y rfl rfl HS.out ?_; intro w2 hs2 hg2 hz2; have HS2 := Lib.hid hs2; have HG2 := Lib.hid hg2; clear hs2 hg2 hz2)
        | fail)
      go_roundg (x.sets.length - (k + 1))
      case measure => have := HK.out; omega
      case rel => exact ⟨k + 1, by omega, rfl, by go_num, by rw [HSN.out, eraseAll_snoc, ← HY.out]; exact HS2.out, grown_trans HG.out HG2.out⟩
    · have hkl : k = x.sets.length := by omega
      have hbx := grown_old hg2 (HBX.out.trans (heap_new _ _)) (by intro e; simp only [Option.some.injEq] at e; have := hs.lt; omega)
      have h0 := cell_of_block hbx 0
      have h1 := cell_of_block hbx 1
      have h2 := cell_of_block hbx 2
      have h3 := cell_of_block hbx 3
      have h4 := cell_of_block hbx 4
      have h5 := cell_of_block hbx 5
      have h6 := cell_of_block hbx 6
      have h7 := cell_of_block hbx 7
      simp only [List.getElem?_toArray, List.getElem?_cons_succ, List.getElem?_cons_zero] at h0 h1 h2 h3 h4 h5 h6 h7
      have gx2 : Hid (GIns wr x av) := (gx.below HB.out).grown hs1.out hg2
      rw [hkl, List.take_length] at hs2
      have HS := Lib.hid hs2
      have HG := Lib.hid hg2
      clear hs2 hg2 hbx hs hgk
      go_wp2_with (first
        | (go_at_call 36; refine (uses_L x av _ gx2.out).mono ?_; rintro e w3 ⟨v3, rfl, own3, hb3⟩; have HR3 := Lib.hid (OwnInts.reads own3 gx.uses (by have := x.uses_len gx.len; omega)); have HB3 := Lib.hid hb3; clear own3 hb3)
        | (go_at_call 68; refine (add_any b _ v3 x.uses _ (HS.out.ext HB3.out) HR3.out).mono ?_; rintro e w4 ⟨rfl, hs4, hg4, hz4⟩; have HS4 := Lib.hid hs4; have HG4 := Lib.hid hg4; clear hs4 hg4 hz4))
      go_end0
      exact ⟨rfl, HS4.out, grown_trans (below_grown HB.out _) (grown_trans HG.out (grown_trans (below_grown HB3.out _) HG4.out))⟩

end Go.Proofs.Ytdlcpmjhngfgkaa
