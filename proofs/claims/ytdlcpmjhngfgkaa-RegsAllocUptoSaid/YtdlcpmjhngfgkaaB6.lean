import Derived.Test.YtdlcpmjhngfgkaaB3
import Derived.Deep.LoopGhost
namespace Go.Proofs.Ytdlcpmjhngfgkaa
open Go.RowKit

structure LIns where
  kind : Int
  d : Int
  a : Int
  b : Int
  op : Int
  n : Int
  name : ByteArray
  args : List Int

/-- an instruction, by its cells -/
abbrev LIns.agg (x : LIns) (av : Value) : Value := .agg #[.int .i64 x.kind, .int .i64 x.d, .int .i64 x.a, .int .i64 x.b, .int .i64 x.op, .int .i64 x.n, .string x.name, av]
/-- what is known of one -/
structure GIns (w : World) (x : LIns) (av : Value) : Prop where
  d : InI x.d
  a : InI x.a
  b : InI x.b
  args : RInts w av x.args
  len : x.args.length ≤ 1000000000000
def LIns.uses (x : LIns) : List Int := UseL x.kind x.a x.b x.args
def LIns.sets (x : LIns) : List Int := setsL x.kind x.d

theorem RInts.mem {w : World} {v : Value} {l : List Int} (h : RInts w v l) : ∀ x ∈ l, InI x := by
  intro x hx
  obtain ⟨i, hi, rfl⟩ := List.getElem_of_mem hx
  obtain ⟨_, _, _, _, _, h⟩ := RInts.at h hi
  exact h

theorem GIns.uses {w : World} {x : LIns} {av : Value} (g : GIns w x av) : ∀ y ∈ x.uses, InI y := by
  intro y hy
  unfold LIns.uses UseL at hy
  split at hy
  · simp at hy; subst hy; exact g.a
  · split at hy
    · simp at hy; rcases hy with rfl | rfl
      · exact g.a
      · exact g.b
    · split at hy
      · exact g.args.mem y hy
      · cases hy
theorem GIns.sets {w : World} {x : LIns} {av : Value} (g : GIns w x av) : ∀ y ∈ x.sets, InI y := by
  intro y hy
  unfold LIns.sets setsL at hy
  split at hy
  · cases hy
  · simp at hy; subst hy; exact g.d
theorem LIns.uses_len (x : LIns) (h : x.args.length ≤ 1000000000000) : x.uses.length ≤ 1000000000000 := by
  unfold LIns.uses UseL; split
  · simp
  · split
    · simp
    · split
      · exact h
      · simp
theorem LIns.sets_len (x : LIns) : x.sets.length ≤ 1 := by unfold LIns.sets setsL; split <;> simp

theorem OwnInts.reads {w : World} {base : Nat} {v : Value} {l : List Int} (h : OwnInts w base v l) (hb : ∀ x ∈ l, InI x) (hl : l.length ≤ 140737488351232) : RInts w v l := by
  rcases h.2 with ⟨rfl, h0⟩ | ⟨g, cap, cur, rfl, hg, hh, hc, hm, hs, ht⟩
  · have := List.eq_nil_of_length_eq_zero h0
    subst this
    exact ⟨none, 0, rfl, hl, .inl rfl⟩
  · refine ⟨_, _, rfl, hl, .inr ⟨g, 0, rfl, fun i x hx => ⟨fun _ => I x, fun j hj => ?_, rfl, hb x (List.mem_of_getElem? hx)⟩⟩⟩
    obtain rfl : j = 0 := by omega
    have hi : i < l.length := (List.getElem?_eq_some_iff.1 hx).1
    rw [cell_of_block hh]
    have : (cur.toList.take (l.length * 1))[i]? = some (I x) := by rw [ht, List.getElem?_map, hx]; rfl
    rw [List.getElem?_take, if_pos (by omega), Array.getElem?_toList] at this
    simpa using this

theorem SetAt.below {w w' : World} {b : Nat} {ks : List Value} (h : SetAt w b ks) (hb : w'.heap[b]? = w.heap[b]?) : SetAt w' b ks := by
  obtain ⟨es, clock, h1, h2⟩ := h; exact ⟨es, clock, hb.trans h1, h2⟩
theorem SetAt.lt {w : World} {b : Nat} {ks : List Value} (h : SetAt w b ks) : b < w.heap.size := by
  obtain ⟨es, clock, h1, h2⟩ := h; exact (Array.getElem?_eq_some_iff.1 h1).1
theorem SetAt.ext {w w' : World} {b : Nat} {ks : List Value} (h : SetAt w b ks) (hb : Below w.heap.size w w') : SetAt w' b ks := h.below (hb.block b h.lt)
theorem below_grown {w w' : World} (h : Below w.heap.size w w') (row : Option Nat) : w.grownBy w' row := ⟨h.os, h.tape, h.output, h.size, fun k hk _ => h.block k hk⟩

def eraseAll (l S : List Int) : List Int := l.foldl (fun s x => s.erase x) S
theorem eraseAll_snoc (l : List Int) (x : Int) (S : List Int) : eraseAll (l ++ [x]) S = (eraseAll l S).erase x := by simp [eraseAll]
theorem nodup_eraseAll {l S : List Int} (h : S.Nodup) : (eraseAll l S).Nodup := by
  induction l generalizing S with
  | nil => exact h
  | cons y l ih => exact ih (S := S.erase y) (h.erase y)
theorem mem_eraseAll {l S : List Int} (h : S.Nodup) {x : Int} : x ∈ eraseAll l S ↔ x ∈ S ∧ x ∉ l := by
  induction l generalizing S with
  | nil => simp [eraseAll]
  | cons y l ih =>
    have : eraseAll (y :: l) S = eraseAll l (S.erase y) := rfl
    rw [this, ih (h.erase y), h.mem_erase_iff]; simp only [List.mem_cons, not_or]
    constructor
    · rintro ⟨⟨h1, h2⟩, h3⟩; exact ⟨h2, h1, h3⟩
    · rintro ⟨h1, h2, h3⟩; exact ⟨⟨h2, h1⟩, h3⟩

theorem sets_L (x : LIns) (av : Value) (w : World) : Calls Try.prog 63 #[x.agg av] w (RetInts w x.sets) := sets_any _ _ _ _ _ _ _ _ _
theorem uses_L (x : LIns) (av : Value) (w : World) (gx : GIns w x av) : Calls Try.prog 36 #[x.agg av] w (RetInts w x.uses) := uses_any _ _ _ _ _ _ _ _ _ _ gx.args gx.len
theorem GIns.below {w w' : World} (hb : Below w.heap.size w w') {x : LIns} {av : Value} (g : GIns w x av) : GIns w' x av := ⟨g.d, g.a, g.b, g.args.below hb, g.len⟩
theorem GIns.grown {w w' : World} {b : Nat} {ks : List Value} (hs : SetAt w b ks) (hg : w.grownBy w' (some b)) {x : LIns} {av : Value} (g : GIns w x av) : GIns w' x av := ⟨g.d, g.a, g.b, g.args.grown hs hg, g.len⟩

def StepPost (b : Nat) (S : List Int) (x : LIns) (w : World) (e : Ending) (w' : World) : Prop :=
  e = .returned (.tuple #[]) ∧ SetAt w' b ((insAll x.uses (eraseAll x.sets S)).map I) ∧ w.grownBy w' (some b)

set_option maxRecDepth 100000 in
set_option maxHeartbeats 1000000 in
theorem step_any (b : Nat) (S : List Int) (x : LIns) (av : Value) (w : World) (hs : SetAt w b (S.map I)) (gx : GIns w x av) :
    Calls Try.prog 67 #[.map (some b), x.agg av] w (StepPost b S x w) := by
  have hlen := x.sets_len
  go_enter Try.func67, Try.ntmps67
  go_wp2_with (first
    | (go_at_call 63; refine (sets_L x av _).mono ?_; rintro e w1 ⟨v1, rfl, own1, hb1⟩; have hr1 := OwnInts.reads own1 gx.sets (by have := x.sets_len; omega); have HV := Lib.hid hr1; obtain ⟨a1, c1, rfl, _⟩ := hr1; have hbw := (below_a1 _ _).trans (hb1.mono (by simp)); have HB := Lib.hid hbw; have HBX := Lib.hid (hb1.block w.heap.size (by simp)); clear own1 hb1 hbw))
  have hs1 := Lib.hid (hs.ext HB.out)
  go_loopg [9] x.sets.length (fun g i wr => ∃ k : Nat, k ≤ x.sets.length ∧ g = x.sets.length - k ∧ i = I k ∧ SetAt wr b ((eraseAll (x.sets.take k) S).map I) ∧ w1.grownBy wr (some b))
  case atStart => exact ⟨0, Nat.zero_le _, rfl, rfl, by simpa [eraseAll] using hs1.out, grown_refl _ _⟩
  case round =>
    obtain ⟨k, hk, hgk, rfl, hs2, hg2⟩ := hrel
    by_cases hlt : k < x.sets.length
    · obtain ⟨b1, o1, c1', he, hc, hin⟩ := RInts.at (RInts.grown hs1.out hg2 HV.out) hlt
      obtain ⟨rfl, rfl⟩ : a1 = some ⟨b1, o1, none⟩ ∧ c1 = c1' := by simpa using he
      have HS := Lib.hid hs2
      have HG := Lib.hid hg2
      have HK := Lib.hid hgk
      have HSN : Hid (x.sets.take (k + 1) = x.sets.take k ++ [x.sets[k]]) := List.take_succ_eq_append_getElem hlt
      clear hs2 hg2 he hgk
      obtain ⟨y, hy⟩ : ∃ y, y = x.sets[k] := ⟨_, rfl⟩
      rw [← hy] at hc hin
      have HY := Lib.hid hy
      clear hy
      go_wp2_with (first
        | (refine wpList_delS keyInt Try.underlying86 rfl _ _ rfl b _ y rfl rfl HS.out ?_; intro w2 hs2 hg2 hz2; have HS2 := Lib.hid hs2; have HG2 := Lib.hid hg2; clear hs2 hg2 hz2)
        | fail)
      go_roundg (x.sets.length - (k + 1))
      case measure => have := HK.out; omega
      case rel => exact ⟨k + 1, by omega, rfl, by go_num, by rw [HSN.out, eraseAll_snoc, ← HY.out]; exact HS2.out, grown_trans HG.out HG2.out⟩
    · have hkl : k = x.sets.length := by omega
      have hbx := grown_old hg2 (HBX.out.trans (heap_new _ _)) (by intro e; simp only [Option.some.injEq] at e; have := hs.lt; omega)
      have h0 := cell_of_block hbx 0
      have h1 := cell_of_block hbx 1
      have h2 := cell_of_block hbx 2
      have h3 := cell_of_block hbx 3
      have h4 := cell_of_block hbx 4
      have h5 := cell_of_block hbx 5
      have h6 := cell_of_block hbx 6
      have h7 := cell_of_block hbx 7
      simp only [List.getElem?_toArray, List.getElem?_cons_succ, List.getElem?_cons_zero] at h0 h1 h2 h3 h4 h5 h6 h7
      have gx2 : Hid (GIns wr x av) := (gx.below HB.out).grown hs1.out hg2
      rw [hkl, List.take_length] at hs2
      have HS := Lib.hid hs2
      have HG := Lib.hid hg2
      clear hs2 hg2 hbx hs hgk
      go_wp2_with (first
        | (go_at_call 36; refine (uses_L x av _ gx2.out).mono ?_; rintro e w3 ⟨v3, rfl, own3, hb3⟩; have HR3 := Lib.hid (OwnInts.reads own3 gx.uses (by have := x.uses_len gx.len; omega)); have HB3 := Lib.hid hb3; clear own3 hb3)
        | (go_at_call 68; refine (add_any b _ v3 x.uses _ (HS.out.ext HB3.out) HR3.out).mono ?_; rintro e w4 ⟨rfl, hs4, hg4, hz4⟩; have HS4 := Lib.hid hs4; have HG4 := Lib.hid hg4; clear hs4 hg4 hz4))
      go_end0
      exact ⟨rfl, HS4.out, grown_trans (below_grown HB.out _) (grown_trans HG.out (grown_trans (below_grown HB3.out _) HG4.out))⟩

end Go.Proofs.Ytdlcpmjhngfgkaa

namespace Go.Proofs.Ytdlcpmjhngfgkaa
open Go.RowKit

/-- a change of a block that was not there at the beginning -/
theorem grown_new {a b c : World} {row : Option Nat} {r : Nat} (h : a.grownBy b row) (k : b.grownBy c (some r)) (hr : a.heap.size ≤ r) : a.grownBy c row :=
  ⟨k.os.trans h.os, k.tape.trans h.tape, k.output.trans h.output, Nat.le_trans h.size k.size, fun i hi hne => (k.block i (Nat.lt_of_lt_of_le hi h.size) (by simp; omega)).trans (h.block i hi hne)⟩

def CopyPost (g : Nat) (D S : List Int) (w : World) (e : Ending) (w' : World) : Prop :=
  e = .returned (.tuple #[]) ∧ ∃ R : List Int, R.Perm S ∧ SetAt w' g ((insAll R D).map I) ∧ w.grownBy w' (some g)

set_option maxRecDepth 100000 in
set_option maxHeartbeats 1000000 in
theorem copy_any (g s : Nat) (D S : List Int) (w : World) (hd : SetAt w g (D.map I)) (hs : SetAt w s (S.map I)) (hgs : g ≠ s) (hS : S.Nodup) :
    Calls Try.prog 74 #[.map (some g), .map (some s)] w (CopyPost g D S w) := by
  go_enter Try.func74, Try.ntmps74
  go_wp2_with (first
    | (refine wpList_rangeS (enc := I) Try.underlying86 rfl _ rfl s S rfl hs ?_; intro w1 hi1 hg1 hz1; have HI := Lib.hid hi1; have HG := Lib.hid hg1; have HZ := Lib.hid hz1; clear hi1 hg1 hz1)
    | fail)
  have hlt : g < w.heap.size := hd.lt
  have hlts : s < w.heap.size := hs.lt
  have hd1 := Lib.hid (hd.below (HG.out.block g hd.lt (by simp)))
  go_frame
  go_loopg [4] S.length (fun gh _ wr => ∃ dn left : List Int, left.length = gh ∧ left.Nodup ∧ (dn ++ left).Perm S ∧ IterAt I wr w.heap.size s S left ∧ SetAt wr g ((insAll dn D).map I) ∧ w.grownBy wr (some g))
  case atStart => exact ⟨[], S, rfl, hS, List.Perm.refl _, HI.out, by simpa [insAll] using hd1.out, grown_none _ HG.out⟩
  case round =>
    obtain ⟨dn, left, hl, hnd, hp, hi, hsd, hg⟩ := hrel
    have HI2 := Lib.hid hi
    have HD := Lib.hid hsd
    have HG2 := Lib.hid hg
    have HL := Lib.hid hl
    have HP := Lib.hid hp
    have HN := Lib.hid hnd
    clear hi hsd hg hl hp hnd hd hs
    go_wp2_with (first
      | (refine wpList_nextS (enc := I) rfl _ rfl w.heap.size s S left keyInt.inj HN.out rfl HI2.out ?_ ?_)
      | fail)
    · intro hl0
      have HL0 := Lib.hid hl0
      clear hl0
      go_wp2
      go_end0
      refine ⟨rfl, dn, ?_, HD.out, HG2.out⟩
      have := HP.out
      rw [HL0.out, List.append_nil] at this
      exact this
    · intro y w2 hy hi2 hg2 hz2 hent
      have hne : w.heap.size ≠ g := by omega
      have HD2 : Hid (SetAt w2 g ((insAll dn D).map I)) := HD.out.below (hg2.block g HD.out.lt (by simpa using fun e => hne e.symm))
      have HI3 := Lib.hid hi2
      have HG3 := Lib.hid hg2
      have HZ3 := Lib.hid hz2
      have HY := Lib.hid hy
      clear hi2 hg2 hz2 hy
      go_wp2_with (first
        | (at_mapUpdate; refine wpList_putS keyInt Try.underlying86 rfl _ _ _ rfl g _ y rfl rfl rfl (HD2.out.ext (below_a1 _ _)) ?_; intro w3 hs3 hg3 hz3; have HS3 := Lib.hid hs3; have HG4 := Lib.hid hg3; have HZ4 := Lib.hid hz3; clear hs3 hg3 hz3))
      go_roundg ((left.erase y).length)
      case measure => rw [List.length_erase_of_mem HY.out, ← HL.out]; have := List.length_pos_of_mem HY.out; omega
      case rel =>
        refine ⟨dn ++ [y], left.erase y, rfl, HN.out.erase y, ?_, ?_, by rw [insAll_snoc]; exact HS3.out, ?_⟩
        · refine List.Perm.trans ?_ HP.out
          rw [List.append_assoc]
          exact List.Perm.append_left dn (List.perm_cons_erase HY.out).symm
        · have hb := below_a1 w2 (Obj.cells #[] 78)
          have hsz := HG2.out.size
          refine HI3.out.kept ?_ ?_
          · rw [HG4.out.block s (by simp; have := HZ3.out; omega) (by simpa using fun e => hgs e.symm)]
            exact hb.block s (by have := HZ3.out; omega)
          · have hr : w.heap.size < w2.heap.size := by have := HI3.out; obtain ⟨_, _, _, _, _, _, _, h, _⟩ := this; exact (Array.getElem?_eq_some_iff.1 h).1
            rw [HG4.out.block w.heap.size (by simp; omega) (by simpa using hne)]
            exact hb.block _ hr
        · exact grown_trans (grown_new HG2.out HG3.out (Nat.le_refl _)) (grown_trans (below_grown (below_a1 _ _) _) HG4.out)

end Go.Proofs.Ytdlcpmjhngfgkaa

namespace Go.Proofs.Ytdlcpmjhngfgkaa
open Go.RowKit

structure LTerm where
  kind : Int
  a : Int
  to : Int
  els : Int
def LTerm.next (t : LTerm) : List Int := nextL t.kind t.to t.els
def LTerm.wants (t : LTerm) : List Int := wantsL t.kind t.a
structure GTerm (t : LTerm) : Prop where
  a : InI t.a
  to : InI t.to
  els : InI t.els
theorem GTerm.next {t : LTerm} (g : GTerm t) : ∀ y ∈ t.next, InI y := by
  intro y hy; unfold LTerm.next nextL at hy
  split at hy
  · simp at hy; rcases hy with rfl | rfl
    · exact g.to
    · exact g.els
  · split at hy
    · simp at hy; subst hy; exact g.to
    · cases hy
theorem GTerm.wants {t : LTerm} (g : GTerm t) : ∀ y ∈ t.wants, InI y := by
  intro y hy; unfold LTerm.wants wantsL at hy
  split at hy
  · simp at hy; subst hy; exact g.a
  · cases hy
theorem LTerm.next_len (t : LTerm) : t.next.length ≤ 2 := by
  unfold LTerm.next nextL; split
  · simp
  · split <;> simp
theorem LTerm.wants_len (t : LTerm) : t.wants.length ≤ 1 := by unfold LTerm.wants wantsL; split <;> simp
abbrev LTerm.agg (t : LTerm) : Value := .agg #[.int .i64 t.kind, .int .i64 t.a, .int .i64 t.to, .int .i64 t.els]
theorem next_L (t : LTerm) (w : World) : Calls Try.prog 60 #[t.agg] w (RetInts w t.next) := next_any _ _ _ _ _
theorem wants_L (t : LTerm) (w : World) : Calls Try.prog 62 #[t.agg] w (RetInts w t.wants) := wants_any _ _ _ _ _

structure LBlock where
  ins : List LIns
  term : LTerm
abbrev LBlock.agg (b : LBlock) (iv : Value) : Value := .agg #[iv, .int .i64 b.term.kind, .int .i64 b.term.a, .int .i64 b.term.to, .int .i64 b.term.els]

def RMap (_ : World) (C : Nat → Value) (b : Nat) : Prop := C 0 = .map (some b)
/-- a slice of sets -/
structure Lives (w : World) (lv : Value) (bs : List Nat) (Ls : List (List Int)) : Prop where
  sl : RSl 1 RMap w lv bs
  len : bs.length = Ls.length
  nd : bs.Nodup
  set : ∀ (i b : Nat) (l : List Int), bs[i]? = some b → Ls[i]? = some l → SetAt w b (l.map I) ∧ l.Nodup

theorem Lives.below {w w' : World} (hb : Below w.heap.size w w') {lv : Value} {bs : List Nat} {Ls : List (List Int)} (h : Lives w lv bs Ls) : Lives w' lv bs Ls :=
  ⟨RSl.below (fun _ h => h) hb h.sl, h.len, h.nd, fun i b l h1 h2 => ⟨(h.set i b l h1 h2).1.ext hb, (h.set i b l h1 h2).2⟩⟩

theorem Lives.at {w : World} {lv : Value} {bs : List Nat} {Ls : List (List Int)} (h : Lives w lv bs Ls) {i : Nat} (hi : i < bs.length) :
    ∃ b o c l, lv = .slice (some ⟨b, o, none⟩) bs.length c ∧ w.cell? ⟨b, o + i, none⟩ = some (.map (some bs[i])) ∧ Ls[i]? = some l ∧ SetAt w bs[i] (l.map I) ∧ l.Nodup := by
  obtain ⟨a, c, hv, hm, h1⟩ := h.sl
  rcases h1 with rfl | ⟨b, o, rfl, h1⟩
  · simp at hi
  · obtain ⟨C, hC, h0⟩ := h1 i bs[i] (List.getElem?_eq_getElem hi)
    have := hC 0 (by decide)
    simp at this
    have hl : i < Ls.length := by rw [← h.len]; exact hi
    obtain ⟨g1, g2⟩ := h.set i bs[i] Ls[i] (List.getElem?_eq_getElem hi) (List.getElem?_eq_getElem hl)
    exact ⟨b, o, c, Ls[i], hv, by rw [this, show C 0 = _ from h0], List.getElem?_eq_getElem hl, g1, g2⟩

/-- what is wanted ahead of an end -/
def EndS (t : LTerm) (Ls : List (List Int)) (x : Int) : Prop := (∃ k ∈ t.next, ∃ l, Ls[k.toNat]? = some l ∧ x ∈ l) ∨ x ∈ t.wants

def EndPost (t : LTerm) (Ls : List (List Int)) (w : World) (e : Ending) (w' : World) : Prop :=
  ∃ (g : Nat) (l : List Int), e = .returned (.map (some g)) ∧ w.heap.size ≤ g ∧ SetAt w' g (l.map I) ∧ l.Nodup ∧ (∀ x, x ∈ l ↔ EndS t Ls x) ∧ Below w.heap.size w w'

theorem setAt_new (w : World) : SetAt (w.alloc (.map #[] 0)) w.heap.size (([] : List Int).map I) := ⟨#[], 0, heap_new _ _, by simp, by simp, by simp⟩

set_option maxRecDepth 100000 in
set_option maxHeartbeats 1000000 in
theorem end_any (b : LBlock) (iv lv : Value) (bs : List Nat) (Ls : List (List Int)) (w : World) (gt : GTerm b.term) (hl : Lives w lv bs Ls) (hn : ∀ k ∈ b.term.next, 0 ≤ k ∧ k < bs.length) :
    Calls Try.prog 65 #[b.agg iv, lv] w (EndPost b.term Ls w) := by
  have hmm := @run_makeMap Try.prog
  have HL := Lib.hid hl
  have HN := Lib.hid hn
  have GT := Lib.hid gt
  clear hl hn gt
  go_enter Try.func65, Try.ntmps65
  go_wp2_with (first
    | (go_at_call 60; refine (next_L b.term _).mono ?_; rintro e w1 ⟨v1, rfl, own1, hb1⟩; have hr1 := OwnInts.reads own1 GT.out.next (by have := b.term.next_len; omega); have HV := Lib.hid hr1; obtain ⟨a1, c1, rfl, _⟩ := hr1; have HB1 := Lib.hid hb1; clear own1 hb1))
  have hb1 := HB1.out
  have hbw : Hid (Below w.heap.size w w1) := (below_a2 _ _ _).trans (hb1.mono (by simp; omega))
  have hg1 : Hid (SetAt w1 (w.heap.size + 1) (([] : List Int).map I)) := (show SetAt _ _ _ from by have := setAt_new (w.alloc (Obj.cells #[iv, .int .i64 b.term.kind, .int .i64 b.term.a, .int .i64 b.term.to, .int .i64 b.term.els] 46)); rwa [World.size_alloc] at this).ext hb1
  have HBX := Lib.hid ((hb1.block w.heap.size (by simp; omega)).trans (heap_old _ _ (heap_new _ _)))
  have HL1 := Lib.hid (HL.out.below hbw.out)
  have hsz := hb1.size
  simp only [World.size_alloc] at hsz
  have hlen := b.term.next_len
  clear hb1
  go_loopg [13] b.term.next.length (fun g i wr => ∃ (k : Nat) (l : List Int), k ≤ b.term.next.length ∧ g = b.term.next.length - k ∧ i = I k ∧ SetAt wr (w.heap.size + 1) (l.map I) ∧ l.Nodup ∧ (∀ x, x ∈ l ↔ ∃ j ∈ b.term.next.take k, ∃ m, Ls[j.toNat]? = some m ∧ x ∈ m) ∧ w1.grownBy wr (some (w.heap.size + 1)))
  case atStart => exact ⟨0, [], Nat.zero_le _, rfl, rfl, hg1.out, by simp, by simp, grown_refl _ _⟩
  case round =>
    obtain ⟨k, l, hk, hgk, rfl, hs2, hnd, hmem, hg2⟩ := hrel
    have HS := Lib.hid hs2
    have HG := Lib.hid hg2
    have HK := Lib.hid hgk
    have HM := Lib.hid hmem
    have HD := Lib.hid hnd
    clear hs2 hg2 hgk hmem hnd
    by_cases hlt : k < b.term.next.length
    · obtain ⟨b1, o1, c1', he, hc, hin⟩ := RInts.at (RInts.grown hg1.out HG.out HV.out) hlt
      obtain ⟨rfl, rfl⟩ : a1 = some ⟨b1, o1, none⟩ ∧ c1 = c1' := by simpa using he
      have HSN : Hid (b.term.next.take (k + 1) = b.term.next.take k ++ [b.term.next[k]]) := List.take_succ_eq_append_getElem hlt
      have hidx := HN.out b.term.next[k] (List.getElem_mem _)
      obtain ⟨y, hy⟩ : ∃ y, y = b.term.next[k] := ⟨_, rfl⟩
      rw [← hy] at hc hin hidx
      obtain ⟨j, rfl⟩ := Int.eq_ofNat_of_zero_le hidx.1
      have hj : j < bs.length := by omega
      obtain ⟨b2, o2, c2, m, rfl, hc2, hm, hsm, hmd⟩ := HL1.out.at hj
      have hc2' := cell_grown hg1.out HG.out hc2
      have hbj : bs[j] < w.heap.size := by
        obtain ⟨_, _, _, _, _, _, _, h, _⟩ := HL.out.at hj
        exact h.lt
      have HSM : Hid (SetAt wr bs[j] (m.map I)) := hsm.below (HG.out.block _ hsm.lt (by simp; omega))
      have HY := Lib.hid hy
      have HM2 := Lib.hid hm
      clear hy hm hsm hc2 he hidx
      obtain ⟨z, hz⟩ : ∃ z, z = bs[j] := ⟨_, rfl⟩
      rw [← hz] at hc2' HSM hbj
      clear hz
      go_wp2_with (first
        | (go_at_call 74; refine (copy_any (w.heap.size + 1) z l m _ HS.out HSM.out (by omega) hmd).mono ?_; rintro e w3 ⟨rfl, R, hR, hs3, hg3⟩; have HR := Lib.hid hR; have HS3 := Lib.hid hs3; have HG3 := Lib.hid hg3; clear hR hs3 hg3))
      go_roundg (b.term.next.length - (k + 1))
      case measure => have := HK.out; omega
      case rel =>
        refine ⟨k + 1, insAll R l, by omega, rfl, by go_num, HS3.out, nodup_insAll HD.out, ?_, grown_trans HG.out HG3.out⟩
        intro x
        rw [mem_insAll, HM.out, HSN.out, ← HY.out]
        simp only [List.mem_append, List.mem_singleton]
        constructor
        · rintro (h | ⟨j', h1, h2⟩)
          · exact ⟨_, .inr rfl, m, by simpa using HM2.out, HR.out.mem_iff.1 h⟩
          · exact ⟨j', .inl h1, h2⟩
        · rintro ⟨j', h1 | rfl, h2⟩
          · exact .inr ⟨j', h1, h2⟩
          · obtain ⟨m', h3, h4⟩ := h2
            rw [Int.toNat_natCast, HM2.out] at h3
            cases h3
            exact .inl (HR.out.mem_iff.2 h4)
    · have hkl : k = b.term.next.length := by omega
      have hbx := grown_old HG.out HBX.out (by intro e; simp only [Option.some.injEq] at e; omega)
      have h1 := cell_of_block hbx 1
      have h2 := cell_of_block hbx 2
      have h3 := cell_of_block hbx 3
      have h4 := cell_of_block hbx 4
      simp only [List.getElem?_toArray, List.getElem?_cons_succ, List.getElem?_cons_zero] at h1 h2 h3 h4
      clear hbx
      go_wp2_with (first
        | (go_at_call 62; refine (wants_L b.term _).mono ?_; rintro e w3 ⟨v3, rfl, own3, hb3⟩; have HR3 := Lib.hid (OwnInts.reads own3 GT.out.wants (by have := b.term.wants_len; omega)); have HB3 := Lib.hid hb3; clear own3 hb3)
        | (go_at_call 68; refine (add_any (w.heap.size + 1) _ v3 b.term.wants _ (HS.out.ext HB3.out) HR3.out).mono ?_; rintro e w4 ⟨rfl, hs4, hg4, hz4⟩; have HS4 := Lib.hid hs4; have HG4 := Lib.hid hg4; clear hs4 hg4 hz4))
      go_ret
      have hgw : w.grownBy w4 none := grown_new (row := none) (below_grown hbw.out _) (grown_trans HG.out (grown_trans (below_grown HB3.out _) HG4.out)) (by omega)
      refine ⟨_, _, rfl, by omega, HS4.out, nodup_insAll HD.out, ?_, ⟨hgw.os, hgw.tape, hgw.output, hgw.size, fun i hi => hgw.block i hi (by simp)⟩⟩
      intro x
      rw [mem_insAll, HM.out, hkl, List.take_length]
      unfold EndS
      exact or_comm

end Go.Proofs.Ytdlcpmjhngfgkaa
