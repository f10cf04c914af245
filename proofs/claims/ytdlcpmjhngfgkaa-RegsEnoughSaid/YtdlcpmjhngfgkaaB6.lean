import Derived.Test.YtdlcpmjhngfgkaaB5
namespace Go.Proofs.Ytdlcpmjhngfgkaa
open Go.RowKit

structure LTerm where
  kind : Int
  a : Int
  to : Int
  els : Int
def LTerm.next (t : LTerm) : List Int := nextL t.kind t.to t.els
def LTerm.wants (t : LTerm) : List Int := wantsL t.kind t.a
structure GTerm (t : LTerm) : Prop where
  a : InI t.a
  to : InI t.to
  els : InI t.els
theorem GTerm.next {t : LTerm} (g : GTerm t) : ∀ y ∈ t.next, InI y := by
  intro y hy; unfold LTerm.next nextL at hy
  split at hy
  · simp at hy; rcases hy with rfl | rfl
    · exact g.to
    · exact g.els
  · split at hy
    · simp at hy; subst hy; exact g.to
    · cases hy
theorem GTerm.wants {t : LTerm} (g : GTerm t) : ∀ y ∈ t.wants, InI y := by
  intro y hy; unfold LTerm.wants wantsL at hy
  split at hy
  · simp at hy; subst hy; exact g.a
  · cases hy
theorem LTerm.next_len (t : LTerm) : t.next.length ≤ 2 := by
  unfold LTerm.next nextL; split
  · simp
  · split <;> simp
theorem LTerm.wants_len (t : LTerm) : t.wants.length ≤ 1 := by unfold LTerm.wants wantsL; split <;> simp
abbrev LTerm.agg (t : LTerm) : Value := .agg #[.int .i64 t.kind, .int .i64 t.a, .int .i64 t.to, .int .i64 t.els]
theorem next_L (t : LTerm) (w : World) : Calls Try.prog 60 #[t.agg] w (RetInts w t.next) := next_any _ _ _ _ _
theorem wants_L (t : LTerm) (w : World) : Calls Try.prog 62 #[t.agg] w (RetInts w t.wants) := wants_any _ _ _ _ _

structure LBlock where
  ins : List LIns
  term : LTerm
abbrev LBlock.agg (b : LBlock) (iv : Value) : Value := .agg #[iv, .int .i64 b.term.kind, .int .i64 b.term.a, .int .i64 b.term.to, .int .i64 b.term.els]

def RMap (_ : World) (C : Nat → Value) (b : Nat) : Prop := C 0 = .map (some b)
/-- a slice of sets -/
structure Lives (w : World) (lv : Value) (bs : List Nat) (Ls : List (List Int)) : Prop where
  sl : RSl 1 RMap w lv bs
  len : bs.length = Ls.length
  nd : bs.Nodup
  set : ∀ (i b : Nat) (l : List Int), bs[i]? = some b → Ls[i]? = some l → SetAt w b (l.map I) ∧ l.Nodup

theorem Lives.below {w w' : World} (hb : Below w.heap.size w w') {lv : Value} {bs : List Nat} {Ls : List (List Int)} (h : Lives w lv bs Ls) : Lives w' lv bs Ls :=
  ⟨RSl.below (fun _ h => h) hb h.sl, h.len, h.nd, fun i b l h1 h2 => ⟨(h.set i b l h1 h2).1.ext hb, (h.set i b l h1 h2).2⟩⟩

theorem Lives.at {w : World} {lv : Value} {bs : List Nat} {Ls : List (List Int)} (h : Lives w lv bs Ls) {i : Nat} (hi : i < bs.length) :
    ∃ b o c l, lv = .slice (some ⟨b, o, none⟩) bs.length c ∧ w.cell? ⟨b, o + i, none⟩ = some (.map (some bs[i])) ∧ Ls[i]? = some l ∧ SetAt w bs[i] (l.map I) ∧ l.Nodup := by
  obtain ⟨a, c, hv, hm, h1⟩ := h.sl
  rcases h1 with rfl | ⟨b, o, rfl, h1⟩
  · simp at hi
  · obtain ⟨C, hC, h0⟩ := h1 i bs[i] (List.getElem?_eq_getElem hi)
    have := hC 0 (by decide)
    simp at this
    have hl : i < Ls.length := by rw [← h.len]; exact hi
    obtain ⟨g1, g2⟩ := h.set i bs[i] Ls[i] (List.getElem?_eq_getElem hi) (List.getElem?_eq_getElem hl)
    exact ⟨b, o, c, Ls[i], hv, by rw [this, show C 0 = _ from h0], List.getElem?_eq_getElem hl, g1, g2⟩

/-- what is wanted ahead of an end -/
def EndS (t : LTerm) (Ls : List (List Int)) (x : Int) : Prop := (∃ k ∈ t.next, ∃ l, Ls[k.toNat]? = some l ∧ x ∈ l) ∨ x ∈ t.wants

def EndPost (t : LTerm) (Ls : List (List Int)) (w : World) (e : Ending) (w' : World) : Prop :=
  ∃ (g : Nat) (l : List Int), e = .returned (.map (some g)) ∧ w.heap.size ≤ g ∧ SetAt w' g (l.map I) ∧ l.Nodup ∧ (∀ x, x ∈ l ↔ EndS t Ls x) ∧ Below w.heap.size w w'

theorem setAt_new (w : World) : SetAt (w.alloc (.map #[] 0)) w.heap.size (([] : List Int).map I) := ⟨#[], 0, heap_new _ _, by simp, by simp, by simp⟩

set_option maxRecDepth 100000 in
set_option maxHeartbeats 1000000 in
theorem end_any (b : LBlock) (iv lv : Value) (bs : List Nat) (Ls : List (List Int)) (w : World) (gt : GTerm b.term) (hl : Lives w lv bs Ls) (hn : ∀ k ∈ b.term.next, 0 ≤ k ∧ k < bs.length) :
    Calls Try.prog 65 #[b.agg iv, lv] w (EndPost b.term Ls w) := by
  have hmm := @run_makeMap Try.prog
  have HL := Lib.hid hl
  have HN := Lib.hid hn
  have GT := Lib.hid gt
  clear hl hn gt
  go_enter Try.func65, Try.ntmps65
  go_wp2_with (first
    | (go_at_call 60; refine (next_L b.term _).mono ?_; rintro e w1 ⟨v1, rfl, own1, hb1⟩; have hr1 := OwnInts.reads own1 GT.out.next (by have := b.term.next_len; omega); have HV := Lib.hid hr1; obtain ⟨a1, c1, rfl, _⟩ := hr1; have HB1 := Lib.hid hb1; clear own1 hb1))
  have hb1 := HB1.out
  have hbw : Hid (Below w.heap.size w w1) := (below_a2 _ _ _).trans (hb1.mono (by simp; omega))
  have hg1 : Hid (SetAt w1 (w.heap.size + 1) (([] : List Int).map I)) := (show SetAt _ _ _ from by have := setAt_new (w.alloc (Obj.cells #[iv, .int .i64 b.term.kind, .int .i64 b.term.a, .int .i64 b.term.to, .int .i64 b.term.els] 46)); rwa [World.size_alloc] at this).ext hb1
  have HBX := Lib.hid ((hb1.block w.heap.size (by simp; omega)).trans (heap_old _ _ (heap_new _ _)))
  have HL1 := Lib.hid (HL.out.below hbw.out)
  have hsz := hb1.size
  simp only [World.size_alloc] at hsz
  have hlen := b.term.next_len
  clear hb1
  go_loopg [13] b.term.next.length (fun g i wr => ∃ (k : Nat) (l : List Int), k ≤ b.term.next.length ∧ g = b.term.next.length - k ∧ i = I k ∧ SetAt wr (w.heap.size + 1) (l.map I) ∧ l.Nodup ∧ (∀ x, x ∈ l ↔ ∃ j ∈ b.term.next.take k, ∃ m, Ls[j.toNat]? = some m ∧ x ∈ m) ∧ w1.grownBy wr (some (w.heap.size + 1)))
  case atStart => exact ⟨0, [], Nat.zero_le _, rfl, rfl, hg1.out, by simp, by simp, grown_refl _ _⟩
  case round =>
    obtain ⟨k, l, hk, hgk, rfl, hs2, hnd, hmem, hg2⟩ := hrel
    have HS := Lib.hid hs2
    have HG := Lib.hid hg2
    have HK := Lib.hid hgk
    have HM := Lib.hid hmem
    have HD := Lib.hid hnd
    clear hs2 hg2 hgk hmem hnd
    by_cases hlt : k < b.term.next.length
    · obtain ⟨b1, o1, c1', he, hc, hin⟩ := RInts.at (RInts.grown hg1.out HG.out HV.out) hlt
      obtain ⟨rfl, rfl⟩ : a1 = some ⟨b1, o1, none⟩ ∧ c1 = c1' := by simpa using he
      have HSN : Hid (b.term.next.take (k + 1) = b.term.next.take k ++ [b.term.next[k]]) := List.take_succ_eq_append_getElem hlt
      have hidx := HN.out b.term.next[k] (List.getElem_mem _)
      obtain ⟨y, hy⟩ : ∃ y, y = b.term.next[k] := ⟨_, rfl⟩
      rw [← hy] at hc hin hidx
      obtain ⟨j, rfl⟩ := Int.eq_ofNat_of_zero_le hidx.1
      have hj : j < bs.length := by omega
      obtain ⟨b2, o2, c2, m, rfl, hc2, hm, hsm, hmd⟩ := HL1.out.at hj
      have hc2' := cell_grown hg1.out HG.out hc2
      have hbj : bs[j] < w.heap.size := by
        obtain ⟨_, _, _, _, _, _, _, h, _⟩ := HL.out.at hj
        exact h.lt
      have HSM : Hid (SetAt wr bs[j] (m.map I)) := hsm.below (HG.out.block _ hsm.lt (by simp; omega))
      have HY := Lib.hid hy
      have HM2 := Lib.hid hm
      clear hy hm hsm hc2 he hidx
      obtain ⟨z, hz⟩ : ∃ z, z = bs[j] := ⟨_, rfl⟩
      rw [← hz] at hc2' HSM hbj
      clear hz
      go_wp2_with (first
        | (go_at_call 74; refine (copy_any (w.heap.size + 1) z l m _ HS.out HSM.out (by omega) hmd).mono ?_; rintro e w3 ⟨rfl, R, hR, hs3, hg3⟩; have HR := Lib.hid hR; have HS3 := Lib.hid hs3; have HG3 := Lib.hid hg3; clear hR hs3 hg3))
      go_roundg (b.term.next.length - (k + 1))
      case measure => have := HK.out; omega
      case rel =>
        refine ⟨k + 1, insAll R l, by omega, rfl, by go_num, HS3.out, nodup_insAll HD.out, ?_, grown_trans HG.out HG3.out⟩
        intro x
        rw [mem_insAll, HM.out, HSN.out, ← HY.out]
        simp only [List.mem_append, List.mem_singleton]
        constructor
        · rintro (h | ⟨j', h1, h2⟩)
          · exact ⟨_, .inr rfl, m, by simpa using HM2.out, HR.out.mem_iff.1 h⟩
          · exact ⟨j', .inl h1, h2⟩
        · rintro ⟨j', h1 | rfl, h2⟩
          · exact .inr ⟨j', h1, h2⟩
          · obtain ⟨m', h3, h4⟩ := h2
            rw [Int.toNat_natCast, HM2.out] at h3
            cases h3
            exact .inl (HR.out.mem_iff.2 h4)
    · have hkl : k = b.term.next.length := by omega
      have hbx := grown_old HG.out HBX.out (by intro e; simp only [Option.some.injEq] at e; omega)
      have h1 := cell_of_block hbx 1
      have h2 := cell_of_block hbx 2
      have h3 := cell_of_block hbx 3
      have h4 := cell_of_block hbx 4
      simp only [List.getElem?_toArray, List.getElem?_cons_succ, List.getElem?_cons_zero] at h1 h2 h3 h4
      clear hbx
      go_wp2_with (first
        | (go_at_call 62; refine (wants_L b.term _).mono ?_; rintro e w3 ⟨v3, rfl, own3, hb3⟩; have HR3 := Lib.hid (OwnInts.reads own3 GT.out.wants (by have := b.term.wants_len; omega)); have HB3 := Lib.hid hb3; clear own3 hb3)
        | (go_at_call 68; refine (add_any (w.heap.size + 1) _ v3 b.term.wants _ (HS.out.ext HB3.out) HR3.out).mono ?_; rintro e w4 ⟨rfl, hs4, hg4, hz4⟩; have HS4 := Lib.hid hs4; have HG4 := Lib.hid hg4; clear hs4 hg4 hz4))
      go_ret
      have hgw : w.grownBy w4 none := grown_new (row := none) (below_grown hbw.out _) (grown_trans HG.out (grown_trans (below_grown HB3.out _) HG4.out)) (by omega)
      refine ⟨_, _, rfl, by omega, HS4.out, nodup_insAll HD.out, ?_, ⟨hgw.os, hgw.tape, hgw.output, hgw.size, fun i hi => hgw.block i hi (by simp)⟩⟩
      intro x
      rw [mem_insAll, HM.out, hkl, List.take_length]
      unfold EndS
      exact or_comm

end Go.Proofs.Ytdlcpmjhngfgkaa
