import Derived.Test.YtdlcpmjhngfgkaaB4
namespace Go.Proofs.Ytdlcpmjhngfgkaa
open Go.RowKit

/-- a change of a block that was not there at the beginning -/
theorem grown_new {a b c : World} {row : Option Nat} {r : Nat} (h : a.grownBy b row) (k : b.grownBy c (some r)) (hr : a.heap.size ≤ r) : a.grownBy c row :=
  ⟨k.os.trans h.os, k.tape.trans h.tape, k.output.trans h.output, Nat.le_trans h.size k.size, fun i hi hne => (k.block i (Nat.lt_of_lt_of_le hi h.size) (by simp; omega)).trans (h.block i hi hne)⟩

def CopyPost (g : Nat) (D S : List Int) (w : World) (e : Ending) (w' : World) : Prop :=
  e = .returned (.tuple #[]) ∧ ∃ R : List Int, R.Perm S ∧ SetAt w' g ((insAll R D).map I) ∧ w.grownBy w' (some g)

set_option maxRecDepth 100000 in
set_option maxHeartbeats 1000000 in
theorem copy_any (g s : Nat) (D S : List Int) (w : World) (hd : SetAt w g (D.map I)) (hs : SetAt w s (S.map I)) (hgs : g ≠ s) (hS : S.Nodup) :
    Calls Try.prog 74 #[.map (some g), .map (some s)] w (CopyPost g D S w) := by
  go_enter Try.func74, Try.ntmps74
  go_wp2_with (first
    | (refine wpList_rangeS (enc := I) Try.underlying86 rfl _ rfl s S rfl hs ?_; intro w1 hi1 hg1 hz1; have HI := Lib.hid hi1; have HG := Lib.hid hg1; have HZ := Lib.hid hz1; clear hi1 hg1 hz1)
    | fail)
  have hlt : g < w.heap.size := hd.lt
  have hlts : s < w.heap.size := hs.lt
  have hd1 := Lib.hid (hd.below (HG.out.block g hd.lt (by simp)))
  go_frame
  go_loopg [4] S.length (fun gh _ wr => ∃ dn left : List Int, left.length = gh ∧ left.Nodup ∧ (dn ++ left).Perm S ∧ IterAt I wr w.heap.size s S left ∧ SetAt wr g ((insAll dn D).map I) ∧ w.grownBy wr (some g))
  case atStart => exact ⟨[], S, rfl, hS, List.Perm.refl _, HI.out, by simpa [insAll] using hd1.out, grown_none _ HG.out⟩
  case round =>
    obtain ⟨dn, left, hl, hnd, hp, hi, hsd, hg⟩ := hrel
    have HI2 := Lib.hid hi
    have HD := Lib.hid hsd
    have HG2 := Lib.hid hg
    have HL := Lib.hid hl
    have HP := Lib.hid hp
    have HN := Lib.hid hnd
    clear hi hsd hg hl hp hnd hd hs
    go_wp2_with (first
      | (refine wpList_nextS (enc := I) rfl _ rfl w.heap.size s S left keyInt.inj HN.out rfl HI2.out ?_ ?_)
      | fail)
    · intro hl0
      have HL0 := Lib.hid hl0
      clear hl0
      go_wp2
      go_end0
      refine ⟨rfl, dn, ?_, HD.out, HG2.out⟩
      have := HP.out
      rw [HL0.out, List.append_nil] at this
      exact this
    · intro y w2 hy hi2 hg2 hz2 hent
      have hne : w.heap.size ≠ g := by omega
      have HD2 : Hid (SetAt w2 g ((insAll dn D).map I)) := HD.out.below (hg2.block g HD.out.lt (by simpa using fun e => hne e.symm))
      have HI3 := Lib.hid hi2
      have HG3 := Lib.hid hg2
      have HZ3 := Lib.hid hz2
      have HY := Lib.hid hy
      clear hi2 hg2 hz2 hy
      go_wp2_with (first
        | (at_mapUpdate; refine wpList_putS keyInt Try.underlying86 rfl _ _ _ rfl g _ y rfl rfl rfl (HD2.out.ext (below_a1 _ _)) ?_; intro w3 hs3 hg3 hz3; have HS3 := Lib.hid hs3; have HG4 := Lib.hid hg3; have HZ4 := Lib.hid hz3; clear hs3 hg3 hz3))
      go_roundg ((left.erase y).length)
      case measure => rw [List.length_erase_of_mem HY.out, ← HL.out]; have := List.length_pos_of_mem HY.out; omega
      case rel =>
        refine ⟨dn ++ [y], left.erase y, rfl, HN.out.erase y, ?_, ?_, by rw [insAll_snoc]; exact HS3.out, ?_⟩
        · refine List.Perm.trans ?_ HP.out
          rw [List.append_assoc]
          exact List.Perm.append_left dn (List.perm_cons_erase HY.out).symm
        · have hb := below_a1 w2 (Obj.cells #[] 78)
          have hsz := HG2.out.size
          refine HI3.out.kept ?_ ?_
          · rw [HG4.out.block s (by simp; have := HZ3.out; omega) (by simpa using fun e => hgs e.symm)]
            exact hb.block s (by have := HZ3.out; omega)
          · have hr : w.heap.size < w2.heap.size := by have := HI3.out; obtain ⟨_, _, _, _, _, _, _, h, _⟩ := this; exact (Array.getElem?_eq_some_iff.1 h).1
            rw [HG4.out.block w.heap.size (by simp; omega) (by simpa using hne)]
            exact hb.block _ hr
        · exact grown_trans (grown_new HG2.out HG3.out (Nat.le_refl _)) (grown_trans (below_grown (below_a1 _ _) _) HG4.out)

end Go.Proofs.Ytdlcpmjhngfgkaa
