import Derived.Test.YtdlcpmjhngfgkaaB6
import Derived.RangeFuncNested
import Derived.RangeFuncBound
import Derived.RangeFuncCalls
import Derived.RangeFuncLeaves
import Derived.Shelf.Abstract
import Derived.OwnWalkIn
import Derived.TacticsInMore
import Derived.LoopNIn
import Derived.LoopIn
import Derived.Maps.OwnIn
import Derived.Maps.AppendAt
import Derived.Sort.MapsRangeIn
import Derived.Sort.LoopGhostIn
namespace Go.Proofs.Ytdlcpmjhngfgkaa
open Go.RowKit Go.Shelf
attribute [local go_sem] Oper.semAt_some

section
variable {F : Fence} {n : Nat} {α : Type} {enc : α → Value} {w : World} {ops : Array Oper} {rest : List Oper} {o : Oper} {a : Act} {Q : Exit → Act → World → Prop} {T K : TypeId}

theorem wpListIn_rangeS (hT : Try.prog.underlying T = some (.map K 78)) (hgd : o.guard = none) (m : Operand) (hop : o.op = .range T m) (b : Nat) (ys : List α) (hm : a.eval m = .map (some b)) (hs : SetAt w b (ys.map enc))
    (h : ∀ w', IterAt enc w' w.heap.size b ys ys → w.grownBy w' none → w'.heap.size = w.heap.size + 1 → wpListIn F n Try.prog ops Q rest (a.put o.dst (.pointer (some ⟨w.heap.size, 0, none⟩))) w') : wpListIn F n Try.prog ops Q (o :: rest) a w := by
  refine wpListIn_plain hgd fun K' hK' => ?_
  obtain ⟨w', hrun, h1, h2, h3⟩ := run_rangeS (enc := enc) hT hs
  unfold Oper.wpIn
  refine ⟨by simp [Oper.about, hop], ?_⟩
  rw [Oper.semAt_plain F _ _ (by rw [hop]; intro c hc'; cases hc')]
  simp [execOp, hop, hm, hrun, Result.andThen]
  exact hK' _ _ (h w' h1 h2 h3)

theorem wpListIn_nextS [DecidableEq α] (hgd : o.guard = none) (m : Operand) (hop : o.op = .next m false) (r b : Nat) (ys left : List α) (hinj : ∀ x y, enc x = enc y → x = y) (hleft : left.Nodup) (hm : a.eval m = .pointer (some ⟨r, 0, none⟩)) (hs : IterAt enc w r b ys left)
    (h0 : left = [] → wpListIn F n Try.prog ops Q rest (a.put o.dst (.tuple #[.bool false])) w)
    (h : ∀ y w', y ∈ left → IterAt enc w' r b ys (left.erase y) → w.grownBy w' (some r) → w'.heap.size = w.heap.size →
      (Instr.entry (.pointer (some ⟨r, 0, none⟩))).run Try.prog w' = .ok (.tuple #[enc y, .agg #[]]) w' → wpListIn F n Try.prog ops Q rest (a.put o.dst (.tuple #[.bool true, enc y, .agg #[]])) w') : wpListIn F n Try.prog ops Q (o :: rest) a w := by
  refine wpListIn_plain hgd fun K' hK' => ?_
  unfold Oper.wpIn
  refine ⟨by simp [Oper.about, hop], ?_⟩
  rw [Oper.semAt_plain F _ _ (by rw [hop]; intro c hc'; cases hc')]
  rcases run_nextS hs hinj hleft o.type with ⟨hl, hrun⟩ | ⟨y, w', hy, hrun, h1, h2, h3, h4⟩
  · simp [execOp, hop, hm, hrun, Result.andThen]
    exact hK' _ _ (h0 hl)
  · simp [execOp, hop, hm, hrun, Result.andThen]
    exact hK' _ _ (h y w' hy h1 h2 h3 h4)
end

theorem IterAt.walk {α : Type} {enc : α → Value} {w : World} {r b : Nat} {ys left : List α} (h : IterAt enc w r b ys left) : ∃ o : Obj, w.heap[r]? = some o ∧ o.isWalk = true := by
  obtain ⟨_, _, _, _, _, _, _, hr, _⟩ := h; exact ⟨_, hr, rfl⟩
theorem IterAt.walks {α : Type} {enc : α → Value} {w w' : World} {r b : Nat} {ys left : List α} (h : IterAt enc w r b ys left) (hk : KeepsWalks w w') : IterAt enc w' r b ys left := by
  obtain ⟨es, clock, seen, h1, h2, h3, h4, h5, h6⟩ := h
  exact ⟨es, clock, seen, hk.same _ _ h1 rfl, h2, h3, h4, hk.same _ _ h5 rfl, h6⟩

set_option maxRecDepth 100000 in
set_option maxHeartbeats 1000000 in
theorem keys1_in (F : Fence) (n : Nat) (h78 : F.fn 78) (hro : F.round = none) (hn : 1 ≤ n) (l Bm b : Nat) (S : List Int) (hS : S.Nodup) (J Jx : List Int → World → Prop)
    (hY : ∀ pre x W, J pre W → pre.length < S.length → YieldAt F (n - 1) Try.prog l #[I x] W fun e W' => (e = .returned (.bool true) ∧ J (pre ++ [x]) W' ∧ KeepsWalks W W') ∨ (e = .returned (.bool false) ∧ Jx (pre ++ [x]) W'))
    (W : World) (hJ : AbidesFrom W.heap.size J) (hm : W.cell? ⟨Bm, 0, none⟩ = some (.map (some b))) (hs : SetAt W b (S.map I)) (h0 : J [] W) :
    CallsIn F n Try.prog 78 #[.func (.yield l) #[] #[], .pointer (some ⟨Bm, 0, none⟩)] W fun e W' => (∃ v, e = .returned v) ∧ ((∃ ss : List Int, ss.Perm S ∧ J ss W') ∨ (∃ pre : List Int, True ∧ Jx pre W')) := by
  refine callsIn_of_wp Try.func78 rfl h78 ?_ hro
  simp only [Try.ntmps78, List.size_toArray, List.length_cons, List.length_nil, Nat.reduceAdd, Nat.reduceSub, Array.replicate_succ, Array.replicate_zero, List.push_toArray, List.append_toArray, List.nil_append, List.cons_append]
  gi_wp2_with (first
    | (gi_at_range; refine wpListIn_rangeS (enc := I) Try.underlying86 rfl _ rfl b S rfl hs ?_; intro w0 hi0 hg0 hz0; have HI := Lib.hid hi0; have HG := Lib.hid hg0; clear hi0 hg0 hz0)
    | gi_in)
  go_frame
  have hJ0 := Lib.hid (hJ [] W w0 none h0 HG.out (fun r e => by cases e))
  gi_loopg [3] S.length (fun gh _ wr => ∃ (left ss : List Int), left.length = gh ∧ IterAt I wr W.heap.size b S left ∧ left.Nodup ∧ (ss ++ left).Perm S ∧ J ss wr)
  case atStart => exact ⟨S, [], rfl, HI.out, hS, List.Perm.refl _, hJ0.out⟩
  case round =>
    obtain ⟨left, ss, hl, hi, hnd, hp, hj⟩ := hrel
    have HI2 := Lib.hid hi
    have HL := Lib.hid hl
    have HP := Lib.hid hp
    have HN := Lib.hid hnd
    have HJ := Lib.hid hj
    clear hi hl hp hnd hj hs
    gi_wp2_with (first
      | (gi_at_next; refine wpListIn_nextS (enc := I) rfl _ rfl W.heap.size b S left keyInt.inj HN.out rfl HI2.out ?_ ?_)
      | gi_in)
    · intro hl0
      have HL0 := Lib.hid hl0
      clear hl0
      gi_wp2
      go_end0
      refine ⟨⟨_, rfl⟩, .inl ⟨ss, ?_, HJ.out⟩⟩
      have := HP.out
      rw [HL0.out, List.append_nil] at this
      exact this
    · intro y w2 hy hi2 hg2 hz2 hent
      have hJ2 : J ss w2 := hJ ss wr w2 (some W.heap.size) HJ.out hg2 (fun r e => by cases e; exact ⟨Nat.le_refl _, HI2.out.walk⟩)
      have hlen : ss.length < S.length := by
        have h1 := HP.out.length_eq
        have h2 := List.length_pos_of_mem hy
        simp at h1; omega
      obtain ⟨fn, tmps, assign, body, hyy, hR⟩ := hY ss y w2 hJ2 hlen
      have HI3 := Lib.hid hi2
      have HY := Lib.hid hy
      clear hi2 hg2 hz2 hy hJ2
      gi_wp2
      refine hR.mono ?_
      rintro e W3 (⟨rfl, hJ3, hk3⟩ | ⟨rfl, hJx3⟩)
      · have HK3 := Lib.hid hk3
        have HJ3 := Lib.hid hJ3
        clear hk3 hJ3
        gi_wp2
        gi_roundg ((left.erase y).length)
        case measure => rw [List.length_erase_of_mem HY.out, ← HL.out]; have := List.length_pos_of_mem HY.out; omega
        case rel =>
          refine ⟨left.erase y, ss ++ [y], rfl, HI3.out.walks HK3.out, HN.out.erase y, ?_, HJ3.out⟩
          refine List.Perm.trans ?_ HP.out
          rw [List.append_assoc]
          exact List.Perm.append_left ss (List.perm_cons_erase HY.out).symm
      · gi_wp2
        refine bodyPost_ret (results_none rfl _ _ _) rfl ?_
        exact ⟨⟨_, rfl⟩, .inr ⟨_, trivial, hJx3⟩⟩

theorem keys_stops (F : Fence) (n : Nat) (h78 : F.fn 78) (hro : F.round = none) (hn : 1 ≤ n) (Bm b : Nat) (S : List Int) (hS : S.Nodup) (w : World) (hm : w.cell? ⟨Bm, 0, none⟩ = some (.map (some b))) (hs : SetAt w b (S.map I)) :
    SeqStopsK F n Try.prog 78 #[.pointer (some ⟨Bm, 0, none⟩)] (fun x : Int => #[I x]) KeepsWalks (fun ss => ss.Perm S) (fun _ => True) S.length w := fun l J Jx W hW hJ _ hY h0 =>
  keys1_in F n h78 hro hn l Bm b S hS J Jx hY W hJ ((hW.cell (p := ⟨Bm, 0, none⟩) (World.block_lt_of_cell? w _ hm)).trans hm) (hs.ext hW) h0

end Go.Proofs.Ytdlcpmjhngfgkaa
