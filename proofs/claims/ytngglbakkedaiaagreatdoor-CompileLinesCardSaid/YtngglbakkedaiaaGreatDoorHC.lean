import Derived.Test.YtngglbakkedaiaaGreatDoorHS
set_option linter.all false
namespace Go.Proofs.YtngglbakkedaiaaGreatDoor.HR
section
open Go.RowKit Go.Shelf
attribute [local go_sem] Oper.semAt_some
section
variable {F : Fence} {n : Nat} {α : Type} {enc : α → Value} {w : World} {ops : Array Oper} {rest : List Oper} {o : Oper} {a : Act} {Q : Exit → Act → World → Prop} {T K : TypeId}
theorem wpListIn_rangeS (hT : Tryz.prog.underlying T = some (.map K 287)) (hgd : o.guard = none) (m : Operand) (hop : o.op = .range T m) (b : Nat) (ys : List α) (hm : a.eval m = .map (some b)) (hs : SetAt w b (ys.map enc))
    (h : ∀ w', IterAt enc w' w.heap.size b ys ys → w.grownBy w' none → w'.heap.size = w.heap.size + 1 → wpListIn F n Tryz.prog ops Q rest (a.put o.dst (.pointer (some ⟨w.heap.size, 0, none⟩))) w') : wpListIn F n Tryz.prog ops Q (o :: rest) a w := by
  refine wpListIn_plain hgd fun K' hK' => ?_
  obtain ⟨w', hrun, h1, h2, h3⟩ := run_rangeS (enc := enc) hT hs
  unfold Oper.wpIn
  refine ⟨by simp [Oper.about, hop], ?_⟩
  rw [Oper.semAt_plain F _ _ (by rw [hop]; intro c hc'; cases hc')]
  simp [execOp, hop, hm, hrun, Result.andThen]
  exact hK' _ _ (h w' h1 h2 h3)
theorem wpListIn_nextS [DecidableEq α] (hgd : o.guard = none) (m : Operand) (hop : o.op = .next m false) (r b : Nat) (ys left : List α) (hinj : ∀ x y, enc x = enc y → x = y) (hleft : left.Nodup) (hm : a.eval m = .pointer (some ⟨r, 0, none⟩)) (hs : IterAt enc w r b ys left)
    (h0 : left = [] → wpListIn F n Tryz.prog ops Q rest (a.put o.dst (.tuple #[.bool false])) w)
    (h : ∀ y w', y ∈ left → IterAt enc w' r b ys (left.erase y) → w.grownBy w' (some r) → w'.heap.size = w.heap.size →
      (Instr.entry (.pointer (some ⟨r, 0, none⟩))).run Tryz.prog w' = .ok (.tuple #[enc y, .agg #[]]) w' → wpListIn F n Tryz.prog ops Q rest (a.put o.dst (.tuple #[.bool true, enc y, .agg #[]])) w') : wpListIn F n Tryz.prog ops Q (o :: rest) a w := by
  refine wpListIn_plain hgd fun K' hK' => ?_
  unfold Oper.wpIn
  refine ⟨by simp [Oper.about, hop], ?_⟩
  rw [Oper.semAt_plain F _ _ (by rw [hop]; intro c hc'; cases hc')]
  rcases run_nextS hs hinj hleft o.type with ⟨hl, hrun⟩ | ⟨y, w', hy, hrun, h1, h2, h3, h4⟩
  · simp [execOp, hop, hm, hrun, Result.andThen]
    exact hK' _ _ (h0 hl)
  · simp [execOp, hop, hm, hrun, Result.andThen]
    exact hK' _ _ (h y w' hy h1 h2 h3 h4)
end
theorem IterAt.walk {α : Type} {enc : α → Value} {w : World} {r b : Nat} {ys left : List α} (h : IterAt enc w r b ys left) : ∃ o : Obj, w.heap[r]? = some o ∧ o.isWalk = true := by
  obtain ⟨_, _, _, _, _, _, _, hr, _⟩ := h; exact ⟨_, hr, rfl⟩
theorem IterAt.walks {α : Type} {enc : α → Value} {w w' : World} {r b : Nat} {ys left : List α} (h : IterAt enc w r b ys left) (hk : KeepsWalks w w') : IterAt enc w' r b ys left := by
  obtain ⟨es, clock, seen, h1, h2, h3, h4, h5, h6⟩ := h
  exact ⟨es, clock, seen, hk.same _ _ h1 rfl, h2, h3, h4, hk.same _ _ h5 rfl, h6⟩
set_option maxRecDepth 100000 in
set_option maxHeartbeats 1000000 in
theorem keys1_in (F : Fence) (n : Nat) (h365 : F.fn 365) (hro : F.round = none) (hn : 1 ≤ n) (l Bm b : Nat) (S : List Int) (hS : S.Nodup) (J Jx : List Int → World → Prop)
    (hY : ∀ pre x W, J pre W → pre.length < S.length → YieldAt F (n - 1) Tryz.prog l #[I x] W fun e W' => (e = .returned (.bool true) ∧ J (pre ++ [x]) W' ∧ KeepsWalks W W') ∨ (e = .returned (.bool false) ∧ Jx (pre ++ [x]) W'))
    (W : World) (hJ : AbidesFrom W.heap.size J) (hm : W.cell? ⟨Bm, 0, none⟩ = some (.map (some b))) (hs : SetAt W b (S.map I)) (h0 : J [] W) :
    CallsIn F n Tryz.prog 365 #[.func (.yield l) #[] #[], .pointer (some ⟨Bm, 0, none⟩)] W fun e W' => (∃ v, e = .returned v) ∧ ((∃ ss : List Int, ss.Perm S ∧ J ss W') ∨ (∃ pre : List Int, True ∧ Jx pre W')) := by
  refine callsIn_of_wp Tryz.func365 rfl h365 ?_ hro
  simp only [Tryz.ntmps365, List.size_toArray, List.length_cons, List.length_nil, Nat.reduceAdd, Nat.reduceSub, Array.replicate_succ, Array.replicate_zero, List.push_toArray, List.append_toArray, List.nil_append, List.cons_append]
  gi_wp2_with (first
    | (gi_at_range; refine wpListIn_rangeS (enc := I) Tryz.underlying342 rfl _ rfl b S rfl hs ?_; intro w0 hi0 hg0 hz0; have HI := Lib.hid hi0; have HG := Lib.hid hg0; clear hi0 hg0 hz0)
    | gi_in)
  go_frame
  have hJ0 := Lib.hid (hJ [] W w0 none h0 HG.out (fun r e => by cases e))
  gi_loopg [3] S.length (fun gh _ wr => ∃ (left ss : List Int), left.length = gh ∧ IterAt I wr W.heap.size b S left ∧ left.Nodup ∧ (ss ++ left).Perm S ∧ J ss wr)
  case atStart => exact ⟨S, [], rfl, HI.out, hS, List.Perm.refl _, hJ0.out⟩
  case round =>
    obtain ⟨left, ss, hl, hi, hnd, hp, hj⟩ := hrel
    have HI2 := Lib.hid hi
    have HL := Lib.hid hl
    have HP := Lib.hid hp
    have HN := Lib.hid hnd
    have HJ := Lib.hid hj
    clear hi hl hp hnd hj hs
    gi_wp2_with (first
      | (gi_at_next; refine wpListIn_nextS (enc := I) rfl _ rfl W.heap.size b S left iInj HN.out rfl HI2.out ?_ ?_)
      | gi_in)
    · intro hl0
      have HL0 := Lib.hid hl0
      clear hl0
      gi_wp2
      go_end0
      refine ⟨⟨_, rfl⟩, .inl ⟨ss, ?_, HJ.out⟩⟩
      have := HP.out
      rw [HL0.out, List.append_nil] at this
      exact this
    · intro y w2 hy hi2 hg2 hz2 hent
      have hJ2 : J ss w2 := hJ ss wr w2 (some W.heap.size) HJ.out hg2 (fun r e => by cases e; exact ⟨Nat.le_refl _, HI2.out.walk⟩)
      have hlen : ss.length < S.length := by
        have h1 := HP.out.length_eq
        have h2 := List.length_pos_of_mem hy
        simp at h1; omega
      obtain ⟨fn, tmps, assign, body, hyy, hR⟩ := hY ss y w2 hJ2 hlen
      have HI3 := Lib.hid hi2
      have HY := Lib.hid hy
      clear hi2 hg2 hz2 hy hJ2
      gi_wp2
      refine hR.mono ?_
      rintro e W3 (⟨rfl, hJ3, hk3⟩ | ⟨rfl, hJx3⟩)
      · have HK3 := Lib.hid hk3
        have HJ3 := Lib.hid hJ3
        clear hk3 hJ3
        gi_wp2
        gi_roundg ((left.erase y).length)
        case measure => rw [List.length_erase_of_mem HY.out, ← HL.out]; have := List.length_pos_of_mem HY.out; omega
        case rel =>
          refine ⟨left.erase y, ss ++ [y], rfl, HI3.out.walks HK3.out, HN.out.erase y, ?_, HJ3.out⟩
          refine List.Perm.trans ?_ HP.out
          rw [List.append_assoc]
          exact List.Perm.append_left ss (List.perm_cons_erase HY.out).symm
      · gi_wp2
        refine bodyPost_ret (results_none rfl _ _ _) rfl ?_
        exact ⟨⟨_, rfl⟩, .inr ⟨_, trivial, hJx3⟩⟩
theorem keys_stops (F : Fence) (n : Nat) (h365 : F.fn 365) (hro : F.round = none) (hn : 1 ≤ n) (Bm b : Nat) (S : List Int) (hS : S.Nodup) (w : World) (hm : w.cell? ⟨Bm, 0, none⟩ = some (.map (some b))) (hs : SetAt w b (S.map I)) :
    SeqStopsK F n Tryz.prog 365 #[.pointer (some ⟨Bm, 0, none⟩)] (fun x : Int => #[I x]) KeepsWalks (fun ss => ss.Perm S) (fun _ => True) S.length w := fun l J Jx W hW hJ _ hY h0 =>
  keys1_in F n h365 hro hn l Bm b S hS J Jx hY W hJ ((hW.cell (p := ⟨Bm, 0, none⟩) (World.block_lt_of_cell? w _ hm)).trans hm) (hs.ext hW) h0
theorem KeepsOthers.walks {W W' : World} (h : KeepsOthers W W') : KeepsWalks W W' := ⟨h.size, fun k o hk hw => h.same k o hk (Obj.not_cells_of_walk hw)⟩
set_option maxHeartbeats 1000000 in
theorem keys_any (mb : Option Nat) (w : World) :
    Calls Tryz.prog 336 #[.map mb] w fun e w' => e = .returned (.func (.func 365) #[] #[.pointer (some ⟨w.heap.size, 0, none⟩)]) ∧ w' = w.alloc (.cells #[.map mb] 342) := by
  go_enter Tryz.func336, Tryz.ntmps336
  go_wp2
  go_ret
  exact ⟨rfl, rfl⟩
set_option maxRecDepth 100000 in
set_option maxHeartbeats 2000000 in
theorem appendSeq_in (F : Fence) (n : Nat) (h398 : F.fn 398) (hro : F.round = none) (hn : 2 ≤ n) (g : Nat) (lb : Array Value) (hFg : F.fn g) (eg : ∀ args w, (callFunc g args).run Tryz.prog w = .ok (.enter g args) w)
    (S Sp : List Int → Prop) (N : Nat) (hN : N ≤ 1000000000000) (w : World) (hseq : SeqStopsK F (n - 1) Tryz.prog g lb (fun x : Int => #[I x]) KeepsWalks S Sp N w) :
    CallsIn F n Tryz.prog 398 #[.slice none 0 0, .func (.func g) #[] lb] w fun e w' => ∃ (v : Value) (ss : List Int), e = .returned v ∧ S ss ∧ OwnInts w' w.heap.size v ss ∧ Below w.heap.size w w' := by
  have h1 : 1 ≤ n := by omega
  obtain ⟨i0, z0, hi, hz0, hz1, hz2, hz3⟩ := slInt.hi
  refine callsIn_of_wp_marks Tryz.func398 rfl h398 ?_ hro
  simp only [Tryz.ntmps398, List.size_toArray, List.length_cons, List.length_nil, Nat.reduceAdd, Nat.reduceSub, Array.replicate_succ, Array.replicate_zero, List.push_toArray, List.append_toArray, List.nil_append, List.cons_append]
  gi_wp2
  have bS := Boxed.new w 22 (.slice none 0 0)
  have hB0 : Below w.heap.size w (w.alloc (.cells #[.slice none 0 0] 22)) := below_a1 _ _
  refine wpIn_rangeFunc_ownG hro h1 (gf := g) (lb := lb) rfl hFg eg hseq walksK_t walksK_b hB0 (fun _ => rfl)
    (fun pre W => (∃ v, Boxed W w.heap.size 22 v ∧ W.ownsRow w.heap.size 3 1 v pre.length (pre.map I) ∧ True) ∧ (Below w.heap.size w W ∧ pre.length ≤ N))
    (fun _ _ _ => False)
    (OwnFrom.and (Own.from (holdsRow_own _ _ _ _ _ _ _ _) _) (OwnFrom.and (ownFrom_below (Nat.le_refl _) (by simp)) (ownFrom_pure _ _)))
    (fun _ _ _ _ _ hs _ _ => hs)
    ⟨⟨_, bS, OwnInts.nil _ _, trivial⟩, hB0, by simp⟩
    (fun x => { tmps := #[.slice none 0 0, .func (.func g) #[] lb, .pointer (some ⟨w.heap.size, 0, none⟩), undef, .slice none 0 0, .int .i64 x, .func (.func g) #[] lb, .int .i64 x, undef, undef, undef, undef, undef], defers := [] }) ?assign ?body ?done ?stop
  case assign =>
    intro l x W K hK
    gi_wp2
    exact hK
  case body =>
    rintro l pre x W ⟨⟨v, hv, hrow, _⟩, hB, hlen⟩ hlt
    have hcv := hv.cell
    gi_wp2_with (first
      | (gi_at_builtin; refine wpListIn_append_own _ rfl _ _ 22 rfl w.heap.size 3 i0 z0 1 8 Tryz.underlying22 hi hz0 hz1 hz2 hz3 (by decide) _ _ _ rfl (hrow.alloc _) ⟨W.heap.size, 0, none⟩ 1 1 [I x] rfl rfl (cell_one_new _ _ _) (by simp [Value.oneCell']) (by unfold maxLen; omega) (by omega) (by have := hB.size; simp; omega) ?_; intro v' w1 hown' hgrow _; obtain ⟨g', cap', rfl⟩ := ownsRow_succ hown'; obtain ⟨hv1, hv2, hr2, hk2, hb2⟩ := hv.appended (by decide) hrow hB.size (Nat.le_refl _) hown' hgrow; have hc1 := hv1.cell; have hf1 := hv1.frozen; have HV2 := Lib.hid hv2; have HR2 := Lib.hid hr2; have HK2 := Lib.hid hk2; have HB2 := Lib.hid hb2; clear hv2 hr2 hk2 hb2 hown' hgrow hv1)
      | gi_in)
    exact ⟨(KeepsOthers.from HK2.out _), KeepsOthers.walks HK2.out, ⟨⟨_, HV2.out, by simpa using HR2.out, trivial⟩, hB.trans HB2.out, by simp; omega⟩⟩
  case done =>
    rintro D ss W hD hS ⟨⟨v, hv, hrow, _⟩, hB, hlen⟩ hK
    have hcv := hv.cell
    gi_wp2
    refine ⟨by simp, .inl ⟨_, _, rfl, run_takeDeferred hK, ?_⟩⟩
    exact ⟨_, results_tmp rfl _ _ _, v, ss, rfl, hS, ownsRow_putObj hrow _ hK rfl, hB.trans (belowK_b (w := w) (Nat.le_refl _) W D _ _ (by simp at hD; omega) hK rfl rfl)⟩
  case stop =>
    rintro D c pre W _ _ h _
    exact h.elim
def sortL (S : List Int) : List Int := S.mergeSort (fun x y => decide (x ≤ y))
theorem sort_own (base : Nat) (v : Value) (l : List Int) (w : World) (h : OwnInts w base v l) (hl : l.length ≤ 1000000000000) (hb : base ≤ w.heap.size) :
    Calls Tryz.prog 152 #[v] w fun e w' => e = .returned (.tuple #[]) ∧ OwnInts w' base v (sortL l) ∧ w.grownBy w' v.ownBlock := by
  rcases h.2 with ⟨rfl, h0⟩ | ⟨g, cap, cur, rfl, hg, hh, hc, hm, hs, ht⟩
  · have := List.eq_nil_of_length_eq_zero h0
    subst this
    refine (Tryz.slices_Sort_int_none _ _ w).mono ?_
    rintro e w' ⟨rfl, rfl⟩
    exact ⟨rfl, by simpa [sortL] using OwnInts.nil _ _, grown_refl _ _⟩
  · have hH := holds_of_block_i hh (by simpa using ht)
    refine (Tryz.slices_Sort_int g 0 cap l w hH (Array.getElem?_eq_some_iff.1 hh).1 (by omega)).mono ?_
    rintro e w' ⟨rfl, n, os, rfl⟩
    have hlen : (sortL l).length = l.length := (List.mergeSort_perm l _).length_eq
    refine ⟨rfl, ?_, grownBy_sorted_i _⟩
    have := ownsRow_sorted_i (n := n) (os := os) (ss := l) (ts := sortL l) (by rw [hlen]) hg hh hc hm hs
    unfold OwnInts
    rw [hlen]; exact this
theorem sortL_sorted (l : List Int) : (sortL l).Pairwise (· ≤ ·) := by
  have := List.pairwise_mergeSort (le := fun x y : Int => decide (x ≤ y)) (fun a b c h1 h2 => by simp at *; omega) (fun a b => by simp; omega) l
  exact this.imp (by simp)
theorem sortL_perm {l l' : List Int} (h : l.Perm l') : sortL l = sortL l' :=
  List.Perm.eq_of_pairwise (le := (· ≤ ·)) (fun a b _ _ h1 h2 => by omega) (sortL_sorted l) (sortL_sorted l') (((List.mergeSort_perm l _).trans h).trans (List.mergeSort_perm l' _).symm)
theorem OwnInts.mono {w : World} {base base' : Nat} {v : Value} {l : List Int} (h : OwnInts w base v l) (hb : base' ≤ base) : OwnInts w base' v l := by
  refine ⟨h.1, h.2.imp id ?_⟩
  rintro ⟨g, cap, cur, h1, h2, h3⟩
  exact ⟨g, cap, cur, h1, Nat.le_trans hb h2, h3⟩
set_option maxHeartbeats 1000000 in
theorem collect_in (F : Fence) (n : Nat) (h364 : F.fn 364) (h398 : F.fn 398) (hro : F.round = none) (hn : 3 ≤ n) (g : Nat) (lb : Array Value) (hFg : F.fn g) (eg : ∀ args w, (callFunc g args).run Tryz.prog w = .ok (.enter g args) w)
    (S Sp : List Int → Prop) (N : Nat) (hN : N ≤ 1000000000000) (w : World) (hseq : SeqStopsK F (n - 1 - 1) Tryz.prog g lb (fun x : Int => #[I x]) KeepsWalks S Sp N w) :
    CallsIn F n Tryz.prog 364 #[.func (.func g) #[] lb] w fun e w' => ∃ (v : Value) (ss : List Int), e = .returned v ∧ S ss ∧ OwnInts w' w.heap.size v ss ∧ Below w.heap.size w w' := by
  have h1 : 1 ≤ n := by omega
  refine callsIn_of_wp Tryz.func364 rfl h364 ?_ hro
  simp only [Tryz.ntmps364, List.size_toArray, List.length_cons, List.length_nil, Nat.reduceAdd, Nat.reduceSub, Array.replicate_succ, Array.replicate_zero, List.push_toArray, List.append_toArray, List.nil_append, List.cons_append]
  gi_wp2_with (gi_at_call 398; refine (appendSeq_in F (n - 1) h398 hro (by omega) g lb hFg eg S Sp N hN _ hseq).mono ?_; rintro e w' ⟨v, ss, rfl, hS, hrow, hb⟩)
  go_ret
  exact ⟨v, ss, rfl, hS, hrow, hb⟩
theorem collect_any (g : Nat) (lb : Array Value) (eg : ∀ args w, (callFunc g args).run Tryz.prog w = .ok (.enter g args) w) (S Sp : List Int → Prop) (N : Nat) (hN : N ≤ 1000000000000) (w : World)
    (hseq : SeqStopsK Fence.wide 4 Tryz.prog g lb (fun x : Int => #[I x]) KeepsWalks S Sp N w) :
    Calls Tryz.prog 364 #[.func (.func g) #[] lb] w fun e w' => ∃ (v : Value) (ss : List Int), e = .returned v ∧ S ss ∧ OwnInts w' w.heap.size v ss ∧ Below w.heap.size w w' :=
  callsIn_wide.1 (collect_in Fence.wide 6 trivial trivial rfl (by omega) g lb trivial eg S Sp N hN w hseq)
set_option maxHeartbeats 1000000 in
theorem sorted_any (g : Nat) (lb : Array Value) (eg : ∀ args w, (callFunc g args).run Tryz.prog w = .ok (.enter g args) w) (S Sp : List Int → Prop) (N : Nat) (hN : N ≤ 1000000000000) (hSN : ∀ ss, S ss → ss.length ≤ N) (w : World)
    (hseq : SeqStopsK Fence.wide 4 Tryz.prog g lb (fun x : Int => #[I x]) KeepsWalks S Sp N w) :
    Calls Tryz.prog 335 #[.func (.func g) #[] lb] w fun e w' => ∃ (v : Value) (ss : List Int), e = .returned v ∧ S ss ∧ OwnInts w' w.heap.size v (sortL ss) ∧ Below w.heap.size w w' := by
  have HS := Lib.hid hseq
  clear hseq
  go_enter Tryz.func335, Tryz.ntmps335
  go_wp2_with (first
    | (go_at_call 364; refine (collect_any g lb eg S Sp N hN _ HS.out).mono ?_; rintro e w1 ⟨v1, ss, rfl, hS, own1, hb1⟩)
    | (go_at_call 152; refine (sort_own w.heap.size v1 ss _ own1 (by have := hSN ss hS; omega) hb1.size).mono ?_; rintro e w2 ⟨rfl, own2, hg2⟩))
  go_ret
  refine ⟨v1, ss, rfl, hS, own2, hb1.grown hg2 hb1.size (fun k hk => ?_)⟩
  rcases own1.2 with ⟨rfl, _⟩ | ⟨g', cap, cur, rfl, hg, _⟩
  · cases hk
  · simp [Value.ownBlock] at hk; omega
set_option maxHeartbeats 1000000 in
theorem rising_any (b:Nat) (S:List Int) (w:World) (hs:SetAt w b (S.map I)) (hn:S.Nodup) (hl:S.length≤1000000000000):Calls Tryz.prog 281 #[.map (some b)] w fun e w'=>∃v,e= .returned v∧OwnInts w' w.heap.size v (sortL S)∧Below w.heap.size w w':=by
  have eg : ∀ args w, (callFunc 365 args).run Tryz.prog w = .ok (.enter 365 args) w := enters_of Tryz.func365 (by kernel_rfl) rfl
  go_enter Tryz.func281, Tryz.ntmps281
  go_wp2_with (first
    | (go_at_call 336; refine (keys_any _ _).mono ?_; rintro e w1 ⟨rfl, rfl⟩)
    | (go_at_call 335; refine (sorted_any 365 _ eg (fun ss => ss.Perm S) (fun _ => True) S.length hl (fun ss h => by rw [h.length_eq]; exact Nat.le_refl _) _ (keys_stops Fence.wide 4 trivial rfl (by omega) w.heap.size b S hn _ (by rw [cell_of_block (heap_new _ _)]; rfl) (hs.ext (below_a1 _ _)))).mono ?_; rintro e w2 ⟨v2, ss, rfl, hp, own2, hb2⟩))
  go_ret
  refine ⟨v2, rfl, ?_, (below_a1 _ _).trans (hb2.mono (by simp))⟩
  have : sortL ss = sortL S := sortL_perm hp
  rw [← this]
  exact OwnInts.mono own2 (by simp)
end
section
open Go.RowKit Go.Shelf
theorem factOK_spec {tn tv d:Nat}:∀(l:List MapEntry) (ks:List Nat) (n cl:Nat),factOK tn tv d l ks n cl=true→n≤cl∧∃ys:List Int,l.map (·.key)=ys.map I∧ys.Nodup∧(∀y∈ys,∀k∈ks,y≠(k:Int))∧(∀e∈l,n≤e.born∧e.born<cl)∧(l.map (·.born)).Nodup∧∀e∈l,∃t m,e.val= .iface t (.int .i64 m)∧(t=tn∨(t=tv∧m≠(d:Int)))
 |[],ks,n,cl,h=>⟨Nat.le_of_ble_eq_true h,[],rfl,.nil,by simp,by simp,by simp,by simp⟩
 |e::r,ks,n,cl,h=>by
  unfold factOK at h
  split at h<;>try cases h
  next k t m hk hv=>
  simp only[Bool.and_eq_true]at h
  obtain⟨⟨⟨h1,h2⟩,h3⟩,h4⟩:=h
  obtain⟨g0,ys,g1,g2,g3,g4,g5,g6⟩:=factOK_spec r (k::ks) (e.born+1) cl h4
  have h1:=Nat.le_of_ble_eq_true h1
  refine⟨by omega,(k:Int)::ys,?_,?_,?_,?_,?_,?_⟩
  ·rw[List.map_cons,List.map_cons,g1,hk];rfl
  ·rw[List.nodup_cons];exact⟨fun hm=>g3 _ hm k (List.mem_cons_self ..) rfl,g2⟩
  ·intro y hy j hj
   rcases List.mem_cons.1 hy with rfl|hy
   ·intro e
    have e:k=j:=by exact_mod_cast e
    subst e
    have:ks.any (Nat.beq k)=true:=List.any_eq_true.2 ⟨k,hj,Nat.beq_refl k⟩
    rw[this]at h2;cases h2
   ·exact g3 y hy j (List.mem_cons_of_mem _ hj)
  ·intro x hx
   rcases List.mem_cons.1 hx with rfl|hx
   ·exact⟨h1,by omega⟩
   ·have:=g4 x hx;omega
  ·rw[List.map_cons,List.nodup_cons]
   refine⟨fun hm=>?_,g5⟩
   obtain⟨x,hx,e⟩:=List.mem_map.1 hm
   have:=(g4 x hx).1
   omega
  ·intro x hx
   rcases List.mem_cons.1 hx with rfl|hx
   ·refine⟨t,m,hv,?_⟩
    rw[Bool.or_eq_true]at h3
    rcases h3 with h3|h3
    ·exact .inl (Nat.eq_of_beq_eq_true h3)
    ·rw[Bool.and_eq_true]at h3
     refine .inr ⟨Nat.eq_of_beq_eq_true h3.1,fun e=>?_⟩
     subst e
     have h3:=h3.2
     simp at h3
   ·exact g6 x hx
theorem erase_filter (d:Nat):∀(l:List MapEntry) (ys:List Int),l.map (·.key)=ys.map I→ys.Nodup→(match ys.findIdx? (fun z=>decide ((d:Int)=z)) with|some i=>l.eraseIdx i|none=>l)=l.filter (fun e=> !isKn d e.key)
 |[],[],_,_=>rfl
 |[],_::_,h,_=>by simp at h
 |_::_,[],h,_=>by simp at h
 |e::l,y::ys,h,hn=>by
  simp only[List.map_cons,List.cons.injEq]at h
  rw[List.nodup_cons]at hn
  have ih:=erase_filter d l ys h.2 hn.2
  rw[List.findIdx?_cons,List.filter_cons,h.1]
  show _=if (!isKn d (.int .i64 y))=true then _ else _
  rw[isKn_eq]
  by_cases hy:y=(d:Int)
  ·subst hy
   have hnone:ys.findIdx? (fun z=>decide ((d:Int)=z))=none:=findIdx_none.2 hn.1
   rw[hnone]at ih
   simpa using ih
  ·have h2:decide ((d:Int)=y)=false:=by simpa using fun e=>hy e.symm
   rw[h2]
   simp only[hy,decide_false,Bool.not_false,if_true,Bool.false_eq_true,if_false]
   rw[←ih]
   cases ys.findIdx? (fun z=>decide ((d:Int)=z)) with
   |none=>rfl
   |some i=>rfl
def esD (d:Nat) (es:Array MapEntry):Array MapEntry:=⟨es.toList.filter fun e=> !isKn d e.key⟩
theorem run_delF {T K2 ty:TypeId} {V:TypeId} (hT:Tryz.prog.underlying T=some (.map 3 V)) {w:World} {b cl d:Nat} {es:Array MapEntry} {ys:List Int} (hb:w.heap[b]? =some (.map es cl)) (hk:es.toList.map (·.key)=ys.map I) (hn:ys.Nodup):
  (Builtin.delete_ #[T,K2] ty #[.map (some b),.int .i64 (d:Int)]).run Tryz.prog w= .ok (.tuple #[]) (putB w b (.map (esD d es) cl)):=by
 have he:=erase_filter d es.toList ys hk hn
 unfold Builtin.delete_
 simp only [List.getElem?_toArray,List.getElem?_cons_zero,List.getElem?_cons_succ,Sem.run_bind,run_und hT,Result.andThen_ok,getMap_run hb,keyChk Tryz.underlying3,keyFind Tryz.underlying3 (d:Int) w hk]
 cases hf:ys.findIdx? (fun z=>decide ((d:Int)=z)) with
 |none=>
  rw[hf]at he
  have he:es.toList=es.toList.filter (fun e=> !isKn d e.key):=he
  have:esD d es=es:=by unfold esD;rw[←he]
  rw[this]
  simp [setMap_run hb,putB]
 |some i=>
  rw[hf]at he
  have hi:i<es.size:=by
   have h1:=(List.findIdx?_eq_some_iff_getElem.1 hf).1
   have h2:=congrArg List.length hk
   simp at h2;omega
  have:esD d es=es.eraseIdxIfInBounds i:=by
   apply Array.ext'
   rw[Array.eraseIdxIfInBounds,dif_pos hi,Array.toList_eraseIdx]
   exact he.symm
  rw[this]
  simp [setMap_run hb,putB]
def ItM (w:World) (r b:Nat) (es:Array MapEntry) (cl:Nat) (left:List MapEntry):Prop:=∃seen,w.heap[b]? =some (.map es cl)∧w.heap[r]? =some (.mapIter (some b) cl seen cl)∧es.toList.filter (fun e=> !seen.contains e.born)=left
theorem run_rangeM {T K V:TypeId} (hT:Tryz.prog.underlying T=some (.map K V)) {w:World} {b cl:Nat} {es:Array MapEntry} (hb:w.heap[b]? =some (.map es cl)):∃w',(Instr.range T (.map (some b))).run Tryz.prog w= .ok (.pointer (some ⟨w.heap.size,0,none⟩)) w'∧ItM w' w.heap.size b es cl es.toList∧w.grownBy w' none∧w'.heap.size=w.heap.size+1:=by
 have hrun:(Instr.range T (.map (some b))).run Tryz.prog w= .ok (.pointer (some ⟨w.heap.size,0,none⟩)) (w.alloc (.mapIter (some b) cl #[] cl)):=by
  unfold Instr.range
  simp only [Sem.run_bind,run_und hT,Result.andThen_ok,getMap_run hb,Sem.run_pure]
  rfl
 refine⟨_,hrun,⟨#[],heap_old _ _ hb,heap_new _ _,?_⟩,⟨rfl,rfl,rfl,by simp,fun k hk _=>Below.heap_alloc _ _ _ hk⟩,by simp⟩
 rw[List.filter_eq_self.2 (by simp)]
theorem run_nextM {w:World} {r b cl:Nat} {es:Array MapEntry} {left:List MapEntry} (h:ItM w r b es cl left) (hv:∀e∈es.toList,e.born<cl) (hn:(es.toList.map (·.born)).Nodup) (ty:TypeId):
  (left=[]∧(Instr.next (.pointer (some ⟨r,0,none⟩)) false ty).run Tryz.prog w= .ok (.tuple #[.bool false]) w)∨
  (∃e w' left',e∈es.toList∧(Instr.next (.pointer (some ⟨r,0,none⟩)) false ty).run Tryz.prog w= .ok (.tuple #[.bool true,e.key,e.val]) w'∧ItM w' r b es cl left'∧left'.length<left.length∧w.grownBy w' (some r)∧w'.heap.size=w.heap.size∧
   (Instr.entry (.pointer (some ⟨r,0,none⟩))).run Tryz.prog w'= .ok (.tuple #[e.key,e.val]) w'):=by
 obtain⟨seen,hb,hr,hl⟩:=h
 have hg:(getObj r).run Tryz.prog w= .ok (.mapIter (some b) cl seen cl) w:=by simp [getObj,Sem.run,hr]
 have hgb:=getMap_run (P:=Tryz.prog) hb
 have hcond:(!seen.isEmpty&& !es.isEmpty&&es.all (fun e=>decide (e.born≥cl)))=false:=by
  cases hes:es.isEmpty with
  |true=>simp
  |false=>
   have h0:0<es.size:=by rw[Array.isEmpty_eq_false_iff]at hes;exact Array.size_pos_iff.2 hes
   have:es.all (fun e=>decide (e.born≥cl))=false:=by
    rw[Array.all_eq_false]
    refine⟨0,h0,?_⟩
    have:=hv es[0] (by simp)
    simp;omega
   simp [this]
 obtain⟨Lf,hLf⟩:∃Lf,es.filter (fun e=> !seen.contains e.born)=Lf:=⟨_,rfl⟩
 have hLl:Lf.toList=left:=by rw[←hLf,Array.toList_filter,hl]
 have hmemL:∀e∈Lf,e∈es.toList:=fun e he=>by
  rw[←Array.mem_toList_iff,hLl,←hl]at he
  exact (List.mem_filter.1 he).1
 have hold:Lf.filter (fun e=>decide (e.born<cl))=Lf:=by
  rw[Array.filter_eq_self]
  intro e he
  simpa using hv e (hmemL e he)
 have hnew:Lf.filter (fun e=>decide (e.born≥cl))= #[]:=by
  rw[Array.filter_eq_empty_iff]
  intro e he
  have:=hv e (hmemL e he)
  simp;omega
 have hch:∀n:Nat,0<n→∃i w1,(choose (.mapNext n)).run Tryz.prog w= .ok i w1∧i<n∧w1.heap=w.heap∧w.grownBy w1 none:=fun n hn0=>by
  by_cases h1:n≤1
  ·exact⟨0,w,by simp [choose,Sem.run,Question.forced,h1],hn0,rfl,⟨rfl,rfl,rfl,Nat.le_refl _,fun _ _ _=>rfl⟩⟩
  ·exact⟨(w.tape w.drawn (.mapNext n))%n,w.drew,by simp [Question.forced,h1,Question.cut],Nat.mod_lt _ hn0,rfl,⟨rfl,rfl,rfl,Nat.le_refl _,fun _ _ _=>rfl⟩⟩
 unfold Instr.next
 simp only [Sem.run_bind,hg,hgb,Result.andThen_ok,hcond,hLf,hold,hnew,Bool.false_eq_true,if_false,Array.append_empty]
 by_cases hE:Lf.isEmpty=true
 ·left
  have hL0:Lf= #[]:=by simpa using hE
  refine⟨?_,?_⟩
  ·rw[←hLl,hL0]
  ·have hc1:(choose (.mapNext 1)).run Tryz.prog w= .ok 0 w:=by simp [choose,Sem.run,Question.forced]
   have hs1:((if (#[]:Array MapEntry).isEmpty=true then #[none] else #[])++Array.map some (#[]:Array MapEntry))= #[none]:=by simp
   rw[hL0,hs1]
   show ((choose (.mapNext 1)).run Tryz.prog w).andThen _=_
   rw[hc1];rfl
 ·right
  have hpos:0<Lf.size:=by
   rcases Nat.eq_zero_or_pos Lf.size with h0|h0
   ·exact (hE (by simpa using h0)).elim
   ·exact h0
  obtain⟨i,w1,hc,hi,hh,hg1⟩:=hch Lf.size hpos
  have hmem1:Lf[i]∈es.toList:=hmemL _ (by simp)
  have hmemleft:Lf[i]∈left:=by rw[←hLl];simp
  have hr1:w1.heap[r]? =some (.mapIter (some b) cl seen cl):=by rw[hh];exact hr
  have hset:(setObj r (.mapIter (some b) cl (seen.push Lf[i].born) cl)).run Tryz.prog w1= .ok () (putB w1 r (.mapIter (some b) cl (seen.push Lf[i].born) cl)):=by
   simp [setObj,Sem.run,hr1,putB]
  have hrb:r≠b:=by rintro rfl;rw[hr]at hb;cases hb
  have hb2:(putB w1 r (.mapIter (some b) cl (seen.push Lf[i].born) cl)).heap[b]? =some (.map es cl):=by
   rw[(putB_grown w1 r _).block b (by rw[hh];exact (Array.getElem?_eq_some_iff.1 hb).1) (by simpa using fun e=>hrb e.symm),hh];exact hb
  have hflt:es.toList.filter (fun e=> !(seen.push Lf[i].born).contains e.born)=left.filter (fun e=>decide (e.born≠Lf[i].born)):=by
   rw[←hl,List.filter_filter]
   apply List.filter_congr
   intro x _
   rw[Bool.eq_iff_iff]
   simp only[Array.contains_push,Bool.not_or,Bool.and_eq_true,Bool.not_eq_true',decide_eq_true_eq,beq_eq_false_iff_ne,ne_eq]
   exact and_comm
  refine⟨Lf[i],putB w1 r (.mapIter (some b) cl (seen.push Lf[i].born) cl),_,hmem1,?_,⟨seen.push Lf[i].born,hb2,putB_at hr1,hflt⟩,?_,?_,?_,?_⟩
  ·have hs1:((if Lf.isEmpty=true then #[none] else #[])++Array.map some Lf)=Array.map some Lf:=by simp [hE]
   rw[hs1,Array.size_map,hc,Result.andThen_ok,Array.getElem?_map,Array.getElem?_eq_getElem hi]
   simp only [Option.map_some,Sem.run_bind,hset,Result.andThen_ok,Sem.run_pure]
  ·have:=List.length_filter_lt_length_iff_exists (p:=fun e:MapEntry=>decide (e.born≠Lf[i].born)) (l:=left)
   exact this.2 ⟨Lf[i],hmemleft,by simp⟩
  ·refine⟨hg1.os,hg1.tape,hg1.output,?_,fun k hk hne=>?_⟩
   ·rw[putB_size,hh];exact Nat.le_refl _
   ·rw[(putB_grown w1 r _).block k (by rw[hh];exact hk) hne,hh]
  ·rw[putB_size,hh]
  ·have hr2:=putB_at (o':=Obj.mapIter (some b) cl (seen.push Lf[i].born) cl) hr1
   generalize putB w1 r (.mapIter (some b) cl (seen.push Lf[i].born) cl)=W at hb2 hr2
   have hg2:(getObj r).run Tryz.prog W= .ok (.mapIter (some b) cl (seen.push Lf[i].born) cl) W:=by simp [getObj,Sem.run,hr2]
   have hfind:es.find? (fun e=>e.born==Lf[i].born)=some Lf[i]:=by
    rw[←Array.find?_toList]
    cases hf:es.toList.find? (fun e=>e.born==Lf[i].born) with
    |none=>
     have:=List.find?_eq_none.1 hf _ hmem1
     simp at this
    |some z=>
     have h2:=List.find?_some hf
     have h3:=List.mem_of_find?_eq_some hf
     rw[nodup_map_inj hn h3 hmem1 (by simpa using h2)]
   unfold Instr.entry
   simp only [Sem.run_bind,hg2,Result.andThen_ok,Array.back?_push,getMap_run hb2,bne_self_eq_false,Bool.false_eq_true,if_false,hfind,Sem.run_pure]
theorem run_eqF {t:TypeId} {m:Int} {d:Nat} (h:t=333∨(t=335∧m≠(d:Int))) (w:World):(binOp .eql 334 (.iface t (.int .i64 m)) (.iface 335 (.int .i64 (d:Int)))).run Tryz.prog w= .ok (.bool false) w:=by
 obtain⟨i,hi⟩:∃i,Tryz.prog.info? 335=some i:=Option.isSome_iff_exists.1 (by kernel_rfl)
 have hc:i.comparable=true:=by
  have:(Tryz.prog.info? 335).map (·.comparable)=some true:=by kernel_rfl
  rw[hi]at this
  simpa using this
 have key:(Op.equalIn (9999+1) 334 (.iface t (.int .i64 m)) (.iface 335 (.int .i64 (d:Int)))).run Tryz.prog w= .ok false w:=by
  unfold Op.equalIn
  rcases h with rfl|⟨rfl,hm⟩
  ·simp [run_und Tryz.underlying334]
  ·have h2:(Op.equalIn (9998+1) 335 (.int .i64 m) (.int .i64 (d:Int))).run Tryz.prog w= .ok false w:=by
    unfold Op.equalIn
    simp [run_und Tryz.underlying335,hm]
   simp [run_und Tryz.underlying334,typeInfo,hi,hc,h2]
 simp only[binOp]
 simp [Op.equal,Op.maxDepth,key]
section
variable {w:World} {ops:Array Oper} {rest:List Oper} {o:Oper} {a:Act} {Q:Exit→Act→World→Prop} {T:TypeId}
theorem wpList_delF {V:TypeId} (hT:Tryz.prog.underlying T=some (.map 3 V)) (hgd:o.guard=none) (m x:Operand) (at_:Array TypeId) (hat:at_= #[T,3]) (hop:o.op= .call {callee:= .builtin .delete,args:= #[m,x],argTypes:=at_}) (b cl d:Nat) (es:Array MapEntry) (ys:List Int) (hm:a.eval m= .map (some b)) (hx:a.eval x= .int .i64 (d:Int)) (hb:w.heap[b]? =some (.map es cl)) (hk:es.toList.map (·.key)=ys.map I) (hn:ys.Nodup)
   (w':World) (hw':w'=putB w b (.map (esD d es) cl)) (h:wpList Tryz.prog ops Q rest (a.put o.dst (.tuple #[])) w'):wpList Tryz.prog ops Q (o::rest) a w:=by
 subst hw'
 refine wpList_plain hgd fun K' hK'=>?_
 have hrun:=run_delF (K2:=3) (ty:=o.type) (d:=d) hT hb hk hn
 subst hat
 unfold Oper.wp
 simp [execOp,hop,resolve,invoke,builtin,hm,hx,hrun,Result.andThen]
 exact hK' _ _ h
theorem wpList_rangeM {K V:TypeId} (hT:Tryz.prog.underlying T=some (.map K V)) (hgd:o.guard=none) (m:Operand) (hop:o.op= .range T m) (b cl:Nat) (es:Array MapEntry) (hm:a.eval m= .map (some b)) (hb:w.heap[b]? =some (.map es cl))
   (h:∀w',ItM w' w.heap.size b es cl es.toList→w.grownBy w' none→w'.heap.size=w.heap.size+1→wpList Tryz.prog ops Q rest (a.put o.dst (.pointer (some ⟨w.heap.size,0,none⟩))) w'):wpList Tryz.prog ops Q (o::rest) a w:=by
 refine wpList_plain hgd fun K' hK'=>?_
 obtain⟨w',hrun,h1,h2,h3⟩:=run_rangeM hT hb
 unfold Oper.wp
 simp [execOp,hop,hm,hrun,Result.andThen]
 exact hK' _ _ (h w' h1 h2 h3)
theorem wpList_nextM (hgd:o.guard=none) (m:Operand) (hop:o.op= .next m false) (r b cl:Nat) (es:Array MapEntry) (left:List MapEntry) (hv:∀e∈es.toList,e.born<cl) (hn:(es.toList.map (·.born)).Nodup) (hm:a.eval m= .pointer (some ⟨r,0,none⟩)) (hs:ItM w r b es cl left)
   (h0:left=[]→wpList Tryz.prog ops Q rest (a.put o.dst (.tuple #[.bool false])) w)
   (h:∀e w' left',e∈es.toList→ItM w' r b es cl left'→left'.length<left.length→w.grownBy w' (some r)→w'.heap.size=w.heap.size→(Instr.entry (.pointer (some ⟨r,0,none⟩))).run Tryz.prog w'= .ok (.tuple #[e.key,e.val]) w'→wpList Tryz.prog ops Q rest (a.put o.dst (.tuple #[.bool true,e.key,e.val])) w'):wpList Tryz.prog ops Q (o::rest) a w:=by
 refine wpList_plain hgd fun K' hK'=>?_
 rcases run_nextM hs hv hn o.type with⟨hl,hrun⟩|⟨e,w',left',he,hrun,h1,h2,h3,h4,h5⟩
 ·unfold Oper.wp
  simp [execOp,hop,hm,hrun,Result.andThen]
  exact hK' _ _ (h0 hl)
 ·unfold Oper.wp
  simp [execOp,hop,hm,hrun,Result.andThen]
  exact hK' _ _ (h e w' left' he h1 h2 h3 h4 h5)
theorem wpList_eqF (hgd:o.guard=none) (x y:Operand) (hop:o.op= .binOp .eql 334 x y 334) (t:TypeId) (m:Int) (d:Nat) (ht:t=333∨(t=335∧m≠(d:Int))) (hx:a.eval x= .iface t (.int .i64 m)) (hy:a.eval y= .iface 335 (.int .i64 (d:Int)))
   (h:wpList Tryz.prog ops Q rest (a.put o.dst (.bool false)) w):wpList Tryz.prog ops Q (o::rest) a w:=by
 refine wpList_plain hgd fun K' hK'=>?_
 have hrun:=run_eqF (m:=m) (d:=d) ht w
 unfold Oper.wp
 simp [execOp,hop,hx,hy,hrun,Result.andThen,eqGuard]
 exact hK' _ _ h
end
end
section
open Go.RowKit Go.Shelf
theorem esD_mem {d:Nat} {es:Array MapEntry} {e:MapEntry} (h:e∈(esD d es).toList):e∈es.toList:=(List.mem_filter.1 h).1
theorem esD_nodup {d:Nat} {es:Array MapEntry} (h:(es.toList.map (·.born)).Nodup):((esD d es).toList.map (·.born)).Nodup:=h.sublist (List.filter_sublist.map _)
set_option maxRecDepth 100000 in
set_option maxHeartbeats 1000000 in
theorem forget_any (w:World) (r cl d:Nat) (es:Array MapEntry) (ys:List Int) (hb:w.heap[r]? =some (.map es cl)) (hk:es.toList.map (·.key)=ys.map I) (hn:ys.Nodup) (hv:∀e∈es.toList,e.born<cl) (hnb:(es.toList.map (·.born)).Nodup) (hf:∀e∈es.toList,∃t m,e.val= .iface t (.int .i64 m)∧(t=333∨(t=335∧m≠(d:Int)))):
  Calls Tryz.prog 272 #[.map (some r),.int .i64 (d:Int)] w fun e w'=>e= .returned (.tuple #[])∧w'.heap[r]? =some (.map (esD d es) cl)∧w.grownBy w' (some r):=by
  have hlt:r<w.heap.size:=(Array.getElem?_eq_some_iff.1 hb).1
  obtain⟨w0,hw0⟩:∃w0,w0=putB w r (.map (esD d es) cl):=⟨_,rfl⟩
  have hb0:w0.heap[r]? =some (.map (esD d es) cl):=by rw[hw0];exact putB_at hb
  have hg0:w.grownBy w0 (some r):=by rw[hw0];exact putB_grown _ _ _
  have hz0:w0.heap.size=w.heap.size:=by rw[hw0];exact putB_size _ _ _
  have hv2:∀e∈(esD d es).toList,e.born<cl:=fun e he=>hv e (esD_mem he)
  have hn2:=esD_nodup (d:=d) hnb
  have hf2:∀e∈(esD d es).toList,∃t m,e.val= .iface t (.int .i64 m)∧(t=333∨(t=335∧m≠(d:Int))):=fun e he=>hf e (esD_mem he)
  have HV:=Lib.hid hv2
  have HN:=Lib.hid hn2
  have HF:=Lib.hid hf2
  have HB:=Lib.hid hb
  have HB0:=Lib.hid hb0
  have HG0:=Lib.hid hg0
  have HZ0:=Lib.hid hz0
  have HK:=Lib.hid hk
  have HNY:=Lib.hid hn
  have HW0:=Lib.hid hw0
  clear hv2 hn2 hf2 hb hb0 hg0 hz0 hk hn hw0 hv hnb hf
  go_enter Tryz.func272, Tryz.ntmps272
  go_upto_region 1 with (first
    | (refine wpList_delF Tryz.underlying271 rfl _ _ _ rfl rfl r cl d es ys rfl rfl HB.out HK.out HNY.out w0 HW0.out ?_)
    | fail)
  go_wp2_with (first
    | (refine wpList_rangeM Tryz.underlying271 rfl _ rfl r cl (esD d es) rfl HB0.out ?_; intro w1 hi1 hg1 hz1; have HI := Lib.hid hi1; have HG := Lib.hid hg1; have HZ := Lib.hid hz1; clear hi1 hg1 hz1)
    | fail)
  go_frame
  go_loopg [5] (esD d es).toList.length (fun gh _ wr => ∃ left : List MapEntry, left.length = gh ∧ ItM wr w0.heap.size r (esD d es) cl left ∧ w.grownBy wr (some r))
  case atStart => exact ⟨_, rfl, HI.out, grown_trans HG0.out (grown_none _ HG.out)⟩
  case round =>
    obtain ⟨left, hl, hi, hg⟩ := hrel
    have HI2 := Lib.hid hi
    have HG2 := Lib.hid hg
    have HL := Lib.hid hl
    clear hi hg hl
    go_wp2_with (first
      | (refine wpList_nextM rfl _ rfl w0.heap.size r cl (esD d es) left HV.out HN.out rfl HI2.out ?_ ?_)
      | fail)
    · intro hl0
      clear hl0
      go_wp2
      go_end0
      obtain ⟨_, h1, _⟩ := HI2.out
      exact ⟨rfl, h1, HG2.out⟩
    · intro e w2 left' he hi2 hlt2 hg2 hz2 hent
      obtain ⟨t, m, hval, ht⟩ := HF.out e (by first | exact he | exact Array.mem_toList_iff.2 he)
      rw [hval] at hent
      rw [hval]
      obtain ⟨k, hkk⟩ : ∃ k, k = e.key := ⟨_, rfl⟩
      rw [← hkk] at hent
      rw [← hkk]
      have HT := Lib.hid ht
      have HI3 := Lib.hid hi2
      have HG3 := Lib.hid hg2
      have HZ3 := Lib.hid hz2
      have HLT := Lib.hid hlt2
      clear hi2 hg2 hz2 hlt2 ht hval he hkk
      go_wp2_with (first
        | (refine wpList_eqF rfl _ _ rfl t m d HT.out rfl rfl ?_)
        | fail)
      go_roundg left'.length
      case measure => have := HLT.out; have := HL.out; omega
      case rel =>
        refine ⟨left', rfl, HI3.out, grown_new HG2.out HG3.out ?_⟩
        have := HZ0.out; omega
end
end Go.Proofs.YtngglbakkedaiaaGreatDoor.HR
namespace Go.Proofs.YtngglbakkedaiaaGreatDoor
section
open Go.RowKit (Below)
theorem atoiLaw:AtoiLaw Tryz.prog GG 249 401 5:=⟨fun s n h1 h2 w=>Tryz.strconv_Atoi s n h1 h2 w,fun s h1 h2 w te pe h3=>(Tryz.strconv_Atoi_err s h1 h2 _ w h3 (.inr ⟨te,pe,rfl⟩)).mono fun e w' he=>by
 obtain⟨N,h4,_,_,h5⟩:=he
 exact⟨N,h4,h5⟩⟩
theorem setAt_of {w:World} {b cl:Nat} {es:Array MapEntry} {ys:List Int} (hb:w.heap[b]? =some (.map es cl)) (h:KsR ys es cl):HR.SetAt w b (ys.map HR.I):=⟨es,cl,hb,h.1,h.2.1,h.2.2⟩
theorem mem_insAll {x:Int}:∀(l S:List Int),x∈HR.insAll l S↔x∈l∨x∈S
 |[],S=>by simp [HR.insAll]
 |y::l,S=>by
  show x∈HR.insAll l (insL y S)↔_
  rw[mem_insAll l,mem_insL,List.mem_cons]
  constructor
  ·rintro (h|h|h)
   ·exact .inl (.inr h)
   ·exact .inl (.inl h)
   ·exact .inr h
  ·rintro ((h|h)|h)
   ·exact .inr (.inl h)
   ·exact .inl h
   ·exact .inr (.inr h)
theorem nodup_insAll:∀(l S:List Int),S.Nodup→(HR.insAll l S).Nodup
 |[],S,h=>h
 |y::l,S,h=>nodup_insAll l _ (nodup_insL h)
theorem copyLaw:CopyLaw Tryz.prog 362:=⟨fun W g r es cl es2 cl2 ys zs hne h1 h2 h3 h4 h5 h6=>(HR.copy_any g r ys zs W (setAt_of h1 h2) (setAt_of h4 h5) hne h6).mono fun e W' he=>by
 obtain⟨rfl,R,hR,⟨es',cl',k1,k2,k3,k4⟩,hg⟩:=he
 refine⟨rfl,⟨es',cl',HR.insAll R ys,k1,⟨k2,k3,k4⟩,nodup_insAll _ _ h3,fun x=>?_⟩,hg⟩
 rw[mem_insAll,hR.mem_iff]
 exact or_comm⟩
theorem rising_nil (cl:Nat):(acall Tryz.prog 0 (fun _ _ _ _=>none) 300 30 (.func 281) #[.map (some 0)] ⟨Tr.set .o 0 (some (.map #[] cl)),1,0,0⟩).map (fun x=>(x.1,x.2.wr.testBit 0))=some (.ret (.slice none 0 0),false):=by kernel_rfl
theorem forgetLaw:ForgetLaw Tryz.prog 272 333 335:=⟨fun W r es cl d h1 h2=>by
 obtain⟨_,ys,g1,g2,_,g4,g5,g6⟩:=HR.factOK_spec es.toList [] 0 cl h2
 exact HR.forget_any W r cl d es ys h1 g1 g2 (fun e he=>(g4 e he).2) g5 g6⟩
theorem risingLaw:RisingLaw Tryz.prog 281 3:=by
 refine⟨by kernel_rfl,fun W b cl hb=>?_,fun W b es cl ys hb hk hn hne hl hi=>?_⟩
 ·obtain⟨⟨r,s'⟩,hq,he⟩:=Option.map_eq_some_iff.1 (rising_nil cl)
  simp only[Prod.mk.injEq]at he
  obtain⟨rfl,hw⟩:=he
  have hblt:b<W.heap.size:=(Array.getElem?_eq_some_iff.1 hb).1
  have hkey:∀{x z:Nat},(if x=0 then Pl.live b else .abs)= .live z→x=0∧z=b:=fun {x z} h=>by
   split at h
   ·cases h;exact⟨by assumption,rfl⟩
   ·cases h
  have hpre:Pre Tryz.prog 0 ⟨fun x=>if x=0 then .live b else .abs,fun _=>0⟩ ⟨Tr.set .o 0 (some (.map #[] cl)),1,0,0⟩ s' W:=by
   refine⟨fun g hg=>absurd hg (Nat.not_lt_zero _),⟨fun x y z k1 k2=>?_,fun x z k=>?_⟩,fun x _=>?_,fun x k1 _=>?_⟩
   ·rw[(hkey k1).1,(hkey k2).1]
   ·rw[(hkey k).2];exact hblt
   ·by_cases e:x=0
    ·subst e
     exact .inr (.inr ⟨b,_,_,by simp,by rw[Tr.get_set,if_pos rfl],hb,.map cl ⟨rfl,fun i v v' h=>by simp at h⟩,rfl⟩)
    ·exact .inl (by simp [e])
   ·have k1:1≤x:=k1
    show (if x=0 then Pl.live b else .abs)= .abs
    rw[if_neg (by omega)]
  have hc:CallOK Tryz.prog 0 (acall Tryz.prog 0 (fun _ _ _ _=>none) 300 30):=acall_ok extNone (by kernel_rfl) 30
  refine callsIn_wide.1 ((hc.ok _ _ _ _ _ _ _ #[.map (some b)] 0 hq ⟨rfl,fun i v v' h1 h2=>?_⟩ hpre).mono fun e W' he=>?_)
  ·cases i with
   |zero=>cases h1;cases h2;exact .map (.inr (by simp))
   |succ i=>simp at h1
  ·obtain⟨ρ',hpo,v',rfl,hv⟩:=he
   cases hv
   exact⟨rfl,hpo.os,hpo.tape,hpo.out,hpo.sz,fun x hx=>hpo.fr x hx fun c hc=>by
    obtain⟨rfl,_⟩:=hkey hc
    exact hw⟩
 ·refine (HR.rising_any b ys W (setAt_of hb hk) hn (by omega)).mono fun e W' he=>?_
  obtain⟨v,rfl,hown,hbl⟩:=he
  have hp:(HR.sortL ys).Perm ys:=List.mergeSort_perm ys _
  rcases hown.2 with⟨_,h0⟩|⟨g,cap,cur,rfl,hg,hh,hc,hm,hs,ht⟩
  ·have:=hp.length_eq
   rw[h0]at this
   exact absurd (List.length_eq_zero_iff.1 this.symm) hne
  ·rw[Nat.mul_one]at hs ht
   exact⟨g,cap,cur,HR.sortL ys,rfl,hg,hh,hc,hs,ht,hp,HR.sortL_sorted ys,hbl⟩
end
end Go.Proofs.YtngglbakkedaiaaGreatDoor
