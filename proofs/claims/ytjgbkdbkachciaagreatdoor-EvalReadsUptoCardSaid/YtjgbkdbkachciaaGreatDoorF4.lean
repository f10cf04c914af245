/-
  Proved: for every three lists of numbers and every number, of bulk at most 1048576 together, EvalReads returns true and leaves its arguments as they were. Condition: that bulk. The listed package variables begin as the program's text lays them (the card's tie).
-/
import Derived.Test.YtjgbkdbkachciaaGreatDoorRows
import Derived.Test.YtjgbkdbkachciaaGreatDoorCards
import Derived.Test.YtjgbkdbkachciaaGreatDoorTie
import Derived.Test.YtjgbkdbkachciaaGreatDoorF3
import Derived.Test.YtjgbkdbkachciaaGreatDoorA2
import Derived.WalkKit
import Derived.ProofKit
import Derived.OpenShut
import Derived.ChangeOld
import Derived.Below
import Derived.Carry
import Derived.Lay
import Derived.LaidMore
import Derived.LaidOnce
import Derived.Stop.Joined
import Derived.SevenTiedAt
import Derived.JoinedCond
import Derived.Deep.CondSized
import Derived.Test.YtjgbkdbkachciaaGreatDoorJ3
namespace Go.Proofs.YtjgbkdbkachciaaGreatDoor
open Go.ChangeShapes Go.WideShapes Go.ChangeAt Go.RowKit

theorem own : ownKnob Tryz.prog.godebug = none := by kernel_rfl
theorem laidOut : laidOutB Tryz.prog = true := by kernel_rfl
theorem c3 : Tryz.prog.cellsOf 3 = 1 := by kernel_rfl
theorem b3 : Tryz.prog.bytesOf 3 = 8 := by kernel_rfl
theorem inI_of_wf {x : Int} (h : (Lit.int .i64 x).wf = true) : InI x := by
  have e1 : IntKind.min .i64 = -9223372036854775808 := by decide
  have e2 : IntKind.max .i64 = 9223372036854775807 := by decide
  simp only [Lit.wf, e1, e2, Bool.and_eq_true, decide_eq_true_eq] at h
  exact h
/-- numbers that came in -/
theorem ints_arg {H : Type} {enc : TypeId × Value → H} {w : World} {sp : Nat → Bool} {held : Bool} {v : Value} {d : DataW H} {ps : List MemPlace} {n : Nat} (h : DataW.trod enc Tryz.prog w 0 sp held n 22 [v] = some (d, ps)) (hs : Sized Tryz.prog 22 d) : ∃ l : List Int, RInts w v l :=
  RSl.of_trod (by decide) Tryz.underlying22 c3 (by rw [b3]; omega) (R := RInt) (fun n cs d ps hl h _ => by
    obtain ⟨x, rfl, -, hw⟩ := DataW.trod_int Tryz.underlying3 h
    exact ⟨x, rfl, inI_of_wf hw⟩) h hs

/-- .. and there is room for them -/
theorem ints_room {H : Type} {enc : TypeId × Value → H} {w : World} {sp : Nat → Bool} {held : Bool} {v : Value} {d : DataW H} {ps : List MemPlace} {n : Nat} (h : DataW.trod enc Tryz.prog w 0 sp held n 22 [v] = some (d, ps)) (l : List Int) (hl : RInts w v l) : ∃ a c, v = .slice a l.length c ∧ l.length ≤ c := by
  obtain ⟨a, c, hv, _⟩ := hl
  rcases Go.Deep.open_slice Tryz.underlying22 h with ⟨h1, _⟩ | ⟨a', len, cap, m, k, D, Pl, h1, _, h2, _⟩
  · simp only [List.cons.injEq, and_true] at h1
    rw [hv] at h1
    obtain ⟨-, h3, h4⟩ := Value.slice.inj h1
    exact ⟨a, c, hv, by omega⟩
  · simp only [List.cons.injEq, and_true] at h1
    rw [hv] at h1
    obtain ⟨-, h3, h4⟩ := Value.slice.inj h1
    exact ⟨a, c, hv, by omega⟩

/-- .. that are yet to be read -/
theorem RIn.of_ints {W : World} {v : Value} {l : List Int} (h : RInts W v l) (hc : ∃ a c, v = .slice a l.length c ∧ l.length ≤ c) : RIn (· < W.heap.size) W v l := by
  refine ⟨?_, hc⟩
  obtain ⟨a, c, hv, hm, h⟩ := h
  refine ⟨a, c, hv, hm, ?_⟩
  rcases h with h | ⟨b, o, ha, h⟩
  · exact .inl h
  cases l with
  | nil => exact .inl rfl
  | cons y l =>
    refine .inr ⟨b, o, ha, ?_, fun i x hx => ?_⟩
    · obtain ⟨C, hC, _⟩ := h 0 y rfl
      exact World.block_lt_of_cell? W _ (hC 0 (by omega))
    · obtain ⟨C, hC, hr⟩ := h i x hx
      exact ⟨C, hC, hr.1⟩
set_option maxRecDepth 1000000 in
/-- .. are no more than their bulk -/
theorem ints_bulk {H : Type} {enc : TypeId × Value → H} {w : World} {sp : Nat → Bool} {held : Bool} {v : Value} {d : DataW H} {ps : List MemPlace} {n : Nat} (h : DataW.trod enc Tryz.prog w 0 sp held n 22 [v] = some (d, ps)) (l : List Int) (hl : RInts w v l) : l.length ≤ Rows.uptoBulk d := by
  obtain ⟨a, c, hv, _⟩ := hl
  rcases Go.Deep.open_slice Tryz.underlying22 h with ⟨h1, _⟩ | ⟨a', len, cap, m, k, D, Pl, h1, _, h2, h3, h4, h5, _⟩
  · simp only [List.cons.injEq, and_true] at h1
    rw [hv] at h1
    obtain ⟨-, h3, h4⟩ := Value.slice.inj h1
    omega
  · simp only [List.cons.injEq, and_true] at h1
    rw [hv] at h1
    obtain ⟨-, h6, -⟩ := Value.slice.inj h1
    simp only [Prod.mk.injEq] at h5
    obtain ⟨rfl, rfl⟩ := h5
    have hone : ∀ i : DataW H, 1 ≤ Rows.uptoBulk i := fun i => by
      cases i with
      | lit l => cases l <;> simp [Rows.uptoBulk]
      | nil => simp [Rows.uptoBulk]
      | ptr d => simp [Rows.uptoBulk]
      | slice elems spare => simp [Rows.uptoBulk]
      | agg parts => simp [Rows.uptoBulk]
      | iface t d => simp [Rows.uptoBulk]
      | map entries => simp [Rows.uptoBulk]
      | held h => simp [Rows.uptoBulk]
    have hall : ∀ l : List Nat, l.length ≤ Rows.uptoBulkAll (l.map D) := fun l => by
      induction l with
      | nil => simp
      | cons x l ih =>
        have := hone (D x)
        simp only [List.map_cons, Rows.uptoBulkAll, List.length_cons]
        omega
    have := hall (List.range len)
    rw [List.length_range] at this
    simp only [Rows.uptoBulk]
    omega

/-- a world in which the listed variables lie as they are laid -/
theorem laid_shaped (os : Os) : (World.laidAll Tryz.prog os Rows.evalReadsUptoRow.laid).Shaped Tryz.prog := World.shaped_of_ZipB (by kernel_rfl) (by kernel_rfl)
theorem laid_plain (W : World) : laidMetH Tryz.prog Rows.evalReadsUptoRow.laid W = laidMet Tryz.prog Rows.evalReadsUptoRow.laid W := MakeChecks.laidMetH_plain _ _ _ (by kernel_rfl)
theorem laid_met (os : Os) (args : Array Value) : laidMetH Tryz.prog Rows.evalReadsUptoRow.laid ((World.laidAll Tryz.prog os Rows.evalReadsUptoRow.laid).forCall (fun _ _ => 0) ⟨#[], args, []⟩).memory := by
  rw [laid_plain]
  exact laidMet_laidAll _ (by kernel_rfl) (by kernel_rfl)

set_option maxRecDepth 1000000 in
/-- there is an input -/
theorem reads_witness (os : Os) (H : Type) (enc : TypeId × Value → H) : ∃ (w : World) (tape : Tape) (i : Input), w.os = os ∧ (w.forCall tape i).Shaped Tryz.checked.prog ∧ i.vars = [] ∧ Input.okWide Tryz.checked.prog (w.forCall tape i) .any w.heap.size 5 i ∧
    Rows.evalReadsUptoRow.pre enc Tryz.checked.prog Tryz.f5 (Rows.OpenSpec.upto Rows.evalReadsSpec) (w.forCall tape i).memory i.args ∧ ({} : Assume).holds Tryz.checked.prog (lone (Frame.enter Tryz.checked.prog 5 i.args .normal) [] (w.forCall tape i)) := by
  have hok : Input.okWideB Tryz.prog ((World.laidAll Tryz.prog os Rows.evalReadsUptoRow.laid).forCall (fun _ _ => 0) ⟨#[], #[.slice none 0 0, .slice none 0 0, .slice none 0 0, .int .i64 0], []⟩) 5 ⟨#[], #[.slice none 0 0, .slice none 0 0, .slice none 0 0, .int .i64 0], []⟩ = true := by kernel_rfl
  have hx : DataW.whole enc Tryz.prog ((World.laidAll Tryz.prog os Rows.evalReadsUptoRow.laid).forCall (fun _ _ => 0) ⟨#[], #[.slice none 0 0, .slice none 0 0, .slice none 0 0, .int .i64 0], []⟩).memory Tryz.f5.params.toList (Rows.OpenSpec.upto Rows.evalReadsSpec).vars false [.slice none 0 0, .slice none 0 0, .slice none 0 0, .int .i64 0] 5 = some ([.nil, .nil, .nil, .lit (.int .i64 0)], [], []) := by kernel_rfl
  have hsz : Rows.evalReadsSpec.sizedB enc Tryz.checked.prog Tryz.f5 Rows.evalReadsUptoRow.apart ((World.laidAll Tryz.prog os Rows.evalReadsUptoRow.laid).forCall (fun _ _ => 0) ⟨#[], #[.slice none 0 0, .slice none 0 0, .slice none 0 0, .int .i64 0], []⟩).memory #[.slice none 0 0, .slice none 0 0, .slice none 0 0, .int .i64 0] 5 = true := by kernel_rfl
  have hpre : (Rows.OpenSpec.upto Rows.evalReadsSpec).pre enc Tryz.prog Tryz.f5 [] false ((World.laidAll Tryz.prog os Rows.evalReadsUptoRow.laid).forCall (fun _ _ => 0) ⟨#[], #[.slice none 0 0, .slice none 0 0, .slice none 0 0, .int .i64 0], []⟩).memory #[.slice none 0 0, .slice none 0 0, .slice none 0 0, .int .i64 0] :=
    (OpenSpec.pre_some (k := Rows.uptoSmall) rfl [] false _ _).2 ⟨_, _, _, DataW.Whole_of_whole hx, rfl, by kernel_rfl⟩
  exact ⟨World.laidAll Tryz.prog os Rows.evalReadsUptoRow.laid, fun _ _ => 0, ⟨#[], #[.slice none 0 0, .slice none 0 0, .slice none 0 0, .int .i64 0], []⟩, World.laidAll_os _ _ _, laid_shaped os, (Input.okWide_of_okWideB (base := 0) hok).1, (Input.okWide_of_okWideB hok).2,
    ⟨⟨hpre, laid_met os _⟩, sizedMet_of_sizedB hsz⟩, by
      simp only [Assume.holds]
      exact ⟨by simp, by simp, (fun h => (by cases h)), by simp, by simp⟩⟩

set_option maxRecDepth 1000000 in
theorem evalReads_lifted (os : Os) (started : os.Started) (H : Type) (enc : TypeId × Value → H) (F : Stop.Interp) :
    ReturnsInHanded {} Tryz.checked os 5 .any (Rows.evalReadsUptoRow.pre enc Tryz.checked.prog Tryz.f5 (Rows.OpenSpec.upto Rows.evalReadsSpec)) (((Rows.OpenSpec.upto Rows.evalReadsSpec).at F).post enc Tryz.checked.prog Tryz.f5 false true false false) := by
  refine returnsInHanded_of_calls own started (by kernel_rfl) (reads_witness os H enc) ?_
  intro w tape i _ _ _ hok hpre hholds
  obtain ⟨_, _, _, fn', hfn', _, _, _, _, hval1⟩ := hok
  have e : fn' = Tryz.f5 := Option.some.inj (hfn'.symm.trans Tryz.func5)
  subst e
  obtain ⟨⟨hpre0, _⟩, hsize⟩ := hpre
  obtain ⟨ds, gs, before, hw, _, hk⟩ := (OpenSpec.pre_some (k := Rows.uptoSmall) rfl [] false _ _).1 (show (Rows.OpenSpec.upto Rows.evalReadsSpec).pre enc Tryz.prog Tryz.f5 [] false _ _ from hpre0)
  have hsz := hsize.weights hw
  have hW := DataW.Whole.of_heap (w' := w.forCall tape i) (by rfl) hw
  suffices hc : Calls Tryz.prog 5 i.args (w.forCall tape i) fun e W' => ∃ v, e = .returned v ∧ ((Rows.OpenSpec.upto Rows.evalReadsSpec).at F).post enc Tryz.prog Tryz.f5 false true false false (w.forCall tape i) i.args v W' from hc.mono fun e W' ⟨v, he, hp⟩ => by
    subst he
    exact ChangeSpec.post_blind hp
  obtain ⟨W, hWe⟩ : ∃ W, W = w.forCall tape i := ⟨_, rfl⟩
  obtain ⟨args, hargse⟩ : ∃ a, a = i.args := ⟨_, rfl⟩
  obtain ⟨base, hbase⟩ : ∃ a, a = w.heap.size := ⟨_, rfl⟩
  have hval0 := hval1
  rw [← hWe, ← hargse] at hval0 hW ⊢
  clear hpre0 hsize hw hholds hval1 hWe hargse
  have hval : ∀ (j : Nat) t v, Tryz.f5.params[j]? = some t → args[j]? = some v → Value.okWide Tryz.prog W .any w.heap.size t v := hval0
  have hW' := hW
  obtain ⟨p, q, hA0, hV, rfl, hfz, hnd⟩ := hW
  have hA : DataW.TrodAll enc Tryz.prog W 0 (fun _ => true) true Tryz.f5.params.toList args.toList ds p := hA0
  have hsz' : (DataW.weightsEach Tryz.prog (Tryz.f5.params.toList ++ Rows.evalReadsSpec.plain.varTypes Tryz.prog) (ds ++ gs)).all (· ≤ reachBytes) = true := hsz
  rw [Tryz.params5] at hA hval hsz'
  obtain ⟨v0, vs0, d0, ds0, p0, q0, hargs, rfl, rfl, h0, r0⟩ := trodAll_cons hA
  obtain ⟨v1, vs1, d1, ds1, p1, q1, rfl, rfl, rfl, h1, r1⟩ := trodAll_cons r0
  obtain ⟨v2, vs2, d2, ds2, p2, q2, rfl, rfl, rfl, h2, r2⟩ := trodAll_cons r1
  obtain ⟨v3, vs3, d3, ds3, p3, q3, rfl, rfl, rfl, h3, r3⟩ := trodAll_cons r2
  obtain ⟨rfl, rfl, rfl⟩ := trodAll_nil r3
  obtain rfl : args = #[v0, v1, v2, v3] := by cases args; simp_all
  obtain ⟨rfl, rfl⟩ := trodVars_none hV
  have hbulk : Rows.uptoBulk d1 ≤ 1048576 ∧ Rows.uptoBulk d2 ≤ 1048576 := by
    have h := of_decide_eq_true hk
    simp only [List.cons_append, List.nil_append, Rows.uptoBulkAll] at h
    omega
  have s0 : Sized Tryz.prog 22 d0 := Sized.of_all hsz' (j := 0) rfl rfl
  have s1 : Sized Tryz.prog 22 d1 := Sized.of_all hsz' (j := 1) rfl rfl
  have s2 : Sized Tryz.prog 22 d2 := Sized.of_all hsz' (j := 2) rfl rfl
  have k0 := h0
  have k1 := h1
  have k2 := h2
  have lt0 : ∀ x ∈ p0, x.block < W.heap.size := by obtain ⟨m, hm⟩ := k0; exact DataW.trod_lt m _ _ _ hm
  have lt1 : ∀ x ∈ p1, x.block < W.heap.size := by obtain ⟨m, hm⟩ := k1; exact DataW.trod_lt m _ _ _ hm
  have lt2 : ∀ x ∈ p2, x.block < W.heap.size := by obtain ⟨m, hm⟩ := k2; exact DataW.trod_lt m _ _ _ hm
  obtain ⟨ls, hl, hc⟩ : ∃ ls : List Int, RInts W v0 ls ∧ ∃ a c, v0 = .slice a ls.length c ∧ ls.length ≤ c := by
    obtain ⟨a, l, c, rfl⟩ := okWide_slice Tryz.underlying22 (hval 0 22 v0 rfl rfl)
    obtain ⟨fuel, hf⟩ := h0
    obtain ⟨ls, hl⟩ := ints_arg (by simpa [Value.cells] using hf) s0
    exact ⟨ls, hl, ints_room (by simpa [Value.cells] using hf) ls hl⟩
  obtain ⟨li, hl1, hc1, hb1⟩ : ∃ ls : List Int, RInts W v1 ls ∧ (∃ a c, v1 = .slice a ls.length c ∧ ls.length ≤ c) ∧ ls.length ≤ 1048576 := by
    obtain ⟨a, l, c, rfl⟩ := okWide_slice Tryz.underlying22 (hval 1 22 v1 rfl rfl)
    obtain ⟨fuel, hf⟩ := h1
    obtain ⟨ls, hl⟩ := ints_arg (by simpa [Value.cells] using hf) s1
    exact ⟨ls, hl, ints_room (by simpa [Value.cells] using hf) ls hl, Nat.le_trans (ints_bulk (by simpa [Value.cells] using hf) ls hl) hbulk.1⟩
  obtain ⟨lm, hl2, hc2, hb2⟩ : ∃ ls : List Int, RInts W v2 ls ∧ (∃ a c, v2 = .slice a ls.length c ∧ ls.length ≤ c) ∧ ls.length ≤ 1048576 := by
    obtain ⟨a, l, c, rfl⟩ := okWide_slice Tryz.underlying22 (hval 2 22 v2 rfl rfl)
    obtain ⟨fuel, hf⟩ := h2
    obtain ⟨ls, hl⟩ := ints_arg (by simpa [Value.cells] using hf) s2
    exact ⟨ls, hl, ints_room (by simpa [Value.cells] using hf) ls hl, Nat.le_trans (ints_bulk (by simpa [Value.cells] using hf) ls hl) hbulk.2⟩
  obtain ⟨a3, rfl, rfl, rfl, w3⟩ := open_int Tryz.underlying3 (hval 3 3 v3 rfl rfl) h3
  clear hA0 hval0 hsz
  refine (evalReads_any W v0 v1 v2 ls li lm hl hc (RIn.of_ints hl1 hc1) (RIn.of_ints hl2 hc2) (by omega) (by omega) a3 (inI_of_wf w3)).mono fun e W' ⟨he, bel⟩ => ?_
  subst he
  exact ⟨_, rfl, _, _, _, [], _, [], hW', trodAll_mk1 (shut_bool Tryz.underlying4 _), (trodAll_cons_mk (Below.trod laidOut (by kernel_rfl) (of_decide_eq_true (by kernel_rfl)) k0 bel lt0) (trodAll_cons_mk (Below.trod laidOut (by kernel_rfl) (of_decide_eq_true (by kernel_rfl)) k1 bel lt1) (trodAll_cons_mk (Below.trod laidOut (by kernel_rfl) (of_decide_eq_true (by kernel_rfl)) k2 bel lt2) (trodAll_cons_mk (shut_int Tryz.underlying3 w3) trodAll_mk0)))), rfl, bel.frame _, fun h => by cases h⟩

theorem evalReads_over : Rows.EvalReadsUptoSaid :=
  OpenClaim.holds_of_cond 5 Tryz.f5 rfl rfl rfl rfl rfl rfl rfl ⟨rfl, rfl, rfl, rfl, rfl⟩ rfl rfl rfl rfl rfl (by as_aux_lemma => kernel_rfl) Tryz.func5 jfReads
    (of_decide_eq_true (by as_aux_lemma => kernel_rfl)) (by unfold Func.isWrapper; first | (rw [if_pos (by decide +kernel)]; (as_aux_lemma => kernel_rfl)) | (rw [if_neg (by decide +kernel)]; exact ⟨rfl, rfl⟩))
    (fun os started H enc _ F => evalReads_lifted os started H enc F)

theorem evalReads_proved : Rows.EvalReadsUptoCardSaid :=
  Claim7.holds_tied_plain_at .later [] [.data, .data, .data, .data, .sentinel, .sentinel, .pinned] true (true, "70324da7af6a19439e5d14b18b35f90094daa3d117000c1d1d15966cf5d43f15") true
    evalReads_over (fun _ h => by cases h) (by as_aux_lemma => kernel_rfl) (fun _ h => by cases h) evalReadsUpto_row_tie rfl ⟨rfl, rfl⟩ (by as_aux_lemma => kernel_rfl) rfl
    (fun f fn hf hfn => by
      obtain rfl : f = 5 := Option.some.inj ((show Tryz.prog.funcNamed "counterproof/counterprooflaw06.EvalReads" = some 5 by as_aux_lemma => kernel_rfl).symm.trans hf) |>.symm
      obtain rfl : fn = Tryz.f5 := (Option.some.inj (Tryz.func5.symm.trans hfn)).symm
      exact ⟨by as_aux_lemma => kernel_rfl, fun j t ht => by
        rw [Tryz.params5] at ht
        have hm : t ∈ [22, 22, 22, 3] := by simpa using Array.mem_of_getElem? ht
        have hall : ([22, 22, 22, 3].all fun u => !Tryz.prog.wantsStandIn u) = true := by as_aux_lemma => kernel_rfl
        exact (show Tryz.prog.wantsStandIn t = false by simpa using List.all_eq_true.1 hall t hm)⟩)
    (by as_aux_lemma => kernel_rfl)
end Go.Proofs.YtjgbkdbkachciaaGreatDoor
