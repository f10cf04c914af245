/-
  Proved: for every two lists of numbers and every two numbers, EvalSteps returns true and leaves its arguments as they were. The listed package variables begin as the program's text lays them (the card's tie). No other condition.
-/
import Derived.Test.YtjgbkdbkachciaaGreatDoorRows
import Derived.Test.YtjgbkdbkachciaaGreatDoorCards
import Derived.Test.YtjgbkdbkachciaaGreatDoorTie
import Derived.Test.YtjgbkdbkachciaaGreatDoorE9
import Derived.Test.YtjgbkdbkachciaaGreatDoorA2
import Derived.WalkKit
import Derived.ProofKit
import Derived.OpenShut
import Derived.ChangeOld
import Derived.Below
import Derived.Carry
import Derived.Lay
import Derived.LaidMore
import Derived.LaidOnce
import Derived.Stop.Joined
import Derived.SevenTiedAt
import Derived.Test.YtjgbkdbkachciaaGreatDoorJ2
namespace Go.Proofs.YtjgbkdbkachciaaGreatDoor
open Go.ChangeShapes Go.WideShapes Go.ChangeAt Go.RowKit

theorem own : ownKnob Tryz.prog.godebug = none := by kernel_rfl
theorem laidOut : laidOutB Tryz.prog = true := by kernel_rfl
theorem c3 : Tryz.prog.cellsOf 3 = 1 := by kernel_rfl
theorem b3 : Tryz.prog.bytesOf 3 = 8 := by kernel_rfl
theorem inI_of_wf {x : Int} (h : (Lit.int .i64 x).wf = true) : InI x := by
  have e1 : IntKind.min .i64 = -9223372036854775808 := by decide
  have e2 : IntKind.max .i64 = 9223372036854775807 := by decide
  simp only [Lit.wf, e1, e2, Bool.and_eq_true, decide_eq_true_eq] at h
  exact h
/-- numbers that came in -/
theorem ints_arg {H : Type} {enc : TypeId × Value → H} {w : World} {sp : Nat → Bool} {held : Bool} {v : Value} {d : DataW H} {ps : List MemPlace} {n : Nat} (h : DataW.trod enc Tryz.prog w 0 sp held n 22 [v] = some (d, ps)) (hs : Sized Tryz.prog 22 d) : ∃ l : List Int, RInts w v l :=
  RSl.of_trod (by decide) Tryz.underlying22 c3 (by rw [b3]; omega) (R := RInt) (fun n cs d ps hl h _ => by
    obtain ⟨x, rfl, -, hw⟩ := DataW.trod_int Tryz.underlying3 h
    exact ⟨x, rfl, inI_of_wf hw⟩) h hs

/-- .. and there is room for them -/
theorem ints_room {H : Type} {enc : TypeId × Value → H} {w : World} {sp : Nat → Bool} {held : Bool} {v : Value} {d : DataW H} {ps : List MemPlace} {n : Nat} (h : DataW.trod enc Tryz.prog w 0 sp held n 22 [v] = some (d, ps)) (l : List Int) (hl : RInts w v l) : ∃ a c, v = .slice a l.length c ∧ l.length ≤ c := by
  obtain ⟨a, c, hv, _⟩ := hl
  rcases Go.Deep.open_slice Tryz.underlying22 h with ⟨h1, _⟩ | ⟨a', len, cap, m, k, D, Pl, h1, _, h2, _⟩
  · simp only [List.cons.injEq, and_true] at h1
    rw [hv] at h1
    obtain ⟨-, h3, h4⟩ := Value.slice.inj h1
    exact ⟨a, c, hv, by omega⟩
  · simp only [List.cons.injEq, and_true] at h1
    rw [hv] at h1
    obtain ⟨-, h3, h4⟩ := Value.slice.inj h1
    exact ⟨a, c, hv, by omega⟩

/-- .. that are yet to be read -/
theorem RIn.of_ints {W : World} {v : Value} {l : List Int} (h : RInts W v l) (hc : ∃ a c, v = .slice a l.length c ∧ l.length ≤ c) : RIn (· < W.heap.size) W v l := by
  refine ⟨?_, hc⟩
  obtain ⟨a, c, hv, hm, h⟩ := h
  refine ⟨a, c, hv, hm, ?_⟩
  rcases h with h | ⟨b, o, ha, h⟩
  · exact .inl h
  cases l with
  | nil => exact .inl rfl
  | cons y l =>
    refine .inr ⟨b, o, ha, ?_, fun i x hx => ?_⟩
    · obtain ⟨C, hC, _⟩ := h 0 y rfl
      exact World.block_lt_of_cell? W _ (hC 0 (by omega))
    · obtain ⟨C, hC, hr⟩ := h i x hx
      exact ⟨C, hC, hr.1⟩
/-- a world in which the listed variables lie as they are laid -/
theorem laid_shaped (os : Os) : (World.laidAll Tryz.prog os Rows.evalStepsRow.laid).Shaped Tryz.prog := World.shaped_of_ZipB (by kernel_rfl) (by kernel_rfl)
theorem laid_plain (W : World) : laidMetH Tryz.prog Rows.evalStepsRow.laid W = laidMet Tryz.prog Rows.evalStepsRow.laid W := MakeChecks.laidMetH_plain _ _ _ (by kernel_rfl)
theorem laid_met (os : Os) (args : Array Value) : laidMetH Tryz.prog Rows.evalStepsRow.laid ((World.laidAll Tryz.prog os Rows.evalStepsRow.laid).forCall (fun _ _ => 0) ⟨#[], args, []⟩).memory := by
  rw [laid_plain]
  exact laidMet_laidAll _ (by kernel_rfl) (by kernel_rfl)

set_option maxRecDepth 100000 in
theorem evalSteps_lifted (os : Os) (started : os.Started) (H : Type) (enc : TypeId × Value → H) :
    ReturnsInHanded {} Tryz.checked os 4 .any (fun w args => (Rows.evalStepsSpec.pre enc Tryz.prog Tryz.f4 [] false w args ∧ laidMetH Tryz.prog Rows.evalStepsRow.laid w) ∧ sizedMet enc Tryz.prog Tryz.f4 (OpenSpec.ofChange Rows.evalStepsSpec) false w args)
      (Rows.evalStepsSpec.post enc Tryz.prog Tryz.f4 false true false false) := by
  refine returnsInHanded_of_change_and (C := Tryz.checked) (X := fun w _ => laidMetH Tryz.prog Rows.evalStepsRow.laid w) (fun _ _ _ hh h => h.of_heap hh) own started (by kernel_rfl) Tryz.func4
    (ChangeSpec.witness_shaped (enc := enc) (C := Tryz.checked) (os := os) (X := fun w _ => laidMetH Tryz.prog Rows.evalStepsRow.laid w) false (World.laidAll Tryz.prog os Rows.evalStepsRow.laid) #[.slice none 0 0, .slice none 0 0, .int .i64 0, .int .i64 0] 4 (World.laidAll_os _ _ _)
      (laid_shaped os) (by kernel_rfl) (by kernel_rfl) (by kernel_rfl) (laid_met os _)) ?_
  intro W base args ds gs before hval0 hW _ hsz _ _
  have hval : ∀ (j : Nat) t v, Tryz.f4.params[j]? = some t → args[j]? = some v → Value.okWide Tryz.prog W .any base t v := hval0
  have hW' := hW
  obtain ⟨p, q, hA0, hV, rfl, hfz, hnd⟩ := hW
  have hA : DataW.TrodAll enc Tryz.prog W 0 (fun _ => true) true Tryz.f4.params.toList args.toList ds p := hA0
  have hsz' : (DataW.weightsEach Tryz.prog (Tryz.f4.params.toList ++ Rows.evalStepsSpec.plain.varTypes Tryz.prog) (ds ++ gs)).all (· ≤ reachBytes) = true := hsz
  rw [Tryz.params4] at hA hval hsz'
  obtain ⟨v0, vs0, d0, ds0, p0, q0, hargs, rfl, rfl, h0, r0⟩ := trodAll_cons hA
  obtain ⟨v1, vs1, d1, ds1, p1, q1, rfl, rfl, rfl, h1, r1⟩ := trodAll_cons r0
  obtain ⟨v2, vs2, d2, ds2, p2, q2, rfl, rfl, rfl, h2, r2⟩ := trodAll_cons r1
  obtain ⟨v3, vs3, d3, ds3, p3, q3, rfl, rfl, rfl, h3, r3⟩ := trodAll_cons r2
  obtain ⟨rfl, rfl, rfl⟩ := trodAll_nil r3
  obtain rfl : args = #[v0, v1, v2, v3] := by cases args; simp_all
  obtain ⟨rfl, rfl⟩ := trodVars_none hV
  have s0 : Sized Tryz.prog 22 d0 := Sized.of_all hsz' (j := 0) rfl rfl
  have s1 : Sized Tryz.prog 22 d1 := Sized.of_all hsz' (j := 1) rfl rfl
  have k0 := h0
  have k1 := h1
  have lt0 : ∀ x ∈ p0, x.block < W.heap.size := by obtain ⟨m, hm⟩ := k0; exact DataW.trod_lt m _ _ _ hm
  have lt1 : ∀ x ∈ p1, x.block < W.heap.size := by obtain ⟨m, hm⟩ := k1; exact DataW.trod_lt m _ _ _ hm
  obtain ⟨ls, hl, hc⟩ : ∃ ls : List Int, RInts W v0 ls ∧ ∃ a c, v0 = .slice a ls.length c ∧ ls.length ≤ c := by
    obtain ⟨a, l, c, rfl⟩ := okWide_slice Tryz.underlying22 (hval 0 22 v0 rfl rfl)
    obtain ⟨fuel, hf⟩ := h0
    obtain ⟨ls, hl⟩ := ints_arg (by simpa [Value.cells] using hf) s0
    exact ⟨ls, hl, ints_room (by simpa [Value.cells] using hf) ls hl⟩
  obtain ⟨li, hl1, hc1⟩ : ∃ ls : List Int, RInts W v1 ls ∧ ∃ a c, v1 = .slice a ls.length c ∧ ls.length ≤ c := by
    obtain ⟨a, l, c, rfl⟩ := okWide_slice Tryz.underlying22 (hval 1 22 v1 rfl rfl)
    obtain ⟨fuel, hf⟩ := h1
    obtain ⟨ls, hl⟩ := ints_arg (by simpa [Value.cells] using hf) s1
    exact ⟨ls, hl, ints_room (by simpa [Value.cells] using hf) ls hl⟩
  obtain ⟨a2, rfl, rfl, rfl, w2⟩ := open_int Tryz.underlying3 (hval 2 3 v2 rfl rfl) h2
  obtain ⟨a3, rfl, rfl, rfl, w3⟩ := open_int Tryz.underlying3 (hval 3 3 v3 rfl rfl) h3
  clear hA0 hval0 hsz
  refine (evalSteps_any W v0 v1 ls li hl hc (RIn.of_ints hl1 hc1) a2 a3 (inI_of_wf w2) (inI_of_wf w3)).mono fun e W' ⟨he, bel⟩ => ?_
  subst he
  exact ⟨_, rfl, _, _, _, [], _, [], hW', trodAll_mk1 (shut_bool Tryz.underlying4 _), (trodAll_cons_mk (Below.trod laidOut (by kernel_rfl) (of_decide_eq_true (by kernel_rfl)) k0 bel lt0) (trodAll_cons_mk (Below.trod laidOut (by kernel_rfl) (of_decide_eq_true (by kernel_rfl)) k1 bel lt1) (trodAll_cons_mk (shut_int Tryz.underlying3 w2) (trodAll_cons_mk (shut_int Tryz.underlying3 w3) trodAll_mk0)))), rfl, bel.frame _, fun h => by cases h⟩

theorem evalSteps_over : Rows.EvalStepsSaid :=
  OpenClaim.holds_of_wide 4 Tryz.f4 rfl rfl rfl rfl rfl rfl rfl ⟨rfl, rfl, rfl, rfl, rfl⟩ rfl rfl rfl rfl rfl (by as_aux_lemma => kernel_rfl) Tryz.func4 jfSteps
    (of_decide_eq_true (by as_aux_lemma => kernel_rfl)) (by unfold Func.isWrapper; first | (rw [if_pos (by decide +kernel)]; (as_aux_lemma => kernel_rfl)) | (rw [if_neg (by decide +kernel)]; exact ⟨rfl, rfl⟩))
    (fun os started H enc _ => evalSteps_lifted os started H enc)

theorem evalSteps_proved : Rows.EvalStepsCardSaid :=
  Claim7.holds_tied_plain_at .later [] [.data, .data, .data, .data, .sentinel, .sentinel, .pinned] true (true, "70324da7af6a19439e5d14b18b35f90094daa3d117000c1d1d15966cf5d43f15") true
    evalSteps_over (fun _ h => by cases h) (by as_aux_lemma => kernel_rfl) (fun _ h => by cases h) evalSteps_row_tie rfl ⟨rfl, rfl⟩ (by as_aux_lemma => kernel_rfl) rfl
    (fun f fn hf hfn => by
      obtain rfl : f = 4 := Option.some.inj ((show Tryz.prog.funcNamed "counterproof/counterprooflaw06.EvalSteps" = some 4 by as_aux_lemma => kernel_rfl).symm.trans hf) |>.symm
      obtain rfl : fn = Tryz.f4 := (Option.some.inj (Tryz.func4.symm.trans hfn)).symm
      exact ⟨by as_aux_lemma => kernel_rfl, fun j t ht => by
        rw [Tryz.params4] at ht
        have hm : t ∈ [22, 22, 3, 3] := by simpa using Array.mem_of_getElem? ht
        have hall : ([22, 22, 3, 3].all fun u => !Tryz.prog.wantsStandIn u) = true := by as_aux_lemma => kernel_rfl
        exact (show Tryz.prog.wantsStandIn t = false by simpa using List.all_eq_true.1 hall t hm)⟩)
    (by as_aux_lemma => kernel_rfl)
end Go.Proofs.YtjgbkdbkachciaaGreatDoor
