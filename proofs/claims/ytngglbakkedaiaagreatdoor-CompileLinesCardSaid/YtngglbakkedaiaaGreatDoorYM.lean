import Derived.Test.YtngglbakkedaiaaGreatDoorSC
import Derived.Test.YtngglbakkedaiaaGreatDoorYK
import Derived.Test.YtngglbakkedaiaaGreatDoorYL
import Derived.Test.YtngglbakkedaiaaGreatDoorCards
import Derived.Test.YtngglbakkedaiaaGreatDoorTie
import Derived.OpenShut
import Derived.ChangeOld
import Derived.Lay
import Derived.LaidMore
import Derived.LaidOnce
import Derived.Stop.Joined
import Derived.SevenTiedAt
import Derived.Stop.LaidErr
import Derived.LaidSub
set_option linter.all false
namespace Go.Proofs.YtngglbakkedaiaaGreatDoor
open Go.ChangeShapes Go.WideShapes Go.ChangeAt Go.RowKit
theorem own : ownKnob Tryz.prog.godebug = none := by kernel_rfl
theorem laidOut : laidOutB Tryz.prog = true := by kernel_rfl
theorem cc3 : Tryz.prog.cellsOf 3 = 1 := by kernel_rfl
theorem bb3 : Tryz.prog.bytesOf 3 = 8 := by kernel_rfl
theorem inI_of_wf {x : Int} (h : (Lit.int .i64 x).wf = true) : InI x := by
  have e1 : IntKind.min .i64 = -9223372036854775808 := by decide
  have e2 : IntKind.max .i64 = 9223372036854775807 := by decide
  simp only [Lit.wf, e1, e2, Bool.and_eq_true, decide_eq_true_eq] at h
  exact h
theorem ints_arg {H : Type} {enc : TypeId × Value → H} {w : World} {sp : Nat → Bool} {held : Bool} {v : Value} {d : DataW H} {ps : List MemPlace} {n : Nat} (h : DataW.trod enc Tryz.prog w 0 sp held n 22 [v] = some (d, ps)) (hs : Sized Tryz.prog 22 d) : ∃ l : List Int, RInts w v l :=
  RSl.of_trod (by decide) Tryz.underlying22 cc3 (by rw [bb3]; omega) (R := RInt) (fun n cs d ps hl h _ => by
    obtain ⟨x, rfl, -, hw⟩ := DataW.trod_int Tryz.underlying3 h
    exact ⟨x, rfl, inI_of_wf hw⟩) h hs
theorem ints_room {H : Type} {enc : TypeId × Value → H} {w : World} {sp : Nat → Bool} {held : Bool} {v : Value} {d : DataW H} {ps : List MemPlace} {n : Nat} (h : DataW.trod enc Tryz.prog w 0 sp held n 22 [v] = some (d, ps)) (l : List Int) (hl : RInts w v l) : ∃ a c, v = .slice a l.length c ∧ l.length ≤ c := by
  obtain ⟨a, c, hv, _⟩ := hl
  rcases Go.Deep.open_slice Tryz.underlying22 h with ⟨h1, _⟩ | ⟨a', len, cap, m, k, D, Pl, h1, _, h2, _⟩
  · simp only [List.cons.injEq, and_true] at h1
    rw [hv] at h1
    obtain ⟨-, h3, h4⟩ := Value.slice.inj h1
    exact ⟨a, c, hv, by omega⟩
  · simp only [List.cons.injEq, and_true] at h1
    rw [hv] at h1
    obtain ⟨-, h3, h4⟩ := Value.slice.inj h1
    exact ⟨a, c, hv, by omega⟩
theorem laid_shaped (os : Os) : (World.laidAll Tryz.prog os Rows.compileLinesRow.laid).Shaped Tryz.prog := World.shaped_of_ZipB (by kernel_rfl) (by kernel_rfl)
theorem laid_plain (W : World) : laidMetH Tryz.prog Rows.compileLinesRow.laid W = laidMet Tryz.prog Rows.compileLinesRow.laid W := MakeChecks.laidMetH_plain _ _ _ (by kernel_rfl)
theorem laid_met (os : Os) (args : Array Value) : laidMetH Tryz.prog Rows.compileLinesRow.laid ((World.laidAll Tryz.prog os Rows.compileLinesRow.laid).forCall (fun _ _ => 0) ⟨#[], args, []⟩).memory := by
  rw [laid_plain]
  exact laidMet_laidAll _ (by kernel_rfl) (by kernel_rfl)
theorem gE : Tryz.prog.globalNamed "strconv.ErrSyntax" = some 3 := by kernel_rfl
theorem gEType : (Tryz.prog.globals[3]?).map (·.type) = some 311 := by kernel_rfl
theorem star : "*" ++ "errors.errorString" = "*errors.errorString" := by decide
theorem row430 (u : TypeId) (h : Tryz.prog.typeName? 3 u = some "*errors.errorString") : u = 430 :=
  typeName_ptr_named (nm := "errors.errorString") (by rw [star]; kernel_rfl) (by kernel_rfl) (by decide) u (by rw [star]; exact h)
theorem keepE : Rows.compileLinesRow.laid.filter (fun x => x.1 == "strconv.ErrSyntax") = [("strconv.ErrSyntax", .iface "*errors.errorString" (.ptr (.agg [.lit (.string [105, 110, 118, 97, 108, 105, 100, 32, 115, 121, 110, 116, 97, 120])])))] := by kernel_rfl
theorem row3 : ((begin Tryz.prog (fun _ _ => 0) default).world.heap[3]?).bind Obj.row? = some (#[.nilIface], 311) := by kernel_rfl
theorem GIn_of {W : World} (hs : W.ShapedOpen Tryz.prog) (hx : laidMetH Tryz.prog Rows.compileLinesRow.laid W) : GIn GG W := by
  rw [laid_plain] at hx
  have hf := hx.filter fun x => x.1 == "strconv.ErrSyntax"
  rw [keepE] at hf
  obtain ⟨a, s, hv, _⟩ := laid_sentinel hf gE gEType Tryz.underlying311 row430 Tryz.underlying430 Tryz.underlying432 rfl rfl Tryz.underlying9 (by kernel_rfl) (by kernel_rfl)
  obtain ⟨cs, h1, _⟩ := hs.1 3 _ _ (of_decide_eq_true (by kernel_rfl)) row3
  have hc := World.var?_cell gE hv 0
  refine ⟨cs, a, h1, ?_⟩
  have : W.cell? ⟨3, 0, none⟩ = some (.iface 430 (.pointer (some a))) := by simpa using hc
  unfold World.cell? at this
  rw [h1] at this
  exact this
set_option maxRecDepth 100000 in
theorem compileLines_lifted (os : Os) (started : os.Started) (H : Type) (enc : TypeId × Value → H) :
    ReturnsInHanded {} Tryz.checked os 3 .any (fun w args => (Rows.compileLinesSpec.pre enc Tryz.prog Tryz.f3 [] false w args ∧ laidMetH Tryz.prog Rows.compileLinesRow.laid w) ∧ sizedMet enc Tryz.prog Tryz.f3 (OpenSpec.ofChange Rows.compileLinesSpec) false w args)
      (Rows.compileLinesSpec.post enc Tryz.prog Tryz.f3 false true false false) := by
  refine returnsInHanded_of_calls (C := Tryz.checked) own started (by kernel_rfl)
    (ChangeSpec.witness_shaped (enc := enc) (C := Tryz.checked) (os := os) (X := fun w _ => laidMetH Tryz.prog Rows.compileLinesRow.laid w) false (World.laidAll Tryz.prog os Rows.compileLinesRow.laid) #[.slice none 0 0, .slice none 0 0, .bool false, .int .i64 0, .int .i64 0] 3 (World.laidAll_os _ _ _)
      (laid_shaped os) (by kernel_rfl) (by kernel_rfl) (by kernel_rfl) (laid_met os _)) ?_
  intro w tape i _ hsh _ hok hpre hholds
  obtain ⟨_, _, _, fn', hfn', _, _, _, _, hval1⟩ := hok
  have e : fn' = Tryz.f3 := Option.some.inj (hfn'.symm.trans Tryz.func3)
  subst e
  obtain ⟨⟨⟨ds, gs, before, hw, hc⟩, hx⟩, hz⟩ := hpre
  have hsz := hz.weights hw
  have hW := DataW.Whole.of_heap (w' := w.forCall tape i) (by rfl) hw
  have hx' : laidMetH Tryz.prog Rows.compileLinesRow.laid (w.forCall tape i) := hx.of_heap (by rfl)
  have hG := GIn_of hsh hx'
  suffices hcall : Calls Tryz.prog 3 i.args (w.forCall tape i) fun e W' => ∃ v, e = .returned v ∧ Rows.compileLinesSpec.post enc Tryz.prog Tryz.f3 false true false false (w.forCall tape i) i.args v W' from hcall.mono fun e W' ⟨v, he, hp⟩ => by
    subst he
    exact ChangeSpec.post_blind hp
  obtain ⟨W, hWe⟩ : ∃ W, W = w.forCall tape i := ⟨_, rfl⟩
  obtain ⟨args, hargse⟩ : ∃ a, a = i.args := ⟨_, rfl⟩
  have hval0 := hval1
  rw [← hWe, ← hargse] at hval0 hW ⊢
  rw [← hWe] at hG
  clear hw hholds hval1 hWe hargse hx hx' hz hsh hc
  have hval : ∀ (j : Nat) t v, Tryz.f3.params[j]? = some t → args[j]? = some v → Value.okWide Tryz.prog W .any w.heap.size t v := hval0
  have hW' := hW
  obtain ⟨p, q, hA0, hV, rfl, hfz, hnd⟩ := hW
  have hA : DataW.TrodAll enc Tryz.prog W 0 (fun _ => true) true Tryz.f3.params.toList args.toList ds p := hA0
  have hsz' : (DataW.weightsEach Tryz.prog (Tryz.f3.params.toList ++ Rows.compileLinesSpec.plain.varTypes Tryz.prog) (ds ++ gs)).all (· ≤ reachBytes) = true := hsz
  rw [Tryz.params3] at hA hval hsz'
  obtain ⟨v0, vs0, d0, ds0, p0, q0, hargs, rfl, rfl, h0, r0⟩ := trodAll_cons hA
  obtain ⟨v1, vs1, d1, ds1, p1, q1, rfl, rfl, rfl, h1, r1⟩ := trodAll_cons r0
  obtain ⟨v2, vs2, d2, ds2, p2, q2, rfl, rfl, rfl, h2, r2⟩ := trodAll_cons r1
  obtain ⟨v3, vs3, d3, ds3, p3, q3, rfl, rfl, rfl, h3, r3⟩ := trodAll_cons r2
  obtain ⟨v4, vs4, d4, ds4, p4, q4, rfl, rfl, rfl, h4, r4⟩ := trodAll_cons r3
  obtain ⟨rfl, rfl, rfl⟩ := trodAll_nil r4
  obtain rfl : args = #[v0, v1, v2, v3, v4] := by cases args; simp_all
  obtain ⟨rfl, rfl⟩ := trodVars_none hV
  have s0 : Sized Tryz.prog 22 d0 := Sized.of_all hsz' (j := 0) rfl rfl
  have s1 : Sized Tryz.prog 22 d1 := Sized.of_all hsz' (j := 1) rfl rfl
  have k0 := h0
  have k1 := h1
  have k2 := h2
  have lt0 : ∀ x ∈ p0, x.block < W.heap.size := by obtain ⟨m, hm⟩ := k0; exact DataW.trod_lt m _ _ _ hm
  have lt1 : ∀ x ∈ p1, x.block < W.heap.size := by obtain ⟨m, hm⟩ := k1; exact DataW.trod_lt m _ _ _ hm
  have lt2 : ∀ x ∈ p2, x.block < W.heap.size := by obtain ⟨m, hm⟩ := k2; exact DataW.trod_lt m _ _ _ hm
  obtain ⟨ls, hl, hc⟩ : ∃ ls : List Int, RInts W v0 ls ∧ ∃ a c, v0 = .slice a ls.length c ∧ ls.length ≤ c := by
    obtain ⟨a, l, c, rfl⟩ := okWide_slice Tryz.underlying22 (hval 0 22 v0 rfl rfl)
    obtain ⟨fuel, hf⟩ := h0
    obtain ⟨ls, hl⟩ := ints_arg (by simpa [Value.cells] using hf) s0
    exact ⟨ls, hl, ints_room (by simpa [Value.cells] using hf) ls hl⟩
  obtain ⟨li, hl1, hc1⟩ : ∃ ls : List Int, RInts W v1 ls ∧ ∃ a c, v1 = .slice a ls.length c ∧ ls.length ≤ c := by
    obtain ⟨a, l, c, rfl⟩ := okWide_slice Tryz.underlying22 (hval 1 22 v1 rfl rfl)
    obtain ⟨fuel, hf⟩ := h1
    obtain ⟨ls, hl⟩ := ints_arg (by simpa [Value.cells] using hf) s1
    exact ⟨ls, hl, ints_room (by simpa [Value.cells] using hf) ls hl⟩
  obtain ⟨b2, rfl⟩ := okWide_bool Tryz.underlying4 (hval 2 4 v2 rfl rfl)
  obtain ⟨a3, rfl, rfl, rfl, w3⟩ := open_int Tryz.underlying3 (hval 3 3 v3 rfl rfl) h3
  obtain ⟨a4, rfl, rfl, rfl, w4⟩ := open_int Tryz.underlying3 (hval 4 3 v4 rfl rfl) h4
  clear hA0 hval0 hsz
  refine (lines3_any W v0 v1 ls li hl hc hl1 hc1 b2 a3 a4 (inI_of_wf w3) (inI_of_wf w4) (awake18_any hG)).mono fun e W' ⟨he, bel⟩ => ?_
  subst he
  exact ⟨_, rfl, _, _, _, [], _, [], hW', trodAll_mk1 (shut_bool Tryz.underlying4 _), (trodAll_cons_mk (Below.trod laidOut (by kernel_rfl) (of_decide_eq_true (by kernel_rfl)) k0 bel lt0) (trodAll_cons_mk (Below.trod laidOut (by kernel_rfl) (of_decide_eq_true (by kernel_rfl)) k1 bel lt1) (trodAll_cons_mk (Below.trod laidOut (by kernel_rfl) (of_decide_eq_true (by kernel_rfl)) k2 bel lt2) (trodAll_cons_mk (shut_int Tryz.underlying3 w3) (trodAll_cons_mk (shut_int Tryz.underlying3 w4) trodAll_mk0))))), rfl, bel.frame _, fun h => by cases h⟩
theorem compileLines_over : Rows.CompileLinesSaid :=
  OpenClaim.holds_of_wide 3 Tryz.f3 rfl rfl rfl rfl rfl rfl rfl ⟨rfl, rfl, rfl, rfl, rfl⟩ rfl rfl rfl rfl rfl (by as_aux_lemma => kernel_rfl) Tryz.func3 jfLines
    (of_decide_eq_true (by as_aux_lemma => kernel_rfl)) (by unfold Func.isWrapper; first | (rw [if_pos (by decide +kernel)]; (as_aux_lemma => kernel_rfl)) | (rw [if_neg (by decide +kernel)]; exact ⟨rfl, rfl⟩))
    (fun os started H enc _ => compileLines_lifted os started H enc)
end Go.Proofs.YtngglbakkedaiaaGreatDoor
