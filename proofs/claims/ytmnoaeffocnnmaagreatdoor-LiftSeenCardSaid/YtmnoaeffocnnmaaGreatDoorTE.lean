/-
  Proved: for every outcome of a run, LiftSeen returns true and leaves its argument as it was. The listed package variables begin as the program's text lays them (the card's tie). No other condition.
-/
import Derived.Test.YtmnoaeffocnnmaaGreatDoorRows
import Derived.Test.YtmnoaeffocnnmaaGreatDoorCards
import Derived.Test.YtmnoaeffocnnmaaGreatDoorTie
import Derived.Test.YtmnoaeffocnnmaaGreatDoorTC
import Derived.Test.YtmnoaeffocnnmaaGreatDoorTD
import Derived.Test.YtmnoaeffocnnmaaGreatDoorJL
import Derived.WalkKit
import Derived.ProofKit
import Derived.OpenShut
import Derived.ChangeOld
import Derived.Below
import Derived.Carry
import Derived.Lay
import Derived.LaidMore
import Derived.LaidOnce
import Derived.Stop.Joined
import Derived.SevenTiedAt
import Derived.Stop.LaidErr
import Derived.LaidSub
namespace Go.Proofs.YtmnoaeffocnnmaaGreatDoor
open Go.ChangeShapes Go.WideShapes Go.ChangeAt Go.RowKit

theorem own : ownKnob Tryz.prog.godebug = none := by kernel_rfl
theorem laidOut : laidOutB Tryz.prog = true := by kernel_rfl
theorem cc3 : Tryz.prog.cellsOf 3 = 1 := by kernel_rfl
theorem cc22 : Tryz.prog.cellsOf 22 = 1 := by kernel_rfl
theorem bb3 : Tryz.prog.bytesOf 3 = 8 := by kernel_rfl
/-- an outcome that came in -/
theorem run_arg {H : Type} {enc : TypeId × Value → H} {w : World} {sp : Nat → Bool} {held : Bool} {cs : List Value} {d : DataW H} {ps : List MemPlace} {n : Nat} (hl : cs.length = 4) (h : DataW.trod enc Tryz.prog w 0 sp held n 38 cs = some (d, ps)) (hs : Sized Tryz.prog 38 d) :
    ∃ (st cd s : Int) (ov : Value) (l : List Int), cs = [I st, I cd, ov, I s] ∧ Lq w ov l := by
  obtain ⟨n0, d0, p0, h0, _⟩ := field_at Tryz.underlying38 h hs 0 0 3 (by kernel_rfl)
  obtain ⟨n1, d1, p1, h1, _⟩ := field_at Tryz.underlying38 h hs 1 1 3 (by kernel_rfl)
  obtain ⟨n2, d2, p2, h2, s2⟩ := field_at Tryz.underlying38 h hs 2 2 22 (by kernel_rfl)
  obtain ⟨n3, d3, p3, h3, _⟩ := field_at Tryz.underlying38 h hs 3 3 3 (by kernel_rfl)
  rw [cc3, take_one (by omega)] at h0 h1 h3
  rw [cc22, take_one (by omega)] at h2
  obtain ⟨x0, e0, _⟩ := int_field Tryz.underlying3 h0
  obtain ⟨x1, e1, _⟩ := int_field Tryz.underlying3 h1
  obtain ⟨x3, e3, _⟩ := int_field Tryz.underlying3 h3
  obtain ⟨l, hl2⟩ := RSl.of_trod (k := 1) (R := fun _ C (x : Int) => C 0 = I x) (by decide) Tryz.underlying22 cc3 (by rw [bb3]; omega) (fun n cs d ps hl h _ => by
    obtain ⟨x, rfl, -, hw⟩ := DataW.trod_int Tryz.underlying3 h
    exact ⟨x, rfl⟩) h2 s2
  refine ⟨x0, x1, x3, cs.getD 2 undef, l, ?_, ?_⟩
  · match cs, hl with
    | [a, b, c, d], _ =>
      simp at e0 e1 e3 ⊢
      exact ⟨e0, e1, e3⟩
  · obtain ⟨a, c, h1, h2, h3⟩ := hl2
    refine ⟨a, c, h1, by omega, h3.imp id ?_⟩
    rintro ⟨b, o, h4, h5⟩
    refine ⟨b, o, h4, fun i x hx => ?_⟩
    obtain ⟨C, hC, hr⟩ := h5 i x hx
    have := hC 0 (by omega)
    rw [hr] at this
    simpa using this

/-- a world in which the listed variables lie as they are laid -/
theorem laid_shaped (os : Os) : (World.laidAll Tryz.prog os Rows.liftSeenRow.laid).Shaped Tryz.prog := World.shaped_of_ZipB (by kernel_rfl) (by kernel_rfl)
theorem laid_plain (W : World) : laidMetH Tryz.prog Rows.liftSeenRow.laid W = laidMet Tryz.prog Rows.liftSeenRow.laid W := MakeChecks.laidMetH_plain _ _ _ (by kernel_rfl)
theorem laid_met (os : Os) (args : Array Value) : laidMetH Tryz.prog Rows.liftSeenRow.laid ((World.laidAll Tryz.prog os Rows.liftSeenRow.laid).forCall (fun _ _ => 0) ⟨#[], args, []⟩).memory := by
  rw [laid_plain]
  exact laidMet_laidAll _ (by kernel_rfl) (by kernel_rfl)
theorem gE : Tryz.prog.globalNamed "strconv.ErrSyntax" = some 3 := by kernel_rfl
theorem gEType : (Tryz.prog.globals[3]?).map (·.type) = some 301 := by kernel_rfl
theorem star : "*" ++ "errors.errorString" = "*errors.errorString" := by decide
theorem row427 (u : TypeId) (h : Tryz.prog.typeName? 3 u = some "*errors.errorString") : u = 427 :=
  typeName_ptr_named (nm := "errors.errorString") (by rw [star]; kernel_rfl) (by kernel_rfl) (by decide) u (by rw [star]; exact h)
theorem keepE : Rows.liftSeenRow.laid.filter (fun x => x.1 == "strconv.ErrSyntax") = [("strconv.ErrSyntax", .iface "*errors.errorString" (.ptr (.agg [.lit (.string [105, 110, 118, 97, 108, 105, 100, 32, 115, 121, 110, 116, 97, 120])])))] := by kernel_rfl
theorem row3 : ((begin Tryz.prog (fun _ _ => 0) default).world.heap[3]?).bind Obj.row? = some (#[.nilIface], 301) := by kernel_rfl
/-- the variable lies as it is laid -/
theorem GIn_of {W : World} (hs : W.ShapedOpen Tryz.prog) (hx : laidMetH Tryz.prog Rows.liftSeenRow.laid W) : GIn GG W := by
  rw [laid_plain] at hx
  have hf := hx.filter fun x => x.1 == "strconv.ErrSyntax"
  rw [keepE] at hf
  obtain ⟨a, s, hv, _⟩ := laid_sentinel hf gE gEType Tryz.underlying301 row427 Tryz.underlying427 Tryz.underlying429 rfl rfl Tryz.underlying9 (by kernel_rfl) (by kernel_rfl)
  obtain ⟨cs, h1, _⟩ := hs.1 3 _ _ (of_decide_eq_true (by kernel_rfl)) row3
  have hc := World.var?_cell gE hv 0
  refine ⟨cs, a, h1, ?_⟩
  have : W.cell? ⟨3, 0, none⟩ = some (.iface 427 (.pointer (some a))) := by simpa using hc
  unfold World.cell? at this
  rw [h1] at this
  exact this
end Go.Proofs.YtmnoaeffocnnmaaGreatDoor
