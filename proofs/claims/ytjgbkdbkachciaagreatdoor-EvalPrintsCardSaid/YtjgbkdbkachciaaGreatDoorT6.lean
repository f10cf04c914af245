import Derived.Test.YtjgbkdbkachciaaGreatDoorT5
import Derived.Recover
namespace Go.Proofs.YtjgbkdbkachciaaGreatDoor
open Go.RowKit Go.Shelf
attribute [local go_sem] Oper.semAt_some

theorem assert_nil (w : World) : (Instr.typeAssert Value.nilIface 20 114 true).run Tryz.prog w = .ok (.tuple #[.agg #[I 0], .bool false]) w := by kernel_rfl
set_option maxRecDepth 100000 in
set_option maxHeartbeats 400000 in
theorem whole1_idle (p4 p5 p6 : Value) (w : World) :
    CallsD Tryz.prog 69 #[p4, p5, p6] .returning w fun e u' w' => e = .returned (.tuple #[]) ∧ u' = .returning ∧ Below w.heap.size w w' := by
  refine callsD_of_wpS Tryz.func69 rfl fun c₀ cs hu => ?_
  apply wpS_seq
  apply wpS_region
  have hta := assert_nil
  simp [wpOpsS, go_sem, recoverD, hu, Tryz.ntmps69, Exit.thenS, hta]
  apply wpS_seq
  apply wpS_region
  simp [wpOpsS, go_sem, Exit.thenS]
  refine wpS_cond (t := false) (by simp [Act.eval, Array.replicate]) ?_
  simp only [Bool.false_eq_true, if_false]
  refine wpS_of_wp (wp_skip ?_)
  have hb := below_a1 w (.cells #[.int .i64 0] 114)
  cases c₀
  simp_all [bodyPostS, results, Tryz.results69]
/-- what was scanned, as a parser's own -/
theorem toks_of {w : World} {base : Nat} {v : Value} {toks : List Tok} (h : OwnS 4 119 tEnc w base v toks) (hne : toks ≠ []) : ∃ tb c, v = .slice (some ⟨tb, 0, none⟩) toks.length c ∧ toks.length ≤ c ∧ base ≤ tb ∧ tb < w.heap.size ∧ Toks w tb 0 toks := by
  have h0 : 0 < toks.length := List.length_pos_iff.2 hne
  have hcell : ∀ i, (hi : i < toks.length) → _ := fun i hi => OwnS.cell h tEnc_len hi
  rcases h.2 with ⟨rfl, h1⟩ | ⟨g, cap, cur, rfl, hb, hg, hc, _⟩
  · omega
  · refine ⟨g, cap, rfl, hc, hb, (Array.getElem?_eq_some_iff.1 hg).1, fun i t ht j hj => ?_⟩
    have hi : i < toks.length := (List.getElem?_eq_some_iff.1 ht).1
    obtain ⟨g2, c2, hv, _, hcl⟩ := hcell i hi
    simp only [Value.slice.injEq, Option.some.injEq, Addr.mk.injEq] at hv
    obtain rfl : g2 = g := hv.1.1.symm
    rw [Nat.zero_add, (hcl j hj).1]
    have : toks[i] = t := by
      rw [List.getElem?_eq_getElem hi] at ht
      exact Option.some.inj ht
    rw [this]
theorem ended_of_prF {k g : Nat} {ts us : List Tok} {f : LF} (h : prF k g ts = some (f, us)) : ts ≠ [] := by
  rintro rfl
  cases h
end Go.Proofs.YtjgbkdbkachciaaGreatDoor
