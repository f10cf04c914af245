import Derived.Test.YtjgbkdbkachciaaGreatDoorE4
import Derived.Test.YtjgbkdbkachciaaGreatDoorC1
import Derived.Test.YtjgbkdbkachciaaGreatDoorZ4
/-
  A program may run: what says so is counted out.
-/
namespace Go.Proofs.YtjgbkdbkachciaaGreatDoor
open Go.RowKit Go.Shelf

instance (l : Str) : Decidable (Asc l) := inferInstanceAs (Decidable (∀ b ∈ l, b.toNat < 128))
instance (l : List Str) : Decidable (Names l) := inferInstanceAs (Decidable (∀ x ∈ l, Asc x ∧ isName x = true))
instance (e : LE) : Decidable (onlyE e) := by unfold onlyE; infer_instance
instance decOkE : ∀ (d : Nat) (e : LE), Decidable (okE d e)
  | 0, _ => isFalse (fun h => h)
  | d + 1, e => by
    have := decOkE d
    exact inferInstanceAs (Decidable (onlyE e ∧ ∀ x ∈ e.args, okE d x))
instance decOkS : ∀ (d : Nat) (s : LS), Decidable (okS d s)
  | 0, _ => isFalse (fun h => h)
  | d + 1, s => by
    have := decOkS d
    unfold okS
    infer_instance
instance (f : LF) : Decidable (okF f) := by unfold okF; infer_instance
instance (a : LA) : Decidable (okA a) := by unfold okA; infer_instance
instance (p : LP) (e : LE) : Decidable (ownX p e) := by unfold ownX; infer_instance
instance decXE (p : LP) : ∀ (d : Nat) (e : LE), Decidable (XEd p d e)
  | 0, _ => isFalse (fun h => h)
  | d + 1, e => by
    have := decXE p d
    exact inferInstanceAs (Decidable (ownX p e ∧ ∀ x ∈ e.args, XEd p d x))
/-- the same of statements, so deep at most -/
def ownYd (p : LP) (s : LS) : Prop :=
  (s.kind = 1 ∨ s.kind = 3 ∨ s.kind = 4 ∨ s.kind = 7 ∨ s.kind = 8 ∨ s.kind = 9 → s.args.length = 1) ∧ (s.kind = 2 → s.args.length = 2 ∧ 0 ≤ placeA p s.name) ∧ ∀ x ∈ s.args, XEd p 20 x
def YSe (p : LP) : Nat → LS → Prop
  | 0, _ => False
  | d + 1, s => ownYd p s ∧ (∀ x ∈ s.thn, YSe p d x) ∧ ∀ x ∈ s.els, YSe p d x
theorem YSe.of {p : LP} : ∀ (d : Nat) {s : LS}, YSe p d s → YSd p d s
  | 0, _, h => h
  | d + 1, _, h => ⟨⟨h.1.1, h.1.2.1, fun x hx => ⟨20, h.1.2.2 x hx⟩⟩, fun x hx => YSe.of d (h.2.1 x hx), fun x hx => YSe.of d (h.2.2 x hx)⟩
instance (p : LP) (s : LS) : Decidable (ownYd p s) := by unfold ownYd; infer_instance
instance decYS (p : LP) : ∀ (d : Nat) (s : LS), Decidable (YSe p d s)
  | 0, _ => isFalse (fun h => h)
  | d + 1, s => by
    have := decYS p d
    exact inferInstanceAs (Decidable (ownYd p s ∧ (∀ x ∈ s.thn, YSe p d x) ∧ ∀ x ∈ s.els, YSe p d x))
/-- what must be, counted -/
def runsD (p : LP) (m : Nat) : Prop := (∀ a ∈ p.arrays, okA a) ∧ (∀ f ∈ p.funcs, okF f) ∧ (placeF p wMain = m ∧ (p.funcs[m]?.map (·.params)) = some []) ∧ (∀ f ∈ p.funcs, ∀ x ∈ f.body, YSe p 20 x) ∧ p.arrays.length + p.funcs.length ≤ 1000 ∧ (∀ f ∈ p.funcs, f.params.length + f.locals.length ≤ 1000) ∧
  (globalsL p).Nodup ∧ ∀ f ∈ p.funcs, (f.params ++ f.locals).Nodup ∧ (f.params ++ f.locals).any (fun s => decide (s ∈ globalsL p)) = false ∧ firstI (fun q : LS × Bool => stmtJ p (f.params ++ f.locals) q.2 q.1) (flatSs false f.body) = 0
instance (p : LP) (m : Nat) : Decidable (runsD p m) := by unfold runsD; infer_instance
theorem Runs.of {p : LP} (m : Nat) (h : runsD p m) : Runs p := by
  obtain ⟨h1, h2, ⟨h3, h4⟩, h5, h6, h7, h8, h9⟩ := h
  have hm : ∃ k : Nat, placeF p wMain = k ∧ ∃ h : k < p.funcs.length, (p.funcs[k]'h).params = [] := by
    refine ⟨m, h3, ?_⟩
    cases hf : p.funcs[m]? with
    | none => rw [hf] at h4; cases h4
    | some f =>
      obtain ⟨hl, he⟩ := List.getElem?_eq_some_iff.1 hf
      rw [hf] at h4
      simp only [Option.map_some, Option.some.injEq] at h4
      exact ⟨hl, by rw [he]; exact h4⟩
  refine ⟨⟨h1, h2⟩, ⟨twiceB_nodup h8, hm, fun f hf => ?_⟩, fun f hf B pa la pc lc => concat_any B pa la pc lc _ _ (by have := h7 f hf; omega), ⟨hm, fun f hf x hx => ⟨20, YSe.of 20 (h5 f hf x hx)⟩⟩, by omega, fun f hf => by have := h7 f hf; omega⟩
  obtain ⟨k1, k2, k3⟩ := h9 f hf
  unfold functionJ
  rw [twiceB_nodup k1, k2]
  exact k3
theorem ended_of {toks : List Tok} (h : (toks.getLast?.map (·.kind)) = some 5) : Ended toks := by
  cases hl : toks.getLast? with
  | none => rw [hl] at h; cases h
  | some t => rw [hl] at h; exact ⟨t, hl, Option.some.inj h⟩
theorem OwnInts.rin {w : World} {base : Nat} {v : Value} {l : List Int} (h : OwnInts w base v l) (hl : l.length ≤ 1000000000) : RIn (· < w.heap.size) w v l := by
  refine ⟨RSlI.of (h.rslB hl), ?_⟩
  rcases h.2 with ⟨rfl, h0⟩ | ⟨g, cap, cur, rfl, h1, h2, h3, h4⟩
  · exact ⟨none, 0, by rw [h0], by omega⟩
  · exact ⟨_, _, rfl, h3⟩
theorem OwnInts.ext {w w' : World} {base : Nat} {v : Value} {l : List Int} (h : OwnInts w base v l) (hb : Below w.heap.size w w') : OwnInts w' base v l := h.kept (below_grown hb none) (fun r e => by cases e)
end Go.Proofs.YtjgbkdbkachciaaGreatDoor

/-
  The program of EvalCalls: how it is parsed, and what it does.
-/
namespace Go.Proofs.YtjgbkdbkachciaaGreatDoor
open Go.RowKit Go.Shelf

def ctText : Str := [105, 110, 116, 32, 102, 40, 105, 110, 116, 32, 112, 44, 32, 105, 110, 116, 32, 113, 44, 32, 105, 110, 116, 32, 114, 41, 32, 123, 32, 105, 110, 116, 32, 120, 59, 32, 112, 114, 105, 110, 116, 40, 120, 41, 59, 32, 120, 32, 61, 32, 112, 59, 32, 112, 32, 61, 32, 113, 59, 32, 113, 32, 61, 32, 114, 59, 32, 114, 32, 61, 32, 120, 59, 32, 112, 114, 105, 110, 116, 40, 112, 41, 59, 32, 112, 114, 105, 110, 116, 40, 113, 41, 59, 32, 112, 114, 105, 110, 116, 40, 114, 41, 59, 32, 114, 101, 116, 117, 114, 110, 32, 120, 59, 32, 125, 32, 105, 110, 116, 32, 109, 97, 105, 110, 40, 41, 32, 123, 32, 105, 110, 116, 32, 120, 59, 32, 120, 32, 61, 32, 55, 59, 32, 112, 114, 105, 110, 116, 40, 102, 40, 114, 101, 97, 100, 40, 41, 44, 32, 114, 101, 97, 100, 40, 41, 44, 32, 114, 101, 97, 100, 40, 41, 41, 41, 59, 32, 112, 114, 105, 110, 116, 40, 102, 40, 114, 101, 97, 100, 40, 41, 44, 32, 114, 101, 97, 100, 40, 41, 44, 32, 114, 101, 97, 100, 40, 41, 41, 41, 59, 32, 112, 114, 105, 110, 116, 40, 120, 41, 59, 32, 125]
def ctToks : List Tok := (scanF 1000 1 ctText).getD []
def ctP : LP := ((pgF 100 100 100 true ctToks).map (·.1)).getD ⟨[], []⟩
def ctUs : List Tok := ((pgF 100 100 100 true ctToks).map (·.2)).getD []
theorem ct_scan : scanF 1000 1 ctText = some ctToks := by kernel_rfl
theorem ct_prog : pgF 100 100 100 true ctToks = some (ctP, ctUs) := by kernel_rfl
theorem ct_ended : Ended ctToks := ended_of (by kernel_rfl)
theorem ct_asc : Asc ctText := asc_of (by decide +kernel)
theorem ct_runs : Runs ctP := Runs.of 1 (by decide +kernel)
theorem ct_run (a b c d e f : Int) : runM ctP 2000 [a, b, c, d, e, f] 999 = ⟨1, 0, [0, b, c, a, a, 0, e, f, d, d, 7], 50⟩ := by kernel_rfl
end Go.Proofs.YtjgbkdbkachciaaGreatDoor
