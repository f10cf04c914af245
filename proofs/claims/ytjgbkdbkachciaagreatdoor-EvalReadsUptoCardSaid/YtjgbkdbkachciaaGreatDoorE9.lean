import Derived.Test.YtjgbkdbkachciaaGreatDoorE8
import Derived.Test.YtjgbkdbkachciaaGreatDoorE4
import Derived.Test.YtjgbkdbkachciaaGreatDoorE5
import Derived.Test.YtjgbkdbkachciaaGreatDoorZ7
namespace Go.Proofs.YtjgbkdbkachciaaGreatDoor
open Go.RowKit Go.Shelf
attribute [local go_sem] Oper.semAt_some

theorem RawP.can {ars : List LA} {fs : List PQ} (h : RawP ars fs) : Runs (rawP ars fs) := h.runs fun q hq B pa la pc lc => concat_any B pa la pc lc _ _ (by
  have h1 := (h.own hq).length_le
  rw [List.length_append] at h1
  have h2 : (nmP ++ nmL).length = 11 := rfl
  omega)

/-! ### no more is told than there were steps -/
def OutQ (s s' : ESt) : Prop := s'.out.length + s.steps ≤ s.out.length + s'.steps
theorem OutQ.refl (s : ESt) : OutQ s s := Nat.le_refl _
theorem OutQ.trans {a b c : ESt} (h : OutQ a b) (k : OutQ b c) : OutQ a c := by unfold OutQ at *; omega
theorem OutQ.tick (s : ESt) : OutQ s (tick s) := by show s.out.length + s.steps ≤ s.out.length + (s.steps + 1); omega
theorem argsM_out {f : LE → ESt → Res Int} (hf : ∀ e s, OutQ s (f e s).fin) : ∀ (l : List LE) (s : ESt), OutQ s (argsM f l s).fin
  | [], s => OutQ.refl s
  | e :: l, s => by
    have h1 := hf e s
    rw [argsM]
    cases he : f e s with
    | stop a b t => rw [he] at h1; exact h1
    | ok n t =>
      rw [he] at h1
      have h2 := argsM_out hf l t
      simp only
      cases hl : argsM f l t with
      | stop a b u => rw [hl] at h2; exact h1.trans h2
      | ok ns u => rw [hl] at h2; exact h1.trans h2
theorem blockM_out {f : CSt → LS → ESt → Res (Int × CSt)} (hf : ∀ c x s, OutQ s (f c x s).fin) : ∀ (l : List LS) (c : CSt) (s : ESt), OutQ s (blockM f l c s).fin
  | [], _, s => OutQ.refl s
  | x :: l, c, s => by
    have h1 := hf c x s
    rw [blockM]
    cases he : f c x s with
    | stop a b t => rw [he] at h1; exact h1
    | ok r t =>
      rw [he] at h1
      simp only
      split
      · exact h1.trans (blockM_out hf l r.2 t)
      · exact h1
theorem callM_out {p : LP} {m : Mach} (hm : Kept OutQ m) (d : Nat) (x : Str) (args : List Int) (s : ESt) : OutQ s (callM p m.stmt d x args s).fin := by
  unfold callM
  have h1 := blockM_out (hm.stmt (d + 1)) (funcAt p x).body ⟨vars0 (funcAt p x) args, 0⟩ s
  cases hl : blockM (m.stmt (d + 1)) (funcAt p x).body ⟨vars0 (funcAt p x) args, 0⟩ s with
  | stop a b u => rw [hl] at h1; exact h1
  | ok q u => rw [hl] at h1; exact h1
theorem mach_out (p : LP) (most : Int) : ∀ k, Kept OutQ (mach p most k)
  | 0 => ⟨fun _ _ _ s => OutQ.refl s, fun _ _ _ s => OutQ.refl s, fun _ _ _ s => OutQ.refl s⟩
  | k + 1 => by
    have hm := mach_out p most k
    obtain ⟨m, hmm⟩ : ∃ m, m = mach p most k := ⟨_, rfl⟩
    rw [← hmm] at hm
    show Kept OutQ ⟨exprM p most (mach p most k), stmtM p most (mach p most k), loopM (mach p most k)⟩
    rw [← hmm]
    clear hmm
    refine ⟨fun d vs e s => ?_, fun d c x s => ?_, fun d c x s => ?_⟩
    · show OutQ s (exprM p most m d vs e s).fin
      unfold exprM
      by_cases hlt : most ≤ (s.steps : Int)
      · rw [if_pos hlt]; exact OutQ.refl s
      rw [if_neg hlt]
      refine (OutQ.tick s).trans ?_
      have h1 := argsM_out (hm.expr d vs) e.args (tick s)
      show OutQ (tick s) (match argsM (m.expr d vs) e.args (tick s) with | .stop a b s => _ | .ok args s => _ : Res Int).fin
      cases hl : argsM (m.expr d vs) e.args (tick s) with
      | stop a b u => rw [hl] at h1; exact h1
      | ok args u =>
        rw [hl] at h1
        refine h1.trans ?_
        show OutQ u _
        dsimp only
        repeat' split
        all_goals first
          | exact OutQ.refl u
          | exact callM_out hm _ _ _ _
    · show OutQ s (stmtM p most m d c x s).fin
      unfold stmtM
      by_cases hlt : most ≤ (s.steps : Int)
      · rw [if_pos hlt]; exact OutQ.refl s
      rw [if_neg hlt]
      have ht := OutQ.tick s
      by_cases h4 : x.kind = 4
      · rw [if_pos h4]; exact ht.trans (hm.loop d c x (tick s))
      rw [if_neg h4]
      by_cases h5 : x.kind = 5
      · rw [if_pos h5]; exact ht
      rw [if_neg h5]
      by_cases h6 : x.kind = 6
      · rw [if_pos h6]; exact ht
      rw [if_neg h6]
      have h1 := argsM_out (hm.expr d c.vars) x.args (tick s)
      show OutQ s (match argsM (m.expr d c.vars) x.args (tick s) with | .stop a b s => _ | .ok args s => _ : Res (Int × CSt)).fin
      cases hl : argsM (m.expr d c.vars) x.args (tick s) with
      | stop a b u => rw [hl] at h1; exact ht.trans h1
      | ok args u =>
        rw [hl] at h1
        have h2 : OutQ s u := ht.trans h1
        have h3 : u.out.length + 1 + s.steps ≤ s.out.length + u.steps := by
          have h1 : u.out.length + (s.steps + 1) ≤ s.out.length + u.steps := h1
          omega
        show OutQ s _
        dsimp only
        repeat' split
        all_goals first
          | exact h2
          | exact h2.trans (blockM_out (hm.stmt d) _ _ _)
          | (show (u.out ++ _).length + s.steps ≤ s.out.length + u.steps; rw [List.length_append]; exact h3)
    · show OutQ s (loopM m d c x s).fin
      unfold loopM
      have h1 := hm.expr d c.vars (x.args.getD 0 (.mk 0 0 0 [] [])) s
      cases he : m.expr d c.vars (x.args.getD 0 (.mk 0 0 0 [] [])) s with
      | stop a b u => rw [he] at h1; exact h1
      | ok n u =>
        rw [he] at h1
        refine h1.trans ?_
        show OutQ u _
        simp only
        split
        · exact OutQ.refl u
        have h2 := blockM_out (hm.stmt d) x.thn c u
        cases hl : blockM (m.stmt d) x.thn c u with
        | stop a b v => rw [hl] at h2; exact h2
        | ok r v =>
          rw [hl] at h2
          refine h2.trans ?_
          simp only
          split
          · exact OutQ.refl v
          split
          · exact OutQ.refl v
          exact hm.loop d r.2 x v
theorem run_out (p : LP) (inp : List Int) (most : Int) (k : Nat) : (runM p k inp most).out.length ≤ (runM p k inp most).steps := by
  rw [runM_eq]
  have h := callM_out (p := p) (mach_out p most k) 0 wMain [] (st0 p inp)
  obtain ⟨x, hx⟩ : ∃ x, x = callM p (mach p most k).stmt 0 wMain [] (st0 p inp) := ⟨_, rfl⟩
  rw [← hx] at h ⊢
  have h2 : x.fin.out.length ≤ x.fin.steps := by
    have h : x.fin.out.length + 0 ≤ 0 + x.fin.steps := h
    omega
  cases x <;> exact h2
theorem pick_nat (c : Int) : ∃ n : Nat, pickI c 1001 = n ∧ n ≤ 1000 := by
  have := pickI_nonneg c 1001 (by decide)
  exact ⟨(pickI c 1001).toNat, by omega, by omega⟩
end Go.Proofs.YtjgbkdbkachciaaGreatDoor
