import Derived.Test.YtjgbkdbkachciaaGreatDoorW7
/-
  Which programs run, and plain laws of the mirror of eval.
-/
namespace Go.Proofs.YtjgbkdbkachciaaGreatDoor
open Go.RowKit Go.Shelf

/-! ### what may run -/
def ownX (p : LP) (e : LE) : Prop :=
  (1 ≤ e.kind ∧ e.kind ≤ 7) ∧ (e.kind = 3 → e.args.length = 1) ∧ (e.kind = 4 → e.args.length = 2) ∧ (e.kind = 6 → e.args.length = 1 ∧ 0 ≤ placeA p e.name) ∧
  (e.kind = 5 → 0 ≤ placeF p e.name ∧ (fnAt p (placeF p e.name)).params.length = e.args.length)
def XEd (p : LP) : Nat → LE → Prop
  | 0, _ => False
  | d + 1, e => ownX p e ∧ ∀ x ∈ e.args, XEd p d x
def XE (p : LP) (e : LE) : Prop := ∃ d, XEd p d e
theorem XE.own {p : LP} {e : LE} (h : XE p e) : ownX p e := by
  obtain ⟨d, h⟩ := h
  cases d with
  | zero => exact h.elim
  | succ d => exact h.1
theorem XE.args {p : LP} {e : LE} (h : XE p e) : ∀ x ∈ e.args, XE p x := by
  obtain ⟨d, h⟩ := h
  cases d with
  | zero => exact h.elim
  | succ d => exact fun x hx => ⟨d, h.2 x hx⟩
def ownY (p : LP) (s : LS) : Prop :=
  (s.kind = 1 ∨ s.kind = 3 ∨ s.kind = 4 ∨ s.kind = 7 ∨ s.kind = 8 ∨ s.kind = 9 → s.args.length = 1) ∧ (s.kind = 2 → s.args.length = 2 ∧ 0 ≤ placeA p s.name) ∧ ∀ x ∈ s.args, XE p x
def YSd (p : LP) : Nat → LS → Prop
  | 0, _ => False
  | d + 1, s => ownY p s ∧ (∀ x ∈ s.thn, YSd p d x) ∧ ∀ x ∈ s.els, YSd p d x
def YS (p : LP) (s : LS) : Prop := ∃ d, YSd p d s
theorem YS.own {p : LP} {s : LS} (h : YS p s) : ownY p s := by
  obtain ⟨d, h⟩ := h
  cases d with
  | zero => exact h.elim
  | succ d => exact h.1
theorem YS.thn {p : LP} {s : LS} (h : YS p s) : ∀ x ∈ s.thn, YS p x := by
  obtain ⟨d, h⟩ := h
  cases d with
  | zero => exact h.elim
  | succ d => exact fun x hx => ⟨d, h.2.1 x hx⟩
theorem YS.els {p : LP} {s : LS} (h : YS p s) : ∀ x ∈ s.els, YS p x := by
  obtain ⟨d, h⟩ := h
  cases d with
  | zero => exact h.elim
  | succ d => exact fun x hx => ⟨d, h.2.2 x hx⟩
/-- a program that may run -/
structure XP (p : LP) : Prop where
  main : ∃ k : Nat, placeF p wMain = k ∧ ∃ h : k < p.funcs.length, (p.funcs[k]'h).params = []
  body : ∀ f ∈ p.funcs, ∀ x ∈ f.body, YS p x

/-! ### steps grow -/
abbrev UpR (k : Nat) (s s' : ESt) : Prop := s.steps + k ≤ s'.steps ∧ s'.out.length + s.steps ≤ s.out.length + s'.steps
abbrev tick (s : ESt) : ESt := { s with steps := s.steps + 1 }
structure Mach.Up (m : Mach) : Prop where
  expr : ∀ {d vs e s n s'}, m.expr d vs e s = .ok n s' → UpR 1 s s'
  stmt : ∀ {d c x s q s'}, m.stmt d c x s = .ok q s' → UpR 1 s s'
  loop : ∀ {d c x s q s'}, m.loop d c x s = .ok q s' → UpR 1 s s'
theorem argsM_up {f : LE → ESt → Res Int} (hf : ∀ {e s n s'}, f e s = .ok n s' → UpR 1 s s') : ∀ (l : List LE) (s : ESt) (ns : List Int) (s' : ESt), argsM f l s = .ok ns s' → UpR 0 s s' ∧ ns.length = l.length
  | [], s, ns, s', h => by
    rw [argsM] at h
    injection h with h1 h2
    subst h1 h2
    exact ⟨⟨Nat.le_refl _, Nat.le_refl _⟩, rfl⟩
  | e :: l, s, ns, s', h => by
    rw [argsM] at h
    cases he : f e s with
    | stop a b t => rw [he] at h; cases h
    | ok n t =>
      rw [he] at h
      simp only at h
      cases hl : argsM f l t with
      | stop a b u => rw [hl] at h; cases h
      | ok ms u =>
        rw [hl] at h
        simp only at h
        injection h with h1 h2
        subst h1 h2
        have h3 := hf he
        have h4 := argsM_up hf l t ms u hl
        exact ⟨⟨by omega, by omega⟩, by simp [h4.2]⟩
theorem blockM_up {f : CSt → LS → ESt → Res (Int × CSt)} (hf : ∀ {c x s q s'}, f c x s = .ok q s' → UpR 1 s s') : ∀ (l : List LS) (c : CSt) (s : ESt) (q : Int × CSt) (s' : ESt), blockM f l c s = .ok q s' → UpR 0 s s'
  | [], c, s, q, s', h => by
    rw [blockM] at h
    injection h with h1 h2
    subst h2
    exact ⟨Nat.le_refl _, Nat.le_refl _⟩
  | x :: l, c, s, q, s', h => by
    rw [blockM] at h
    cases he : f c x s with
    | stop a b t => rw [he] at h; cases h
    | ok r t =>
      obtain ⟨how, c1⟩ := r
      rw [he] at h
      simp only at h
      have h3 := hf he
      split at h
      · have := blockM_up hf l c1 t q s' h
        exact ⟨by omega, by omega⟩
      · injection h with h1 h2
        subst h2
        exact ⟨by omega, by omega⟩
theorem callM_up {p : LP} {m : Mach} (hm : m.Up) {d : Nat} {x : Str} {args : List Int} {s : ESt} {n : Int} {s' : ESt} (h : callM p m.stmt d x args s = .ok n s') : UpR 0 s s' := by
  unfold callM at h
  cases hl : blockM (m.stmt (d + 1)) (funcAt p x).body ⟨vars0 (funcAt p x) args, 0⟩ s with
  | stop a b u => rw [hl] at h; cases h
  | ok q u =>
    rw [hl] at h
    simp only at h
    injection h with h1 h2
    subst h2
    exact blockM_up (fun h => hm.stmt h) _ _ _ _ _ hl
theorem exprM_up {p : LP} {most : Int} {m : Mach} (hm : m.Up) {d : Nat} {vs : Vars} {e : LE} {s : ESt} {n : Int} {s' : ESt} (h : exprM p most m d vs e s = .ok n s') : UpR 1 s s' := by
  unfold exprM at h
  split at h
  · cases h
  cases hl : argsM (m.expr d vs) e.args (tick s) with
  | stop a b u => rw [hl] at h; cases h
  | ok args u =>
    rw [hl] at h
    simp only at h
    have h0 : UpR 0 (tick s) u := (argsM_up (fun h => hm.expr h) _ _ _ _ hl).1
    simp only [UpR] at h0
    repeat' split at h
    all_goals first
      | cases h; done
      | (injection h with h1 h2; subst h2; exact ⟨by first | omega | (show s.steps + 1 ≤ u.steps; omega), by first | omega | (show u.out.length + s.steps ≤ s.out.length + u.steps; omega)⟩)
      | (have := callM_up hm h; exact ⟨by omega, by omega⟩)
theorem stmtM_up {p : LP} {most : Int} {m : Mach} (hm : m.Up) {d : Nat} {c : CSt} {x : LS} {s : ESt} {q : Int × CSt} {s' : ESt} (h : stmtM p most m d c x s = .ok q s') : UpR 1 s s' := by
  unfold stmtM at h
  split at h
  · cases h
  split at h
  · have := hm.loop h
    simp only [UpR] at this
    exact ⟨by omega, by omega⟩
  split at h
  · injection h with h1 h2; subst h2; exact ⟨Nat.le_refl _, by show s.out.length + s.steps ≤ s.out.length + (s.steps + 1); omega⟩
  split at h
  · injection h with h1 h2; subst h2; exact ⟨Nat.le_refl _, by show s.out.length + s.steps ≤ s.out.length + (s.steps + 1); omega⟩
  cases hl : argsM (m.expr d c.vars) x.args (tick s) with
  | stop a b u => rw [hl] at h; cases h
  | ok args u =>
    rw [hl] at h
    simp only at h
    have h0 : UpR 0 (tick s) u := (argsM_up (fun h => hm.expr h) _ _ _ _ hl).1
    simp only [UpR] at h0
    repeat' split at h
    all_goals first
      | cases h; done
      | (injection h with h1 h2; subst h2; exact ⟨by first | omega | (show s.steps + 1 ≤ u.steps; omega), by first | omega | (show u.out.length + s.steps ≤ s.out.length + u.steps; omega) | (simp only [List.length_append, List.length_cons, List.length_nil]; omega)⟩)
      | (have := blockM_up (fun h => hm.stmt h) _ _ _ _ _ h; exact ⟨by omega, by omega⟩)
theorem loopM_up {m : Mach} (hm : m.Up) {d : Nat} {c : CSt} {x : LS} {s : ESt} {q : Int × CSt} {s' : ESt} (h : loopM m d c x s = .ok q s') : UpR 1 s s' := by
  unfold loopM at h
  cases he : m.expr d c.vars (x.args.getD 0 (.mk 0 0 0 [] [])) s with
  | stop a b u => rw [he] at h; cases h
  | ok n u =>
    rw [he] at h
    simp only at h
    have h0 := hm.expr he
    split at h
    · injection h with h1 h2; subst h2; exact h0
    cases hl : blockM (m.stmt d) x.thn c u with
    | stop a b u => rw [hl] at h; cases h
    | ok r v =>
      obtain ⟨how, c1⟩ := r
      rw [hl] at h
      simp only at h
      have h1 := blockM_up (fun h => hm.stmt h) _ _ _ _ _ hl
      split at h
      · injection h with h1 h2; subst h2; exact ⟨by omega, by omega⟩
      split at h
      · injection h with h1 h2; subst h2; exact ⟨by omega, by omega⟩
      have := hm.loop h
      exact ⟨by omega, by omega⟩
theorem mach_up (p : LP) (most : Int) : ∀ k, (mach p most k).Up
  | 0 => ⟨fun h => (by cases h), fun h => (by cases h), fun h => (by cases h)⟩
  | k + 1 => ⟨fun h => exprM_up (mach_up p most k) h, fun h => stmtM_up (mach_up p most k) h, fun h => loopM_up (mach_up p most k) h⟩
end Go.Proofs.YtjgbkdbkachciaaGreatDoor

/-
  Plain laws of the mirror of eval: fuel that is enough makes no difference; what ends a run without an answer.
-/
namespace Go.Proofs.YtjgbkdbkachciaaGreatDoor
open Go.RowKit Go.Shelf

def left (most : Int) (s : ESt) : Nat := (most - s.steps).toNat
theorem left_tick {most : Int} {s : ESt} (h : ¬ most ≤ (s.steps : Int)) : left most (tick s) + 1 = left most s := by
  unfold left tick; simp only; omega
theorem left_up {most : Int} {k : Nat} {s s' : ESt} (h : UpR k s s') : left most s' ≤ left most s := by
  unfold left; omega
theorem left_up1 {most : Int} {s s' : ESt} (h : UpR 1 s s') : left most s' ≤ left most s - 1 := by
  unfold left; omega
theorem argsM_congr {f g : LE → ESt → Res Int} {most : Int} {R : Nat} (h : ∀ e s, left most s ≤ R → f e s = g e s) (hu : ∀ {e s n s'}, f e s = .ok n s' → UpR 1 s s') : ∀ (l : List LE) (s : ESt), left most s ≤ R → argsM f l s = argsM g l s
  | [], _, _ => rfl
  | e :: l, s, hs => by
    rw [argsM, argsM, ← h e s hs]
    cases he : f e s with
    | stop a b t => rfl
    | ok n t =>
      simp only
      rw [argsM_congr h hu l t (Nat.le_trans (left_up (hu he)) hs)]
theorem blockM_congr {f g : CSt → LS → ESt → Res (Int × CSt)} {most : Int} {R : Nat} (h : ∀ c x s, left most s ≤ R → f c x s = g c x s) (hu : ∀ {c x s q s'}, f c x s = .ok q s' → UpR 1 s s') : ∀ (l : List LS) (c : CSt) (s : ESt), left most s ≤ R → blockM f l c s = blockM g l c s
  | [], _, _, _ => rfl
  | x :: l, c, s, hs => by
    rw [blockM, blockM, ← h c x s hs]
    cases he : f c x s with
    | stop a b t => rfl
    | ok r t =>
      simp only
      split
      · exact blockM_congr h hu l r.2 t (Nat.le_trans (left_up (hu he)) hs)
      · rfl
structure SameM (most : Int) (R : Nat) (m m' : Mach) : Prop where
  expr : ∀ d vs e s, 2 * left most s + 1 ≤ R → m.expr d vs e s = m'.expr d vs e s
  stmt : ∀ d c x s, 2 * left most s + 1 ≤ R → m.stmt d c x s = m'.stmt d c x s
  loop : ∀ d c x s, 2 * left most s + 2 ≤ R → m.loop d c x s = m'.loop d c x s
theorem callM_congr {p : LP} {most : Int} {R : Nat} {m m' : Mach} (h : SameM most R m m') (hm : m.Up) {d : Nat} {x : Str} {args : List Int} {s : ESt} (hs : 2 * left most s + 1 ≤ R) : callM p m.stmt d x args s = callM p m'.stmt d x args s := by
  unfold callM
  rw [blockM_congr (most := most) (R := (R - 1) / 2) (fun c x s hs' => h.stmt (d + 1) c x s (by omega)) (fun h => hm.stmt h) _ _ s (by omega)]
theorem sameM_succ {p : LP} {most : Int} {R : Nat} {m m' : Mach} (h : SameM most R m m') (hm : m.Up) (hv : ∀ {d vs e s n s'}, m.expr d vs e s = .ok n s' → ¬ most ≤ (s.steps : Int)) :
    SameM most (R + 1) ⟨exprM p most m, stmtM p most m, loopM m⟩ ⟨exprM p most m', stmtM p most m', loopM m'⟩ := by
  refine ⟨fun d vs e s hs => ?_, fun d c x s hs => ?_, fun d c x s hs => ?_⟩
  · simp only
    unfold exprM
    by_cases hlt : most ≤ (s.steps : Int)
    · rw [if_pos hlt, if_pos hlt]
    rw [if_neg hlt, if_neg hlt]
    have h1 := left_tick hlt
    show (match argsM (m.expr d vs) e.args (tick s) with | .stop a b s => _ | .ok args s => _) = (match argsM (m'.expr d vs) e.args (tick s) with | .stop a b s => _ | .ok args s => _)
    rw [← argsM_congr (most := most) (R := left most (tick s)) (fun e s' hs' => h.expr d vs e s' (by omega)) (fun h => hm.expr h) _ _ (Nat.le_refl _)]
    cases hl : argsM (m.expr d vs) e.args (tick s) with
    | stop a b u => rfl
    | ok args u =>
      have h2 := left_up (most := most) (argsM_up (fun h => hm.expr h) _ _ _ _ hl).1
      dsimp only
      rw [callM_congr h hm (s := u) (by omega)]
  · simp only
    unfold stmtM
    by_cases hlt : most ≤ (s.steps : Int)
    · rw [if_pos hlt, if_pos hlt]
    rw [if_neg hlt, if_neg hlt]
    have h1 := left_tick hlt
    rw [show m.loop d c x { s with steps := s.steps + 1 } = m'.loop d c x { s with steps := s.steps + 1 } from h.loop d c x (tick s) (by omega)]
    show (if x.kind = 4 then _ else if x.kind = 5 then _ else if x.kind = 6 then _ else match argsM (m.expr d c.vars) x.args (tick s) with | .stop a b s => _ | .ok args s => _) = (if x.kind = 4 then _ else if x.kind = 5 then _ else if x.kind = 6 then _ else match argsM (m'.expr d c.vars) x.args (tick s) with | .stop a b s => _ | .ok args s => _)
    rw [← argsM_congr (most := most) (R := left most (tick s)) (fun e s' hs' => h.expr d c.vars e s' (by omega)) (fun h => hm.expr h) _ _ (Nat.le_refl _)]
    cases hl : argsM (m.expr d c.vars) x.args (tick s) with
    | stop a b u => rfl
    | ok args u =>
      have h2 := left_up (most := most) (argsM_up (fun h => hm.expr h) _ _ _ _ hl).1
      simp only
      rw [blockM_congr (most := most) (R := left most u) (fun c x s' hs' => h.stmt d c x s' (by omega)) (fun h => hm.stmt h) _ _ u (Nat.le_refl _)]
  · simp only
    unfold loopM
    rw [← h.expr d c.vars _ s (by omega)]
    cases he : m.expr d c.vars (x.args.getD 0 (.mk 0 0 0 [] [])) s with
    | stop a b u => rfl
    | ok n u =>
      have h1 := left_up1 (most := most) (hm.expr he)
      simp only
      split
      · rfl
      have h0 := hv he
      have h4 : left most s ≠ 0 := by unfold left; omega
      rw [← blockM_congr (most := most) (R := left most u) (fun c x s' hs' => h.stmt d c x s' (by omega)) (fun h => hm.stmt h) _ _ u (Nat.le_refl _)]
      cases hl : blockM (m.stmt d) x.thn c u with
      | stop a b v => rfl
      | ok r v =>
        have h3 := left_up (most := most) (blockM_up (fun h => hm.stmt h) _ _ _ _ _ hl)
        simp only
        split
        · rfl
        split
        · rfl
        exact h.loop d r.2 x v (by omega)
theorem mach_live {p : LP} {most : Int} : ∀ {k : Nat} {d : Nat} {vs : Vars} {e : LE} {s : ESt} {n : Int} {s' : ESt}, (mach p most k).expr d vs e s = .ok n s' → ¬ most ≤ (s.steps : Int)
  | 0, _, _, _, _, _, _, h => by cases h
  | k + 1, d, vs, e, s, n, s', h => fun hs => by
    replace h : exprM p most (mach p most k) d vs e s = .ok n s' := h
    rw [exprM, if_pos hs] at h
    cases h
theorem mach_fuel (p : LP) (most : Int) : ∀ (k j : Nat), SameM most k (mach p most k) (mach p most (k + j))
  | 0, _ => ⟨fun _ _ _ _ h => by omega, fun _ _ _ _ h => by omega, fun _ _ _ _ h => by omega⟩
  | k + 1, j => by
    rw [show k + 1 + j = (k + j) + 1 by omega]
    exact sameM_succ (mach_fuel p most k j) (mach_up p most k) mach_live
end Go.Proofs.YtjgbkdbkachciaaGreatDoor

/-
  Plain laws of the mirror of eval: what runs keep; a run that has more steps goes on as it did.
-/
namespace Go.Proofs.YtjgbkdbkachciaaGreatDoor
open Go.RowKit Go.Shelf

def Res.fin {α : Type} : Res α → ESt
  | .ok _ s => s
  | .stop _ _ s => s
structure Keeps (most : Int) (Q : ESt → ESt → Prop) : Prop where
  refl : ∀ s, Q s s
  trans : ∀ {a b c}, Q a b → Q b c → Q a c
  tick : ∀ s, ¬ most ≤ (s.steps : Int) → Q s (tick s)
  read : ∀ s x l, s.inp = x :: l → Q s { s with inp := l }
  store : ∀ s i l, Q s { s with arrs := s.arrs.set i l }
  print : ∀ s n, Q s { s with out := s.out ++ [n] }
structure Kept (Q : ESt → ESt → Prop) (m : Mach) : Prop where
  expr : ∀ d vs e s, Q s (m.expr d vs e s).fin
  stmt : ∀ d c x s, Q s (m.stmt d c x s).fin
  loop : ∀ d c x s, Q s (m.loop d c x s).fin
theorem argsM_keeps {most : Int} {Q : ESt → ESt → Prop} (hQ : Keeps most Q) {f : LE → ESt → Res Int} (hf : ∀ e s, Q s (f e s).fin) : ∀ (l : List LE) (s : ESt), Q s (argsM f l s).fin
  | [], s => hQ.refl s
  | e :: l, s => by
    have h1 := hf e s
    rw [argsM]
    cases he : f e s with
    | stop a b t => rw [he] at h1; exact h1
    | ok n t =>
      rw [he] at h1
      have h2 := argsM_keeps hQ hf l t
      simp only
      cases hl : argsM f l t with
      | stop a b u => rw [hl] at h2; exact hQ.trans h1 h2
      | ok ns u => rw [hl] at h2; exact hQ.trans h1 h2
theorem blockM_keeps {most : Int} {Q : ESt → ESt → Prop} (hQ : Keeps most Q) {f : CSt → LS → ESt → Res (Int × CSt)} (hf : ∀ c x s, Q s (f c x s).fin) : ∀ (l : List LS) (c : CSt) (s : ESt), Q s (blockM f l c s).fin
  | [], _, s => hQ.refl s
  | x :: l, c, s => by
    have h1 := hf c x s
    rw [blockM]
    cases he : f c x s with
    | stop a b t => rw [he] at h1; exact h1
    | ok r t =>
      rw [he] at h1
      simp only
      split
      · exact hQ.trans h1 (blockM_keeps hQ hf l r.2 t)
      · exact h1
theorem callM_keeps {most : Int} {Q : ESt → ESt → Prop} (hQ : Keeps most Q) {p : LP} {m : Mach} (hm : Kept Q m) (d : Nat) (x : Str) (args : List Int) (s : ESt) : Q s (callM p m.stmt d x args s).fin := by
  unfold callM
  have h1 := blockM_keeps hQ (hm.stmt (d + 1)) (funcAt p x).body ⟨vars0 (funcAt p x) args, 0⟩ s
  cases hl : blockM (m.stmt (d + 1)) (funcAt p x).body ⟨vars0 (funcAt p x) args, 0⟩ s with
  | stop a b u => rw [hl] at h1; exact h1
  | ok q u => rw [hl] at h1; exact h1
theorem mach_keeps {most : Int} {Q : ESt → ESt → Prop} (hQ : Keeps most Q) (p : LP) : ∀ k, Kept Q (mach p most k)
  | 0 => ⟨fun _ _ _ s => hQ.refl s, fun _ _ _ s => hQ.refl s, fun _ _ _ s => hQ.refl s⟩
  | k + 1 => by
    have hm := mach_keeps hQ p k
    obtain ⟨m, hmm⟩ : ∃ m, m = mach p most k := ⟨_, rfl⟩
    rw [← hmm] at hm
    show Kept Q ⟨exprM p most (mach p most k), stmtM p most (mach p most k), loopM (mach p most k)⟩
    rw [← hmm]
    clear hmm
    refine ⟨fun d vs e s => ?_, fun d c x s => ?_, fun d c x s => ?_⟩
    · show Q s (exprM p most m d vs e s).fin
      unfold exprM
      by_cases hlt : most ≤ (s.steps : Int)
      · rw [if_pos hlt]; exact hQ.refl s
      rw [if_neg hlt]
      refine hQ.trans (hQ.tick s hlt) ?_
      have h1 := argsM_keeps hQ (hm.expr d vs) e.args (tick s)
      show Q (tick s) (match argsM (m.expr d vs) e.args (tick s) with | .stop a b s => _ | .ok args s => _ : Res Int).fin
      cases hl : argsM (m.expr d vs) e.args (tick s) with
      | stop a b u => rw [hl] at h1; exact h1
      | ok args u =>
        rw [hl] at h1
        refine hQ.trans h1 ?_
        show Q u _
        dsimp only
        repeat' split
        all_goals first
          | exact hQ.refl u
          | exact callM_keeps hQ hm _ _ _ _
          | (apply hQ.read; assumption)
    · show Q s (stmtM p most m d c x s).fin
      unfold stmtM
      by_cases hlt : most ≤ (s.steps : Int)
      · rw [if_pos hlt]; exact hQ.refl s
      rw [if_neg hlt]
      refine hQ.trans (hQ.tick s hlt) ?_
      by_cases h4 : x.kind = 4
      · rw [if_pos h4]; exact hm.loop d c x (tick s)
      rw [if_neg h4]
      by_cases h5 : x.kind = 5
      · rw [if_pos h5]; exact hQ.refl _
      rw [if_neg h5]
      by_cases h6 : x.kind = 6
      · rw [if_pos h6]; exact hQ.refl _
      rw [if_neg h6]
      have h1 := argsM_keeps hQ (hm.expr d c.vars) x.args (tick s)
      show Q (tick s) (match argsM (m.expr d c.vars) x.args (tick s) with | .stop a b s => _ | .ok args s => _ : Res (Int × CSt)).fin
      cases hl : argsM (m.expr d c.vars) x.args (tick s) with
      | stop a b u => rw [hl] at h1; exact h1
      | ok args u =>
        rw [hl] at h1
        refine hQ.trans h1 ?_
        show Q u _
        dsimp only
        repeat' split
        all_goals first
          | exact hQ.refl u
          | exact blockM_keeps hQ (hm.stmt d) _ _ _
          | exact hQ.store _ _ _
          | exact hQ.print _ _
    · show Q s (loopM m d c x s).fin
      unfold loopM
      have h1 := hm.expr d c.vars (x.args.getD 0 (.mk 0 0 0 [] [])) s
      cases he : m.expr d c.vars (x.args.getD 0 (.mk 0 0 0 [] [])) s with
      | stop a b u => rw [he] at h1; exact h1
      | ok n u =>
        rw [he] at h1
        refine hQ.trans h1 ?_
        show Q u _
        simp only
        split
        · exact hQ.refl u
        have h2 := blockM_keeps hQ (hm.stmt d) x.thn c u
        cases hl : blockM (m.stmt d) x.thn c u with
        | stop a b v => rw [hl] at h2; exact h2
        | ok r v =>
          rw [hl] at h2
          refine hQ.trans h2 ?_
          simp only
          split
          · exact hQ.refl v
          split
          · exact hQ.refl v
          exact hm.loop d r.2 x v
/-- steps grow, what was told stays told -/
structure GoesOn (s s' : ESt) : Prop where
  steps : s.steps ≤ s'.steps
  out : s.out <+: s'.out
theorem goesOn_keeps (most : Int) : Keeps most GoesOn :=
  ⟨fun _ => ⟨Nat.le_refl _, List.prefix_refl _⟩, fun h k => ⟨Nat.le_trans h.1 k.1, h.2.trans k.2⟩, fun _ _ => ⟨Nat.le_succ _, List.prefix_refl _⟩,
    fun _ _ _ _ => ⟨Nat.le_refl _, List.prefix_refl _⟩, fun _ _ _ => ⟨Nat.le_refl _, List.prefix_refl _⟩, fun _ _ => ⟨Nat.le_refl _, List.prefix_append _ _⟩⟩
theorem within_keeps (most : Int) : Keeps most (fun s s' => (s.steps : Int) ≤ most → (s'.steps : Int) ≤ most) :=
  ⟨fun _ h => h, fun h k x => k (h x), fun s h _ => by show ((s.steps + 1 : Nat) : Int) ≤ most; omega, fun _ _ _ _ h => h, fun _ _ _ h => h, fun _ _ h => h⟩

/-! ### more steps -/
def OnR {α : Type} (a : Int) (x y : Res α) : Prop := x = y ∨ ∃ s, x = .stop 0 0 s ∧ a ≤ (s.steps : Int) ∧ GoesOn s y.fin
structure OnM (a : Int) (m m' : Mach) : Prop where
  expr : ∀ d vs e s, OnR a (m.expr d vs e s) (m'.expr d vs e s)
  stmt : ∀ d c x s, OnR a (m.stmt d c x s) (m'.stmt d c x s)
  loop : ∀ d c x s, OnR a (m.loop d c x s) (m'.loop d c x s)
theorem argsM_on {a b : Int} {f g : LE → ESt → Res Int} (h : ∀ e s, OnR a (f e s) (g e s)) (hg : ∀ e s, GoesOn s (g e s).fin) : ∀ (l : List LE) (s : ESt), OnR a (argsM f l s) (argsM g l s)
  | [], s => .inl rfl
  | e :: l, s => by
    have hk := goesOn_keeps b
    have h2 : GoesOn s (argsM g (e :: l) s).fin := argsM_keeps hk hg (e :: l) s
    rcases h e s with h1 | ⟨t, h1, h3, h4⟩
    · rw [argsM, argsM, h1]
      cases he : g e s with
      | stop a b t => exact .inl rfl
      | ok n t =>
        simp only
        have h5 := argsM_keeps hk hg l t
        rcases argsM_on (b := b) h hg l t with h6 | ⟨u, h6, h7, h8⟩
        · rw [h6]; exact .inl rfl
        · rw [h6]
          refine .inr ⟨u, rfl, h7, ?_⟩
          cases hl : argsM g l t with
          | stop a b u' => rw [hl] at h8; exact h8
          | ok ns u' => rw [hl] at h8; exact h8
    · refine .inr ⟨t, by rw [argsM, h1], h3, ?_⟩
      rw [argsM]
      cases he : g e s with
      | stop a b t' => rw [he] at h4; exact h4
      | ok n t' =>
        rw [he] at h4
        have h5 := argsM_keeps hk hg l t'
        simp only
        cases hl : argsM g l t' with
        | stop a b u => rw [hl] at h5; exact hk.trans h4 h5
        | ok ns u => rw [hl] at h5; exact hk.trans h4 h5
theorem blockM_on {a b : Int} {f g : CSt → LS → ESt → Res (Int × CSt)} (h : ∀ c x s, OnR a (f c x s) (g c x s)) (hg : ∀ c x s, GoesOn s (g c x s).fin) : ∀ (l : List LS) (c : CSt) (s : ESt), OnR a (blockM f l c s) (blockM g l c s)
  | [], _, s => .inl rfl
  | x :: l, c, s => by
    have hk := goesOn_keeps b
    rcases h c x s with h1 | ⟨t, h1, h3, h4⟩
    · rw [blockM, blockM, h1]
      cases he : g c x s with
      | stop a b t => exact .inl rfl
      | ok r t =>
        simp only
        split
        · exact blockM_on (b := b) h hg l r.2 t
        · exact .inl rfl
    · refine .inr ⟨t, by rw [blockM, h1], h3, ?_⟩
      rw [blockM]
      cases he : g c x s with
      | stop a b t' => rw [he] at h4; exact h4
      | ok r t' =>
        rw [he] at h4
        simp only
        split
        · exact hk.trans h4 (blockM_keeps hk hg l r.2 t')
        · exact h4
theorem callM_on {a b : Int} {p : LP} {m m' : Mach} (h : OnM a m m') (hm : Kept GoesOn m') (d : Nat) (x : Str) (args : List Int) (s : ESt) : OnR a (callM p m.stmt d x args s) (callM p m'.stmt d x args s) := by
  unfold callM
  rcases blockM_on (b := b) (h.stmt (d + 1)) (hm.stmt (d + 1)) (funcAt p x).body ⟨vars0 (funcAt p x) args, 0⟩ s with h1 | ⟨t, h1, h3, h4⟩
  · rw [h1]; exact .inl rfl
  · rw [h1]
    refine .inr ⟨t, rfl, h3, ?_⟩
    cases hl : blockM (m'.stmt (d + 1)) (funcAt p x).body ⟨vars0 (funcAt p x) args, 0⟩ s with
    | stop a b u => rw [hl] at h4; exact h4
    | ok q u => rw [hl] at h4; exact h4
/-- what comes behind -/
def Res.bind {α β : Type} (x : Res α) (F : α → ESt → Res β) : Res β := match x with
  | .stop a b s => .stop a b s
  | .ok v s => F v s
theorem bind_on {α β : Type} {a : Int} {x y : Res α} {F G : α → ESt → Res β} (h : OnR a x y) (hF : ∀ v s, OnR a (F v s) (G v s)) (hG : ∀ v s, GoesOn s (G v s).fin) : OnR a (x.bind F) (y.bind G) := by
  rcases h with h | ⟨s, h, h1, h2⟩
  · rw [h]
    cases y with
    | stop p q s => exact .inl rfl
    | ok v s => exact hF v s
  · rw [h]
    refine .inr ⟨s, rfl, h1, ?_⟩
    cases y with
    | stop p q s' => exact h2
    | ok v s' => exact (goesOn_keeps 0).trans h2 (hG v s')
/-- an expression, behind its parts -/
def exprT (p : LP) (m : Mach) (d : Nat) (vs : Vars) (e : LE) (args : List Int) (s : ESt) : Res Int :=
  if e.kind = 1 then .ok e.n s
  else if e.kind = 2 then .ok (vs e.name) s
  else if e.kind = 3 then .ok ((oneI e.op (hd args)).getD 0) s
  else if e.kind = 4 then match twoI e.op (hd args) (hd2 args) with
    | none => .stop 2 0 s
    | some n => .ok n s
  else if e.kind = 6 then
    if hd args < 0 ∨ ((arrAt p s e.name).length : Int) ≤ hd args then .stop 3 0 s else .ok ((arrAt p s e.name).getD (hd args).toNat 0) s
  else if e.kind = 7 then match s.inp with
    | [] => .ok (-1) s
    | x :: l => .ok x { s with inp := l }
  else if 50 ≤ d then .stop 4 0 s
  else callM p m.stmt d e.name args s
theorem exprM_eq (p : LP) (most : Int) (m : Mach) (d : Nat) (vs : Vars) (e : LE) (s : ESt) (h : ¬ most ≤ (s.steps : Int)) : exprM p most m d vs e s = (argsM (m.expr d vs) e.args (tick s)).bind (exprT p m d vs e) := by
  unfold exprM
  rw [if_neg h]
  show (match argsM (m.expr d vs) e.args (tick s) with | .stop a b s => _ | .ok args s => _ : Res Int) = _
  cases argsM (m.expr d vs) e.args (tick s) with
  | stop a b u => rfl
  | ok args u => unfold Res.bind exprT; rfl
/-- a statement, behind its expressions -/
def stmtT (p : LP) (m : Mach) (d : Nat) (c : CSt) (x : LS) (args : List Int) (s : ESt) : Res (Int × CSt) :=
  if x.kind = 1 then .ok (0, { c with vars := upd c.vars x.name (hd args) }) s
  else if x.kind = 2 then
    if hd args < 0 ∨ ((arrAt p s x.name).length : Int) ≤ hd args then .stop 3 0 s
    else .ok (0, c) { s with arrs := s.arrs.set (arrayI p x.name) ((arrAt p s x.name).set (hd args).toNat (hd2 args)) }
  else if x.kind = 3 then blockM (m.stmt d) (if hd args = 0 then x.els else x.thn) c s
  else if x.kind = 7 then .ok (3, { c with value := hd args }) s
  else if x.kind = 8 then .ok (0, c) { s with out := s.out ++ [hd args] }
  else if x.kind = 9 then .stop 5 (hd args) s
  else .ok (0, c) s
theorem stmtM_eq (p : LP) (most : Int) (m : Mach) (d : Nat) (c : CSt) (x : LS) (s : ESt) (h : ¬ most ≤ (s.steps : Int)) : stmtM p most m d c x s =
    if x.kind = 4 then m.loop d c x (tick s) else if x.kind = 5 then .ok (1, c) (tick s) else if x.kind = 6 then .ok (2, c) (tick s)
    else (argsM (m.expr d c.vars) x.args (tick s)).bind (stmtT p m d c x) := by
  unfold stmtM
  rw [if_neg h]
  show (if x.kind = 4 then _ else if x.kind = 5 then _ else if x.kind = 6 then _ else match argsM (m.expr d c.vars) x.args (tick s) with | .stop a b s => _ | .ok args s => _ : Res (Int × CSt)) = _
  cases argsM (m.expr d c.vars) x.args (tick s) with
  | stop a b u => rfl
  | ok args u => unfold Res.bind stmtT; rfl
theorem exprT_keeps {most : Int} {Q : ESt → ESt → Prop} (hQ : Keeps most Q) {p : LP} {m : Mach} (hm : Kept Q m) (d : Nat) (vs : Vars) (e : LE) (args : List Int) (s : ESt) : Q s (exprT p m d vs e args s).fin := by
  unfold exprT
  repeat' split
  all_goals first
    | exact hQ.refl s
    | exact callM_keeps hQ hm _ _ _ _
    | (apply hQ.read; assumption)
theorem stmtT_keeps {most : Int} {Q : ESt → ESt → Prop} (hQ : Keeps most Q) {p : LP} {m : Mach} (hm : Kept Q m) (d : Nat) (c : CSt) (x : LS) (args : List Int) (s : ESt) : Q s (stmtT p m d c x args s).fin := by
  unfold stmtT
  by_cases h3 : x.kind = 3
  · rw [if_neg (by omega), if_neg (by omega), if_pos h3]
    exact blockM_keeps hQ (hm.stmt d) _ _ _
  rw [if_neg h3]
  repeat' split
  all_goals first
    | exact hQ.refl s
    | exact hQ.store _ _ _
    | exact hQ.print _ _
theorem loopM_eq (m : Mach) (d : Nat) (c : CSt) (x : LS) (s : ESt) : loopM m d c x s =
    (m.expr d c.vars (x.args.getD 0 (.mk 0 0 0 [] [])) s).bind fun n s => if n = 0 then .ok (0, c) s else (blockM (m.stmt d) x.thn c s).bind fun q s => if q.1 = 1 then .ok (0, q.2) s else if q.1 = 3 then .ok (3, q.2) s else m.loop d q.2 x s := by
  unfold loopM
  cases m.expr d c.vars (x.args.getD 0 (.mk 0 0 0 [] [])) s with
  | stop a b u => rfl
  | ok n u =>
    show (if n = 0 then _ else _) = (if n = 0 then _ else _)
    by_cases h : n = 0
    · rw [if_pos h, if_pos h]
    rw [if_neg h, if_neg h]
    cases blockM (m.stmt d) x.thn c u with
    | stop a b v => rfl
    | ok r v => rfl
theorem mach_on (p : LP) {a b : Int} (hab : a ≤ b) : ∀ k, OnM a (mach p a k) (mach p b k)
  | 0 => ⟨fun _ _ _ _ => .inl rfl, fun _ _ _ _ => .inl rfl, fun _ _ _ _ => .inl rfl⟩
  | k + 1 => by
    have hk := goesOn_keeps b
    have hm := mach_on p hab k
    have hs := mach_keeps hk p k
    have hn := mach_keeps hk p (k + 1)
    obtain ⟨m, hm1⟩ : ∃ m, m = mach p a k := ⟨_, rfl⟩
    obtain ⟨m', hm2⟩ : ∃ m, m = mach p b k := ⟨_, rfl⟩
    have e1 : mach p a (k + 1) = ⟨exprM p a m, stmtM p a m, loopM m⟩ := by rw [hm1]; rfl
    have e2 : mach p b (k + 1) = ⟨exprM p b m', stmtM p b m', loopM m'⟩ := by rw [hm2]; rfl
    rw [← hm1, ← hm2] at hm
    rw [← hm2] at hs
    rw [e2] at hn
    rw [e1, e2]
    clear hm1 hm2 e1 e2
    refine ⟨fun d vs e s => ?_, fun d c x s => ?_, fun d c x s => ?_⟩
    · have hq := hn.expr d vs e s
      show OnR a (exprM p a m d vs e s) (exprM p b m' d vs e s)
      by_cases h1 : a ≤ (s.steps : Int)
      · exact .inr ⟨s, by unfold exprM; rw [if_pos h1], h1, hq⟩
      rw [exprM_eq _ _ _ _ _ _ _ h1, exprM_eq _ _ _ _ _ _ _ (by omega)]
      refine bind_on (argsM_on (b := b) (hm.expr d vs) (hs.expr d vs) _ _) (fun v s => ?_) (fun v s => exprT_keeps hk hs _ _ _ _ _)
      unfold exprT
      by_cases h5 : e.kind = 1 ∨ e.kind = 2 ∨ e.kind = 3 ∨ e.kind = 4 ∨ e.kind = 6 ∨ e.kind = 7 ∨ 50 ≤ d
      · refine .inl ?_
        rcases h5 with h5 | h5 | h5 | h5 | h5 | h5 | h5
        · rw [if_pos h5, if_pos h5]
        all_goals simp [h5]
      · have n1 : ¬ e.kind = 1 := by omega
        have n2 : ¬ e.kind = 2 := by omega
        have n3 : ¬ e.kind = 3 := by omega
        have n4 : ¬ e.kind = 4 := by omega
        have n6 : ¬ e.kind = 6 := by omega
        have n7 : ¬ e.kind = 7 := by omega
        have nd : ¬ 50 ≤ d := by omega
        rw [if_neg n1, if_neg n2, if_neg n3, if_neg n4, if_neg n6, if_neg n7, if_neg nd, if_neg n1, if_neg n2, if_neg n3, if_neg n4, if_neg n6, if_neg n7, if_neg nd]
        exact callM_on (b := b) hm hs _ _ _ _
    · have hq := hn.stmt d c x s
      show OnR a (stmtM p a m d c x s) (stmtM p b m' d c x s)
      by_cases h1 : a ≤ (s.steps : Int)
      · exact .inr ⟨s, by unfold stmtM; rw [if_pos h1], h1, hq⟩
      rw [stmtM_eq _ _ _ _ _ _ _ h1, stmtM_eq _ _ _ _ _ _ _ (by omega)]
      by_cases h4 : x.kind = 4
      · rw [if_pos h4, if_pos h4]; exact hm.loop d c x _
      rw [if_neg h4, if_neg h4]
      by_cases h5 : x.kind = 5
      · rw [if_pos h5, if_pos h5]; exact .inl rfl
      rw [if_neg h5, if_neg h5]
      by_cases h6 : x.kind = 6
      · rw [if_pos h6, if_pos h6]; exact .inl rfl
      rw [if_neg h6, if_neg h6]
      refine bind_on (argsM_on (b := b) (hm.expr d _) (hs.expr d _) _ _) (fun v s => ?_) (fun v s => stmtT_keeps hk hs _ _ _ _ _)
      unfold stmtT
      by_cases h3 : x.kind = 3
      · have n1 : ¬ x.kind = 1 := by omega
        have n2 : ¬ x.kind = 2 := by omega
        rw [if_neg n1, if_neg n2, if_pos h3, if_neg n1, if_neg n2, if_pos h3]
        exact blockM_on (b := b) (hm.stmt d) (hs.stmt d) _ _ _
      · rw [if_neg h3, if_neg h3]; exact .inl rfl
    · show OnR a (loopM m d c x s) (loopM m' d c x s)
      rw [loopM_eq, loopM_eq]
      have hb : ∀ (q : Int × CSt) (s : ESt), GoesOn s (if q.1 = 1 then .ok (0, q.2) s else if q.1 = 3 then .ok (3, q.2) s else m'.loop d q.2 x s : Res (Int × CSt)).fin := fun q s => by
        split
        · exact hk.refl s
        split
        · exact hk.refl s
        exact hs.loop d q.2 x s
      refine bind_on (hm.expr d c.vars _ s) (fun n s => ?_) (fun n s => ?_)
      · by_cases h0 : n = 0
        · rw [if_pos h0, if_pos h0]; exact .inl rfl
        rw [if_neg h0, if_neg h0]
        refine bind_on (blockM_on (b := b) (hm.stmt d) (hs.stmt d) _ _ _) (fun q s => ?_) hb
        by_cases h1 : q.1 = 1
        · rw [if_pos h1, if_pos h1]; exact .inl rfl
        rw [if_neg h1, if_neg h1]
        by_cases h2 : q.1 = 3
        · rw [if_pos h2, if_pos h2]; exact .inl rfl
        rw [if_neg h2, if_neg h2]
        exact hm.loop d q.2 x s
      · split
        · exact hk.refl s
        have h2 := blockM_keeps hk (hs.stmt d) x.thn c s
        cases hl : blockM (m'.stmt d) x.thn c s with
        | stop a b v => rw [hl] at h2; exact h2
        | ok r v => rw [hl] at h2; exact hk.trans h2 (hb r v)
end Go.Proofs.YtjgbkdbkachciaaGreatDoor
