import Derived.Test.YtjgbkdbkachciaaGreatDoorX2
/-
  Plain laws of the mirror of eval: what ends a run without an answer; what it has not read makes no difference.
-/
namespace Go.Proofs.YtjgbkdbkachciaaGreatDoor
open Go.RowKit Go.Shelf

/-! ### a run that ends as if it went on has used up its steps -/
def Fine {α : Type} (most : Int) (r : Res α) : Prop := ∀ a cd s, r = .stop a cd s → a ≠ 1 ∧ (a = 0 → cd = 0 ∧ most ≤ (s.steps : Int))
theorem Fine.ok {α : Type} {most : Int} {v : α} {s : ESt} : Fine most (.ok v s) := fun _ _ _ h => by cases h
theorem Fine.stop {α : Type} {most a cd : Int} {s : ESt} (h0 : a ≠ 0) (h1 : a ≠ 1) : Fine (α := α) most (.stop a cd s) := fun _ _ _ h => by
  injection h with e1 e2 e3
  subst e1
  exact ⟨h1, fun h => absurd h h0⟩
theorem Fine.spent {α : Type} {most : Int} {s : ESt} (h : most ≤ (s.steps : Int)) : Fine (α := α) most (.stop 0 0 s) := fun _ _ _ h' => by
  injection h' with e1 e2 e3
  subst e1 e2 e3
  exact ⟨by omega, fun _ => ⟨rfl, h⟩⟩
theorem bind_fine {α β : Type} {most : Int} {x : Res α} {F : α → ESt → Res β} (h : Fine most x) (hF : ∀ v s, x = .ok v s → Fine most (F v s)) : Fine most (x.bind F) := by
  cases x with
  | stop a b s =>
    intro a' cd s' he
    have he' : Res.stop a b s = .stop a' cd s' := he
    injection he' with e1 e2 e3
    subst e1 e2 e3
    exact h _ _ _ rfl
  | ok v s => exact hF v s rfl
theorem argsM_fine {most : Int} {R : Nat} {f : LE → ESt → Res Int} (hu : ∀ {e s n s'}, f e s = .ok n s' → UpR 1 s s') (h : ∀ e s, left most s ≤ R → Fine most (f e s)) : ∀ (l : List LE) (s : ESt), left most s ≤ R → Fine most (argsM f l s)
  | [], s, _ => Fine.ok
  | e :: l, s, hs => by
    have h1 := h e s hs
    rw [argsM]
    cases he : f e s with
    | stop a b t =>
      rw [he] at h1
      intro a' cd s' heq
      injection heq with e1 e2 e3
      subst e1 e2 e3
      exact h1 _ _ _ rfl
    | ok n t =>
      have h2 := argsM_fine hu h l t (Nat.le_trans (left_up (hu he)) hs)
      simp only
      cases hl : argsM f l t with
      | stop a b u =>
        rw [hl] at h2
        intro a' cd s' heq
        injection heq with e1 e2 e3
        subst e1 e2 e3
        exact h2 _ _ _ rfl
      | ok ns u => exact Fine.ok
theorem blockM_fine {most : Int} {R : Nat} {f : CSt → LS → ESt → Res (Int × CSt)} (hu : ∀ {c x s q s'}, f c x s = .ok q s' → UpR 1 s s') (h : ∀ c x s, left most s ≤ R → Fine most (f c x s)) : ∀ (l : List LS) (c : CSt) (s : ESt), left most s ≤ R → Fine most (blockM f l c s)
  | [], _, _, _ => Fine.ok
  | x :: l, c, s, hs => by
    have h1 := h c x s hs
    rw [blockM]
    cases he : f c x s with
    | stop a b t =>
      rw [he] at h1
      intro a' cd s' heq
      injection heq with e1 e2 e3
      subst e1 e2 e3
      exact h1 _ _ _ rfl
    | ok r t =>
      simp only
      split
      · exact blockM_fine hu h l r.2 t (Nat.le_trans (left_up (hu he)) hs)
      · exact Fine.ok
structure FineM (most : Int) (R : Nat) (m : Mach) : Prop where
  expr : ∀ d vs e s, 2 * left most s + 1 ≤ R → Fine most (m.expr d vs e s)
  stmt : ∀ d c x s, 2 * left most s + 1 ≤ R → Fine most (m.stmt d c x s)
  loop : ∀ d c x s, 2 * left most s + 2 ≤ R → Fine most (m.loop d c x s)
theorem callM_fine {most : Int} {R : Nat} {p : LP} {m : Mach} (hm : m.Up) (h : FineM most R m) (d : Nat) (x : Str) (args : List Int) (s : ESt) (hs : 2 * left most s + 1 ≤ R) : Fine most (callM p m.stmt d x args s) := by
  unfold callM
  have h1 := blockM_fine (most := most) (R := left most s) (fun h => hm.stmt h) (fun c x s' hs' => h.stmt (d + 1) c x s' (by omega)) (funcAt p x).body ⟨vars0 (funcAt p x) args, 0⟩ s (Nat.le_refl _)
  cases hl : blockM (m.stmt (d + 1)) (funcAt p x).body ⟨vars0 (funcAt p x) args, 0⟩ s with
  | stop a b u =>
    rw [hl] at h1
    intro a' cd s' heq
    injection heq with e1 e2 e3
    subst e1 e2 e3
    exact h1 _ _ _ rfl
  | ok q u => exact Fine.ok
theorem mach_fine (p : LP) (most : Int) : ∀ k, FineM most k (mach p most k)
  | 0 => ⟨fun _ _ _ _ h => by omega, fun _ _ _ _ h => by omega, fun _ _ _ _ h => by omega⟩
  | k + 1 => by
    have h := mach_fine p most k
    have hm := mach_up p most k
    have hv : ∀ {d vs e s n s'}, (mach p most k).expr d vs e s = .ok n s' → ¬ most ≤ (s.steps : Int) := mach_live
    obtain ⟨m, hm1⟩ : ∃ m, m = mach p most k := ⟨_, rfl⟩
    have e1 : mach p most (k + 1) = ⟨exprM p most m, stmtM p most m, loopM m⟩ := by rw [hm1]; rfl
    rw [← hm1] at h hm hv
    rw [e1]
    clear hm1 e1
    refine ⟨fun d vs e s hs => ?_, fun d c x s hs => ?_, fun d c x s hs => ?_⟩
    · show Fine most (exprM p most m d vs e s)
      by_cases h1 : most ≤ (s.steps : Int)
      · unfold exprM; rw [if_pos h1]; exact Fine.spent h1
      have h2 := left_tick h1
      rw [exprM_eq _ _ _ _ _ _ _ h1]
      refine bind_fine (argsM_fine (R := left most (tick s)) (fun h => hm.expr h) (fun e s' hs' => h.expr d vs e s' (by omega)) _ _ (Nat.le_refl _)) (fun v u hu => ?_)
      have h3 := left_up (most := most) (argsM_up (fun h => hm.expr h) _ _ _ _ hu).1
      unfold exprT
      repeat' split
      all_goals first
        | exact Fine.ok
        | exact Fine.stop (by omega) (by omega)
        | exact callM_fine hm h _ _ _ _ (by omega)
    · show Fine most (stmtM p most m d c x s)
      by_cases h1 : most ≤ (s.steps : Int)
      · unfold stmtM; rw [if_pos h1]; exact Fine.spent h1
      have h2 := left_tick h1
      rw [stmtM_eq _ _ _ _ _ _ _ h1]
      by_cases h4 : x.kind = 4
      · rw [if_pos h4]; exact h.loop d c x _ (by omega)
      rw [if_neg h4]
      by_cases h5 : x.kind = 5
      · rw [if_pos h5]; exact Fine.ok
      rw [if_neg h5]
      by_cases h6 : x.kind = 6
      · rw [if_pos h6]; exact Fine.ok
      rw [if_neg h6]
      refine bind_fine (argsM_fine (R := left most (tick s)) (fun h => hm.expr h) (fun e s' hs' => h.expr d c.vars e s' (by omega)) _ _ (Nat.le_refl _)) (fun v u hu => ?_)
      have h3 := left_up (most := most) (argsM_up (fun h => hm.expr h) _ _ _ _ hu).1
      unfold stmtT
      by_cases h7 : x.kind = 3
      · have n1 : ¬ x.kind = 1 := by omega
        have n2 : ¬ x.kind = 2 := by omega
        rw [if_neg n1, if_neg n2, if_pos h7]
        exact blockM_fine (R := left most u) (fun h => hm.stmt h) (fun c x s' hs' => h.stmt d c x s' (by omega)) _ _ _ (Nat.le_refl _)
      rw [if_neg h7]
      repeat' split
      all_goals first
        | exact Fine.ok
        | exact Fine.stop (by omega) (by omega)
    · show Fine most (loopM m d c x s)
      rw [loopM_eq]
      refine bind_fine (h.expr d c.vars _ s (by omega)) (fun n u hu => ?_)
      have h1 := left_up1 (most := most) (hm.expr hu)
      have h0 : left most s ≠ 0 := by have := hv hu; unfold left; omega
      by_cases hn : n = 0
      · rw [if_pos hn]; exact Fine.ok
      rw [if_neg hn]
      refine bind_fine (blockM_fine (R := left most u) (fun h => hm.stmt h) (fun c x s' hs' => h.stmt d c x s' (by omega)) _ _ _ (Nat.le_refl _)) (fun q v hv' => ?_)
      have h3 := left_up (most := most) (blockM_up (fun h => hm.stmt h) _ _ _ _ _ hv')
      split
      · exact Fine.ok
      split
      · exact Fine.ok
      exact h.loop d q.2 x v (by omega)

/-! ### what is read -/
def Rd (c : Nat) (more : List Int) (s t : ESt) : Prop := ∃ j : Nat, t = { s with inp := s.inp ++ (List.replicate j (-1) ++ more) } ∧ c ≤ j + s.steps
def RdR {α : Type} (c : Nat) (more : List Int) : Res α → Res α → Prop
  | .ok v s, .ok w t => v = w ∧ Rd c more s t
  | .stop a b s, .stop a' b' t => a = a' ∧ b = b' ∧ Rd c more s t
  | _, _ => False
theorem Rd.less {c c' : Nat} {more : List Int} {s t : ESt} (h : Rd c' more s t) (hc : c ≤ c') : Rd c more s t := by
  obtain ⟨j, h1, h2⟩ := h
  exact ⟨j, h1, Nat.le_trans hc h2⟩
theorem RdR.less {α : Type} {c c' : Nat} {more : List Int} {x y : Res α} (h : RdR c' more x y) (hc : c ≤ c') : RdR c more x y := by
  cases x <;> cases y
  · exact ⟨h.1, h.2.less hc⟩
  · exact h
  · exact h
  · exact ⟨h.1, h.2.1, h.2.2.less hc⟩
theorem Rd.tick {c : Nat} {more : List Int} {s t : ESt} (h : Rd c more s t) : Rd (c + 1) more (tick s) (tick t) := by
  obtain ⟨j, rfl, h2⟩ := h
  exact ⟨j, rfl, by show c + 1 ≤ j + (s.steps + 1); omega⟩
theorem Rd.steps {c : Nat} {more : List Int} {s t : ESt} (h : Rd c more s t) : t.steps = s.steps ∧ t.arrs = s.arrs ∧ t.out = s.out := by
  obtain ⟨j, rfl, h2⟩ := h
  exact ⟨rfl, rfl, rfl⟩
theorem bind_rd {α β : Type} {c c' : Nat} {more : List Int} {x y : Res α} {F G : α → ESt → Res β} (h : RdR c' more x y) (hc : c ≤ c') (hF : ∀ v s t, x = .ok v s → Rd c' more s t → RdR c more (F v s) (G v t)) : RdR c more (x.bind F) (y.bind G) := by
  cases x <;> cases y
  · obtain ⟨rfl, h⟩ := h; exact hF _ _ _ rfl h
  · exact h.elim
  · exact h.elim
  · exact ⟨h.1, h.2.1, h.2.2.less hc⟩
theorem argsM_rd {c : Nat} {more : List Int} {f g : LE → ESt → Res Int} (h : ∀ e s t, Rd c more s t → RdR c more (f e s) (g e t)) : ∀ (l : List LE) (s t : ESt), Rd c more s t → RdR c more (argsM f l s) (argsM g l t)
  | [], s, t, hr => ⟨rfl, hr⟩
  | e :: l, s, t, hr => by
    have h1 := h e s t hr
    rw [argsM, argsM]
    cases he : f e s <;> cases hg : g e t <;> rw [he, hg] at h1
    · obtain ⟨rfl, h1⟩ := h1
      have h2 := argsM_rd h l _ _ h1
      simp only
      rename_i v u v'
      cases hl : argsM f l u <;> cases hk : argsM g l v' <;> rw [hl, hk] at h2
      · exact ⟨by rw [h2.1], h2.2⟩
      · exact h2.elim
      · exact h2.elim
      · exact h2
    · exact h1.elim
    · exact h1.elim
    · exact h1
theorem blockM_rd {c0 : Nat} {more : List Int} {f g : CSt → LS → ESt → Res (Int × CSt)} (h : ∀ c x s t, Rd c0 more s t → RdR c0 more (f c x s) (g c x t)) : ∀ (l : List LS) (c : CSt) (s t : ESt), Rd c0 more s t → RdR c0 more (blockM f l c s) (blockM g l c t)
  | [], c, s, t, hr => ⟨rfl, hr⟩
  | x :: l, c, s, t, hr => by
    have h1 := h c x s t hr
    rw [blockM, blockM]
    cases he : f c x s <;> cases hg : g c x t <;> rw [he, hg] at h1
    · obtain ⟨rfl, h1⟩ := h1
      simp only
      split
      · exact blockM_rd h l _ _ _ h1
      · exact ⟨rfl, h1⟩
    · exact h1.elim
    · exact h1.elim
    · exact h1
structure RdM (most : Int) (more : List Int) (m : Mach) : Prop where
  expr : ∀ c : Nat, most + 1 ≤ c → ∀ d vs e s t, Rd c more s t → RdR c more (m.expr d vs e s) (m.expr d vs e t)
  stmt : ∀ c : Nat, most + 1 ≤ c → ∀ d k x s t, Rd c more s t → RdR c more (m.stmt d k x s) (m.stmt d k x t)
  loop : ∀ c : Nat, most + 1 ≤ c → ∀ d k x s t, Rd c more s t → RdR c more (m.loop d k x s) (m.loop d k x t)
theorem callM_rd {most : Int} {more : List Int} {p : LP} {m : Mach} (h : RdM most more m) {c : Nat} (hc : most + 1 ≤ (c : Int)) (d : Nat) (x : Str) (args : List Int) {s t : ESt} (hr : Rd c more s t) : RdR c more (callM p m.stmt d x args s) (callM p m.stmt d x args t) := by
  unfold callM
  have h1 := blockM_rd (h.stmt c hc (d + 1)) (funcAt p x).body ⟨vars0 (funcAt p x) args, 0⟩ s t hr
  cases hl : blockM (m.stmt (d + 1)) (funcAt p x).body ⟨vars0 (funcAt p x) args, 0⟩ s <;> cases hg : blockM (m.stmt (d + 1)) (funcAt p x).body ⟨vars0 (funcAt p x) args, 0⟩ t <;> rw [hl, hg] at h1
  · exact ⟨by rw [h1.1], h1.2⟩
  · exact h1.elim
  · exact h1.elim
  · exact h1
theorem mach_rd (p : LP) (most : Int) (more : List Int) : ∀ k, RdM most more (mach p most k)
  | 0 => ⟨fun _ _ _ _ _ _ _ h => ⟨rfl, rfl, h⟩, fun _ _ _ _ _ _ _ h => ⟨rfl, rfl, h⟩, fun _ _ _ _ _ _ _ h => ⟨rfl, rfl, h⟩⟩
  | k + 1 => by
    have h := mach_rd p most more k
    have hk := mach_keeps (within_keeps most) p k
    obtain ⟨m, hm1⟩ : ∃ m, m = mach p most k := ⟨_, rfl⟩
    have e1 : mach p most (k + 1) = ⟨exprM p most m, stmtM p most m, loopM m⟩ := by rw [hm1]; rfl
    rw [← hm1] at h hk
    rw [e1]
    clear hm1 e1
    refine ⟨fun c hc d vs e s t hr => ?_, fun c hc d q x s t hr => ?_, fun c hc d q x s t hr => ?_⟩
    · show RdR c more (exprM p most m d vs e s) (exprM p most m d vs e t)
      by_cases h1 : most ≤ (s.steps : Int)
      · have h2 : most ≤ (t.steps : Int) := by rw [hr.steps.1]; exact h1
        unfold exprM; rw [if_pos h1, if_pos h2]; exact ⟨rfl, rfl, hr⟩
      have h2 : ¬ most ≤ (t.steps : Int) := by rw [hr.steps.1]; exact h1
      rw [exprM_eq _ _ _ _ _ _ _ h1, exprM_eq _ _ _ _ _ _ _ h2]
      refine bind_rd (argsM_rd (h.expr (c + 1) (by omega) d vs) _ _ _ hr.tick) (Nat.le_succ _) (fun v u w hu hw => ?_)
      have h3 : (u.steps : Int) ≤ most := by
        have := argsM_keeps (within_keeps most) (hk.expr d vs) e.args (tick s)
        rw [hu] at this
        exact this (by show ((s.steps + 1 : Nat) : Int) ≤ most; omega)
      obtain ⟨j, rfl, hj⟩ := hw
      have hw : Rd c more u { u with inp := u.inp ++ (List.replicate j (-1) ++ more) } := ⟨j, rfl, by omega⟩
      unfold exprT
      by_cases h7 : e.kind = 7
      · have n1 : ¬ e.kind = 1 := by omega
        have n2 : ¬ e.kind = 2 := by omega
        have n3 : ¬ e.kind = 3 := by omega
        have n4 : ¬ e.kind = 4 := by omega
        have n6 : ¬ e.kind = 6 := by omega
        rw [if_neg n1, if_neg n2, if_neg n3, if_neg n4, if_neg n6, if_pos h7, if_neg n1, if_neg n2, if_neg n3, if_neg n4, if_neg n6, if_pos h7]
        cases hi : u.inp with
        | nil =>
          cases j with
          | zero => omega
          | succ j => exact ⟨rfl, j, by rw [hi]; rfl, by omega⟩
        | cons x l => exact ⟨rfl, j, rfl, by show c ≤ j + u.steps; omega⟩
      by_cases h5 : e.kind = 1 ∨ e.kind = 2 ∨ e.kind = 3 ∨ e.kind = 4 ∨ e.kind = 6 ∨ 50 ≤ d
      · rcases h5 with h5 | h5 | h5 | h5 | h5 | h5
        · rw [if_pos h5, if_pos h5]; exact ⟨rfl, hw⟩
        · simp only [h5]; exact ⟨rfl, hw⟩
        · simp only [h5]; exact ⟨rfl, hw⟩
        · simp only [h5]
          show RdR c more (match twoI e.op (hd v) (hd2 v) with | none => _ | some n => _) (match twoI e.op (hd v) (hd2 v) with | none => _ | some n => _)
          cases twoI e.op (hd v) (hd2 v) with
          | none => exact ⟨rfl, rfl, hw⟩
          | some n => exact ⟨rfl, hw⟩
        · simp only [h5]
          show RdR c more (if hd v < 0 ∨ ((arrAt p u e.name).length : Int) ≤ hd v then _ else _) (if hd v < 0 ∨ ((arrAt p u e.name).length : Int) ≤ hd v then _ else _)
          split
          · exact ⟨rfl, rfl, hw⟩
          · exact ⟨rfl, hw⟩
        · by_cases n1 : e.kind = 1
          · rw [if_pos n1, if_pos n1]; exact ⟨rfl, hw⟩
          by_cases n2 : e.kind = 2
          · simp only [n2]; exact ⟨rfl, hw⟩
          by_cases n3 : e.kind = 3
          · simp only [n3]; exact ⟨rfl, hw⟩
          by_cases n4 : e.kind = 4
          · simp only [n4]
            show RdR c more (match twoI e.op (hd v) (hd2 v) with | none => _ | some n => _) (match twoI e.op (hd v) (hd2 v) with | none => _ | some n => _)
            cases twoI e.op (hd v) (hd2 v) with
            | none => exact ⟨rfl, rfl, hw⟩
            | some n => exact ⟨rfl, hw⟩
          by_cases n6 : e.kind = 6
          · simp only [n6]
            show RdR c more (if hd v < 0 ∨ ((arrAt p u e.name).length : Int) ≤ hd v then _ else _) (if hd v < 0 ∨ ((arrAt p u e.name).length : Int) ≤ hd v then _ else _)
            split
            · exact ⟨rfl, rfl, hw⟩
            · exact ⟨rfl, hw⟩
          rw [if_neg n1, if_neg n2, if_neg n3, if_neg n4, if_neg n6, if_neg h7, if_pos h5, if_neg n1, if_neg n2, if_neg n3, if_neg n4, if_neg n6, if_neg h7, if_pos h5]
          exact ⟨rfl, rfl, hw⟩
      · have n1 : ¬ e.kind = 1 := by omega
        have n2 : ¬ e.kind = 2 := by omega
        have n3 : ¬ e.kind = 3 := by omega
        have n4 : ¬ e.kind = 4 := by omega
        have n6 : ¬ e.kind = 6 := by omega
        have nd : ¬ 50 ≤ d := by omega
        rw [if_neg n1, if_neg n2, if_neg n3, if_neg n4, if_neg n6, if_neg h7, if_neg nd, if_neg n1, if_neg n2, if_neg n3, if_neg n4, if_neg n6, if_neg h7, if_neg nd]
        exact callM_rd h hc _ _ _ hw
    · show RdR c more (stmtM p most m d q x s) (stmtM p most m d q x t)
      by_cases h1 : most ≤ (s.steps : Int)
      · have h2 : most ≤ (t.steps : Int) := by rw [hr.steps.1]; exact h1
        unfold stmtM; rw [if_pos h1, if_pos h2]; exact ⟨rfl, rfl, hr⟩
      have h2 : ¬ most ≤ (t.steps : Int) := by rw [hr.steps.1]; exact h1
      have ht := hr.tick.less (Nat.le_succ c)
      rw [stmtM_eq _ _ _ _ _ _ _ h1, stmtM_eq _ _ _ _ _ _ _ h2]
      by_cases h4 : x.kind = 4
      · rw [if_pos h4, if_pos h4]; exact h.loop c hc d q x _ _ ht
      rw [if_neg h4, if_neg h4]
      by_cases h5 : x.kind = 5
      · rw [if_pos h5, if_pos h5]; exact ⟨rfl, ht⟩
      rw [if_neg h5, if_neg h5]
      by_cases h6 : x.kind = 6
      · rw [if_pos h6, if_pos h6]; exact ⟨rfl, ht⟩
      rw [if_neg h6, if_neg h6]
      refine bind_rd (argsM_rd (h.expr c hc d q.vars) _ _ _ ht) (Nat.le_refl _) (fun v u w hu hw => ?_)
      obtain ⟨j, rfl, hj⟩ := hw
      have hw : Rd c more u { u with inp := u.inp ++ (List.replicate j (-1) ++ more) } := ⟨j, rfl, hj⟩
      unfold stmtT
      by_cases n1 : x.kind = 1
      · rw [if_pos n1, if_pos n1]; exact ⟨rfl, hw⟩
      rw [if_neg n1, if_neg n1]
      by_cases n2 : x.kind = 2
      · rw [if_pos n2, if_pos n2]
        show RdR c more (if hd v < 0 ∨ ((arrAt p u x.name).length : Int) ≤ hd v then _ else _) (if hd v < 0 ∨ ((arrAt p u x.name).length : Int) ≤ hd v then _ else _)
        split
        · exact ⟨rfl, rfl, hw⟩
        · exact ⟨rfl, j, rfl, hj⟩
      rw [if_neg n2, if_neg n2]
      by_cases n3 : x.kind = 3
      · rw [if_pos n3, if_pos n3]; exact blockM_rd (h.stmt c hc d) _ _ _ _ hw
      rw [if_neg n3, if_neg n3]
      by_cases n7 : x.kind = 7
      · rw [if_pos n7, if_pos n7]; exact ⟨rfl, hw⟩
      rw [if_neg n7, if_neg n7]
      by_cases n8 : x.kind = 8
      · rw [if_pos n8, if_pos n8]; exact ⟨rfl, j, rfl, hj⟩
      rw [if_neg n8, if_neg n8]
      by_cases n9 : x.kind = 9
      · rw [if_pos n9, if_pos n9]; exact ⟨rfl, rfl, hw⟩
      rw [if_neg n9, if_neg n9]
      exact ⟨rfl, hw⟩
    · show RdR c more (loopM m d q x s) (loopM m d q x t)
      rw [loopM_eq, loopM_eq]
      refine bind_rd (h.expr c hc d q.vars _ _ _ hr) (Nat.le_refl _) (fun n u w hu hw => ?_)
      by_cases hn : n = 0
      · rw [if_pos hn, if_pos hn]; exact ⟨rfl, hw⟩
      rw [if_neg hn, if_neg hn]
      refine bind_rd (blockM_rd (h.stmt c hc d) _ _ _ _ hw) (Nat.le_refl _) (fun r u' w' hu' hw' => ?_)
      by_cases h1 : r.1 = 1
      · rw [if_pos h1, if_pos h1]; exact ⟨rfl, hw'⟩
      rw [if_neg h1, if_neg h1]
      by_cases h2 : r.1 = 3
      · rw [if_pos h2, if_pos h2]; exact ⟨rfl, hw'⟩
      rw [if_neg h2, if_neg h2]
      exact h.loop c hc d r.2 x _ _ hw'
end Go.Proofs.YtjgbkdbkachciaaGreatDoor

/-
  Plain laws of the mirror of eval: a program that prints numbers.
-/
namespace Go.Proofs.YtjgbkdbkachciaaGreatDoor
open Go.RowKit Go.Shelf

abbrev numE (n : Int) : LE := .mk 1 0 n [] []
abbrev prS (n : Int) : LS := .mk 8 [] [numE n] [] []
abbrev rtS (n : Int) : LS := .mk 7 [] [numE n] [] []
def pP (l : List Int) (c : Int) : LP := ⟨[], [⟨wMain, [], [], l.map prS ++ [rtS c]⟩]⟩
theorem num_expr {p : LP} {most : Int} {k d : Nat} {vs : Vars} {n : Int} {s : ESt} (h : ¬ most ≤ (s.steps : Int)) : (mach p most (k + 1)).expr d vs (numE n) s = .ok n (tick s) := by
  show exprM p most (mach p most k) d vs (numE n) s = _
  rw [exprM_eq _ _ _ _ _ _ _ h]
  rfl
theorem pr_stmt {p : LP} {most : Int} {k d : Nat} {c : CSt} {n : Int} {s : ESt} (h : (s.steps : Int) + 2 ≤ most) : (mach p most (k + 2)).stmt d c (prS n) s = .ok (0, c) { s with out := s.out ++ [n], steps := s.steps + 2 } := by
  show stmtM p most (mach p most (k + 1)) d c (prS n) s = _
  rw [stmtM_eq _ _ _ _ _ _ _ (by omega)]
  show (argsM ((mach p most (k + 1)).expr d c.vars) [numE n] (tick s)).bind (stmtT p (mach p most (k + 1)) d c (prS n)) = _
  rw [argsM, num_expr (by show ¬ most ≤ ((s.steps + 1 : Nat) : Int); omega)]
  rfl
theorem rt_stmt {p : LP} {most : Int} {k d : Nat} {c : CSt} {n : Int} {s : ESt} (h : (s.steps : Int) + 2 ≤ most) : (mach p most (k + 2)).stmt d c (rtS n) s = .ok (3, { c with value := n }) { s with steps := s.steps + 2 } := by
  show stmtM p most (mach p most (k + 1)) d c (rtS n) s = _
  rw [stmtM_eq _ _ _ _ _ _ _ (by omega)]
  show (argsM ((mach p most (k + 1)).expr d c.vars) [numE n] (tick s)).bind (stmtT p (mach p most (k + 1)) d c (rtS n)) = _
  rw [argsM, num_expr (by show ¬ most ≤ ((s.steps + 1 : Nat) : Int); omega)]
  rfl
theorem prs_block {p : LP} {most : Int} {k d : Nat} {c : Int} : ∀ (l : List Int) (cs : CSt) (s : ESt), (s.steps : Int) + 2 * l.length + 2 ≤ most →
    blockM ((mach p most (k + 2)).stmt d) (l.map prS ++ [rtS c]) cs s = .ok (3, { cs with value := c }) { s with out := s.out ++ l, steps := s.steps + (2 * l.length + 2) }
  | [], cs, s, h => by
    show blockM _ [rtS c] cs s = _
    rw [blockM, rt_stmt (by simpa using h)]
    simp
  | n :: l, cs, s, h => by
    simp only [List.length_cons] at h
    show blockM _ (prS n :: (l.map prS ++ [rtS c])) cs s = _
    rw [blockM, pr_stmt (by omega)]
    simp only [if_true]
    rw [prs_block l cs _ (by show ((s.steps + 2 : Nat) : Int) + 2 * l.length + 2 ≤ most; omega)]
    simp only [List.length_cons, List.append_assoc, List.singleton_append]
    congr 2
    omega
theorem prints_run (l : List Int) (c : Int) (most : Int) (k : Nat) (h : 2 * (l.length : Int) + 2 ≤ most) : runM (pP l c) (k + 2) [] most = ⟨1, c, l, 2 * l.length + 2⟩ := by
  have hf : funcAt (pP l c) [109, 97, 105, 110] = ⟨wMain, [], [], l.map prS ++ [rtS c]⟩ := by
    have h0 : placeF (pP l c) [109, 97, 105, 110] = 0 := by simp [placeF, placeI, pP, List.findIdx_cons]
    unfold funcAt fnAt
    rw [h0]
    rfl
  unfold runM callM
  rw [hf]
  simp only
  rw [prs_block l _ _ (by simp; omega)]
  simp
end Go.Proofs.YtjgbkdbkachciaaGreatDoor

/-
  Plain laws of whole runs: more steps, more to read.
-/
namespace Go.Proofs.YtjgbkdbkachciaaGreatDoor
open Go.RowKit Go.Shelf

abbrev st0 (p : LP) (inp : List Int) : ESt := ⟨inp, p.arrays.map fun a => List.replicate a.size.toNat 0, [], 0⟩
def tellR : Res Int → LR
  | .stop a b s => ⟨a, b, s.out, s.steps⟩
  | .ok n s => ⟨1, n, s.out, s.steps⟩
theorem runM_eq (p : LP) (fuel : Nat) (inp : List Int) (most : Int) : runM p fuel inp most = tellR (callM p (mach p most fuel).stmt 0 wMain [] (st0 p inp)) := by
  unfold runM
  show (match callM p (mach p most fuel).stmt 0 wMain [] (st0 p inp) with | .stop a b s => _ | .ok n s => _ : LR) = _
  cases callM p (mach p most fuel).stmt 0 wMain [] (st0 p inp) <;> rfl
theorem run_fuel (p : LP) (inp : List Int) (most k j : Nat) (h : 2 * most + 1 ≤ k) : runM p (k + j) inp most = runM p k inp most := by
  rw [runM_eq, runM_eq, callM_congr (mach_fuel p most k j) (mach_up p most k) (by unfold left; simp only; omega)]
theorem run_fuel' (p : LP) (inp : List Int) (most k j : Nat) (h : 2 * most + 1 ≤ k) (h' : 2 * most + 1 ≤ j) : runM p k inp most = runM p j inp most := by
  rcases Nat.le_total k j with hk | hk
  · obtain ⟨i, rfl⟩ := Nat.exists_eq_add_of_le hk
    exact (run_fuel p inp most k i h).symm
  · obtain ⟨i, rfl⟩ := Nat.exists_eq_add_of_le hk
    exact run_fuel p inp most j i h'
structure MoreR (n : Nat) (a b : LR) : Prop where
  within : a.steps ≤ n
  steps : a.steps ≤ b.steps
  out : a.out <+: b.out
  same : a.status ≠ 0 → a = b
  going : a.status = 0 → a.steps = n ∧ a.code = 0
theorem run_more (p : LP) (inp : List Int) (n m k : Nat) (hk : 2 * m + 1 ≤ k) (hn : n ≤ m) : MoreR n (runM p k inp n) (runM p k inp m) := by
  rw [runM_eq, runM_eq]
  have h1 := callM_on (b := (m : Int)) (p := p) (mach_on p (show (n : Int) ≤ m by omega) k) (mach_keeps (goesOn_keeps m) p k) 0 wMain [] (st0 p inp)
  have h2 := callM_keeps (within_keeps n) (p := p) (mach_keeps (within_keeps n) p k) 0 wMain [] (st0 p inp)
  have h3 := callM_fine (most := n) (p := p) (mach_up p n k) (mach_fine p n k) 0 wMain [] (st0 p inp) (by unfold left; simp only; omega)
  obtain ⟨x, hx⟩ : ∃ x, x = callM p (mach p n k).stmt 0 wMain [] (st0 p inp) := ⟨_, rfl⟩
  obtain ⟨y, hy⟩ : ∃ x, x = callM p (mach p m k).stmt 0 wMain [] (st0 p inp) := ⟨_, rfl⟩
  rw [← hx] at h1 h2 h3 ⊢
  rw [← hy] at h1 ⊢
  clear hx hy
  have h4 : (tellR x).steps ≤ n := by
    have : (x.fin.steps : Int) ≤ n := h2 (by show ((0 : Nat) : Int) ≤ n; omega)
    cases x <;> (simp only [Res.fin] at this; simp only [tellR]; omega)
  have h5 : (tellR x).status = 0 → (tellR x).steps = n ∧ (tellR x).code = 0 := by
    cases x with
    | ok v s => intro h; simp [tellR] at h
    | stop a b s =>
      intro h
      obtain ⟨-, h6⟩ := h3 a b s rfl
      obtain ⟨h7, h8⟩ := h6 h
      exact ⟨by simp only [tellR] at h4 ⊢; omega, h7⟩
  rcases h1 with h1 | ⟨s, h1, h6, h7⟩
  · rw [← h1]; exact ⟨h4, Nat.le_refl _, List.prefix_refl _, fun _ => rfl, h5⟩
  · rw [h1] at h4 h5 ⊢
    refine ⟨h4, ?_, ?_, fun h => absurd rfl h, h5⟩
    · cases y <;> exact h7.1
    · cases y <;> exact h7.2
theorem run_reads (p : LP) (inp more : List Int) (n k : Nat) : runM p k (inp ++ (List.replicate (n + 1) (-1) ++ more)) n = runM p k inp n := by
  rw [runM_eq, runM_eq]
  have h1 := callM_rd (p := p) (mach_rd p n more k) (c := n + 1) (by omega) 0 wMain [] (s := st0 p inp) (t := st0 p (inp ++ (List.replicate (n + 1) (-1) ++ more))) ⟨n + 1, rfl, by omega⟩
  cases hx : callM p (mach p n k).stmt 0 wMain [] (st0 p inp) <;> cases hy : callM p (mach p n k).stmt 0 wMain [] (st0 p (inp ++ (List.replicate (n + 1) (-1) ++ more))) <;> rw [hx, hy] at h1
  · obtain ⟨rfl, h2⟩ := h1
    have := h2.steps
    simp only [tellR]
    rw [this.1, this.2.2]
  · exact h1.elim
  · exact h1.elim
  · obtain ⟨rfl, rfl, h2⟩ := h1
    have := h2.steps
    simp only [tellR]
    rw [this.1, this.2.2]
end Go.Proofs.YtjgbkdbkachciaaGreatDoor

/-
  Plain laws of the mirror of eval: expressions without names.
-/
namespace Go.Proofs.YtjgbkdbkachciaaGreatDoor
open Go.RowKit Go.Shelf

/-- an expression without names, so deep at most -/
def NumX : Nat → LE → Prop
  | 0, _ => False
  | d + 1, e => (e.kind = 1 ∧ e.args = []) ∨ (e.kind = 3 ∧ (∀ a, (oneI e.op a).isSome) ∧ ∃ a, e.args = [a] ∧ NumX d a) ∨ (e.kind = 4 ∧ ∃ a b, e.args = [a, b] ∧ NumX d a ∧ NumX d b)
/-- its value, and how many expressions it is -/
def valD : Nat → LE → Option Int
  | 0, _ => none
  | d + 1, e => if e.kind = 1 then some e.n else
    if e.kind = 3 then (valD d (e.args.getD 0 e)).bind (oneI e.op) else
    (valD d (e.args.getD 0 e)).bind fun a => (valD d (e.args.getD 1 e)).bind (twoI e.op a)
def szD : Nat → LE → Nat
  | 0, _ => 0
  | d + 1, e => if e.kind = 1 then 1 else if e.kind = 3 then szD d (e.args.getD 0 e) + 1 else szD d (e.args.getD 0 e) + szD d (e.args.getD 1 e) + 1
theorem szD_le : ∀ (d : Nat) (e : LE), szD d e + 1 ≤ 2 ^ d
  | 0, _ => by simp [szD]
  | d + 1, e => by
    have h := szD_le d
    have h1 := h (e.args.getD 0 e)
    have h2 := h (e.args.getD 1 e)
    have h3 : 1 ≤ 2 ^ d := Nat.one_le_two_pow
    rw [szD, Nat.pow_succ]
    split
    · omega
    split
    · omega
    · omega
def ValR (_ : Int) (sz : Nat) (v : Option Int) (s : ESt) (r : Res Int) : Prop := match v with
  | some n => r = .ok n { s with steps := s.steps + sz }
  | none => ∃ j, j ≤ sz ∧ r = .stop 2 0 { s with steps := s.steps + j }
theorem val_expr {p : LP} {most : Int} : ∀ (d : Nat) (e : LE) (k dd : Nat) (vs : Vars) (s : ESt), NumX d e → d ≤ k → (s.steps : Int) + szD d e ≤ most → ValR most (szD d e) (valD d e) s ((mach p most k).expr dd vs e s)
  | 0, _, _, _, _, _, h, _, _ => h.elim
  | d + 1, e, 0, _, _, _, _, hk, _ => by omega
  | d + 1, e, k + 1, dd, vs, s, h, hk, hs => by
    show ValR most _ _ s (exprM p most (mach p most k) dd vs e s)
    have ih := fun e' s' h' hs' => val_expr (p := p) (most := most) d e' k dd vs s' h' (by omega) hs'
    rcases h with ⟨h1, h2⟩ | ⟨h1, h2, a, h3, h4⟩ | ⟨h1, a, b, h3, h4, h5⟩
    · have hz : szD (d + 1) e = 1 := by rw [szD, if_pos h1]
      have hv : valD (d + 1) e = some e.n := by rw [valD, if_pos h1]
      rw [hz] at hs
      rw [hz, hv, exprM_eq _ _ _ _ _ _ _ (by omega), h2, argsM]
      show Res.bind (.ok [] (tick s)) _ = _
      unfold Res.bind exprT
      simp only
      rw [if_pos h1]
    · have n1 : ¬ e.kind = 1 := by omega
      have hz : szD (d + 1) e = szD d a + 1 := by rw [szD, if_neg n1, if_pos h1, h3]; rfl
      have hv : valD (d + 1) e = (valD d a).bind (oneI e.op) := by rw [valD, if_neg n1, if_pos h1, h3]; rfl
      rw [hz] at hs
      have ih1 := ih a (tick s) h4 (by show ((s.steps + 1 : Nat) : Int) + _ ≤ _; omega)
      rw [hz, hv, exprM_eq _ _ _ _ _ _ _ (by omega), h3, argsM]
      cases ha : valD d a with
      | none =>
        rw [ha] at ih1
        obtain ⟨j, hj, ih1⟩ := ih1
        rw [ih1]
        exact ⟨j + 1, by omega, by show Res.stop 2 0 _ = _; congr 2; simp only; omega⟩
      | some n =>
        rw [ha] at ih1
        have ih1 : (mach p most k).expr dd vs a (tick s) = .ok n { tick s with steps := (tick s).steps + szD d a } := ih1
        rw [ih1]
        simp only [argsM, Res.bind, exprT, Option.bind_some]
        rw [if_neg n1, if_neg (by omega), if_pos h1]
        obtain ⟨x, hx⟩ := Option.isSome_iff_exists.1 (h2 n)
        show ValR _ _ (oneI e.op n) s (.ok ((oneI e.op n).getD 0) _)
        rw [hx]
        show Res.ok x _ = Res.ok x _
        congr 2
        omega
    · have n1 : ¬ e.kind = 1 := by omega
      have n3 : ¬ e.kind = 3 := by omega
      have hz : szD (d + 1) e = szD d a + szD d b + 1 := by rw [szD, if_neg n1, if_neg n3, h3]; rfl
      have hv : valD (d + 1) e = (valD d a).bind fun x => (valD d b).bind (twoI e.op x) := by rw [valD, if_neg n1, if_neg n3, h3]; rfl
      rw [hz] at hs
      have ih1 := ih a (tick s) h4 (by show ((s.steps + 1 : Nat) : Int) + _ ≤ _; omega)
      rw [hz, hv, exprM_eq _ _ _ _ _ _ _ (by omega), h3, argsM]
      cases ha : valD d a with
      | none =>
        rw [ha] at ih1
        obtain ⟨j, hj, ih1⟩ := ih1
        rw [ih1]
        exact ⟨j + 1, by omega, by show Res.stop 2 0 _ = _; congr 2; simp only; omega⟩
      | some n =>
        rw [ha] at ih1
        have ih1 : (mach p most k).expr dd vs a (tick s) = .ok n { tick s with steps := (tick s).steps + szD d a } := ih1
        have ih2 := ih b { tick s with steps := (tick s).steps + szD d a } h5 (by show ((s.steps + 1 + szD d a : Nat) : Int) + _ ≤ _; omega)
        rw [ih1]
        simp only [argsM]
        cases hb : valD d b with
        | none =>
          rw [hb] at ih2
          obtain ⟨j, hj, ih2⟩ := ih2
          rw [ih2]
          exact ⟨szD d a + j + 1, by omega, by show Res.stop 2 0 _ = _; congr 2; first | omega | (simp only; omega)⟩
        | some m =>
          rw [hb] at ih2
          have ih2 : (mach p most k).expr dd vs b { tick s with steps := (tick s).steps + szD d a } = .ok m { tick s with steps := (tick s).steps + szD d a + szD d b } := ih2
          rw [ih2]
          simp only [Res.bind, exprT, Option.bind_some]
          rw [if_neg n1, if_neg (by omega), if_neg n3, if_pos h1]
          show ValR _ _ (twoI e.op n m) s (match twoI e.op n m with | none => _ | some n => _)
          cases twoI e.op n m with
          | none => exact ⟨szD d a + szD d b + 1, by omega, by show Res.stop 2 0 _ = _; congr 2; first | omega | (simp only; omega)⟩
          | some x =>
            show Res.ok x _ = Res.ok x _
            congr 2
            omega
/-- the program that prints it -/
def vP (e : LE) : LP := ⟨[], [⟨wMain, [], [], [.mk 8 [] [e] [] []]⟩]⟩
def ValL (v : Option Int) (r : LR) : Prop := match v with
  | some n => r.status = 1 ∧ r.code = 0 ∧ r.out = [n]
  | none => r.status = 2 ∧ r.out = []
theorem val_run (d : Nat) (e : LE) (h : NumX d e) (most : Nat) (hm : 2 ^ d + 1 ≤ most) (k : Nat) (hk : d + 1 ≤ k) : ValL (valD d e) (runM (vP e) k [] most) := by
  have hf : funcAt (vP e) wMain = ⟨wMain, [], [], [.mk 8 [] [e] [] []]⟩ := by
    have h0 : placeF (vP e) wMain = 0 := by simp [placeF, placeI, vP, List.findIdx_cons]
    unfold funcAt fnAt
    rw [h0]
    rfl
  have hz := szD_le d e
  obtain ⟨k, rfl⟩ : ∃ j, k = j + 1 := ⟨k - 1, by omega⟩
  have h1 := val_expr (p := vP e) (most := most) d e k 1 (vars0 ⟨wMain, [], [], [.mk 8 [] [e] [] []]⟩ []) (tick (st0 (vP e) [])) h (by omega) (by show ((0 + 1 : Nat) : Int) + _ ≤ _; omega)
  have h2 : (mach (vP e) most (k + 1)).stmt 1 ⟨vars0 ⟨wMain, [], [], [.mk 8 [] [e] [] []]⟩ [], 0⟩ (.mk 8 [] [e] [] []) (st0 (vP e) []) = (argsM ((mach (vP e) most k).expr 1 (vars0 ⟨wMain, [], [], [.mk 8 [] [e] [] []]⟩ [])) [e] (tick (st0 (vP e) []))).bind (stmtT (vP e) (mach (vP e) most k) 1 ⟨vars0 ⟨wMain, [], [], [.mk 8 [] [e] [] []]⟩ [], 0⟩ (.mk 8 [] [e] [] [])) :=
    stmtM_eq _ _ _ _ _ _ _ (by show ¬ (most : Int) ≤ ((0 : Nat) : Int); omega)
  rw [runM_eq]
  unfold callM
  rw [hf]
  simp only
  rw [blockM, h2, argsM]
  cases ha : valD d e with
  | none =>
    rw [ha] at h1
    obtain ⟨j, hj, h1⟩ := h1
    rw [h1]
    exact ⟨rfl, rfl⟩
  | some n =>
    rw [ha] at h1
    have h1 : (mach (vP e) most k).expr 1 (vars0 ⟨wMain, [], [], [.mk 8 [] [e] [] []]⟩ []) e (tick (st0 (vP e) [])) = .ok n { tick (st0 (vP e) []) with steps := (tick (st0 (vP e) [])).steps + szD d e } := h1
    rw [h1]
    exact ⟨rfl, rfl, rfl⟩
end Go.Proofs.YtjgbkdbkachciaaGreatDoor
