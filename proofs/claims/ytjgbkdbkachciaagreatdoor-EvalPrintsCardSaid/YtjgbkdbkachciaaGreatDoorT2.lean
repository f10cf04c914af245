import Derived.Test.YtjgbkdbkachciaaGreatDoorT1
namespace Go.Proofs.YtjgbkdbkachciaaGreatDoor
open Go.RowKit Go.Shelf
attribute [local go_sem] Oper.semAt_some

/-! ### what lies in memory of a statement -/
def RS : Nat → (Nat → Prop) → World → (Nat → Value) → LS → Prop
  | 0, _, _, _, _ => False
  | d + 1, B, W, C, s => C 0 = I s.kind ∧ C 1 = S s.name ∧ EX B W (C 2) (.mk 0 0 0 [] s.args) ∧ RSlB B 5 (RS d B) W (C 3) s.thn ∧ RSlB B 5 (RS d B) W (C 4) s.els
theorem RS.grown : ∀ (d : Nat) {B : Nat → Prop} {w w' : World} {row : Option Nat} (_ : w.grownBy w' row) (_ : ∀ r, row = some r → ¬ B r) {C : Nat → Value} {s : LS}, RS d B w C s → RS d B w' C s
  | 0, _, _, _, _, _, _, _, _, h => h
  | d + 1, _, _, _, _, hg, hB, _, _, ⟨h0, h1, h2, h3, h4⟩ => ⟨h0, h1, h2.grown hg hB, h3.grown hg hB fun _ _ h => RS.grown d hg hB h, h4.grown hg hB fun _ _ h => RS.grown d hg hB h⟩
theorem RS.weak : ∀ (d : Nat) {B B' : Nat → Prop} {w : World} (_ : ∀ b, B b → B' b) {C : Nat → Value} {s : LS}, RS d B w C s → RS d B' w C s
  | 0, _, _, _, _, _, _, h => h
  | d + 1, _, _, _, hB, _, _, ⟨h0, h1, h2, h3, h4⟩ => ⟨h0, h1, h2.weak hB, h3.weak hB fun _ _ h => RS.weak d hB h, h4.weak hB fun _ _ h => RS.weak d hB h⟩
theorem RS.succ : ∀ (d : Nat) {B : Nat → Prop} {w : World} {C : Nat → Value} {s : LS}, RS d B w C s → RS (d + 1) B w C s
  | 0, _, _, _, _, h => h.elim
  | d + 1, _, _, _, _, ⟨h0, h1, h2, h3, h4⟩ => ⟨h0, h1, h2, h3.weak (fun _ h => h) fun _ _ h => RS.succ d h, h4.weak (fun _ h => h) fun _ _ h => RS.succ d h⟩
theorem RS.le {d d' : Nat} (h : d ≤ d') {B : Nat → Prop} {w : World} {C : Nat → Value} {s : LS} (hr : RS d B w C s) : RS d' B w C s := by
  induction h with
  | refl => exact hr
  | step _ ih => exact RS.succ _ ih
/-- statements in a slice, in blocks of B -/
def SX (B : Nat → Prop) (W : World) (v : Value) (l : List LS) : Prop := ∃ d, RSlB B 5 (RS d B) W v l
theorem SX.grown {B : Nat → Prop} {w w' : World} {row : Option Nat} {v : Value} {l : List LS} (h : SX B w v l) (hg : w.grownBy w' row) (hr : ∀ r, row = some r → ¬ B r) : SX B w' v l := by
  obtain ⟨d, h⟩ := h
  exact ⟨d, h.grown hg hr fun _ _ h => RS.grown d hg hr h⟩
theorem SX.alloc {B : Nat → Prop} {w : World} {o : Obj} {v : Value} {l : List LS} (h : SX B w v l) : SX B (w.alloc o) v l := h.grown (alloc_grown w o none) (fun r e => by cases e)
theorem SX.ext {B : Nat → Prop} {w w' : World} {n : Nat} {v : Value} {l : List LS} (h : SX B w v l) (hb : Below n w w') (hn : w.heap.size ≤ n) : SX B w' v l := h.grown (below_grown (hb.mono hn) none) (fun r e => by cases e)
theorem SX.weak {B B' : Nat → Prop} {w : World} {v : Value} {l : List LS} (h : SX B w v l) (hb : ∀ b, B b → B' b) : SX B' w v l := by
  obtain ⟨d, h⟩ := h
  exact ⟨d, h.weak hb fun _ _ h => RS.weak d hb h⟩
theorem SX.slice {B : Nat → Prop} {w : World} {v : Value} {l : List LS} (h : SX B w v l) : ∃ a c, v = .slice a l.length c := by
  obtain ⟨d, a, c, h, _⟩ := h
  exact ⟨a, c, h⟩

/-- a statement as it is put together: its expressions lie at a place -/
structure SA where
  s : LS
  a : Option Addr
  c : Nat
abbrev SA.av (p : SA) : Value := .slice p.a p.s.args.length p.c
def sEnc (p : SA) : List Value := [I p.s.kind, S p.s.name, p.av, .slice none 0 0, .slice none 0 0]
theorem sEnc_len (p : SA) : (sEnc p).length = 5 := rfl
theorem sEnc_one (p : SA) : ∀ u ∈ sEnc p, u.oneCell' = true := by intro u hu; simp [sEnc] at hu; rcases hu with rfl | rfl | rfl | rfl | rfl <;> rfl
theorem slStmt : SlT 50 54 5 96 := SlT.mk' (z := .agg #[.int .i64 0, .string ByteArray.empty, .slice none 0 0, .slice none 0 0, .slice none 0 0]) Tryz.underlying50 (by kernel_rfl) rfl (by decide)
/-- a slice that owns its elements, as it is read -/
theorem OwnS.rslB {α β : Type} {k e : Nat} {enc : α → List Value} {w : World} {base : Nat} {v : Value} {l : List α} {R : World → (Nat → Value) → β → Prop} (f : α → β) (h : OwnS k e enc w base v l) (hk : ∀ x, (enc x).length = k) (hl : l.length ≤ 1000000000) (hR : ∀ x ∈ l, R w (fun j => (enc x).getD j undef) (f x)) : RSlB (base ≤ ·) k R w v (l.map f) := by
  obtain ⟨a, c, hv⟩ := h.slice
  refine ⟨a, c, by rw [List.length_map]; exact hv, by rw [List.length_map]; exact hl, ?_⟩
  cases l with
  | nil => exact .inl rfl
  | cons x0 l0 =>
    right
    obtain ⟨g, c', hv', hbg, _⟩ := h.cell hk (i := 0) (by simp)
    have ha : a = some ⟨g, 0, none⟩ := by rw [hv] at hv'; simp at hv'; exact hv'.1
    refine ⟨g, 0, ha, hbg, fun i x hx => ?_⟩
    rw [List.getElem?_map] at hx
    have hi : i < (x0 :: l0).length := by
      rcases Nat.lt_or_ge i (x0 :: l0).length with h' | h'
      · exact h'
      · rw [List.getElem?_eq_none h'] at hx; cases hx
    rw [List.getElem?_eq_getElem hi] at hx
    simp only [Option.map_some, Option.some.injEq] at hx
    obtain ⟨g2, c2, hv2, _, hcell⟩ := h.cell hk hi
    obtain rfl : g2 = g := by rw [hv'] at hv2; simp at hv2; exact hv2.1.symm
    refine ⟨fun j => (enc (x0 :: l0)[i]).getD j undef, fun j hj => ?_, by rw [← hx]; exact hR _ (List.getElem_mem hi)⟩
    rw [Nat.zero_add, (hcell j hj).1]
    have : j < (enc (x0 :: l0)[i]).length := by rw [hk]; exact hj
    simp [this]
theorem list_le {l : List SA} {P : Nat → SA → Prop} (hs : ∀ {d d' : Nat} {x : SA}, d ≤ d' → P d x → P d' x) (h : ∀ x ∈ l, ∃ d, P d x) : ∃ d, ∀ x ∈ l, P d x := by
  induction l with
  | nil => exact ⟨0, fun x hx => by cases hx⟩
  | cons y l ih =>
    obtain ⟨d1, h1⟩ := ih fun x hx => h x (List.mem_cons_of_mem _ hx)
    obtain ⟨d2, h2⟩ := h y (List.mem_cons_self ..)
    refine ⟨max d1 d2, fun x hx => ?_⟩
    rcases List.mem_cons.1 hx with rfl | hx
    · exact hs (Nat.le_max_right _ _) h2
    · exact hs (Nat.le_max_left _ _) (h1 x hx)
/-- what was put together is read -/
theorem OwnS.stmts {w : World} {base : Nat} {v : Value} {l : List SA} (h : OwnS 5 54 sEnc w base v l) (hl : l.length ≤ 1000000000) (hA : ∀ p ∈ l, EX (base ≤ ·) w p.av (.mk 0 0 0 [] p.s.args) ∧ p.s.thn = [] ∧ p.s.els = []) : SX (base ≤ ·) w v (l.map SA.s) := by
  refine ⟨1, h.rslB SA.s sEnc_len hl fun p hp => ?_⟩
  obtain ⟨h1, h2, h3⟩ := hA p hp
  exact ⟨rfl, rfl, h1, by rw [h2]; exact RSlB.nil _ _ _ _, by rw [h3]; exact RSlB.nil _ _ _ _⟩
end Go.Proofs.YtjgbkdbkachciaaGreatDoor
