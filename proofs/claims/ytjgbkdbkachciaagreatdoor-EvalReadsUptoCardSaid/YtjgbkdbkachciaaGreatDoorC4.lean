import Derived.Test.YtjgbkdbkachciaaGreatDoorB4
import Derived.Test.YtjgbkdbkachciaaGreatDoorZ4
import Derived.Test.YtjgbkdbkachciaaGreatDoorB7
namespace Go.Proofs.YtjgbkdbkachciaaGreatDoor
open Go.RowKit Go.Shelf

/-! ### what is drawn is right -/
/-- statements that are drawn -/
def DrS (c : Sc) : Nat → Bool → LS → Prop
  | 0, _, _ => False
  | d + 1, loop, s =>
    ((s.kind = 1 ∧ c.okV s.name ∧ s.args.length = 1 ∧ s.thn = [] ∧ s.els = []) ∨ (s.kind = 2 ∧ c.okA s.name ∧ s.args.length = 2 ∧ s.thn = [] ∧ s.els = []) ∨
      (s.kind = 3 ∧ s.name = [] ∧ s.args.length = 1) ∨ (s.kind = 4 ∧ s.name = [] ∧ s.args.length = 1 ∧ s.els = []) ∨
      ((s.kind = 5 ∨ s.kind = 6) ∧ loop = true ∧ s.name = [] ∧ s.args.length = 0 ∧ s.thn = [] ∧ s.els = []) ∨
      ((s.kind = 7 ∨ s.kind = 8 ∨ s.kind = 9) ∧ s.name = [] ∧ s.args.length = 1 ∧ s.thn = [] ∧ s.els = []) ∨
      (s.kind = 10 ∧ s.name = [] ∧ s.args.length = 1 ∧ (∀ a ∈ s.args, a.kind = 5) ∧ s.thn = [] ∧ s.els = [])) ∧
    (∀ x ∈ s.args, DrE c 4 x) ∧ (∀ x ∈ s.thn, DrS c d (loop || s.kind == 4) x) ∧ ∀ x ∈ s.els, DrS c d loop x
theorem DrE.up (c : Sc) : ∀ (d : Nat) (e : LE), DrE c d e → DrE c (d + 1) e
  | 0, _, h => h.elim
  | d + 1, _, h => ⟨h.1, fun x hx => DrE.up c d x (h.2 x hx)⟩
theorem DrE.le {c : Sc} {d d' : Nat} (hd : d ≤ d') {e : LE} (h : DrE c d e) : DrE c d' e := by
  induction hd with
  | refl => exact h
  | step _ ih => exact DrE.up c _ _ ih
abbrev NmOk (x : Str) : Prop := Asc x ∧ isName x = true
/-- what there is, is of a program -/
structure ScOk (c : Sc) (p : LP) (vs : List Str) : Prop where
  v : ∀ x, c.okV x → NmOk x ∧ x ∈ vs
  a : ∀ x, c.okA x → NmOk x ∧ 0 ≤ placeA p x
  f : ∀ x n, c.okC x n → NmOk x ∧ n ≤ 6 ∧ 0 ≤ placeF p x ∧ (fnAt p (placeF p x)).params.length = n
section
variable {c : Sc} {p : LP} {vs : List Str}
theorem DrE.ok (hc : ScOk c p vs) : ∀ (d : Nat) (e : LE), DrE c d e → okE d e
  | 0, _, h => h.elim
  | d + 1, e, h => by
    refine ⟨?_, fun x hx => DrE.ok hc d x (h.2 x hx)⟩
    rcases h.1 with h1 | ⟨h1, h2, h3⟩ | h1 | h1 | ⟨h1, h2, h3⟩ | ⟨h1, h2, h3⟩ | h1
    · exact .inl h1
    · exact .inr (.inl ⟨h1, (hc.v _ h2).1, h3⟩)
    · exact .inr (.inr (.inl h1))
    · exact .inr (.inr (.inr (.inl h1)))
    · exact .inr (.inr (.inr (.inr (.inl ⟨h1, (hc.f _ _ h2).1, h3.1, h3.2, (hc.f _ _ h2).2.1⟩))))
    · exact .inr (.inr (.inr (.inr (.inr (.inl ⟨h1, (hc.a _ h2).1, h3⟩)))))
    · exact .inr (.inr (.inr (.inr (.inr (.inr h1)))))
theorem DrE.J (hc : ScOk c p vs) : ∀ (d : Nat) (e : LE), DrE c d e → exprJ p vs e = 0
  | 0, _, h => h.elim
  | d + 1, e, h => by
    have ho : ownI p vs e = 0 := by
      unfold ownI
      rcases h.1 with ⟨h1, _⟩ | ⟨h1, h2, h3⟩ | ⟨h1, _⟩ | ⟨h1, _⟩ | ⟨h1, h2, h3⟩ | ⟨h1, h2, h3⟩ | ⟨h1, _⟩
      · rw [if_neg (by omega), if_neg (by omega), if_neg (by omega)]
      · rw [if_pos h1, decide_eq_true (hc.v _ h2).2]; rfl
      · rw [if_neg (by omega), if_neg (by omega), if_neg (by omega)]
      · rw [if_neg (by omega), if_neg (by omega), if_neg (by omega)]
      · rw [if_neg (by omega), if_neg (by omega), if_pos h1, if_neg (by have := (hc.f _ _ h2).2.2.1; omega), decide_eq_true (hc.f _ _ h2).2.2.2]; rfl
      · rw [if_neg (by omega), if_pos h1, decide_eq_true (hc.a _ h2).2]; rfl
      · rw [if_neg (by omega), if_neg (by omega), if_neg (by omega)]
    rw [exprJ_eq, if_pos ho, exprsJ_eq]
    exact firstI_zero fun x hx => DrE.J hc d x (h.2 x hx)
theorem DrE.X (hc : ScOk c p vs) : ∀ (d : Nat) (e : LE), DrE c d e → XEd p d e
  | 0, _, h => h.elim
  | d + 1, e, h => by
    refine ⟨?_, fun x hx => DrE.X hc d x (h.2 x hx)⟩
    rcases h.1 with ⟨h1, _⟩ | ⟨h1, _⟩ | ⟨h1, _, _, _, h5⟩ | ⟨h1, _, _, _, h5⟩ | ⟨h1, h2, h3⟩ | ⟨h1, h2, _, _, h5⟩ | ⟨h1, _⟩
    · exact ⟨⟨by omega, by omega⟩, fun h => by omega, fun h => by omega, fun h => by omega, fun h => by omega⟩
    · exact ⟨⟨by omega, by omega⟩, fun h => by omega, fun h => by omega, fun h => by omega, fun h => by omega⟩
    · exact ⟨⟨by omega, by omega⟩, fun _ => h5, fun h => by omega, fun h => by omega, fun h => by omega⟩
    · exact ⟨⟨by omega, by omega⟩, fun h => by omega, fun _ => h5, fun h => by omega, fun h => by omega⟩
    · exact ⟨⟨by omega, by omega⟩, fun h => by omega, fun h => by omega, fun h => by omega, fun _ => (hc.f _ _ h2).2.2⟩
    · exact ⟨⟨by omega, by omega⟩, fun h => by omega, fun h => by omega, fun _ => ⟨h5, (hc.a _ h2).2⟩, fun h => by omega⟩
    · exact ⟨⟨by omega, by omega⟩, fun h => by omega, fun h => by omega, fun h => by omega, fun h => by omega⟩
theorem DrS.Js (d : Nat) (loop : Bool) : ∀ (l : List LS), (∀ s : LS, DrS c d loop s → ∀ q ∈ flatS loop s, stmtJ p vs q.2 q.1 = 0) → (∀ x ∈ l, DrS c d loop x) → ∀ q ∈ flatSs loop l, stmtJ p vs q.2 q.1 = 0
  | [], _, _, q, hq => by rw [flatSs] at hq; cases hq
  | x :: l, ih, h, q, hq => by
    rw [flatSs] at hq
    rcases List.mem_append.1 hq with hq | hq
    · exact ih x (h x (by simp)) q hq
    · exact DrS.Js d loop l ih (fun y hy => h y (by simp [hy])) q hq
theorem DrS.J (hc : ScOk c p vs) : ∀ (d : Nat) (loop : Bool) (s : LS), DrS c d loop s → ∀ q ∈ flatS loop s, stmtJ p vs q.2 q.1 = 0
  | 0, _, _, h => h.elim
  | d + 1, loop, s, h => by
    obtain ⟨h0, h1, h2, h3⟩ := h
    intro q hq
    rw [flatS_eq] at hq
    rcases List.mem_cons.1 hq with rfl | hq
    · have ho : stmtO p vs loop s = 0 := by
        unfold stmtO
        rcases h0 with ⟨g1, g2, _⟩ | ⟨g1, g2, _⟩ | ⟨g1, _⟩ | ⟨g1, _⟩ | ⟨g1, g2, _⟩ | ⟨g1, _⟩ | ⟨g1, _⟩
        · rw [if_neg (by omega), if_pos g1, decide_eq_true (hc.v _ g2).2]; rfl
        · rw [if_neg (by omega), if_neg (by omega), if_pos g1, decide_eq_true (hc.a _ g2).2]; rfl
        · rw [if_neg (by omega), if_neg (by omega), if_neg (by omega)]
        · rw [if_neg (by omega), if_neg (by omega), if_neg (by omega)]
        · rw [if_pos g1, g2]; rfl
        · rw [if_neg (by omega), if_neg (by omega), if_neg (by omega)]
        · rw [if_neg (by omega), if_neg (by omega), if_neg (by omega)]
      show stmtJ p vs loop s = 0
      rw [stmtJ_0 ho, exprsJ_eq]
      exact firstI_zero fun x hx => DrE.J hc 4 x (h1 x hx)
    · rcases List.mem_append.1 hq with hq | hq
      · exact DrS.Js d _ _ (DrS.J hc d _) h2 q hq
      · exact DrS.Js d _ _ (DrS.J hc d _) h3 q hq
theorem DrS.Y (hc : ScOk c p vs) : ∀ (d : Nat) (loop : Bool) (s : LS), DrS c d loop s → YSd p d s
  | 0, _, _, h => h.elim
  | d + 1, loop, s, h => by
    obtain ⟨h0, h1, h2, h3⟩ := h
    refine ⟨⟨fun hk => ?_, fun hk => ?_, fun x hx => ⟨4, DrE.X hc 4 x (h1 x hx)⟩⟩, fun x hx => DrS.Y hc d _ x (h2 x hx), fun x hx => DrS.Y hc d _ x (h3 x hx)⟩
    · rcases h0 with ⟨g1, _, g2, _⟩ | ⟨g1, _⟩ | ⟨g1, _, g2⟩ | ⟨g1, _, g2, _⟩ | ⟨g1, _⟩ | ⟨g1, _, g2, _⟩ | ⟨g1, _, g2, _⟩ <;> first | exact g2 | omega
    · rcases h0 with ⟨g1, _⟩ | ⟨g1, g3, g2, _⟩ | ⟨g1, _⟩ | ⟨g1, _⟩ | ⟨g1, _⟩ | ⟨g1, _⟩ | ⟨g1, _⟩ <;> first | exact ⟨g2, (hc.a _ g3).2⟩ | omega
end
end Go.Proofs.YtjgbkdbkachciaaGreatDoor

namespace Go.Proofs.YtjgbkdbkachciaaGreatDoor
open Go.RowKit Go.Shelf

/-! ### raw programs are right -/
theorem twiceB_nodup {l : List Str} (h : l.Nodup) : twiceB l = false := by
  have hs : (sortS l).Nodup := (List.mergeSort_perm l _).nodup_iff.2 h
  have hk : Lib.compact (sortS l) = sortS l := Lib.compact_all _ fun j hj => by
    rcases Nat.eq_zero_or_pos j with rfl | h0
    · simp [Lib.keeps]
    · have hp := (List.pairwise_iff_getElem.1 hs) (j - 1) j (by omega) hj (by omega)
      refine Lib.keeps_pos fun e => hp ?_
      rw [List.getElem!_toArray, List.getElem!_toArray, getElem!_pos (sortS l) j hj, getElem!_pos (sortS l) (j - 1) (by omega)] at e
      exact e.symm
  unfold twiceB
  rw [hk, show (sortS l).length = l.length from (List.mergeSort_perm l _).length_eq]
  simp
abbrev nB : Str := [98]
abbrev nC : Str := [99]
abbrev nG : Str := [103]
abbrev nH : Str := [104]
def nmP : List Str := [[112], [113], [114], [115], [116], [117]]
def nmL : List Str := [[120], [121], [122], [105], [107]]
def nmG : List Str := [nC, nB, wMain, nH, nG]
theorem nm_ok : ∀ x ∈ nmP ++ nmL ++ nmG, NmOk x := by
  have h : (nmP ++ nmL ++ nmG).all (fun x => x.all (fun b => decide (b.toNat < 128)) && isName x) = true := by decide +kernel
  intro x hx
  have := List.all_eq_true.1 h x hx
  simp only [Bool.and_eq_true] at this
  exact ⟨asc_of this.1, this.2⟩
theorem nm_nodup : (nmP ++ nmL).Nodup := by decide
theorem nm_apart : ∀ x ∈ nmP ++ nmL, x ∉ nmG := by decide
/-- a function of a raw program -/
structure PQ where
  nm : Str
  np : Nat
  nl : Nat
  body : List LS
def PQ.f (q : PQ) : LF := ⟨q.nm, nmP.take q.np, nmL.take q.nl, q.body⟩
def scQ (ars : List LA) (fs : List PQ) (q : PQ) : Sc := ⟨false, fun x => x ∈ nmP.take q.np ++ nmL.take q.nl, fun x => ∃ a ∈ ars, a.name = x, fun x n => ∃ q' ∈ fs, q'.nm = x ∧ q'.np = n⟩
structure RawP (ars : List LA) (fs : List PQ) : Prop where
  arr : ars.map (·.name) = [] ∨ ars.map (·.name) = [nB] ∨ ars.map (·.name) = [nC, nB]
  size : ∀ a ∈ ars, 1 ≤ a.size ∧ a.size ≤ 1048576
  fun_ : fs.map PQ.nm = [wMain] ∨ fs.map PQ.nm = [wMain, nG] ∨ fs.map PQ.nm = [wMain, nH, nG]
  few : ∀ q ∈ fs, q.np ≤ 6 ∧ q.nl ≤ 5 ∧ (q.nm = wMain → q.np = 0)
  body : ∀ q ∈ fs, ∀ s ∈ q.body, DrS (scQ ars fs q) 4 false s
theorem placeI_mem {α : Type} {t : α → Bool} {l : List α} (h : ∃ x ∈ l, t x = true) : 0 ≤ placeI t l ∧ ∃ hk : (placeI t l).toNat < l.length, t l[(placeI t l).toNat] = true := by
  have hlt : l.findIdx t < l.length := List.findIdx_lt_length_of_exists h
  have e : placeI t l = (l.findIdx t : Int) := by unfold placeI; rw [if_pos hlt]
  rw [e]
  exact ⟨by omega, by simpa using hlt, by simpa using List.findIdx_getElem (w := hlt)⟩
section
variable {ars : List LA} {fs : List PQ}
abbrev rawP (ars : List LA) (fs : List PQ) : LP := ⟨ars, fs.map PQ.f⟩
theorem nodup_inj {α β : Type} {f : α → β} : ∀ {l : List α}, (l.map f).Nodup → ∀ x ∈ l, ∀ y ∈ l, f x = f y → x = y
  | [], _, x, hx, _, _, _ => by cases hx
  | a :: l, h, x, hx, y, hy, e => by
    rw [List.map_cons, List.nodup_cons] at h
    rcases List.mem_cons.1 hx with hx | hx <;> rcases List.mem_cons.1 hy with hy | hy
    · rw [hx, hy]
    · rw [hx] at e; exact absurd (List.mem_map.2 ⟨y, hy, e.symm⟩) h.1
    · rw [hy] at e; exact absurd (List.mem_map.2 ⟨x, hx, e⟩) h.1
    · exact nodup_inj h.2 x hx y hy e
theorem RawP.globals (_h : RawP ars fs) : globalsL (rawP ars fs) = ars.map (·.name) ++ fs.map PQ.nm := by
  unfold globalsL
  rw [List.map_map]
  rfl
theorem RawP.sub (h : RawP ars fs) : (globalsL (rawP ars fs)).Sublist nmG := by
  rw [h.globals]
  rcases h.arr with h1 | h1 | h1 <;> rcases h.fun_ with h2 | h2 | h2 <;> rw [h1, h2] <;> decide
theorem RawP.nm_fs (h : RawP ars fs) : ∀ q ∈ fs, q.nm ∈ nmG := fun q hq => h.sub.subset (by rw [h.globals]; exact List.mem_append_right _ (List.mem_map.2 ⟨q, hq, rfl⟩))
theorem RawP.nm_as (h : RawP ars fs) : ∀ a ∈ ars, a.name ∈ nmG := fun a ha => h.sub.subset (by rw [h.globals]; exact List.mem_append_left _ (List.mem_map.2 ⟨a, ha, rfl⟩))
theorem RawP.fn (h : RawP ars fs) {q : PQ} (hq : q ∈ fs) : 0 ≤ placeF (rawP ars fs) q.nm ∧ (placeF (rawP ars fs) q.nm).toNat < (rawP ars fs).funcs.length ∧ fnAt (rawP ars fs) (placeF (rawP ars fs) q.nm) = q.f := by
  obtain ⟨h1, h2, h3⟩ := placeI_mem (t := fun f : LF => decide (f.name = q.nm)) (l := (rawP ars fs).funcs) ⟨q.f, List.mem_map.2 ⟨q, hq, rfl⟩, by simp [PQ.f]⟩
  refine ⟨h1, h2, ?_⟩
  have hn : (fs.map PQ.nm).Nodup := by
    rcases h.fun_ with e | e | e <;> rw [e] <;> decide
  unfold fnAt
  rw [List.getD_eq_getElem?_getD, show (rawP ars fs).funcs[(placeF (rawP ars fs) q.nm).toNat]? = some ((rawP ars fs).funcs[(placeF (rawP ars fs) q.nm).toNat]'h2) from List.getElem?_eq_getElem h2, Option.getD_some]
  have hm := List.getElem_mem h2
  obtain ⟨q', hq', e⟩ := List.mem_map.1 (show _ ∈ fs.map PQ.f from hm)
  have h3 := of_decide_eq_true h3
  have h4 : q'.nm = q.nm := by rw [show q'.nm = q'.f.name from rfl, e]; exact h3
  rw [show (rawP ars fs).funcs[(placeF (rawP ars fs) q.nm).toNat]'h2 = q'.f from e.symm, nodup_inj hn q' hq' q hq h4]
theorem RawP.sc (h : RawP ars fs) {q : PQ} (_hq : q ∈ fs) : ScOk (scQ ars fs q) (rawP ars fs) (q.f.params ++ q.f.locals) := by
  refine ⟨fun x hx => ⟨?_, hx⟩, fun x ⟨a, ha, e⟩ => ⟨?_, ?_⟩, fun x n ⟨q', hq', e1, e2⟩ => ⟨?_, ?_, ?_⟩⟩
  · refine nm_ok x (List.mem_append_left _ ?_)
    rcases List.mem_append.1 (show x ∈ nmP.take q.np ++ nmL.take q.nl from hx) with hx | hx
    · exact List.mem_append_left _ (List.mem_of_mem_take hx)
    · exact List.mem_append_right _ (List.mem_of_mem_take hx)
  · rw [← e]; exact nm_ok _ (List.mem_append_right _ (h.nm_as a ha))
  · exact (placeI_mem ⟨a, ha, by simp [e]⟩).1
  · rw [← e1]; exact nm_ok _ (List.mem_append_right _ (h.nm_fs q' hq'))
  · rw [← e2]; exact (h.few q' hq').1
  · rw [← e1, (h.fn hq').2.2]
    refine ⟨(h.fn hq').1, ?_⟩
    show (nmP.take q'.np).length = n
    have := (h.few q' hq').1
    rw [List.length_take, ← e2]
    show min q'.np 6 = q'.np
    omega
theorem RawP.main (h : RawP ars fs) : ∃ k : Nat, placeF (rawP ars fs) wMain = k ∧ ∃ hk : k < (rawP ars fs).funcs.length, ((rawP ars fs).funcs[k]'hk).params = [] := by
  have hm : ∃ q ∈ fs, q.nm = wMain := by
    have : wMain ∈ fs.map PQ.nm := by rcases h.fun_ with e | e | e <;> rw [e] <;> simp
    obtain ⟨q, hq, e⟩ := List.mem_map.1 this
    exact ⟨q, hq, e⟩
  obtain ⟨q, hq, e⟩ := hm
  obtain ⟨h1, h2, h3⟩ := h.fn hq
  rw [e] at h1 h2 h3
  refine ⟨(placeF (rawP ars fs) wMain).toNat, by omega, h2, ?_⟩
  have h4 : (rawP ars fs).funcs[(placeF (rawP ars fs) wMain).toNat]'h2 = q.f := by
    rw [← h3]
    unfold fnAt
    rw [List.getD_eq_getElem?_getD, List.getElem?_eq_getElem h2, Option.getD_some]
  rw [h4]
  show nmP.take q.np = []
  rw [(h.few q hq).2.2 e]
  rfl
end
end Go.Proofs.YtjgbkdbkachciaaGreatDoor

namespace Go.Proofs.YtjgbkdbkachciaaGreatDoor
open Go.RowKit Go.Shelf
attribute [local go_sem] Oper.semAt_some

/-! ### statements, put in a row -/
structure SD where
  s : LS
  a : Option Addr
  ac : Nat
  t : Option Addr
  tc : Nat
  e : Option Addr
  ec : Nat
abbrev SD.av (p : SD) : Value := .slice p.a p.s.args.length p.ac
abbrev SD.tv (p : SD) : Value := .slice p.t p.s.thn.length p.tc
abbrev SD.ev (p : SD) : Value := .slice p.e p.s.els.length p.ec
def dEnc (p : SD) : List Value := [I p.s.kind, S p.s.name, p.av, p.tv, p.ev]
theorem dEnc_len (p : SD) : (dEnc p).length = 5 := rfl
theorem dEnc_one (p : SD) : ∀ u ∈ dEnc p, u.oneCell' = true := by intro u hu; simp [dEnc] at hu; rcases hu with rfl | rfl | rfl | rfl | rfl <;> rfl
/-- a statement's parts, where they lie -/
structure PartD (B : Nat → Prop) (w : World) (p : SD) : Prop where
  a : AX B w p.av p.s.args
  t : SX B w p.tv p.s.thn
  e : SX B w p.ev p.s.els
theorem PartD.grown {B : Nat → Prop} {w w' : World} {row : Option Nat} {p : SD} (h : PartD B w p) (hg : w.grownBy w' row) (hr : ∀ r, row = some r → ¬ B r) : PartD B w' p :=
  ⟨EX.grown h.a hg hr, SX.grown h.t hg hr, SX.grown h.e hg hr⟩
theorem PartD.weak {B B' : Nat → Prop} {w : World} {p : SD} (h : PartD B w p) (hB : ∀ b, B b → B' b) : PartD B' w p := ⟨EX.weak h.a hB, SX.weak h.t hB, SX.weak h.e hB⟩
theorem PartD.size {B : Nat → Prop} {w : World} {p : SD} (h : PartD B w p) : PartD (fun b => B b ∧ b < w.heap.size) w p := ⟨EX.size h.a, SX.size h.t, SX.size h.e⟩
theorem list_leD {l : List SD} {P : Nat → SD → Prop} (hs : ∀ {d d' : Nat} {x : SD}, d ≤ d' → P d x → P d' x) (h : ∀ x ∈ l, ∃ d, P d x) : ∃ d, ∀ x ∈ l, P d x := by
  induction l with
  | nil => exact ⟨0, fun x hx => by cases hx⟩
  | cons y l ih =>
    obtain ⟨d1, h1⟩ := ih fun x hx => h x (List.mem_cons_of_mem _ hx)
    obtain ⟨d2, h2⟩ := h y (List.mem_cons_self ..)
    refine ⟨max d1 d2, fun x hx => ?_⟩
    rcases List.mem_cons.1 hx with rfl | hx
    · exact hs (Nat.le_max_right _ _) h2
    · exact hs (Nat.le_max_left _ _) (h1 x hx)
/-- what was put together is read -/
theorem OwnS.stmtsD {w : World} {base : Nat} {v : Value} {l : List SD} (h : OwnS 5 54 dEnc w base v l) (hl : l.length ≤ 1000000000) (hA : ∀ p ∈ l, PartD (base ≤ ·) w p) : SX (base ≤ ·) w v (l.map SD.s) := by
  obtain ⟨d, hd⟩ := list_leD (P := fun d p => RSlB (base ≤ ·) 5 (RS d (base ≤ ·)) w p.tv p.s.thn ∧ RSlB (base ≤ ·) 5 (RS d (base ≤ ·)) w p.ev p.s.els)
    (fun h k => ⟨k.1.weak (fun _ h => h) (fun _ _ h' => RS.le h h'), k.2.weak (fun _ h => h) (fun _ _ h' => RS.le h h')⟩) (fun p hp => by
      obtain ⟨d1, h1⟩ := (hA p hp).t
      obtain ⟨d2, h2⟩ := (hA p hp).e
      exact ⟨max d1 d2, h1.weak (fun _ h => h) (fun _ _ h' => RS.le (Nat.le_max_left _ _) h'), h2.weak (fun _ h => h) (fun _ _ h' => RS.le (Nat.le_max_right _ _) h')⟩)
  refine ⟨d + 1, ?_⟩
  exact h.rslB SD.s dEnc_len hl fun p hp => ⟨rfl, rfl, (hA p hp).a, (hd p hp).1, (hd p hp).2⟩
/-- what of the statements is there already -/
def SdI (wr : World) (base : Nat) (v : Value) (done : List SD) : Prop := OwnS 5 54 dEnc wr base v done ∧ ∀ p ∈ done, PartD (fun b => base ≤ b ∧ b < wr.heap.size ∧ v.ownBlock ≠ some b) wr p
theorem SdI.nil (w : World) (base : Nat) : SdI w base (.slice none 0 0) [] := ⟨OwnS.nil, fun p hp => by cases hp⟩
theorem SdI.grown {w w' : World} {base : Nat} {v : Value} {done : List SD} {row : Option Nat} (h : SdI w base v done) (hg : w.grownBy w' row) (hr : ∀ r, row = some r → r < base) : SdI w' base v done := by
  have hsz := hg.size
  refine ⟨ownsRow_kept' h.1 hg ?_, fun p hp => ?_⟩
  · cases hv : v.ownBlock with
    | none => exact .inl rfl
    | some k =>
      right
      intro e
      have := hr k e.symm
      have := (ownsRow_base h.1 k hv).1
      omega
  · exact ((h.2 p hp).grown hg (fun r e hb => by have := hr r e; omega)).weak fun b hb => ⟨hb.1, by omega, hb.2.2⟩
theorem SdI.app {w1 w2 w3 : World} {base g : Nat} {v v' : Value} {done : List SD} {row : Option Nat} {y : SD} {o : Obj} (h : SdI w1 base v done) (hg : w1.grownBy w2 row) (hr : ∀ r, row = some r → r < base) (hx : PartD (w1.heap.size ≤ ·) w2 y) (hb : base ≤ w1.heap.size)
    (ho : OwnS 5 54 dEnc w3 base v' (done ++ [y])) (hg3 : (w2.alloc o).grownBy w3 v.ownBlock) (hv' : v'.ownBlock = some g) (hat : v.ownBlock = some g ∨ g = (w2.alloc o).heap.size) : SdI w3 base v' (done ++ [y]) := by
  have hs2 := hg.size
  have hz2 : (w2.alloc o).heap.size = w2.heap.size + 1 := by simp
  have hz3 := hg3.size
  have h2 := h.grown hg hr
  have hnb : ∀ b, base ≤ b → b < w2.heap.size → v.ownBlock ≠ some b → base ≤ b ∧ b < w3.heap.size ∧ v'.ownBlock ≠ some b := by
    intro b h1 h2 h3
    refine ⟨h1, by omega, fun e => ?_⟩
    rw [hv'] at e
    obtain rfl := Option.some.inj e
    rcases hat with h4 | h4
    · exact h3 h4
    · omega
  have ha : ∀ {B : Nat → Prop} {p : SD}, PartD B w2 p → PartD B (w2.alloc o) p := fun h => h.grown (alloc_grown _ _ none) (fun r e => by cases e)
  refine ⟨ho, fun p hp => ?_⟩
  rcases List.mem_append.1 hp with hp | hp
  · exact ((ha (h2.2 p hp)).grown hg3 (fun r e hb => hb.2.2 e)).weak fun b hb => hnb b hb.1 hb.2.1 hb.2.2
  · obtain rfl := List.mem_singleton.1 hp
    have h5 : ∀ r, v.ownBlock = some r → r < w1.heap.size := fun r e => (ownsRow_base h.1 r e).2
    exact ((ha hx.size).grown hg3 (fun r e hb => by have := h5 r e; omega)).weak fun b hb => hnb b (by omega) hb.2 (fun e => by have := h5 b e; omega)
theorem SdI.read {w : World} {base : Nat} {v : Value} {done : List SD} (h : SdI w base v done) (hl : done.length ≤ 1000000000) : SX (base ≤ ·) w v (done.map SD.s) :=
  h.1.stmtsD hl fun p hp => (h.2 p hp).weak fun _ hb => hb.1
end Go.Proofs.YtjgbkdbkachciaaGreatDoor

namespace Go.Proofs.YtjgbkdbkachciaaGreatDoor
open Go.RowKit Go.Shelf
attribute [local go_sem] Oper.semAt_some

/-! ### a statement while it is being drawn: what lies of it in memory -/
structure FinM (sb : Nat) (w1 : World) (kd : Int) (nm : Str) (va : Option Addr) (vc : Nat) (es : List EA) (ta : Option Addr) (tc : Nat) (tl : List LS) (ea : Option Addr) (ec : Nat) (el : List LS) (w : World) : Prop where
  sg : SG sb w1 w
  hsb : sb < w1.heap.size
  row : Row w w1.heap.size 54 [I kd, S nm, .slice va es.length vc, .slice ta tl.length tc, .slice ea el.length ec]
  as_ : EsI w (w1.heap.size + 1) (.slice va es.length vc) es
  tx : SX (fun b => w1.heap.size < b ∧ b < w.heap.size ∧ (Value.slice va es.length vc).ownBlock ≠ some b) w (.slice ta tl.length tc) tl
  ex : SX (fun b => w1.heap.size < b ∧ b < w.heap.size ∧ (Value.slice va es.length vc).ownBlock ≠ some b) w (.slice ea el.length ec) el
section
variable {sb : Nat} {w1 w w' : World} {kd : Int} {nm : Str} {va ta ea : Option Addr} {vc tc ec : Nat} {es : List EA} {tl el : List LS}
/-- where nothing of it is changed -/
theorem FinM.kept {row : Option Nat} (h : FinM sb w1 kd nm va vc es ta tc tl ea ec el w) (hs : SG sb w1 w') (hg : w.grownBy w' row) (hr : ∀ r, row = some r → r < w1.heap.size) : FinM sb w1 kd nm va vc es ta tc tl ea ec el w' := by
  have hsz := hg.size
  refine ⟨hs, h.hsb, h.row.kept hg (fun e => by have := hr _ e.symm; omega), h.as_.grown hg (fun r e => by have := hr r e; omega), ?_, ?_⟩
  · exact (SX.grown h.tx hg (fun r e hb => by have := hr r e; omega)).weak fun b hb => ⟨hb.1, by omega, hb.2.2⟩
  · exact (SX.grown h.ex hg (fun r e hb => by have := hr r e; omega)).weak fun b hb => ⟨hb.1, by omega, hb.2.2⟩
theorem FinM.draw (h : FinM sb w1 kd nm va vc es ta tc tl ea ec el w) (hs : SG sb w w') : FinM sb w1 kd nm va vc es ta tc tl ea ec el w' :=
  h.kept (h.sg.trans hs) hs.1 (fun r e => by cases e; exact h.hsb)
theorem FinM.ext (h : FinM sb w1 kd nm va vc es ta tc tl ea ec el w) (hg : w.grownBy w' none) : FinM sb w1 kd nm va vc es ta tc tl ea ec el w' :=
  h.kept (h.sg.post hg h.hsb (fun r e => by cases e)) hg (fun r e => by cases e)
theorem FinM.lt (h : FinM sb w1 kd nm va vc es ta tc tl ea ec el w) : w1.heap.size < w.heap.size := h.row.lt
/-- a cell of its row set -/
theorem FinM.set {kd' : Int} {nm' : Str} {v : Value} {j : Nat} (h : FinM sb w1 kd nm va vc es ta tc tl ea ec el w) (hw : w' = w.setCell ⟨w1.heap.size, j, none⟩ v) (hset : [I kd, S nm, .slice va es.length vc, .slice ta tl.length tc, .slice ea el.length ec].set j v = [I kd', S nm', .slice va es.length vc, .slice ta tl.length tc, .slice ea el.length ec]) : FinM sb w1 kd' nm' va vc es ta tc tl ea ec el w' := by
  have hg : w.grownBy w' (some w1.heap.size) := by rw [hw]; exact setCell_grown _ _ _ _
  have hsz := hg.size
  refine ⟨h.sg.post hg h.hsb (fun r e => by cases e; exact Nat.le_refl _), h.hsb, ?_, h.as_.grown hg (fun r e => by cases e; omega), ?_, ?_⟩
  · rw [hw, ← hset]; exact h.row.set j v
  · exact (SX.grown h.tx hg (fun r e hb => by cases e; omega)).weak fun b hb => ⟨hb.1, by omega, hb.2.2⟩
  · exact (SX.grown h.ex hg (fun r e hb => by cases e; omega)).weak fun b hb => ⟨hb.1, by omega, hb.2.2⟩
theorem FinM.kind (kd' : Int) (h : FinM sb w1 kd nm va vc es ta tc tl ea ec el w) : FinM sb w1 kd' nm va vc es ta tc tl ea ec el (w.setCell ⟨w1.heap.size, 0, none⟩ (I kd')) := h.set rfl rfl
theorem FinM.name (nm' : Str) (h : FinM sb w1 kd nm va vc es ta tc tl ea ec el w) : FinM sb w1 kd nm' va vc es ta tc tl ea ec el (w.setCell ⟨w1.heap.size, 1, none⟩ (S nm')) := h.set rfl rfl
/-- the own block of its arguments is old -/
theorem FinM.own_lt (h : FinM sb w1 kd nm va vc es ta tc tl ea ec el w) : ∀ r, (Value.slice va es.length vc).ownBlock = some r → w1.heap.size < r ∧ r < w.heap.size := fun r e => by
  have := ownsRow_base h.as_.1 r e
  omega
/-- what is to be done, drawn -/
theorem FinM.thn {ta' : Option Addr} {tc' : Nat} {tl' : List LS} {w2 : World} (h : FinM sb w1 kd nm va vc es ta tc tl ea ec el w) (hs : SG sb w w2) (hx : SX (w.heap.size ≤ ·) w2 (.slice ta' tl'.length tc') tl') : FinM sb w1 kd nm va vc es ta' tc' tl' ea ec el (w2.setCell ⟨w1.heap.size, 3, none⟩ (.slice ta' tl'.length tc')) := by
  have h2 := h.draw hs
  have hg : w2.grownBy (w2.setCell ⟨w1.heap.size, 3, none⟩ (.slice ta' tl'.length tc')) (some w1.heap.size) := setCell_grown _ _ _ _
  have hsz := hg.size
  have hl := h.lt
  refine ⟨h2.sg.post hg h.hsb (fun r e => by cases e; exact Nat.le_refl _), h.hsb, h2.row.set 3 _, h2.as_.grown hg (fun r e => by cases e; omega), ?_, ?_⟩
  · exact (SX.grown (SX.size hx) hg (fun r e hb => by cases e; omega)).weak fun b hb => ⟨by omega, by omega, fun e => by have := (h.own_lt b e).2; omega⟩
  · exact (SX.grown h2.ex hg (fun r e hb => by cases e; omega)).weak fun b hb => ⟨hb.1, by omega, hb.2.2⟩
theorem FinM.els {ea' : Option Addr} {ec' : Nat} {el' : List LS} {w2 : World} (h : FinM sb w1 kd nm va vc es ta tc tl ea ec el w) (hs : SG sb w w2) (hx : SX (w.heap.size ≤ ·) w2 (.slice ea' el'.length ec') el') : FinM sb w1 kd nm va vc es ta tc tl ea' ec' el' (w2.setCell ⟨w1.heap.size, 4, none⟩ (.slice ea' el'.length ec')) := by
  have h2 := h.draw hs
  have hg : w2.grownBy (w2.setCell ⟨w1.heap.size, 4, none⟩ (.slice ea' el'.length ec')) (some w1.heap.size) := setCell_grown _ _ _ _
  have hsz := hg.size
  have hl := h.lt
  refine ⟨h2.sg.post hg h.hsb (fun r e => by cases e; exact Nat.le_refl _), h.hsb, h2.row.set 4 _, h2.as_.grown hg (fun r e => by cases e; omega), ?_, ?_⟩
  · exact (SX.grown h2.tx hg (fun r e hb => by cases e; omega)).weak fun b hb => ⟨hb.1, by omega, hb.2.2⟩
  · exact (SX.grown (SX.size hx) hg (fun r e hb => by cases e; omega)).weak fun b hb => ⟨by omega, by omega, fun e => by have := (h.own_lt b e).2; omega⟩
/-- one more argument -/
theorem FinM.app {y : EA} {o : Obj} {w2 w3 : World} {g cap : Nat} (h : FinM sb w1 kd nm va vc es ta tc tl ea ec el w) (hs : SG sb w w2) (hx : EX (w.heap.size ≤ ·) w2 y.av y.e)
    (ho : OwnS 5 31 eEnc w3 (w1.heap.size + 1) (.slice (some ⟨g, 0, none⟩) (es.length + 1) cap) (es ++ [y])) (hg : (w2.alloc o).grownBy w3 (Value.slice va es.length vc).ownBlock)
    (hat : (Value.slice va es.length vc).ownBlock = some g ∨ g = (w2.alloc o).heap.size) :
    FinM sb w1 kd nm (some ⟨g, 0, none⟩) cap (es ++ [y]) ta tc tl ea ec el (w3.setCell ⟨w1.heap.size, 2, none⟩ (.slice (some ⟨g, 0, none⟩) (es.length + 1) cap)) := by
  have h2 := h.draw hs
  have h2' := h2.ext (alloc_grown w2 o none)
  have hl := h.lt
  have hz2 : w.heap.size ≤ w2.heap.size := hs.1.size
  have hza : (w2.alloc o).heap.size = w2.heap.size + 1 := by simp
  have hz3 := hg.size
  have hown := h.own_lt
  have hs3 : SG sb w1 w3 := h2'.sg.post hg h.hsb (fun r e => by have := hown r e; omega)
  have hr3 : Row w3 w1.heap.size 54 _ := h2'.row.kept hg (fun e => by have := hown _ e.symm; omega)
  have he3 := EsI.app h.as_ hs.1 (fun r e => by cases e; have := h.hsb; omega) hx (by omega) ho hg rfl hat
  have hgs : w3.grownBy (w3.setCell ⟨w1.heap.size, 2, none⟩ (.slice (some ⟨g, 0, none⟩) (es.length + 1) cap)) (some w1.heap.size) := setCell_grown _ _ _ _
  have hzs := hgs.size
  have hlen : (es ++ [y]).length = es.length + 1 := by simp
  have hne : ∀ b, b < (w2.alloc o).heap.size → (Value.slice va es.length vc).ownBlock ≠ some b → (Value.slice (some ⟨g, 0, none⟩) (es ++ [y]).length cap).ownBlock ≠ some b := fun b hb hn e => by
    have e : some g = some b := e
    obtain rfl := Option.some.inj e
    rcases hat with h4 | h4
    · exact hn h4
    · omega
  refine ⟨hs3.post hgs h.hsb (fun r e => by cases e; exact Nat.le_refl _), h.hsb, ?_, ?_, ?_, ?_⟩
  · rw [hlen]; exact hr3.set 2 _
  · rw [hlen]; exact he3.grown hgs (fun r e => by cases e; omega)
  · exact (SX.grown (SX.grown h2'.tx hg (fun r e hb => hb.2.2 e)) hgs (fun r e hb => by cases e; omega)).weak fun b hb => ⟨hb.1, by omega, hne b hb.2.1 hb.2.2⟩
  · exact (SX.grown (SX.grown h2'.ex hg (fun r e hb => hb.2.2 e)) hgs (fun r e hb => by cases e; omega)).weak fun b hb => ⟨hb.1, by omega, hne b hb.2.1 hb.2.2⟩
/-- a new one -/
theorem FinM.new (w1 : World) (hs : Src sb w1) (kd : Int) : FinM sb w1 kd [] none 0 [] none 0 [] none 0 [] (w1.alloc (.cells #[I kd, S [], .slice none 0 0, .slice none 0 0, .slice none 0 0] 54)) := by
  refine ⟨⟨by have := alloc_grown w1 (.cells #[I kd, S [], .slice none 0 0, .slice none 0 0, .slice none 0 0] 54) (some sb); exact this, hs.kept (alloc_grown _ _ none) (fun r e => by cases e)⟩, hs.lt, heap_new _ _, EsI.nil _ _, ⟨0, RSlB.nil _ _ _ _⟩, ⟨0, RSlB.nil _ _ _ _⟩⟩
/-- one that has nothing yet -/
theorem FinM.nil (hs : SG sb w1 w) (hsb : sb < w1.heap.size) (hr : Row w w1.heap.size 54 [I kd, S nm, .slice none 0 0, .slice none 0 0, .slice none 0 0]) : FinM sb w1 kd nm none 0 [] none 0 [] none 0 [] w :=
  ⟨hs, hsb, hr, EsI.nil _ _, ⟨0, RSlB.nil _ _ _ _⟩, ⟨0, RSlB.nil _ _ _ _⟩⟩
theorem FinM.part (h : FinM sb w1 kd nm va vc es ta tc tl ea ec el w) (hn : es.length ≤ 1000000000) : PartD (w1.heap.size ≤ ·) w ⟨.mk kd nm (es.map EA.e) tl el, va, vc, ta, tc, ea, ec⟩ := by
  have h1 := h.as_.read (e := .mk 0 0 0 [] (es.map EA.e)) hn rfl
  refine ⟨?_, SX.weak h.tx fun b hb => (by omega : w1.heap.size ≤ b), SX.weak h.ex fun b hb => (by omega : w1.heap.size ≤ b)⟩
  show EX _ w (.slice va (es.map EA.e).length vc) _
  rw [List.length_map]
  exact EX.weak h1 fun b hb => (by omega : w1.heap.size ≤ b)
end
/-- how many arguments a kind of statements has -/
def manyK (kd : Int) : Nat := if kd = 2 then 2 else if kd = 5 ∨ kd = 6 then 0 else 1
section
variable {c : Sc} {d : Nat} {loop : Bool}
/-- what a statement is, when its arguments are there -/
def FinK (c : Sc) (d : Nat) (loop : Bool) (kd : Int) (nm : Str) (es : List EA) (tl el : List LS) : Prop :=
  es.length ≤ manyK kd ∧ (∀ p ∈ es, DrE c 4 p.e) ∧ ∀ l, es.map EA.e <+: l → l.length = manyK kd → (∀ e ∈ l, DrE c 4 e) → DrS c (d + 1) loop (.mk kd nm l tl el)
theorem FinK.print {kd : Int} (hk : kd = 7 ∨ kd = 8 ∨ kd = 9) : FinK c d loop kd [] [] [] [] := by
  have hm : manyK kd = 1 := by unfold manyK; rw [if_neg (by omega), if_neg (by omega)]
  exact ⟨by simp, (fun p hp => by cases hp), fun l _ hl h => ⟨.inr (.inr (.inr (.inr (.inr (.inl ⟨hk, rfl, hl.trans hm, rfl, rfl⟩))))), h, (fun x hx => by cases hx), fun x hx => by cases hx⟩⟩
theorem FinK.set {nm : Str} (h1 : c.okV nm) : FinK c d loop 1 nm [] [] [] :=
  ⟨by simp, (fun p hp => by cases hp), fun l _ hl h => ⟨.inl ⟨rfl, h1, hl, rfl, rfl⟩, h, (fun x hx => by cases hx), fun x hx => by cases hx⟩⟩
theorem FinK.store {nm : Str} (h1 : c.okA nm) : FinK c d loop 2 nm [] [] [] :=
  ⟨by simp, (fun p hp => by cases hp), fun l _ hl h => ⟨.inr (.inl ⟨rfl, h1, hl, rfl, rfl⟩), h, (fun x hx => by cases hx), fun x hx => by cases hx⟩⟩
theorem FinK.brk {kd : Int} (hk : kd = 5 ∨ kd = 6) (hl : loop = true) : FinK c d loop kd [] [] [] [] := by
  have hm : manyK kd = 0 := by unfold manyK; rw [if_neg (by omega), if_pos hk]
  exact ⟨by simp, (fun p hp => by cases hp), fun l _ hn h => ⟨.inr (.inr (.inr (.inr (.inl ⟨hk, hl, rfl, hn.trans hm, rfl, rfl⟩)))), h, (fun x hx => by cases hx), fun x hx => by cases hx⟩⟩
theorem FinK.call {y : EA} (hy : DrE c 4 y.e) (hk : y.e.kind = 5) : FinK c d loop 10 [] [y] [] [] :=
  ⟨by simp [manyK], (fun p hp => by obtain rfl := List.mem_singleton.1 hp; exact hy), fun l hp hl h => ⟨.inr (.inr (.inr (.inr (.inr (.inr ⟨rfl, rfl, hl, fun a ha => by
    obtain ⟨t, rfl⟩ := hp
    have ht : t = [] := by
      have hl : ([y.e] ++ t).length = 1 := hl
      exact List.length_eq_zero_iff.1 (by simpa using hl)
    subst ht
    have ha : a ∈ [y.e] ++ [] := ha
    rw [List.append_nil] at ha
    obtain rfl := List.mem_singleton.1 ha
    exact hk, rfl, rfl⟩))))), h, (fun x hx => by cases hx), fun x hx => by cases hx⟩⟩
theorem FinK.iff {y : EA} {tl el : List LS} (hy : DrE c 4 y.e) (ht : ∀ s ∈ tl, DrS c d loop s) (he : ∀ s ∈ el, DrS c d loop s) : FinK c d loop 3 [] [y] tl el :=
  ⟨by simp [manyK], (fun p hp => by obtain rfl := List.mem_singleton.1 hp; exact hy), fun l _ hl h => ⟨.inr (.inr (.inl ⟨rfl, rfl, hl⟩)), h, (fun x hx => by
    show DrS c d (loop || ((3 : Int) == 4)) x
    rw [show ((3 : Int) == 4) = false from rfl, Bool.or_false]
    exact ht x hx), he⟩⟩
theorem FinK.whl {y : EA} {tl : List LS} (hy : DrE c 4 y.e) (ht : ∀ s ∈ tl, DrS c d true s) : FinK c d loop 4 [] [y] tl [] :=
  ⟨by simp [manyK], (fun p hp => by obtain rfl := List.mem_singleton.1 hp; exact hy), fun l _ hl h => ⟨.inr (.inr (.inr (.inl ⟨rfl, rfl, hl, rfl⟩))), h, (fun x hx => by
    show DrS c d (loop || ((4 : Int) == 4)) x
    rw [show ((4 : Int) == 4) = true from rfl, Bool.or_true]
    exact ht x hx), fun x hx => by cases hx⟩⟩
/-- one more argument -/
theorem FinK.app {kd : Int} {nm : Str} {es : List EA} {tl el : List LS} {y : EA} (h : FinK c d loop kd nm es tl el) (hy : DrE c 4 y.e) (hl : es.length < manyK kd) : FinK c d loop kd nm (es ++ [y]) tl el := by
  refine ⟨by simp; omega, fun p hp => ?_, fun l hp hn hd => h.2.2 l ?_ hn hd⟩
  · rcases List.mem_append.1 hp with hp | hp
    · exact h.2.1 p hp
    · obtain rfl := List.mem_singleton.1 hp; exact hy
  · rw [List.map_append] at hp
    exact (List.prefix_append _ _).trans hp
theorem FinK.full {kd : Int} {nm : Str} {es : List EA} {tl el : List LS} (h : FinK c d loop kd nm es tl el) (hl : es.length = manyK kd) : DrS c (d + 1) loop (.mk kd nm (es.map EA.e) tl el) :=
  h.2.2 _ (List.prefix_refl _) (by rw [List.length_map, hl]) fun e he => by
    obtain ⟨p, hp, rfl⟩ := List.mem_map.1 he
    exact h.2.1 p hp
end
end Go.Proofs.YtjgbkdbkachciaaGreatDoor

namespace Go.Proofs.YtjgbkdbkachciaaGreatDoor
open Go.RowKit Go.Shelf

/-! ### raw programs may run -/
theorem okS_up : ∀ (d : Nat) (s : LS), okS d s → okS (d + 1) s
  | 0, _, h => h.elim
  | d + 1, _, h => ⟨h.1, h.2.1, h.2.2.1, h.2.2.2.1, h.2.2.2.2.1, h.2.2.2.2.2.1, h.2.2.2.2.2.2.1, fun x hx => okS_up d x (h.2.2.2.2.2.2.2.1 x hx), fun x hx => okS_up d x (h.2.2.2.2.2.2.2.2 x hx)⟩
theorem okS_le {d d' : Nat} (hd : d ≤ d') {s : LS} (h : okS d s) : okS d' s := by
  induction hd with
  | refl => exact h
  | step _ ih => exact okS_up _ _ ih
section
variable {c : Sc} {p : LP} {vs : List Str}
theorem DrS.okS (hc : ScOk c p vs) : ∀ (d : Nat) (loop : Bool) (s : LS), DrS c d loop s → Go.Proofs.YtjgbkdbkachciaaGreatDoor.okS d s
  | 0, _, _, h => h.elim
  | d + 1, loop, s, h => by
    obtain ⟨h0, h1, h2, h3⟩ := h
    have he : ∀ x ∈ s.args, okE 40 x := fun x hx => okE_le (by decide) (DrE.ok hc 4 x (h1 x hx))
    have ht : ∀ x ∈ s.thn, Go.Proofs.YtjgbkdbkachciaaGreatDoor.okS d x := fun x hx => DrS.okS hc d _ x (h2 x hx)
    have hl : ∀ x ∈ s.els, Go.Proofs.YtjgbkdbkachciaaGreatDoor.okS d x := fun x hx => DrS.okS hc d _ x (h3 x hx)
    have hz : ((1 ≤ s.kind ∧ s.kind ≤ 10) ∧ (s.kind = 10 → ∀ a ∈ s.args, a.kind = 5)) ∧ s.args.length = (formL s.kind).args ∧ ((formL s.kind).thn = false → s.thn = []) ∧ ((formL s.kind).more = false → s.els = []) ∧
        ((formL s.kind).named = true → Asc s.name ∧ isName s.name = true) ∧ ((formL s.kind).named = false → s.name = []) := by
      rcases h0 with ⟨g1, g2, g3, g4, g5⟩ | ⟨g1, g2, g3, g4, g5⟩ | ⟨g1, g2, g3⟩ | ⟨g1, g2, g3, g4⟩ | ⟨g1, g2, g3, g4, g5, g6⟩ | ⟨g1, g2, g3, g4, g5⟩ | ⟨g1, g2, g3, g4, g5, g6⟩
      · rw [g1]
        exact ⟨⟨by decide, fun h => by cases h⟩, g3, fun _ => g4, fun _ => g5, fun _ => (hc.v _ g2).1, fun h => by cases h⟩
      · rw [g1]
        exact ⟨⟨by decide, fun h => by cases h⟩, g3, fun _ => g4, fun _ => g5, fun _ => (hc.a _ g2).1, fun h => by cases h⟩
      · rw [g1]
        exact ⟨⟨by decide, fun h => by cases h⟩, g3, fun h => (by cases h), fun h => (by cases h), fun h => (by cases h), fun _ => g2⟩
      · rw [g1]
        exact ⟨⟨by decide, fun h => by cases h⟩, g3, fun h => (by cases h), fun _ => g4, fun h => (by cases h), fun _ => g2⟩
      · rcases g1 with g1 | g1 <;> rw [g1] <;> exact ⟨⟨by decide, fun h => by cases h⟩, g4, fun _ => g5, fun _ => g6, fun h => (by cases h), fun _ => g3⟩
      · rcases g1 with g1 | g1 | g1 <;> rw [g1] <;> exact ⟨⟨by decide, fun h => by cases h⟩, g3, fun _ => g4, fun _ => g5, fun h => (by cases h), fun _ => g2⟩
      · rw [g1]
        exact ⟨⟨by decide, fun _ => g4⟩, g3, fun _ => g5, fun _ => g6, fun h => (by cases h), fun _ => g2⟩
    exact ⟨hz.1, hz.2.1, hz.2.2.1, hz.2.2.2.1, hz.2.2.2.2.1, hz.2.2.2.2.2, he, ht, hl⟩
end
section
variable {ars : List LA} {fs : List PQ}
theorem RawP.own (_h : RawP ars fs) {q : PQ} (_hq : q ∈ fs) : (q.f.params ++ q.f.locals).Sublist (nmP ++ nmL) := (List.take_sublist _ _).append (List.take_sublist _ _)
theorem RawP.J (h : RawP ars fs) {q : PQ} (hq : q ∈ fs) : functionJ (rawP ars fs) q.f = 0 := by
  unfold functionJ
  have hsub := h.own hq
  have h1 : twiceB (q.f.params ++ q.f.locals) = false := twiceB_nodup (hsub.nodup nm_nodup)
  have h2 : ((q.f.params ++ q.f.locals).any fun s => decide (s ∈ globalsL (rawP ars fs))) = false := by
    rw [List.any_eq_false]
    intro x hx hd
    exact nm_apart x (hsub.subset hx) (h.sub.subset (of_decide_eq_true hd))
  rw [if_neg (by rw [h1, h2]; decide)]
  exact firstI_zero fun y hy => DrS.Js 4 false q.body (fun s hs => DrS.J (h.sc hq) 4 false s hs) (h.body q hq) y hy
theorem RawP.runs (h : RawP ars fs) (hcat : ∀ q ∈ fs, CatOk q.f) : Runs (rawP ars fs) := by
  have hfs : ∀ f ∈ (rawP ars fs).funcs, ∃ q ∈ fs, q.f = f := fun f hf => by
    obtain ⟨q, hq, e⟩ := List.mem_map.1 (show f ∈ fs.map PQ.f from hf)
    exact ⟨q, hq, e⟩
  have hsub := h.sub
  have hgl := hsub.length_le
  refine ⟨⟨fun a ha => ?_, fun f hf => ?_⟩, ⟨?_, h.main, fun f hf => ?_⟩, fun f hf => ?_, ⟨h.main, fun f hf x hx => ?_⟩, ?_, fun f hf => ?_⟩
  · exact ⟨nm_ok _ (List.mem_append_right _ (h.nm_as a ha)), h.size a ha⟩
  · obtain ⟨q, hq, rfl⟩ := hfs f hf
    refine ⟨nm_ok _ (List.mem_append_right _ (h.nm_fs q hq)), fun x hx => ?_, fun x hx => ?_, ?_, fun x hx => ?_⟩
    · exact nm_ok _ (List.mem_append_left _ ((h.own hq).subset (List.mem_append_left _ hx)))
    · exact nm_ok _ (List.mem_append_left _ ((h.own hq).subset (List.mem_append_right _ hx)))
    · have := (h.few q hq).1
      show (nmP.take q.np).length ≤ 6
      rw [List.length_take]
      omega
    · exact okS_le (by decide) (DrS.okS (h.sc hq) 4 false x (h.body q hq x hx))
  · exact twiceB_nodup (hsub.nodup (by decide))
  · obtain ⟨q, hq, rfl⟩ := hfs f hf
    exact h.J hq
  · obtain ⟨q, hq, rfl⟩ := hfs f hf
    exact hcat q hq
  · obtain ⟨q, hq, rfl⟩ := hfs f hf
    exact ⟨4, DrS.Y (h.sc hq) 4 false x (h.body q hq x hx)⟩
  · rw [h.globals] at hgl
    simp only [List.length_append, List.length_map] at hgl
    show ars.length + (fs.map PQ.f).length ≤ _
    rw [List.length_map]
    have : nmG.length = 5 := rfl
    omega
  · obtain ⟨q, hq, rfl⟩ := hfs f hf
    show (nmP.take q.np).length + (nmL.take q.nl).length ≤ _
    rw [List.length_take, List.length_take]
    have h1 : nmP.length = 6 := rfl
    have h2 : nmL.length = 5 := rfl
    omega
end
end Go.Proofs.YtjgbkdbkachciaaGreatDoor
