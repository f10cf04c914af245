import Derived.Test.YtjgbkdbkachciaaGreatDoorB4
import Derived.Test.YtjgbkdbkachciaaGreatDoorZ4
namespace Go.Proofs.YtjgbkdbkachciaaGreatDoor
open Go.RowKit Go.Shelf

/-! ### what is drawn is right -/
/-- statements that are drawn -/
def DrS (c : Sc) : Nat → Bool → LS → Prop
  | 0, _, _ => False
  | d + 1, loop, s =>
    ((s.kind = 1 ∧ c.okV s.name ∧ s.args.length = 1 ∧ s.thn = [] ∧ s.els = []) ∨ (s.kind = 2 ∧ c.okA s.name ∧ s.args.length = 2 ∧ s.thn = [] ∧ s.els = []) ∨
      (s.kind = 3 ∧ s.name = [] ∧ s.args.length = 1) ∨ (s.kind = 4 ∧ s.name = [] ∧ s.args.length = 1 ∧ s.els = []) ∨
      ((s.kind = 5 ∨ s.kind = 6) ∧ loop = true ∧ s.name = [] ∧ s.args.length = 0 ∧ s.thn = [] ∧ s.els = []) ∨
      ((s.kind = 7 ∨ s.kind = 8 ∨ s.kind = 9) ∧ s.name = [] ∧ s.args.length = 1 ∧ s.thn = [] ∧ s.els = []) ∨
      (s.kind = 10 ∧ s.name = [] ∧ s.args.length = 1 ∧ (∀ a ∈ s.args, a.kind = 5) ∧ s.thn = [] ∧ s.els = [])) ∧
    (∀ x ∈ s.args, DrE c 4 x) ∧ (∀ x ∈ s.thn, DrS c d (loop || s.kind == 4) x) ∧ ∀ x ∈ s.els, DrS c d loop x
theorem DrE.up (c : Sc) : ∀ (d : Nat) (e : LE), DrE c d e → DrE c (d + 1) e
  | 0, _, h => h.elim
  | d + 1, _, h => ⟨h.1, fun x hx => DrE.up c d x (h.2 x hx)⟩
theorem DrE.le {c : Sc} {d d' : Nat} (hd : d ≤ d') {e : LE} (h : DrE c d e) : DrE c d' e := by
  induction hd with
  | refl => exact h
  | step _ ih => exact DrE.up c _ _ ih
abbrev NmOk (x : Str) : Prop := Asc x ∧ isName x = true
/-- what there is, is of a program -/
structure ScOk (c : Sc) (p : LP) (vs : List Str) : Prop where
  v : ∀ x, c.okV x → NmOk x ∧ x ∈ vs
  a : ∀ x, c.okA x → NmOk x ∧ 0 ≤ placeA p x
  f : ∀ x n, c.okC x n → NmOk x ∧ n ≤ 6 ∧ 0 ≤ placeF p x ∧ (fnAt p (placeF p x)).params.length = n
section
variable {c : Sc} {p : LP} {vs : List Str}
theorem DrE.ok (hc : ScOk c p vs) : ∀ (d : Nat) (e : LE), DrE c d e → okE d e
  | 0, _, h => h.elim
  | d + 1, e, h => by
    refine ⟨?_, fun x hx => DrE.ok hc d x (h.2 x hx)⟩
    rcases h.1 with h1 | ⟨h1, h2, h3⟩ | h1 | h1 | ⟨h1, h2, h3⟩ | ⟨h1, h2, h3⟩ | h1
    · exact .inl h1
    · exact .inr (.inl ⟨h1, (hc.v _ h2).1, h3⟩)
    · exact .inr (.inr (.inl h1))
    · exact .inr (.inr (.inr (.inl h1)))
    · exact .inr (.inr (.inr (.inr (.inl ⟨h1, (hc.f _ _ h2).1, h3.1, h3.2, (hc.f _ _ h2).2.1⟩))))
    · exact .inr (.inr (.inr (.inr (.inr (.inl ⟨h1, (hc.a _ h2).1, h3⟩)))))
    · exact .inr (.inr (.inr (.inr (.inr (.inr h1)))))
theorem DrE.J (hc : ScOk c p vs) : ∀ (d : Nat) (e : LE), DrE c d e → exprJ p vs e = 0
  | 0, _, h => h.elim
  | d + 1, e, h => by
    have ho : ownI p vs e = 0 := by
      unfold ownI
      rcases h.1 with ⟨h1, _⟩ | ⟨h1, h2, h3⟩ | ⟨h1, _⟩ | ⟨h1, _⟩ | ⟨h1, h2, h3⟩ | ⟨h1, h2, h3⟩ | ⟨h1, _⟩
      · rw [if_neg (by omega), if_neg (by omega), if_neg (by omega)]
      · rw [if_pos h1, decide_eq_true (hc.v _ h2).2]; rfl
      · rw [if_neg (by omega), if_neg (by omega), if_neg (by omega)]
      · rw [if_neg (by omega), if_neg (by omega), if_neg (by omega)]
      · rw [if_neg (by omega), if_neg (by omega), if_pos h1, if_neg (by have := (hc.f _ _ h2).2.2.1; omega), decide_eq_true (hc.f _ _ h2).2.2.2]; rfl
      · rw [if_neg (by omega), if_pos h1, decide_eq_true (hc.a _ h2).2]; rfl
      · rw [if_neg (by omega), if_neg (by omega), if_neg (by omega)]
    rw [exprJ_eq, if_pos ho, exprsJ_eq]
    exact firstI_zero fun x hx => DrE.J hc d x (h.2 x hx)
theorem DrE.X (hc : ScOk c p vs) : ∀ (d : Nat) (e : LE), DrE c d e → XEd p d e
  | 0, _, h => h.elim
  | d + 1, e, h => by
    refine ⟨?_, fun x hx => DrE.X hc d x (h.2 x hx)⟩
    rcases h.1 with ⟨h1, _⟩ | ⟨h1, _⟩ | ⟨h1, _, _, _, h5⟩ | ⟨h1, _, _, _, h5⟩ | ⟨h1, h2, h3⟩ | ⟨h1, h2, _, _, h5⟩ | ⟨h1, _⟩
    · exact ⟨⟨by omega, by omega⟩, fun h => by omega, fun h => by omega, fun h => by omega, fun h => by omega⟩
    · exact ⟨⟨by omega, by omega⟩, fun h => by omega, fun h => by omega, fun h => by omega, fun h => by omega⟩
    · exact ⟨⟨by omega, by omega⟩, fun _ => h5, fun h => by omega, fun h => by omega, fun h => by omega⟩
    · exact ⟨⟨by omega, by omega⟩, fun h => by omega, fun _ => h5, fun h => by omega, fun h => by omega⟩
    · exact ⟨⟨by omega, by omega⟩, fun h => by omega, fun h => by omega, fun h => by omega, fun _ => (hc.f _ _ h2).2.2⟩
    · exact ⟨⟨by omega, by omega⟩, fun h => by omega, fun h => by omega, fun _ => ⟨h5, (hc.a _ h2).2⟩, fun h => by omega⟩
    · exact ⟨⟨by omega, by omega⟩, fun h => by omega, fun h => by omega, fun h => by omega, fun h => by omega⟩
theorem DrS.Js (d : Nat) (loop : Bool) : ∀ (l : List LS), (∀ s : LS, DrS c d loop s → ∀ q ∈ flatS loop s, stmtJ p vs q.2 q.1 = 0) → (∀ x ∈ l, DrS c d loop x) → ∀ q ∈ flatSs loop l, stmtJ p vs q.2 q.1 = 0
  | [], _, _, q, hq => by rw [flatSs] at hq; cases hq
  | x :: l, ih, h, q, hq => by
    rw [flatSs] at hq
    rcases List.mem_append.1 hq with hq | hq
    · exact ih x (h x (by simp)) q hq
    · exact DrS.Js d loop l ih (fun y hy => h y (by simp [hy])) q hq
theorem DrS.J (hc : ScOk c p vs) : ∀ (d : Nat) (loop : Bool) (s : LS), DrS c d loop s → ∀ q ∈ flatS loop s, stmtJ p vs q.2 q.1 = 0
  | 0, _, _, h => h.elim
  | d + 1, loop, s, h => by
    obtain ⟨h0, h1, h2, h3⟩ := h
    intro q hq
    rw [flatS_eq] at hq
    rcases List.mem_cons.1 hq with rfl | hq
    · have ho : stmtO p vs loop s = 0 := by
        unfold stmtO
        rcases h0 with ⟨g1, g2, _⟩ | ⟨g1, g2, _⟩ | ⟨g1, _⟩ | ⟨g1, _⟩ | ⟨g1, g2, _⟩ | ⟨g1, _⟩ | ⟨g1, _⟩
        · rw [if_neg (by omega), if_pos g1, decide_eq_true (hc.v _ g2).2]; rfl
        · rw [if_neg (by omega), if_neg (by omega), if_pos g1, decide_eq_true (hc.a _ g2).2]; rfl
        · rw [if_neg (by omega), if_neg (by omega), if_neg (by omega)]
        · rw [if_neg (by omega), if_neg (by omega), if_neg (by omega)]
        · rw [if_pos g1, g2]; rfl
        · rw [if_neg (by omega), if_neg (by omega), if_neg (by omega)]
        · rw [if_neg (by omega), if_neg (by omega), if_neg (by omega)]
      show stmtJ p vs loop s = 0
      rw [stmtJ_0 ho, exprsJ_eq]
      exact firstI_zero fun x hx => DrE.J hc 4 x (h1 x hx)
    · rcases List.mem_append.1 hq with hq | hq
      · exact DrS.Js d _ _ (DrS.J hc d _) h2 q hq
      · exact DrS.Js d _ _ (DrS.J hc d _) h3 q hq
theorem DrS.Y (hc : ScOk c p vs) : ∀ (d : Nat) (loop : Bool) (s : LS), DrS c d loop s → YSd p d s
  | 0, _, _, h => h.elim
  | d + 1, loop, s, h => by
    obtain ⟨h0, h1, h2, h3⟩ := h
    refine ⟨⟨fun hk => ?_, fun hk => ?_, fun x hx => ⟨4, DrE.X hc 4 x (h1 x hx)⟩⟩, fun x hx => DrS.Y hc d _ x (h2 x hx), fun x hx => DrS.Y hc d _ x (h3 x hx)⟩
    · rcases h0 with ⟨g1, _, g2, _⟩ | ⟨g1, _⟩ | ⟨g1, _, g2⟩ | ⟨g1, _, g2, _⟩ | ⟨g1, _⟩ | ⟨g1, _, g2, _⟩ | ⟨g1, _, g2, _⟩ <;> first | exact g2 | omega
    · rcases h0 with ⟨g1, _⟩ | ⟨g1, g3, g2, _⟩ | ⟨g1, _⟩ | ⟨g1, _⟩ | ⟨g1, _⟩ | ⟨g1, _⟩ | ⟨g1, _⟩ <;> first | exact ⟨g2, (hc.a _ g3).2⟩ | omega
end
end Go.Proofs.YtjgbkdbkachciaaGreatDoor

namespace Go.Proofs.YtjgbkdbkachciaaGreatDoor
open Go.RowKit Go.Shelf

/-! ### raw programs are right -/
theorem twiceB_nodup {l : List Str} (h : l.Nodup) : twiceB l = false := by
  have hs : (sortS l).Nodup := (List.mergeSort_perm l _).nodup_iff.2 h
  have hk : Lib.compact (sortS l) = sortS l := Lib.compact_all _ fun j hj => by
    rcases Nat.eq_zero_or_pos j with rfl | h0
    · simp [Lib.keeps]
    · have hp := (List.pairwise_iff_getElem.1 hs) (j - 1) j (by omega) hj (by omega)
      refine Lib.keeps_pos fun e => hp ?_
      rw [List.getElem!_toArray, List.getElem!_toArray, getElem!_pos (sortS l) j hj, getElem!_pos (sortS l) (j - 1) (by omega)] at e
      exact e.symm
  unfold twiceB
  rw [hk, show (sortS l).length = l.length from (List.mergeSort_perm l _).length_eq]
  simp
abbrev nB : Str := [98]
abbrev nC : Str := [99]
abbrev nG : Str := [103]
abbrev nH : Str := [104]
def nmP : List Str := [[112], [113], [114], [115], [116], [117]]
def nmL : List Str := [[120], [121], [122], [105], [107]]
def nmG : List Str := [nC, nB, wMain, nH, nG]
theorem nm_ok : ∀ x ∈ nmP ++ nmL ++ nmG, NmOk x := by
  have h : (nmP ++ nmL ++ nmG).all (fun x => x.all (fun b => decide (b.toNat < 128)) && isName x) = true := by decide +kernel
  intro x hx
  have := List.all_eq_true.1 h x hx
  simp only [Bool.and_eq_true] at this
  exact ⟨asc_of this.1, this.2⟩
theorem nm_nodup : (nmP ++ nmL).Nodup := by decide
theorem nm_apart : ∀ x ∈ nmP ++ nmL, x ∉ nmG := by decide
/-- a function of a raw program -/
structure PQ where
  nm : Str
  np : Nat
  nl : Nat
  body : List LS
def PQ.f (q : PQ) : LF := ⟨q.nm, nmP.take q.np, nmL.take q.nl, q.body⟩
def scQ (ars : List LA) (fs : List PQ) (q : PQ) : Sc := ⟨false, fun x => x ∈ nmP.take q.np ++ nmL.take q.nl, fun x => ∃ a ∈ ars, a.name = x, fun x n => ∃ q' ∈ fs, q'.nm = x ∧ q'.np = n⟩
structure RawP (ars : List LA) (fs : List PQ) : Prop where
  arr : ars.map (·.name) = [] ∨ ars.map (·.name) = [nB] ∨ ars.map (·.name) = [nC, nB]
  size : ∀ a ∈ ars, 1 ≤ a.size ∧ a.size ≤ 1048576
  fun_ : fs.map PQ.nm = [wMain] ∨ fs.map PQ.nm = [wMain, nG] ∨ fs.map PQ.nm = [wMain, nH, nG]
  few : ∀ q ∈ fs, q.np ≤ 6 ∧ q.nl ≤ 5 ∧ (q.nm = wMain → q.np = 0)
  body : ∀ q ∈ fs, ∀ s ∈ q.body, DrS (scQ ars fs q) 4 false s
theorem placeI_mem {α : Type} {t : α → Bool} {l : List α} (h : ∃ x ∈ l, t x = true) : 0 ≤ placeI t l ∧ ∃ hk : (placeI t l).toNat < l.length, t l[(placeI t l).toNat] = true := by
  have hlt : l.findIdx t < l.length := List.findIdx_lt_length_of_exists h
  have e : placeI t l = (l.findIdx t : Int) := by unfold placeI; rw [if_pos hlt]
  rw [e]
  exact ⟨by omega, by simpa using hlt, by simpa using List.findIdx_getElem (w := hlt)⟩
section
variable {ars : List LA} {fs : List PQ}
abbrev rawP (ars : List LA) (fs : List PQ) : LP := ⟨ars, fs.map PQ.f⟩
theorem nodup_inj {α β : Type} {f : α → β} : ∀ {l : List α}, (l.map f).Nodup → ∀ x ∈ l, ∀ y ∈ l, f x = f y → x = y
  | [], _, x, hx, _, _, _ => by cases hx
  | a :: l, h, x, hx, y, hy, e => by
    rw [List.map_cons, List.nodup_cons] at h
    rcases List.mem_cons.1 hx with hx | hx <;> rcases List.mem_cons.1 hy with hy | hy
    · rw [hx, hy]
    · rw [hx] at e; exact absurd (List.mem_map.2 ⟨y, hy, e.symm⟩) h.1
    · rw [hy] at e; exact absurd (List.mem_map.2 ⟨x, hx, e⟩) h.1
    · exact nodup_inj h.2 x hx y hy e
theorem RawP.globals (_h : RawP ars fs) : globalsL (rawP ars fs) = ars.map (·.name) ++ fs.map PQ.nm := by
  unfold globalsL
  rw [List.map_map]
  rfl
theorem RawP.sub (h : RawP ars fs) : (globalsL (rawP ars fs)).Sublist nmG := by
  rw [h.globals]
  rcases h.arr with h1 | h1 | h1 <;> rcases h.fun_ with h2 | h2 | h2 <;> rw [h1, h2] <;> decide
theorem RawP.nm_fs (h : RawP ars fs) : ∀ q ∈ fs, q.nm ∈ nmG := fun q hq => h.sub.subset (by rw [h.globals]; exact List.mem_append_right _ (List.mem_map.2 ⟨q, hq, rfl⟩))
theorem RawP.nm_as (h : RawP ars fs) : ∀ a ∈ ars, a.name ∈ nmG := fun a ha => h.sub.subset (by rw [h.globals]; exact List.mem_append_left _ (List.mem_map.2 ⟨a, ha, rfl⟩))
theorem RawP.fn (h : RawP ars fs) {q : PQ} (hq : q ∈ fs) : 0 ≤ placeF (rawP ars fs) q.nm ∧ (placeF (rawP ars fs) q.nm).toNat < (rawP ars fs).funcs.length ∧ fnAt (rawP ars fs) (placeF (rawP ars fs) q.nm) = q.f := by
  obtain ⟨h1, h2, h3⟩ := placeI_mem (t := fun f : LF => decide (f.name = q.nm)) (l := (rawP ars fs).funcs) ⟨q.f, List.mem_map.2 ⟨q, hq, rfl⟩, by simp [PQ.f]⟩
  refine ⟨h1, h2, ?_⟩
  have hn : (fs.map PQ.nm).Nodup := by
    rcases h.fun_ with e | e | e <;> rw [e] <;> decide
  unfold fnAt
  rw [List.getD_eq_getElem?_getD, show (rawP ars fs).funcs[(placeF (rawP ars fs) q.nm).toNat]? = some ((rawP ars fs).funcs[(placeF (rawP ars fs) q.nm).toNat]'h2) from List.getElem?_eq_getElem h2, Option.getD_some]
  have hm := List.getElem_mem h2
  obtain ⟨q', hq', e⟩ := List.mem_map.1 (show _ ∈ fs.map PQ.f from hm)
  have h3 := of_decide_eq_true h3
  have h4 : q'.nm = q.nm := by rw [show q'.nm = q'.f.name from rfl, e]; exact h3
  rw [show (rawP ars fs).funcs[(placeF (rawP ars fs) q.nm).toNat]'h2 = q'.f from e.symm, nodup_inj hn q' hq' q hq h4]
theorem RawP.sc (h : RawP ars fs) {q : PQ} (_hq : q ∈ fs) : ScOk (scQ ars fs q) (rawP ars fs) (q.f.params ++ q.f.locals) := by
  refine ⟨fun x hx => ⟨?_, hx⟩, fun x ⟨a, ha, e⟩ => ⟨?_, ?_⟩, fun x n ⟨q', hq', e1, e2⟩ => ⟨?_, ?_, ?_⟩⟩
  · refine nm_ok x (List.mem_append_left _ ?_)
    rcases List.mem_append.1 (show x ∈ nmP.take q.np ++ nmL.take q.nl from hx) with hx | hx
    · exact List.mem_append_left _ (List.mem_of_mem_take hx)
    · exact List.mem_append_right _ (List.mem_of_mem_take hx)
  · rw [← e]; exact nm_ok _ (List.mem_append_right _ (h.nm_as a ha))
  · exact (placeI_mem ⟨a, ha, by simp [e]⟩).1
  · rw [← e1]; exact nm_ok _ (List.mem_append_right _ (h.nm_fs q' hq'))
  · rw [← e2]; exact (h.few q' hq').1
  · rw [← e1, (h.fn hq').2.2]
    refine ⟨(h.fn hq').1, ?_⟩
    show (nmP.take q'.np).length = n
    have := (h.few q' hq').1
    rw [List.length_take, ← e2]
    show min q'.np 6 = q'.np
    omega
theorem RawP.main (h : RawP ars fs) : ∃ k : Nat, placeF (rawP ars fs) wMain = k ∧ ∃ hk : k < (rawP ars fs).funcs.length, ((rawP ars fs).funcs[k]'hk).params = [] := by
  have hm : ∃ q ∈ fs, q.nm = wMain := by
    have : wMain ∈ fs.map PQ.nm := by rcases h.fun_ with e | e | e <;> rw [e] <;> simp
    obtain ⟨q, hq, e⟩ := List.mem_map.1 this
    exact ⟨q, hq, e⟩
  obtain ⟨q, hq, e⟩ := hm
  obtain ⟨h1, h2, h3⟩ := h.fn hq
  rw [e] at h1 h2 h3
  refine ⟨(placeF (rawP ars fs) wMain).toNat, by omega, h2, ?_⟩
  have h4 : (rawP ars fs).funcs[(placeF (rawP ars fs) wMain).toNat]'h2 = q.f := by
    rw [← h3]
    unfold fnAt
    rw [List.getD_eq_getElem?_getD, List.getElem?_eq_getElem h2, Option.getD_some]
  rw [h4]
  show nmP.take q.np = []
  rw [(h.few q hq).2.2 e]
  rfl
end
end Go.Proofs.YtjgbkdbkachciaaGreatDoor
