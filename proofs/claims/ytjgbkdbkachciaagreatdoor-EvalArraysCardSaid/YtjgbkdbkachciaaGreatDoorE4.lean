import Derived.Test.YtjgbkdbkachciaaGreatDoorW2
import Derived.Lib.AppendZeros
namespace Go.Proofs.YtjgbkdbkachciaaGreatDoor
open Go.RowKit Go.Shelf
attribute [local go_sem] Oper.semAt_some

theorem flatMap_sEncS (l : List Str) : l.flatMap sEncS = l.map S := by
  induction l with
  | nil => rfl
  | cons x l ih => simp [sEncS, ih]
/-- a list of strings behind another -/
theorem wpList_appL {B : Nat → Prop} {w : World} {ops : Array Oper} {rest : List Oper} {o : Oper} {a : Act} {Q : Exit → Act → World → Prop} (hgd : o.guard = none) (s x : Operand)
    (ho : o.op = .call { callee := .builtin .append, args := #[s, x], argTypes := #[49, 49] })
    (base : Nat) (v : Value) (l : List Str) (hs : a.eval s = v) (hown : OwnS 1 9 sEncS w base v l)
    (xv : Value) (ys : List Str) (hx : a.eval x = xv) (hys : RSlB B 1 RStr w xv ys)
    (hl : l.length + ys.length ≤ 1000000000) (hbase : base ≤ w.heap.size)
    (h : ∀ v' w', OwnS 1 9 sEncS w' base v' (l ++ ys) → w.grownBy w' v.ownBlock → wpList Tryz.prog ops Q rest (a.put o.dst v') w') : wpList Tryz.prog ops Q (o :: rest) a w := by
  obtain ⟨xa, xc, rfl, hm, hor⟩ := hys
  rcases Nat.eq_zero_or_pos ys.length with h0 | h0
  · have hn : ys = [] := List.length_eq_zero_iff.1 h0
    subst hn
    refine wpList_app0 slStr hgd s x ho base v _ _ hs hown xa xc (by simpa using hx) ?_
    exact h v w (by simpa using hown) ⟨rfl, rfl, rfl, Nat.le_refl _, fun _ _ _ => rfl⟩
  · rcases hor with rfl | ⟨b, of, rfl, -, hc⟩
    · exact absurd h0 (by simp)
    refine wpList_app slStr hgd s x ho base v _ _ hs hown ⟨b, of, none⟩ ys.length xc (ys.map S) hx (by simp) ?_ ?_ h0 (by omega) (by unfold maxLen; omega) hbase ?_
    · intro j u hu
      rw [List.getElem?_map] at hu
      cases hj : ys[j]? with
      | none => rw [hj] at hu; cases hu
      | some y =>
        rw [hj] at hu
        obtain ⟨C, hC, hR⟩ := hc j y hj
        have h1 := hC 0 (by decide)
        rw [show C 0 = S y from hR] at h1
        rw [add_nat]
        simp only [Nat.mul_one, Nat.add_zero] at h1
        rw [h1]
        exact hu
    · intro u hu
      obtain ⟨x, _, rfl⟩ := List.mem_map.1 hu
      rfl
    · intro g' cap w' h1 h2 h3 h4
      refine h _ _ ?_ h2
      show w'.ownsRow base 9 1 _ (l ++ ys).length ((l ++ ys).flatMap sEncS)
      rw [List.length_append, List.flatMap_append, flatMap_sEncS ys]
      exact h1
/-- room made -/
theorem wpList_appZ {w : World} {ops : Array Oper} {rest : List Oper} {o : Oper} {a : Act} {Q : Exit → Act → World → Prop} (hgd : o.guard = none) (s x : Operand)
    (ho : o.op = .call { callee := .builtin .append, args := #[s, x], argTypes := #[49, 3] })
    (hs : a.eval s = .slice none 0 0) (n : Nat) (hx : a.eval x = I n) (h0 : 0 < n) (hn : n ≤ 1000000000)
    (h : ∀ cap w', OwnS 1 9 sEncS w' w.heap.size (.slice (some ⟨w.heap.size, 0, none⟩) 0 cap) [] → n ≤ cap → Below w.heap.size w w' → wpList Tryz.prog ops Q rest (a.put o.dst (.slice (some ⟨w.heap.size, 0, none⟩) n cap)) w') : wpList Tryz.prog ops Q (o :: rest) a w := by
  obtain ⟨i, z, hi, hz, hsz, hby, hzs⟩ := slStr.hi
  have hrun := Go.Lib.run_append_nil_zeros (P := Tryz.prog) w 49 3 o.type 9 i z .i64 .i64 slStr.ht Tryz.underlying3 hi hz n h0 (by omega) (by omega) (by rw [hby]; omega)
  refine wpList_plain hgd fun K hK => ?_
  unfold Oper.wp
  simp only [execOp, ho, resolve, invoke, builtin]
  simp [hs, hx, hrun, Result.andThen]
  have hge := grownCap_ge w n 0 9
  refine hK _ _ (h _ _ ⟨by simp, .inr ⟨w.heap.size, _, _, rfl, Nat.le_refl _, heap_new w.drew _, Nat.zero_le _, grownCap_le_maxLen _ _ _ _ (by unfold maxLen; omega), ?_, by simp⟩⟩ hge ?_)
  · simp [Builtin.zeroCells, hzs]
    omega
  · exact ⟨rfl, rfl, rfl, by simp, fun b hb => Below.heap_alloc w.drew _ b hb⟩

set_option maxRecDepth 100000 in
set_option maxHeartbeats 4000000 in
theorem grow_any (n : Nat) (hn : n ≤ 1000000000) (w : World) : Calls Tryz.prog 124 #[.slice none 0 0, I n] w fun e w' => ∃ v, e = .returned v ∧ OwnS 1 9 sEncS w' w.heap.size v [] ∧ Below w.heap.size w w' := by
  rcases Nat.eq_zero_or_pos n with rfl | h0
  · refine (grow_0 w).mono ?_
    rintro e w' ⟨rfl, rfl⟩
    exact ⟨_, rfl, OwnS.nil, Below.refl _ _⟩
  · have hz : (0 : Int) < n := by omega
    have hz2 : ¬ (n : Int) < 0 := by omega
    go_enter Tryz.func124, Tryz.ntmps124
    go_wp2_with (first
      | (at_builtin; refine wpList_appZ rfl _ _ rfl rfl n rfl h0 hn ?_; intro cap w1 ho1 hc1 hb1; have HO1 := Lib.hid ho1; have HB1 := Lib.hid hb1; clear ho1 hb1))
    go_ret
    exact ⟨_, rfl, HO1.out, HB1.out⟩

set_option maxRecDepth 100000 in
set_option maxHeartbeats 4000000 in
/-- two lists of strings, one behind the other -/
theorem concat_any (B : Nat → Prop) (pa la : Option Addr) (pc lc : Nat) (ps ls : List Str) (hn : ps.length + ls.length ≤ 1000000000) : ConcatOk B (.slice pa ps.length pc) (.slice la ls.length lc) ps ls := by
  intro W g hr hp hl
  have HR := Lib.hid hr
  have HP := Lib.hid hp
  have HL := Lib.hid hl
  have HN := Lib.hid hn
  obtain ⟨P, hP⟩ : ∃ n, n = ps.length := ⟨_, rfl⟩
  obtain ⟨L, hL⟩ : ∃ n, n = ls.length := ⟨_, rfl⟩
  rw [← hP, ← hL] at HR HN hn
  rw [← hP] at HP
  rw [← hL] at HL
  have hPz : ¬ (P : Int) < 0 := by omega
  have hPLz : ¬ (P : Int) + (L : Int) < 0 := by omega
  have c0 := HR.out.cell 0
  have c1 := HR.out.cell 1
  simp only [List.getElem?_cons_zero, List.getElem?_cons_succ] at c0 c1
  have HPE := Lib.hid hP
  have HLE := Lib.hid hL
  clear hr hp hl hP hL
  go_enter Tryz.func86, Tryz.ntmps86
  go_upto_region 3 with (fail)
  go_loopg [3, 11] 2 (fun gh s i wr => W = wr ∧ ∃ k : Nat, gh + k = 2 ∧ i = I k ∧ (k = 0 ∧ s = I 0 ∨ k = 1 ∧ s = I P ∨ k = 2 ∧ s = I ((P : Int) + L)))
  case atStart => exact ⟨rfl, 0, rfl, rfl, .inl ⟨rfl, rfl⟩⟩
  case round =>
    obtain ⟨rfl, k, hg, rfl, ⟨rfl, rfl⟩ | ⟨rfl, rfl⟩ | ⟨rfl, rfl⟩⟩ := hrel
    · go_wp2
      go_roundg 1
      case measure => omega
      case rel => exact ⟨rfl, 1, rfl, rfl, .inr (.inl ⟨rfl, by go_num⟩)⟩
    · go_wp2
      go_roundg 0
      case measure => omega
      case rel => exact ⟨rfl, 2, rfl, rfl, .inr (.inr ⟨rfl, by go_num⟩)⟩
    · go_upto_region 11 with (first
        | (go_at_call 124; (have hpl : (P : Int) + (L : Int) = ((P + L : Nat) : Int) := (by omega); rw [hpl]; refine (grow_any (P + L) (by omega) _).mono ?_; rintro e w1 ⟨v1, rfl, ho1, hb1⟩; have HO1 := Lib.hid ho1; have HB1 := Lib.hid hb1; clear ho1 hb1 hpl)))
      clear c0 c1
      go_loopg [6, 27] 2 (fun gh s i wr => ∃ k : Nat, gh + k = 2 ∧ i = I k ∧ ∃ l : List Str, (k = 0 ∧ l = [] ∨ k = 1 ∧ l = ps ∨ k = 2 ∧ l = ps ++ ls) ∧ Hid (OwnS 1 9 sEncS wr W.heap.size s l ∧ Below W.heap.size W wr))
      case atStart => exact ⟨0, rfl, rfl, [], .inl ⟨rfl, rfl⟩, Lib.hid ⟨HO1.out, HB1.out⟩⟩
      case round =>
        obtain ⟨k, hg2, rfl, l, hor, HH⟩ := hrel
        obtain ⟨wo, rfl⟩ : ∃ wo, wo = wr := ⟨_, rfl⟩
        have c0 := (HR.out.ext HH.out.2).cell 0
        have c1 := (HR.out.ext HH.out.2).cell 1
        simp only [List.getElem?_cons_zero, List.getElem?_cons_succ] at c0 c1
        rcases hor with ⟨rfl, rfl⟩ | ⟨rfl, rfl⟩ | ⟨rfl, rfl⟩
        · go_wp2_with (first
            | (at_builtin; refine wpList_appL rfl _ _ rfl W.heap.size _ _ rfl HH.out.1 _ ps rfl (RSlB.below HH.out.2 (fun _ _ h => h) HP.out) (by have := HN.out; rw [HPE.out] at this; simp; omega) HH.out.2.size ?_; intro v' w2 ho2 hg3; have HO2 := Lib.hid ho2; have HB2 := Lib.hid (HH.out.2.grown hg3 HH.out.2.size (fun r e => (ownsRow_base HH.out.1 r e).1)); clear ho2 hg3))
          go_roundg 1
          case measure => omega
          case rel => exact ⟨1, rfl, rfl, ps, .inr (.inl ⟨rfl, rfl⟩), Lib.hid ⟨by simpa using HO2.out, HB2.out⟩⟩
        · go_wp2_with (first
            | (at_builtin; refine wpList_appL rfl _ _ rfl W.heap.size _ _ rfl HH.out.1 _ ls rfl (RSlB.below HH.out.2 (fun _ _ h => h) HL.out) (by have := HN.out; rw [HPE.out, HLE.out] at this; omega) HH.out.2.size ?_; intro v' w2 ho2 hg3; have HO2 := Lib.hid ho2; have HB2 := Lib.hid (HH.out.2.grown hg3 HH.out.2.size (fun r e => (ownsRow_base HH.out.1 r e).1)); clear ho2 hg3))
          go_roundg 0
          case measure => omega
          case rel => exact ⟨2, rfl, rfl, _, .inr (.inr ⟨rfl, rfl⟩), Lib.hid ⟨HO2.out, HB2.out⟩⟩
        · go_wp2
          go_ret
          exact ⟨_, rfl, HH.out.1, HH.out.2⟩
end Go.Proofs.YtjgbkdbkachciaaGreatDoor
