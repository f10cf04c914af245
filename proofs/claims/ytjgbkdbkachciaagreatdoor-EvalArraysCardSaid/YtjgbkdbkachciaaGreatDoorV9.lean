import Derived.Test.YtjgbkdbkachciaaGreatDoorV8
import Derived.Test.YtjgbkdbkachciaaGreatDoorG0
namespace Go.Proofs.YtjgbkdbkachciaaGreatDoor
open Go.RowKit Go.Shelf
attribute [local go_sem] Oper.semAt_some

/-- two lists of strings put together -/
def ConcatOk (B : Nat → Prop) (pv lv : Value) (ps ls : List Str) : Prop := ∀ W g, Row W g 49 [pv, lv] → RSlB B 1 RStr W pv ps → RSlB B 1 RStr W lv ls →
  Calls Tryz.prog 86 #[.slice (some ⟨g, 0, none⟩) 2 2] W fun e w' => ∃ v, e = .returned v ∧ OwnS 1 9 sEncS w' W.heap.size v (ps ++ ls) ∧ Below W.heap.size W w'

set_option maxRecDepth 100000 in
set_option maxHeartbeats 4000000 in
theorem grow_0 (w : World) : Calls Tryz.prog 124 #[.slice none 0 0, I 0] w fun e w' => e = .returned (.slice none 0 0) ∧ w' = w := by
  go_enter Tryz.func124, Tryz.ntmps124
  go_wp2
  go_ret
  exact ⟨rfl, rfl⟩
set_option maxRecDepth 100000 in
set_option maxHeartbeats 4000000 in
theorem concat_nil (B : Nat → Prop) (pa la : Option Addr) (pc lc : Nat) : ConcatOk B (.slice pa 0 pc) (.slice la 0 lc) [] [] := by
  intro W g hr hp hl
  have c0 := hr.cell 0
  have c1 := hr.cell 1
  simp only [List.getElem?_cons_zero, List.getElem?_cons_succ] at c0 c1
  clear hr hp hl
  rcases pa with _ | pa <;> rcases la with _ | la
  all_goals
    go_enter Tryz.func86, Tryz.ntmps86
    go_upto_region 3 with (fail)
    go_loopg [3, 11] 2 (fun gh s i wr => s = I 0 ∧ ∃ k : Nat, gh + k = 2 ∧ i = I k ∧ wr = W)
    case atStart => exact ⟨rfl, 0, rfl, rfl, rfl⟩
    case round =>
      obtain ⟨rfl, k, hg, rfl, rfl⟩ := hrel
      rcases (by omega : k = 0 ∨ k = 1 ∨ k = 2) with rfl | rfl | rfl
      · go_wp2
        go_roundg 1
        case measure => omega
        case rel => exact ⟨rfl, 1, rfl, rfl, rfl⟩
      · go_wp2
        go_roundg 0
        case measure => omega
        case rel => exact ⟨rfl, 2, rfl, rfl, rfl⟩
      · go_upto_region 11 with (first
          | (go_at_call 124; refine (grow_0 _).mono ?_; rintro e w1 ⟨rfl, rfl⟩))
        go_loopg [6, 27] 2 (fun gh s i wr => s = .slice none 0 0 ∧ ∃ k : Nat, gh + k = 2 ∧ i = I k ∧ wr = w1)
        case atStart => exact ⟨rfl, 0, rfl, rfl, rfl⟩
        case round =>
          obtain ⟨rfl, k, hg2, rfl, rfl⟩ := hrel
          rcases (by omega : k = 0 ∨ k = 1 ∨ k = 2) with rfl | rfl | rfl
          · go_wp2_with (first
              | (at_builtin; refine wpList_app0 slStr rfl _ _ rfl 0 (.slice none 0 0) 0 [] rfl ⟨rfl, .inl ⟨rfl, rfl⟩⟩ _ _ rfl ?_))
            go_roundg 1
            case measure => omega
            case rel => exact ⟨rfl, 1, rfl, rfl, rfl⟩
          · go_wp2_with (first
              | (at_builtin; refine wpList_app0 slStr rfl _ _ rfl 0 (.slice none 0 0) 0 [] rfl ⟨rfl, .inl ⟨rfl, rfl⟩⟩ _ _ rfl ?_))
            go_roundg 0
            case measure => omega
            case rel => exact ⟨rfl, 2, rfl, rfl, rfl⟩
          · go_wp2
            go_ret
            exact ⟨_, rfl, OwnS.nil, Below.refl _ _⟩
set_option maxRecDepth 100000 in
set_option maxHeartbeats 2000000 in
theorem indexN_any {α : Type} {B : Nat → Prop} {R : World → (Nat → Value) → α → Prop} (w : World) (v : Value) (l : List α) (hv : RSlB B 1 R w v l) (hR : ∀ W W' C x, Below W.heap.size W W' → R W C x → R W' C x) (fid : Nat) (bnd : Array Value) (t : α → Bool) (hp : SaysB agg1 R w fid bnd t l) :
    Calls Tryz.prog 125 #[v, .func (.func fid) #[] bnd] w fun e w' => e = .returned (I (placeI t l)) ∧ Below w.heap.size w w' := by
  obtain ⟨a0, c0, rfl, hlen, -⟩ := id hv
  have heg := hp.eg
  have HV := Lib.hid hv
  have HP := Lib.hid hp
  have HRR := Lib.hid hR
  clear hv hp hR
  go_enter Tryz.func125, Tryz.ntmps125
  go_wp2
  go_loopg [8] l.length (fun gh i wr => ∃ k : Nat, gh + k = l.length ∧ i = I k ∧ Hid (Below w.heap.size w wr ∧ ∀ j, (hj : j < l.length) → j < k → t l[j] = false))
  case atStart => exact ⟨0, rfl, rfl, Lib.hid ⟨Below.refl _ _, fun j hj h => absurd h (by omega)⟩⟩
  case round =>
    obtain ⟨k, hg, rfl, HH⟩ := hrel
    obtain ⟨wo, rfl⟩ : ∃ wo, wo = wr := ⟨_, rfl⟩
    have HB := Lib.hid HH.out.1
    by_cases hlt : k < l.length
    · have hltz : (k : Int) < (l.length : Int) := by omega
      obtain ⟨b, o, C, rfl, _, hC, hrx⟩ := (HV.out.below HB.out (fun C x h => HRR.out _ _ C x HB.out h)).at hlt
      have e0 := hC 0 (by omega)
      simp only [Nat.add_zero, Nat.mul_one] at e0
      have hx := HP.out.call l[k] (List.getElem_mem hlt) wo C HB.out hrx
      obtain ⟨tx, htx⟩ : ∃ tx, tx = t l[k] := ⟨_, rfl⟩
      rw [← htx] at hx
      have HX := Lib.hid hx
      have HT := Lib.hid htx
      clear hx hC hrx htx
      cases tx
      · go_wp2
        refine HX.out.mono ?_
        rintro e w1 ⟨rfl, hb1⟩
        have HB1 := Lib.hid (HB.out.trans (hb1.mono HB.out.size))
        clear hb1 e0
        go_wp2
        go_roundg (l.length - (k + 1))
        case measure => omega
        case rel =>
          refine ⟨k + 1, by omega, by go_num, Lib.hid ⟨HB1.out, fun j hj hjk => ?_⟩⟩
          by_cases hjk2 : j = k
          · subst hjk2; exact HT.out.symm
          · exact HH.out.2 j hj (by omega)
      · go_wp2
        refine HX.out.mono ?_
        rintro e w1 ⟨rfl, hb1⟩
        have HB1 := Lib.hid (HB.out.trans (hb1.mono HB.out.size))
        clear hb1 e0
        go_wp2
        go_ret
        exact ⟨by rw [placeI_at hlt (fun j hj => HH.out.2 j (by omega) hj) HT.out.symm]; rfl, HB1.out⟩
    · have hltz : ¬ (k : Int) < (l.length : Int) := by omega
      go_wp2
      go_ret
      exact ⟨by rw [placeI_none (fun j hj => HH.out.2 j hj (by omega))]; rfl, HB.out⟩

set_option maxRecDepth 100000 in
set_option maxHeartbeats 2000000 in
theorem containsN_any {α : Type} {B : Nat → Prop} {R : World → (Nat → Value) → α → Prop} (w : World) (v : Value) (l : List α) (hv : RSlB B 1 R w v l) (hR : ∀ W W' C x, Below W.heap.size W W' → R W C x → R W' C x) (fid : Nat) (bnd : Array Value) (t : α → Bool) (hp : SaysB agg1 R w fid bnd t l) :
    Calls Tryz.prog 87 #[v, .func (.func fid) #[] bnd] w fun e w' => e = .returned (.bool (l.any t)) ∧ Below w.heap.size w w' := by
  have HI := Lib.hid (indexN_any w v l hv hR fid bnd t hp)
  obtain ⟨q, hq⟩ : ∃ q, q = placeI t l := ⟨_, rfl⟩
  rw [← hq] at HI
  have hz : decide (0 ≤ q) = l.any t := by
    rw [Bool.eq_iff_iff, decide_eq_true_eq, hq, placeI_nonneg, List.any_eq_true]
  have HZ := Lib.hid hz
  obtain ⟨a0, c0, rfl, -⟩ := hv
  clear hR hp hq hz
  go_enter Tryz.func87, Tryz.ntmps87
  go_wp2_with (first
    | (go_at_call 125; refine HI.out.mono ?_; rintro e w1 ⟨rfl, hb1⟩; have HB1 := Lib.hid hb1; clear hb1))
  go_ret
  rw [← HZ.out]
  exact ⟨rfl, HB1.out⟩
set_option maxRecDepth 100000 in
set_option maxHeartbeats 2000000 in
theorem function1_any (B : Nat → Prop) (x : Str) (v : Value) (gl : List Str) (p : Nat) (w : World) (hr : Row w p 49 [v]) (hv : RSlB B 1 RStr w v gl) :
    Calls Tryz.prog 88 #[S x, .pointer (some ⟨p, 0, none⟩)] w fun e w' => e = .returned (.bool (decide (x ∈ gl))) ∧ Below w.heap.size w w' := by
  have HC := Lib.hid (contains_any w v gl x hv)
  obtain ⟨a0, c0, rfl, -⟩ := hv
  have c1 := hr.cell 0
  simp only [List.getElem?_cons_zero] at c1
  clear hr
  go_enter Tryz.func88, Tryz.ntmps88
  go_wp2_with (first
    | (go_at_call 89; refine HC.out.mono ?_; rintro e' w1 ⟨rfl, rfl⟩))
  go_ret
  exact ⟨rfl, Below.refl _ _⟩
end Go.Proofs.YtjgbkdbkachciaaGreatDoor
