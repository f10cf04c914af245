import Derived.Test.YtjgbkdbkachciaaGreatDoorU5
namespace Go.Proofs.YtjgbkdbkachciaaGreatDoor
open Go.RowKit Go.Shelf
attribute [local go_sem] Oper.semAt_some

/-- a function value that says t of each element, and changes nothing that was there -/
structure SaysB {α : Type} (arg : (Nat → Value) → Value) (R : World → (Nat → Value) → α → Prop) (w : World) (fid : Nat) (bnd : Array Value) (t : α → Bool) (l : List α) : Prop where
  eg : ∀ args w, (callFunc fid args).run Tryz.prog w = .ok (.enter fid args) w
  call : ∀ x ∈ l, ∀ W C, Below w.heap.size w W → R W C x → Calls Tryz.prog fid (#[arg C] ++ bnd) W fun e w' => e = .returned (.bool (t x)) ∧ Below W.heap.size W w'
abbrev agg4 (C : Nat → Value) : Value := .agg #[C 0, C 1, C 2, C 3]
abbrev agg2 (C : Nat → Value) : Value := .agg #[C 0, C 1]
/-- the place of the first one, or -1 -/
def placeI {α : Type} (t : α → Bool) (l : List α) : Int := if l.findIdx t < l.length then (l.findIdx t : Int) else -1
theorem placeI_at {α : Type} {t : α → Bool} {l : List α} {k : Nat} (hk : k < l.length) (h : ∀ j, (hj : j < k) → t (l[j]'(by omega)) = false) (ht : t l[k] = true) : placeI t l = k := by
  have : l.findIdx t = k := (List.findIdx_eq hk).2 ⟨ht, fun j hj => h j hj⟩
  unfold placeI
  rw [this, if_pos hk]
theorem placeI_none {α : Type} {t : α → Bool} {l : List α} (h : ∀ j, (hj : j < l.length) → t l[j] = false) : placeI t l = -1 := by
  have : l.findIdx t = l.length := List.findIdx_eq_length.2 fun x hx => by
    obtain ⟨j, hj, rfl⟩ := List.getElem_of_mem hx
    exact h j hj
  unfold placeI
  rw [this, if_neg (by omega)]

set_option maxRecDepth 100000 in
set_option maxHeartbeats 2000000 in
theorem indexF_any {α : Type} {B : Nat → Prop} {R : World → (Nat → Value) → α → Prop} (w : World) (v : Value) (l : List α) (hv : RSlB B 4 R w v l) (hR : ∀ W W' C x, Below W.heap.size W W' → R W C x → R W' C x) (fid : Nat) (bnd : Array Value) (t : α → Bool) (hp : SaysB agg4 R w fid bnd t l) :
    Calls Tryz.prog 80 #[v, .func (.func fid) #[] bnd] w fun e w' => e = .returned (I (placeI t l)) ∧ Below w.heap.size w w' := by
  obtain ⟨a0, c0, rfl, hlen, -⟩ := id hv
  have heg := hp.eg
  have HV := Lib.hid hv
  have HP := Lib.hid hp
  have HRR := Lib.hid hR
  clear hv hp hR
  go_enter Tryz.func80, Tryz.ntmps80
  go_wp2
  go_loopg [8] l.length (fun gh i wr => ∃ k : Nat, gh + k = l.length ∧ i = I k ∧ Hid (Below w.heap.size w wr ∧ ∀ j, (hj : j < l.length) → j < k → t l[j] = false))
  case atStart => exact ⟨0, rfl, rfl, Lib.hid ⟨Below.refl _ _, fun j hj h => absurd h (by omega)⟩⟩
  case round =>
    obtain ⟨k, hg, rfl, HH⟩ := hrel
    obtain ⟨wo, rfl⟩ : ∃ wo, wo = wr := ⟨_, rfl⟩
    have HB := Lib.hid HH.out.1
    by_cases hlt : k < l.length
    · have hltz : (k : Int) < (l.length : Int) := by omega
      obtain ⟨b, o, C, rfl, _, hC, hrx⟩ := (HV.out.below HB.out (fun C x h => HRR.out _ _ C x HB.out h)).at hlt
      have e0 := hC 0 (by omega)
      have e1 := hC 1 (by omega)
      have e2 := hC 2 (by omega)
      have e3 := hC 3 (by omega)
      simp only [Nat.add_zero] at e0 e1 e2 e3
      have hx := HP.out.call l[k] (List.getElem_mem hlt) wo C HB.out hrx
      obtain ⟨tx, htx⟩ : ∃ tx, tx = t l[k] := ⟨_, rfl⟩
      rw [← htx] at hx
      have HX := Lib.hid hx
      have HT := Lib.hid htx
      clear hx hC hrx htx
      cases tx
      · go_wp2
        refine HX.out.mono ?_
        rintro e w1 ⟨rfl, hb1⟩
        have HB1 := Lib.hid (HB.out.trans (hb1.mono HB.out.size))
        clear hb1 e0 e1 e2 e3
        go_wp2
        go_roundg (l.length - (k + 1))
        case measure => omega
        case rel =>
          refine ⟨k + 1, by omega, by go_num, Lib.hid ⟨HB1.out, fun j hj hjk => ?_⟩⟩
          by_cases hjk2 : j = k
          · subst hjk2; exact HT.out.symm
          · exact HH.out.2 j hj (by omega)
      · go_wp2
        refine HX.out.mono ?_
        rintro e w1 ⟨rfl, hb1⟩
        have HB1 := Lib.hid (HB.out.trans (hb1.mono HB.out.size))
        clear hb1 e0 e1 e2 e3
        go_wp2
        go_ret
        exact ⟨by rw [placeI_at hlt (fun j hj => HH.out.2 j (by omega) hj) HT.out.symm]; rfl, HB1.out⟩
    · have hltz : ¬ (k : Int) < (l.length : Int) := by omega
      go_wp2
      go_ret
      exact ⟨by rw [placeI_none (fun j hj => HH.out.2 j hj (by omega))]; rfl, HB.out⟩

set_option maxRecDepth 100000 in
set_option maxHeartbeats 2000000 in
theorem indexA_any {α : Type} {B : Nat → Prop} {R : World → (Nat → Value) → α → Prop} (w : World) (v : Value) (l : List α) (hv : RSlB B 2 R w v l) (hR : ∀ W W' C x, Below W.heap.size W W' → R W C x → R W' C x) (fid : Nat) (bnd : Array Value) (t : α → Bool) (hp : SaysB agg2 R w fid bnd t l) :
    Calls Tryz.prog 216 #[v, .func (.func fid) #[] bnd] w fun e w' => e = .returned (I (placeI t l)) ∧ Below w.heap.size w w' := by
  obtain ⟨a0, c0, rfl, hlen, -⟩ := id hv
  have heg := hp.eg
  have HV := Lib.hid hv
  have HP := Lib.hid hp
  have HRR := Lib.hid hR
  clear hv hp hR
  go_enter Tryz.func216, Tryz.ntmps216
  go_wp2
  go_loopg [8] l.length (fun gh i wr => ∃ k : Nat, gh + k = l.length ∧ i = I k ∧ Hid (Below w.heap.size w wr ∧ ∀ j, (hj : j < l.length) → j < k → t l[j] = false))
  case atStart => exact ⟨0, rfl, rfl, Lib.hid ⟨Below.refl _ _, fun j hj h => absurd h (by omega)⟩⟩
  case round =>
    obtain ⟨k, hg, rfl, HH⟩ := hrel
    obtain ⟨wo, rfl⟩ : ∃ wo, wo = wr := ⟨_, rfl⟩
    have HB := Lib.hid HH.out.1
    by_cases hlt : k < l.length
    · have hltz : (k : Int) < (l.length : Int) := by omega
      obtain ⟨b, o, C, rfl, _, hC, hrx⟩ := (HV.out.below HB.out (fun C x h => HRR.out _ _ C x HB.out h)).at hlt
      have e0 := hC 0 (by omega)
      have e1 := hC 1 (by omega)
      simp only [Nat.add_zero] at e0 e1
      have hx := HP.out.call l[k] (List.getElem_mem hlt) wo C HB.out hrx
      obtain ⟨tx, htx⟩ : ∃ tx, tx = t l[k] := ⟨_, rfl⟩
      rw [← htx] at hx
      have HX := Lib.hid hx
      have HT := Lib.hid htx
      clear hx hC hrx htx
      cases tx
      · go_wp2
        refine HX.out.mono ?_
        rintro e w1 ⟨rfl, hb1⟩
        have HB1 := Lib.hid (HB.out.trans (hb1.mono HB.out.size))
        clear hb1 e0 e1
        go_wp2
        go_roundg (l.length - (k + 1))
        case measure => omega
        case rel =>
          refine ⟨k + 1, by omega, by go_num, Lib.hid ⟨HB1.out, fun j hj hjk => ?_⟩⟩
          by_cases hjk2 : j = k
          · subst hjk2; exact HT.out.symm
          · exact HH.out.2 j hj (by omega)
      · go_wp2
        refine HX.out.mono ?_
        rintro e w1 ⟨rfl, hb1⟩
        have HB1 := Lib.hid (HB.out.trans (hb1.mono HB.out.size))
        clear hb1 e0 e1
        go_wp2
        go_ret
        exact ⟨by rw [placeI_at hlt (fun j hj => HH.out.2 j (by omega) hj) HT.out.symm]; rfl, HB1.out⟩
    · have hltz : ¬ (k : Int) < (l.length : Int) := by omega
      go_wp2
      go_ret
      exact ⟨by rw [placeI_none (fun j hj => HH.out.2 j hj (by omega))]; rfl, HB.out⟩

set_option maxRecDepth 100000 in
set_option maxHeartbeats 2000000 in
theorem place1_any (y x : Str) (v1 v2 v3 : Value) (p : Nat) (w : World) (hr : Row w p 9 [S x]) :
    Calls Tryz.prog 81 #[.agg #[S y, v1, v2, v3], .pointer (some ⟨p, 0, none⟩)] w fun e w' => e = .returned (.bool (decide (y = x))) ∧ Below w.heap.size w w' := by
  have hb := below_a1 w (.cells #[S y, v1, v2, v3] 52)
  have hr1 := hr.ext hb
  have c0 := hr1.cell 0
  simp only [List.getElem?_cons_zero] at c0
  have HB := Lib.hid hb
  clear hr hr1 hb
  go_enter Tryz.func81, Tryz.ntmps81
  go_wp2
  go_ret
  exact ⟨by by_cases h : y = x <;> simp [S, h], HB.out⟩
set_option maxRecDepth 100000 in
set_option maxHeartbeats 2000000 in
theorem array1_any (y x : Str) (v1 : Value) (p : Nat) (w : World) (hr : Row w p 9 [S x]) :
    Calls Tryz.prog 217 #[.agg #[S y, v1], .pointer (some ⟨p, 0, none⟩)] w fun e w' => e = .returned (.bool (decide (y = x))) ∧ Below w.heap.size w w' := by
  have hb := below_a1 w (.cells #[S y, v1] 68)
  have hr1 := hr.ext hb
  have c0 := hr1.cell 0
  simp only [List.getElem?_cons_zero] at c0
  have HB := Lib.hid hb
  clear hr hr1 hb
  go_enter Tryz.func217, Tryz.ntmps217
  go_wp2
  go_ret
  exact ⟨by by_cases h : y = x <;> simp [S, h], HB.out⟩
def placeF (p : LP) (x : Str) : Int := placeI (fun f => decide (f.name = x)) p.funcs
def placeA (p : LP) (x : Str) : Int := placeI (fun a => decide (a.name = x)) p.arrays
set_option maxRecDepth 100000 in
set_option maxHeartbeats 2000000 in
theorem place_any (p : LP) (x : Str) (av fv : Value) (w : World) (B : Nat → Prop) (hx : PX B w av fv p) :
    Calls Tryz.prog 48 #[.agg #[av, fv], S x] w fun e w' => e = .returned (I (placeF p x)) ∧ Below w.heap.size w w' := by
  obtain ⟨aa, ac, fa, fc, rfl, rfl⟩ := hx.slice
  have hmf : ∀ (fn : Fn) (first cap : Array Value) (w : World), (Instr.makeFunc fn first cap).run Tryz.prog w = .ok (.func fn first cap) w := fun _ _ _ _ => rfl
  obtain ⟨w1, hw1⟩ : ∃ w1, w1 = (w.alloc (.cells #[.slice aa p.arrays.length ac, .slice fa p.funcs.length fc] 27)).alloc (.cells #[S x] 9) := ⟨_, rfl⟩
  have hb1 : Below w.heap.size w w1 := by rw [hw1]; exact (below_a1 w _).alloc (by simp) _
  have hR : Row w1 w.heap.size 27 [.slice aa p.arrays.length ac, .slice fa p.funcs.length fc] := by rw [hw1]; exact heap_old _ _ (heap_new _ _)
  have hM : Row w1 (w.heap.size + 1) 9 [S x] := by rw [hw1]; exact heap_at (by simp)
  have hwe : (w.alloc (.cells #[.slice aa p.arrays.length ac, .slice fa p.funcs.length fc] 27)).alloc (.cells #[S x] 9) = w1 := hw1.symm
  have c1 := hR.cell 1
  simp only [List.getElem?_cons_succ, List.getElem?_cons_zero] at c1
  have hRp : RSlB B 4 (fun W C (f : LF) => RF B W C f ∧ Row W (w.heap.size + 1) 9 [S x]) w1 (.slice fa p.funcs.length fc) p.funcs := (hx.below hb1).funcs.weak (fun _ h => h) (fun C x h => ⟨h, hM⟩)
  have hsn : SaysB agg4 (fun W C (f : LF) => RF B W C f ∧ Row W (w.heap.size + 1) 9 [S x]) w1 81 #[.pointer (some ⟨w.heap.size + 1, 0, none⟩)] (fun f => decide (f.name = x)) p.funcs :=
    ⟨enters_of Tryz.func81 (by kernel_rfl) rfl, fun f hf W' C hb hr => by
      have := place1_any f.name x (C 1) (C 2) (C 3) _ W' hr.2
      rw [← hr.1.1] at this
      exact this⟩
  have HCT := Lib.hid (indexF_any w1 _ p.funcs hRp (fun W W' C f hb h => ⟨h.1.grown (below_grown hb none) (fun r e => by cases e), h.2.ext hb⟩) 81 _ _ hsn)
  have HB1 := Lib.hid hb1
  clear hx hsn hRp hM hR hb1 hw1
  go_enter Tryz.func48, Tryz.ntmps48
  go_wp2_with (first
    | (go_at_call 80; refine HCT.out.mono ?_; rintro e' w4 ⟨rfl, hb4⟩; have HB4 := Lib.hid (HB1.out.trans (hb4.mono HB1.out.size)); clear hb4))
  go_ret
  exact ⟨rfl, HB4.out⟩
set_option maxRecDepth 100000 in
set_option maxHeartbeats 2000000 in
theorem array_any (p : LP) (x : Str) (av fv : Value) (w : World) (B : Nat → Prop) (hx : PX B w av fv p) :
    Calls Tryz.prog 184 #[.agg #[av, fv], S x] w fun e w' => e = .returned (I (placeA p x)) ∧ Below w.heap.size w w' := by
  obtain ⟨aa, ac, fa, fc, rfl, rfl⟩ := hx.slice
  have hmf : ∀ (fn : Fn) (first cap : Array Value) (w : World), (Instr.makeFunc fn first cap).run Tryz.prog w = .ok (.func fn first cap) w := fun _ _ _ _ => rfl
  obtain ⟨w1, hw1⟩ : ∃ w1, w1 = (w.alloc (.cells #[.slice aa p.arrays.length ac, .slice fa p.funcs.length fc] 27)).alloc (.cells #[S x] 9) := ⟨_, rfl⟩
  have hb1 : Below w.heap.size w w1 := by rw [hw1]; exact (below_a1 w _).alloc (by simp) _
  have hR : Row w1 w.heap.size 27 [.slice aa p.arrays.length ac, .slice fa p.funcs.length fc] := by rw [hw1]; exact heap_old _ _ (heap_new _ _)
  have hM : Row w1 (w.heap.size + 1) 9 [S x] := by rw [hw1]; exact heap_at (by simp)
  have hwe : (w.alloc (.cells #[.slice aa p.arrays.length ac, .slice fa p.funcs.length fc] 27)).alloc (.cells #[S x] 9) = w1 := hw1.symm
  have c1 := hR.cell 0
  simp only [List.getElem?_cons_zero] at c1
  have hRp : RSlB B 2 (fun W C (f : LA) => RArr W C f ∧ Row W (w.heap.size + 1) 9 [S x]) w1 (.slice aa p.arrays.length ac) p.arrays := (hx.below hb1).arrays.weak (fun _ h => h) (fun C x h => ⟨h, hM⟩)
  have hsn : SaysB agg2 (fun W C (f : LA) => RArr W C f ∧ Row W (w.heap.size + 1) 9 [S x]) w1 217 #[.pointer (some ⟨w.heap.size + 1, 0, none⟩)] (fun a => decide (a.name = x)) p.arrays :=
    ⟨enters_of Tryz.func217 (by kernel_rfl) rfl, fun f hf W' C hb hr => by
      have := array1_any f.name x (C 1) _ W' hr.2
      rw [← hr.1.1] at this
      exact this⟩
  have HCT := Lib.hid (indexA_any w1 _ p.arrays hRp (fun W W' C f hb h => ⟨h.1, h.2.ext hb⟩) 217 _ _ hsn)
  have HB1 := Lib.hid hb1
  clear hx hsn hRp hM hR hb1 hw1
  go_enter Tryz.func184, Tryz.ntmps184
  go_wp2_with (first
    | (go_at_call 216; refine HCT.out.mono ?_; rintro e' w4 ⟨rfl, hb4⟩; have HB4 := Lib.hid (HB1.out.trans (hb4.mono HB1.out.size)); clear hb4))
  go_ret
  exact ⟨rfl, HB4.out⟩
end Go.Proofs.YtjgbkdbkachciaaGreatDoor

namespace Go.Proofs.YtjgbkdbkachciaaGreatDoor
open Go.RowKit Go.Shelf
attribute [local go_sem] Oper.semAt_some

set_option maxRecDepth 100000 in
set_option maxHeartbeats 2000000 in
theorem indexStr_any {B : Nat → Prop} (w : World) (v : Value) (l : List Str) (x : Str) (hv : RSlB B 1 RStr w v l) :
    Calls Tryz.prog 126 #[v, S x] w fun e w' => e = .returned (I (placeI (fun y => decide (y = x)) l)) ∧ w' = w := by
  obtain ⟨a0, c0, rfl, hlen, -⟩ := id hv
  have HV := Lib.hid hv
  clear hv
  go_enter Tryz.func126, Tryz.ntmps126
  go_wp2
  go_loopg [8] l.length (fun gh i wr => ∃ k : Nat, gh + k = l.length ∧ i = I k ∧ Hid (wr = w ∧ ∀ j, (hj : j < l.length) → j < k → l[j] ≠ x))
  case atStart => exact ⟨0, rfl, rfl, Lib.hid ⟨rfl, fun j hj h => absurd h (by omega)⟩⟩
  case round =>
    obtain ⟨k, hg, rfl, HH⟩ := hrel
    obtain rfl := HH.out.1
    by_cases hlt : k < l.length
    · have hltz : (k : Int) < (l.length : Int) := by omega
      obtain ⟨b, o, C, rfl, _, hC, hrx⟩ := HV.out.at hlt
      have e0 := hC 0 (by omega)
      have hrx' : C 0 = S l[k] := hrx
      rw [hrx'] at e0
      simp only [Nat.add_zero, Nat.mul_one] at e0
      obtain ⟨y, hy⟩ : ∃ y, y = l[k] := ⟨_, rfl⟩
      rw [← hy] at e0
      have HY := Lib.hid hy
      clear hC hrx hrx' hy
      by_cases hxy : x = y
      · have hbe : (x == y) = true := by rw [hxy]; exact beq_self_eq_true _
        have HXY := Lib.hid hxy
        clear hxy
        go_wp2
        go_ret
        refine ⟨?_, rfl⟩
        rw [placeI_at hlt (fun j hj => by simp only [decide_eq_false_iff_not]; exact HH.out.2 j (by omega) hj) (by simp only [decide_eq_true_eq]; rw [← HY.out]; exact HXY.out.symm)]
        rfl
      · have hbe : (x == y) = false := beq_eq_false_iff_ne.2 hxy
        have HXY := Lib.hid hxy
        clear hxy
        go_wp2
        go_roundg (l.length - (k + 1))
        case measure => omega
        case rel =>
          refine ⟨k + 1, by omega, by go_num, Lib.hid ⟨rfl, fun j hj hjk => ?_⟩⟩
          by_cases hjk2 : j = k
          · subst hjk2; rw [← HY.out]; exact fun h => HXY.out h.symm
          · exact HH.out.2 j hj (by omega)
    · have hltz : ¬ (k : Int) < (l.length : Int) := by omega
      go_wp2
      go_ret
      exact ⟨by rw [placeI_none (fun j hj => by simp only [decide_eq_false_iff_not]; exact HH.out.2 j hj (by omega))]; rfl, rfl⟩
theorem placeI_nonneg {α : Type} (t : α → Bool) (l : List α) : 0 ≤ placeI t l ↔ ∃ x ∈ l, t x = true := by
  unfold placeI
  constructor
  · intro h
    split at h
    · next hlt => exact ⟨_, List.getElem_mem hlt, List.findIdx_getElem (w := hlt)⟩
    · omega
  · rintro ⟨x, hx, ht⟩
    rw [if_pos (List.findIdx_lt_length_of_exists ⟨x, hx, ht⟩)]
    omega
set_option maxRecDepth 100000 in
set_option maxHeartbeats 2000000 in
theorem contains_any {B : Nat → Prop} (w : World) (v : Value) (l : List Str) (x : Str) (hv : RSlB B 1 RStr w v l) :
    Calls Tryz.prog 89 #[v, S x] w fun e w' => e = .returned (.bool (decide (x ∈ l))) ∧ w' = w := by
  have HI := Lib.hid (indexStr_any w v l x hv)
  obtain ⟨q, hq⟩ : ∃ q, q = placeI (fun y => decide (y = x)) l := ⟨_, rfl⟩
  rw [← hq] at HI
  have hz : decide (0 ≤ q) = decide (x ∈ l) := by
    rw [hq, decide_eq_decide, placeI_nonneg]
    simp
  obtain ⟨a0, c0, rfl, hlen, -⟩ := hv
  have HZ := Lib.hid hz
  clear hq hz
  go_enter Tryz.func89, Tryz.ntmps89
  go_wp2_with (first
    | (go_at_call 126; refine HI.out.mono ?_; rintro e' w1 ⟨rfl, rfl⟩))
  go_ret
  rw [← HZ.out]
  exact ⟨rfl, rfl⟩

def flagE (b : Bool) (x : Int) : Int := if b then 0 else x
theorem flag_any (b : Bool) (x : Int) (w : World) : Calls Tryz.prog 129 #[.bool b, I x] w fun e w' => e = .returned (I (flagE b x)) ∧ w' = w := by
  cases b
  · go_enter Tryz.func129, Tryz.ntmps129
    go_wp2
    go_ret
    exact ⟨rfl, rfl⟩
  · go_enter Tryz.func129, Tryz.ntmps129
    go_wp2
    go_ret
    exact ⟨rfl, rfl⟩

/-- a checker: a program, and variables -/
def CK (B : Nat → Prop) (w : World) (cb : Nat) (p : LP) (vs : List Str) : Prop := ∃ av fv vv, Row w cb 139 [av, fv, vv] ∧ PX B w av fv p ∧ RSlB B 1 RStr w vv vs
theorem CK.below {B : Nat → Prop} {w w' : World} {cb : Nat} {p : LP} {vs : List Str} (h : CK B w cb p vs) (hb : Below w.heap.size w w') : CK B w' cb p vs := by
  obtain ⟨av, fv, vv, h1, h2, h3⟩ := h
  exact ⟨av, fv, vv, h1.ext hb, h2.below hb, h3.below hb fun _ _ h => h⟩
set_option maxRecDepth 100000 in
set_option maxHeartbeats 2000000 in
theorem known_any (B : Nat → Prop) (w : World) (cb : Nat) (p : LP) (vs : List Str) (x : Str) (h : CK B w cb p vs) :
    Calls Tryz.prog 130 #[.pointer (some ⟨cb, 0, none⟩), S x] w fun e w' => e = .returned (.bool (decide (x ∈ vs))) ∧ w' = w := by
  obtain ⟨av, fv, vv, h1, h2, h3⟩ := h
  have c2 := h1.cell 2
  simp only [List.getElem?_cons_succ, List.getElem?_cons_zero] at c2
  have HC := Lib.hid (contains_any w vv vs x h3)
  obtain ⟨a0, c0, rfl, -⟩ := h3
  obtain ⟨aa, ac, fa, fc, rfl, rfl⟩ := h2.slice
  clear h1 h2
  go_enter Tryz.func130, Tryz.ntmps130
  go_wp2_with (first
    | (go_at_call 89; refine HC.out.mono ?_; rintro e' w1 ⟨rfl, rfl⟩))
  go_ret
  exact ⟨rfl, rfl⟩
set_option maxRecDepth 100000 in
set_option maxHeartbeats 2000000 in
theorem carray_any (B : Nat → Prop) (w : World) (cb : Nat) (p : LP) (vs : List Str) (x : Str) (h : CK B w cb p vs) :
    Calls Tryz.prog 131 #[.pointer (some ⟨cb, 0, none⟩), S x] w fun e w' => e = .returned (.bool (decide (0 ≤ placeA p x))) ∧ Below w.heap.size w w' := by
  obtain ⟨av, fv, vv, h1, h2, h3⟩ := h
  have c0 := h1.cell 0
  have c1 := h1.cell 1
  simp only [List.getElem?_cons_succ, List.getElem?_cons_zero] at c0 c1
  have HC := Lib.hid (array_any p x av fv w B h2)
  obtain ⟨aa, ac, fa, fc, rfl, rfl⟩ := h2.slice
  clear h1 h2 h3
  go_enter Tryz.func131, Tryz.ntmps131
  go_wp2_with (first
    | (go_at_call 184; refine HC.out.mono ?_; rintro e' w1 ⟨rfl, hb1⟩; have HB := Lib.hid hb1; clear hb1))
  go_ret
  exact ⟨rfl, HB.out⟩
end Go.Proofs.YtjgbkdbkachciaaGreatDoor

namespace Go.Proofs.YtjgbkdbkachciaaGreatDoor
open Go.RowKit Go.Shelf
attribute [local go_sem] Oper.semAt_some

def fnAt (p : LP) (k : Int) : LF := p.funcs.getD k.toNat ⟨[], [], [], []⟩
/-- what is wrong with an expression, but for its parts -/
def ownI (p : LP) (vs : List Str) (e : LE) : Int :=
  if e.kind = 2 then flagE (decide (e.name ∈ vs)) 51
  else if e.kind = 6 then flagE (decide (0 ≤ placeA p e.name)) 51
  else if e.kind = 5 then if placeF p e.name < 0 then 51 else flagE (decide ((fnAt p (placeF p e.name)).params.length = e.args.length)) 52
  else 0
theorem cell_heap {w wd : World} (hh : wd.heap = w.heap) (a : Addr) : wd.cell? a = w.cell? a := by
  unfold World.cell?; rw [hh]
theorem placeI_lt {α : Type} {t : α → Bool} {l : List α} (h : ¬ placeI t l < 0) : ∃ k, placeI t l = (k : Nat) ∧ k < l.length := by
  unfold placeI at *
  split at h
  · next hlt => exact ⟨_, by rw [if_pos hlt], hlt⟩
  · omega
set_option maxRecDepth 100000 in
set_option maxHeartbeats 4000000 in
theorem own_any (B : Nat → Prop) (w : World) (cb : Nat) (p : LP) (vs : List Str) (e : LE) (av : Value) (h : CK B w cb p vs) (hx : ∃ a c, av = .slice a e.args.length c) :
    Calls Tryz.prog 185 #[.pointer (some ⟨cb, 0, none⟩), eV e av] w fun e' w' => e' = .returned (I (ownI p vs e)) ∧ Below w.heap.size w w' := by
  obtain ⟨aa, ac, rfl⟩ := hx
  obtain ⟨k, op, n, nm, args⟩ := e
  simp only [LE.args]
  obtain ⟨al, hal⟩ : ∃ al, al = args.length := ⟨_, rfl⟩
  show Calls Tryz.prog 185 #[.pointer (some ⟨cb, 0, none⟩), .agg #[I k, I op, I n, S nm, .slice aa args.length ac]] w _
  have hb1 := below_a1 w (.cells #[I k, I op, I n, S nm, .slice aa args.length ac] 31)
  have HB1 := Lib.hid hb1
  have HC := Lib.hid (h.below hb1)
  have HR := Lib.hid (show Row (w.alloc (.cells #[I k, I op, I n, S nm, .slice aa args.length ac] 31)) w.heap.size 31 [I k, I op, I n, S nm, .slice aa args.length ac] from heap_new _ _)
  have HC0 := Lib.hid h
  clear h hb1
  by_cases h2 : k = 2
  · subst h2
    have HK := Lib.hid (known_any B _ cb p vs nm HC.out)
    have hv : ownI p vs (.mk 2 op n nm args) = flagE (decide (nm ∈ vs)) 51 := rfl
    rw [hv]
    clear hv
    obtain ⟨q, hq⟩ : ∃ q, q = decide (nm ∈ vs) := ⟨_, rfl⟩
    rw [← hq] at HK ⊢
    clear hq
    go_enter Tryz.func185, Tryz.ntmps185
    go_wp2_with (first
      | (go_at_call 130; refine HK.out.mono ?_; rintro e' w1 ⟨rfl, rfl⟩)
      | (go_at_call 129; refine (flag_any q 51 _).mono ?_; rintro e' w2 ⟨rfl, rfl⟩))
    go_ret
    exact ⟨rfl, HB1.out⟩
  by_cases h6 : k = 6
  · subst h6
    have HK := Lib.hid (carray_any B _ cb p vs nm HC.out)
    have hv : ownI p vs (.mk 6 op n nm args) = flagE (decide (0 ≤ placeA p nm)) 51 := rfl
    rw [hv]
    clear hv h2
    obtain ⟨q, hq⟩ : ∃ q, q = decide (0 ≤ placeA p nm) := ⟨_, rfl⟩
    rw [← hq] at HK ⊢
    clear hq
    go_enter Tryz.func185, Tryz.ntmps185
    go_wp2_with (first
      | (go_at_call 131; refine HK.out.mono ?_; rintro e' w1 ⟨rfl, hb1⟩; have HB2 := Lib.hid (HB1.out.trans (hb1.mono (by simp))); clear hb1)
      | (go_at_call 129; refine (flag_any q 51 _).mono ?_; rintro e' w2 ⟨rfl, rfl⟩))
    go_ret
    exact ⟨rfl, HB2.out⟩
  by_cases h5 : k = 5
  · subst h5
    clear h2 h6
    skip
    obtain ⟨pa, pf, vv, hr1, hpx, hvv⟩ := HC0.out
    have hpl := hr1.lt
    have HR1 := Lib.hid (hr1.ext HB1.out)
    have c0 := HR1.out.cell 0
    have c1 := HR1.out.cell 1
    have d3 := HR.out.cell 3
    simp only [List.getElem?_cons_succ, List.getElem?_cons_zero] at c0 c1 d3
    have HX := Lib.hid (hpx.below HB1.out)
    have HP := Lib.hid (fun W hh => place_any p nm pa pf W B hh)
    obtain ⟨paa, pac, pfa, pfc, rfl, rfl⟩ := hpx.slice
    obtain ⟨q, hq⟩ : ∃ q, q = placeF p nm := ⟨_, rfl⟩
    have HQ := Lib.hid hq
    have hv : ownI p vs (.mk 5 op n nm args) = if q < 0 then 51 else flagE (decide ((fnAt p q).params.length = args.length)) 52 := by rw [hq]; rfl
    rw [← hq] at HP
    rw [hv]
    clear hv hq hr1 hpx hvv
    go_enter Tryz.func185, Tryz.ntmps185
    obtain ⟨w0, hw0⟩ : ∃ w0, w0 = w.alloc (.cells #[I 5, I op, I n, S nm, .slice aa args.length ac] 31) := ⟨_, rfl⟩
    go_upto_region 7 with (fail)
    rw [← hw0] at HB1 HR HR1 HX c0 c1 d3 ⊢
    refine wp_region_ordW (by kernel_rfl) (fun W => W.cell? ⟨cb, 0, none⟩ = some (.slice paa p.arrays.length pac) ∧ W.cell? ⟨cb, 1, none⟩ = some (.slice pfa p.funcs.length pfc) ∧ W.cell? ⟨w.heap.size, 3, none⟩ = some (S nm)) [(0, 0), (0, 1), (0, 2), (0, 3), (0, 4), (0, 5), (1, 6), (0, 7)] (by kernel_rfl) ?hS ?_
    case hS => intro wd hh; have h9 : Row wd w.heap.size 31 [I 5, I op, I n, S nm, .slice aa args.length ac] := (congrArg (·[w.heap.size]?) hh).trans HR.out; exact ⟨row_at HR1.out hh 0, row_at HR1.out hh 1, h9.cell 3⟩
    intro wd hh hgd hS
    have HBD := Lib.hid (HB1.out.grown hgd (by rw [hw0]; simp) (fun r e => by cases e))
    have HXD := Lib.hid (HX.out.grown hgd (fun r e => by cases e))
    have HRD := Lib.hid (HR.out.kept hgd (by simp))
    have HR1D := Lib.hid (HR1.out.kept hgd (by simp))
    clear hh hgd c0 c1 d3
    simp only [pickOps, List.map_cons, List.map_nil, List.getElem?_cons_zero, List.getElem?_cons_succ, Option.getD_some]
    repeat (first | (refine wpOrd_pass (by rfl) (by assumption) (fun _ _ _ h => h) ?_; simp only [Act.put, List.setIfInBounds_toArray, List.set_cons_zero, List.set_cons_succ]) | (refine wpOrd_look (v := ?_) (by rfl) ?_ (by assumption) (fun _ _ _ h => h) ?_; rotate_left; (· (intro wS hSw; (try dsimp only at hSw); go_simp; (first | done | with_reducible rfl))); simp only [Act.put, List.setIfInBounds_toArray, List.set_cons_zero, List.set_cons_succ]))
    refine wpOrd_turn ?_
    go_wp2_with (first
      | (go_at_call 48; refine (HP.out _ HXD.out).mono ?_; rintro e' w1 ⟨rfl, hb1⟩; have HB2 := Lib.hid (HBD.out.trans (hb1.mono HBD.out.size)); have hr2 := HR1D.out.ext hb1; have HR2 := Lib.hid hr2; have he2 := HRD.out.ext hb1; have HE2 := Lib.hid he2; have HX2 := Lib.hid (HXD.out.below hb1); clear hb1 hS hr2 he2))
    refine QN_keep ⟨HR2.out.cell 0, HR2.out.cell 1, HE2.out.cell 3⟩ fun hS => ?_
    repeat (first | (refine wpOrd_pass (by rfl) (by assumption) (fun _ _ _ h => h) ?_; simp only [Act.put, List.setIfInBounds_toArray, List.set_cons_zero, List.set_cons_succ]) | (refine wpOrd_look (v := ?_) (by rfl) ?_ (by assumption) (fun _ _ _ h => h) ?_; rotate_left; (· (intro wS hSw; (try dsimp only at hSw); go_simp; (first | done | with_reducible rfl))); simp only [Act.put, List.setIfInBounds_toArray, List.set_cons_zero, List.set_cons_succ]))
    refine wpOrd_nil ?_
    clear hS
    by_cases hq : q < 0
    · go_wp2
      go_ret
      exact ⟨rfl, HB2.out⟩
    · obtain ⟨j, hj, hjl⟩ := placeI_lt (by rw [HQ.out] at hq; exact hq)
      have hqj : q = (j : Int) := by rw [HQ.out]; exact hj
      have hfn : fnAt p q = p.funcs[j] := by rw [hqj, fnAt, Int.toNat_natCast, List.getD_eq_getElem?_getD, List.getElem?_eq_getElem hjl]; rfl
      obtain ⟨b, o, C, rfl, _, hC, hrx⟩ := HX2.out.funcs.at hjl
      obtain ⟨pra, prc, hpr, -⟩ := hrx.2.1
      have e1 := hC 1 (by omega)
      rw [hpr] at e1
      obtain ⟨pn, hpn⟩ : ∃ pn, pn = p.funcs[j].params.length := ⟨_, rfl⟩
      rw [← hpn] at e1
      subst hqj
      have HFN := Lib.hid hfn
      have HPN := Lib.hid hpn
      clear hC hrx hpr hpn hfn hj HQ HP hq
      have hjz : ¬ (j : Int) < 0 := by omega
      have hjf : (j : Int) < (p.funcs.length : Int) := by omega
      go_upto_region 10 with (fail)
      refine wp_region_ordW (by kernel_rfl) (fun W => W.cell? ⟨cb, 1, none⟩ = some (.slice (some ⟨b, o, none⟩) p.funcs.length pfc) ∧ W.cell? ⟨b, o + j * 4 + 1, none⟩ = some (.slice pra pn prc) ∧ W.cell? ⟨w.heap.size, 4, none⟩ = some (.slice aa args.length ac)) [(0, 0), (0, 1), (0, 2), (0, 3), (0, 4), (0, 5), (0, 6), (0, 7), (0, 8), (0, 9), (0, 10), (0, 11), (0, 12), (0, 13), (1, 14), (0, 15)] (by kernel_rfl) ?hS2 ?_
      case hS2 => intro wd hh; exact ⟨row_at HR2.out hh 1, (cell_heap hh _).trans e1, row_at HE2.out hh 4⟩
      intro wd hh hgd hS
      have HB3 := Lib.hid (HB2.out.grown hgd HB2.out.size (fun r e => by cases e))
      have HSS := Lib.hid hS
      clear hh hgd e1
      obtain ⟨fq, hfq⟩ : ∃ fq, fq = decide (pn = args.length) := ⟨_, rfl⟩
      have HFQ := Lib.hid hfq
      clear hfq
      simp only [pickOps, List.map_cons, List.map_nil, List.getElem?_cons_zero, List.getElem?_cons_succ, Option.getD_some]
      repeat (first | (refine wpOrd_pass (by rfl) (by assumption) (fun _ _ _ h => h) ?_; simp only [Act.put, List.setIfInBounds_toArray, List.set_cons_zero, List.set_cons_succ]) | (refine wpOrd_look (v := ?_) (by rfl) ?_ (by assumption) (fun _ _ _ h => h) ?_; rotate_left; (· (intro wS hSw; (try dsimp only at hSw); go_simp; (first | done | with_reducible rfl))); simp only [Act.put, List.setIfInBounds_toArray, List.set_cons_zero, List.set_cons_succ]))
      refine wpOrd_turn ?_
      go_wp2_with (first
        | (go_at_call 129; refine (flag_any _ 52 _).mono ?_; rintro e' w2 ⟨rfl, rfl⟩))
      refine QN_keep HSS.out fun hS => ?_
      repeat (first | (refine wpOrd_pass (by rfl) (by assumption) (fun _ _ _ h => h) ?_; simp only [Act.put, List.setIfInBounds_toArray, List.set_cons_zero, List.set_cons_succ]) | (refine wpOrd_look (v := ?_) (by rfl) ?_ (by assumption) (fun _ _ _ h => h) ?_; rotate_left; (· (intro wS hSw; (try dsimp only at hSw); go_simp; (first | done | with_reducible rfl))); simp only [Act.put, List.setIfInBounds_toArray, List.set_cons_zero, List.set_cons_succ]))
      refine wpOrd_nil ?_
      go_wp2
      go_ret
      refine ⟨?_, HB3.out⟩
      have hde : decide (pn = args.length) = ((pn : Int) == (args.length : Int)) := by
        by_cases h : pn = args.length
        · simp [h]
        · have h2 : ((pn : Int) == (args.length : Int)) = false := beq_eq_false_iff_ne.2 (by omega)
          simp [h, h2]
      rw [HFN.out, ← HPN.out, hde]
      rfl
  · have hv : ownI p vs (.mk k op n nm args) = 0 := by simp [ownI, LE.kind, h2, h5, h6]
    rw [hv]
    clear hv
    have e2 : (k == 2) = false := beq_eq_false_iff_ne.2 h2
    have e5 : (k == 5) = false := beq_eq_false_iff_ne.2 h5
    have e6 : (k == 6) = false := beq_eq_false_iff_ne.2 h6
    go_enter Tryz.func185, Tryz.ntmps185
    go_wp2
    go_ret
    exact ⟨rfl, HB1.out⟩
end Go.Proofs.YtjgbkdbkachciaaGreatDoor
