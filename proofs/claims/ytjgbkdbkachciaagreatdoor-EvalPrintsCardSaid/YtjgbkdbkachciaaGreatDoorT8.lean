import Derived.Test.YtjgbkdbkachciaaGreatDoorT7
namespace Go.Proofs.YtjgbkdbkachciaaGreatDoor
open Go.RowKit Go.Shelf
attribute [local go_sem] Oper.semAt_some

/-- a function value that says no of each element, and changes nothing that was there -/
structure SaysNo {α : Type} (k : Nat) (arg : (Nat → Value) → Value) (R : World → (Nat → Value) → α → Prop) (w : World) (fid : Nat) (bnd : Array Value) (l : List α) : Prop where
  eg : ∀ args w, (callFunc fid args).run Tryz.prog w = .ok (.enter fid args) w
  call : ∀ x ∈ l, ∀ W C, Below w.heap.size w W → R W C x → Calls Tryz.prog fid (#[arg C] ++ bnd) W fun e w' => e = .returned (.bool false) ∧ Below W.heap.size W w'
abbrev agg5 (C : Nat → Value) : Value := .agg #[C 0, C 1, C 2, C 3, C 4]
abbrev agg1 (C : Nat → Value) : Value := C 0
theorem RSlB.below {α : Type} {B : Nat → Prop} {k : Nat} {R : World → (Nat → Value) → α → Prop} {w w' : World} (hb : Below w.heap.size w w') (hR : ∀ C x, R w C x → R w' C x) {v : Value} {l : List α} (h : RSlB B k R w v l) : RSlB B k R w' v l := h.grown (below_grown hb none) (fun r e => by cases e) hR
theorem RSlB.at {α : Type} {B : Nat → Prop} {k : Nat} {R : World → (Nat → Value) → α → Prop} {w : World} {a : Option Addr} {c n : Nat} {l : List α} (h : RSlB B k R w (.slice a n c) l) {i : Nat} (hi : i < l.length) : ∃ b o C, a = some ⟨b, o, none⟩ ∧ B b ∧ (∀ j, j < k → w.cell? ⟨b, o + i * k + j, none⟩ = some (C j)) ∧ R w C l[i] := by
  obtain ⟨a', c', h1, h2, h3⟩ := h
  obtain ⟨rfl, rfl, rfl⟩ : a = a' ∧ n = l.length ∧ c = c' := by simpa using h1
  rcases h3 with rfl | ⟨b, o, rfl, hb, h4⟩
  · exact absurd hi (by simp)
  · obtain ⟨C, h5, h6⟩ := h4 i l[i] (List.getElem?_eq_getElem hi)
    exact ⟨b, o, C, rfl, hb, h5, h6⟩

set_option maxRecDepth 100000 in
set_option maxHeartbeats 2000000 in
theorem indexE_none {α : Type} {B : Nat → Prop} {R : World → (Nat → Value) → α → Prop} (w : World) (v : Value) (l : List α) (hv : RSlB B 5 R w v l) (hR : ∀ W W' C x, Below W.heap.size W W' → R W C x → R W' C x) (fid : Nat) (bnd : Array Value) (hp : SaysNo 5 agg5 R w fid bnd l) :
    Calls Tryz.prog 143 #[v, .func (.func fid) #[] bnd] w fun e w' => e = .returned (I (-1)) ∧ Below w.heap.size w w' := by
  obtain ⟨a0, c0, rfl, hlen, -⟩ := id hv
  have heg := hp.eg
  have HV := Lib.hid hv
  have HP := Lib.hid hp
  have HRR := Lib.hid hR
  clear hv hp hR
  go_enter Tryz.func143, Tryz.ntmps143
  go_wp2
  go_loopg [8] l.length (fun gh i wr => ∃ k : Nat, gh + k = l.length ∧ i = I k ∧ Below w.heap.size w wr)
  case atStart => exact ⟨0, rfl, rfl, Below.refl _ _⟩
  case round =>
    obtain ⟨k, hg, rfl, hb⟩ := hrel
    obtain ⟨wo, rfl⟩ : ∃ wo, wo = wr := ⟨_, rfl⟩
    have HB := Lib.hid hb
    clear hb
    by_cases hlt : k < l.length
    · have hltz : (k : Int) < (l.length : Int) := by omega
      obtain ⟨b, o, C, rfl, _, hC, hrx⟩ := (HV.out.below HB.out (fun C x h => HRR.out _ _ C x HB.out h)).at hlt
      have e0 := hC 0 (by omega)
      have e1 := hC 1 (by omega)
      have e2 := hC 2 (by omega)
      have e3 := hC 3 (by omega)
      have e4 := hC 4 (by omega)
      simp only [Nat.add_zero] at e0 e1 e2 e3 e4
      have hx := HP.out.call l[k] (List.getElem_mem hlt) wo C HB.out hrx
      have HX := Lib.hid hx
      clear hx hC hrx
      go_wp2
      refine HX.out.mono ?_
      rintro e w1 ⟨rfl, hb1⟩
      have HB1 := Lib.hid (HB.out.trans (hb1.mono HB.out.size))
      clear hb1 e0 e1 e2 e3 e4
      go_wp2
      go_roundg (l.length - (k + 1))
      case measure => omega
      case rel => exact ⟨k + 1, by omega, by go_num, HB1.out⟩
    · have hltz : ¬ (k : Int) < (l.length : Int) := by omega
      go_wp2
      go_ret
      exact ⟨rfl, HB.out⟩

set_option maxRecDepth 100000 in
set_option maxHeartbeats 2000000 in
theorem containsE_none {α : Type} {B : Nat → Prop} {R : World → (Nat → Value) → α → Prop} (w : World) (v : Value) (l : List α) (hv : RSlB B 5 R w v l) (hR : ∀ W W' C x, Below W.heap.size W W' → R W C x → R W' C x) (fid : Nat) (bnd : Array Value) (hp : SaysNo 5 agg5 R w fid bnd l) :
    Calls Tryz.prog 100 #[v, .func (.func fid) #[] bnd] w fun e w' => e = .returned (.bool false) ∧ Below w.heap.size w w' := by
  have HI := Lib.hid (indexE_none w v l hv hR fid bnd hp)
  clear hv hp hR
  go_enter Tryz.func100, Tryz.ntmps100
  go_wp2_with (first
    | (go_at_call 143; refine HI.out.mono ?_; rintro e w1 ⟨rfl, hb1⟩; have HB1 := Lib.hid hb1; clear hb1))
  go_ret
  exact ⟨rfl, HB1.out⟩

set_option maxRecDepth 100000 in
set_option maxHeartbeats 2000000 in
theorem indexS_none {α : Type} {B : Nat → Prop} {R : World → (Nat → Value) → α → Prop} (w : World) (v : Value) (l : List α) (hv : RSlB B 5 R w v l) (hR : ∀ W W' C x, Below W.heap.size W W' → R W C x → R W' C x) (fid : Nat) (bnd : Array Value) (hp : SaysNo 5 agg5 R w fid bnd l) :
    Calls Tryz.prog 178 #[v, .func (.func fid) #[] bnd] w fun e w' => e = .returned (I (-1)) ∧ Below w.heap.size w w' := by
  obtain ⟨a0, c0, rfl, hlen, -⟩ := id hv
  have heg := hp.eg
  have HV := Lib.hid hv
  have HP := Lib.hid hp
  have HRR := Lib.hid hR
  clear hv hp hR
  go_enter Tryz.func178, Tryz.ntmps178
  go_wp2
  go_loopg [8] l.length (fun gh i wr => ∃ k : Nat, gh + k = l.length ∧ i = I k ∧ Below w.heap.size w wr)
  case atStart => exact ⟨0, rfl, rfl, Below.refl _ _⟩
  case round =>
    obtain ⟨k, hg, rfl, hb⟩ := hrel
    obtain ⟨wo, rfl⟩ : ∃ wo, wo = wr := ⟨_, rfl⟩
    have HB := Lib.hid hb
    clear hb
    by_cases hlt : k < l.length
    · have hltz : (k : Int) < (l.length : Int) := by omega
      obtain ⟨b, o, C, rfl, _, hC, hrx⟩ := (HV.out.below HB.out (fun C x h => HRR.out _ _ C x HB.out h)).at hlt
      have e0 := hC 0 (by omega)
      have e1 := hC 1 (by omega)
      have e2 := hC 2 (by omega)
      have e3 := hC 3 (by omega)
      have e4 := hC 4 (by omega)
      simp only [Nat.add_zero] at e0 e1 e2 e3 e4
      have hx := HP.out.call l[k] (List.getElem_mem hlt) wo C HB.out hrx
      have HX := Lib.hid hx
      clear hx hC hrx
      go_wp2
      refine HX.out.mono ?_
      rintro e w1 ⟨rfl, hb1⟩
      have HB1 := Lib.hid (HB.out.trans (hb1.mono HB.out.size))
      clear hb1 e0 e1 e2 e3 e4
      go_wp2
      go_roundg (l.length - (k + 1))
      case measure => omega
      case rel => exact ⟨k + 1, by omega, by go_num, HB1.out⟩
    · have hltz : ¬ (k : Int) < (l.length : Int) := by omega
      go_wp2
      go_ret
      exact ⟨rfl, HB.out⟩

set_option maxRecDepth 100000 in
set_option maxHeartbeats 2000000 in
theorem containsS_none {α : Type} {B : Nat → Prop} {R : World → (Nat → Value) → α → Prop} (w : World) (v : Value) (l : List α) (hv : RSlB B 5 R w v l) (hR : ∀ W W' C x, Below W.heap.size W W' → R W C x → R W' C x) (fid : Nat) (bnd : Array Value) (hp : SaysNo 5 agg5 R w fid bnd l) :
    Calls Tryz.prog 118 #[v, .func (.func fid) #[] bnd] w fun e w' => e = .returned (.bool false) ∧ Below w.heap.size w w' := by
  have HI := Lib.hid (indexS_none w v l hv hR fid bnd hp)
  clear hv hp hR
  go_enter Tryz.func118, Tryz.ntmps118
  go_wp2_with (first
    | (go_at_call 178; refine HI.out.mono ?_; rintro e w1 ⟨rfl, hb1⟩; have HB1 := Lib.hid hb1; clear hb1))
  go_ret
  exact ⟨rfl, HB1.out⟩

set_option maxRecDepth 100000 in
set_option maxHeartbeats 2000000 in
theorem indexN_none {α : Type} {B : Nat → Prop} {R : World → (Nat → Value) → α → Prop} (w : World) (v : Value) (l : List α) (hv : RSlB B 1 R w v l) (hR : ∀ W W' C x, Below W.heap.size W W' → R W C x → R W' C x) (fid : Nat) (bnd : Array Value) (hp : SaysNo 1 agg1 R w fid bnd l) :
    Calls Tryz.prog 125 #[v, .func (.func fid) #[] bnd] w fun e w' => e = .returned (I (-1)) ∧ Below w.heap.size w w' := by
  obtain ⟨a0, c0, rfl, hlen, -⟩ := id hv
  have heg := hp.eg
  have HV := Lib.hid hv
  have HP := Lib.hid hp
  have HRR := Lib.hid hR
  clear hv hp hR
  go_enter Tryz.func125, Tryz.ntmps125
  go_wp2
  go_loopg [8] l.length (fun gh i wr => ∃ k : Nat, gh + k = l.length ∧ i = I k ∧ Below w.heap.size w wr)
  case atStart => exact ⟨0, rfl, rfl, Below.refl _ _⟩
  case round =>
    obtain ⟨k, hg, rfl, hb⟩ := hrel
    obtain ⟨wo, rfl⟩ : ∃ wo, wo = wr := ⟨_, rfl⟩
    have HB := Lib.hid hb
    clear hb
    by_cases hlt : k < l.length
    · have hltz : (k : Int) < (l.length : Int) := by omega
      obtain ⟨b, o, C, rfl, _, hC, hrx⟩ := (HV.out.below HB.out (fun C x h => HRR.out _ _ C x HB.out h)).at hlt
      have e0 := hC 0 (by omega)
      simp only [Nat.add_zero, Nat.mul_one] at e0
      have hx := HP.out.call l[k] (List.getElem_mem hlt) wo C HB.out hrx
      have HX := Lib.hid hx
      clear hx hC hrx
      go_wp2
      refine HX.out.mono ?_
      rintro e w1 ⟨rfl, hb1⟩
      have HB1 := Lib.hid (HB.out.trans (hb1.mono HB.out.size))
      clear hb1 e0
      go_wp2
      go_roundg (l.length - (k + 1))
      case measure => omega
      case rel => exact ⟨k + 1, by omega, by go_num, HB1.out⟩
    · have hltz : ¬ (k : Int) < (l.length : Int) := by omega
      go_wp2
      go_ret
      exact ⟨rfl, HB.out⟩

set_option maxRecDepth 100000 in
set_option maxHeartbeats 2000000 in
theorem containsN_none {α : Type} {B : Nat → Prop} {R : World → (Nat → Value) → α → Prop} (w : World) (v : Value) (l : List α) (hv : RSlB B 1 R w v l) (hR : ∀ W W' C x, Below W.heap.size W W' → R W C x → R W' C x) (fid : Nat) (bnd : Array Value) (hp : SaysNo 1 agg1 R w fid bnd l) :
    Calls Tryz.prog 87 #[v, .func (.func fid) #[] bnd] w fun e w' => e = .returned (.bool false) ∧ Below w.heap.size w w' := by
  have HI := Lib.hid (indexN_none w v l hv hR fid bnd hp)
  clear hv hp hR
  go_enter Tryz.func87, Tryz.ntmps87
  go_wp2_with (first
    | (go_at_call 125; refine HI.out.mono ?_; rintro e w1 ⟨rfl, hb1⟩; have HB1 := Lib.hid hb1; clear hb1))
  go_ret
  exact ⟨rfl, HB1.out⟩
end Go.Proofs.YtjgbkdbkachciaaGreatDoor
