import Derived.Test.YtjgbkdbkachciaaGreatDoorT7
namespace Go.Proofs.YtjgbkdbkachciaaGreatDoor
open Go.RowKit Go.Shelf
attribute [local go_sem] Oper.semAt_some

/-- a function value that says no of each element, and changes nothing that was there -/
structure SaysNo {α : Type} (k : Nat) (arg : (Nat → Value) → Value) (R : World → (Nat → Value) → α → Prop) (w : World) (fid : Nat) (bnd : Array Value) (l : List α) : Prop where
  eg : ∀ args w, (callFunc fid args).run Tryz.prog w = .ok (.enter fid args) w
  call : ∀ x ∈ l, ∀ W C, Below w.heap.size w W → R W C x → Calls Tryz.prog fid (#[arg C] ++ bnd) W fun e w' => e = .returned (.bool false) ∧ Below W.heap.size W w'
abbrev agg5 (C : Nat → Value) : Value := .agg #[C 0, C 1, C 2, C 3, C 4]
abbrev agg1 (C : Nat → Value) : Value := C 0
theorem RSlB.below {α : Type} {B : Nat → Prop} {k : Nat} {R : World → (Nat → Value) → α → Prop} {w w' : World} (hb : Below w.heap.size w w') (hR : ∀ C x, R w C x → R w' C x) {v : Value} {l : List α} (h : RSlB B k R w v l) : RSlB B k R w' v l := h.grown (below_grown hb none) (fun r e => by cases e) hR
theorem RSlB.at {α : Type} {B : Nat → Prop} {k : Nat} {R : World → (Nat → Value) → α → Prop} {w : World} {a : Option Addr} {c n : Nat} {l : List α} (h : RSlB B k R w (.slice a n c) l) {i : Nat} (hi : i < l.length) : ∃ b o C, a = some ⟨b, o, none⟩ ∧ B b ∧ (∀ j, j < k → w.cell? ⟨b, o + i * k + j, none⟩ = some (C j)) ∧ R w C l[i] := by
  obtain ⟨a', c', h1, h2, h3⟩ := h
  obtain ⟨rfl, rfl, rfl⟩ : a = a' ∧ n = l.length ∧ c = c' := by simpa using h1
  rcases h3 with rfl | ⟨b, o, rfl, hb, h4⟩
  · exact absurd hi (by simp)
  · obtain ⟨C, h5, h6⟩ := h4 i l[i] (List.getElem?_eq_getElem hi)
    exact ⟨b, o, C, rfl, hb, h5, h6⟩

set_option maxRecDepth 100000 in
set_option maxHeartbeats 2000000 in
theorem indexE_none {α : Type} {B : Nat → Prop} {R : World → (Nat → Value) → α → Prop} (w : World) (v : Value) (l : List α) (hv : RSlB B 5 R w v l) (hR : ∀ W W' C x, Below W.heap.size W W' → R W C x → R W' C x) (fid : Nat) (bnd : Array Value) (hp : SaysNo 5 agg5 R w fid bnd l) :
    Calls Tryz.prog 143 #[v, .func (.func fid) #[] bnd] w fun e w' => e = .returned (I (-1)) ∧ Below w.heap.size w w' := by
  obtain ⟨a0, c0, rfl, hlen, -⟩ := id hv
  have heg := hp.eg
  have HV := Lib.hid hv
  have HP := Lib.hid hp
  have HRR := Lib.hid hR
  clear hv hp hR
  go_enter Tryz.func143, Tryz.ntmps143
  go_wp2
  go_loopg [8] l.length (fun gh i wr => ∃ k : Nat, gh + k = l.length ∧ i = I k ∧ Below w.heap.size w wr)
  case atStart => exact ⟨0, rfl, rfl, Below.refl _ _⟩
  case round =>
    obtain ⟨k, hg, rfl, hb⟩ := hrel
    obtain ⟨wo, rfl⟩ : ∃ wo, wo = wr := ⟨_, rfl⟩
    have HB := Lib.hid hb
    clear hb
    by_cases hlt : k < l.length
    · have hltz : (k : Int) < (l.length : Int) := by omega
      obtain ⟨b, o, C, rfl, _, hC, hrx⟩ := (HV.out.below HB.out (fun C x h => HRR.out _ _ C x HB.out h)).at hlt
      have e0 := hC 0 (by omega)
      have e1 := hC 1 (by omega)
      have e2 := hC 2 (by omega)
      have e3 := hC 3 (by omega)
      have e4 := hC 4 (by omega)
      simp only [Nat.add_zero] at e0 e1 e2 e3 e4
      have hx := HP.out.call l[k] (List.getElem_mem hlt) wo C HB.out hrx
      have HX := Lib.hid hx
      clear hx hC hrx
      go_wp2
      refine HX.out.mono ?_
      rintro e w1 ⟨rfl, hb1⟩
      have HB1 := Lib.hid (HB.out.trans (hb1.mono HB.out.size))
      clear hb1 e0 e1 e2 e3 e4
      go_wp2
      go_roundg (l.length - (k + 1))
      case measure => omega
      case rel => exact ⟨k + 1, by omega, by go_num, HB1.out⟩
    · have hltz : ¬ (k : Int) < (l.length : Int) := by omega
      go_wp2
      go_ret
      exact ⟨rfl, HB.out⟩

set_option maxRecDepth 100000 in
set_option maxHeartbeats 2000000 in
theorem containsE_none {α : Type} {B : Nat → Prop} {R : World → (Nat → Value) → α → Prop} (w : World) (v : Value) (l : List α) (hv : RSlB B 5 R w v l) (hR : ∀ W W' C x, Below W.heap.size W W' → R W C x → R W' C x) (fid : Nat) (bnd : Array Value) (hp : SaysNo 5 agg5 R w fid bnd l) :
    Calls Tryz.prog 100 #[v, .func (.func fid) #[] bnd] w fun e w' => e = .returned (.bool false) ∧ Below w.heap.size w w' := by
  have HI := Lib.hid (indexE_none w v l hv hR fid bnd hp)
  clear hv hp hR
  go_enter Tryz.func100, Tryz.ntmps100
  go_wp2_with (first
    | (go_at_call 143; refine HI.out.mono ?_; rintro e w1 ⟨rfl, hb1⟩; have HB1 := Lib.hid hb1; clear hb1))
  go_ret
  exact ⟨rfl, HB1.out⟩

set_option maxRecDepth 100000 in
set_option maxHeartbeats 2000000 in
theorem indexS_none {α : Type} {B : Nat → Prop} {R : World → (Nat → Value) → α → Prop} (w : World) (v : Value) (l : List α) (hv : RSlB B 5 R w v l) (hR : ∀ W W' C x, Below W.heap.size W W' → R W C x → R W' C x) (fid : Nat) (bnd : Array Value) (hp : SaysNo 5 agg5 R w fid bnd l) :
    Calls Tryz.prog 178 #[v, .func (.func fid) #[] bnd] w fun e w' => e = .returned (I (-1)) ∧ Below w.heap.size w w' := by
  obtain ⟨a0, c0, rfl, hlen, -⟩ := id hv
  have heg := hp.eg
  have HV := Lib.hid hv
  have HP := Lib.hid hp
  have HRR := Lib.hid hR
  clear hv hp hR
  go_enter Tryz.func178, Tryz.ntmps178
  go_wp2
  go_loopg [8] l.length (fun gh i wr => ∃ k : Nat, gh + k = l.length ∧ i = I k ∧ Below w.heap.size w wr)
  case atStart => exact ⟨0, rfl, rfl, Below.refl _ _⟩
  case round =>
    obtain ⟨k, hg, rfl, hb⟩ := hrel
    obtain ⟨wo, rfl⟩ : ∃ wo, wo = wr := ⟨_, rfl⟩
    have HB := Lib.hid hb
    clear hb
    by_cases hlt : k < l.length
    · have hltz : (k : Int) < (l.length : Int) := by omega
      obtain ⟨b, o, C, rfl, _, hC, hrx⟩ := (HV.out.below HB.out (fun C x h => HRR.out _ _ C x HB.out h)).at hlt
      have e0 := hC 0 (by omega)
      have e1 := hC 1 (by omega)
      have e2 := hC 2 (by omega)
      have e3 := hC 3 (by omega)
      have e4 := hC 4 (by omega)
      simp only [Nat.add_zero] at e0 e1 e2 e3 e4
      have hx := HP.out.call l[k] (List.getElem_mem hlt) wo C HB.out hrx
      have HX := Lib.hid hx
      clear hx hC hrx
      go_wp2
      refine HX.out.mono ?_
      rintro e w1 ⟨rfl, hb1⟩
      have HB1 := Lib.hid (HB.out.trans (hb1.mono HB.out.size))
      clear hb1 e0 e1 e2 e3 e4
      go_wp2
      go_roundg (l.length - (k + 1))
      case measure => omega
      case rel => exact ⟨k + 1, by omega, by go_num, HB1.out⟩
    · have hltz : ¬ (k : Int) < (l.length : Int) := by omega
      go_wp2
      go_ret
      exact ⟨rfl, HB.out⟩

set_option maxRecDepth 100000 in
set_option maxHeartbeats 2000000 in
theorem containsS_none {α : Type} {B : Nat → Prop} {R : World → (Nat → Value) → α → Prop} (w : World) (v : Value) (l : List α) (hv : RSlB B 5 R w v l) (hR : ∀ W W' C x, Below W.heap.size W W' → R W C x → R W' C x) (fid : Nat) (bnd : Array Value) (hp : SaysNo 5 agg5 R w fid bnd l) :
    Calls Tryz.prog 118 #[v, .func (.func fid) #[] bnd] w fun e w' => e = .returned (.bool false) ∧ Below w.heap.size w w' := by
  have HI := Lib.hid (indexS_none w v l hv hR fid bnd hp)
  clear hv hp hR
  go_enter Tryz.func118, Tryz.ntmps118
  go_wp2_with (first
    | (go_at_call 178; refine HI.out.mono ?_; rintro e w1 ⟨rfl, hb1⟩; have HB1 := Lib.hid hb1; clear hb1))
  go_ret
  exact ⟨rfl, HB1.out⟩

set_option maxRecDepth 100000 in
set_option maxHeartbeats 2000000 in
theorem indexN_none {α : Type} {B : Nat → Prop} {R : World → (Nat → Value) → α → Prop} (w : World) (v : Value) (l : List α) (hv : RSlB B 1 R w v l) (hR : ∀ W W' C x, Below W.heap.size W W' → R W C x → R W' C x) (fid : Nat) (bnd : Array Value) (hp : SaysNo 1 agg1 R w fid bnd l) :
    Calls Tryz.prog 125 #[v, .func (.func fid) #[] bnd] w fun e w' => e = .returned (I (-1)) ∧ Below w.heap.size w w' := by
  obtain ⟨a0, c0, rfl, hlen, -⟩ := id hv
  have heg := hp.eg
  have HV := Lib.hid hv
  have HP := Lib.hid hp
  have HRR := Lib.hid hR
  clear hv hp hR
  go_enter Tryz.func125, Tryz.ntmps125
  go_wp2
  go_loopg [8] l.length (fun gh i wr => ∃ k : Nat, gh + k = l.length ∧ i = I k ∧ Below w.heap.size w wr)
  case atStart => exact ⟨0, rfl, rfl, Below.refl _ _⟩
  case round =>
    obtain ⟨k, hg, rfl, hb⟩ := hrel
    obtain ⟨wo, rfl⟩ : ∃ wo, wo = wr := ⟨_, rfl⟩
    have HB := Lib.hid hb
    clear hb
    by_cases hlt : k < l.length
    · have hltz : (k : Int) < (l.length : Int) := by omega
      obtain ⟨b, o, C, rfl, _, hC, hrx⟩ := (HV.out.below HB.out (fun C x h => HRR.out _ _ C x HB.out h)).at hlt
      have e0 := hC 0 (by omega)
      simp only [Nat.add_zero, Nat.mul_one] at e0
      have hx := HP.out.call l[k] (List.getElem_mem hlt) wo C HB.out hrx
      have HX := Lib.hid hx
      clear hx hC hrx
      go_wp2
      refine HX.out.mono ?_
      rintro e w1 ⟨rfl, hb1⟩
      have HB1 := Lib.hid (HB.out.trans (hb1.mono HB.out.size))
      clear hb1 e0
      go_wp2
      go_roundg (l.length - (k + 1))
      case measure => omega
      case rel => exact ⟨k + 1, by omega, by go_num, HB1.out⟩
    · have hltz : ¬ (k : Int) < (l.length : Int) := by omega
      go_wp2
      go_ret
      exact ⟨rfl, HB.out⟩

set_option maxRecDepth 100000 in
set_option maxHeartbeats 2000000 in
theorem containsN_none {α : Type} {B : Nat → Prop} {R : World → (Nat → Value) → α → Prop} (w : World) (v : Value) (l : List α) (hv : RSlB B 1 R w v l) (hR : ∀ W W' C x, Below W.heap.size W W' → R W C x → R W' C x) (fid : Nat) (bnd : Array Value) (hp : SaysNo 1 agg1 R w fid bnd l) :
    Calls Tryz.prog 87 #[v, .func (.func fid) #[] bnd] w fun e w' => e = .returned (.bool false) ∧ Below w.heap.size w w' := by
  have HI := Lib.hid (indexN_none w v l hv hR fid bnd hp)
  clear hv hp hR
  go_enter Tryz.func87, Tryz.ntmps87
  go_wp2_with (first
    | (go_at_call 125; refine HI.out.mono ?_; rintro e w1 ⟨rfl, hb1⟩; have HB1 := Lib.hid hb1; clear hb1))
  go_ret
  exact ⟨rfl, HB1.out⟩
end Go.Proofs.YtjgbkdbkachciaaGreatDoor

namespace Go.Proofs.YtjgbkdbkachciaaGreatDoor
open Go.RowKit Go.Shelf
attribute [local go_sem] Oper.semAt_some

theorem only_results {tmps : Array Value} {w : World} {g : Nat} {cs : Array Value} (h2 : tmps.getD 2 undef = .pointer (some ⟨g, 0, none⟩)) (hr : w.heap[g]? = some (.cells cs 31 (0, 0))) (hs : (Tryz.prog.info? 31).map (·.size) = some cs.size) :
    (results Tryz.f102 tmps).run Tryz.prog w = .ok (.tuple #[.agg cs, tmps.getD 3 undef, tmps.getD 4 undef]) w := by
  have h2' : tmps[2]?.getD undef = .pointer (some ⟨g, 0, none⟩) := by simpa using h2
  have h := run_loadVar_row (P := Tryz.prog) w g 31 31 cs (0, 0) _ hr Tryz.underlying31 rfl hs
  simp [results, h2', asAddr, h]
theorem row_held {n : Nat} {w wd : World} {cs : List Value} (hr : Row w n 31 cs) (hh : wd.heap = w.heap) (j : Nat) : wd.cell? ⟨n, j, none⟩ = cs[j]? := by
  have : Row wd n 31 cs := by unfold Row at *; rw [hh]; exact hr
  exact this.cell j

set_option maxRecDepth 100000 in
set_option maxHeartbeats 2000000 in
theorem only_num (op n : Int) (nm : Str) (av : Value) (h1 : 0 ≤ n) (w : World) :
    Calls Tryz.prog 102 #[.agg #[I 1, I op, I n, S nm, av]] w fun e w' => e = .returned (.tuple #[.agg #[I 1, I 0, I n, S [], .slice none 0 0], I 0, .bool true]) ∧ Below w.heap.size w w' := by
  have h1b : decide (0 ≤ n) = true := by simp [h1]
  go_enter Tryz.func102, Tryz.ntmps102
  go_upto_region 2 with (first
    | (refine store_first 31 (.tmp 2) (.tmp 7) rfl ?_; refine wpList_store_row rfl 31 (.tmp 2) (.tmp 7) rfl (w.heap.size + 1) _ rfl rfl 31 eZ (heap_at (by simp)) (by kernel_rfl) (by rfl) (by simp [Value.oneCell']) ?_))
  obtain ⟨w1, hw1⟩ : ∃ w1, w1 = ((w.alloc (.cells #[I 1, I op, I n, S nm, av] 31)).alloc (.cells eZ 31)).setRow (w.heap.size + 1) #[I 1, I 0, I 0, S [], .slice none 0 0] := ⟨_, rfl⟩
  have hb1 : Below w.heap.size w w1 := by rw [hw1]; exact ((below_a1 w _).alloc (by simp) _).grown setRow_grown (by simp; omega) (fun r e => by cases e; omega)
  have hB : Row w1 w.heap.size 31 [I 1, I op, I n, S nm, av] := by rw [hw1]; exact (setRow_other _ _ _ _ (by omega)).trans (heap_old _ _ (heap_new _ _))
  have hX : Row w1 (w.heap.size + 1) 31 [I 1, I 0, I 0, S [], .slice none 0 0] := by rw [hw1]; exact setRow_heap _ _ _ _ _ _ (heap_at (by simp))
  rw [← hw1]
  clear hw1
  have b0 := hB.cell 0
  have b2 := hB.cell 2
  have x2 := hX.cell 2
  have f2 := hX.frozen 2
  simp only [List.getElem?_cons_succ, List.getElem?_cons_zero] at b0 b2 x2
  have HB := Lib.hid hB
  have HX := Lib.hid hX
  have HB1 := Lib.hid hb1
  clear hB hX hb1
  go_upto_region 5 with (fail)
  have hg2 := setCell_grown w1 (w.heap.size + 1) 2 (I n)
  have HX2 := Lib.hid (HX.out.set 2 (I n))
  have HB2 := Lib.hid (HB.out.kept hg2 (by simp))
  have HC2 := Lib.hid (HB1.out.grown hg2 HB1.out.size (fun r e => by cases e; omega))
  obtain ⟨w2, hw2⟩ : ∃ w2, w2 = w1.setCell ⟨w.heap.size + 1, 2, none⟩ (I n) := ⟨_, rfl⟩
  rw [← hw2] at HX2 HB2 HC2 ⊢
  clear hw2 hg2 b0 b2 x2 f2
  refine wp_region_ordW (by kernel_rfl) (fun W => W.cell? ⟨w.heap.size, 2, none⟩ = some (I n) ∧ W.cell? ⟨w.heap.size + 1, 0, none⟩ = some (I 1) ∧ W.cell? ⟨w.heap.size + 1, 1, none⟩ = some (I 0) ∧ W.cell? ⟨w.heap.size + 1, 2, none⟩ = some (I n) ∧ W.cell? ⟨w.heap.size + 1, 3, none⟩ = some (S []) ∧ W.cell? ⟨w.heap.size + 1, 4, none⟩ = some (.slice none 0 0))
    [(0, 0), (0, 1), (0, 2), (0, 3), (1, 4), (0, 5), (0, 6)] (by kernel_rfl) ?hS ?_
  case hS => intro wd hh; exact ⟨row_held HB2.out hh 2, row_held HX2.out hh 0, row_held HX2.out hh 1, row_held HX2.out hh 2, row_held HX2.out hh 3, row_held HX2.out hh 4⟩
  intro wd hh hgd hS
  have hXd := HX2.out.kept hgd (by simp)
  have HXD := Lib.hid hXd
  have HBD := Lib.hid (HB2.out.kept hgd (by simp))
  have HCD := Lib.hid (HC2.out.grown hgd HC2.out.size (fun r e => by cases e))
  clear hh hgd hXd
  simp only [pickOps, List.map_cons, List.map_nil, List.getElem?_cons_zero, List.getElem?_cons_succ, Option.getD_some]
  repeat (first | (refine wpOrd_pass (by rfl) (by assumption) (fun _ _ _ h => h) ?_; simp only [Act.put, List.setIfInBounds_toArray, List.set_cons_zero, List.set_cons_succ]) | (refine wpOrd_look (v := ?_) (by rfl) ?_ (by assumption) (fun _ _ _ h => h) ?_; rotate_left; (· (intro wS hSw; (try dsimp only at hSw); go_simp; (first | done | with_reducible rfl))); simp only [Act.put, List.setIfInBounds_toArray, List.set_cons_zero, List.set_cons_succ]))
  refine wpOrd_turn ?_
  go_wp2_with (first
    | (refine store_first 31 (.tmp 2) (.tmp 15) rfl ?_; refine wpList_store_row rfl 31 (.tmp 2) (.tmp 15) rfl (w.heap.size + 1) _ rfl rfl 31 #[I 1, I 0, I n, S [], .slice none 0 0] HXD.out (by kernel_rfl) (by rfl) (by simp [Value.oneCell']) ?_))
  obtain ⟨w3, hw3⟩ : ∃ w3, w3 = wd.setRow (w.heap.size + 1) #[I 1, I 0, I n, S [], .slice none 0 0] := ⟨_, rfl⟩
  have hg3 : wd.grownBy w3 (some (w.heap.size + 1)) := by rw [hw3]; exact setRow_grown
  have hx3 : Row w3 (w.heap.size + 1) 31 [I 1, I 0, I n, S [], .slice none 0 0] := by rw [hw3]; exact setRow_heap _ _ _ _ _ _ HXD.out
  have hb3 := HBD.out.kept hg3 (by simp)
  have HC3 := Lib.hid (HCD.out.grown hg3 HCD.out.size (fun r e => by cases e; omega))
  rw [← hw3]
  clear hw3 hg3 hS
  refine QN_keep ⟨hb3.cell 2, hx3.cell 0, hx3.cell 1, hx3.cell 2, hx3.cell 3, hx3.cell 4⟩ fun hS => ?_
  have HX3 := Lib.hid hx3
  clear hx3 hb3
  repeat (first | (refine wpOrd_pass (by rfl) (by assumption) (fun _ _ _ h => h) ?_; simp only [Act.put, List.setIfInBounds_toArray, List.set_cons_zero, List.set_cons_succ]) | (refine wpOrd_look (v := ?_) (by rfl) ?_ (by assumption) (fun _ _ _ h => h) ?_; rotate_left; (· (intro wS hSw; (try dsimp only at hSw); go_simp; (first | done | with_reducible rfl))); simp only [Act.put, List.setIfInBounds_toArray, List.set_cons_zero, List.set_cons_succ]))
  refine wpOrd_nil ?_
  go_wp2
  refine bodyPost_ret (only_results rfl HX3.out (by kernel_rfl)) rfl ?_
  exact ⟨rfl, HC3.out⟩

set_option maxRecDepth 100000 in
set_option maxHeartbeats 2000000 in
theorem only_var (op n : Int) (nm : Str) (av : Value) (ha : Asc nm) (hn : isName nm = true) (w : World) :
    Calls Tryz.prog 102 #[.agg #[I 2, I op, I n, S nm, av]] w fun e w' => e = .returned (.tuple #[.agg #[I 2, I 0, I 0, S nm, .slice none 0 0], I 0, .bool true]) ∧ Below w.heap.size w w' := by
  have HNM := Lib.hid (fun W => name_yes nm ha hn W)
  clear ha hn
  go_enter Tryz.func102, Tryz.ntmps102
  go_upto_region 2 with (first
    | (refine store_first 31 (.tmp 2) (.tmp 7) rfl ?_; refine wpList_store_row rfl 31 (.tmp 2) (.tmp 7) rfl (w.heap.size + 1) _ rfl rfl 31 eZ (heap_at (by simp)) (by kernel_rfl) (by rfl) (by simp [Value.oneCell']) ?_))
  obtain ⟨w1, hw1⟩ : ∃ w1, w1 = ((w.alloc (.cells #[I 2, I op, I n, S nm, av] 31)).alloc (.cells eZ 31)).setRow (w.heap.size + 1) #[I 2, I 0, I 0, S [], .slice none 0 0] := ⟨_, rfl⟩
  have hb1 : Below w.heap.size w w1 := by rw [hw1]; exact ((below_a1 w _).alloc (by simp) _).grown setRow_grown (by simp; omega) (fun r e => by cases e; omega)
  have hB : Row w1 w.heap.size 31 [I 2, I op, I n, S nm, av] := by rw [hw1]; exact (setRow_other _ _ _ _ (by omega)).trans (heap_old _ _ (heap_new _ _))
  have hX : Row w1 (w.heap.size + 1) 31 [I 2, I 0, I 0, S [], .slice none 0 0] := by rw [hw1]; exact setRow_heap _ _ _ _ _ _ (heap_at (by simp))
  rw [← hw1]
  clear hw1
  have b0 := hB.cell 0
  have b3 := hB.cell 3
  have x3 := hX.cell 3
  have f3 := hX.frozen 3
  simp only [List.getElem?_cons_succ, List.getElem?_cons_zero] at b0 b3 x3
  have HB := Lib.hid hB
  have HX := Lib.hid hX
  have HB1 := Lib.hid hb1
  clear hB hX hb1
  go_upto_region 8 with (fail)
  have hg2 := setCell_grown w1 (w.heap.size + 1) 3 (S nm)
  have HX2 := Lib.hid (HX.out.set 3 (S nm))
  have HB2 := Lib.hid (HB.out.kept hg2 (by simp))
  have HC2 := Lib.hid (HB1.out.grown hg2 HB1.out.size (fun r e => by cases e; omega))
  obtain ⟨w2, hw2⟩ : ∃ w2, w2 = w1.setCell ⟨w.heap.size + 1, 3, none⟩ (S nm) := ⟨_, rfl⟩
  rw [← hw2] at HX2 HB2 HC2 ⊢
  clear hw2 hg2 b0 b3 x3 f3
  refine wp_region_ordW (by kernel_rfl) (fun W => W.cell? ⟨w.heap.size, 3, none⟩ = some (S nm) ∧ W.cell? ⟨w.heap.size + 1, 0, none⟩ = some (I 2) ∧ W.cell? ⟨w.heap.size + 1, 1, none⟩ = some (I 0) ∧ W.cell? ⟨w.heap.size + 1, 2, none⟩ = some (I 0) ∧ W.cell? ⟨w.heap.size + 1, 3, none⟩ = some (S nm) ∧ W.cell? ⟨w.heap.size + 1, 4, none⟩ = some (.slice none 0 0))
    [(0, 0), (0, 1), (0, 2), (1, 3), (1, 4), (0, 5), (0, 6)] (by kernel_rfl) ?hS ?_
  case hS => intro wd hh; exact ⟨row_held HB2.out hh 3, row_held HX2.out hh 0, row_held HX2.out hh 1, row_held HX2.out hh 2, row_held HX2.out hh 3, row_held HX2.out hh 4⟩
  intro wd hh hgd hS
  have hXd := HX2.out.kept hgd (by simp)
  have HXD := Lib.hid hXd
  have HBD := Lib.hid (HB2.out.kept hgd (by simp))
  have HCD := Lib.hid (HC2.out.grown hgd HC2.out.size (fun r e => by cases e))
  clear hh hgd hXd
  simp only [pickOps, List.map_cons, List.map_nil, List.getElem?_cons_zero, List.getElem?_cons_succ, Option.getD_some]
  repeat (first | (refine wpOrd_pass (by rfl) (by assumption) (fun _ _ _ h => h) ?_; simp only [Act.put, List.setIfInBounds_toArray, List.set_cons_zero, List.set_cons_succ]) | (refine wpOrd_look (v := ?_) (by rfl) ?_ (by assumption) (fun _ _ _ h => h) ?_; rotate_left; (· (intro wS hSw; (try dsimp only at hSw); go_simp; (first | done | with_reducible rfl))); simp only [Act.put, List.setIfInBounds_toArray, List.set_cons_zero, List.set_cons_succ]))
  refine wpOrd_turn ?_
  go_wp2_with (first
    | (go_at_call 117; refine (HNM.out wd).mono ?_; rintro e' wc ⟨rfl, hbc⟩; have HXC := Lib.hid (HXD.out.ext hbc); have HBC := Lib.hid (HBD.out.ext hbc); have HCC := Lib.hid (HCD.out.trans (hbc.mono HCD.out.size)); clear hbc hS))
  have hzc := HCC.out.size
  refine QN_keep ⟨HBC.out.cell 3, HXC.out.cell 0, HXC.out.cell 1, HXC.out.cell 2, HXC.out.cell 3, HXC.out.cell 4⟩ fun hS => ?_
  repeat (first | (refine wpOrd_pass (by rfl) (by assumption) (fun _ _ _ h => h) ?_; simp only [Act.put, List.setIfInBounds_toArray, List.set_cons_zero, List.set_cons_succ]) | (refine wpOrd_look (v := ?_) (by rfl) ?_ (by assumption) (fun _ _ _ h => h) ?_; rotate_left; (· (intro wS hSw; (try dsimp only at hSw); go_simp; (first | done | with_reducible rfl))); simp only [Act.put, List.setIfInBounds_toArray, List.set_cons_zero, List.set_cons_succ]))
  refine wpOrd_turn ?_
  go_wp2_with (first
    | (refine store_first 31 (.tmp 2) (.tmp 24) rfl ?_; refine wpList_store_row rfl 31 (.tmp 2) (.tmp 24) rfl (w.heap.size + 1) _ rfl rfl 31 #[I 2, I 0, I 0, S nm, .slice none 0 0] HXC.out (by kernel_rfl) (by rfl) (by simp [Value.oneCell']) ?_))
  obtain ⟨w3, hw3⟩ : ∃ w3, w3 = wc.setRow (w.heap.size + 1) #[I 2, I 0, I 0, S nm, .slice none 0 0] := ⟨_, rfl⟩
  have hg3 : wc.grownBy w3 (some (w.heap.size + 1)) := by rw [hw3]; exact setRow_grown
  have hx3 : Row w3 (w.heap.size + 1) 31 [I 2, I 0, I 0, S nm, .slice none 0 0] := by rw [hw3]; exact setRow_heap _ _ _ _ _ _ HXC.out
  have hb3 := HBC.out.kept hg3 (by simp)
  have HC3 := Lib.hid (HCC.out.grown hg3 HCC.out.size (fun r e => by cases e; omega))
  rw [← hw3]
  clear hw3 hg3 hS
  refine QN_keep ⟨hb3.cell 3, hx3.cell 0, hx3.cell 1, hx3.cell 2, hx3.cell 3, hx3.cell 4⟩ fun hS => ?_
  have HX3 := Lib.hid hx3
  clear hx3 hb3
  repeat (first | (refine wpOrd_pass (by rfl) (by assumption) (fun _ _ _ h => h) ?_; simp only [Act.put, List.setIfInBounds_toArray, List.set_cons_zero, List.set_cons_succ]) | (refine wpOrd_look (v := ?_) (by rfl) ?_ (by assumption) (fun _ _ _ h => h) ?_; rotate_left; (· (intro wS hSw; (try dsimp only at hSw); go_simp; (first | done | with_reducible rfl))); simp only [Act.put, List.setIfInBounds_toArray, List.set_cons_zero, List.set_cons_succ]))
  refine wpOrd_nil ?_
  go_wp2
  refine bodyPost_ret (only_results rfl HX3.out (by kernel_rfl)) rfl ?_
  exact ⟨rfl, HC3.out⟩

set_option maxRecDepth 100000 in
set_option maxHeartbeats 2000000 in
theorem only_one17 (n : Int) (nm : Str) (av : Value) (w : World) :
    Calls Tryz.prog 102 #[.agg #[I 3, I 17, I n, S nm, av]] w fun e w' => e = .returned (.tuple #[.agg #[I 3, I 17, I 0, S [], .slice none 0 0], I 1, .bool true]) ∧ Below w.heap.size w w' := by
  go_enter Tryz.func102, Tryz.ntmps102
  go_upto_region 2 with (first
    | (refine store_first 31 (.tmp 2) (.tmp 7) rfl ?_; refine wpList_store_row rfl 31 (.tmp 2) (.tmp 7) rfl (w.heap.size + 1) _ rfl rfl 31 eZ (heap_at (by simp)) (by kernel_rfl) (by rfl) (by simp [Value.oneCell']) ?_))
  obtain ⟨w1, hw1⟩ : ∃ w1, w1 = ((w.alloc (.cells #[I 3, I 17, I n, S nm, av] 31)).alloc (.cells eZ 31)).setRow (w.heap.size + 1) #[I 3, I 0, I 0, S [], .slice none 0 0] := ⟨_, rfl⟩
  have hb1 : Below w.heap.size w w1 := by rw [hw1]; exact ((below_a1 w _).alloc (by simp) _).grown setRow_grown (by simp; omega) (fun r e => by cases e; omega)
  have hB : Row w1 w.heap.size 31 [I 3, I 17, I n, S nm, av] := by rw [hw1]; exact (setRow_other _ _ _ _ (by omega)).trans (heap_old _ _ (heap_new _ _))
  have hX : Row w1 (w.heap.size + 1) 31 [I 3, I 0, I 0, S [], .slice none 0 0] := by rw [hw1]; exact setRow_heap _ _ _ _ _ _ (heap_at (by simp))
  rw [← hw1]
  clear hw1
  have b0 := hB.cell 0
  have b1 := hB.cell 1
  have x1 := hX.cell 1
  have f1 := hX.frozen 1
  simp only [List.getElem?_cons_succ, List.getElem?_cons_zero] at b0 b1 x1
  have HB := Lib.hid hB
  have HX := Lib.hid hX
  have HB1 := Lib.hid hb1
  clear hB hX hb1
  go_upto_region 11 with (fail)
  have hg2 := setCell_grown w1 (w.heap.size + 1) 1 (I 17)
  have HX2 := Lib.hid (HX.out.set 1 (I 17))
  have HB2 := Lib.hid (HB.out.kept hg2 (by simp))
  have HC2 := Lib.hid (HB1.out.grown hg2 HB1.out.size (fun r e => by cases e; omega))
  obtain ⟨w2, hw2⟩ : ∃ w2, w2 = w1.setCell ⟨w.heap.size + 1, 1, none⟩ (I 17) := ⟨_, rfl⟩
  rw [← hw2] at HX2 HB2 HC2 ⊢
  clear hw2 hg2 b0 b1 x1 f1
  refine wp_region_ordW (by kernel_rfl) (fun W => W.cell? ⟨w.heap.size, 1, none⟩ = some (I 17) ∧ W.cell? ⟨w.heap.size + 1, 0, none⟩ = some (I 3) ∧ W.cell? ⟨w.heap.size + 1, 1, none⟩ = some (I 17) ∧ W.cell? ⟨w.heap.size + 1, 2, none⟩ = some (I 0) ∧ W.cell? ⟨w.heap.size + 1, 3, none⟩ = some (S []) ∧ W.cell? ⟨w.heap.size + 1, 4, none⟩ = some (.slice none 0 0))
    [(0, 0), (0, 1), (0, 2), (0, 3), (0, 4), (0, 5), (0, 6), (0, 7), (0, 8), (0, 9), (0, 10), (0, 11), (0, 12), (0, 13), (1, 14), (0, 15), (0, 16)] (by kernel_rfl) ?hS ?_
  case hS => intro wd hh; exact ⟨row_held HB2.out hh 1, row_held HX2.out hh 0, row_held HX2.out hh 1, row_held HX2.out hh 2, row_held HX2.out hh 3, row_held HX2.out hh 4⟩
  intro wd hh hgd hS
  have hXd := HX2.out.kept hgd (by simp)
  have HXD := Lib.hid hXd
  have HBD := Lib.hid (HB2.out.kept hgd (by simp))
  have HCD := Lib.hid (HC2.out.grown hgd HC2.out.size (fun r e => by cases e))
  clear hh hgd hXd
  simp only [pickOps, List.map_cons, List.map_nil, List.getElem?_cons_zero, List.getElem?_cons_succ, Option.getD_some]
  repeat (first | (refine wpOrd_pass (by rfl) (by assumption) (fun _ _ _ h => h) ?_; simp only [Act.put, List.setIfInBounds_toArray, List.set_cons_zero, List.set_cons_succ]) | (refine wpOrd_look (v := ?_) (by rfl) ?_ (by assumption) (fun _ _ _ h => h) ?_; rotate_left; (· (intro wS hSw; (try dsimp only at hSw); go_simp; (first | done | with_reducible rfl))); simp only [Act.put, List.setIfInBounds_toArray, List.set_cons_zero, List.set_cons_succ]))
  refine wpOrd_turn ?_
  go_wp2_with (first
    | (refine store_first 31 (.tmp 2) (.tmp 33) rfl ?_; refine wpList_store_row rfl 31 (.tmp 2) (.tmp 33) rfl (w.heap.size + 1) _ rfl rfl 31 #[I 3, I 17, I 0, S [], .slice none 0 0] HXD.out (by kernel_rfl) (by rfl) (by simp [Value.oneCell']) ?_))
  obtain ⟨w3, hw3⟩ : ∃ w3, w3 = wd.setRow (w.heap.size + 1) #[I 3, I 17, I 0, S [], .slice none 0 0] := ⟨_, rfl⟩
  have hg3 : wd.grownBy w3 (some (w.heap.size + 1)) := by rw [hw3]; exact setRow_grown
  have hx3 : Row w3 (w.heap.size + 1) 31 [I 3, I 17, I 0, S [], .slice none 0 0] := by rw [hw3]; exact setRow_heap _ _ _ _ _ _ HXD.out
  have hb3 := HBD.out.kept hg3 (by simp)
  have HC3 := Lib.hid (HCD.out.grown hg3 HCD.out.size (fun r e => by cases e; omega))
  rw [← hw3]
  clear hw3 hg3 hS
  refine QN_keep ⟨hb3.cell 1, hx3.cell 0, hx3.cell 1, hx3.cell 2, hx3.cell 3, hx3.cell 4⟩ fun hS => ?_
  have HX3 := Lib.hid hx3
  clear hx3 hb3
  repeat (first | (refine wpOrd_pass (by rfl) (by assumption) (fun _ _ _ h => h) ?_; simp only [Act.put, List.setIfInBounds_toArray, List.set_cons_zero, List.set_cons_succ]) | (refine wpOrd_look (v := ?_) (by rfl) ?_ (by assumption) (fun _ _ _ h => h) ?_; rotate_left; (· (intro wS hSw; (try dsimp only at hSw); go_simp; (first | done | with_reducible rfl))); simp only [Act.put, List.setIfInBounds_toArray, List.set_cons_zero, List.set_cons_succ]))
  refine wpOrd_nil ?_
  go_wp2
  refine bodyPost_ret (only_results rfl HX3.out (by kernel_rfl)) rfl ?_
  exact ⟨rfl, HC3.out⟩

set_option maxRecDepth 100000 in
set_option maxHeartbeats 2000000 in
theorem only_one18 (n : Int) (nm : Str) (av : Value) (w : World) :
    Calls Tryz.prog 102 #[.agg #[I 3, I 18, I n, S nm, av]] w fun e w' => e = .returned (.tuple #[.agg #[I 3, I 18, I 0, S [], .slice none 0 0], I 1, .bool true]) ∧ Below w.heap.size w w' := by
  go_enter Tryz.func102, Tryz.ntmps102
  go_upto_region 2 with (first
    | (refine store_first 31 (.tmp 2) (.tmp 7) rfl ?_; refine wpList_store_row rfl 31 (.tmp 2) (.tmp 7) rfl (w.heap.size + 1) _ rfl rfl 31 eZ (heap_at (by simp)) (by kernel_rfl) (by rfl) (by simp [Value.oneCell']) ?_))
  obtain ⟨w1, hw1⟩ : ∃ w1, w1 = ((w.alloc (.cells #[I 3, I 18, I n, S nm, av] 31)).alloc (.cells eZ 31)).setRow (w.heap.size + 1) #[I 3, I 0, I 0, S [], .slice none 0 0] := ⟨_, rfl⟩
  have hb1 : Below w.heap.size w w1 := by rw [hw1]; exact ((below_a1 w _).alloc (by simp) _).grown setRow_grown (by simp; omega) (fun r e => by cases e; omega)
  have hB : Row w1 w.heap.size 31 [I 3, I 18, I n, S nm, av] := by rw [hw1]; exact (setRow_other _ _ _ _ (by omega)).trans (heap_old _ _ (heap_new _ _))
  have hX : Row w1 (w.heap.size + 1) 31 [I 3, I 0, I 0, S [], .slice none 0 0] := by rw [hw1]; exact setRow_heap _ _ _ _ _ _ (heap_at (by simp))
  rw [← hw1]
  clear hw1
  have b0 := hB.cell 0
  have b1 := hB.cell 1
  have x1 := hX.cell 1
  have f1 := hX.frozen 1
  simp only [List.getElem?_cons_succ, List.getElem?_cons_zero] at b0 b1 x1
  have HB := Lib.hid hB
  have HX := Lib.hid hX
  have HB1 := Lib.hid hb1
  clear hB hX hb1
  go_upto_region 11 with (fail)
  have hg2 := setCell_grown w1 (w.heap.size + 1) 1 (I 18)
  have HX2 := Lib.hid (HX.out.set 1 (I 18))
  have HB2 := Lib.hid (HB.out.kept hg2 (by simp))
  have HC2 := Lib.hid (HB1.out.grown hg2 HB1.out.size (fun r e => by cases e; omega))
  obtain ⟨w2, hw2⟩ : ∃ w2, w2 = w1.setCell ⟨w.heap.size + 1, 1, none⟩ (I 18) := ⟨_, rfl⟩
  rw [← hw2] at HX2 HB2 HC2 ⊢
  clear hw2 hg2 b0 b1 x1 f1
  refine wp_region_ordW (by kernel_rfl) (fun W => W.cell? ⟨w.heap.size, 1, none⟩ = some (I 18) ∧ W.cell? ⟨w.heap.size + 1, 0, none⟩ = some (I 3) ∧ W.cell? ⟨w.heap.size + 1, 1, none⟩ = some (I 18) ∧ W.cell? ⟨w.heap.size + 1, 2, none⟩ = some (I 0) ∧ W.cell? ⟨w.heap.size + 1, 3, none⟩ = some (S []) ∧ W.cell? ⟨w.heap.size + 1, 4, none⟩ = some (.slice none 0 0))
    [(0, 0), (0, 1), (0, 2), (0, 3), (0, 4), (0, 5), (0, 6), (0, 7), (0, 8), (0, 9), (0, 10), (0, 11), (0, 12), (0, 13), (1, 14), (0, 15), (0, 16)] (by kernel_rfl) ?hS ?_
  case hS => intro wd hh; exact ⟨row_held HB2.out hh 1, row_held HX2.out hh 0, row_held HX2.out hh 1, row_held HX2.out hh 2, row_held HX2.out hh 3, row_held HX2.out hh 4⟩
  intro wd hh hgd hS
  have hXd := HX2.out.kept hgd (by simp)
  have HXD := Lib.hid hXd
  have HBD := Lib.hid (HB2.out.kept hgd (by simp))
  have HCD := Lib.hid (HC2.out.grown hgd HC2.out.size (fun r e => by cases e))
  clear hh hgd hXd
  simp only [pickOps, List.map_cons, List.map_nil, List.getElem?_cons_zero, List.getElem?_cons_succ, Option.getD_some]
  repeat (first | (refine wpOrd_pass (by rfl) (by assumption) (fun _ _ _ h => h) ?_; simp only [Act.put, List.setIfInBounds_toArray, List.set_cons_zero, List.set_cons_succ]) | (refine wpOrd_look (v := ?_) (by rfl) ?_ (by assumption) (fun _ _ _ h => h) ?_; rotate_left; (· (intro wS hSw; (try dsimp only at hSw); go_simp; (first | done | with_reducible rfl))); simp only [Act.put, List.setIfInBounds_toArray, List.set_cons_zero, List.set_cons_succ]))
  refine wpOrd_turn ?_
  go_wp2_with (first
    | (refine store_first 31 (.tmp 2) (.tmp 33) rfl ?_; refine wpList_store_row rfl 31 (.tmp 2) (.tmp 33) rfl (w.heap.size + 1) _ rfl rfl 31 #[I 3, I 18, I 0, S [], .slice none 0 0] HXD.out (by kernel_rfl) (by rfl) (by simp [Value.oneCell']) ?_))
  obtain ⟨w3, hw3⟩ : ∃ w3, w3 = wd.setRow (w.heap.size + 1) #[I 3, I 18, I 0, S [], .slice none 0 0] := ⟨_, rfl⟩
  have hg3 : wd.grownBy w3 (some (w.heap.size + 1)) := by rw [hw3]; exact setRow_grown
  have hx3 : Row w3 (w.heap.size + 1) 31 [I 3, I 18, I 0, S [], .slice none 0 0] := by rw [hw3]; exact setRow_heap _ _ _ _ _ _ HXD.out
  have hb3 := HBD.out.kept hg3 (by simp)
  have HC3 := Lib.hid (HCD.out.grown hg3 HCD.out.size (fun r e => by cases e; omega))
  rw [← hw3]
  clear hw3 hg3 hS
  refine QN_keep ⟨hb3.cell 1, hx3.cell 0, hx3.cell 1, hx3.cell 2, hx3.cell 3, hx3.cell 4⟩ fun hS => ?_
  have HX3 := Lib.hid hx3
  clear hx3 hb3
  repeat (first | (refine wpOrd_pass (by rfl) (by assumption) (fun _ _ _ h => h) ?_; simp only [Act.put, List.setIfInBounds_toArray, List.set_cons_zero, List.set_cons_succ]) | (refine wpOrd_look (v := ?_) (by rfl) ?_ (by assumption) (fun _ _ _ h => h) ?_; rotate_left; (· (intro wS hSw; (try dsimp only at hSw); go_simp; (first | done | with_reducible rfl))); simp only [Act.put, List.setIfInBounds_toArray, List.set_cons_zero, List.set_cons_succ]))
  refine wpOrd_nil ?_
  go_wp2
  refine bodyPost_ret (only_results rfl HX3.out (by kernel_rfl)) rfl ?_
  exact ⟨rfl, HC3.out⟩

set_option maxRecDepth 100000 in
set_option maxHeartbeats 2000000 in
theorem only_one19 (n : Int) (nm : Str) (av : Value) (w : World) :
    Calls Tryz.prog 102 #[.agg #[I 3, I 19, I n, S nm, av]] w fun e w' => e = .returned (.tuple #[.agg #[I 3, I 19, I 0, S [], .slice none 0 0], I 1, .bool true]) ∧ Below w.heap.size w w' := by
  go_enter Tryz.func102, Tryz.ntmps102
  go_upto_region 2 with (first
    | (refine store_first 31 (.tmp 2) (.tmp 7) rfl ?_; refine wpList_store_row rfl 31 (.tmp 2) (.tmp 7) rfl (w.heap.size + 1) _ rfl rfl 31 eZ (heap_at (by simp)) (by kernel_rfl) (by rfl) (by simp [Value.oneCell']) ?_))
  obtain ⟨w1, hw1⟩ : ∃ w1, w1 = ((w.alloc (.cells #[I 3, I 19, I n, S nm, av] 31)).alloc (.cells eZ 31)).setRow (w.heap.size + 1) #[I 3, I 0, I 0, S [], .slice none 0 0] := ⟨_, rfl⟩
  have hb1 : Below w.heap.size w w1 := by rw [hw1]; exact ((below_a1 w _).alloc (by simp) _).grown setRow_grown (by simp; omega) (fun r e => by cases e; omega)
  have hB : Row w1 w.heap.size 31 [I 3, I 19, I n, S nm, av] := by rw [hw1]; exact (setRow_other _ _ _ _ (by omega)).trans (heap_old _ _ (heap_new _ _))
  have hX : Row w1 (w.heap.size + 1) 31 [I 3, I 0, I 0, S [], .slice none 0 0] := by rw [hw1]; exact setRow_heap _ _ _ _ _ _ (heap_at (by simp))
  rw [← hw1]
  clear hw1
  have b0 := hB.cell 0
  have b1 := hB.cell 1
  have x1 := hX.cell 1
  have f1 := hX.frozen 1
  simp only [List.getElem?_cons_succ, List.getElem?_cons_zero] at b0 b1 x1
  have HB := Lib.hid hB
  have HX := Lib.hid hX
  have HB1 := Lib.hid hb1
  clear hB hX hb1
  go_upto_region 11 with (fail)
  have hg2 := setCell_grown w1 (w.heap.size + 1) 1 (I 19)
  have HX2 := Lib.hid (HX.out.set 1 (I 19))
  have HB2 := Lib.hid (HB.out.kept hg2 (by simp))
  have HC2 := Lib.hid (HB1.out.grown hg2 HB1.out.size (fun r e => by cases e; omega))
  obtain ⟨w2, hw2⟩ : ∃ w2, w2 = w1.setCell ⟨w.heap.size + 1, 1, none⟩ (I 19) := ⟨_, rfl⟩
  rw [← hw2] at HX2 HB2 HC2 ⊢
  clear hw2 hg2 b0 b1 x1 f1
  refine wp_region_ordW (by kernel_rfl) (fun W => W.cell? ⟨w.heap.size, 1, none⟩ = some (I 19) ∧ W.cell? ⟨w.heap.size + 1, 0, none⟩ = some (I 3) ∧ W.cell? ⟨w.heap.size + 1, 1, none⟩ = some (I 19) ∧ W.cell? ⟨w.heap.size + 1, 2, none⟩ = some (I 0) ∧ W.cell? ⟨w.heap.size + 1, 3, none⟩ = some (S []) ∧ W.cell? ⟨w.heap.size + 1, 4, none⟩ = some (.slice none 0 0))
    [(0, 0), (0, 1), (0, 2), (0, 3), (0, 4), (0, 5), (0, 6), (0, 7), (0, 8), (0, 9), (0, 10), (0, 11), (0, 12), (0, 13), (1, 14), (0, 15), (0, 16)] (by kernel_rfl) ?hS ?_
  case hS => intro wd hh; exact ⟨row_held HB2.out hh 1, row_held HX2.out hh 0, row_held HX2.out hh 1, row_held HX2.out hh 2, row_held HX2.out hh 3, row_held HX2.out hh 4⟩
  intro wd hh hgd hS
  have hXd := HX2.out.kept hgd (by simp)
  have HXD := Lib.hid hXd
  have HBD := Lib.hid (HB2.out.kept hgd (by simp))
  have HCD := Lib.hid (HC2.out.grown hgd HC2.out.size (fun r e => by cases e))
  clear hh hgd hXd
  simp only [pickOps, List.map_cons, List.map_nil, List.getElem?_cons_zero, List.getElem?_cons_succ, Option.getD_some]
  repeat (first | (refine wpOrd_pass (by rfl) (by assumption) (fun _ _ _ h => h) ?_; simp only [Act.put, List.setIfInBounds_toArray, List.set_cons_zero, List.set_cons_succ]) | (refine wpOrd_look (v := ?_) (by rfl) ?_ (by assumption) (fun _ _ _ h => h) ?_; rotate_left; (· (intro wS hSw; (try dsimp only at hSw); go_simp; (first | done | with_reducible rfl))); simp only [Act.put, List.setIfInBounds_toArray, List.set_cons_zero, List.set_cons_succ]))
  refine wpOrd_turn ?_
  go_wp2_with (first
    | (refine store_first 31 (.tmp 2) (.tmp 33) rfl ?_; refine wpList_store_row rfl 31 (.tmp 2) (.tmp 33) rfl (w.heap.size + 1) _ rfl rfl 31 #[I 3, I 19, I 0, S [], .slice none 0 0] HXD.out (by kernel_rfl) (by rfl) (by simp [Value.oneCell']) ?_))
  obtain ⟨w3, hw3⟩ : ∃ w3, w3 = wd.setRow (w.heap.size + 1) #[I 3, I 19, I 0, S [], .slice none 0 0] := ⟨_, rfl⟩
  have hg3 : wd.grownBy w3 (some (w.heap.size + 1)) := by rw [hw3]; exact setRow_grown
  have hx3 : Row w3 (w.heap.size + 1) 31 [I 3, I 19, I 0, S [], .slice none 0 0] := by rw [hw3]; exact setRow_heap _ _ _ _ _ _ HXD.out
  have hb3 := HBD.out.kept hg3 (by simp)
  have HC3 := Lib.hid (HCD.out.grown hg3 HCD.out.size (fun r e => by cases e; omega))
  rw [← hw3]
  clear hw3 hg3 hS
  refine QN_keep ⟨hb3.cell 1, hx3.cell 0, hx3.cell 1, hx3.cell 2, hx3.cell 3, hx3.cell 4⟩ fun hS => ?_
  have HX3 := Lib.hid hx3
  clear hx3 hb3
  repeat (first | (refine wpOrd_pass (by rfl) (by assumption) (fun _ _ _ h => h) ?_; simp only [Act.put, List.setIfInBounds_toArray, List.set_cons_zero, List.set_cons_succ]) | (refine wpOrd_look (v := ?_) (by rfl) ?_ (by assumption) (fun _ _ _ h => h) ?_; rotate_left; (· (intro wS hSw; (try dsimp only at hSw); go_simp; (first | done | with_reducible rfl))); simp only [Act.put, List.setIfInBounds_toArray, List.set_cons_zero, List.set_cons_succ]))
  refine wpOrd_nil ?_
  go_wp2
  refine bodyPost_ret (only_results rfl HX3.out (by kernel_rfl)) rfl ?_
  exact ⟨rfl, HC3.out⟩

set_option maxRecDepth 100000 in
set_option maxHeartbeats 2000000 in
theorem only_two (op n : Int) (nm : Str) (av : Value) (ho : 0 < levelI op) (w : World) :
    Calls Tryz.prog 102 #[.agg #[I 4, I op, I n, S nm, av]] w fun e w' => e = .returned (.tuple #[.agg #[I 4, I op, I 0, S [], .slice none 0 0], I 2, .bool true]) ∧ Below w.heap.size w w' := by
  obtain ⟨L, hL⟩ : ∃ L, L = levelI op := ⟨_, rfl⟩
  have HLV := Lib.hid (fun W => level_any op W)
  rw [← hL] at HLV ho
  have hlb : decide (0 < L) = true := by simp [ho]
  clear hL
  go_enter Tryz.func102, Tryz.ntmps102
  go_upto_region 2 with (first
    | (refine store_first 31 (.tmp 2) (.tmp 7) rfl ?_; refine wpList_store_row rfl 31 (.tmp 2) (.tmp 7) rfl (w.heap.size + 1) _ rfl rfl 31 eZ (heap_at (by simp)) (by kernel_rfl) (by rfl) (by simp [Value.oneCell']) ?_))
  obtain ⟨w1, hw1⟩ : ∃ w1, w1 = ((w.alloc (.cells #[I 4, I op, I n, S nm, av] 31)).alloc (.cells eZ 31)).setRow (w.heap.size + 1) #[I 4, I 0, I 0, S [], .slice none 0 0] := ⟨_, rfl⟩
  have hb1 : Below w.heap.size w w1 := by rw [hw1]; exact ((below_a1 w _).alloc (by simp) _).grown setRow_grown (by simp; omega) (fun r e => by cases e; omega)
  have hB : Row w1 w.heap.size 31 [I 4, I op, I n, S nm, av] := by rw [hw1]; exact (setRow_other _ _ _ _ (by omega)).trans (heap_old _ _ (heap_new _ _))
  have hX : Row w1 (w.heap.size + 1) 31 [I 4, I 0, I 0, S [], .slice none 0 0] := by rw [hw1]; exact setRow_heap _ _ _ _ _ _ (heap_at (by simp))
  rw [← hw1]
  clear hw1
  have b0 := hB.cell 0
  have b1 := hB.cell 1
  have x1 := hX.cell 1
  have f1 := hX.frozen 1
  simp only [List.getElem?_cons_succ, List.getElem?_cons_zero] at b0 b1 x1
  have HB := Lib.hid hB
  have HX := Lib.hid hX
  have HB1 := Lib.hid hb1
  clear hB hX hb1
  go_upto_region 14 with (fail)
  have hg2 := setCell_grown w1 (w.heap.size + 1) 1 (I op)
  have HX2 := Lib.hid (HX.out.set 1 (I op))
  have HB2 := Lib.hid (HB.out.kept hg2 (by simp))
  have HC2 := Lib.hid (HB1.out.grown hg2 HB1.out.size (fun r e => by cases e; omega))
  obtain ⟨w2, hw2⟩ : ∃ w2, w2 = w1.setCell ⟨w.heap.size + 1, 1, none⟩ (I op) := ⟨_, rfl⟩
  rw [← hw2] at HX2 HB2 HC2 ⊢
  clear hw2 hg2 b0 b1 x1 f1
  refine wp_region_ordW (by kernel_rfl) (fun W => W.cell? ⟨w.heap.size, 1, none⟩ = some (I op) ∧ W.cell? ⟨w.heap.size + 1, 0, none⟩ = some (I 4) ∧ W.cell? ⟨w.heap.size + 1, 1, none⟩ = some (I op) ∧ W.cell? ⟨w.heap.size + 1, 2, none⟩ = some (I 0) ∧ W.cell? ⟨w.heap.size + 1, 3, none⟩ = some (S []) ∧ W.cell? ⟨w.heap.size + 1, 4, none⟩ = some (.slice none 0 0))
    [(0, 0), (0, 1), (0, 2), (1, 3), (0, 4), (1, 5), (0, 6), (0, 7)] (by kernel_rfl) ?hS ?_
  case hS => intro wd hh; exact ⟨row_held HB2.out hh 1, row_held HX2.out hh 0, row_held HX2.out hh 1, row_held HX2.out hh 2, row_held HX2.out hh 3, row_held HX2.out hh 4⟩
  intro wd hh hgd hS
  have hXd := HX2.out.kept hgd (by simp)
  have HXD := Lib.hid hXd
  have HBD := Lib.hid (HB2.out.kept hgd (by simp))
  have HCD := Lib.hid (HC2.out.grown hgd HC2.out.size (fun r e => by cases e))
  clear hh hgd hXd
  simp only [pickOps, List.map_cons, List.map_nil, List.getElem?_cons_zero, List.getElem?_cons_succ, Option.getD_some]
  repeat (first | (refine wpOrd_pass (by rfl) (by assumption) (fun _ _ _ h => h) ?_; simp only [Act.put, List.setIfInBounds_toArray, List.set_cons_zero, List.set_cons_succ]) | (refine wpOrd_look (v := ?_) (by rfl) ?_ (by assumption) (fun _ _ _ h => h) ?_; rotate_left; (· (intro wS hSw; (try dsimp only at hSw); go_simp; (first | done | with_reducible rfl))); simp only [Act.put, List.setIfInBounds_toArray, List.set_cons_zero, List.set_cons_succ]))
  refine wpOrd_turn ?_
  go_wp2_with (first
    | (go_at_call 144; refine (HLV.out wd).mono ?_; rintro e' wc ⟨rfl, hbc⟩; have HXC := Lib.hid (HXD.out.ext hbc); have HBC := Lib.hid (HBD.out.ext hbc); have HCC := Lib.hid (HCD.out.trans (hbc.mono HCD.out.size)); clear hbc hS))
  have hzc := HCC.out.size
  refine QN_keep ⟨HBC.out.cell 1, HXC.out.cell 0, HXC.out.cell 1, HXC.out.cell 2, HXC.out.cell 3, HXC.out.cell 4⟩ fun hS => ?_
  repeat (first | (refine wpOrd_pass (by rfl) (by assumption) (fun _ _ _ h => h) ?_; simp only [Act.put, List.setIfInBounds_toArray, List.set_cons_zero, List.set_cons_succ]) | (refine wpOrd_look (v := ?_) (by rfl) ?_ (by assumption) (fun _ _ _ h => h) ?_; rotate_left; (· (intro wS hSw; (try dsimp only at hSw); go_simp; (first | done | with_reducible rfl))); simp only [Act.put, List.setIfInBounds_toArray, List.set_cons_zero, List.set_cons_succ]))
  refine wpOrd_turn ?_
  go_wp2_with (first
    | (refine store_first 31 (.tmp 2) (.tmp 52) rfl ?_; refine wpList_store_row rfl 31 (.tmp 2) (.tmp 52) rfl (w.heap.size + 1) _ rfl rfl 31 #[I 4, I op, I 0, S [], .slice none 0 0] HXC.out (by kernel_rfl) (by rfl) (by simp [Value.oneCell']) ?_))
  obtain ⟨w3, hw3⟩ : ∃ w3, w3 = wc.setRow (w.heap.size + 1) #[I 4, I op, I 0, S [], .slice none 0 0] := ⟨_, rfl⟩
  have hg3 : wc.grownBy w3 (some (w.heap.size + 1)) := by rw [hw3]; exact setRow_grown
  have hx3 : Row w3 (w.heap.size + 1) 31 [I 4, I op, I 0, S [], .slice none 0 0] := by rw [hw3]; exact setRow_heap _ _ _ _ _ _ HXC.out
  have hb3 := HBC.out.kept hg3 (by simp)
  have HC3 := Lib.hid (HCC.out.grown hg3 HCC.out.size (fun r e => by cases e; omega))
  rw [← hw3]
  clear hw3 hg3 hS
  refine QN_keep ⟨hb3.cell 1, hx3.cell 0, hx3.cell 1, hx3.cell 2, hx3.cell 3, hx3.cell 4⟩ fun hS => ?_
  have HX3 := Lib.hid hx3
  clear hx3 hb3
  repeat (first | (refine wpOrd_pass (by rfl) (by assumption) (fun _ _ _ h => h) ?_; simp only [Act.put, List.setIfInBounds_toArray, List.set_cons_zero, List.set_cons_succ]) | (refine wpOrd_look (v := ?_) (by rfl) ?_ (by assumption) (fun _ _ _ h => h) ?_; rotate_left; (· (intro wS hSw; (try dsimp only at hSw); go_simp; (first | done | with_reducible rfl))); simp only [Act.put, List.setIfInBounds_toArray, List.set_cons_zero, List.set_cons_succ]))
  refine wpOrd_nil ?_
  go_wp2
  refine bodyPost_ret (only_results rfl HX3.out (by kernel_rfl)) rfl ?_
  exact ⟨rfl, HC3.out⟩

set_option maxRecDepth 100000 in
set_option maxHeartbeats 2000000 in
theorem only_call (op n : Int) (nm : Str) (ha : Asc nm) (hn : isName nm = true) (al : Option Addr) (m cl : Nat) (hm : m ≤ 6) (w : World) :
    Calls Tryz.prog 102 #[.agg #[I 5, I op, I n, S nm, (.slice al m cl)]] w fun e w' => e = .returned (.tuple #[.agg #[I 5, I 0, I 0, S nm, .slice none 0 0], I m, .bool true]) ∧ Below w.heap.size w w' := by
  have HNM := Lib.hid (fun W => name_yes nm ha hn W)
  have hmz : (m : Int) ≤ 6 := by omega
  clear ha hn
  go_enter Tryz.func102, Tryz.ntmps102
  go_upto_region 2 with (first
    | (refine store_first 31 (.tmp 2) (.tmp 7) rfl ?_; refine wpList_store_row rfl 31 (.tmp 2) (.tmp 7) rfl (w.heap.size + 1) _ rfl rfl 31 eZ (heap_at (by simp)) (by kernel_rfl) (by rfl) (by simp [Value.oneCell']) ?_))
  obtain ⟨w1, hw1⟩ : ∃ w1, w1 = ((w.alloc (.cells #[I 5, I op, I n, S nm, (.slice al m cl)] 31)).alloc (.cells eZ 31)).setRow (w.heap.size + 1) #[I 5, I 0, I 0, S [], .slice none 0 0] := ⟨_, rfl⟩
  have hb1 : Below w.heap.size w w1 := by rw [hw1]; exact ((below_a1 w _).alloc (by simp) _).grown setRow_grown (by simp; omega) (fun r e => by cases e; omega)
  have hB : Row w1 w.heap.size 31 [I 5, I op, I n, S nm, (.slice al m cl)] := by rw [hw1]; exact (setRow_other _ _ _ _ (by omega)).trans (heap_old _ _ (heap_new _ _))
  have hX : Row w1 (w.heap.size + 1) 31 [I 5, I 0, I 0, S [], .slice none 0 0] := by rw [hw1]; exact setRow_heap _ _ _ _ _ _ (heap_at (by simp))
  rw [← hw1]
  clear hw1
  have b0 := hB.cell 0
  have b3 := hB.cell 3
  have x3 := hX.cell 3
  have f3 := hX.frozen 3
  simp only [List.getElem?_cons_succ, List.getElem?_cons_zero] at b0 b3 x3
  have HB := Lib.hid hB
  have HX := Lib.hid hX
  have HB1 := Lib.hid hb1
  clear hB hX hb1
  go_upto_region 17 with (fail)
  have hg2 := setCell_grown w1 (w.heap.size + 1) 3 (S nm)
  have HX2 := Lib.hid (HX.out.set 3 (S nm))
  have HB2 := Lib.hid (HB.out.kept hg2 (by simp))
  have HC2 := Lib.hid (HB1.out.grown hg2 HB1.out.size (fun r e => by cases e; omega))
  obtain ⟨w2, hw2⟩ : ∃ w2, w2 = w1.setCell ⟨w.heap.size + 1, 3, none⟩ (S nm) := ⟨_, rfl⟩
  rw [← hw2] at HX2 HB2 HC2 ⊢
  clear hw2 hg2 b0 b3 x3 f3
  refine wp_region_ordW (by kernel_rfl) (fun W => W.cell? ⟨w.heap.size, 3, none⟩ = some (S nm) ∧ W.cell? ⟨w.heap.size, 4, none⟩ = some ((.slice al m cl)) ∧ W.cell? ⟨w.heap.size + 1, 0, none⟩ = some (I 5) ∧ W.cell? ⟨w.heap.size + 1, 1, none⟩ = some (I 0) ∧ W.cell? ⟨w.heap.size + 1, 2, none⟩ = some (I 0) ∧ W.cell? ⟨w.heap.size + 1, 3, none⟩ = some (S nm) ∧ W.cell? ⟨w.heap.size + 1, 4, none⟩ = some (.slice none 0 0))
    [(0, 0), (0, 1), (0, 2), (0, 3), (0, 4), (0, 5), (1, 6), (0, 7), (0, 8), (0, 9), (0, 10), (0, 11), (0, 12), (1, 13), (0, 14), (0, 15)] (by kernel_rfl) ?hS ?_
  case hS => intro wd hh; exact ⟨row_held HB2.out hh 3, row_held HB2.out hh 4, row_held HX2.out hh 0, row_held HX2.out hh 1, row_held HX2.out hh 2, row_held HX2.out hh 3, row_held HX2.out hh 4⟩
  intro wd hh hgd hS
  have hXd := HX2.out.kept hgd (by simp)
  have HXD := Lib.hid hXd
  have HBD := Lib.hid (HB2.out.kept hgd (by simp))
  have HCD := Lib.hid (HC2.out.grown hgd HC2.out.size (fun r e => by cases e))
  clear hh hgd hXd
  simp only [pickOps, List.map_cons, List.map_nil, List.getElem?_cons_zero, List.getElem?_cons_succ, Option.getD_some]
  repeat (first | (refine wpOrd_pass (by rfl) (by assumption) (fun _ _ _ h => h) ?_; simp only [Act.put, List.setIfInBounds_toArray, List.set_cons_zero, List.set_cons_succ]) | (refine wpOrd_look (v := ?_) (by rfl) ?_ (by assumption) (fun _ _ _ h => h) ?_; rotate_left; (· (intro wS hSw; (try dsimp only at hSw); go_simp; (first | done | with_reducible rfl))); simp only [Act.put, List.setIfInBounds_toArray, List.set_cons_zero, List.set_cons_succ]))
  refine wpOrd_turn ?_
  go_wp2_with (first
    | (go_at_call 117; refine (HNM.out wd).mono ?_; rintro e' wc ⟨rfl, hbc⟩; have HXC := Lib.hid (HXD.out.ext hbc); have HBC := Lib.hid (HBD.out.ext hbc); have HCC := Lib.hid (HCD.out.trans (hbc.mono HCD.out.size)); clear hbc hS))
  have hzc := HCC.out.size
  refine QN_keep ⟨HBC.out.cell 3, HBC.out.cell 4, HXC.out.cell 0, HXC.out.cell 1, HXC.out.cell 2, HXC.out.cell 3, HXC.out.cell 4⟩ fun hS => ?_
  repeat (first | (refine wpOrd_pass (by rfl) (by assumption) (fun _ _ _ h => h) ?_; simp only [Act.put, List.setIfInBounds_toArray, List.set_cons_zero, List.set_cons_succ]) | (refine wpOrd_look (v := ?_) (by rfl) ?_ (by assumption) (fun _ _ _ h => h) ?_; rotate_left; (· (intro wS hSw; (try dsimp only at hSw); go_simp; (first | done | with_reducible rfl))); simp only [Act.put, List.setIfInBounds_toArray, List.set_cons_zero, List.set_cons_succ]))
  refine wpOrd_turn ?_
  go_wp2_with (first
    | (refine store_first 31 (.tmp 2) (.tmp 62) rfl ?_; refine wpList_store_row rfl 31 (.tmp 2) (.tmp 62) rfl (w.heap.size + 1) _ rfl rfl 31 #[I 5, I 0, I 0, S nm, .slice none 0 0] HXC.out (by kernel_rfl) (by rfl) (by simp [Value.oneCell']) ?_))
  obtain ⟨w3, hw3⟩ : ∃ w3, w3 = wc.setRow (w.heap.size + 1) #[I 5, I 0, I 0, S nm, .slice none 0 0] := ⟨_, rfl⟩
  have hg3 : wc.grownBy w3 (some (w.heap.size + 1)) := by rw [hw3]; exact setRow_grown
  have hx3 : Row w3 (w.heap.size + 1) 31 [I 5, I 0, I 0, S nm, .slice none 0 0] := by rw [hw3]; exact setRow_heap _ _ _ _ _ _ HXC.out
  have hb3 := HBC.out.kept hg3 (by simp)
  have HC3 := Lib.hid (HCC.out.grown hg3 HCC.out.size (fun r e => by cases e; omega))
  rw [← hw3]
  clear hw3 hg3 hS
  refine QN_keep ⟨hb3.cell 3, hb3.cell 4, hx3.cell 0, hx3.cell 1, hx3.cell 2, hx3.cell 3, hx3.cell 4⟩ fun hS => ?_
  have HX3 := Lib.hid hx3
  clear hx3 hb3
  repeat (first | (refine wpOrd_pass (by rfl) (by assumption) (fun _ _ _ h => h) ?_; simp only [Act.put, List.setIfInBounds_toArray, List.set_cons_zero, List.set_cons_succ]) | (refine wpOrd_look (v := ?_) (by rfl) ?_ (by assumption) (fun _ _ _ h => h) ?_; rotate_left; (· (intro wS hSw; (try dsimp only at hSw); go_simp; (first | done | with_reducible rfl))); simp only [Act.put, List.setIfInBounds_toArray, List.set_cons_zero, List.set_cons_succ]))
  refine wpOrd_nil ?_
  go_wp2
  refine bodyPost_ret (only_results rfl HX3.out (by kernel_rfl)) rfl ?_
  exact ⟨rfl, HC3.out⟩

set_option maxRecDepth 100000 in
set_option maxHeartbeats 2000000 in
theorem only_index (op n : Int) (nm : Str) (av : Value) (ha : Asc nm) (hn : isName nm = true) (w : World) :
    Calls Tryz.prog 102 #[.agg #[I 6, I op, I n, S nm, av]] w fun e w' => e = .returned (.tuple #[.agg #[I 6, I 0, I 0, S nm, .slice none 0 0], I 1, .bool true]) ∧ Below w.heap.size w w' := by
  have HNM := Lib.hid (fun W => name_yes nm ha hn W)
  clear ha hn
  go_enter Tryz.func102, Tryz.ntmps102
  go_upto_region 2 with (first
    | (refine store_first 31 (.tmp 2) (.tmp 7) rfl ?_; refine wpList_store_row rfl 31 (.tmp 2) (.tmp 7) rfl (w.heap.size + 1) _ rfl rfl 31 eZ (heap_at (by simp)) (by kernel_rfl) (by rfl) (by simp [Value.oneCell']) ?_))
  obtain ⟨w1, hw1⟩ : ∃ w1, w1 = ((w.alloc (.cells #[I 6, I op, I n, S nm, av] 31)).alloc (.cells eZ 31)).setRow (w.heap.size + 1) #[I 6, I 0, I 0, S [], .slice none 0 0] := ⟨_, rfl⟩
  have hb1 : Below w.heap.size w w1 := by rw [hw1]; exact ((below_a1 w _).alloc (by simp) _).grown setRow_grown (by simp; omega) (fun r e => by cases e; omega)
  have hB : Row w1 w.heap.size 31 [I 6, I op, I n, S nm, av] := by rw [hw1]; exact (setRow_other _ _ _ _ (by omega)).trans (heap_old _ _ (heap_new _ _))
  have hX : Row w1 (w.heap.size + 1) 31 [I 6, I 0, I 0, S [], .slice none 0 0] := by rw [hw1]; exact setRow_heap _ _ _ _ _ _ (heap_at (by simp))
  rw [← hw1]
  clear hw1
  have b0 := hB.cell 0
  have b3 := hB.cell 3
  have x3 := hX.cell 3
  have f3 := hX.frozen 3
  simp only [List.getElem?_cons_succ, List.getElem?_cons_zero] at b0 b3 x3
  have HB := Lib.hid hB
  have HX := Lib.hid hX
  have HB1 := Lib.hid hb1
  clear hB hX hb1
  go_upto_region 20 with (fail)
  have hg2 := setCell_grown w1 (w.heap.size + 1) 3 (S nm)
  have HX2 := Lib.hid (HX.out.set 3 (S nm))
  have HB2 := Lib.hid (HB.out.kept hg2 (by simp))
  have HC2 := Lib.hid (HB1.out.grown hg2 HB1.out.size (fun r e => by cases e; omega))
  obtain ⟨w2, hw2⟩ : ∃ w2, w2 = w1.setCell ⟨w.heap.size + 1, 3, none⟩ (S nm) := ⟨_, rfl⟩
  rw [← hw2] at HX2 HB2 HC2 ⊢
  clear hw2 hg2 b0 b3 x3 f3
  refine wp_region_ordW (by kernel_rfl) (fun W => W.cell? ⟨w.heap.size, 3, none⟩ = some (S nm) ∧ W.cell? ⟨w.heap.size + 1, 0, none⟩ = some (I 6) ∧ W.cell? ⟨w.heap.size + 1, 1, none⟩ = some (I 0) ∧ W.cell? ⟨w.heap.size + 1, 2, none⟩ = some (I 0) ∧ W.cell? ⟨w.heap.size + 1, 3, none⟩ = some (S nm) ∧ W.cell? ⟨w.heap.size + 1, 4, none⟩ = some (.slice none 0 0))
    [(0, 0), (0, 1), (0, 2), (1, 3), (1, 4), (0, 5), (0, 6)] (by kernel_rfl) ?hS ?_
  case hS => intro wd hh; exact ⟨row_held HB2.out hh 3, row_held HX2.out hh 0, row_held HX2.out hh 1, row_held HX2.out hh 2, row_held HX2.out hh 3, row_held HX2.out hh 4⟩
  intro wd hh hgd hS
  have hXd := HX2.out.kept hgd (by simp)
  have HXD := Lib.hid hXd
  have HBD := Lib.hid (HB2.out.kept hgd (by simp))
  have HCD := Lib.hid (HC2.out.grown hgd HC2.out.size (fun r e => by cases e))
  clear hh hgd hXd
  simp only [pickOps, List.map_cons, List.map_nil, List.getElem?_cons_zero, List.getElem?_cons_succ, Option.getD_some]
  repeat (first | (refine wpOrd_pass (by rfl) (by assumption) (fun _ _ _ h => h) ?_; simp only [Act.put, List.setIfInBounds_toArray, List.set_cons_zero, List.set_cons_succ]) | (refine wpOrd_look (v := ?_) (by rfl) ?_ (by assumption) (fun _ _ _ h => h) ?_; rotate_left; (· (intro wS hSw; (try dsimp only at hSw); go_simp; (first | done | with_reducible rfl))); simp only [Act.put, List.setIfInBounds_toArray, List.set_cons_zero, List.set_cons_succ]))
  refine wpOrd_turn ?_
  go_wp2_with (first
    | (go_at_call 117; refine (HNM.out wd).mono ?_; rintro e' wc ⟨rfl, hbc⟩; have HXC := Lib.hid (HXD.out.ext hbc); have HBC := Lib.hid (HBD.out.ext hbc); have HCC := Lib.hid (HCD.out.trans (hbc.mono HCD.out.size)); clear hbc hS))
  have hzc := HCC.out.size
  refine QN_keep ⟨HBC.out.cell 3, HXC.out.cell 0, HXC.out.cell 1, HXC.out.cell 2, HXC.out.cell 3, HXC.out.cell 4⟩ fun hS => ?_
  repeat (first | (refine wpOrd_pass (by rfl) (by assumption) (fun _ _ _ h => h) ?_; simp only [Act.put, List.setIfInBounds_toArray, List.set_cons_zero, List.set_cons_succ]) | (refine wpOrd_look (v := ?_) (by rfl) ?_ (by assumption) (fun _ _ _ h => h) ?_; rotate_left; (· (intro wS hSw; (try dsimp only at hSw); go_simp; (first | done | with_reducible rfl))); simp only [Act.put, List.setIfInBounds_toArray, List.set_cons_zero, List.set_cons_succ]))
  refine wpOrd_turn ?_
  go_wp2_with (first
    | (refine store_first 31 (.tmp 2) (.tmp 80) rfl ?_; refine wpList_store_row rfl 31 (.tmp 2) (.tmp 80) rfl (w.heap.size + 1) _ rfl rfl 31 #[I 6, I 0, I 0, S nm, .slice none 0 0] HXC.out (by kernel_rfl) (by rfl) (by simp [Value.oneCell']) ?_))
  obtain ⟨w3, hw3⟩ : ∃ w3, w3 = wc.setRow (w.heap.size + 1) #[I 6, I 0, I 0, S nm, .slice none 0 0] := ⟨_, rfl⟩
  have hg3 : wc.grownBy w3 (some (w.heap.size + 1)) := by rw [hw3]; exact setRow_grown
  have hx3 : Row w3 (w.heap.size + 1) 31 [I 6, I 0, I 0, S nm, .slice none 0 0] := by rw [hw3]; exact setRow_heap _ _ _ _ _ _ HXC.out
  have hb3 := HBC.out.kept hg3 (by simp)
  have HC3 := Lib.hid (HCC.out.grown hg3 HCC.out.size (fun r e => by cases e; omega))
  rw [← hw3]
  clear hw3 hg3 hS
  refine QN_keep ⟨hb3.cell 3, hx3.cell 0, hx3.cell 1, hx3.cell 2, hx3.cell 3, hx3.cell 4⟩ fun hS => ?_
  have HX3 := Lib.hid hx3
  clear hx3 hb3
  repeat (first | (refine wpOrd_pass (by rfl) (by assumption) (fun _ _ _ h => h) ?_; simp only [Act.put, List.setIfInBounds_toArray, List.set_cons_zero, List.set_cons_succ]) | (refine wpOrd_look (v := ?_) (by rfl) ?_ (by assumption) (fun _ _ _ h => h) ?_; rotate_left; (· (intro wS hSw; (try dsimp only at hSw); go_simp; (first | done | with_reducible rfl))); simp only [Act.put, List.setIfInBounds_toArray, List.set_cons_zero, List.set_cons_succ]))
  refine wpOrd_nil ?_
  go_wp2
  refine bodyPost_ret (only_results rfl HX3.out (by kernel_rfl)) rfl ?_
  exact ⟨rfl, HC3.out⟩

set_option maxRecDepth 100000 in
set_option maxHeartbeats 2000000 in
theorem only_read (op n : Int) (nm : Str) (av : Value) (w : World) :
    Calls Tryz.prog 102 #[.agg #[I 7, I op, I n, S nm, av]] w fun e w' => e = .returned (.tuple #[.agg #[I 7, I 0, I 0, S [], .slice none 0 0], I 0, .bool true]) ∧ Below w.heap.size w w' := by
  go_enter Tryz.func102, Tryz.ntmps102
  go_upto_region 2 with (first
    | (refine store_first 31 (.tmp 2) (.tmp 7) rfl ?_; refine wpList_store_row rfl 31 (.tmp 2) (.tmp 7) rfl (w.heap.size + 1) _ rfl rfl 31 eZ (heap_at (by simp)) (by kernel_rfl) (by rfl) (by simp [Value.oneCell']) ?_))
  obtain ⟨w1, hw1⟩ : ∃ w1, w1 = ((w.alloc (.cells #[I 7, I op, I n, S nm, av] 31)).alloc (.cells eZ 31)).setRow (w.heap.size + 1) #[I 7, I 0, I 0, S [], .slice none 0 0] := ⟨_, rfl⟩
  have hb1 : Below w.heap.size w w1 := by rw [hw1]; exact ((below_a1 w _).alloc (by simp) _).grown setRow_grown (by simp; omega) (fun r e => by cases e; omega)
  have hB : Row w1 w.heap.size 31 [I 7, I op, I n, S nm, av] := by rw [hw1]; exact (setRow_other _ _ _ _ (by omega)).trans (heap_old _ _ (heap_new _ _))
  have hX : Row w1 (w.heap.size + 1) 31 [I 7, I 0, I 0, S [], .slice none 0 0] := by rw [hw1]; exact setRow_heap _ _ _ _ _ _ (heap_at (by simp))
  rw [← hw1]
  clear hw1
  have b0 := hB.cell 0
  have x0 := hX.cell 0
  have x1 := hX.cell 1
  have x2 := hX.cell 2
  have x3 := hX.cell 3
  have x4 := hX.cell 4
  simp only [List.getElem?_cons_succ, List.getElem?_cons_zero] at b0 x0 x1 x2 x3 x4
  have HX := Lib.hid hX
  have HB1 := Lib.hid hb1
  clear hB hX hb1
  go_wp2_with (first
    | (refine store_first 31 (.tmp 2) (.tmp 86) rfl ?_; refine wpList_store_row rfl 31 (.tmp 2) (.tmp 86) rfl (w.heap.size + 1) _ rfl rfl 31 #[I 7, I 0, I 0, S [], .slice none 0 0] HX.out (by kernel_rfl) (by rfl) (by simp [Value.oneCell']) ?_))
  refine bodyPost_ret (only_results rfl (setRow_heap _ _ _ _ _ _ HX.out) (by kernel_rfl)) rfl ?_
  exact ⟨rfl, HB1.out.grown setRow_grown HB1.out.size (fun r e => by cases e; omega)⟩
end Go.Proofs.YtjgbkdbkachciaaGreatDoor
