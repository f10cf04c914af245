import Derived.Test.YtjgbkdbkachciaaGreatDoorB2
namespace Go.Proofs.YtjgbkdbkachciaaGreatDoor
open Go.RowKit Go.Shelf
attribute [local go_sem] Oper.semAt_some

/-- what there is where an expression stands -/
structure Sc where
  free : Bool
  okV : Str → Prop
  okA : Str → Prop
  okC : Str → Nat → Prop
structure ScIn (c : Sc) (sb : Nat) (W : World) (vv av fv : Value) : Prop where
  v : ∃ l : List Str, RSlB (· ≠ sb) 1 RStr W vv l ∧ (c.free = false → ∀ x ∈ l, c.okV x)
  a : ∃ l : List LA, RSlB (· ≠ sb) 2 RArr W av l ∧ (c.free = false → ∀ x ∈ l, c.okA x.name)
  f : ∃ l : List LF, RSlB (· ≠ sb) 4 (RF (· ≠ sb)) W fv l ∧ (c.free = false → l ≠ [] ∧ ∀ x ∈ l, c.okC x.name x.params.length)
  any : c.free = true → (∀ x, c.okV x) ∧ (∀ x, c.okA x) ∧ ∀ x n, n ≤ 6 → c.okC x n
theorem ScIn.kept {c : Sc} {sb : Nat} {W W' : World} {vv av fv : Value} {row : Option Nat} (h : ScIn c sb W vv av fv) (hg : W.grownBy W' row) (hr : ∀ r, row = some r → r = sb) : ScIn c sb W' vv av fv := by
  have hB : ∀ r, row = some r → ¬ (r ≠ sb) := fun r e => by simp [hr r e]
  obtain ⟨⟨l1, h1, k1⟩, ⟨l2, h2, k2⟩, ⟨l3, h3, k3⟩, k4⟩ := h
  exact ⟨⟨l1, h1.grown hg hB (fun _ _ h => h), k1⟩, ⟨l2, h2.grown hg hB (fun _ _ h => h), k2⟩, ⟨l3, h3.grown hg hB (fun _ _ h => h.grown hg hB), k3⟩, k4⟩
theorem SG.row {sb : Nat} {W W' : World} (h : SG sb W W') {g : Nat} {t : TypeId} {cs : List Value} (hr : Row W g t cs) (hne : g ≠ sb) : Row W' g t cs := hr.kept h.1 (fun e => hne (Option.some.inj e))
theorem Src.own {sb : Nat} {W W' : World} (h : Src sb W) (hb : Below W.heap.size W W') : Src sb W' := h.kept (below_grown hb none) (fun r e => by cases e)
theorem SG.pre {sb : Nat} {w w1 w2 : World} (hb : Below w.heap.size w w1) (h : SG sb w1 w2) : SG sb w w2 := ⟨grown_trans (below_grown hb _) h.1, h.2⟩
theorem SG.start {sb : Nat} {w w1 : World} (h : Src sb w) (hb : Below w.heap.size w w1) : SG sb w w1 := ⟨below_grown hb _, h.own hb⟩
/-- what lies behind is changed as one likes -/
theorem SG.post {sb : Nat} {w w1 w2 : World} (h : SG sb w w1) {row : Option Nat} (hg : w1.grownBy w2 row) (hs : sb < w.heap.size) (hr : ∀ r, row = some r → w.heap.size ≤ r) : SG sb w w2 := by
  refine ⟨⟨hg.os.trans h.1.os, hg.tape.trans h.1.tape, hg.output.trans h.1.output, Nat.le_trans h.1.size hg.size, fun i hi hne => ?_⟩, h.2.kept hg (fun r e => by have := hr r e; omega)⟩
  exact (hg.block i (Nat.lt_of_lt_of_le hi h.1.size) (fun e => by have := hr i e.symm; omega)).trans (h.1.block i hi hne)
theorem SG.size {sb : Nat} {w w1 : World} (h : SG sb w w1) : w.heap.size ≤ w1.heap.size := h.1.size

theorem nat_of {r : Int} (h : 0 ≤ r) : ∃ k : Nat, r = k := ⟨r.toNat, by omega⟩
/-- a text of some -/
theorem str_at {B : Nat → Prop} {w : World} {a : Option Addr} {c n : Nat} {l : List Str} (h : RSlB B 1 RStr w (.slice a n c) l) {i : Nat} (hi : i < l.length) : ∃ b o x, a = some ⟨b, o, none⟩ ∧ w.cell? ⟨b, o + i, none⟩ = some (S x) ∧ x ∈ l := by
  obtain ⟨b, o, C, h1, _, hC, hx⟩ := h.at hi
  have e1 := hC 0 (by omega)
  rw [show C 0 = S l[i] from hx] at e1
  simp only [Nat.mul_one, Nat.add_zero] at e1
  exact ⟨b, o, _, h1, e1, List.getElem_mem _⟩

set_option maxRecDepth 100000 in
set_option maxHeartbeats 4000000 in
/-- one name of some, or a raw one -/
theorem name45_any (free loop : Bool) (sb : Nat) (W : World) (vv av fv lv : Value) (l : List Str) (hs : Src sb W) (hl : RSlB (· ≠ sb) 1 RStr W lv l) (hf : free = true ∨ l ≠ []) :
    Calls Tryz.prog 45 #[.agg #[vv, av, fv, .bool free, .bool loop], .pointer (some ⟨sb, 0, none⟩), lv] W fun e w' => (∃ x : Str, e = .returned (S x) ∧ (free = false → x ∈ l)) ∧ SG sb W w' := by
  obtain ⟨a0, c0, rfl, hl9, -⟩ := id hl
  obtain ⟨N, hN⟩ : ∃ N, N = l.length := ⟨_, rfl⟩
  rw [← hN] at hl hl9 ⊢
  obtain ⟨w1, hw1⟩ : ∃ w1, w1 = W.alloc (.cells #[vv, av, fv, .bool free, .bool loop] 64) := ⟨_, rfl⟩
  have hwe := hw1.symm
  have hb1 : Below W.heap.size W w1 := by rw [hw1]; exact below_a1 _ _
  have hr1 : Row w1 W.heap.size 64 [vv, av, fv, .bool free, .bool loop] := by rw [hw1]; exact heap_new _ _
  have c3 := hr1.cell 3
  simp only [List.getElem?_cons_zero, List.getElem?_cons_succ] at c3
  have HS1 := Lib.hid (SG.start hs hb1)
  have HL1 := Lib.hid (show RSlB (· ≠ sb) 1 RStr w1 (.slice a0 N c0) l from hl.grown (below_grown hb1 none) (fun r e => by cases e) (fun _ _ h => h))
  have HN := Lib.hid hN
  have HF := Lib.hid hf
  clear hs hl hN hf hw1 hb1 hr1
  cases free with
  | true =>
    go_enter Tryz.func45, Tryz.ntmps45
    go_wp2_with (first
      | (go_at_call 25; refine (next25_any sb 312 w1 HS1.out.2 (by omega) (by omega)).mono ?_; rintro e w2 ⟨⟨r, rfl, hr0, hr1⟩, hs2⟩; have HS2 := Lib.hid (HS1.out.trans hs2); have HR := Lib.hid (And.intro hr0 hr1); clear hs2 hr0 hr1)
      | (go_at_call 47; refine (var47_any r HR.out.1 HR.out.2 w2).mono ?_; rintro e w3 ⟨⟨x, rfl⟩, hb3⟩; have HS3 := Lib.hid (HS2.out.trans (SG.start HS2.out.2 hb3)); clear hb3))
    go_ret
    exact ⟨⟨x, rfl, fun e => by cases e⟩, HS3.out⟩
  | false =>
    have hl0 : l ≠ [] := HF.out.resolve_left (by simp)
    have hN1 : 0 < N := by rw [HN.out]; exact List.length_pos_iff.2 hl0
    have hNz : ¬ (N : Int) = 0 := by omega
    have hNn : ¬ N = 0 := by omega
    clear hl0
    go_enter Tryz.func45, Tryz.ntmps45
    go_wp2_with (first
      | (go_at_call 25; refine (next25_any sb N w1 HS1.out.2 (by omega) (by omega)).mono ?_; rintro e w2 ⟨⟨r, rfl, hr0, hr1⟩, hs2⟩; have HS2 := Lib.hid (HS1.out.trans hs2); have HL2 := Lib.hid (HL1.out.grown hs2.1 (fun r e => by cases e; simp) (fun _ _ h => h)); clear hs2; obtain ⟨k, rfl⟩ := nat_of hr0; have hkN : k < N := (by omega); obtain ⟨b, o, x, rfl, e1, hmem⟩ := str_at HL2.out (show k < l.length by rw [← HN.out]; exact hkN); have HM := Lib.hid hmem; clear hmem c3))
    go_ret
    exact ⟨⟨x, rfl, fun _ => HM.out⟩, HS2.out⟩


/-- an array of some -/
theorem arr_at {B : Nat → Prop} {w : World} {a : Option Addr} {c n : Nat} {l : List LA} (h : RSlB B 2 RArr w (.slice a n c) l) {i : Nat} (hi : i < l.length) : ∃ b o x, a = some ⟨b, o, none⟩ ∧ w.cell? ⟨b, o + i * 2, none⟩ = some (S x.name) ∧ w.cell? ⟨b, o + i * 2 + 1, none⟩ = some (I x.size) ∧ x ∈ l := by
  obtain ⟨b, o, C, h1, _, hC, hx⟩ := h.at hi
  have e0 := hC 0 (by omega)
  have e1 := hC 1 (by omega)
  rw [show C 0 = S l[i].name from hx.1] at e0
  rw [show C 1 = I l[i].size from hx.2] at e1
  simp only [Nat.add_zero] at e0
  exact ⟨b, o, _, h1, e0, e1, List.getElem_mem _⟩

set_option maxRecDepth 100000 in
set_option maxHeartbeats 4000000 in
/-- one array of some, or a raw one -/
theorem array29_any (free loop : Bool) (sb : Nat) (W : World) (vv av fv : Value) (l : List LA) (hs : Src sb W) (hl : RSlB (· ≠ sb) 2 RArr W av l) (hf : free = true ∨ l ≠ []) :
    Calls Tryz.prog 29 #[.agg #[vv, av, fv, .bool free, .bool loop], .pointer (some ⟨sb, 0, none⟩)] W fun e w' => (∃ (x : Str) (n : Int), e = .returned (.agg #[S x, I n]) ∧ (free = false → ∃ a ∈ l, a.name = x)) ∧ SG sb W w' := by
  obtain ⟨a0, c0, rfl, hl9, -⟩ := id hl
  obtain ⟨N, hN⟩ : ∃ N, N = l.length := ⟨_, rfl⟩
  rw [← hN] at hl hl9 ⊢
  obtain ⟨w1, hw1⟩ : ∃ w1, w1 = (W.alloc (.cells #[vv, .slice a0 N c0, fv, .bool free, .bool loop] 64)).alloc (.cells #[.string ⟨#[]⟩, .int .i64 0] 68) := ⟨_, rfl⟩
  have hwe := hw1.symm
  have hb1 : Below W.heap.size W w1 := by rw [hw1]; exact below_a2 _ _ _
  have hr1 : Row w1 W.heap.size 64 [vv, .slice a0 N c0, fv, .bool free, .bool loop] := by rw [hw1]; exact heap_old _ _ (heap_new _ _)
  have hr2 : Row w1 (W.heap.size + 1) 68 [S [], I 0] := by rw [hw1]; exact heap_at (by simp)
  have c1 := hr1.cell 1
  have c3 := hr1.cell 3
  simp only [List.getElem?_cons_zero, List.getElem?_cons_succ] at c1 c3
  have hsl := hs.lt
  have HS1 := Lib.hid (SG.start hs hb1)
  have HR1 := Lib.hid hr1
  have HR2 := Lib.hid hr2
  have HL1 := Lib.hid (show RSlB (· ≠ sb) 2 RArr w1 (.slice a0 N c0) l from hl.grown (below_grown hb1 none) (fun r e => by cases e) (fun _ _ h => h))
  have HN := Lib.hid hN
  have HF := Lib.hid hf
  clear hs hl hN hf hw1 hb1 hr1 hr2
  have hdone : ∀ (wx : World) (x : Str) (n : Int), SG sb W wx → SG sb W (wx.setRow (W.heap.size + 1) #[S x, I n]) := fun wx x n h => h.post setRow_grown hsl (fun r e => by cases e; omega)
  have HD := Lib.hid hdone
  clear hdone
  cases free with
  | true =>
    go_enter Tryz.func29, Tryz.ntmps29
    go_wp2_with (first
      | (refine store_first 68 (.tmp 4) (.tmp 19) rfl ?_; refine wpList_store_row rfl 68 (.tmp 4) (.tmp 19) rfl (W.heap.size + 1) _ rfl rfl 68 #[S [], I 0] HR4.out (by kernel_rfl) (by rfl) (by simp [Value.oneCell']) ?_)
      | (go_at_call 47; refine (var47_any r HR.out.1 HR.out.2 w2).mono ?_; rintro e w3 ⟨⟨x, rfl⟩, hb3⟩; have HS3 := Lib.hid (HS2.out.trans (SG.start HS2.out.2 hb3)); have HR3 := Lib.hid (HR2.out.ext hb3); clear hb3)
      | (go_at_call 25; first
        | (refine (next25_any sb 1000 w3 HS3.out.2 (by omega) (by omega)).mono ?_; rintro e w4 ⟨⟨n, rfl, hn0, hn1⟩, hs4⟩; have HS4 := Lib.hid (HS3.out.trans hs4); have HR4 := Lib.hid (hs4.row HR3.out (by omega)); clear hs4)
        | (refine (next25_any sb 312 w1 HS1.out.2 (by omega) (by omega)).mono ?_; rintro e w2 ⟨⟨r, rfl, hr0, hr1⟩, hs2⟩; have HS2 := Lib.hid (HS1.out.trans hs2); replace HR2 := Lib.hid (hs2.row HR2.out (by omega)); have HR := Lib.hid (And.intro hr0 hr1); clear hs2 hr0 hr1)))
    refine bodyPost_ret (results_cell_row rfl _ _ (W.heap.size + 1) 68 _ (0, 0) _ rfl (setRow_heap _ _ _ _ _ _ HR4.out) Tryz.underlying68 rfl (by kernel_rfl)) rfl ?_
    exact ⟨⟨x, _, rfl, fun e => by cases e⟩, HD.out _ _ _ HS4.out⟩
  | false =>
    have hl0 : l ≠ [] := HF.out.resolve_left (by simp)
    have hN1 : 0 < N := by rw [HN.out]; exact List.length_pos_iff.2 hl0
    have hNz : ¬ (N : Int) = 0 := by omega
    have hNn : ¬ N = 0 := by omega
    clear hl0
    go_enter Tryz.func29, Tryz.ntmps29
    go_upto_region 3 with (fail)
    refine wp_region_ordW (by kernel_rfl) (fun X => X.cell? ⟨W.heap.size, 1, none⟩ = some (.slice a0 N c0)) [(0, 0), (0, 1), (0, 2), (0, 3), (0, 4), (0, 5), (1, 6), (0, 7), (1, 8), (2, 9)] (by kernel_rfl) ?hS ?_
    case hS => intro wd hh; exact row_at HR1.out hh 1
    intro wd hh hgd hS
    have HSD := Lib.hid (HS1.out.trans ⟨⟨hgd.os, hgd.tape, hgd.output, hgd.size, fun i hi _ => hgd.block i hi (by simp)⟩, HS1.out.2.kept hgd (fun r e => by cases e)⟩)
    have HLD := Lib.hid (HL1.out.grown hgd (fun r e => by cases e) (fun _ _ h => h))
    have HRD1 := Lib.hid (HR1.out.kept hgd (by simp))
    have HRD2 := Lib.hid (HR2.out.kept hgd (by simp))
    clear hh hgd c1 c3
    simp only [pickOps, List.map_cons, List.map_nil, List.getElem?_cons_zero, List.getElem?_cons_succ, Option.getD_some]
    repeat (refine wpOrd_look (v := ?_) (by rfl) ?_ (by assumption) (fun _ _ _ h => h) ?_; rotate_left; (· (intro wS hSw; (try dsimp only at hSw); go_simp; (first | done | with_reducible rfl))); simp only [Act.put, List.setIfInBounds_toArray, List.set_cons_zero, List.set_cons_succ])
    refine wpOrd_turn ?_
    go_wp2_with (first
      | (go_at_call 25; refine (next25_any sb N wd HSD.out.2 (by omega) (by omega)).mono ?_; rintro e w2 ⟨⟨r, rfl, hr0, hr1⟩, hs2⟩; have HS2 := Lib.hid (HSD.out.trans hs2); have HL2 := Lib.hid (HLD.out.grown hs2.1 (fun r e => by cases e; simp) (fun _ _ h => h)); have HQ1 := Lib.hid (hs2.row HRD1.out (by omega)); have HQ2 := Lib.hid (hs2.row HRD2.out (by omega)); clear hs2))
    have c1 := HQ1.out.cell 1
    simp only [List.getElem?_cons_zero, List.getElem?_cons_succ] at c1
    refine QN_keep c1 fun hS => ?_
    obtain ⟨k, rfl⟩ := nat_of hr0
    have hkN : k < N := by omega
    obtain ⟨b, o, x, rfl, e0, e1, hmem⟩ := arr_at HL2.out (show k < l.length by rw [← HN.out]; exact hkN)
    have HM := Lib.hid hmem
    clear hmem
    repeat (refine wpOrd_look (v := ?_) (by rfl) ?_ (by assumption) (fun _ _ _ h => h) ?_; rotate_left; (· (intro wS hSw; (try dsimp only at hSw); go_simp; (first | done | with_reducible rfl))); simp only [Act.put, List.setIfInBounds_toArray, List.set_cons_zero, List.set_cons_succ])
    refine wpOrd_turn ?_
    go_wp2
    refine QN_keep c1 fun hS => ?_
    refine wpOrd_last ?_
    clear hS c1 e0 e1
    refine store_first 68 (.tmp 4) (.tmp 28) rfl ?_
    refine wpList_store_row rfl 68 (.tmp 4) (.tmp 28) rfl (W.heap.size + 1) _ rfl rfl 68 #[S [], I 0] HQ2.out (by kernel_rfl) (by rfl) (by simp [Value.oneCell']) ?_
    go_wp2
    refine QN_normal (wpOrd_nil ?_)
    go_wp2
    refine bodyPost_ret (results_cell_row rfl _ _ (W.heap.size + 1) 68 _ (0, 0) _ rfl (setRow_heap _ _ _ _ _ _ HQ2.out) Tryz.underlying68 rfl (by kernel_rfl)) rfl ?_
    exact ⟨⟨x.name, x.size, rfl, fun _ => ⟨x, HM.out, rfl⟩⟩, HD.out _ _ _ HS2.out⟩
end Go.Proofs.YtjgbkdbkachciaaGreatDoor

namespace Go.Proofs.YtjgbkdbkachciaaGreatDoor
open Go.RowKit Go.Shelf
attribute [local go_sem] Oper.semAt_some

/-! ### expressions that are drawn -/
def DrE (c : Sc) : Nat → LE → Prop
  | 0, _ => False
  | d + 1, e => ((e.kind = 1 ∧ 0 ≤ e.n ∧ e.op = 0 ∧ e.name = [] ∧ e.args.length = 0) ∨ (e.kind = 2 ∧ c.okV e.name ∧ e.op = 0 ∧ e.n = 0 ∧ e.args.length = 0) ∨
      (e.kind = 3 ∧ (e.op = 17 ∨ e.op = 18 ∨ e.op = 19) ∧ e.n = 0 ∧ e.name = [] ∧ e.args.length = 1) ∨ (e.kind = 4 ∧ (1 ≤ e.op ∧ e.op ≤ 16) ∧ e.n = 0 ∧ e.name = [] ∧ e.args.length = 2) ∨
      (e.kind = 5 ∧ c.okC e.name e.args.length ∧ e.op = 0 ∧ e.n = 0) ∨ (e.kind = 6 ∧ c.okA e.name ∧ e.op = 0 ∧ e.n = 0 ∧ e.args.length = 1) ∨ (e.kind = 7 ∧ e.op = 0 ∧ e.n = 0 ∧ e.name = [] ∧ e.args.length = 0)) ∧
      ∀ x ∈ e.args, DrE c d x
def DrR (c : Sc) (d : Nat) (sb : Nat) (W : World) (en : Ending) (w' : World) : Prop := ∃ (e : LE) (av : Value), en = .returned (eV e av) ∧ DrE c d e ∧ EX (W.heap.size ≤ ·) w' av e ∧ SG sb W w'
def DrC (c : Sc) (d : Nat) : Prop := ∀ (sb : Nat) (W : World) (vv av fv : Value) (loop : Bool), ScIn c sb W vv av fv → Src sb W → Calls Tryz.prog 28 #[.agg #[vv, av, fv, .bool c.free, .bool loop], .pointer (some ⟨sb, 0, none⟩), I d] W (DrR c d sb W)

/-- a function of some -/
theorem fun_at {B B' : Nat → Prop} {w : World} {a : Option Addr} {c n : Nat} {l : List LF} (h : RSlB B 4 (RF B') w (.slice a n c) l) {i : Nat} (hi : i < l.length) : ∃ b o x pa pc la ln lc ba bn bc, a = some ⟨b, o, none⟩ ∧ w.cell? ⟨b, o + i * 4, none⟩ = some (S x.name) ∧ w.cell? ⟨b, o + i * 4 + 1, none⟩ = some (.slice pa x.params.length pc) ∧ w.cell? ⟨b, o + i * 4 + 2, none⟩ = some (.slice la ln lc) ∧ w.cell? ⟨b, o + i * 4 + 3, none⟩ = some (.slice ba bn bc) ∧ x ∈ l ∧ x.params.length ≤ 1000000000 ∧ B b := by
  obtain ⟨b, o, C, h1, hb, hC, hx⟩ := h.at hi
  have e0 := hC 0 (by omega)
  have e1 := hC 1 (by omega)
  have e2 := hC 2 (by omega)
  have e3 := hC 3 (by omega)
  obtain ⟨k0, ⟨pa, pc, k1, hp9, _⟩, ⟨la, lc, k2, _⟩, k3⟩ := hx
  obtain ⟨ba, bc, k3⟩ := k3.slice
  rw [k0] at e0
  rw [k1] at e1
  rw [k2] at e2
  rw [k3] at e3
  simp only [Nat.add_zero] at e0
  exact ⟨b, o, _, pa, pc, _, _, _, _, _, _, h1, e0, e1, e2, e3, List.getElem_mem _, hp9, hb⟩
end Go.Proofs.YtjgbkdbkachciaaGreatDoor
