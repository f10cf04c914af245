import Derived.Test.YtjgbkdbkachciaaGreatDoorU2
namespace Go.Proofs.YtjgbkdbkachciaaGreatDoor
open Go.RowKit Go.Shelf
attribute [local go_sem] Oper.semAt_some

set_option maxRecDepth 100000 in
set_option maxHeartbeats 2000000 in
theorem name_empty (w : World) : Calls Tryz.prog 117 #[S []] w fun e w' => e = .returned (.bool false) ∧ Below w.heap.size w w' := by
  go_enter Tryz.func117, Tryz.ntmps117
  go_wp2
  go_ret
  exact ⟨rfl, Below.refl _ _⟩

/-- what a kind of statements has -/
structure FormL where
  named : Bool
  args : Nat
  thn : Bool
  more : Bool
def formL (k : Int) : FormL :=
  if k = 1 then ⟨true, 1, false, false⟩ else if k = 2 then ⟨true, 2, false, false⟩ else if k = 3 then ⟨false, 1, true, true⟩ else if k = 4 then ⟨false, 1, true, false⟩
  else if k = 5 ∨ k = 6 then ⟨false, 0, false, false⟩ else ⟨false, 1, false, false⟩
abbrev frZ : Array Value := #[.bool false, .int .i64 0, .bool false, .bool false]
set_option maxRecDepth 100000 in
set_option maxHeartbeats 2000000 in
theorem formOf_yes (k : Int) (h : 1 ≤ k ∧ k ≤ 10) (w : World) : Calls Tryz.prog 179 #[I k] w fun e w' => e = .returned (.tuple #[.agg #[.bool (formL k).named, I (formL k).args, .bool (formL k).thn, .bool (formL k).more], .bool true]) ∧ Below w.heap.size w w' := by
  rcases (by omega : k = 1 ∨ k = 2 ∨ k = 3 ∨ k = 4 ∨ k = 5 ∨ k = 6 ∨ k = 7 ∨ k = 8 ∨ k = 9 ∨ k = 10) with rfl | rfl | rfl | rfl | rfl | rfl | rfl | rfl | rfl | rfl
  all_goals
    clear h
    go_enter Tryz.func179, Tryz.ntmps179
    go_wp2_with (first
      | (refine store_first 197 (.tmp 2) (.tmp 7) rfl ?_; refine wpList_store_row rfl 197 (.tmp 2) (.tmp 7) rfl w.heap.size _ rfl rfl 197 frZ (heap_new _ _) (by kernel_rfl) (by rfl) (by simp [Value.oneCell']) ?_)
      | (refine store_first 197 (.tmp 2) (.tmp 10) rfl ?_; refine wpList_store_row rfl 197 (.tmp 2) (.tmp 10) rfl w.heap.size _ rfl rfl 197 frZ (heap_new _ _) (by kernel_rfl) (by rfl) (by simp [Value.oneCell']) ?_)
      | (refine store_first 197 (.tmp 2) (.tmp 13) rfl ?_; refine wpList_store_row rfl 197 (.tmp 2) (.tmp 13) rfl w.heap.size _ rfl rfl 197 frZ (heap_new _ _) (by kernel_rfl) (by rfl) (by simp [Value.oneCell']) ?_)
      | (refine store_first 197 (.tmp 2) (.tmp 16) rfl ?_; refine wpList_store_row rfl 197 (.tmp 2) (.tmp 16) rfl w.heap.size _ rfl rfl 197 frZ (heap_new _ _) (by kernel_rfl) (by rfl) (by simp [Value.oneCell']) ?_)
      | (refine store_first 197 (.tmp 2) (.tmp 20) rfl ?_; refine wpList_store_row rfl 197 (.tmp 2) (.tmp 20) rfl w.heap.size _ rfl rfl 197 frZ (heap_new _ _) (by kernel_rfl) (by rfl) (by simp [Value.oneCell']) ?_)
      | (refine store_first 197 (.tmp 2) (.tmp 26) rfl ?_; refine wpList_store_row rfl 197 (.tmp 2) (.tmp 26) rfl w.heap.size _ rfl rfl 197 frZ (heap_new _ _) (by kernel_rfl) (by rfl) (by simp [Value.oneCell']) ?_))
    refine bodyPost_ret (results_ct rfl _ _ w.heap.size 197 _ (0, 0) _ rfl (setRow_heap _ _ _ _ _ _ (heap_new _ _)) Tryz.underlying197 rfl (by kernel_rfl)) rfl ?_
    exact ⟨rfl, (below_a1 w _).grown setRow_grown (by simp) (fun r e => by cases e; exact Nat.le_refl _)⟩

/-- a statement may be, and is so deep at most -/
def okS : Nat → LS → Prop
  | 0, _ => False
  | d + 1, s => ((1 ≤ s.kind ∧ s.kind ≤ 10) ∧ (s.kind = 10 → ∀ a ∈ s.args, a.kind = 5)) ∧ s.args.length = (formL s.kind).args ∧ ((formL s.kind).thn = false → s.thn = []) ∧ ((formL s.kind).more = false → s.els = []) ∧
    ((formL s.kind).named = true → Asc s.name ∧ isName s.name = true) ∧ ((formL s.kind).named = false → s.name = []) ∧ (∀ x ∈ s.args, okE 40 x) ∧ (∀ x ∈ s.thn, okS d x) ∧ (∀ x ∈ s.els, okS d x)
abbrev sV (s : LS) (av tv ev : Value) : Value := .agg #[I s.kind, S s.name, av, tv, ev]
abbrev sRow (s : LS) (av tv ev : Value) : List Value := [I s.kind, S s.name, av, tv, ev]
theorem RS.ev {d : Nat} {B : Nat → Prop} {W : World} {C : Nat → Value} {s : LS} (h : RS d B W C s) : agg5 C = sV s (C 2) (C 3) (C 4) ∧ AX B W (C 2) s.args ∧ SX B W (C 3) s.thn ∧ SX B W (C 4) s.els := by
  cases d with
  | zero => exact h.elim
  | succ d =>
    obtain ⟨h0, h1, h2, h3, h4⟩ := h
    exact ⟨by simp only [agg5, sV]; rw [h0, h1], h2, ⟨d, h3⟩, ⟨d, h4⟩⟩
theorem SX.below {B : Nat → Prop} {w w' : World} {v : Value} {l : List LS} (h : SX B w v l) (hb : Below w.heap.size w w') : SX B w' v l := h.grown (below_grown hb none) (fun r e => by cases e)
theorem RS.below {d : Nat} {B : Nat → Prop} {w w' : World} {C : Nat → Value} {s : LS} (hb : Below w.heap.size w w') (h : RS d B w C s) : RS d B w' C s := h.grown d (below_grown hb none) (fun r e => by cases e)

/-- what stmts says -/
def StsOk (l : List LS) (most : Int) (v : Value) (B : Nat → Prop) : Prop := ∀ W, SX B W v l → Calls Tryz.prog 78 #[v, I most] W fun e' w' => e' = .returned (.bool true) ∧ Below W.heap.size W w'
set_option maxRecDepth 100000 in
set_option maxHeartbeats 8000000 in
theorem stmt10_right (d : Nat) (s : LS) (h : okS (d + 1) s) (h10 : s.kind = 10) (most : Int) (hm : 1 ≤ most ∧ most ≤ 1000) (av tv ev : Value) (w : World) (B : Nat → Prop) (ha : AX B w av s.args) (ht : SX B w tv s.thn) (he : SX B w ev s.els)
    (it : StsOk s.thn (most - 1) tv B) (ie : StsOk s.els (most - 1) ev B) :
    Calls Tryz.prog 120 #[sV s av tv ev, I most] w fun e' w' => e' = .returned (.bool true) ∧ Below w.heap.size w w' := by
  obtain ⟨⟨-, hk5⟩, h2, h3, h4, h5, h6, h7, h8, h9⟩ := h
  have hk5 := hk5 h10
  rw [h10] at h2 h3 h4 h6
  have hn0 : s.name = [] := h6 rfl
  have ht0 : s.thn = [] := h3 rfl
  have he0 : s.els = [] := h4 rfl
  have HFO : Hid (∀ W : World, Calls Tryz.prog 179 #[I 10] W fun e w' => e = .returned (.tuple #[.agg #[.bool false, I 1, .bool false, .bool false], .bool true]) ∧ Below W.heap.size W w') := Lib.hid (fun W => formOf_yes 10 (by decide) W)
  have hval : sV s av tv ev = .agg #[I 10, S [], av, tv, ev] := by unfold sV; rw [h10, hn0]
  rw [hval]
  have hno : ∀ W d', RSlB B 5 (RE d' B) W av s.args → SaysNo 5 agg5 (RE d' B) W 180 #[] s.args := fun W d' _ => ⟨enters_of Tryz.func180 (by kernel_rfl) rfl, fun x hx W' C hb hr => by
    obtain ⟨he, hex⟩ := hr.ev
    rw [he]
    exact stmt1_no x (h7 x hx) (C 4) W' B hex⟩
  obtain ⟨a, hsa⟩ : ∃ a, s.args = [a] := List.length_eq_one_iff.1 h2
  have hak : a.kind = 5 := hk5 a (by rw [hsa]; simp)
  rw [hsa] at ha hno
  rw [ht0] at ht it
  rw [he0] at he ie
  obtain ⟨g, o, ac, rfl, hg5⟩ : ∃ g o ac, av = .slice (some ⟨g, o, none⟩) 1 ac ∧ w.cell? ⟨g, o, none⟩ = some (I 5) := by
    obtain ⟨d', a', c', hv, -, hor⟩ := ha
    rcases hor with hor | ⟨g, o, rfl, -, hel⟩
    · cases hor
    · obtain ⟨C, hC, hR⟩ := hel 0 a rfl
      obtain ⟨hev, -⟩ := hR.ev
      refine ⟨g, o, c', hv, ?_⟩
      have h0 := hC 0 (by decide)
      rw [Nat.zero_mul, Nat.add_zero] at h0
      rw [h0]
      have hev : Value.agg #[C 0, C 1, C 2, C 3, C 4] = Value.agg #[I a.kind, I a.op, I a.n, S a.name, C 4] := hev
      have h5 : C 0 = I a.kind ∧ C 1 = I a.op ∧ C 2 = I a.n ∧ C 3 = S a.name := by simpa using Value.agg.inj hev
      rw [h5.1, hak]
  obtain ⟨ta, tc, rfl⟩ := ht.slice
  obtain ⟨ea, ec, rfl⟩ := he.slice
  have hm0 : (most == 0) = false := beq_eq_false_iff_ne.2 (by omega)
  have HNO := Lib.hid hno
  have HAX := Lib.hid ha
  have HTX := Lib.hid ht
  have HEX := Lib.hid he
  have HIT := Lib.hid it
  have HIE := Lib.hid ie
  obtain ⟨hm1, hm2⟩ := hm
  obtain ⟨w1, hw1⟩ : ∃ w1, w1 = w.alloc (.cells #[I 10, S [], .slice (some ⟨g, o, none⟩) 1 ac, .slice ta 0 tc, .slice ea 0 ec] 54) := ⟨_, rfl⟩
  have hb1 : Below w.heap.size w w1 := by rw [hw1]; exact below_a1 _ _
  have hR1 : Row w1 w.heap.size 54 [I 10, S [], .slice (some ⟨g, o, none⟩) 1 ac, .slice ta 0 tc, .slice ea 0 ec] := by rw [hw1]; exact heap_new _ _
  have HB1 := Lib.hid hb1
  have HR1 := Lib.hid hR1
  have hgl : g < w.heap.size := by
    rcases Nat.lt_or_ge g w.heap.size with h | h
    · exact h
    · simp [World.cell?, Array.getElem?_eq_none h] at hg5
  have HG5 := Lib.hid (show ∀ W : World, Below w.heap.size w W → W.cell? ⟨g, o, none⟩ = some (I 5) from fun W hb => by
    have := hb.block g hgl
    unfold World.cell? at hg5 ⊢
    rw [this]
    exact hg5)
  have b0 := hR1.cell 0
  simp only [List.getElem?_cons_zero] at b0
  have hwe : w.alloc (.cells #[I 10, S [], .slice (some ⟨g, o, none⟩) 1 ac, .slice ta 0 tc, .slice ea 0 ec] 54) = w1 := hw1.symm
  clear ha ht he it ie hno h2 h3 h4 h5 h6 h7 h8 h9 hk5 h10 hn0 ht0 he0 hval hsa hak hg5 hw1 hb1 hR1
  go_enter Tryz.func120, Tryz.ntmps120
  go_upto_region 2 with (first
    | (go_at_call 179; refine (HFO.out _).mono ?_; rintro e' w2 ⟨rfl, hb2⟩; have HR2 := Lib.hid (HR1.out.ext hb2); have HB2 := Lib.hid (HB1.out.trans (hb2.mono HB1.out.size)); clear hb2)
    | (refine store_first 197 (.tmp 5) (.tmp 11) rfl ?_; refine wpList_store_row rfl 197 (.tmp 5) (.tmp 11) rfl w2.heap.size _ rfl rfl 197 frZ (heap_new _ _) (by kernel_rfl) (by rfl) (by simp [Value.oneCell']) ?_))
  have hzb := HB2.out.size
  have hlb := HR2.out.lt
  obtain ⟨w3, hw3⟩ : ∃ w3, w3 = (w2.alloc (.cells frZ 197)).setRow w2.heap.size #[.bool false, I 1, .bool false, .bool false] := ⟨_, rfl⟩
  have hR3 : Row w3 w.heap.size 54 [I 10, S [], .slice (some ⟨g, o, none⟩) 1 ac, .slice ta 0 tc, .slice ea 0 ec] := by rw [hw3]; exact (setRow_other _ _ _ _ (by omega)).trans (heap_old _ _ HR2.out)
  have hX3 : Row w3 w2.heap.size 197 [.bool false, I 1, .bool false, .bool false] := by rw [hw3]; exact setRow_heap _ _ _ _ _ _ (heap_new _ _)
  have HB3 := Lib.hid (show Below w.heap.size w w3 by rw [hw3]; exact (HB2.out.alloc hzb _).grown setRow_grown (by simp; omega) (fun r e => by cases e; omega))
  rw [← hw3]
  have c0 := hR3.cell 0
  have c1 := hR3.cell 1
  have c2 := hR3.cell 2
  have c3 := hR3.cell 3
  have c4 := hR3.cell 4
  have x0 := hX3.cell 0
  have x1 := hX3.cell 1
  have x2 := hX3.cell 2
  have x3 := hX3.cell 3
  simp only [List.getElem?_cons_succ, List.getElem?_cons_zero] at c0 c1 c2 c3 c4 x0 x1 x2 x3
  have HR3 := Lib.hid hR3
  have HX3 := Lib.hid hX3
  clear hw3 hR3 hX3 b0
  go_upto_region 4 with (fail)
  refine wp_region_ordW (by kernel_rfl) (fun W => W.cell? ⟨w.heap.size, 0, none⟩ = some (I 10) ∧ W.cell? ⟨w.heap.size, 1, none⟩ = some (S []) ∧ W.cell? ⟨w2.heap.size, 0, none⟩ = some (.bool false) ∧ W.cell? ⟨w.heap.size, 2, none⟩ = some (.slice (some ⟨g, o, none⟩) 1 ac) ∧ W.cell? ⟨g, o, none⟩ = some (I 5)) [(0, 0), (0, 1), (0, 2), (0, 3), (1, 4), (0, 5), (0, 6), (0, 7), (0, 8), (0, 9), (0, 10), (0, 11), (0, 12), (0, 13), (0, 14), (0, 15), (0, 16), (0, 17), (0, 18), (0, 19), (0, 20), (0, 21), (0, 22), (0, 23), (0, 24), (0, 25), (0, 26), (0, 27), (0, 28)] (by kernel_rfl) ?hS ?_
  case hS => intro wd hh; have h9 := row_at HX3.out hh 0; exact ⟨row_at HR3.out hh 0, row_at HR3.out hh 1, h9, row_at HR3.out hh 2, by have h := HG5.out w3 HB3.out; unfold World.cell? at h ⊢; rw [hh]; exact h⟩
  intro wd hh hgd hS
  have HRD := Lib.hid (HR3.out.kept hgd (by simp))
  have HXD := Lib.hid (HX3.out.kept hgd (by simp))
  have HBD := Lib.hid (HB3.out.grown hgd HB3.out.size (fun r e => by cases e))
  clear hh hgd c0 c1 c2 c3 c4 x0 x1 x2 x3
  simp only [pickOps, List.map_cons, List.map_nil, List.getElem?_cons_zero, List.getElem?_cons_succ, Option.getD_some]
  repeat (first | (refine wpOrd_pass (by rfl) (by assumption) (fun _ _ _ h => h) ?_; simp only [Act.put, List.setIfInBounds_toArray, List.set_cons_zero, List.set_cons_succ]) | (refine wpOrd_look (v := ?_) (by rfl) ?_ (by assumption) (fun _ _ _ h => h) ?_; rotate_left; (· (intro wS hSw; (try dsimp only at hSw); go_simp; (first | done | with_reducible rfl))); simp only [Act.put, List.setIfInBounds_toArray, List.set_cons_zero, List.set_cons_succ]))
  refine wpOrd_turn ?_
  go_wp2_with (first
    | (go_at_call 117; refine (name_empty _).mono ?_; rintro e' w4 ⟨rfl, hb4⟩; have HR4 := Lib.hid (HRD.out.ext hb4); have HX4 := Lib.hid (HXD.out.ext hb4); have HB4 := Lib.hid (HBD.out.trans (hb4.mono HBD.out.size)); clear hb4 hS))
  refine QN_keep ⟨HR4.out.cell 0, HR4.out.cell 1, HX4.out.cell 0, HR4.out.cell 2, HG5.out w4 HB4.out⟩ fun hS => ?_
  repeat (first | (refine wpOrd_pass (by rfl) (by assumption) (fun _ _ _ h => h) ?_; simp only [Act.put, List.setIfInBounds_toArray, List.set_cons_zero, List.set_cons_succ]) | (refine wpOrd_look (v := ?_) (by rfl) ?_ (by assumption) (fun _ _ _ h => h) ?_; rotate_left; (· (intro wS hSw; (try dsimp only at hSw); go_simp; (first | done | with_reducible rfl))); simp only [Act.put, List.setIfInBounds_toArray, List.set_cons_zero, List.set_cons_succ]))
  refine wpOrd_nil ?_
  have hr4 := HR4.out
  have c2 := hr4.cell 2
  simp only [List.getElem?_cons_succ, List.getElem?_cons_zero] at c2
  obtain ⟨d', hd'⟩ := HAX.out.grown (below_grown HB4.out none) (fun r e => by cases e)
  have HCT := Lib.hid (containsE_none w4 _ [a] hd' (fun W W' C x hb h => h.below hb) 180 #[] (HNO.out w4 d' hd'))
  clear hr4 hd' hS
  go_wp2_with (first
    | (go_at_call 100; refine HCT.out.mono ?_; rintro e' w5 ⟨rfl, hb5⟩; have hr5 := HR4.out.ext hb5; have HR5 := Lib.hid hr5; have HB5 := Lib.hid (HB4.out.trans (hb5.mono HB4.out.size)); have c3 := hr5.cell 3; simp only [List.getElem?_cons_succ, List.getElem?_cons_zero] at c3; clear hr5 hb5)
    | (go_at_call 78; (first
        | (refine (HIT.out w5 (HTX.out.grown (below_grown HB5.out none) (fun r e => by cases e))).mono ?_; rintro e' w6 ⟨rfl, hb6⟩; have hr6 := HR5.out.ext hb6; have HR6 := Lib.hid hr6; have HB6 := Lib.hid (HB5.out.trans (hb6.mono HB5.out.size)); have c4 := hr6.cell 4; simp only [List.getElem?_cons_succ, List.getElem?_cons_zero] at c4; clear hr6 hb6)
        | (refine (HIE.out w6 (HEX.out.grown (below_grown HB6.out none) (fun r e => by cases e))).mono ?_; rintro e' w7 ⟨rfl, hb7⟩; have HB7 := Lib.hid (HB6.out.trans (hb7.mono HB6.out.size)); clear hb7))))
  go_ret
  exact ⟨rfl, HB7.out⟩

set_option maxRecDepth 100000 in
set_option maxHeartbeats 8000000 in
theorem stmt_right (d : Nat) (s : LS) (h : okS (d + 1) s) (most : Int) (hm : 1 ≤ most ∧ most ≤ 1000) (av tv ev : Value) (w : World) (B : Nat → Prop) (ha : AX B w av s.args) (ht : SX B w tv s.thn) (he : SX B w ev s.els)
    (it : StsOk s.thn (most - 1) tv B) (ie : StsOk s.els (most - 1) ev B) :
    Calls Tryz.prog 120 #[sV s av tv ev, I most] w fun e' w' => e' = .returned (.bool true) ∧ Below w.heap.size w w' := by
  by_cases hk10 : s.kind = 10
  · exact stmt10_right d s h hk10 most hm av tv ev w B ha ht he it ie
  obtain ⟨⟨hk, -⟩, h2, h3, h4, h5, h6, h7, h8, h9⟩ := h
  have hk : 1 ≤ s.kind ∧ s.kind ≤ 9 := by omega
  clear hk10
  have HFO := Lib.hid (fun W => formOf_yes s.kind (by omega) W)
  obtain ⟨F, hF⟩ : ∃ F, F = formL s.kind := ⟨_, rfl⟩
  rw [← hF] at h2 h3 h4 h5 h6 HFO
  obtain ⟨nm, an, th, mo⟩ := F
  simp only [] at h2 h3 h4 h5 h6 HFO
  obtain ⟨aa, ac, hav⟩ := ha.slice
  rw [show (LE.mk 0 0 0 [] s.args).args.length = an from h2] at hav
  subst hav
  obtain ⟨ta, tc, htv⟩ := ht.slice
  obtain ⟨tn, htn⟩ : ∃ n, n = s.thn.length := ⟨_, rfl⟩
  rw [← htn] at htv
  subst htv
  obtain ⟨ea, ec, hev⟩ := he.slice
  obtain ⟨en, hen⟩ : ∃ n, n = s.els.length := ⟨_, rfl⟩
  rw [← hen] at hev
  subst hev
  show Calls Tryz.prog 120 #[.agg #[I s.kind, S s.name, .slice aa an ac, .slice ta tn tc, .slice ea en ec], I most] w _
  obtain ⟨sn, hsn⟩ : ∃ n, n = s.name := ⟨_, rfl⟩
  obtain ⟨sk, hsk⟩ : ∃ n, n = s.kind := ⟨_, rfl⟩
  rw [← hsn] at h5 h6 ⊢
  rw [← hsk] at hk HFO ⊢
  have hts : th = false → tn = 0 := fun e => by rw [htn, h3 e]; rfl
  have hes : mo = false → en = 0 := fun e => by rw [hen, h4 e]; rfl
  have hk0 : (sk == 10) = false := beq_eq_false_iff_ne.2 (by omega)
  have hm0 : (most == 0) = false := beq_eq_false_iff_ne.2 (by omega)
  have hno : ∀ W d', RSlB B 5 (RE d' B) W (.slice aa an ac) s.args → SaysNo 5 agg5 (RE d' B) W 180 #[] s.args := fun W d' _ => ⟨enters_of Tryz.func180 (by kernel_rfl) rfl, fun x hx W' C hb hr => by
    obtain ⟨he, hex⟩ := hr.ev
    rw [he]
    exact stmt1_no x (h7 x hx) (C 4) W' B hex⟩
  have HNO := Lib.hid hno
  have HNM : Hid (∀ W, Calls Tryz.prog 117 #[S sn] W fun e w' => e = .returned (.bool nm) ∧ Below W.heap.size W w') := Lib.hid (fun W => by
    cases nm with
    | true => exact name_yes sn (h5 rfl).1 (h5 rfl).2 W
    | false => rw [h6 rfl]; exact name_empty W)
  have hnn : nm = false → sn = [] := h6
  have HAX := Lib.hid ha
  have HTX := Lib.hid ht
  have HEX := Lib.hid he
  have HIT := Lib.hid it
  have HIE := Lib.hid ie
  obtain ⟨hm1, hm2⟩ := hm
  obtain ⟨w1, hw1⟩ : ∃ w1, w1 = w.alloc (.cells #[I sk, S sn, .slice aa an ac, .slice ta tn tc, .slice ea en ec] 54) := ⟨_, rfl⟩
  have hb1 : Below w.heap.size w w1 := by rw [hw1]; exact below_a1 _ _
  have hR1 : Row w1 w.heap.size 54 [I sk, S sn, .slice aa an ac, .slice ta tn tc, .slice ea en ec] := by rw [hw1]; exact heap_new _ _
  have HB1 := Lib.hid hb1
  have HR1 := Lib.hid hR1
  have b0 := hR1.cell 0
  simp only [List.getElem?_cons_zero] at b0
  have hwe : w.alloc (.cells #[I sk, S sn, .slice aa an ac, .slice ta tn tc, .slice ea en ec] 54) = w1 := hw1.symm
  have hneg : nm = true → (s.name == []) = false ∨ True := fun _ => .inr trivial
  clear ha ht he it ie hno hF h2 h3 h4 h5 h6 h7 h8 h9 hk hw1 hb1 hR1 htn hen hneg hsn hsk
  go_enter Tryz.func120, Tryz.ntmps120
  go_upto_region 2 with (first
    | (go_at_call 179; refine (HFO.out _).mono ?_; rintro e' w2 ⟨rfl, hb2⟩; have HR2 := Lib.hid (HR1.out.ext hb2); have HB2 := Lib.hid (HB1.out.trans (hb2.mono HB1.out.size)); clear hb2)
    | (refine store_first 197 (.tmp 5) (.tmp 11) rfl ?_; refine wpList_store_row rfl 197 (.tmp 5) (.tmp 11) rfl w2.heap.size _ rfl rfl 197 frZ (heap_new _ _) (by kernel_rfl) (by rfl) (by simp [Value.oneCell']) ?_))
  have hzb := HB2.out.size
  have hlb := HR2.out.lt
  obtain ⟨w3, hw3⟩ : ∃ w3, w3 = (w2.alloc (.cells frZ 197)).setRow w2.heap.size #[.bool nm, I an, .bool th, .bool mo] := ⟨_, rfl⟩
  have hR3 : Row w3 w.heap.size 54 [I sk, S sn, .slice aa an ac, .slice ta tn tc, .slice ea en ec] := by rw [hw3]; exact (setRow_other _ _ _ _ (by omega)).trans (heap_old _ _ HR2.out)
  have hX3 : Row w3 w2.heap.size 197 [.bool nm, I an, .bool th, .bool mo] := by rw [hw3]; exact setRow_heap _ _ _ _ _ _ (heap_new _ _)
  have HB3 := Lib.hid (show Below w.heap.size w w3 by rw [hw3]; exact (HB2.out.alloc hzb _).grown setRow_grown (by simp; omega) (fun r e => by cases e; omega))
  rw [← hw3]
  have c0 := hR3.cell 0
  have c1 := hR3.cell 1
  have c2 := hR3.cell 2
  have c3 := hR3.cell 3
  have c4 := hR3.cell 4
  have x0 := hX3.cell 0
  have x1 := hX3.cell 1
  have x2 := hX3.cell 2
  have x3 := hX3.cell 3
  simp only [List.getElem?_cons_succ, List.getElem?_cons_zero] at c0 c1 c2 c3 c4 x0 x1 x2 x3
  have HR3 := Lib.hid hR3
  have HX3 := Lib.hid hX3
  clear hw3 hR3 hX3 b0
  have hc1 : (th = false ∧ tn = 0) ∨ th = true := by
    cases th with
    | false => exact .inl ⟨rfl, hts rfl⟩
    | true => exact .inr rfl
  have hc2 : (mo = false ∧ en = 0) ∨ mo = true := by
    cases mo with
    | false => exact .inl ⟨rfl, hes rfl⟩
    | true => exact .inr rfl
  have hc3 : (nm = false ∧ sn = []) ∨ nm = true := by
    cases nm with
    | false => exact .inl ⟨rfl, hnn rfl⟩
    | true => exact .inr rfl
  clear hts hes hnn
  rcases hc1 with ⟨rfl, rfl⟩ | rfl <;> rcases hc2 with ⟨rfl, rfl⟩ | rfl <;> rcases hc3 with ⟨rfl, rfl⟩ | rfl
  all_goals
    go_upto_region 4 with (fail)
    first | (refine wp_region_ordW (by kernel_rfl) (fun W => W.cell? ⟨w.heap.size, 0, none⟩ = some (I sk) ∧ W.cell? ⟨w.heap.size, 1, none⟩ = some (S sn) ∧ W.cell? ⟨w2.heap.size, 0, none⟩ = some (.bool true)) [(0, 0), (0, 1), (0, 2), (0, 3), (1, 4), (0, 5), (0, 6), (0, 7), (0, 8), (0, 9), (0, 10), (0, 11), (0, 12), (0, 13), (0, 14), (0, 15), (0, 16), (0, 17), (0, 18), (0, 19), (0, 20), (0, 21), (0, 22), (0, 23), (0, 24), (0, 25), (0, 26), (0, 27), (0, 28)] (by kernel_rfl) ?hS ?_) | (refine wp_region_ordW (by kernel_rfl) (fun W => W.cell? ⟨w.heap.size, 0, none⟩ = some (I sk) ∧ W.cell? ⟨w.heap.size, 1, none⟩ = some (S []) ∧ W.cell? ⟨w2.heap.size, 0, none⟩ = some (.bool false)) [(0, 0), (0, 1), (0, 2), (0, 3), (1, 4), (0, 5), (0, 6), (0, 7), (0, 8), (0, 9), (0, 10), (0, 11), (0, 12), (0, 13), (0, 14), (0, 15), (0, 16), (0, 17), (0, 18), (0, 19), (0, 20), (0, 21), (0, 22), (0, 23), (0, 24), (0, 25), (0, 26), (0, 27), (0, 28)] (by kernel_rfl) ?hS ?_)
    case hS => intro wd hh; have h9 := row_at HX3.out hh 0; exact ⟨row_at HR3.out hh 0, row_at HR3.out hh 1, h9⟩
    intro wd hh hgd hS
    have HRD := Lib.hid (HR3.out.kept hgd (by simp))
    have HXD := Lib.hid (HX3.out.kept hgd (by simp))
    have HBD := Lib.hid (HB3.out.grown hgd HB3.out.size (fun r e => by cases e))
    clear hh hgd c0 c1 c2 x0 x1
    try clear c3 c4 x2 x3
    simp only [pickOps, List.map_cons, List.map_nil, List.getElem?_cons_zero, List.getElem?_cons_succ, Option.getD_some]
    repeat (first | (refine wpOrd_pass (by rfl) (by assumption) (fun _ _ _ h => h) ?_; simp only [Act.put, List.setIfInBounds_toArray, List.set_cons_zero, List.set_cons_succ]) | (refine wpOrd_look (v := ?_) (by rfl) ?_ (by assumption) (fun _ _ _ h => h) ?_; rotate_left; (· (intro wS hSw; (try dsimp only at hSw); go_simp; (first | done | with_reducible rfl))); simp only [Act.put, List.setIfInBounds_toArray, List.set_cons_zero, List.set_cons_succ]))
    refine wpOrd_turn ?_
    go_wp2_with (first
      | (go_at_call 117; refine (HNM.out _).mono ?_; rintro e' w4 ⟨rfl, hb4⟩; have HR4 := Lib.hid (HRD.out.ext hb4); have HX4 := Lib.hid (HXD.out.ext hb4); have HB4 := Lib.hid (HBD.out.trans (hb4.mono HBD.out.size)); clear hb4 hS))
    refine QN_keep ⟨HR4.out.cell 0, HR4.out.cell 1, HX4.out.cell 0⟩ fun hS => ?_
    repeat (first | (refine wpOrd_pass (by rfl) (by assumption) (fun _ _ _ h => h) ?_; simp only [Act.put, List.setIfInBounds_toArray, List.set_cons_zero, List.set_cons_succ]) | (refine wpOrd_look (v := ?_) (by rfl) ?_ (by assumption) (fun _ _ _ h => h) ?_; rotate_left; (· (intro wS hSw; (try dsimp only at hSw); go_simp; (first | done | with_reducible rfl))); simp only [Act.put, List.setIfInBounds_toArray, List.set_cons_zero, List.set_cons_succ]))
    refine wpOrd_nil ?_
    have hr4 := HR4.out
    have c2 := hr4.cell 2
    simp only [List.getElem?_cons_succ, List.getElem?_cons_zero] at c2
    obtain ⟨d', hd'⟩ := HAX.out.grown (below_grown HB4.out none) (fun r e => by cases e)
    have HCT := Lib.hid (containsE_none w4 _ s.args hd' (fun W W' C x hb h => h.below hb) 180 #[] (HNO.out w4 d' hd'))
    clear hr4 hd' hS
    go_wp2_with (first
      | (go_at_call 100; refine HCT.out.mono ?_; rintro e' w5 ⟨rfl, hb5⟩; have hr5 := HR4.out.ext hb5; have HR5 := Lib.hid hr5; have HB5 := Lib.hid (HB4.out.trans (hb5.mono HB4.out.size)); have c3 := hr5.cell 3; simp only [List.getElem?_cons_succ, List.getElem?_cons_zero] at c3; clear hr5 hb5)
      | (go_at_call 78; (first
          | (refine (HIT.out w5 (HTX.out.grown (below_grown HB5.out none) (fun r e => by cases e))).mono ?_; rintro e' w6 ⟨rfl, hb6⟩; have hr6 := HR5.out.ext hb6; have HR6 := Lib.hid hr6; have HB6 := Lib.hid (HB5.out.trans (hb6.mono HB5.out.size)); have c4 := hr6.cell 4; simp only [List.getElem?_cons_succ, List.getElem?_cons_zero] at c4; clear hr6 hb6)
          | (refine (HIE.out w6 (HEX.out.grown (below_grown HB6.out none) (fun r e => by cases e))).mono ?_; rintro e' w7 ⟨rfl, hb7⟩; have HB7 := Lib.hid (HB6.out.trans (hb7.mono HB6.out.size)); clear hb7))))
    go_ret
    exact ⟨rfl, HB7.out⟩
end Go.Proofs.YtjgbkdbkachciaaGreatDoor

namespace Go.Proofs.YtjgbkdbkachciaaGreatDoor
open Go.RowKit Go.Shelf
attribute [local go_sem] Oper.semAt_some

abbrev sB (s : LS) (av tv ev : Value) : Array Value := #[I s.kind, S s.name, av, tv, ev]
set_option maxRecDepth 100000 in
set_option maxHeartbeats 2000000 in
theorem stmts1_no (d : Nat) (s : LS) (h : okS (d + 1) s) (most : Int) (hm : 1 ≤ most ∧ most ≤ 1000) (av tv ev : Value) (p : Nat) (w : World) (B : Nat → Prop) (ha : AX B w av s.args) (ht : SX B w tv s.thn) (he : SX B w ev s.els)
    (hr : Row w p 3 [I most]) (it : StsOk s.thn (most - 1) tv B) (ie : StsOk s.els (most - 1) ev B) :
    Calls Tryz.prog 119 #[sV s av tv ev, .pointer (some ⟨p, 0, none⟩)] w fun e' w' => e' = .returned (.bool false) ∧ Below w.heap.size w w' := by
  have hb := below_a1 w (.cells (sB s av tv ev) 54)
  have HI := Lib.hid (stmt_right d s h most hm av tv ev _ B (EX.grown ha (below_grown hb none) (fun r e => by cases e)) (ht.below hb) (he.below hb) it ie)
  have HB1 := Lib.hid hb
  have hr1 := hr.ext hb
  have c0 := hr1.cell 0
  simp only [List.getElem?_cons_zero] at c0
  obtain ⟨hm1, hm2⟩ := hm
  clear h ha ht he it ie hr hr1 hb
  go_enter Tryz.func119, Tryz.ntmps119
  go_wp2_with (first
    | (go_at_call 120; refine HI.out.mono ?_; rintro e' w1 ⟨rfl, hb1⟩; have HB2 := Lib.hid (HB1.out.trans (hb1.mono (by simp))); clear hb1))
  go_ret
  exact ⟨rfl, HB2.out⟩

set_option maxRecDepth 100000 in
set_option maxHeartbeats 2000000 in
theorem stmts_of (l : List LS) (most : Int) (v : Value) (w : World) (B : Nat → Prop) (hx : SX B w v l)
    (hno : ∀ x ∈ l, ∀ W C p d', RS d' B W C x → Row W p 3 [I most] → Calls Tryz.prog 119 #[agg5 C, .pointer (some ⟨p, 0, none⟩)] W fun e' w' => e' = .returned (.bool false) ∧ Below W.heap.size W w') :
    Calls Tryz.prog 78 #[v, I most] w fun e' w' => e' = .returned (.bool true) ∧ Below w.heap.size w w' := by
  obtain ⟨aa, ac, rfl⟩ := hx.slice
  have hmf : ∀ (fn : Fn) (first cap : Array Value) (w : World), (Instr.makeFunc fn first cap).run Tryz.prog w = .ok (.func fn first cap) w := fun _ _ _ _ => rfl
  obtain ⟨w1, hw1⟩ : ∃ w1, w1 = w.alloc (.cells #[I most] 3) := ⟨_, rfl⟩
  have hb1 : Below w.heap.size w w1 := by rw [hw1]; exact below_a1 w _
  have hM : Row w1 w.heap.size 3 [I most] := by rw [hw1]; exact heap_new _ _
  have hwe : w.alloc (.cells #[I most] 3) = w1 := hw1.symm
  obtain ⟨d', hd'⟩ := hx.below hb1
  have hRp : RSlB B 5 (fun W C x => RS d' B W C x ∧ Row W w.heap.size 3 [I most]) w1 (.slice aa l.length ac) l := hd'.weak (fun _ h => h) (fun C x h => ⟨h, hM⟩)
  have hsn : SaysNo 5 agg5 (fun W C x => RS d' B W C x ∧ Row W w.heap.size 3 [I most]) w1 119 #[.pointer (some ⟨w.heap.size, 0, none⟩)] l :=
    ⟨enters_of Tryz.func119 (by kernel_rfl) rfl, fun x hx W' C hb hr => hno x hx W' C _ d' hr.1 hr.2⟩
  have HCT := Lib.hid (containsS_none w1 _ l hRp (fun W W' C x hb h => ⟨h.1.below hb, h.2.ext hb⟩) 119 _ hsn)
  have HB1 := Lib.hid hb1
  clear hx hno hsn hRp hd' hM hb1 hw1
  go_enter Tryz.func78, Tryz.ntmps78
  go_wp2_with (first
    | (go_at_call 118; refine HCT.out.mono ?_; rintro e' w4 ⟨rfl, hb4⟩; have HB4 := Lib.hid (HB1.out.trans (hb4.mono HB1.out.size)); clear hb4))
  go_ret
  exact ⟨rfl, HB4.out⟩

theorem stmts_right : ∀ (d : Nat) (l : List LS) (_ : ∀ x ∈ l, okS d x) (most : Int) (_ : (d : Int) ≤ most ∧ most ≤ 1000) (v : Value) (B : Nat → Prop), StsOk l most v B
  | 0, l, h, most, hm, v, B => fun W hW => stmts_of l most v W B hW (fun x hx => (h x hx).elim)
  | d + 1, l, h, most, hm, v, B => fun W hW => stmts_of l most v W B hW (fun x hx W' C p d' hr hp => by
    obtain ⟨he, ha, ht, hs⟩ := hr.ev
    have hk := h x hx
    rw [he]
    exact stmts1_no d x hk most ⟨by omega, hm.2⟩ _ _ _ p W' B ha ht hs hp (stmts_right d x.thn hk.2.2.2.2.2.2.2.1 (most - 1) ⟨by omega, by omega⟩ _ B) (stmts_right d x.els hk.2.2.2.2.2.2.2.2 (most - 1) ⟨by omega, by omega⟩ _ B))
end Go.Proofs.YtjgbkdbkachciaaGreatDoor

namespace Go.Proofs.YtjgbkdbkachciaaGreatDoor
open Go.RowKit Go.Shelf
attribute [local go_sem] Oper.semAt_some

/-- an array may be, a function, a program -/
def okA (a : LA) : Prop := (Asc a.name ∧ isName a.name = true) ∧ 1 ≤ a.size ∧ a.size ≤ 1048576
def okF (f : LF) : Prop := (Asc f.name ∧ isName f.name = true) ∧ Names f.params ∧ Names f.locals ∧ f.params.length ≤ 6 ∧ ∀ x ∈ f.body, okS 40 x
structure okP (p : LP) : Prop where
  arrays : ∀ a ∈ p.arrays, okA a
  funcs : ∀ f ∈ p.funcs, okF f
abbrev aZ : Array Value := #[.string ⟨#[]⟩, .int .i64 0]
abbrev fZ4 : Array Value := #[.string ⟨#[]⟩, .slice none 0 0, .slice none 0 0, .slice none 0 0]
theorem named_one (x : Str) (h : Asc x ∧ isName x = true) (w : World) (g : Nat) (hr : Row w g 9 [S x]) :
    Calls Tryz.prog 77 #[.slice (some ⟨g, 0, none⟩) 1 1] w fun e' w' => e' = .returned (.bool true) ∧ Below w.heap.size w w' := by
  refine named_yes [x] (fun y hy => by obtain rfl := List.mem_singleton.1 hy; exact h) _ w (fun _ => True) ⟨_, _, rfl, by simp, .inr ⟨g, 0, rfl, trivial, fun i y hy => ?_⟩⟩
  cases i with
  | zero =>
    simp only [List.getElem?_cons_zero, Option.some.injEq] at hy
    subst hy
    refine ⟨fun _ => S x, fun j hj => ?_, rfl⟩
    obtain rfl : j = 0 := by omega
    rw [hr.cell]; rfl
  | succ i => simp at hy

set_option maxRecDepth 100000 in
set_option maxHeartbeats 8000000 in
theorem right_yes (p : LP) (h : okP p) (av fv : Value) (w : World) (B : Nat → Prop) (hx : PX B w av fv p) :
    Calls Tryz.prog 43 #[.agg #[av, fv]] w fun e' w' => e' = .returned (.bool true) ∧ Below w.heap.size w w' := by
  obtain ⟨aa, ac, fa, fc, rfl, rfl⟩ := hx.slice
  have HX := Lib.hid hx
  have HP := Lib.hid h
  have hb1 := below_a1 w (.cells #[.slice aa p.arrays.length ac, .slice fa p.funcs.length fc] 27)
  have HB1 := Lib.hid hb1
  have HR1 := Lib.hid (show Row (w.alloc (.cells #[.slice aa p.arrays.length ac, .slice fa p.funcs.length fc] 27)) w.heap.size 27 [.slice aa p.arrays.length ac, .slice fa p.funcs.length fc] from heap_new _ _)
  have hla := hx.arrays
  have hlf := hx.funcs
  obtain ⟨_, _, _, hln, -⟩ := hla
  obtain ⟨_, _, _, hlm, -⟩ := hlf
  clear hx h hb1
  go_enter Tryz.func43, Tryz.ntmps43
  go_upto_region 2 with (fail)
  go_loopg [10] p.arrays.length (fun gh i wr => ∃ k : Nat, gh + k = p.arrays.length ∧ i = I k ∧ Hid (Below w.heap.size w wr ∧ Row wr w.heap.size 27 [.slice aa p.arrays.length ac, .slice fa p.funcs.length fc]))
  case atStart => exact ⟨0, rfl, rfl, Lib.hid ⟨HB1.out, HR1.out⟩⟩
  case round =>
    obtain ⟨k, hg, rfl, HH⟩ := hrel
    obtain ⟨wo, rfl⟩ : ∃ wo, wo = wr := ⟨_, rfl⟩
    by_cases hlt : k < p.arrays.length
    · have hltz : (k : Int) < (p.arrays.length : Int) := by omega
      obtain ⟨b, o, C, rfl, _, hC, hrx⟩ := (HX.out.arrays.below HH.out.1 (fun C x h => h)).at hlt
      have hok := HP.out.arrays _ (List.getElem_mem hlt)
      obtain ⟨x, hx⟩ : ∃ x, x = p.arrays[k] := ⟨_, rfl⟩
      rw [← hx] at hrx hok
      obtain ⟨h0, h1⟩ := hrx
      have e0 := hC 0 (by omega)
      have e1 := hC 1 (by omega)
      rw [h0] at e0
      rw [h1] at e1
      simp only [Nat.add_zero] at e0 e1
      obtain ⟨hn, hs1, hs2⟩ := hok
      have hs3 : ¬ x.size < 1 := by omega
      have hs4 : ¬ 1048576 < x.size := by omega
      have HN := Lib.hid (fun W g hr => named_one x.name hn W g hr)
      clear hC h0 h1 hn hs1 hs2 hx
      go_upto_region 4 with (first
        | (refine store_first 68 (.tmp 4) (.tmp 13) rfl ?_; refine wpList_store_row rfl 68 (.tmp 4) (.tmp 13) rfl wo.heap.size _ rfl rfl 68 aZ (heap_new _ _) (by kernel_rfl) (by rfl) (by simp [Value.oneCell']) ?_))
      obtain ⟨w3, hw3⟩ : ∃ w3, w3 = (wo.alloc (.cells aZ 68)).setRow wo.heap.size #[S x.name, I x.size] := ⟨_, rfl⟩
      have hz := HH.out.1.size
      have hb3 : Below w.heap.size w w3 := by rw [hw3]; exact (HH.out.1.alloc hz _).grown setRow_grown (by simp; omega) (fun r e => by cases e; omega)
      have hr3 : Row w3 w.heap.size 27 [.slice (some ⟨b, o, none⟩) p.arrays.length ac, .slice fa p.funcs.length fc] := by
        have := HH.out.2.lt
        rw [hw3]; exact (setRow_other _ _ _ _ (by omega)).trans (heap_old _ _ HH.out.2)
      have hx3 : Row w3 wo.heap.size 68 [S x.name, I x.size] := by rw [hw3]; exact setRow_heap _ _ _ _ _ _ (heap_new _ _)
      rw [← hw3]
      have c0 := hx3.cell 0
      simp only [List.getElem?_cons_zero] at c0
      have HB3 := Lib.hid hb3
      have HR3 := Lib.hid hr3
      have HX3 := Lib.hid hx3
      clear hw3 hb3 hr3 hx3 e0 e1
      go_wp2_with (first
        | (go_at_call 77; refine (HN.out _ w3.heap.size (heap_new _ _)).mono ?_; rintro e' w4 ⟨rfl, hb4⟩; have hbb := (below_a1 w3 (.cells #[S x.name] 9)).trans (hb4.mono (by simp)); have HB4 := Lib.hid (HB3.out.trans (hbb.mono HB3.out.size)); have HR4 := Lib.hid (HR3.out.ext hbb); have hx4 := HX3.out.ext hbb; have c1 := hx4.cell 1; simp only [List.getElem?_cons_succ, List.getElem?_cons_zero] at c1; clear hb4 hbb hx4))
      go_roundg (p.arrays.length - (k + 1))
      case measure => omega
      case rel => exact ⟨k + 1, by omega, by go_num, Lib.hid ⟨HB4.out, HR4.out⟩⟩
    · have hltz : ¬ (k : Int) < (p.arrays.length : Int) := by omega
      have HB5 := Lib.hid HH.out.1
      have hr5 := HH.out.2
      have c1 := hr5.cell 1
      simp only [List.getElem?_cons_succ, List.getElem?_cons_zero] at c1
      clear HH hr5
      go_upto_region 8 with (fail)
      go_loopg [33] p.funcs.length (fun gh i wr => ∃ k : Nat, gh + k = p.funcs.length ∧ i = I k ∧ Hid (Below w.heap.size w wr))
      case atStart => exact ⟨0, rfl, rfl, Lib.hid HB5.out⟩
      case round =>
        obtain ⟨j, hg2, rfl, HH⟩ := hrel
        obtain ⟨wq, rfl⟩ : ∃ wo, wo = wr := ⟨_, rfl⟩
        by_cases hlt2 : j < p.funcs.length
        · have hltz2 : (j : Int) < (p.funcs.length : Int) := by omega
          obtain ⟨b, o, C, rfl, _, hC, hrx⟩ := (HX.out.funcs.below HH.out (fun C x h => h.grown (below_grown HH.out none) (fun r e => by cases e))).at hlt2
          have hok := HP.out.funcs _ (List.getElem_mem hlt2)
          obtain ⟨x, hx⟩ : ∃ x, x = p.funcs[j] := ⟨_, rfl⟩
          rw [← hx] at hrx hok
          obtain ⟨h0, hpar, hloc, hbody⟩ := hrx
          have e0 := hC 0 (by omega)
          have e1 := hC 1 (by omega)
          have e2 := hC 2 (by omega)
          have e3 := hC 3 (by omega)
          obtain ⟨pa, pc, hpv, -⟩ := id hpar
          obtain ⟨la, lc, hlv, -⟩ := id hloc
          obtain ⟨ba, bc, hbv⟩ := hbody.slice
          rw [h0] at e0
          rw [hpv] at e1 hpar
          rw [hlv] at e2 hloc
          rw [hbv] at e3 hbody
          simp only [Nat.add_zero] at e0 e1 e2 e3
          obtain ⟨hn, hnp, hnl, hp6, hbs⟩ := hok
          have hp6z : ¬ (6 : Int) < (x.params.length : Int) := by omega
          have HN := Lib.hid (fun W g hr => named_one x.name hn W g hr)
          have HNP := Lib.hid (fun W hh => named_yes x.params hnp (.slice pa x.params.length pc) W B hh)
          have HNL := Lib.hid (fun W hh => named_yes x.locals hnl (.slice la x.locals.length lc) W B hh)
          have HNB := Lib.hid (stmts_right 40 x.body hbs 40 (by omega) (.slice ba x.body.length bc) B)
          have HPA := Lib.hid hpar
          have HLO := Lib.hid hloc
          have HBO := Lib.hid hbody
          clear hC h0 hn hnp hnl hp6 hbs hpar hloc hbody hpv hlv hbv hx
          go_upto_region 10 with (first
            | (refine store_first 52 (.tmp 6) (.tmp 36) rfl ?_; refine wpList_store_row rfl 52 (.tmp 6) (.tmp 36) rfl wq.heap.size _ rfl rfl 52 fZ4 (heap_new _ _) (by kernel_rfl) (by rfl) (by simp [Value.oneCell']) ?_))
          obtain ⟨w3, hw3⟩ : ∃ w3, w3 = (wq.alloc (.cells fZ4 52)).setRow wq.heap.size #[S x.name, .slice pa x.params.length pc, .slice la x.locals.length lc, .slice ba x.body.length bc] := ⟨_, rfl⟩
          have hz := HH.out.size
          have hb3 : Below wq.heap.size wq w3 := by rw [hw3]; exact (below_a1 wq _).grown setRow_grown (by simp) (fun r e => by cases e; omega)
          have hx3 : Row w3 wq.heap.size 52 [S x.name, .slice pa x.params.length pc, .slice la x.locals.length lc, .slice ba x.body.length bc] := by rw [hw3]; exact setRow_heap _ _ _ _ _ _ (heap_new _ _)
          rw [← hw3]
          have c0 := hx3.cell 0
          simp only [List.getElem?_cons_zero] at c0
          have HB3 := Lib.hid hb3
          have HX3 := Lib.hid hx3
          clear hw3 hb3 hx3 e0 e1 e2 e3
          try clear c1
          go_wp2_with (first
            | (go_at_call 77; refine (HN.out _ w3.heap.size (heap_new _ _)).mono ?_; rintro e' w4 ⟨rfl, hb4⟩; have hbb := (below_a1 w3 (.cells #[S x.name] 9)).trans (hb4.mono (by simp)); have HB4 := Lib.hid (HB3.out.trans (hbb.mono HB3.out.size)); have hx4 := HX3.out.ext hbb; have HX4 := Lib.hid hx4; have c1 := hx4.cell 1; simp only [List.getElem?_cons_succ, List.getElem?_cons_zero] at c1; clear hb4 hbb hx4)
            | (go_at_call 77; refine (HNP.out _ (HPA.out.grown (below_grown HB4.out none) (fun r e => by cases e) (fun _ _ h => h))).mono ?_; rintro e' w5 ⟨rfl, hb5⟩; have HB5 := Lib.hid (HB4.out.trans (hb5.mono HB4.out.size)); have hx5 := HX4.out.ext hb5; have HX5 := Lib.hid hx5; have c2 := hx5.cell 2; simp only [List.getElem?_cons_succ, List.getElem?_cons_zero] at c2; clear hb5 hx5)
            | (go_at_call 77; refine (HNL.out _ (HLO.out.grown (below_grown HB5.out none) (fun r e => by cases e) (fun _ _ h => h))).mono ?_; rintro e' w6 ⟨rfl, hb6⟩; have HB6 := Lib.hid (HB5.out.trans (hb6.mono HB5.out.size)); have hx6 := HX5.out.ext hb6; have HX6 := Lib.hid hx6; have c1 := hx6.cell 1; have c3 := hx6.cell 3; simp only [List.getElem?_cons_succ, List.getElem?_cons_zero] at c1 c3; clear hb6 hx6)
            | (go_at_call 78; refine (HNB.out _ (HBO.out.grown (below_grown HB6.out none) (fun r e => by cases e))).mono ?_; rintro e' w7 ⟨rfl, hb7⟩; have HB7 := Lib.hid (HB6.out.trans (hb7.mono HB6.out.size)); clear hb7))
          go_roundg (p.funcs.length - (j + 1))
          case measure => omega
          case rel => exact ⟨j + 1, by omega, by go_num, Lib.hid (HH.out.trans (HB7.out.mono hz))⟩
        · have hltz2 : ¬ (j : Int) < (p.funcs.length : Int) := by omega
          go_wp2
          go_ret
          exact ⟨rfl, HH.out⟩
end Go.Proofs.YtjgbkdbkachciaaGreatDoor
