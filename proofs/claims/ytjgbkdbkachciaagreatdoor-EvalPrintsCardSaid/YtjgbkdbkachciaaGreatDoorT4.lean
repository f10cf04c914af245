import Derived.Test.YtjgbkdbkachciaaGreatDoorT3
namespace Go.Proofs.YtjgbkdbkachciaaGreatDoor
open Go.RowKit Go.Shelf
attribute [local go_sem] Oper.semAt_some

set_option maxRecDepth 100000 in
set_option maxHeartbeats 2000000 in
/-- no things with commas between -/
theorem commas_none (pb tb : Nat) (t : Tok) (r : List Tok) (fv : Value) (w : World) (h : PS w pb tb (t :: r)) (hx : tokIs t [41] = true) (hr : r ≠ []) :
    Calls Tryz.prog 113 #[.pointer (some ⟨pb, 0, none⟩), fv] w fun e w' => (∃ v, e = .returned v) ∧ PG w pb tb r w' := by
  have HTK := Lib.hid (take_yes pb tb t r [41] w h hx hr)
  clear h hx hr
  go_enter Tryz.func113, Tryz.ntmps113
  go_wp2_with (first
    | (go_at_call 74; refine HTK.out.mono ?_; rintro e' w1 ⟨rfl, hp1⟩; have HP1 := Lib.hid hp1; clear hp1))
  refine bodyPost_ret (results_none rfl _ _ _) rfl ?_
  exact ⟨⟨_, rfl⟩, HP1.out⟩

theorem heap_at {w : World} {o : Obj} {k : Nat} (h : k = w.heap.size) : (w.alloc o).heap[k]? = some o := by rw [h]; exact heap_new _ _
abbrev wInt : Str := [105, 110, 116]
abbrev fZ : Array Value := #[.string ⟨#[]⟩, .slice none 0 0, .slice none 0 0, .slice none 0 0]
/-- a function behind its name's parenthesis: so far, one without parameters and locals -/
def fnF (k g : Nat) (nm : Str) : List Tok → Option (LF × List Tok)
  | [] => none
  | t :: r => if tokIs t [41] then match wantF [[123]] r with
      | none => none
      | some [] => none
      | some (t2 :: r2) => if tokIs t2 wInt then none else (stsF k g (t2 :: r2)).map fun p => (⟨nm, [], [], p.1⟩, p.2)
    else none
def FnRet (w : World) (pb tb : Nat) (f : LF) (us : List Tok) (e : Ending) (w' : World) : Prop := ∃ bv, e = .returned (.agg #[S f.name, .slice none 0 0, .slice none 0 0, bv]) ∧ SX (w.heap.size ≤ ·) w' bv f.body ∧ PG w pb tb us w' ∧ f.params = [] ∧ f.locals = []

set_option maxRecDepth 100000 in
set_option maxHeartbeats 4000000 in
theorem function_yes (k g pb tb : Nat) (nm : Str) (ts us : List Tok) (f : LF) (w : World) (h : PS w pb tb ts) (he : Ended ts) (hg : g ≤ 100000) (hx : fnF k g nm ts = some (f, us)) :
    Calls Tryz.prog 76 #[.pointer (some ⟨pb, 0, none⟩), S nm] w fun e w' => FnRet w pb tb f us e w' ∧ Ended us := by
  obtain ⟨t, r, rfl⟩ := he.cons
  have hpl := h.lt
  have htl := h.tlt
  rw [fnF] at hx
  cases htk : tokIs t [41]
  case false => rw [htk] at hx; simp at hx
  rw [htk] at hx
  simp only [if_true] at hx
  obtain ⟨hrne, hre⟩ := he.tail (tokIs_kind htk)
  cases hwt : wantF [[123]] r with
  | none => rw [hwt] at hx; cases hx
  | some rr =>
    cases rr with
    | nil => rw [hwt] at hx; cases hx
    | cons t2 r2 =>
      rw [hwt] at hx
      simp only [] at hx
      obtain ⟨hn2, he2⟩ := hre.want hwt
      cases hin : tokIs t2 wInt
      case true => rw [hin] at hx; simp at hx
      rw [hin] at hx
      simp only [Bool.false_eq_true, if_false] at hx
      obtain ⟨⟨l, us2⟩, hst, hx2⟩ := Option.map_eq_some_iff.1 hx
      clear hx
      simp only [Prod.mk.injEq] at hx2
      obtain ⟨rfl, rfl⟩ := hx2
      have HCO := Lib.hid (fun W fv (hh : PS W pb tb (t :: r)) => commas_none pb tb t r fv W hh htk hrne)
      have HWA := Lib.hid (fun W sb (hh : PS W pb tb r) (hs : Row W sb 9 ([[123]].map S)) => want_yes pb tb sb 1 1 [[123]] r (t2 :: r2) W hh hs rfl hwt hn2 (by simp))
      have HTK := Lib.hid (fun W (hh : PS W pb tb (t2 :: r2)) => take_no pb tb t2 r2 wInt W hh hin)
      have HST := Lib.hid (fun W (hh : PS W pb tb (t2 :: r2)) => stmts_yes k pb tb g (t2 :: r2) us2 l W hh he2 hg hst)
      have HP0 := Lib.hid h
      obtain ⟨n, hn⟩ : ∃ n, n = w.heap.size := ⟨_, rfl⟩
      clear h he htk hrne hre hwt hn2 he2 hin hst hg
      go_enter Tryz.func76, Tryz.ntmps76
      go_upto_region 2 with (first
        | (refine store_first 52 (.tmp 5) (.tmp 7) rfl ?_; refine wpList_store_row rfl 52 (.tmp 5) (.tmp 7) rfl (w.heap.size + 1 + 1) _ rfl rfl 52 fZ (heap_at (by simp)) (by kernel_rfl) (by rfl) (by simp [Value.oneCell']) ?_))
      obtain ⟨w3, hw3⟩ : ∃ w3, w3 = ((((w.alloc (.cells #[.pointer (some ⟨pb, 0, none⟩)] 89)).alloc (.cells fZ 52)).alloc (.cells fZ 52)).setRow (w.heap.size + 1 + 1) #[S nm, .slice none 0 0, .slice none 0 0, .slice none 0 0]) := ⟨_, rfl⟩
      have hr3 : Row w3 w.heap.size 89 [.pointer (some ⟨pb, 0, none⟩)] := by
        rw [hw3]; exact (setRow_other _ _ _ _ (by omega)).trans (heap_old _ _ (heap_old _ _ (heap_new _ _)))
      have hk3 : Row w3 (w.heap.size + 1) 52 [.string ⟨#[]⟩, .slice none 0 0, .slice none 0 0, .slice none 0 0] := by
        rw [hw3]; exact (setRow_other _ _ _ _ (by omega)).trans (heap_old _ _ (heap_at (by simp)))
      have hf3 : Row w3 (w.heap.size + 1 + 1) 52 [S nm, .slice none 0 0, .slice none 0 0, .slice none 0 0] := by
        rw [hw3]; exact setRow_heap _ _ _ _ _ _ (heap_at (by simp))
      have hp3 : PG w pb tb (t :: r) w3 := by
        rw [hw3]; exact (PG.start HP0.out (((below_a1 w _).alloc (by simp) _).alloc (by simp; omega) _)).new (by omega) setRow_grown htl hpl
      have hz3 := hp3.1.size
      have hl3 := hf3.lt
      have c0 := hr3.cell 0
      simp only [List.getElem?_cons_zero] at c0
      rw [← hw3]
      have HR3 := Lib.hid hr3
      have HK3 := Lib.hid hk3
      have HF3 := Lib.hid hf3
      have HP3 := Lib.hid hp3
      clear hw3 hr3 hk3 hf3 hp3
      go_upto_region 3 with (first
        | (go_at_call 113; refine (HCO.out w3 _ HP3.out.2).mono ?_; rintro e' w4 ⟨⟨v4, rfl⟩, hp4⟩; have HP4 := Lib.hid (HP3.out.trans hp4); have hr4 := hp4.row HR3.out (by omega); have HR4 := Lib.hid hr4; have HK4 := Lib.hid (hp4.row HK3.out (by omega)); have HF4 := Lib.hid (hp4.row HF3.out (by omega)); clear hp4 c0; have c0 := hr4.cell 0; simp only [List.getElem?_cons_zero] at c0; clear hr4))
      have hz4 := HP4.out.1.size
      go_upto_region 4 with (first
        | (go_at_call 72; refine (HWA.out _ w4.heap.size (HP4.out.2.ext (below_a1 _ _)) (heap_new _ _)).mono ?_; rintro e' w5 ⟨⟨v5, rfl⟩, hp5⟩; have HP5 := Lib.hid ((HP4.out.below (below_a1 _ _)).trans hp5); have hr5 := hp5.row (heap_old _ _ HR4.out) (by omega); have HR5 := Lib.hid hr5; have HK5 := Lib.hid (hp5.row (heap_old _ _ HK4.out) (by omega)); have HF5 := Lib.hid (hp5.row (heap_old _ _ HF4.out) (by omega)); clear hp5 c0; have c0 := hr5.cell 0; simp only [List.getElem?_cons_zero] at c0; clear hr5))
      go_loopg [] 0 (fun gh wr => wr = w5)
      case atStart => rfl
      case round =>
        obtain rfl := hrel
        obtain ⟨wo, rfl⟩ : ∃ wo, wo = wr := ⟨_, rfl⟩
        have hz5 := HP5.out.1.size
        go_upto_region 7 with (first
          | (go_at_call 74; refine (HTK.out wo HP5.out.2).mono ?_; rintro e' w6 ⟨rfl, hb6⟩; have HP6 := Lib.hid (HP5.out.below hb6); have hr6 := HR5.out.ext hb6; have HR6 := Lib.hid hr6; have HK6 := Lib.hid (HK5.out.ext hb6); have HF6 := Lib.hid (HF5.out.ext hb6); clear hb6 c0; have c0 := hr6.cell 0; simp only [List.getElem?_cons_zero] at c0; clear hr6))
        have hz6 := HP6.out.1.size
        have hl6 := HF6.out.lt
        go_upto_region 8 with (first
          | (go_at_call 115; refine (HST.out w6 HP6.out.2).mono ?_; rintro e' w7 ⟨⟨bv, rfl, hb⟩, hp7, hen⟩; obtain ⟨ba, bc, rfl⟩ := hb.slice; have HB7 := Lib.hid (hb.weak (B' := (w.heap.size + 3 ≤ ·)) (fun b hb => by omega)); have HEN := Lib.hid hen; have HP7 := Lib.hid (HP6.out.trans hp7); have HK7 := Lib.hid (hp7.row HK6.out (by omega)); have hf7 := hp7.row HF6.out (by omega); have HF7 := Lib.hid hf7; clear hp7 c0 hb hen; have c3 := hf7.cell 3; have f3 := hf7.frozen 3; simp only [List.getElem?_cons_zero, List.getElem?_cons_succ] at c3; clear hf7))
        obtain ⟨w8, hw8⟩ : ∃ w8, w8 = w7.setCell ⟨w.heap.size + 1 + 1, 3, none⟩ (.slice ba l.length bc) := ⟨_, rfl⟩
        have hg8 : w7.grownBy w8 (some (w.heap.size + 1 + 1)) := by rw [hw8]; exact setCell_grown _ _ _ _
        have hf8 : Row w8 (w.heap.size + 1 + 1) 52 [S nm, .slice none 0 0, .slice none 0 0, .slice ba l.length bc] := by rw [hw8]; exact HF7.out.set 3 _
        have HK8 := Lib.hid (HK7.out.kept hg8 (by simp))
        have HP8 := Lib.hid (HP7.out.new (by omega) hg8 htl hpl)
        have HB8 := Lib.hid (HB7.out.grown hg8 (fun r e => by cases e; omega))
        have d0 := hf8.cell 0
        have d1 := hf8.cell 1
        have d2 := hf8.cell 2
        have d3 := hf8.cell 3
        simp only [List.getElem?_cons_succ, List.getElem?_cons_zero] at d0 d1 d2 d3
        rw [← hw8]
        clear hw8 hg8 hf8 c3 f3
        go_wp2_with (first
          | (refine store_first 52 (.tmp 4) (.tmp 29) rfl ?_; refine wpList_store_row rfl 52 (.tmp 4) (.tmp 29) rfl (w.heap.size + 1) _ rfl rfl 52 fZ HK8.out (by kernel_rfl) (by rfl) (by simp [Value.oneCell']) ?_))
        refine bodyPost_ret (results_cell_row rfl _ _ (w.heap.size + 1) 52 _ (0, 0) _ rfl (setRow_heap _ _ _ _ _ _ HK8.out) Tryz.underlying52 rfl (by kernel_rfl)) rfl ?_
        exact ⟨⟨_, rfl, (HB8.out.grown setRow_grown (fun r e => by cases e; omega)).weak fun b hb => by omega, HP8.out.new (by omega) setRow_grown htl hpl, rfl, rfl⟩, HEN.out⟩
end Go.Proofs.YtjgbkdbkachciaaGreatDoor
