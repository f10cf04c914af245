import Derived.Test.YtjgbkdbkachciaaGreatDoorT4
namespace Go.Proofs.YtjgbkdbkachciaaGreatDoor
open Go.RowKit Go.Shelf
attribute [local go_sem] Oper.semAt_some

/-- what of a program is there already -/
structure PgV (W0 : World) (pb tb : Nat) (ts : List Tok) (rs : List LA) (fs : List FG) (av fv : Value) (W : World) : Prop where
  pg : PG W0 pb tb ts W
  en : Ended ts
  r : Row W W0.heap.size 27 [av, fv]
  oa : OwnS 2 68 a2Enc W (W0.heap.size + 1) av rs
  of : FsI W (W0.heap.size + 1) fv fs
  dj : ∀ b, av.ownBlock = some b → fv.ownBlock ≠ some b
  nf : fs = [] → fv = .slice none 0 0
section
variable {W0 W W' : World} {pb tb : Nat} {ts us : List Tok} {rs : List LA} {fs : List FG} {av fv : Value}
theorem PgV.grown0 (hp : pb < W0.heap.size) (ht : tb < W0.heap.size) (h : PgV W0 pb tb ts rs fs av fv W) (hg : W.grownBy W' none) : PgV W0 pb tb ts rs fs av fv W' :=
  ⟨h.pg.own hg (fun r e => by cases e) ht hp, h.en, h.r.kept hg (by simp), ownsRow_kept' h.oa hg (no_row _), h.of.grown hg (fun r e => by cases e), h.dj, h.nf⟩
theorem PgV.below (h : PgV W0 pb tb ts rs fs av fv W) (hb : Below W.heap.size W W') : PgV W0 pb tb ts rs fs av fv W' := by
  have hg := below_grown hb none
  exact ⟨h.pg.below hb, h.en, h.r.ext hb, ownsRow_kept' h.oa hg (no_row _), h.of.grown hg (fun r e => by cases e), h.dj, h.nf⟩
theorem PgV.take (hp : pb < W0.heap.size) (h : PgV W0 pb tb ts rs fs av fv W) (hg : PG W pb tb us W') (he : Ended us) : PgV W0 pb tb us rs fs av fv W' := by
  refine ⟨h.pg.trans hg, he, hg.row h.r (by omega), ownsRow_kept' h.oa hg.1 ?_, h.of.grown hg.1 (fun r e => by cases e; omega), h.dj, h.nf⟩
  right; intro e
  have := (ownsRow_base h.oa pb e).1
  omega
/-- an array more -/
theorem PgV.pushA {w4 w5 : World} {n g cap : Nat} {x : LA} (hp : pb < W0.heap.size) (ht : tb < W0.heap.size) (h : PgV W0 pb tb ts rs [] av fv W)
    (ho : W.grownBy w4 none) (h5 : OwnS 2 68 a2Enc w5 (W0.heap.size + 1) (.slice (some ⟨g, 0, none⟩) n cap) (rs ++ [x])) (hg5 : w4.grownBy w5 av.ownBlock) :
    PgV W0 pb tb ts (rs ++ [x]) [] (.slice (some ⟨g, 0, none⟩) n cap) fv (w5.setCell ⟨W0.heap.size, 0, none⟩ (.slice (some ⟨g, 0, none⟩) n cap)) := by
  have hfv := h.nf rfl
  subst hfv
  have hpo : ∀ b, av.ownBlock = some b → W0.heap.size + 1 ≤ b := fun b e => (ownsRow_base h.oa b e).1
  have hgs := setCell_grown w5 W0.heap.size 0 (.slice (some ⟨g, 0, none⟩) n cap)
  have hr' := (h.r.kept ho (by simp)).kept hg5 (fun e => by have := hpo _ e.symm; omega)
  have hb5 := (ownsRow_base h5 g rfl).1
  have hpg' : PG W0 pb tb ts (w5.setCell ⟨W0.heap.size, 0, none⟩ (.slice (some ⟨g, 0, none⟩) n cap)) := ((h.pg.own ho (fun r e => by cases e) ht hp).own hg5 (fun r e => by have := hpo _ e; omega) ht hp).own hgs (fun r e => by cases e; omega) ht hp
  exact ⟨hpg', h.en, hr'.set 0 _, ownsRow_kept' h5 hgs (.inr fun e => by have : g = W0.heap.size := Option.some.inj e; omega), FsI.nil _ _, (fun b _ e => by cases e), fun _ => rfl⟩
/-- a function more -/
theorem PgV.pushF {w2 w5 : World} {n g cap : Nat} {y : FG} {o : Obj} (hp : pb < W0.heap.size) (ht : tb < W0.heap.size) (h : PgV W0 pb tb ts rs fs av fv W)
    (hg2 : PG W pb tb us w2) (hen : Ended us) (hx : PartG (W.heap.size ≤ ·) w2 y.pv y.lv y.bv y.f) (h5 : OwnS 4 52 fgEnc w5 (W0.heap.size + 1) (.slice (some ⟨g, 0, none⟩) n cap) (fs ++ [y])) (hg5 : (w2.alloc o).grownBy w5 fv.ownBlock) (hat : fv.ownBlock = some g ∨ g = (w2.alloc o).heap.size) :
    PgV W0 pb tb us rs (fs ++ [y]) av (.slice (some ⟨g, 0, none⟩) n cap) (w5.setCell ⟨W0.heap.size, 1, none⟩ (.slice (some ⟨g, 0, none⟩) n cap)) := by
  have h2 := h.take hp hg2 hen
  have h4 := h2.grown0 hp ht (alloc_grown w2 o none)
  have hz : (w2.alloc o).heap.size = w2.heap.size + 1 := by simp
  have hpo : ∀ b, fv.ownBlock = some b → W0.heap.size + 1 ≤ b := fun b e => (ownsRow_base h.of.1 b e).1
  have hgs := setCell_grown w5 W0.heap.size 1 (.slice (some ⟨g, 0, none⟩) n cap)
  have hr' := h4.r.kept hg5 (fun e => by have := hpo _ e.symm; omega)
  have hb5 := (ownsRow_base h5 g rfl).1
  have hpg' : PG W0 pb tb us (w5.setCell ⟨W0.heap.size, 1, none⟩ (.slice (some ⟨g, 0, none⟩) n cap)) := (h4.pg.own hg5 (fun r e => by have := hpo _ e; omega) ht hp).own hgs (fun r e => by cases e; omega) ht hp
  have hl := h.r.lt
  refine ⟨hpg', hen, hr'.set 1 _, ownsRow_kept' (ownsRow_kept' h4.oa hg5 ?_) hgs ?_, (h.of.app hg2.1 (fun r e => by cases e; omega) hx (by omega) h5 hg5 rfl hat).grown hgs (fun r e => by cases e; omega), fun b hb e => ?_, fun e => by simp at e⟩
  · cases hl : av.ownBlock with
    | none => exact .inl rfl
    | some b => exact .inr fun e => h.dj b hl e.symm
  · cases hl : av.ownBlock with
    | none => exact .inl rfl
    | some b => exact .inr fun e => by have := (ownsRow_base h.oa b hl).1; have : b = W0.heap.size := Option.some.inj e; omega
  · obtain rfl : g = b := Option.some.inj e
    rcases hat with h' | h'
    · exact h.dj g hb h'
    · have := (ownsRow_base h2.oa g hb).2; omega
end
end Go.Proofs.YtjgbkdbkachciaaGreatDoor

namespace Go.Proofs.YtjgbkdbkachciaaGreatDoor
open Go.RowKit Go.Shelf
attribute [local go_sem] Oper.semAt_some

/-- int, and a name -/
def hdF (ts : List Tok) : Option (Tok × List Tok) := match wantF [wInt] ts with
  | some (t :: u :: r) => if t.kind = 1 then some (t, u :: r) else none
  | _ => none
theorem hdF_some {ts r : List Tok} {t : Tok} (h : hdF ts = some (t, r)) : wantF [wInt] ts = some (t :: r) ∧ t.kind = 1 := by
  unfold hdF at h
  split at h
  · next t0 u r0 hw =>
    split at h
    · next hk =>
      simp only [Option.some.injEq, Prod.mk.injEq] at h
      obtain ⟨rfl, rfl⟩ := h
      exact ⟨hw, hk⟩
    · cases h
  · cases h
/-- an array's size, and its end -/
def arF : List Tok → Option (Int × List Tok × List Tok)
  | [] => none
  | t :: r => if t.kind = 3 then (wantF [[93], [59]] r).map fun us => (t.n, r, us) else none
theorem arF_some {ts r us : List Tok} {n : Int} (h : arF ts = some (n, r, us)) : ∃ t, ts = t :: r ∧ t.kind = 3 ∧ t.n = n ∧ wantF [[93], [59]] r = some us := by
  cases ts with
  | nil => cases h
  | cons t0 r0 =>
    rw [arF] at h
    split at h
    · next hk =>
      obtain ⟨us', h1, h2⟩ := Option.map_eq_some_iff.1 h
      simp only [Prod.mk.injEq] at h2
      obtain ⟨rfl, rfl, rfl⟩ := h2
      exact ⟨t0, rfl, hk, rfl, h1⟩
    · cases h
/-- a program; as long as no function came, arrays may -/
def pgF (k g : Nat) : Nat → Bool → List Tok → Option (LP × List Tok)
  | 0, _, _ => none
  | _ + 1, _, [] => none
  | n + 1, fst, t :: r => if t.kind = 5 then some (⟨[], []⟩, t :: r) else match hdF (t :: r) with
    | none => none
    | some (_, []) => none
    | some (t2, t3 :: r3) => if (fst && tokIs t3 [91]) = true then match arF r3 with
        | none => none
        | some (x, _, us) => (pgF k g n true us).map fun p => (⟨⟨t2.text, x⟩ :: p.1.arrays, p.1.funcs⟩, p.2)
      else match wantF [[40]] (t3 :: r3) with
        | none => none
        | some us => match fnF k g t2.text us with
          | none => none
          | some (f, vs) => (pgF k g n false vs).map fun p => (⟨p.1.arrays, f :: p.1.funcs⟩, p.2)
theorem pgF_arrays {k g : Nat} : ∀ {n : Nat} {ts us : List Tok} {p : LP}, pgF k g n false ts = some (p, us) → p.arrays = []
  | 0, _, _, _, h => by rw [pgF] at h; cases h
  | n + 1, [], _, _, h => by rw [pgF] at h; cases h
  | n + 1, t :: r, us, p, h => by
    rw [pgF] at h
    split at h
    · simp only [Option.some.injEq, Prod.mk.injEq] at h
      rw [← h.1]
    · split at h
      · cases h
      · cases h
      · simp only [Bool.false_and, Bool.false_eq_true, if_false] at h
        split at h
        · cases h
        · split at h
          · cases h
          · obtain ⟨⟨q, us'⟩, h1, h2⟩ := Option.map_eq_some_iff.1 h
            simp only [Prod.mk.injEq] at h2
            rw [← h2.1]
            show q.arrays = []
            exact pgF_arrays h1
abbrev pZ : Array Value := #[.slice none 0 0, .slice none 0 0]

set_option maxRecDepth 100000 in
set_option maxHeartbeats 4000000 in
theorem prog_yes (k g n pb tb : Nat) (ts us : List Tok) (p : LP) (w : World) (h : PS w pb tb ts) (he : Ended ts) (hg : g ≤ 100000) (hn : n ≤ 100000) (hx : pgF k g n true ts = some (p, us)) :
    Calls Tryz.prog 42 #[.pointer (some ⟨pb, 0, none⟩)] w fun e w' => ∃ av fv, e = .returned (.agg #[av, fv]) ∧ PX (w.heap.size ≤ ·) w' av fv p ∧ PG w pb tb us w' ∧ ∃ t r, us = t :: r ∧ t.kind = 5 := by
  have hpl := h.lt
  have htl : tb < w.heap.size := by
    obtain ⟨t, r, rfl⟩ := he.cons
    exact h.tlt
  have hfd := tok_f0
  have hfd2 := tok_f2
  obtain ⟨w1, hw1'⟩ : ∃ w1, w1 = w.alloc (.cells pZ 27) := ⟨_, rfl⟩
  have hwe : w.alloc (.cells pZ 27) = w1 := hw1'.symm
  have hb1 : Below w.heap.size w w1 := by rw [hw1']; exact below_a1 _ _
  have HV1 := Lib.hid (show PgV w pb tb ts [] [] (.slice none 0 0) (.slice none 0 0) w1 from ⟨PG.start h hb1, he, by rw [hw1']; exact heap_new _ _, OwnS.nil, FsI.nil _ _, (fun b e => by cases e), fun _ => rfl⟩)
  have HX := Lib.hid hx
  clear h he hw1' hb1 hx
  go_enter Tryz.func42, Tryz.ntmps42
  go_wp2
  go_loopg [3] n (fun gh v3 wr => Hid (∃ (ts' : List Tok) (rs : List LA) (fs : List FG) (av fv : Value) (q : LP), gh + rs.length ≤ 100000 ∧ gh + fs.length ≤ 100000 ∧ PgV w pb tb ts' rs fs av fv wr ∧ pgF k g gh (decide (fs = [])) ts' = some (q, us) ∧ p = ⟨rs ++ q.arrays, fs.map FG.f ++ q.funcs⟩))
  case atStart => exact Lib.hid ⟨ts, [], [], _, _, p, by simpa using hn, by simpa using hn, HV1.out, by simpa using HX.out, by simp⟩
  case round =>
    obtain ⟨ts', rs, fs, av, fv, q, hln1, hln2, hv, hx, hp⟩ := hrel.out
    obtain ⟨wo, rfl⟩ : ∃ wo, wo = wr := ⟨_, rfl⟩
    clear hwe
    obtain ⟨t, r, rfl⟩ := hv.en.cons
    obtain ⟨n1, rfl⟩ : ∃ n1, gk = n1 + 1 := by
      cases gk with
      | zero => rw [pgF] at hx; cases hx
      | succ n1 => exact ⟨n1, rfl⟩
    rw [pgF] at hx
    have HP := Lib.hid hp
    have HV := Lib.hid hv
    have HNX := Lib.hid (fun W (hh : PS W pb tb (t :: r)) => next_yes pb tb t r W hh)
    by_cases h5 : t.kind = 5
    · rw [if_pos h5] at hx
      simp only [Option.some.injEq, Prod.mk.injEq] at hx
      obtain ⟨rfl, rfl⟩ := hx
      have h5n : (t.kind != 5) = false := by rw [h5]; rfl
      have H5 := Lib.hid h5
      have hrn : rs.length ≤ 1000000000 := by omega
      have hfn : fs.length ≤ 1000000000 := by omega
      clear hp hv h5 hrel
      go_wp2_with (first
        | (go_at_call 70; refine (HNX.out wo HV.out.pg.2).mono ?_; rintro e' w2 ⟨rfl, hb2⟩; have HV2 := Lib.hid (HV.out.below hb2); clear hb2))
      refine bodyPost_ret (results_cell_row rfl _ _ w.heap.size 27 _ (0, 0) _ rfl HV2.out.r Tryz.underlying27 rfl (by kernel_rfl)) rfl ?_
      refine ⟨_, _, rfl, ?_, HV2.out.pg, t, r, rfl, H5.out⟩
      rw [HP.out]
      simp only [List.append_nil]
      exact PX.weak (B := (w.heap.size + 1 ≤ ·)) (fun b hb => by omega) ⟨HV2.out.oa.arrs hrn, HV2.out.of.read hfn⟩
    · rw [if_neg h5] at hx
      have h5n : (t.kind != 5) = true := by rw [bne_iff_ne]; exact h5
      clear h5
      split at hx
      · cases hx
      · cases hx
      next t2 t3 r3 hhd =>
      obtain ⟨hw1, ht1⟩ := hdF_some hhd
      obtain ⟨hn1, he1⟩ := hv.en.want hw1
      obtain ⟨hn3, he3⟩ := he1.tail (by omega)
      have HWI := Lib.hid (fun W sb (hh : PS W pb tb (t :: r)) (hs : Row W sb 9 ([wInt].map S)) => want_yes pb tb sb 1 1 [wInt] (t :: r) (t2 :: t3 :: r3) W hh hs rfl hw1 hn1 (by simp))
      have HNM := Lib.hid (fun W (hh : PS W pb tb (t2 :: t3 :: r3)) => pname_yes pb tb t2 (t3 :: r3) W hh hn3 ht1)
      have HE1 := Lib.hid he1
      have HE3 := Lib.hid he3
      split at hx
      · next hfst =>
        simp only [Bool.and_eq_true, decide_eq_true_eq] at hfst
        obtain ⟨rfl, h91⟩ := hfst
        cases har : arF r3 with
        | none => rw [har] at hx; cases hx
        | some q2 =>
        obtain ⟨x, r5, us2⟩ := q2
        rw [har] at hx
        simp only [] at hx
        obtain ⟨⟨q3, us3⟩, hrec, hx3⟩ := Option.map_eq_some_iff.1 hx
        clear hx
        simp only [Prod.mk.injEq] at hx3
        obtain ⟨rfl, rfl⟩ := hx3
        obtain ⟨t4, rfl, hk4, rfl, hw4⟩ := arF_some har
        obtain ⟨hn4, he4⟩ := he3.tail (tokIs_kind h91)
        obtain ⟨hn5, he5⟩ := he4.tail (by omega)
        obtain ⟨hn6, he6⟩ := he5.want hw4
        have hkd := fun W (hh : PS W pb tb (t4 :: r5)) => kind_yes pb tb t4 r5 W hh hn5
        rw [hk4] at hkd
        have HKD := Lib.hid hkd
        have HBR := Lib.hid (fun W (hh : PS W pb tb (t3 :: t4 :: r5)) => take_yes pb tb t3 (t4 :: r5) [91] W hh h91 hn4)
        have HWE := Lib.hid (fun W sb (hh : PS W pb tb r5) (hs : Row W sb 9 ([[93], [59]].map S)) => want_yes pb tb sb 2 2 [[93], [59]] r5 us2 W hh hs rfl hw4 hn6 (by simp))
        have HE4 := Lib.hid he4
        have HE5 := Lib.hid he5
        have HE6 := Lib.hid he6
        have HREC := Lib.hid hrec
        have hfv := hv.nf rfl
        subst hfv
        obtain ⟨aa, ac, rfl⟩ := hv.oa.slice
        obtain ⟨AN, hAN⟩ : ∃ n, n = rs.length := ⟨_, rfl⟩
        rw [← hAN] at HV hln1
        have HAN := Lib.hid hAN
        have hms : n1 < n1 + 1 := by omega
        clear hp hv hrel hhd hw1 ht1 hn1 he1 hn3 he3 h91 har hk4 hw4 hn4 he4 hn5 he5 hn6 he6 hkd hrec hAN
        go_upto_region 2 with (first
          | (go_at_call 70; refine (HNX.out wo HV.out.pg.2).mono ?_; rintro e' w2 ⟨rfl, hb2⟩; have HV2 := Lib.hid (HV.out.below hb2); clear hb2))
        go_upto_region 4 with (first
          | (go_at_call 72; refine (HWI.out _ w2.heap.size (HV2.out.pg.2.ext (below_a1 _ _)) (heap_new _ _)).mono ?_; rintro e' w3 ⟨⟨v3, rfl⟩, hp3⟩; have HV3 := Lib.hid ((HV2.out.below (below_a1 _ _)).take hpl hp3 HE1.out); clear hp3)
          | (go_at_call 73; refine (HNM.out w3 HV3.out.pg.2).mono ?_; rintro e' w4 ⟨rfl, hp4⟩; have HV4 := Lib.hid (HV3.out.take hpl hp4 HE3.out); have c1 := HV4.out.r.cell 1; simp only [List.getElem?_cons_zero, List.getElem?_cons_succ] at c1; clear hp4))
        go_upto_region 5 with (first
          | (go_at_call 74; refine (HBR.out w4 HV4.out.pg.2).mono ?_; rintro e' w5 ⟨rfl, hp5⟩; have HV5 := Lib.hid (HV4.out.take hpl hp5 HE4.out); clear hp5 c1))
        refine wp_region_ordW (by kernel_rfl) (fun X => X.cell? ⟨w.heap.size, 0, none⟩ = some (.slice aa AN ac)) [(0, 0), (0, 1), (0, 2), (0, 3), (1, 4), (0, 5), (0, 6), (1, 7), (1, 8), (0, 9), (2, 10)] (by kernel_rfl) ?hS ?_
        case hS => intro wd hh; exact row_at HV5.out.r hh 0
        intro wd hh hgd hS
        have HVD := Lib.hid (HV5.out.grown0 hpl htl hgd)
        clear hh hgd
        simp only [pickOps, List.map_cons, List.map_nil, List.getElem?_cons_zero, List.getElem?_cons_succ, Option.getD_some]
        repeat (refine wpOrd_look (v := ?_) (by rfl) ?_ (by assumption) (fun _ _ _ h => h) ?_; rotate_left; (· (intro wS hSw; (try dsimp only at hSw); go_simp; (first | done | with_reducible rfl))); simp only [Act.put, List.setIfInBounds_toArray, List.set_cons_zero, List.set_cons_succ])
        refine wpOrd_turn ?_
        go_wp2_with (first
          | (go_at_call 75; refine (HKD.out wd HVD.out.pg.2).mono ?_; rintro e' w6 ⟨rfl, hp6⟩; have HV6 := Lib.hid (HVD.out.take hpl hp6 HE5.out); clear hp6))
        clear hS
        refine QN_keep (HV6.out.r.cell 0) fun hS => ?_
        repeat (refine wpOrd_look (v := ?_) (by rfl) ?_ (by assumption) (fun _ _ _ h => h) ?_; rotate_left; (· (intro wS hSw; (try dsimp only at hSw); go_simp; (first | done | with_reducible rfl))); simp only [Act.put, List.setIfInBounds_toArray, List.set_cons_zero, List.set_cons_succ])
        refine wpOrd_turn ?_
        clear hS
        go_wp2
        obtain ⟨w7, hw7⟩ : ∃ w3, w3 = w6.alloc (.cells #[S t2.text, I t4.n] 68) := ⟨_, rfl⟩
        obtain ⟨gz, hgz⟩ : ∃ g, g = w6.heap.size := ⟨_, rfl⟩
        have HGZ := Lib.hid (show Row w7 gz 68 [S t2.text, I t4.n] by rw [hw7, hgz]; exact heap_new _ _)
        have HG7 := Lib.hid (show w6.grownBy w7 none by rw [hw7]; exact alloc_grown _ _ none)
        have HV7 := Lib.hid (show PgV _ _ _ _ _ _ _ _ w7 from HV6.out.grown0 hpl htl HG7.out)
        have hbz : w.heap.size + 1 ≤ w7.heap.size := by have := HV7.out.r.lt; omega
        change QN _ _ _ _ (w6.alloc (.cells #[S t2.text, I t4.n] 68))
        rw [← hw7, ← hgz]
        clear hw7 hgz
        refine QN_keep (HV7.out.r.cell 0) fun hS => ?_
        refine wpOrd_turn ?_
        clear hS
        go_wp2_with (first
          | (at_builtin; refine wpList_appS slArr rfl _ _ rfl a2Enc_len a2Enc_one (w.heap.size + 1) (.slice aa AN ac) rs rfl HV7.out.oa gz ⟨t2.text, t4.n⟩ rfl (fun j _ => HGZ.out.cell j) (by have := HAN.out; omega) (by decide) hbz ?_; intro g' cap w8 ho8 hg8 hat8 hlt8; rw [← HAN.out] at ho8 ⊢; have HO8 := Lib.hid ho8; have HG8 := Lib.hid hg8; clear ho8 hg8 hat8 hlt8))
        have hpo : ∀ b, (Value.slice aa AN ac).ownBlock = some b → w.heap.size + 1 ≤ b := fun b e => (ownsRow_base HV7.out.oa b e).1
        have HR8 := Lib.hid (HV7.out.r.kept HG8.out (fun e => by have := hpo _ e.symm; omega))
        refine QN_keep (HR8.out.cell 0) fun hS => ?_
        clear hpo
        repeat (refine wpOrd_look (v := ?_) (by rfl) ?_ (by assumption) (fun _ _ _ h => h) ?_; rotate_left; (· (intro wS hSw; (try dsimp only at hSw); go_simp; (first | done | with_reducible rfl))); simp only [Act.put, List.setIfInBounds_toArray, List.set_cons_zero, List.set_cons_succ])
        refine wpOrd_last ?_
        have f1 := HR8.out.frozen 0
        have c1 := HR8.out.cell 0
        simp only [List.getElem?_cons_zero] at c1
        clear hS
        go_wp2
        refine QN_normal (wpOrd_nil ?_)
        have hf9 := HV6.out.pushA hpl htl HG7.out HO8.out HG8.out
        obtain ⟨w9, hw9⟩ : ∃ w9, w9 = w8.setCell ⟨w.heap.size, 0, none⟩ (.slice (some ⟨g', 0, none⟩) (AN + 1) cap) := ⟨_, rfl⟩
        rw [← hw9] at hf9 ⊢
        have HV9 := Lib.hid hf9
        clear hf9 hw9 f1 c1
        go_wp2_with (first
          | (go_at_call 72; refine (HWE.out _ w9.heap.size (HV9.out.pg.2.ext (below_a1 _ _)) (heap_new _ _)).mono ?_; rintro e' wA ⟨⟨vA, rfl⟩, hpA⟩; have HVA := Lib.hid ((HV9.out.below (below_a1 _ _)).take hpl hpA HE6.out); clear hpA))
        go_roundg n1
        case measure => exact hms
        case rel => exact Lib.hid ⟨us2, rs ++ [⟨t2.text, t4.n⟩], [], _, _, q3, by have := HAN.out; rw [List.length_append]; simp only [List.length_cons, List.length_nil]; omega, by simp only [List.length_nil] at hln2 ⊢; omega, HVA.out, by simpa using HREC.out, by rw [HP.out]; simp⟩
      · next hfst =>
        cases hw4 : wantF [[40]] (t3 :: r3) with
        | none => rw [hw4] at hx; cases hx
        | some us1 =>
        rw [hw4] at hx
        simp only [] at hx
        cases hf : fnF k g t2.text us1 with
        | none => rw [hf] at hx; cases hx
        | some q2 =>
        obtain ⟨f, vs⟩ := q2
        rw [hf] at hx
        simp only [] at hx
        obtain ⟨⟨q3, us3⟩, hrec, hx3⟩ := Option.map_eq_some_iff.1 hx
        clear hx
        simp only [Prod.mk.injEq] at hx3
        obtain ⟨rfl, rfl⟩ := hx3
        obtain ⟨hn4, he4⟩ := he3.want hw4
        have HBR := Lib.hid (fun (hh : tokIs t3 [91] = false) W (hh' : PS W pb tb (t3 :: r3)) => take_no pb tb t3 r3 [91] W hh' hh)
        have HWP := Lib.hid (fun W sb (hh : PS W pb tb (t3 :: r3)) (hs : Row W sb 9 ([[40]].map S)) => want_yes pb tb sb 1 1 [[40]] (t3 :: r3) us1 W hh hs rfl hw4 hn4 (by simp))
        have HFN := Lib.hid (fun W (hh : PS W pb tb us1) => function_yes k g pb tb t2.text us1 vs f W hh he4 hg hf)
        have HE4 := Lib.hid he4
        have HREC := Lib.hid hrec
        obtain ⟨aa, ac, rfl⟩ := hv.oa.slice
        obtain ⟨fa, fc, rfl⟩ := hv.of.1.slice
        obtain ⟨FN, hFN⟩ : ∃ n, n = fs.length := ⟨_, rfl⟩
        rw [← hFN] at HV hln2
        have HFL := Lib.hid hFN
        have hms : n1 < n1 + 1 := by omega
        have HFS := Lib.hid hfst
        clear hp hv hrel hhd hw1 ht1 hn1 he1 hn3 he3 hw4 hf hrec hfst
        by_cases hfe : fs = []
        · have hb : tokIs t3 [91] = false := by
            have := HFS.out
            rw [hfe] at this
            simpa using this
          have HBR2 := Lib.hid (HBR.out hb)
          obtain rfl : FN = 0 := by rw [hFN, hfe]; rfl
          clear hb HBR HFS hFN
          go_upto_region 2 with (first
            | (go_at_call 70; refine (HNX.out wo HV.out.pg.2).mono ?_; rintro e' w2 ⟨rfl, hb2⟩; have HV2 := Lib.hid (HV.out.below hb2); clear hb2))
          go_upto_region 4 with (first
            | (go_at_call 72; refine (HWI.out _ w2.heap.size (HV2.out.pg.2.ext (below_a1 _ _)) (heap_new _ _)).mono ?_; rintro e' w3 ⟨⟨v3, rfl⟩, hp3⟩; have HV3 := Lib.hid ((HV2.out.below (below_a1 _ _)).take hpl hp3 HE1.out); clear hp3)
            | (go_at_call 73; refine (HNM.out w3 HV3.out.pg.2).mono ?_; rintro e' w4 ⟨rfl, hp4⟩; have HV4 := Lib.hid (HV3.out.take hpl hp4 HE3.out); have c1 := HV4.out.r.cell 1; simp only [List.getElem?_cons_zero, List.getElem?_cons_succ] at c1; clear hp4))
          go_upto_region 7 with (first
            | (go_at_call 74; refine (HBR2.out w4 HV4.out.pg.2).mono ?_; rintro e' w5 ⟨rfl, hb5⟩; have HV5 := Lib.hid (HV4.out.below hb5); clear hb5 c1))
          go_upto_region 8 with (first
            | (go_at_call 72; refine (HWP.out _ w5.heap.size (HV5.out.pg.2.ext (below_a1 _ _)) (heap_new _ _)).mono ?_; rintro e' w6 ⟨⟨v6, rfl⟩, hp6⟩; have HV6 := Lib.hid ((HV5.out.below (below_a1 _ _)).take hpl hp6 HE4.out); clear hp6))
          refine wp_region_ordW (by kernel_rfl) (fun X => X.cell? ⟨w.heap.size, 1, none⟩ = some (.slice fa 0 fc)) [(0, 0), (0, 1), (0, 2), (0, 3), (1, 4), (1, 5), (1, 6), (0, 7), (2, 8)] (by kernel_rfl) ?hS ?_
          case hS => intro wd hh; exact row_at HV6.out.r hh 1
          intro wd hh hgd hS
          have HVD := Lib.hid (HV6.out.grown0 hpl htl hgd)
          clear hh hgd
          simp only [pickOps, List.map_cons, List.map_nil, List.getElem?_cons_zero, List.getElem?_cons_succ, Option.getD_some]
          repeat (refine wpOrd_look (v := ?_) (by rfl) ?_ (by assumption) (fun _ _ _ h => h) ?_; rotate_left; (· (intro wS hSw; (try dsimp only at hSw); go_simp; (first | done | with_reducible rfl))); simp only [Act.put, List.setIfInBounds_toArray, List.set_cons_zero, List.set_cons_succ])
          refine wpOrd_turn ?_
          clear hS
          go_wp2_with (first
            | (go_at_call 76; refine (HFN.out wd HVD.out.pg.2).mono ?_; rintro e' w7 ⟨⟨pv7, lv7, bv7, rfl, hprt, hp7⟩, hen7⟩; obtain ⟨y, rfl, rfl, rfl, rfl⟩ := hprt.slice; have HPR := Lib.hid hprt; have HP7 := Lib.hid hp7; have HE7 := Lib.hid hen7; have HV7 := Lib.hid (HVD.out.take hpl hp7 hen7); clear hp7 hen7 hprt))
          refine QN_keep (HV7.out.r.cell 1) fun hS => ?_
          refine wpOrd_turn ?_
          clear hS
          go_wp2
          obtain ⟨w8, hw8⟩ : ∃ w3, w3 = w7.alloc (.cells #[S y.f.name, y.pv, y.lv, y.bv] 52) := ⟨_, rfl⟩
          obtain ⟨gz, hgz⟩ : ∃ g, g = w7.heap.size := ⟨_, rfl⟩
          have HGZ := Lib.hid (show Row w8 gz 52 [S y.f.name, y.pv, y.lv, y.bv] by rw [hw8, hgz]; exact heap_new _ _)
          have HW8 := Lib.hid hw8
          have HV8 := Lib.hid (show PgV _ _ _ _ _ _ _ _ w8 from HV7.out.grown0 hpl htl (by rw [hw8]; exact alloc_grown _ _ none))
          have hbz : w.heap.size + 1 ≤ w8.heap.size := by have := HV8.out.r.lt; omega
          change QN _ _ _ _ (w7.alloc (.cells #[S y.f.name, y.pv, y.lv, y.bv] 52))
          rw [← hw8, ← hgz]
          clear hw8 hgz
          refine QN_keep (HV8.out.r.cell 1) fun hS => ?_
          refine wpOrd_turn ?_
          clear hS
          go_wp2_with (first
            | (at_builtin; refine wpList_appS slFunc rfl _ _ rfl fgEnc_len fgEnc_one (w.heap.size + 1) (.slice fa 0 fc) fs rfl HV8.out.of.1 gz y rfl (fun j _ => HGZ.out.cell j) (by have := HFL.out; omega) (by decide) hbz ?_; intro g' cap w9 ho9 hg9 hat9 hlt9; rw [← HFL.out] at ho9 ⊢; have HO9 := Lib.hid ho9; have HG9 := Lib.hid hg9; have HAT := Lib.hid hat9; clear ho9 hg9 hat9 hlt9))
          have hpo : ∀ b, (Value.slice fa 0 fc).ownBlock = some b → w.heap.size + 1 ≤ b := fun b e => (ownsRow_base HV8.out.of.1 b e).1
          have HR9 := Lib.hid (HV8.out.r.kept HG9.out (fun e => by have := hpo _ e.symm; omega))
          refine QN_keep (HR9.out.cell 1) fun hS => ?_
          clear hpo
          repeat (refine wpOrd_look (v := ?_) (by rfl) ?_ (by assumption) (fun _ _ _ h => h) ?_; rotate_left; (· (intro wS hSw; (try dsimp only at hSw); go_simp; (first | done | with_reducible rfl))); simp only [Act.put, List.setIfInBounds_toArray, List.set_cons_zero, List.set_cons_succ])
          refine wpOrd_last ?_
          have f1 := HR9.out.frozen 1
          have c1 := HR9.out.cell 1
          simp only [List.getElem?_cons_zero, List.getElem?_cons_succ] at c1
          clear hS
          go_wp2
          refine QN_normal (wpOrd_nil ?_)
          have hfA := HVD.out.pushF (o := .cells #[S y.f.name, y.pv, y.lv, y.bv] 52) hpl htl HP7.out HE7.out HPR.out HO9.out (by rw [← HW8.out]; exact HG9.out) (by rw [← HW8.out]; exact HAT.out)
          have HVA := Lib.hid hfA
          clear hfA f1 c1
          go_wp2
          go_roundg n1
          case measure => exact hms
          case rel => exact Lib.hid ⟨vs, rs, fs ++ [y], _, _, q3, by omega, by have := HFL.out; rw [List.length_append]; simp only [List.length_cons, List.length_nil]; omega, HVA.out, by rw [show decide (fs ++ [y] = []) = false by simp]; exact HREC.out, by rw [HP.out]; simp⟩
        · have hFN0 : FN ≠ 0 := by
            intro e
            rw [e] at hFN
            exact hfe (List.length_eq_zero_iff.1 hFN.symm)
          have hne : ((FN : Int) == 0) = false := by
            rw [beq_eq_false_iff_ne]; omega
          clear hFN HBR HFS hfe
          go_upto_region 2 with (first
            | (go_at_call 70; refine (HNX.out wo HV.out.pg.2).mono ?_; rintro e' w2 ⟨rfl, hb2⟩; have HV2 := Lib.hid (HV.out.below hb2); clear hb2))
          go_upto_region 4 with (first
            | (go_at_call 72; refine (HWI.out _ w2.heap.size (HV2.out.pg.2.ext (below_a1 _ _)) (heap_new _ _)).mono ?_; rintro e' w3 ⟨⟨v3, rfl⟩, hp3⟩; have HV3 := Lib.hid ((HV2.out.below (below_a1 _ _)).take hpl hp3 HE1.out); clear hp3)
            | (go_at_call 73; refine (HNM.out w3 HV3.out.pg.2).mono ?_; rintro e' w5 ⟨rfl, hp4⟩; have HV5 := Lib.hid (HV3.out.take hpl hp4 HE3.out); have c1 := HV5.out.r.cell 1; simp only [List.getElem?_cons_zero, List.getElem?_cons_succ] at c1; clear hp4))
          go_upto_region 7 with (fail)
          clear c1
          go_upto_region 8 with (first
            | (go_at_call 72; refine (HWP.out _ w5.heap.size (HV5.out.pg.2.ext (below_a1 _ _)) (heap_new _ _)).mono ?_; rintro e' w6 ⟨⟨v6, rfl⟩, hp6⟩; have HV6 := Lib.hid ((HV5.out.below (below_a1 _ _)).take hpl hp6 HE4.out); clear hp6))
          refine wp_region_ordW (by kernel_rfl) (fun X => X.cell? ⟨w.heap.size, 1, none⟩ = some (.slice fa FN fc)) [(0, 0), (0, 1), (0, 2), (0, 3), (1, 4), (1, 5), (1, 6), (0, 7), (2, 8)] (by kernel_rfl) ?hS ?_
          case hS => intro wd hh; exact row_at HV6.out.r hh 1
          intro wd hh hgd hS
          have HVD := Lib.hid (HV6.out.grown0 hpl htl hgd)
          clear hh hgd
          simp only [pickOps, List.map_cons, List.map_nil, List.getElem?_cons_zero, List.getElem?_cons_succ, Option.getD_some]
          repeat (refine wpOrd_look (v := ?_) (by rfl) ?_ (by assumption) (fun _ _ _ h => h) ?_; rotate_left; (· (intro wS hSw; (try dsimp only at hSw); go_simp; (first | done | with_reducible rfl))); simp only [Act.put, List.setIfInBounds_toArray, List.set_cons_zero, List.set_cons_succ])
          refine wpOrd_turn ?_
          clear hS
          go_wp2_with (first
            | (go_at_call 76; refine (HFN.out wd HVD.out.pg.2).mono ?_; rintro e' w7 ⟨⟨pv7, lv7, bv7, rfl, hprt, hp7⟩, hen7⟩; obtain ⟨y, rfl, rfl, rfl, rfl⟩ := hprt.slice; have HPR := Lib.hid hprt; have HP7 := Lib.hid hp7; have HE7 := Lib.hid hen7; have HV7 := Lib.hid (HVD.out.take hpl hp7 hen7); clear hp7 hen7 hprt))
          refine QN_keep (HV7.out.r.cell 1) fun hS => ?_
          refine wpOrd_turn ?_
          clear hS
          go_wp2
          obtain ⟨w8, hw8⟩ : ∃ w3, w3 = w7.alloc (.cells #[S y.f.name, y.pv, y.lv, y.bv] 52) := ⟨_, rfl⟩
          obtain ⟨gz, hgz⟩ : ∃ g, g = w7.heap.size := ⟨_, rfl⟩
          have HGZ := Lib.hid (show Row w8 gz 52 [S y.f.name, y.pv, y.lv, y.bv] by rw [hw8, hgz]; exact heap_new _ _)
          have HW8 := Lib.hid hw8
          have HV8 := Lib.hid (show PgV _ _ _ _ _ _ _ _ w8 from HV7.out.grown0 hpl htl (by rw [hw8]; exact alloc_grown _ _ none))
          have hbz : w.heap.size + 1 ≤ w8.heap.size := by have := HV8.out.r.lt; omega
          change QN _ _ _ _ (w7.alloc (.cells #[S y.f.name, y.pv, y.lv, y.bv] 52))
          rw [← hw8, ← hgz]
          clear hw8 hgz
          refine QN_keep (HV8.out.r.cell 1) fun hS => ?_
          refine wpOrd_turn ?_
          clear hS
          go_wp2_with (first
            | (at_builtin; refine wpList_appS slFunc rfl _ _ rfl fgEnc_len fgEnc_one (w.heap.size + 1) (.slice fa FN fc) fs rfl HV8.out.of.1 gz y rfl (fun j _ => HGZ.out.cell j) (by have := HFL.out; omega) (by decide) hbz ?_; intro g' cap w9 ho9 hg9 hat9 hlt9; rw [← HFL.out] at ho9 ⊢; have HO9 := Lib.hid ho9; have HG9 := Lib.hid hg9; have HAT := Lib.hid hat9; clear ho9 hg9 hat9 hlt9))
          have hpo : ∀ b, (Value.slice fa FN fc).ownBlock = some b → w.heap.size + 1 ≤ b := fun b e => (ownsRow_base HV8.out.of.1 b e).1
          have HR9 := Lib.hid (HV8.out.r.kept HG9.out (fun e => by have := hpo _ e.symm; omega))
          refine QN_keep (HR9.out.cell 1) fun hS => ?_
          clear hpo
          repeat (refine wpOrd_look (v := ?_) (by rfl) ?_ (by assumption) (fun _ _ _ h => h) ?_; rotate_left; (· (intro wS hSw; (try dsimp only at hSw); go_simp; (first | done | with_reducible rfl))); simp only [Act.put, List.setIfInBounds_toArray, List.set_cons_zero, List.set_cons_succ])
          refine wpOrd_last ?_
          have f1 := HR9.out.frozen 1
          have c1 := HR9.out.cell 1
          simp only [List.getElem?_cons_zero, List.getElem?_cons_succ] at c1
          clear hS
          go_wp2
          refine QN_normal (wpOrd_nil ?_)
          have hfA := HVD.out.pushF (o := .cells #[S y.f.name, y.pv, y.lv, y.bv] 52) hpl htl HP7.out HE7.out HPR.out HO9.out (by rw [← HW8.out]; exact HG9.out) (by rw [← HW8.out]; exact HAT.out)
          have HVA := Lib.hid hfA
          clear hfA f1 c1
          go_wp2
          go_roundg n1
          case measure => exact hms
          case rel => exact Lib.hid ⟨vs, rs, fs ++ [y], _, _, q3, by omega, by have := HFL.out; rw [List.length_append]; simp only [List.length_cons, List.length_nil]; omega, HVA.out, by rw [show decide (fs ++ [y] = []) = false by simp]; exact HREC.out, by rw [HP.out]; simp⟩
end Go.Proofs.YtjgbkdbkachciaaGreatDoor
