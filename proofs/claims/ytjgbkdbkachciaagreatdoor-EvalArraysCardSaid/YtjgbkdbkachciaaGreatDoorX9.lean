import Derived.Test.YtjgbkdbkachciaaGreatDoorX2
namespace Go.Proofs.YtjgbkdbkachciaaGreatDoor
open Go.RowKit Go.Shelf
attribute [local go_sem] Oper.semAt_some

theorem OwnInts.kept {W W' : World} {row : Option Nat} {base : Nat} {v : Value} {l : List Int} (h : OwnInts W base v l) (hg : W.grownBy W' row) (hr : ∀ r, row = some r → v.ownBlock ≠ some r) : OwnInts W' base v l := by
  refine World.ownsRow.kept h hg ?_
  cases hv : v.ownBlock with
  | none =>
    rcases h.2 with ⟨rfl, _⟩ | ⟨g, cap, cur, rfl, _, hgb, _⟩
    · exact .inl rfl
    · cases hv
  | some g => exact .inr fun e => hr g e.symm hv
/-- a kept block written -/
theorem ER.wrote {c : RunC} {F : Nat → Prop} {W W' : World} {d : Nat} {s : ESt} {r : Nat} (h : ER c F W d s) (hg : W.grownBy W' (some r)) (hF : F r) (hG : ¬ c.G r) : ER c F W' d s := by
  obtain ⟨iv, ov, h1, h2, h3, h4⟩ := h.st
  have hG' : ∀ r', some r = some r' → ¬ c.G r' := fun r' e => by cases e; exact hG
  refine ⟨⟨fun b hb => Nat.lt_of_lt_of_le (h.b.lt b hb) hg.size, h.b.gf, h.b.rbF, h.b.px.grown hg hG', h.b.arv.grown hg hG' fun _ _ h => h, h.b.gzn, h.b.gzr, h.b.len, h.b.gza, fun i x l hx hl => ?_⟩,
    h.small, iv, ov, h1.kept hg (fun e => h.b.rbF (by cases e; exact hF)), h2.grown hg hG' fun _ _ h => h, h3.kept hg (fun r' e e' => by cases e; exact (h4 r e').1 hF), h4⟩
  obtain ⟨k1, k2⟩ := h.b.arr i x l hx hl
  exact ⟨k1.kept hg fun e => by cases e; exact (h.b.gzr x (List.mem_of_getElem? hx)).2 hF, k2⟩
theorem ER.run {c : RunC} {F : Nat → Prop} {W : World} {d : Nat} {s : ESt} (h : ER c F W d s) : ∃ iv ov, Row W c.rb 78 (rRow c d iv ov s.steps) := by
  obtain ⟨iv, ov, h1, _⟩ := h.st
  exact ⟨iv, ov, h1⟩

/-! ### a call that goes on -/
structure CSat (c : RunC) (F : Nat → Prop) (W : World) (d : Nat) (k : CSt) (s : ESt) (cb mb : Nat) : Prop where
  er : ER c F W d s
  cF : F cb
  mF : F mb
  cG : ¬ c.G cb
  mG : ¬ c.G mb
  ne : cb ≠ mb
  row : Row W cb 148 [.pointer (some ⟨c.rb, 0, none⟩), .map (some mb), I k.value]
  vars : VarsAt W mb k.vars
theorem CSat.on {c : RunC} {F : Nat → Prop} {W W' : World} {d d' : Nat} {k : CSt} {s s' : ESt} {cb mb : Nat} (h : CSat c F W d k s cb mb) (hk : KF F W W') (he : ER c F W' d' s') : CSat c F W' d' k s' cb mb :=
  ⟨he, h.cF, h.mF, h.cG, h.mG, h.ne, hk.row h.row h.cF, h.vars.on (hk.block mb h.mF)⟩
/-- what a call's statements may change -/
abbrev mF (F : Nat → Prop) (cb mb : Nat) : Nat → Prop := fun b => F b ∧ b ≠ cb ∧ b ≠ mb
theorem KF.mF {F : Nat → Prop} {W W' : World} (h : KF F W W') (cb mb : Nat) : KF (mF F cb mb) W W' := h.mono fun _ hb => hb.1
/-- how an expression ends -/
def RunI (c : RunC) (F : Nat → Prop) (W : World) (d : Nat) (r : Res Int) (en : Ending) (w' : World) : Prop :=
  KF F W w' ∧ match r with
  | .ok n s' => en = .returned (I n) ∧ ER c F w' d s'
  | .stop a b s' => en = .panicked (stopV a b) ∧ ∃ d', ER c F w' d' s'
/-- how a statement ends -/
def RunH (c : RunC) (F : Nat → Prop) (cb mb : Nat) (W : World) (d : Nat) (r : Res (Int × CSt)) (en : Ending) (w' : World) : Prop :=
  KF (mF F cb mb) W w' ∧ match r with
  | .ok q s' => en = .returned (I q.1) ∧ CSat c F w' d q.2 s' cb mb
  | .stop a b s' => en = .panicked (stopV a b) ∧ ∃ d', ER c F w' d' s'

/-- what reading tells -/
def readM (s : ESt) : Res Int := match s.inp with
  | [] => .ok (-1) s
  | x :: l => .ok x { s with inp := l }
theorem RunI.ok {c : RunC} {F : Nat → Prop} {W w' : World} {d : Nat} {r : Res Int} {n : Int} {s' : ESt} (h : r = .ok n s') (hk : KF F W w') (he : ER c F w' d s') : RunI c F W d r (.returned (I n)) w' := by
  rw [h]; exact ⟨hk, rfl, he⟩
theorem RunI.stop {c : RunC} {F : Nat → Prop} {W w' : World} {d d' : Nat} {r : Res Int} {a b : Int} {s' : ESt} (h : r = .stop a b s') (hk : KF F W w') (he : ER c F w' d' s') : RunI c F W d r (.panicked (stopV a b)) w' := by
  rw [h]; exact ⟨hk, rfl, d', he⟩
set_option maxRecDepth 100000 in
set_option maxHeartbeats 4000000 in
/-- what is read next -/
theorem read_any (c : RunC) (F : Nat → Prop) (W : World) (d : Nat) (s : ESt) (h : ER c F W d s) :
    Calls Tryz.prog 234 #[.pointer (some ⟨c.rb, 0, none⟩)] W (RunI c F W d (readM s)) := by
  suffices hsuf : Calls Tryz.prog 234 #[.pointer (some ⟨c.rb, 0, none⟩)] W (fun e w' => Hid (RunI c F W d (readM s) e w')) from hsuf.mono fun _ _ h => h.out
  obtain ⟨iv, ov, hrow, hin, ho, hob⟩ := h.st
  have c2 := hrow.cell 2
  have f2 := hrow.frozen 2
  simp only [List.getElem?_cons_succ, List.getElem?_cons_zero] at c2
  obtain ⟨rb, hrb⟩ : ∃ r, r = c.rb := ⟨_, rfl⟩
  rw [← hrb] at c2 f2 ⊢
  have HH := Lib.hid h
  have HRB := Lib.hid hrb
  have HROW := Lib.hid hrow
  have HIN := Lib.hid hin
  have HO := Lib.hid ho
  have HOB := Lib.hid hob
  have HIN0 := hin.sl
  have hroom := hin.room
  obtain ⟨ia, ic, rfl, hic, hia⟩ := HIN0
  obtain ⟨_, _, hrm, hroom⟩ := hroom
  have hr3 := (Value.slice.inj hrm).2.2
  clear hrm
  subst hr3
  obtain ⟨n, hn⟩ : ∃ n, n = s.inp.length := ⟨_, rfl⟩
  rw [← hn] at c2 hic hroom
  have HN := Lib.hid hn
  have HIA := Lib.hid hia
  obtain ⟨Q, hQ⟩ : ∃ Q, Q = RunI c F W d (readM s) := ⟨_, rfl⟩
  have HQ := Lib.hid hQ
  rw [← hQ]
  clear h hrow hin ho hob hrb hn hia hQ
  by_cases h0 : n = 0
  · subst h0
    go_enter Tryz.func234, Tryz.ntmps234
    go_wp2
    go_ret
    have hs : s.inp = [] := List.eq_nil_of_length_eq_zero HN.out.symm
    rw [HQ.out]
    refine Lib.hid ?_
    exact RunI.ok (by unfold readM; rw [hs]) (KF.refl _ _) HH.out
  · obtain ⟨x, l, hs⟩ : ∃ x l, s.inp = x :: l := by
      cases hs : s.inp with
      | nil => exact absurd (by rw [HN.out, hs]; rfl) h0
      | cons x l => exact ⟨x, l, rfl⟩
    obtain ⟨b, o, rfl, hG, hat⟩ := HIA.out.resolve_left (by rw [hs]; simp)
    obtain ⟨C, hC, hx⟩ := hat 0 x (by rw [hs]; rfl)
    have e0 := hC 0 (by omega)
    rw [hx] at e0
    simp only [Nat.zero_mul, Nat.add_zero] at e0
    obtain ⟨m, rfl⟩ : ∃ m, n = m + 1 := ⟨n - 1, by omega⟩
    have HAT := Lib.hid hat
    have HS := Lib.hid hs
    have hend : ∀ a, (ic = 1 ∧ m = 0 ∨ a = ⟨b, o + 1, none⟩) → RunI c F W d (readM s) (.returned (I x)) (W.setCell ⟨rb, 2, none⟩ (.slice (some a) m (ic - 1))) := by
      intro a ha
      have hg := setCell_grown W rb 2 (.slice (some a) m (ic - 1))
      rw [HRB.out] at hg ⊢
      have hm : m = l.length := by have := HN.out; rw [HS.out] at this; simpa using this
      refine RunI.ok (s' := { s with inp := l }) (by unfold readM; rw [HS.out]) (HH.out.kf hg (fun r e => by cases e; exact HH.out.b.rbF)) (HH.out.turn hg rfl ⟨HH.out.small.1, HH.out.small.2.1, HH.out.small.2.2.1⟩ (.slice (some a) m (ic - 1)) (HROW.out.set 2 _) ?_ (OwnInts.rb hg HROW.out HO.out) HOB.out)
      refine ⟨⟨some a, ic - 1, by rw [hm], by show l.length ≤ _; omega, ?_⟩, some a, ic - 1, by rw [hm], by show l.length ≤ _; omega⟩
      rcases ha with ⟨_, ha⟩ | rfl
      · exact .inl (show l = [] from List.eq_nil_of_length_eq_zero (by omega))
      · refine .inr ⟨b, o + 1, rfl, hG, fun i y hy => ?_⟩
        obtain ⟨C', hC', hy'⟩ := HAT.out (i + 1) y (by rw [HS.out]; simpa using hy)
        refine ⟨C', fun j hj => ?_, hy'⟩
        have := hC' j hj
        rw [show o + (i + 1) * 1 + j = o + 1 + i * 1 + j by omega] at this
        rw [← this]
        exact World.cell?_of_block (w := W) (by rw [hg.block b (World.block_lt_of_cell? W _ this)]; intro e; cases e; exact HH.out.b.rbF (HH.out.b.gf _ hG))
    have HEND := Lib.hid hend
    clear hC hx hat h0 hs hend
    by_cases hc1 : ic = 1
    · subst hc1
      obtain rfl : m = 0 := by omega
      go_enter Tryz.func234, Tryz.ntmps234
      go_wp2
      go_ret
      rw [HQ.out]
      refine Lib.hid ?_
      exact HEND.out ⟨b, o, none⟩ (by simp)
    · go_enter Tryz.func234, Tryz.ntmps234
      go_wp2
      go_ret
      rw [HQ.out]
      refine Lib.hid ?_
      exact HEND.out _ (.inr rfl)
end Go.Proofs.YtjgbkdbkachciaaGreatDoor

namespace Go.Proofs.YtjgbkdbkachciaaGreatDoor
open Go.RowKit Go.Shelf
attribute [local go_sem] Oper.semAt_some

set_option maxRecDepth 100000 in
set_option maxHeartbeats 4000000 in
/-- where a number of an array stands -/
theorem place189_any (c : RunC) (F : Nat → Prop) (W : World) (d : Nat) (s : ESt) (cb mb : Nat) (v : Int) (x : Str) (i : Nat) (g n : Nat) (at_ : Int) (h : ER c F W d s) (hcb : Row W cb 148 [.pointer (some ⟨c.rb, 0, none⟩), .map (some mb), I v])
    (hi : placeA c.p x = (i : Nat)) (hg : c.gz[i]? = some (g, n)) :
    Calls Tryz.prog 189 #[.pointer (some ⟨cb, 0, none⟩), S x, I at_] W fun e w' => e = (if at_ < 0 ∨ (n : Int) ≤ at_ then .panicked (stopV 3 0) else .returned (.pointer (some ⟨g, at_.toNat, none⟩))) ∧ Below W.heap.size W w' := by
  obtain ⟨iv, ov, hrow, -, -, -⟩ := h.st
  have hpx := h.b.px
  obtain ⟨aa, ac, fa, fc, e1, e2⟩ := hpx.slice
  rw [e1, e2] at hpx
  simp only [rRow, e1, e2] at hrow
  obtain ⟨ra, rc, hrv, _, hra⟩ := h.b.arv
  rw [hrv] at hrow
  have hil : i < c.gz.length := (List.getElem?_eq_some_iff.1 hg).1
  obtain ⟨b, o, rfl, _, hat⟩ := hra.resolve_left (by intro e; rw [e] at hil; simp at hil)
  obtain ⟨C, hC, hx⟩ := hat i _ hg
  have hx : C 0 = .slice (some ⟨g, 0, none⟩) n n := hx
  have e3 := hC 0 (by omega)
  rw [hx] at e3
  simp only [Nat.mul_one, Nat.add_zero] at e3
  obtain ⟨N, hN⟩ : ∃ N, N = c.gz.length := ⟨_, rfl⟩
  obtain ⟨p, hp⟩ : ∃ p, p = c.p := ⟨_, rfl⟩
  obtain ⟨rb, hrb⟩ : ∃ r, r = c.rb := ⟨_, rfl⟩
  rw [← hN] at hrow hil
  rw [← hp] at hrow hpx hi
  rw [← hrb] at hrow hcb
  have HAR := Lib.hid (fun W' (hb : Below W.heap.size W W') => array_any p x _ _ W' c.G (hpx.below hb))
  rw [hi] at HAR
  have HROW := Lib.hid hrow
  have HCB := Lib.hid hcb
  have hiz : ¬ (i : Int) < 0 := by omega
  have hin : (i : Int) < (N : Int) := by omega
  have HE3 := Lib.hid e3
  obtain ⟨an, han⟩ : ∃ n, n = p.arrays.length := ⟨_, rfl⟩
  obtain ⟨fn, hfn⟩ : ∃ n, n = p.funcs.length := ⟨_, rfl⟩
  rw [← han, ← hfn] at HAR HROW
  clear h hpx e1 e2 hrow hcb hi hg hrv hra hat hC hx hN hp hrb e3 han hfn
  go_enter Tryz.func189, Tryz.ntmps189
  go_wp2
  refine wp_region_ordW (by kernel_rfl) (fun X => X.cell? ⟨cb, 0, none⟩ = some (.pointer (some ⟨rb, 0, none⟩)) ∧ X.cell? ⟨rb, 0, none⟩ = some (.slice aa an ac) ∧ X.cell? ⟨rb, 1, none⟩ = some (.slice fa fn fc) ∧ X.cell? ⟨rb, 3, none⟩ = some (.slice (some ⟨b, o, none⟩) N rc) ∧ X.cell? ⟨b, o + i, none⟩ = some (.slice (some ⟨g, 0, none⟩) n n)) [(0, 0), (0, 1), (0, 2), (0, 3), (0, 4), (0, 5), (0, 6), (0, 7), (0, 8), (0, 9), (0, 10), (0, 11), (0, 12), (0, 13), (0, 14), (1, 15), (0, 16), (0, 17), (0, 18)] (by kernel_rfl) ?hS ?_
  case hS => intro wd hh; exact ⟨row_at HCB.out hh 0, row_at HROW.out hh 0, row_at HROW.out hh 1, row_at HROW.out hh 3, (cell_heap hh _).trans HE3.out⟩
  intro wd hh hgd hS
  have HBD := Lib.hid (show Below W.heap.size W wd from ⟨hgd.os, hgd.tape, hgd.output, hgd.size, fun k hk => hgd.block k hk (by simp)⟩)
  have HCD := Lib.hid (HCB.out.kept hgd (by simp))
  have HRD := Lib.hid (HROW.out.kept hgd (by simp))
  have HED := Lib.hid (gcell HE3.out hgd (by simp))
  clear hh hgd
  simp only [pickOps, List.map_cons, List.map_nil, List.getElem?_cons_zero, List.getElem?_cons_succ, Option.getD_some]
  repeat (first | (refine wpOrd_pass (by rfl) (by assumption) (fun _ _ _ h => h) ?_; simp only [Act.put, List.setIfInBounds_toArray, List.set_cons_zero, List.set_cons_succ]) | (refine wpOrd_look (v := ?_) (by rfl) ?_ (by assumption) (fun _ _ _ h => h) ?_; rotate_left; (· (intro wS hSw; (try dsimp only at hSw); go_simp; (first | done | with_reducible rfl))); simp only [Act.put, List.setIfInBounds_toArray, List.set_cons_zero, List.set_cons_succ]))
  refine wpOrd_turn ?_
  go_wp2_with (first
    | (go_at_call 184; refine (HAR.out _ HBD.out).mono ?_; rintro e' w1 ⟨rfl, hb1⟩; have HB1 := Lib.hid (HBD.out.trans (hb1.mono HBD.out.size)); have hr2 := HRD.out.ext hb1; have HR2 := Lib.hid hr2; have he2 := HCD.out.ext hb1; have HE2 := Lib.hid he2; have HB2 := Lib.hid hb1; clear hb1 hS hr2 he2))
  refine QN_keep ⟨HE2.out.cell 0, HR2.out.cell 0, HR2.out.cell 1, HR2.out.cell 3, gcell HED.out (below_grown HB2.out none) (by simp)⟩ fun hS => ?_
  repeat (first | (refine wpOrd_pass (by rfl) (by assumption) (fun _ _ _ h => h) ?_; simp only [Act.put, List.setIfInBounds_toArray, List.set_cons_zero, List.set_cons_succ]) | (refine wpOrd_look (v := ?_) (by rfl) ?_ (by assumption) (fun _ _ _ h => h) ?_; rotate_left; (· (intro wS hSw; (try dsimp only at hSw); go_simp; (first | done | with_reducible rfl))); simp only [Act.put, List.setIfInBounds_toArray, List.set_cons_zero, List.set_cons_succ]))
  refine wpOrd_nil ?_
  clear hS
  by_cases h1 : at_ < 0
  · go_wp2
    exact ⟨rfl, rfl, HB1.out⟩
  · by_cases h2 : at_ < (n : Int)
    · go_wp2
      go_ret
      exact ⟨rfl, HB1.out⟩
    · go_wp2
      exact ⟨rfl, rfl, HB1.out⟩
end Go.Proofs.YtjgbkdbkachciaaGreatDoor

namespace Go.Proofs.YtjgbkdbkachciaaGreatDoor
open Go.RowKit Go.Shelf
attribute [local go_sem] Oper.semAt_some

theorem OwnInts.on {W W' : World} {base : Nat} {v : Value} {l : List Int} (h : OwnInts W base v l) (hb : ∀ g, v.ownBlock = some g → W'.heap[g]? = W.heap[g]?) : OwnInts W' base v l := by
  refine ⟨h.1, ?_⟩
  rcases h.2 with h | ⟨g, cap, cur, rfl, h1, h2, h3⟩
  · exact .inl h
  · exact .inr ⟨g, cap, cur, rfl, h1, (hb g rfl).trans h2, h3⟩
/-- new blocks that are kept, from a world in which kept blocks may have been written -/
theorem ER.add {c : RunC} {F Q : Nat → Prop} {W W' : World} {d : Nat} {s : ESt} {row : Option Nat} (h : ER c F W d s) (hg : W.grownBy W' row) (hr : ∀ r, row = some r → F r ∧ ¬ c.G r) (hQ : ∀ b, Q b → W.heap.size ≤ b ∧ b < W'.heap.size) : ER c (fun b => F b ∨ Q b) W' d s := by
  obtain ⟨iv, ov, h1, h2, h3, h4⟩ := h.st
  have hG : ∀ r', row = some r' → ¬ c.G r' := fun r' e => (hr r' e).2
  have hrb : c.rb < W.heap.size := h1.lt
  have hgz : ∀ x ∈ c.gz, x.1 < W.heap.size := fun x hx => by
    obtain ⟨i, hi, hxi⟩ := List.getElem_of_mem hx
    have hli : i < s.arrs.length := by rw [h.b.len]; exact hi
    exact (h.b.arr i x s.arrs[i] (by rw [List.getElem?_eq_getElem hi, hxi]) (List.getElem?_eq_getElem hli)).1.lt
  refine ⟨⟨?_, fun b hb => .inl (h.b.gf b hb), ?_, h.b.px.grown hg hG, h.b.arv.grown hg hG fun _ _ h => h, h.b.gzn, fun x hx => ⟨(h.b.gzr x hx).1, ?_⟩, h.b.len, h.b.gza, fun i x l hx hl => ?_⟩,
    h.small, iv, ov, h1.kept hg (fun e => h.b.rbF (hr _ e.symm).1), h2.grown hg hG fun _ _ h => h, h3.kept hg (fun r' e e' => (h4 r' e').1 (hr r' e).1), fun g hg' => ⟨?_, (h4 g hg').2⟩⟩
  · rintro b (hb | hb)
    · exact Nat.lt_of_lt_of_le (h.b.lt b hb) hg.size
    · exact (hQ b hb).2
  · rintro (hb | hb)
    · exact h.b.rbF hb
    · have := (hQ _ hb).1; omega
  · rintro (hb | hb)
    · exact (h.b.gzr x hx).2 hb
    · have := (hQ _ hb).1; have := hgz x hx; omega
  · obtain ⟨k1, k2⟩ := h.b.arr i x l hx hl
    exact ⟨k1.kept hg fun e => (h.b.gzr x (List.mem_of_getElem? hx)).2 (hr _ e.symm).1, k2⟩
  · rintro (hb | hb)
    · exact (h4 g hg').1 hb
    · have := (ownsRow_base h3 g hg').2; have := (hQ _ hb).1; omega

theorem argsM_snoc {f : LE → ESt → Res Int} {x : LE} : ∀ (l : List LE) (s s1 : ESt) (ns : List Int), argsM f l s = .ok ns s1 → argsM f (l ++ [x]) s = match f x s1 with
    | .stop a b s2 => .stop a b s2
    | .ok n s2 => .ok (ns ++ [n]) s2
  | [], s, s1, ns, h => by
    rw [argsM] at h
    injection h with h1 h2
    subst h1 h2
    show argsM f [x] s = _
    rw [argsM]
    cases f x s with
    | stop a b t => rfl
    | ok n t => rfl
  | e :: l, s, s1, ns, h => by
    rw [argsM] at h
    show argsM f (e :: (l ++ [x])) s = _
    rw [argsM]
    cases he : f e s with
    | stop a b t => rw [he] at h; cases h
    | ok n t =>
      rw [he] at h
      simp only at h ⊢
      cases hl : argsM f l t with
      | stop a b u => rw [hl] at h; cases h
      | ok ms u =>
        rw [hl] at h
        simp only at h
        injection h with h1 h2
        subst h1 h2
        rw [argsM_snoc l t u ms hl]
        cases f x u with
        | stop a b v => rfl
        | ok m v => rfl
theorem argsM_stop {f : LE → ESt → Res Int} {a b : Int} {s2 : ESt} : ∀ (l r : List LE) (s : ESt), argsM f l s = .stop a b s2 → argsM f (l ++ r) s = .stop a b s2
  | [], _, _, h => by cases h
  | e :: l, r, s, h => by
    rw [argsM] at h
    show argsM f (e :: (l ++ r)) s = _
    rw [argsM]
    cases he : f e s with
    | stop a' b' t => rw [he] at h; exact h
    | ok n t =>
      rw [he] at h
      simp only at h ⊢
      cases hl : argsM f l t with
      | stop a' b' u => rw [hl] at h; rw [argsM_stop l r t hl]; exact h
      | ok ms u => rw [hl] at h; cases h

/-- expressions, walked: with so much fuel -/
def ExprC (c : RunC) (R : Nat) (m : Nat → Vars → LE → ESt → Res Int) : Prop :=
  ∀ (F : Nat → Prop) (W : World) (d : Nat) (s : ESt) (k : CSt) (cb mb : Nat) (e : LE) (av : Value), CSat c F W d k s cb mb → EX c.G W av e → XE c.p e → 2 * left c.most s + 1 ≤ R →
    Calls Tryz.prog 218 #[.pointer (some ⟨cb, 0, none⟩), eV e av] W (RunI c F W d (m d k.vars e s))
/-- how expressions end -/
def RunL (c : RunC) (F : Nat → Prop) (W : World) (d : Nat) (r : Res (List Int)) (en : Ending) (w' : World) : Prop :=
  KF F W w' ∧ match r with
  | .ok ns s' => ∃ ov, en = .returned ov ∧ OwnInts w' W.heap.size ov ns ∧ ER c (fun b => F b ∨ ov.ownBlock = some b) w' d s'
  | .stop a b s' => en = .panicked (stopV a b) ∧ ∃ d', ER c F w' d' s'
theorem RunL.ok {c : RunC} {F : Nat → Prop} {W w' : World} {d : Nat} {r : Res (List Int)} {ns : List Int} {s' : ESt} {ov : Value} (h : r = .ok ns s') (hk : KF F W w') (ho : OwnInts w' W.heap.size ov ns) (he : ER c (fun b => F b ∨ ov.ownBlock = some b) w' d s') : RunL c F W d r (.returned ov) w' := by
  rw [h]; exact ⟨hk, ov, rfl, ho, he⟩
theorem RunL.stop {c : RunC} {F : Nat → Prop} {W w' : World} {d d' : Nat} {r : Res (List Int)} {a b : Int} {s' : ESt} (h : r = .stop a b s') (hk : KF F W w') (he : ER c F w' d' s') : RunL c F W d r (.panicked (stopV a b)) w' := by
  rw [h]; exact ⟨hk, rfl, d', he⟩

set_option maxRecDepth 100000 in
set_option maxHeartbeats 8000000 in
theorem args_any (c : RunC) (R : Nat) (m : Nat → Vars → LE → ESt → Res Int) (hE : ExprC c R m) (hu : ∀ d vs e s n s', m d vs e s = .ok n s' → UpR 1 s s') (F : Nat → Prop) (W : World) (d : Nat) (s : ESt) (k : CSt) (cb mb : Nat) (l : List LE) (v : Value)
    (h : CSat c F W d k s cb mb) (hv : AX c.G W v l) (hx : ∀ x ∈ l, XE c.p x) (hR : 2 * left c.most s + 1 ≤ R) :
    Calls Tryz.prog 188 #[.pointer (some ⟨cb, 0, none⟩), v] W (RunL c F W d (argsM (m d k.vars) l s)) := by
  suffices hsuf : Calls Tryz.prog 188 #[.pointer (some ⟨cb, 0, none⟩), v] W (fun e w' => Hid (RunL c F W d (argsM (m d k.vars) l s) e w')) from hsuf.mono fun _ _ h => h.out
  obtain ⟨Q, hQ⟩ : ∃ Q, Q = RunL c F W d (argsM (m d k.vars) l s) := ⟨_, rfl⟩
  have HQ := Lib.hid hQ
  rw [← hQ]
  obtain ⟨a0, c0, rfl⟩ := hv.slice
  obtain ⟨dd, hv⟩ := hv
  have hlen : l.length ≤ 1000000000 := by obtain ⟨_, _, _, h, _⟩ := hv; exact h
  obtain ⟨N, hN⟩ : ∃ N, N = l.length := ⟨_, rfl⟩
  have hv : RSlB c.G 5 (RE dd c.G) W (.slice a0 N c0) l := by rw [hN]; exact hv
  rw [show ((LE.mk 0 0 0 [] l).args.length) = N from hN.symm]
  have HV := Lib.hid hv
  have HX := Lib.hid hx
  have HN := Lib.hid hN
  have HH := Lib.hid h
  have HR := Lib.hid hR
  have HE := Lib.hid hE
  have HU := Lib.hid hu
  have hN9 : N ≤ 1000000000 := by rw [hN]; exact hlen
  clear h hv hx hR hQ hN hlen hE hu
  go_enter Tryz.func188, Tryz.ntmps188
  go_upto_region 2 with (fail)
  go_loopg [4, 9] N (fun gh v i wr => ∃ j : Nat, gh + j = N ∧ i = I j ∧ Hid (∃ ns s1, argsM (m d k.vars) (l.take j) s = .ok ns s1 ∧ KF F W wr ∧ OwnInts wr W.heap.size v ns ∧ ER c (fun b => F b ∨ v.ownBlock = some b) wr d s1))
  case atStart =>
    refine ⟨0, rfl, rfl, Lib.hid ⟨[], s, rfl, KF.refl _ _, ⟨rfl, .inl ⟨rfl, rfl⟩⟩, HH.out.er.add (row := none) ⟨rfl, rfl, rfl, Nat.le_refl _, fun _ _ _ => rfl⟩ (fun r e => by cases e) (fun b hb => by cases hb)⟩⟩
  case round =>
    obtain ⟨j, hg, rfl, HS⟩ := hrel
    obtain ⟨wo, rfl⟩ : ∃ wo, wo = wr := ⟨_, rfl⟩
    by_cases hlt : j < N
    · have hltz : (j : Int) < (N : Int) := by omega
      obtain ⟨ns, s1, ha, hk, ho, he⟩ := HS.out
      have hjl : j < l.length := by rw [← HN.out]; exact hlt
      have hvo := HV.out.on (fun b hb => hk.block b (HH.out.er.b.gf b hb)) (fun C x h => RE.on dd (fun b hb => hk.block b (HH.out.er.b.gf b hb)) h)
      obtain ⟨b, o, C, rfl, _, hC, hrx⟩ := hvo.at hjl
      obtain ⟨x, hx⟩ : ∃ x, x = l[j] := ⟨_, rfl⟩
      rw [← hx] at hrx
      obtain ⟨dx, rfl⟩ : ∃ dx, dd = dx + 1 := by
        cases dd with
        | zero => exact hrx.elim
        | succ dx => exact ⟨dx, rfl⟩
      obtain ⟨h0, h1, h2, h3, h4⟩ := hrx
      obtain ⟨xa, xc, hxv, -⟩ := id h4
      have e0 := hC 0 (by omega)
      have e1 := hC 1 (by omega)
      have e2 := hC 2 (by omega)
      have e3 := hC 3 (by omega)
      have e4 := hC 4 (by omega)
      rw [h0] at e0
      rw [h1] at e1
      rw [h2] at e2
      rw [h3] at e3
      rw [hxv] at e4 h4
      simp only [Nat.add_zero] at e0 e1 e2 e3 e4
      have htk : l.take (j + 1) = l.take j ++ [x] := by rw [List.take_succ_eq_append_getElem hjl, hx]
      have hsn := argsM_snoc (x := x) _ _ _ _ ha
      rw [← htk] at hsn
      have hst : ∀ a b s2, argsM (m d k.vars) (l.take (j + 1)) s = .stop a b s2 → argsM (m d k.vars) l s = .stop a b s2 := fun a b s2 h => by
        have := argsM_stop _ (l.drop (j + 1)) _ h
        rwa [List.take_append_drop] at this
      have hxe : XE c.p x := by rw [hx]; exact HX.out _ (List.getElem_mem hjl)
      have hup := (argsM_up (fun h => HU.out _ _ _ _ _ _ h) _ _ _ _ ha).1
      have hns : ns.length ≤ 1000000000 := by rw [(argsM_up (fun h => HU.out _ _ _ _ _ _ h) _ _ _ _ ha).2, List.length_take]; omega
      have HA := Lib.hid ha
      have HK := Lib.hid hk
      have HO := Lib.hid ho
      have HER := Lib.hid he
      have HSN := Lib.hid hsn
      have HST := Lib.hid hst
      have HX4 := Lib.hid h4
      have HXE := Lib.hid hxe
      have HUP := Lib.hid hup
      have hbase : W.heap.size ≤ wo.heap.size := hk.size
      clear ha hk ho he hsn hst h4 hxe hup h0 h1 h2 h3 hC hxv hx htk HS hvo
      go_upto_region 4 with (first
        | (refine store_first 31 (.tmp 6) (.tmp 12) rfl ?_; refine wpList_store_row rfl 31 (.tmp 6) (.tmp 12) rfl wo.heap.size _ rfl rfl 31 eZ (heap_new _ _) (by kernel_rfl) (by rfl) (by simp [Value.oneCell']) ?_))
      obtain ⟨w3, hw3⟩ : ∃ w3, w3 = (wo.alloc (.cells eZ 31)).setRow wo.heap.size #[I x.kind, I x.op, I x.n, S x.name, .slice xa x.args.length xc] := ⟨_, rfl⟩
      have hg3 : wo.grownBy w3 none := by rw [hw3, World.setRow_alloc_new]; exact alloc_grown _ _ _
      have hx3 : Row w3 wo.heap.size 31 [I x.kind, I x.op, I x.n, S x.name, .slice xa x.args.length xc] := by rw [hw3]; exact setRow_heap _ _ _ _ _ _ (heap_new _ _)
      rw [← hw3]
      have hcs : CSat c (fun b => F b ∨ u4.ownBlock = some b) w3 d k s1 cb mb := by
        refine ⟨HER.out.quiet hg3, .inl HH.out.cF, .inl HH.out.mF, HH.out.cG, HH.out.mG, HH.out.ne, (HK.out.row HH.out.row HH.out.cF).kept hg3 (by simp), (HH.out.vars.on (HK.out.block mb HH.out.mF)).on (hg3.block mb ?_ (by simp))⟩
        exact Nat.lt_of_lt_of_le (HH.out.er.b.lt mb HH.out.mF) hbase
      have hex := HE.out _ _ _ _ _ _ _ x (.slice xa x.args.length xc) hcs (EX.on ⟨dx, HX4.out⟩ (fun b hb => hg3.block b (HER.out.b.lt b (.inl (HH.out.er.b.gf b hb))) (by simp))) HXE.out (Nat.le_trans (by have := left_up (most := c.most) HUP.out; omega) HR.out)
      have hk3 : KF F W w3 := HK.out.trans (KF.grown hg3 (fun b hb => HER.out.b.lt b (.inl hb)) (fun r e => by cases e))
      have c0 := hx3.cell 0
      have c1 := hx3.cell 1
      have c2 := hx3.cell 2
      have c3 := hx3.cell 3
      have c4 := hx3.cell 4
      simp only [List.getElem?_cons_succ, List.getElem?_cons_zero] at c0 c1 c2 c3 c4
      have HK3 := Lib.hid hk3
      have HEX := Lib.hid hex
      have hb3 : W.heap.size ≤ w3.heap.size := hk3.size
      have HO3 := Lib.hid (HO.out.kept hg3 (fun r e => by cases e))
      clear hw3 hx3 hcs hex hk3 HER HK HX4 HO hg3 e0 e1 e2 e3 e4
      obtain ⟨r, hr⟩ : ∃ r, r = m d k.vars x s1 := ⟨_, rfl⟩
      rw [← hr] at HEX HSN
      have HRE := Lib.hid hr
      clear hr
      cases r with
      | stop a b' s2 =>
        go_upto_region 5 with (first
          | (go_at_call 218; refine HEX.out.mono ?_; rintro e' w4 ⟨hk4, rfl, d', he4⟩; have HK4 := Lib.hid hk4; have HE4 := Lib.hid he4; clear hk4 he4))
        refine ⟨rfl, ?_⟩
        show Hid (Q (.panicked (stopV a b')) w4)
        rw [HQ.out]
        exact Lib.hid (RunL.stop (HST.out _ _ _ HSN.out) (HK3.out.trans (HK4.out.mono fun b hb => .inl hb)) (HE4.out.less (fun b hb => .inl hb) HH.out.er.b.gf))
      | ok n s2 =>
        go_upto_region 5 with (first
          | (go_at_call 218; refine HEX.out.mono ?_; rintro e' w4 ⟨hk4, rfl, he4⟩; have HK4 := Lib.hid hk4; have HE4 := Lib.hid he4; have HO4 := Lib.hid (HO3.out.on fun g hg => hk4.block g (.inr hg)); have hb4 : W.heap.size ≤ w4.heap.size := Nat.le_trans hb3 hk4.size; clear hk4 he4)
          | (at_builtin; refine wpList_app1 rfl _ _ rfl W.heap.size u4 ns rfl (HO4.out.kept (alloc_grown _ (.cells #[I n] 3) none) (fun r e => by cases e)) w4.heap.size n rfl (by rw [cell_of_block (heap_new w4 (.cells #[I n] 3))]; rfl) (by omega) (by simp; omega) ?_; intro g' cap w6 ho6 hg6 hat6 hlt6; have HO6 := Lib.hid ho6; have HG6 := Lib.hid hg6; have HAT := Lib.hid hat6; clear ho6 hg6 hat6))
        have hown : ∀ r, u4.ownBlock = some r → W.heap.size ≤ r ∧ r < w4.heap.size := fun r e => ownsRow_base HO4.out r e
        have hk6 : KF F W w6 := ((HK3.out.trans (HK4.out.mono fun b hb => .inl hb)).trans (KF.grown (alloc_grown w4 (.cells #[I n] 3) none) (fun b hb => HE4.out.b.lt b (.inl hb)) (fun r e => by cases e))).trans (KF.grown HG6.out (fun b hb => by have := HE4.out.b.lt b (.inl hb); simp; omega) (fun r e hF => by have := (hown r e).1; have := HH.out.er.b.lt r hF; omega))
        have he6 : ER c (fun b => F b ∨ some g' = some b) w6 d s2 := by
          refine ((HE4.out.quiet (alloc_grown w4 (.cells #[I n] 3) none)).add (Q := fun b => b = g' ∧ (w4.alloc (.cells #[I n] 3)).heap.size ≤ b) HG6.out (fun r e => ⟨.inr e, fun hG => ?_⟩) (fun b hb => ⟨hb.2, by rw [hb.1]; exact hlt6⟩)).less ?_ (fun b hb => .inl (HH.out.er.b.gf b hb))
          · have := (hown r e).1; have := HH.out.er.b.lt r (HH.out.er.b.gf r hG); omega
          · rintro b (hb | hb)
            · exact .inl (.inl hb)
            · have hb' := Option.some.inj hb
              rcases HAT.out with h | h
              · exact .inl (.inr (by rw [← hb']; exact h))
              · exact .inr ⟨hb'.symm, by rw [← hb', h]; exact Nat.le_refl _⟩
        have HK6 := Lib.hid hk6
        have HE6 := Lib.hid he6
        clear hk6 he6 hown
        go_wp2
        go_roundg (N - (j + 1))
        case measure => omega
        case rel => exact ⟨j + 1, by omega, by go_num, Lib.hid ⟨ns ++ [n], s2, HSN.out, HK6.out, HO6.out, HE6.out⟩⟩
    · have hltz : ¬ (j : Int) < (N : Int) := by omega
      obtain ⟨ns, s1, ha, hk, ho, he⟩ := HS.out
      rw [List.take_of_length_le (by rw [← HN.out]; omega)] at ha
      have HA := Lib.hid ha
      have HK := Lib.hid hk
      have HO := Lib.hid ho
      have HER := Lib.hid he
      clear ha hk ho he HS
      go_wp2
      go_ret
      rw [HQ.out]
      exact Lib.hid (RunL.ok HA.out HK.out HO.out HER.out)
end Go.Proofs.YtjgbkdbkachciaaGreatDoor
