import Derived.Test.YtjgbkdbkachciaaGreatDoorE8
import Derived.Test.YtjgbkdbkachciaaGreatDoorE4
import Derived.Test.YtjgbkdbkachciaaGreatDoorE5
import Derived.Test.YtjgbkdbkachciaaGreatDoorZ7
namespace Go.Proofs.YtjgbkdbkachciaaGreatDoor
open Go.RowKit Go.Shelf
attribute [local go_sem] Oper.semAt_some

theorem RawP.can {ars : List LA} {fs : List PQ} (h : RawP ars fs) : Runs (rawP ars fs) := h.runs fun q hq B pa la pc lc => concat_any B pa la pc lc _ _ (by
  have h1 := (h.own hq).length_le
  rw [List.length_append] at h1
  have h2 : (nmP ++ nmL).length = 11 := rfl
  omega)

/-! ### no more is told than there were steps -/
def OutQ (s s' : ESt) : Prop := s'.out.length + s.steps ≤ s.out.length + s'.steps
theorem OutQ.refl (s : ESt) : OutQ s s := Nat.le_refl _
theorem OutQ.trans {a b c : ESt} (h : OutQ a b) (k : OutQ b c) : OutQ a c := by unfold OutQ at *; omega
theorem OutQ.tick (s : ESt) : OutQ s (tick s) := by show s.out.length + s.steps ≤ s.out.length + (s.steps + 1); omega
theorem argsM_out {f : LE → ESt → Res Int} (hf : ∀ e s, OutQ s (f e s).fin) : ∀ (l : List LE) (s : ESt), OutQ s (argsM f l s).fin
  | [], s => OutQ.refl s
  | e :: l, s => by
    have h1 := hf e s
    rw [argsM]
    cases he : f e s with
    | stop a b t => rw [he] at h1; exact h1
    | ok n t =>
      rw [he] at h1
      have h2 := argsM_out hf l t
      simp only
      cases hl : argsM f l t with
      | stop a b u => rw [hl] at h2; exact h1.trans h2
      | ok ns u => rw [hl] at h2; exact h1.trans h2
theorem blockM_out {f : CSt → LS → ESt → Res (Int × CSt)} (hf : ∀ c x s, OutQ s (f c x s).fin) : ∀ (l : List LS) (c : CSt) (s : ESt), OutQ s (blockM f l c s).fin
  | [], _, s => OutQ.refl s
  | x :: l, c, s => by
    have h1 := hf c x s
    rw [blockM]
    cases he : f c x s with
    | stop a b t => rw [he] at h1; exact h1
    | ok r t =>
      rw [he] at h1
      simp only
      split
      · exact h1.trans (blockM_out hf l r.2 t)
      · exact h1
theorem callM_out {p : LP} {m : Mach} (hm : Kept OutQ m) (d : Nat) (x : Str) (args : List Int) (s : ESt) : OutQ s (callM p m.stmt d x args s).fin := by
  unfold callM
  have h1 := blockM_out (hm.stmt (d + 1)) (funcAt p x).body ⟨vars0 (funcAt p x) args, 0⟩ s
  cases hl : blockM (m.stmt (d + 1)) (funcAt p x).body ⟨vars0 (funcAt p x) args, 0⟩ s with
  | stop a b u => rw [hl] at h1; exact h1
  | ok q u => rw [hl] at h1; exact h1
theorem mach_out (p : LP) (most : Int) : ∀ k, Kept OutQ (mach p most k)
  | 0 => ⟨fun _ _ _ s => OutQ.refl s, fun _ _ _ s => OutQ.refl s, fun _ _ _ s => OutQ.refl s⟩
  | k + 1 => by
    have hm := mach_out p most k
    obtain ⟨m, hmm⟩ : ∃ m, m = mach p most k := ⟨_, rfl⟩
    rw [← hmm] at hm
    show Kept OutQ ⟨exprM p most (mach p most k), stmtM p most (mach p most k), loopM (mach p most k)⟩
    rw [← hmm]
    clear hmm
    refine ⟨fun d vs e s => ?_, fun d c x s => ?_, fun d c x s => ?_⟩
    · show OutQ s (exprM p most m d vs e s).fin
      unfold exprM
      by_cases hlt : most ≤ (s.steps : Int)
      · rw [if_pos hlt]; exact OutQ.refl s
      rw [if_neg hlt]
      refine (OutQ.tick s).trans ?_
      have h1 := argsM_out (hm.expr d vs) e.args (tick s)
      show OutQ (tick s) (match argsM (m.expr d vs) e.args (tick s) with | .stop a b s => _ | .ok args s => _ : Res Int).fin
      cases hl : argsM (m.expr d vs) e.args (tick s) with
      | stop a b u => rw [hl] at h1; exact h1
      | ok args u =>
        rw [hl] at h1
        refine h1.trans ?_
        show OutQ u _
        dsimp only
        repeat' split
        all_goals first
          | exact OutQ.refl u
          | exact callM_out hm _ _ _ _
    · show OutQ s (stmtM p most m d c x s).fin
      unfold stmtM
      by_cases hlt : most ≤ (s.steps : Int)
      · rw [if_pos hlt]; exact OutQ.refl s
      rw [if_neg hlt]
      have ht := OutQ.tick s
      by_cases h4 : x.kind = 4
      · rw [if_pos h4]; exact ht.trans (hm.loop d c x (tick s))
      rw [if_neg h4]
      by_cases h5 : x.kind = 5
      · rw [if_pos h5]; exact ht
      rw [if_neg h5]
      by_cases h6 : x.kind = 6
      · rw [if_pos h6]; exact ht
      rw [if_neg h6]
      have h1 := argsM_out (hm.expr d c.vars) x.args (tick s)
      show OutQ s (match argsM (m.expr d c.vars) x.args (tick s) with | .stop a b s => _ | .ok args s => _ : Res (Int × CSt)).fin
      cases hl : argsM (m.expr d c.vars) x.args (tick s) with
      | stop a b u => rw [hl] at h1; exact ht.trans h1
      | ok args u =>
        rw [hl] at h1
        have h2 : OutQ s u := ht.trans h1
        have h3 : u.out.length + 1 + s.steps ≤ s.out.length + u.steps := by
          have h1 : u.out.length + (s.steps + 1) ≤ s.out.length + u.steps := h1
          omega
        show OutQ s _
        dsimp only
        repeat' split
        all_goals first
          | exact h2
          | exact h2.trans (blockM_out (hm.stmt d) _ _ _)
          | (show (u.out ++ _).length + s.steps ≤ s.out.length + u.steps; rw [List.length_append]; exact h3)
    · show OutQ s (loopM m d c x s).fin
      unfold loopM
      have h1 := hm.expr d c.vars (x.args.getD 0 (.mk 0 0 0 [] [])) s
      cases he : m.expr d c.vars (x.args.getD 0 (.mk 0 0 0 [] [])) s with
      | stop a b u => rw [he] at h1; exact h1
      | ok n u =>
        rw [he] at h1
        refine h1.trans ?_
        show OutQ u _
        simp only
        split
        · exact OutQ.refl u
        have h2 := blockM_out (hm.stmt d) x.thn c u
        cases hl : blockM (m.stmt d) x.thn c u with
        | stop a b v => rw [hl] at h2; exact h2
        | ok r v =>
          rw [hl] at h2
          refine h2.trans ?_
          simp only
          split
          · exact OutQ.refl v
          split
          · exact OutQ.refl v
          exact hm.loop d r.2 x v
theorem run_out (p : LP) (inp : List Int) (most : Int) (k : Nat) : (runM p k inp most).out.length ≤ (runM p k inp most).steps := by
  rw [runM_eq]
  have h := callM_out (p := p) (mach_out p most k) 0 wMain [] (st0 p inp)
  obtain ⟨x, hx⟩ : ∃ x, x = callM p (mach p most k).stmt 0 wMain [] (st0 p inp) := ⟨_, rfl⟩
  rw [← hx] at h ⊢
  have h2 : x.fin.out.length ≤ x.fin.steps := by
    have h : x.fin.out.length + 0 ≤ 0 + x.fin.steps := h
    omega
  cases x <;> exact h2
theorem pick_nat (c : Int) : ∃ n : Nat, pickI c 1001 = n ∧ n ≤ 1000 := by
  have := pickI_nonneg c 1001 (by decide)
  exact ⟨(pickI c 1001).toNat, by omega, by omega⟩
set_option maxRecDepth 100000 in
set_option maxHeartbeats 8000000 in
/-- EvalSteps, walked -/
theorem evalSteps_any (W : World) (rv iv : Value) (raw inp : List Int) (hr : RInts W rv raw) (hc : ∃ a c, rv = .slice a raw.length c ∧ raw.length ≤ c) (hi : RIn (· < W.heap.size) W iv inp) (st mo : Int) (hst : InI st) (hmo : InI mo) :
    Calls Tryz.prog 4 #[rv, iv, I st, I mo] W fun e w' => e = .returned (.bool true) ∧ Below W.heap.size W w' := by
  have HAW := Lib.hid (awake_any W)
  have HI := Lib.hid hi
  obtain ⟨ra, rc, rfl, hrc⟩ := hc
  obtain ⟨ia, ik, rfl, -⟩ := id hi.room
  obtain ⟨RN, hRN⟩ : ∃ n, n = raw.length := ⟨_, rfl⟩
  obtain ⟨IN, hIN⟩ : ∃ n, n = inp.length := ⟨_, rfl⟩
  have HPG := Lib.hid (fun (w : World) (hb : Below W.heap.size W w) => prog14_any w (.slice ra raw.length rc) raw (RInts.below hb hr) ⟨_, _, rfl, hrc⟩)
  rw [← hRN] at HPG ⊢
  rw [← hIN] at HI ⊢
  obtain ⟨n, hn, hn2⟩ := pick_nat st
  obtain ⟨m, hm, hm2⟩ := pick_nat mo
  have HP1 := Lib.hid (fun W => hn ▸ pick15_any st 1001 hst (by decide) (by decide) W)
  have HP2 := Lib.hid (fun W => hm ▸ pick15_any mo 1001 hmo (by decide) (by decide) W)
  clear hr hi hRN hIN hn hm hst hmo hrc
  go_enter Tryz.func4, Tryz.ntmps4
  go_upto_region 5 with (first
    | (go_at_call 11; refine HAW.out.mono ?_; rintro e' w1 ⟨rfl, hb1⟩; have HB1 := Lib.hid hb1; clear hb1)
    | (go_at_call 14; refine (HPG.out _ HB1.out).mono ?_; rintro e' w2 ⟨av, fv, ars, fs, rfl, hraw, hpx, hb2⟩; obtain ⟨aa, ac, fa, fc, rfl, rfl⟩ := hpx.slice; have HB2 := Lib.hid (HB1.out.trans (hb2.mono HB1.out.size)); obtain ⟨p, hp⟩ : ∃ p, p = rawP ars fs := ⟨_, rfl⟩; have hrs := hraw.can; rw [← hp] at hpx hrs; obtain ⟨AN, hAN⟩ : ∃ n, n = p.arrays.length := ⟨_, rfl⟩; obtain ⟨FN, hFN⟩ : ∃ n, n = p.funcs.length := ⟨_, rfl⟩; have hAN' : (rawP ars fs).arrays.length = AN := (by rw [hAN, hp]); have hFN' : (rawP ars fs).funcs.length = FN := (by rw [hFN, hp]); rw [hAN', hFN']; rw [← hAN, ← hFN] at hpx; have HPX := Lib.hid (PX.lt hpx); have HRS := Lib.hid hrs; clear hraw hpx hrs hb2 hp hAN hFN hAN' hFN' HPG)
    | (go_at_call 15; first | (refine (HP1.out _).mono ?_; rintro e' wp ⟨rfl, rfl⟩; clear HP1) | (refine (HP2.out _).mono ?_; rintro e' wp ⟨rfl, rfl⟩; clear HP2)))
  obtain ⟨w3, hw3⟩ : ∃ w, w = w2.alloc (.cells #[.slice aa AN ac, .slice fa FN fc] 27) := ⟨_, rfl⟩
  obtain ⟨pb, hpb⟩ : ∃ n, n = w2.heap.size := ⟨_, rfl⟩
  have hb3 : Below W.heap.size W w3 := by rw [hw3]; exact HB2.out.alloc HB2.out.size _
  have hr3 : Row w3 pb 27 [.slice aa AN ac, .slice fa FN fc] := by rw [hw3, hpb]; exact heap_new _ _
  have hx3 : PX (· < w3.heap.size) w3 (.slice aa AN ac) (.slice fa FN fc) p := by rw [hw3]; exact PX.lt (HPX.out.grown (alloc_grown _ _ none) (fun r e => by cases e))
  rw [← hw3, ← hpb]
  obtain ⟨A, hA⟩ : ∃ A, A = runM p 4001 inp (n : Int) := ⟨_, rfl⟩
  obtain ⟨B, hB⟩ : ∃ B, B = runM p 4001 inp ((n + m : Nat) : Int) := ⟨_, rfl⟩
  have hmore := run_more p inp n (n + m) 4001 (by omega) (by omega)
  have hmore2 := run_more p inp (n + m) (n + m) 4001 (by omega) (Nat.le_refl _)
  have hoA := run_out p inp (n : Int) 4001
  have hoB := run_out p inp ((n + m : Nat) : Int) 4001
  rw [← hA] at hmore hoA
  rw [← hB] at hmore hmore2 hoB
  have hin : ∀ w, Below W.heap.size W w → RIn (· < w.heap.size) w (.slice ia IN ik) inp := fun w hb => ⟨(HI.out.sl.grown (below_grown hb none) (fun r e => by cases e) (fun _ _ h => h)).weak (fun b hb' => Nat.lt_of_lt_of_le hb' hb.size) (fun _ _ h => h), HI.out.room⟩
  have HRA := Lib.hid (fun (w : World) (hb : Below W.heap.size W w) (hx : PX (· < w.heap.size) w (.slice aa AN ac) (.slice fa FN fc) p) => hA ▸ run_any p HRS.out (.slice aa AN ac) (.slice fa FN fc) (.slice ia IN ik) inp (n : Int) w hx (hin w hb) (by omega) 4001 (by omega))
  have hRB := fun (w : World) (hb : Below W.heap.size W w) (hx : PX (· < w.heap.size) w (.slice aa AN ac) (.slice fa FN fc) p) => hB ▸ run_any p HRS.out (.slice aa AN ac) (.slice fa FN fc) (.slice ia IN ik) inp ((n + m : Nat) : Int) w hx (hin w hb) (by omega) 4001 (by omega)
  rw [show ((n + m : Nat) : Int) = (n : Int) + m from by omega] at hRB
  have HRB := Lib.hid hRB
  have HMO := Lib.hid hmore
  have c0 := hr3.cell 0
  have c1 := hr3.cell 1
  simp only [List.getElem?_cons_zero, List.getElem?_cons_succ] at c0 c1
  have HB3 := Lib.hid hb3
  have HR3 := Lib.hid hr3
  have HX3 := Lib.hid hx3
  have hAw := hmore.within
  have hAB := hmore.steps
  have hBw := hmore2.within
  clear hw3 hpb hb3 hr3 hx3 hA hB hmore hmore2 hin hRB HRS HPX HI
  go_upto_region 6 with (first
    | (go_at_call 17; refine (HRA.out _ HB3.out HX3.out).mono ?_; rintro e' w4 ⟨ov, rfl, ho, hb4⟩; have hL := ho.rslB (by omega); obtain ⟨oa, oc, rfl, -, -⟩ := id hL; have HOL := Lib.hid hL; have HB4 := Lib.hid (HB3.out.trans (hb4.mono HB3.out.size)); have HR4 := Lib.hid (HR3.out.ext hb4); have HX4 := Lib.hid (PX.lt (HX3.out.below hb4)); clear hL ho hb4 c0 c1)
    | (refine store_first 37 (.tmp 13) (.tmp 25) rfl ?_; refine wpList_store_row rfl 37 (.tmp 13) (.tmp 25) rfl w4.heap.size _ rfl rfl 37 r37Z (heap_new _ _) (by kernel_rfl) (by rfl) (by simp [Value.oneCell']) ?_))
  obtain ⟨w5, hw5⟩ : ∃ w, w = (w4.alloc (.cells r37Z 37)).setRow w4.heap.size #[I A.status, I A.code, .slice oa A.out.length oc, I A.steps] := ⟨_, rfl⟩
  have hw5' : w5 = w4.alloc (.cells #[I A.status, I A.code, .slice oa A.out.length oc, I A.steps] 37) := by rw [hw5]; exact World.setRow_alloc_new _ _ _ _
  obtain ⟨sb, hsb⟩ : ∃ n, n = w4.heap.size := ⟨_, rfl⟩
  have hb45 : Below w4.heap.size w4 w5 := by rw [hw5']; exact below_a1 _ _
  have hr5 : Row w5 sb 37 [I A.status, I A.code, .slice oa A.out.length oc, I A.steps] := by rw [hw5', hsb]; exact heap_new _ _
  change Code.wp _ _ _ _ ((w4.alloc (.cells r37Z 37)).setRow w4.heap.size #[I A.status, I A.code, .slice oa A.out.length oc, I A.steps])
  rw [← hw5, ← hsb]
  have HB5 := Lib.hid (HB4.out.trans (hb45.mono HB4.out.size))
  have HR5 := Lib.hid (HR4.out.ext hb45)
  have HX5 := Lib.hid (PX.lt (HX4.out.below hb45))
  have HOA := Lib.hid (Lst.below HOL.out hb45)
  have HS5 := Lib.hid hr5
  have c0 := HR5.out.cell 0
  have c1 := HR5.out.cell 1
  simp only [List.getElem?_cons_zero, List.getElem?_cons_succ] at c0 c1
  clear hw5 hw5' hsb hb45 hr5 HR4 HX4 HOL
  go_upto_region 7 with (first
    | (go_at_call 17; refine (HRB.out _ HB5.out HX5.out).mono ?_; rintro e' w6 ⟨ov, rfl, ho, hb6⟩; have hL := ho.rslB (by omega); obtain ⟨oa2, oc2, rfl, -, -⟩ := id hL; have HOL2 := Lib.hid hL; have HB6 := Lib.hid (HB5.out.trans (hb6.mono HB5.out.size)); have HS6 := Lib.hid (HS5.out.ext hb6); have HOA6 := Lib.hid (Lst.below HOA.out hb6); clear hL ho hb6 c0 c1)
    | (refine store_first 37 (.tmp 14) (.tmp 31) rfl ?_; refine wpList_store_row rfl 37 (.tmp 14) (.tmp 31) rfl w6.heap.size _ rfl rfl 37 r37Z (heap_new _ _) (by kernel_rfl) (by rfl) (by simp [Value.oneCell']) ?_))
  obtain ⟨w7, hw7⟩ : ∃ w, w = (w6.alloc (.cells r37Z 37)).setRow w6.heap.size #[I B.status, I B.code, .slice oa2 B.out.length oc2, I B.steps] := ⟨_, rfl⟩
  have hw7' : w7 = w6.alloc (.cells #[I B.status, I B.code, .slice oa2 B.out.length oc2, I B.steps] 37) := by rw [hw7]; exact World.setRow_alloc_new _ _ _ _
  obtain ⟨tb, htb⟩ : ∃ n, n = w6.heap.size := ⟨_, rfl⟩
  have hb67 : Below w6.heap.size w6 w7 := by rw [hw7']; exact below_a1 _ _
  have hr7 : Row w7 tb 37 [I B.status, I B.code, .slice oa2 B.out.length oc2, I B.steps] := by rw [hw7', htb]; exact heap_new _ _
  change Code.wp _ _ _ _ ((w6.alloc (.cells r37Z 37)).setRow w6.heap.size #[I B.status, I B.code, .slice oa2 B.out.length oc2, I B.steps])
  rw [← hw7, ← htb]
  have HB7 := Lib.hid (HB6.out.trans (hb67.mono HB6.out.size))
  have HA7 := Lib.hid (HS6.out.ext hb67)
  have HT7 := Lib.hid hr7
  have HLA := Lib.hid (Lst.below HOA6.out hb67)
  have HLB := Lib.hid (Lst.below HOL2.out hb67)
  clear hw7 hw7' htb hb67 hr7 HS6 HOA6 HOL2 HS5 HOA HX5 HR5 HR3 HX3 HB3 HB4 HB5 HRA HRB
  obtain ⟨AL, hAL⟩ : ∃ n, n = A.out.length := ⟨_, rfl⟩
  obtain ⟨BL, hBL⟩ : ∃ n, n = B.out.length := ⟨_, rfl⟩
  have HBG := Lib.hid (begins_yes A.out B.out HMO.out.out _ _ w7 HLA.out HLB.out)
  rw [← hAL] at HA7 HLA HBG ⊢
  rw [← hBL] at HT7 HLB HBG ⊢
  have a2 := HA7.out.cell 2
  have a3 := HA7.out.cell 3
  have b2 := HT7.out.cell 2
  have b3 := HT7.out.cell 3
  simp only [List.getElem?_cons_zero, List.getElem?_cons_succ] at a2 a3 b2 b3
  have g1 : ¬ (n : Int) < (A.steps : Int) := by omega
  have g2 : ¬ (n : Int) + m < (B.steps : Int) := by omega
  have g3 : ¬ (B.steps : Int) < (A.steps : Int) := by omega
  have HAL := Lib.hid hAL
  have HBL := Lib.hid hBL
  clear hAL hBL hoA hoB hAw hAB hBw
  go_upto_region 9 with (first
    | (go_at_call 22; refine HBG.out.mono ?_; rintro e' w8 ⟨rfl, hb8⟩; have HB8 := Lib.hid (HB7.out.trans (hb8.mono HB7.out.size)); have HA8 := Lib.hid (HA7.out.ext hb8); have HT8 := Lib.hid (HT7.out.ext hb8); have HLA8 := Lib.hid (Lst.below HLA.out hb8); have HLB8 := Lib.hid (Lst.below HLB.out hb8); clear hb8 a2 a3 b2 b3))
  have a0 := HA8.out.cell 0
  simp only [List.getElem?_cons_zero] at a0
  by_cases hz : A.status = 0
  · obtain ⟨hs, hcd⟩ := HMO.out.going hz
    have a1 := HA8.out.cell 1
    have a3 := HA8.out.cell 3
    simp only [List.getElem?_cons_zero, List.getElem?_cons_succ] at a1 a3
    rw [hz] at a0
    rw [hcd] at a1
    rw [hs] at a3
    clear hz hs hcd HMO
    go_wp2
    go_ret
    exact ⟨rfl, HB8.out⟩
  · have hAB := HMO.out.same hz
    subst hAB
    have hbl : BL = AL := by rw [HBL.out, HAL.out]
    subst hbl
    have HSM := Lib.hid (same_yes A.status A.code (A.steps : Int) A.out _ _ w8 HLA8.out HLB8.out)
    have a1 := HA8.out.cell 1
    have a2 := HA8.out.cell 2
    have a3 := HA8.out.cell 3
    have b0 := HT8.out.cell 0
    have b1 := HT8.out.cell 1
    have b2 := HT8.out.cell 2
    have b3 := HT8.out.cell 3
    simp only [List.getElem?_cons_zero, List.getElem?_cons_succ] at a1 a2 a3 b0 b1 b2 b3
    clear HMO g1 g2 g3
    go_wp2_with (first
      | (go_at_call 16; refine HSM.out.mono ?_; rintro e' w9 ⟨rfl, hb9⟩; have HB9 := Lib.hid (HB8.out.trans (hb9.mono HB8.out.size)); clear hb9 a0 a1 a2 a3 b0 b1 b2 b3))
    go_ret
    exact ⟨rfl, HB9.out⟩
end Go.Proofs.YtjgbkdbkachciaaGreatDoor
