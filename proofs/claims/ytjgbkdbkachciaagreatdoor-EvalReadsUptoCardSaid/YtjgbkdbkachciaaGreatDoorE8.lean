import Derived.Test.YtjgbkdbkachciaaGreatDoorE7
import Derived.Test.YtjgbkdbkachciaaGreatDoorE4
namespace Go.Proofs.YtjgbkdbkachciaaGreatDoor
open Go.RowKit Go.Shelf
attribute [local go_sem] Oper.semAt_some

abbrev fdMain : FD := ⟨⟨wMain, 0, 0, []⟩, none, 0, none, 0, none, 0⟩
theorem fdMain_part (B : Nat → Prop) (w : World) : PartF B w fdMain := ⟨RSlB.nil _ _ _ _, RSlB.nil _ _ _ _, 0, RSlB.nil _ _ _ _⟩
theorem grown_refl (w : World) (row : Option Nat) : w.grownBy w row := ⟨rfl, rfl, rfl, Nat.le_refl _, fun _ _ _ => rfl⟩
theorem nmF_at {k : Nat} (h1 : 0 < k) (h2 : k < 3) : [S ([102] : Str), S nG, S nH][k]? = some (S (nmF k)) := by
  have : k = 1 ∨ k = 2 := by omega
  rcases this with rfl | rfl <;> rfl
abbrev cZ : List Value := [.slice none 0 0, .slice none 0 0, .slice none 0 0, .bool false, .bool false]
abbrev p2Z : List Value := [.slice none 0 0, .slice none 0 0]
theorem nmA_at {k : Nat} (h1 : 0 < k) (h2 : k < 3) : [S ([97] : Str), S nB, S nC][k]? = some (S (nmA k)) := by
  have : k = 1 ∨ k = 2 := by omega
  rcases this with rfl | rfl <;> rfl
theorem szA_at {r : Nat} (h : r < 4) : ∃ z : Nat, 1 ≤ z ∧ z ≤ 1000 ∧ [I 1, I 4, I 10, I 1000][r]? = some (I z) := by
  have : r = 0 ∨ r = 1 ∨ r = 2 ∨ r = 3 := by omega
  rcases this with rfl | rfl | rfl | rfl
  · exact ⟨1, by decide, by decide, rfl⟩
  · exact ⟨4, by decide, by decide, rfl⟩
  · exact ⟨10, by decide, by decide, rfl⟩
  · exact ⟨1000, by decide, by decide, rfl⟩
set_option maxRecDepth 100000 in
set_option maxHeartbeats 8000000 in
/-- a program of raw numbers -/
theorem prog14_any (W : World) (v : Value) (l : List Int) (hl : RInts W v l) (hc : ∃ a c, v = .slice a l.length c ∧ l.length ≤ c) :
    Calls Tryz.prog 14 #[v, .bool false] W fun en w' => ∃ (av fv : Value) (ars : List LA) (fs : List PQ), en = .returned (.agg #[av, fv]) ∧ RawP ars fs ∧ PX (W.heap.size ≤ ·) w' av fv (rawP ars fs) ∧ Below W.heap.size W w' := by
  obtain ⟨Q, hQ⟩ : ∃ Q : Ending → World → Prop, Q = fun en w' => ∃ (av fv : Value) (ars : List LA) (fs : List PQ), en = .returned (.agg #[av, fv]) ∧ RawP ars fs ∧ PX (W.heap.size ≤ ·) w' av fv (rawP ars fs) ∧ Below W.heap.size W w' := ⟨_, rfl⟩
  rw [← hQ]
  have HQ := Lib.hid hQ
  clear hQ
  obtain ⟨a, c, rfl, hlc⟩ := hc
  have hlt : ∀ n, n ≤ l.length → n ≤ 1000000000 → RSlB (· < W.heap.size) 1 RInt W (.slice a n c) (l.take n) := fun n h1 h2 => RInts.take hl h1 h2
  obtain ⟨L, hL⟩ : ∃ n, n = l.length := ⟨_, rfl⟩
  rw [← hL] at hlc hlt ⊢
  have HLT := Lib.hid hlt
  have HLN := Lib.hid hL
  clear hl hlt hL
  obtain ⟨w1, hw1⟩ : ∃ w1, w1 = (W.alloc (.cells #[.slice none 0 0, .slice none 0 0] 27)).alloc (.cells #[.slice a L c, .int .i64 0] 61) := ⟨_, rfl⟩
  have hwe := hw1.symm
  have hb1 : Below W.heap.size W w1 := by rw [hw1]; exact below_a2 _ _ _
  have hr1 : Row w1 W.heap.size 27 p2Z := by rw [hw1]; exact heap_old _ _ (heap_new _ _)
  have hr2 : Row w1 (W.heap.size + 1) 61 [.slice a L c, I 0] := by rw [hw1]; exact heap_at (by simp)
  have HB1 := Lib.hid hb1
  have HR1 := Lib.hid hr1
  have HR2 := Lib.hid hr2
  clear hw1 hb1 hr1 hr2
  go_enter Tryz.func14, Tryz.ntmps14
  go_upto_region 2 with (fail)
  rename_i KR hKR K2 hK2
  have hrest : ∀ (x15 x16 x17 x18 x19 x20 x21 x22 x23 x24 x25 : Value) (w2 : World), Below W.heap.size W w2 → Row w2 W.heap.size 27 p2Z → Src (W.heap.size + 1) w2 → KR { tmps := #[.slice a L c, .bool false, undef, undef, .pointer (some ⟨W.heap.size, 0, none⟩), .pointer (some ⟨W.heap.size + 1, 0, none⟩), undef, undef, undef, undef, undef, undef, undef, undef, undef, x15, x16, x17, x18, x19, x20, x21, x22, x23, x24, x25, undef, undef, undef, undef, undef, undef, undef, undef, undef, undef, undef, undef, undef, undef, undef, undef, undef, undef, undef, undef, undef, undef, undef, undef, undef, undef, undef, undef, undef, undef, undef, undef, undef, undef, undef, undef, undef, undef, undef, undef, undef, undef, undef, undef, undef, undef, undef, undef, undef, undef, undef, undef, undef, undef, undef, undef, undef, undef, undef, undef, undef, undef, undef, undef, undef, undef, undef, undef, undef, undef, undef, undef, undef, undef, undef, undef, undef, undef, undef, undef, undef, undef, undef, undef, undef, undef, undef, undef, undef, undef, undef, undef, undef, undef], defers := [] } w2 := by
    intro x15 x16 x17 x18 x19 x20 x21 x22 x23 x24 x25 w2 hb2 hr2 hs2
    refine hKR _ _ ?_
    clear hKR hK2 KR K2
    have hl2 := hs2.lt
    have HB2 := Lib.hid hb2
    have HO2 := Lib.hid hr2
    have HS2 := Lib.hid hs2
    clear hb2 hr2 hs2 HB1 HR1 HR2 HLT HLN
    go_upto_region 6 with (fail)
    obtain ⟨w3, hw3⟩ : ∃ w3, w3 = (w2.alloc (.cells #[.slice none 0 0, .slice none 0 0, .slice none 0 0, .bool false, .bool false] 64)).alloc (.cells #[.slice none 0 0, .slice none 0 0] 27) := ⟨_, rfl⟩
    have hg3 : w2.grownBy w3 none := by rw [hw3]; exact (alloc_grown _ _ none).trans (alloc_grown _ _ none)
    have hpg3 : PgI W w2.heap.size (w2.heap.size + 1) cZ p2Z w3 := by
      refine ⟨HB2.out.grown hg3 HB2.out.size (fun r e => by cases e), HO2.out.kept hg3 (by simp), ?_, ?_, HS2.out.kept hg3 (fun r e => by cases e), hl2, Nat.lt_succ_self _⟩
      · rw [hw3]; exact heap_old _ _ (heap_new _ _)
      · rw [hw3]; exact heap_at (by simp)
    rw [← hw3]
    obtain ⟨cb, hcb⟩ : ∃ n, n = w2.heap.size := ⟨_, rfl⟩
    obtain ⟨pb, hpb⟩ : ∃ n, n = w2.heap.size + 1 := ⟨_, rfl⟩
    rw [← hpb, ← hcb] at hpg3
    rw [← hpb, ← hcb]
    have hlc2 := hpg3.lc
    have hlp2 := hpg3.lp
    have hl3 := hpg3.lt
    have HP3 := Lib.hid hpg3
    clear hw3 hg3 hpg3 hcb hpb HB2 HO2 HS2 hl2
    go_upto_region 7 with (first
      | (go_at_call 25; refine (next25_any (W.heap.size + 1) 3 w3 HP3.out.src (by omega) (by omega)).mono ?_; rintro e w4 ⟨⟨r, rfl, hr0, hr3⟩, hs4⟩; obtain ⟨n1, rfl⟩ := nat_of hr0; have HP4 := Lib.hid (HP3.out.draw hs4); clear hs4 hr0))
    go_loopg [8] n1 (fun gh i wr => ∃ k : Nat, gh = k ∧ i = I k ∧ Hid (k ≤ n1 ∧ ∃ (ars : List LA) (arv : Value), ars.map (·.name) = dn nmA n1 k ∧ (∀ x ∈ ars, 1 ≤ x.size ∧ x.size ≤ 1048576) ∧ PgI W cb pb cZ [arv, .slice none 0 0] wr ∧ OwnS 2 68 a2Enc wr (pb + 1) arv ars))
    case atStart => exact ⟨n1, rfl, rfl, Lib.hid ⟨Nat.le_refl _, [], _, (dn_start _ _).symm, (fun x hx => by cases hx), HP4.out, OwnS.nil⟩⟩
    case round =>
      obtain ⟨k, hg, rfl, HH⟩ := hrel
      obtain ⟨wo, rfl⟩ : ∃ wo, wo = wr := ⟨_, rfl⟩
      obtain ⟨hkn, ars, arv, hnm, hsz, hpg, hown⟩ := HH.out
      have HPG := Lib.hid hpg
      have HOWN := Lib.hid hown
      have HNM := Lib.hid hnm
      have HSZ := Lib.hid hsz
      clear HH hpg hown hnm hsz
      by_cases hk0 : 0 < k
      · have hk0z : (0 : Int) < (k : Int) := by omega
        have hk3 : k < 3 := by omega
        go_upto_region 9 with (fail)
        have hsb9 : W.heap.size + 1 < wo.heap.size := by have := HPG.out.lt; have := HPG.out.lc; have := HPG.out.lp; omega
        have hsg0 : SG (W.heap.size + 1) wo wo := ⟨⟨rfl, rfl, rfl, Nat.le_refl _, fun _ _ _ => rfl⟩, HPG.out.src⟩
        refine (wpIn_wide (n := 8)).1 ?_
        refine wpIn_region_rvP (by kernel_rfl) [11] (by decide) (by kernel_rfl) (by kernel_rfl) (fun vs => by kernel_rfl)
          (fun st us X => SG (W.heap.size + 1) wo X ∧ match st with
            | 0 => True
            | _ => ∃ g z : Nat, us 10 = .pointer (some ⟨g, 0, none⟩) ∧ wo.heap.size ≤ g ∧ Row X g 68 [S (nmA k), I z] ∧ 1 ≤ z ∧ z ≤ 1000)
          (StepX 68 (W.heap.size + 1) wo.heap.size)
          (fun i v X => match i with
            | 0 => ∃ g, v = .slice (some ⟨g, 0, none⟩) 3 3 ∧ wo.heap.size ≤ g ∧ Row X g 9 [S ([97] : Str), S nB, S nC]
            | 1 => v = I k
            | 2 => ∃ g, v = .pointer (some ⟨g, k, none⟩) ∧ wo.heap.size ≤ g ∧ Row X g 9 [S ([97] : Str), S nB, S nC]
            | 3 => v = S (nmA k)
            | 4 => ∃ g, v = .slice (some ⟨g, 0, none⟩) 4 4 ∧ wo.heap.size ≤ g ∧ Row X g 3 [I 1, I 4, I 10, I 1000]
            | 5 => v = .pointer (some ⟨W.heap.size + 1, 0, none⟩)
            | 6 => ∃ r : Nat, v = I r ∧ r < 4
            | 7 => ∃ g r, v = .pointer (some ⟨g, r, none⟩) ∧ r < 4 ∧ wo.heap.size ≤ g ∧ Row X g 3 [I 1, I 4, I 10, I 1000]
            | 8 => ∃ z : Nat, v = I z ∧ 1 ≤ z ∧ z ≤ 1000
            | 9 => ∃ z : Nat, v = .agg #[S (nmA k), I z] ∧ 1 ≤ z ∧ z ≤ 1000
            | 10 => ∃ (g : Nat) (cs : List Value), v = .pointer (some ⟨g, 0, none⟩) ∧ wo.heap.size ≤ g ∧ cs.length = 2 ∧ Row X g 68 cs
            | _ => True) ?h0 ?hst ?hop ?hend
        case h0 => exact ⟨⟨⟨rfl, rfl, rfl, Nat.le_refl _, fun _ _ _ => rfl⟩, HPG.out.src⟩, trivial⟩
        case hst =>
          intro j v X X' hst hΦ
          match j, hΦ with
          | 0, ⟨g, h1, h2, h3⟩ => exact ⟨g, h1, h2, hst.row h3 (by decide) h2 hsb9⟩
          | 1, h => exact h
          | 2, ⟨g, h1, h2, h3⟩ => exact ⟨g, h1, h2, hst.row h3 (by decide) h2 hsb9⟩
          | 3, h => exact h
          | 4, ⟨g, h1, h2, h3⟩ => exact ⟨g, h1, h2, hst.row h3 (by decide) h2 hsb9⟩
          | 5, h => exact h
          | 6, h => exact h
          | 7, ⟨g, r, h1, h0, h2, h3⟩ => exact ⟨g, r, h1, h0, h2, hst.row h3 (by decide) h2 hsb9⟩
          | 8, h => exact h
          | 9, h => exact h
          | 10, ⟨g, cs, h1, h2, h4, h3⟩ => obtain ⟨cs', h5, h6⟩ := hst.new g cs h2 h3; exact ⟨g, cs', h1, h2, h5.trans h4, h6⟩
          | j + 11, h => trivial
        case hop =>
          refine ⟨?_, ?_, ?_, ?_, ?_, ?_, ?_, ?_, ?_, ?_, ?_, ?_, trivial⟩
          · rintro stg a W4 vs ho hstg hC hΦ hsz hr
            obtain rfl := rgStage_k hstg 0 (by kernel_rfl) (by kernel_rfl)
            refine rg_val ho rfl (fun _ _ => trivial) (by intro c h; cases h) (v := .slice (some ⟨W4.heap.size, 0, none⟩) 3 3) (W' := W4.alloc (.cells #[.string ⟨#[97]⟩, .string ⟨#[98]⟩, .string ⟨#[99]⟩] 9)) ?_ ⟨_, rfl, ⟨hC.1.post (alloc_grown _ _ none) hsb9 (fun r e => by cases e), trivial⟩, StepX.al _ _ _ _ _ hsb9, _, rfl, hC.1.size, heap_new _ _⟩
            go_simp
          · rintro stg a W4 vs ho hstg hC hΦ hsz hr
            obtain rfl := rgStage_k hstg 0 (by kernel_rfl) (by kernel_rfl)
            have r1 : a.tmps.getD 8 undef = (I k) := (hr 8 (by simp [Oper.looksAt, Op.operands])).trans (show slotOf _ _ vs _ 8 = (I k) from by kernel_rfl)
            refine rg_val ho rfl (fun _ _ => trivial) (by intro c h; cases h) (v := I k) (W' := W4) ?_ ⟨_, rfl, hC, StepX.refl _ _ _ _ hsb9, rfl⟩
            go_simp
          · rintro stg a W4 vs ho hstg hC hΦ hsz hr
            obtain rfl := rgStage_k hstg 0 (by kernel_rfl) (by kernel_rfl)
            have r1 : a.tmps.getD 34 undef = vs 0 := (hr 34 (by simp [Oper.looksAt, Op.operands])).trans (show slotOf _ _ vs _ 34 = vs 0 from by kernel_rfl)
            have r2 : a.tmps.getD 35 undef = vs 1 := (hr 35 (by simp [Oper.looksAt, Op.operands])).trans (show slotOf _ _ vs _ 35 = vs 1 from by kernel_rfl)
            obtain ⟨g, hv0, hg0, hrow⟩ := hΦ 0 (by kernel_rfl)
            have hv1 : vs 1 = I k := hΦ 1 (by kernel_rfl)
            rw [hv0] at r1
            rw [hv1] at r2
            have hkn : ¬ (3 : Int) ≤ k := by omega
            refine rg_val ho rfl (fun _ _ => trivial) (by intro c h; cases h) (v := .pointer (some ⟨g, k, none⟩)) (W' := W4) ?_ ⟨_, rfl, hC, StepX.refl _ _ _ _ hsb9, g, rfl, hg0, hrow⟩
            go_simp
          · rintro stg a W4 vs ho hstg hC hΦ hsz hr
            obtain rfl := rgStage_k hstg 0 (by kernel_rfl) (by kernel_rfl)
            have r1 : a.tmps.getD 36 undef = vs 2 := (hr 36 (by simp [Oper.looksAt, Op.operands])).trans (show slotOf _ _ vs _ 36 = vs 2 from by kernel_rfl)
            obtain ⟨g, hv2, hg0, hrow⟩ := hΦ 2 (by kernel_rfl)
            rw [hv2] at r1
            have ck := (hrow.cell k).trans (nmA_at hk0 hk3)
            refine rg_val ho rfl (fun _ _ => trivial) (by intro c h; cases h) (v := S (nmA k)) (W' := W4) ?_ ⟨_, rfl, hC, StepX.refl _ _ _ _ hsb9, rfl⟩
            go_simp
          · rintro stg a W4 vs ho hstg hC hΦ hsz hr
            obtain rfl := rgStage_k hstg 0 (by kernel_rfl) (by kernel_rfl)
            refine rg_val ho rfl (fun _ _ => trivial) (by intro c h; cases h) (v := .slice (some ⟨W4.heap.size, 0, none⟩) 4 4) (W' := W4.alloc (.cells #[I 1, I 4, I 10, I 1000] 3)) ?_ ⟨_, rfl, ⟨hC.1.post (alloc_grown _ _ none) hsb9 (fun r e => by cases e), trivial⟩, StepX.al _ _ _ _ _ hsb9, _, rfl, hC.1.size, heap_new _ _⟩
            go_simp
          · rintro stg a W4 vs ho hstg hC hΦ hsz hr
            obtain rfl := rgStage_k hstg 0 (by kernel_rfl) (by kernel_rfl)
            have r1 : a.tmps.getD 5 undef = (.pointer (some ⟨W.heap.size + 1, 0, none⟩)) := (hr 5 (by simp [Oper.looksAt, Op.operands])).trans (show slotOf _ _ vs _ 5 = (.pointer (some ⟨W.heap.size + 1, 0, none⟩)) from by kernel_rfl)
            refine rg_val ho rfl (fun _ _ => trivial) (by intro c h; cases h) (v := .pointer (some ⟨W.heap.size + 1, 0, none⟩)) (W' := W4) ?_ ⟨_, rfl, hC, StepX.refl _ _ _ _ hsb9, rfl⟩
            go_simp
          · rintro stg a W4 vs ho hstg hC hΦ hsz hr
            obtain rfl := rgStage_k hstg 0 (by kernel_rfl) (by kernel_rfl)
            have r1 : a.tmps.getD 39 undef = _ := ((hr 39 (by simp [Oper.looksAt, Op.operands, Call.operands])).trans (show slotOf _ _ vs _ 39 = vs 5 from by kernel_rfl)).trans (hΦ 5 (by kernel_rfl))
            refine rg_call ho rfl (fun _ _ => trivial) (by intro c h; cases h) (f := 25) (args := #[.pointer (some ⟨W.heap.size + 1, 0, none⟩), I 4]) (W' := W4) ?_ (fun h => by cases h) (callsIn_wide.2 (next25_any (W.heap.size + 1) 4 W4 hC.1.2 (by omega) (by omega))) ?_
            · go_simp
            · rintro e w5 ⟨⟨r, rfl, hr0, hr4⟩, hs5⟩
              obtain ⟨m, rfl⟩ := nat_of hr0
              exact ⟨I m, rfl, _, rfl, ⟨hC.1.trans hs5, trivial⟩, StepX.of hs5.1 hsb9, m, rfl, by omega⟩
          · rintro stg a W4 vs ho hstg hC hΦ hsz hr
            obtain rfl := rgStage_k hstg 0 (by kernel_rfl) (by kernel_rfl)
            have r1 : a.tmps.getD 38 undef = vs 4 := (hr 38 (by simp [Oper.looksAt, Op.operands])).trans (show slotOf _ _ vs _ 38 = vs 4 from by kernel_rfl)
            have r2 : a.tmps.getD 40 undef = vs 6 := (hr 40 (by simp [Oper.looksAt, Op.operands])).trans (show slotOf _ _ vs _ 40 = vs 6 from by kernel_rfl)
            obtain ⟨g, hv4, hg0, hrow⟩ := hΦ 4 (by kernel_rfl)
            obtain ⟨m, hv6, hm4⟩ := hΦ 6 (by kernel_rfl)
            rw [hv4] at r1
            rw [hv6] at r2
            have hm4z : (m : Int) < 4 := by omega
            have hkn : ¬ (4 : Int) ≤ m := by omega
            refine rg_val ho rfl (fun _ _ => trivial) (by intro c h; cases h) (v := .pointer (some ⟨g, m, none⟩)) (W' := W4) ?_ ⟨_, rfl, hC, StepX.refl _ _ _ _ hsb9, g, m, rfl, hm4, hg0, hrow⟩
            go_simp
          · rintro stg a W4 vs ho hstg hC hΦ hsz hr
            obtain rfl := rgStage_k hstg 0 (by kernel_rfl) (by kernel_rfl)
            have r1 : a.tmps.getD 41 undef = vs 7 := (hr 41 (by simp [Oper.looksAt, Op.operands])).trans (show slotOf _ _ vs _ 41 = vs 7 from by kernel_rfl)
            obtain ⟨g, m, hv7, hm4, hg0, hrow⟩ := hΦ 7 (by kernel_rfl)
            rw [hv7] at r1
            obtain ⟨z, hz1, hz2, hz⟩ := szA_at hm4
            have ck := (hrow.cell m).trans hz
            refine rg_val ho rfl (fun _ _ => trivial) (by intro c h; cases h) (v := I z) (W' := W4) ?_ ⟨_, rfl, hC, StepX.refl _ _ _ _ hsb9, z, rfl, hz1, hz2⟩
            go_simp
          · rintro stg a W4 vs ho hstg hC hΦ hsz hr
            obtain rfl := rgStage_k hstg 0 (by kernel_rfl) (by kernel_rfl)
            have r1 : a.tmps.getD 37 undef = vs 3 := (hr 37 (by simp [Oper.looksAt, Op.operands])).trans (show slotOf _ _ vs _ 37 = vs 3 from by kernel_rfl)
            have r2 : a.tmps.getD 42 undef = vs 8 := (hr 42 (by simp [Oper.looksAt, Op.operands])).trans (show slotOf _ _ vs _ 42 = vs 8 from by kernel_rfl)
            have hv3 : vs 3 = S (nmA k) := hΦ 3 (by kernel_rfl)
            obtain ⟨z, hv8, hz1, hz2⟩ := hΦ 8 (by kernel_rfl)
            rw [hv3] at r1
            rw [hv8] at r2
            have h37 : 37 < a.tmps.size := by rw [hsz]; simp
            have h42 : 42 < a.tmps.size := by rw [hsz]; simp
            have q1 : a.tmps[37] = S (nmA k) := by simpa [Array.getD, h37] using r1
            have q2 : a.tmps[42] = I z := by simpa [Array.getD, h42] using r2
            refine rg_val ho rfl (fun _ _ => trivial) (by intro c h; cases h) (v := .agg #[S (nmA k), I z]) (W' := W4) ?_ ⟨_, rfl, hC, StepX.refl _ _ _ _ hsb9, z, rfl, hz1, hz2⟩
            go_simp
          · rintro stg a W4 vs ho hstg hC hΦ hsz hr
            obtain rfl := rgStage_k hstg 0 (by kernel_rfl) (by kernel_rfl)
            refine rg_val ho rfl (fun _ _ => trivial) (by intro c h; cases h) (v := .pointer (some ⟨W4.heap.size, 0, none⟩)) (W' := W4.alloc (.cells #[.string ⟨#[]⟩, .int .i64 0] 68)) ?_ ⟨_, rfl, ⟨hC.1.post (alloc_grown _ _ none) hsb9 (fun r e => by cases e), trivial⟩, StepX.al _ _ _ _ _ hsb9, _, [S [], I 0], rfl, hC.1.size, rfl, heap_new _ _⟩
            go_simp
          · rintro stg a W4 vs ho hstg hC hΦ hsz hr
            obtain rfl := rgStage_k hstg 0 (by kernel_rfl) (by kernel_rfl)
            have r1 : a.tmps.getD 9 undef = vs 10 := (hr 9 (by simp [Oper.looksAt, Op.operands])).trans (show slotOf _ _ vs _ 9 = vs 10 from by kernel_rfl)
            have r2 : a.tmps.getD 43 undef = vs 9 := (hr 43 (by simp [Oper.looksAt, Op.operands])).trans (show slotOf _ _ vs _ 43 = vs 9 from by kernel_rfl)
            obtain ⟨g, cs, hv10, hg0, hcs, hrow⟩ := hΦ 10 (by kernel_rfl)
            obtain ⟨z, hv9, hz1, hz2⟩ := hΦ 9 (by kernel_rfl)
            rw [hv10] at r1
            rw [hv9] at r2
            refine rg_row ho rfl 68 (.tmp 9) (.tmp 43) rfl g [S (nmA k), I z] r1 r2 68 cs hrow (by kernel_rfl) hcs (by simp [Value.oneCell']) ⟨_, rfl, ⟨hC.1.post setRow_grown hsb9 (fun r e => by cases e; exact hg0), g, z, hv10, hg0, setRow_heap _ _ _ _ _ _ hrow, hz1, hz2⟩, StepX.set hrow hcs.symm, trivial⟩
        case hend =>
          rintro us X ⟨hsg, g, z, hv10, hg9, hrow, hz1, hz2⟩ hΦ
          simp only [putAll, Act.put, List.setIfInBounds_toArray, List.set_cons_zero, List.set_cons_succ, Nat.zero_add, Nat.reduceAdd]
          rw [hv10]
          clear hΦ hv10 hsg0
          generalize us 0 = y0
          generalize us 1 = y1
          generalize us 2 = y2
          generalize us 3 = y3
          generalize us 4 = y4
          generalize us 5 = y5
          generalize us 6 = y6
          generalize us 7 = y7
          generalize us 8 = y8
          generalize us 9 = y9
          have HPX := Lib.hid (HPG.out.draw hsg)
          have HOX := Lib.hid (ownsRow_kept' HOWN.out hsg.1 (by
            cases hv : arv.ownBlock with
            | none => exact .inl rfl
            | some q =>
              right
              intro e
              have := (ownsRow_base HOWN.out q hv).1
              have := HPG.out.lc
              have := HPG.out.lp
              have : q = W.heap.size + 1 := Option.some.inj e
              omega))
          have HRX := Lib.hid hrow
          have c0 := hrow.cell 0
          have c1 := hrow.cell 1
          have p0 := HPX.out.p.cell 0
          simp only [List.getElem?_cons_zero, List.getElem?_cons_succ] at c0 c1 p0
          clear hsg hrow
          obtain ⟨o5, ho5⟩ : ∃ o : Obj, o = .cells #[S (nmA k), I (z : Int)] 68 := ⟨_, rfl⟩
          have hg5 : X.grownBy (X.alloc o5) none := alloc_grown _ _ none
          have HN5 := Lib.hid (show Row (X.alloc o5) X.heap.size 68 [S (nmA k), I z] by rw [ho5]; exact heap_new _ _)
          have HO5 := Lib.hid (show OwnS 2 68 a2Enc (X.alloc o5) (pb + 1) arv ars from OwnS.tag HOX.out hg5 (NoTag.none _ _))
          have HP5 := Lib.hid (HPX.out.kept hg5 (fun r e => by cases e))
          have hle5 : pb + 1 ≤ (X.alloc o5).heap.size := HP5.out.lt
          have hll : ars.length ≤ 1000000000 := by
            have := congrArg List.length HNM.out
            simp only [List.length_map, dn, List.length_range] at this
            omega
          rw [ho5] at HN5 HO5 HP5 hle5
          clear ho5 hg5
          go_wp2_with (first
            | (at_builtin; go_loud (refine wpList_appS slArr rfl _ _ rfl a2Enc_len a2Enc_one (pb + 1) arv ars rfl HO5.out X.heap.size ⟨nmA k, (z : Int)⟩ rfl (fun j hj => (cell_of_block HN5.out j).trans (by simp [a2Enc])) hll (by decide) hle5 ?_); intro g' cap w6 ho6 hg6 hat6 hlt6; have HO6 := Lib.hid ho6; have HP6 := Lib.hid (HP5.out.kept hg6 (fun r e => by have := (ownsRow_base HO5.out r e).1; omega)); clear ho6 hg6 hat6 hlt6 p0; have f0 := HP6.out.p.frozen 0; have p0 := HP6.out.p.cell 0; simp only [List.getElem?_cons_zero] at p0))
          go_roundg (k - 1)
          case measure => omega
          case rel =>
            have hdn := dn_step nmA (n := n1) (k := k - 1) (by omega)
            rw [show k - 1 + 1 = k by omega] at hdn
            refine ⟨k - 1, rfl, (by rw [show ((k - 1 : Nat) : Int) = (k : Int) - 1 by omega]), Lib.hid ⟨by omega, ars ++ [⟨nmA k, z⟩], _, ?_, ?_, HP6.out.setp 0 _, ?_⟩⟩
            · rw [List.map_append, HNM.out, hdn]; rfl
            · intro x hx
              rcases List.mem_append.1 hx with hx | hx
              · exact HSZ.out x hx
              · obtain rfl := List.mem_singleton.1 hx
                exact ⟨(by show (1 : Int) ≤ (z : Int); omega), (by show (z : Int) ≤ 1048576; omega)⟩
            · have h6 : OwnS 2 68 a2Enc w6 (pb + 1) (.slice (some ⟨g', 0, none⟩) (ars.length + 1) cap) (ars ++ [⟨nmA k, (z : Int)⟩]) := HO6.out
              refine ownsRow_kept' h6 (setCell_grown _ _ _ _) (.inr fun e => ?_)
              have h7 := (ownsRow_base h6 g' rfl).1
              have h8 : g' = pb := Option.some.inj e
              omega
      · have hk0z : ¬ (0 : Int) < (k : Int) := by omega
        have hke : k = 0 := by omega
        subst hke
        obtain ⟨aa, ac, rfl⟩ := HOWN.out.slice
        have har : RSlB (fun b => pb < b ∧ b < wo.heap.size) 2 RArr wo (.slice aa ars.length ac) ars := by
          have h1 := HNM.out
          have h2 := congrArg List.length h1
          simp only [List.length_map, dn, List.length_range] at h2
          exact ((HOWN.out.arrs (by omega)).size (by omega) fun _ _ h => h).weak (fun b hb => ⟨hb.1, hb.2⟩) fun _ _ h => h
        have hn13 : n1 < 3 := by omega
        have HN1 := Lib.hid (show ars.map (·.name) = [] ∨ ars.map (·.name) = [nB] ∨ ars.map (·.name) = [nC, nB] by rw [HNM.out]; exact dn_arr hn13)
        obtain ⟨NA, hNA⟩ : ∃ n, n = ars.length := ⟨_, rfl⟩
        rw [← hNA] at har HPG
        have HAR := Lib.hid har
        have HNA := Lib.hid hNA
        have p0 := HPG.out.p.cell 0
        have f1 := HPG.out.c.frozen 1
        have q1 := HPG.out.c.cell 1
        simp only [cZ, List.getElem?_cons_zero, List.getElem?_cons_succ] at p0 q1
        clear har hNA HOWN HNM
        go_upto_region 14 with (fail)
        obtain ⟨w7, hw7⟩ : ∃ w7, w7 = wo.setCell ⟨cb, 1, none⟩ (.slice aa NA ac) := ⟨_, rfl⟩
        have hg7 : wo.grownBy w7 (some cb) := by rw [hw7]; exact setCell_grown _ _ _ _
        have hpg7 := HPG.out.setc 1 (.slice aa NA ac)
        rw [← hw7] at hpg7 ⊢
        have hz7 : wo.heap.size ≤ w7.heap.size := hg7.size
        have HP7 := Lib.hid hpg7
        have HAR7 := Lib.hid (show RSlB (fun b => pb < b ∧ b < w7.heap.size) 2 RArr w7 (.slice aa NA ac) ars from (HAR.out.grown hg7 (fun r e => by cases e; omega) (fun _ _ h => h)).weak (fun b hb => ⟨hb.1, by omega⟩) fun _ _ h => h)
        have c2 := HP7.out.c.cell 2
        simp only [cZ, List.set_cons_zero, List.set_cons_succ, List.getElem?_cons_zero, List.getElem?_cons_succ] at c2
        clear p0 f1 q1 hw7 hg7 hpg7 hz7 HAR HPG
        have hn7 : pb < w7.heap.size := HP7.out.lt
        obtain ⟨o8, ho8⟩ : ∃ o : Obj, o = .cells #[S wMain, .slice none 0 0, .slice none 0 0, .slice none 0 0] 52 := ⟨_, rfl⟩
        have HN8 := Lib.hid (show Row (w7.alloc o8) w7.heap.size 52 (fnEnc fdMain) by rw [ho8]; exact heap_new _ _)
        have HP8 := Lib.hid (HP7.out.kept (alloc_grown w7 o8 none) (fun r e => by cases e))
        have HAR8 := Lib.hid (show RSlB (fun b => pb < b ∧ b < w7.heap.size) 2 RArr (w7.alloc o8) (.slice aa NA ac) ars from HAR7.out.grown (alloc_grown w7 o8 none) (fun r e => by cases e) (fun _ _ h => h))
        rw [ho8] at HN8 HP8 HAR8
        clear ho8 HAR7
        go_upto_region 15 with (first
          | (at_builtin; refine wpList_appS slFunc rfl _ _ rfl fnEnc_len fnEnc_one w7.heap.size (.slice none 0 0) [] rfl OwnS.nil w7.heap.size fdMain rfl (fun j hj => (cell_of_block HN8.out j).trans (by simp [fnEnc])) (by simp) (by decide) (by simp) ?_; intro g' cap w9 ho9 hg9 hat9 hlt9; have HF9 := Lib.hid (FnI.app (FnI.nil w7 (Nat.le_refl _)) (grown_refl w7 none) (fun r e => by cases e) (fdMain_part _ _) ho9 hg9 rfl hat9); have HP9 := Lib.hid (HP8.out.kept hg9 (fun r e => by cases e)); have HAR9 := Lib.hid (HAR8.out.grown hg9 (fun r e => by cases e) (fun _ _ h => h)); clear ho9 hg9 hat9 hlt9 c2; have f2 := HP9.out.c.frozen 2; have c2 := HP9.out.c.cell 2; simp only [cZ, List.set_cons_zero, List.set_cons_succ, List.getElem?_cons_zero, List.getElem?_cons_succ] at c2))
        obtain ⟨wA, hwA⟩ : ∃ w, w = w9.setCell ⟨cb, 2, none⟩ (.slice (some ⟨g', 0, none⟩) 1 cap) := ⟨_, rfl⟩
        have hgA : w9.grownBy wA (some cb) := by rw [hwA]; exact setCell_grown _ _ _ _
        have hpA := HP9.out.setc 2 (.slice (some ⟨g', 0, none⟩) 1 cap)
        rw [← hwA] at hpA ⊢
        obtain ⟨nb, hnb⟩ : ∃ n, n = w7.heap.size := ⟨_, rfl⟩
        rw [← hnb] at HF9 HAR9 hn7
        have HPA := Lib.hid hpA
        have HFA := Lib.hid (HF9.out.grown hgA (fun r e => by cases e; omega))
        have HARA := Lib.hid (show RSlB (fun b => pb < b ∧ b < nb) 2 RArr wA (.slice aa NA ac) ars from HAR9.out.grown hgA (fun r e => by cases e; omega) (fun _ _ h => h))
        clear c2 f2 hwA hgA hpA hnb HP9 HF9 HAR9 HP8 HAR8 HN8 HP7
        go_upto_region 16 with (first
          | (go_at_call 25; refine (next25_any (W.heap.size + 1) 3 wA HPA.out.src (by omega) (by omega)).mono ?_; rintro e wB ⟨⟨r, rfl, hr0, hr3⟩, hsB⟩; obtain ⟨n2, rfl⟩ := nat_of hr0; have HPB := Lib.hid (HPA.out.draw hsB); have HFB := Lib.hid (HFA.out.grown hsB.1 (fun r e => by cases e; omega)); have HARB := Lib.hid (show RSlB (fun b => pb < b ∧ b < nb) 2 RArr wB (.slice aa NA ac) ars from HARA.out.grown hsB.1 (fun r e => by cases e; omega) (fun _ _ h => h)); clear hsB hr0))
        clear HPA HFA HARA
        go_loopg [10] n2 (fun gh i wr => ∃ k : Nat, gh = k ∧ i = I k ∧ Hid (k ≤ n2 ∧ ∃ (hs : List FD) (fnv : Value), hs.map (fun p => p.q.nm) = wMain :: dn nmF n2 k ∧ (∀ p ∈ hs, p.q.np ≤ 6 ∧ (p.q.nm = wMain → p.q.np = 0)) ∧ PgI W cb pb [.slice none 0 0, .slice aa NA ac, fnv, .bool false, .bool false] [.slice aa NA ac, .slice none 0 0] wr ∧ FnI wr nb nb fnv hs ∧ RSlB (fun b => pb < b ∧ b < nb) 2 RArr wr (.slice aa NA ac) ars))
        case atStart => exact ⟨n2, rfl, rfl, Lib.hid ⟨Nat.le_refl _, [fdMain], _, (by rw [dn_start]; rfl), (fun x hx => by obtain rfl := List.mem_singleton.1 hx; exact ⟨by decide, fun _ => rfl⟩), HPB.out, HFB.out, HARB.out⟩⟩
        case round =>
          obtain ⟨k, hg, rfl, HH⟩ := hrel
          obtain ⟨wo2, rfl⟩ : ∃ wo, wo = wr := ⟨_, rfl⟩
          obtain ⟨hkn, hs, fnv, hnm, hfw, hpg, hfn, harr⟩ := HH.out
          have HPG := Lib.hid hpg
          have HFN := Lib.hid hfn
          have HNM := Lib.hid hnm
          have HFW := Lib.hid hfw
          have HARR := Lib.hid harr
          clear HH hpg hfn hnm hfw harr HPB HFB HARB
          by_cases hk0 : 0 < k
          · have hk0z : (0 : Int) < (k : Int) := by omega
            have hk3 : k < 3 := by omega
            go_upto_region 18 with (fail)
            have hsb9 : W.heap.size + 1 < wo2.heap.size := by have := HPG.out.lt; have := HPG.out.lc; have := HPG.out.lp; omega
            refine (wpIn_wide (n := 8)).1 ?_
            refine wpIn_region_rvP (by kernel_rfl) [10] (by decide) (by kernel_rfl) (by kernel_rfl) (fun vs => by kernel_rfl)
              (fun st us X => SG (W.heap.size + 1) wo2 X ∧ match st with
                | 0 => True
                | _ => ∃ g g2 r : Nat, us 9 = .pointer (some ⟨g, 0, none⟩) ∧ wo2.heap.size ≤ g ∧ Row X g 52 [S (nmF k), .slice (some ⟨g2, 0, none⟩) r 6, .slice none 0 0, .slice none 0 0] ∧ r ≤ 6 ∧ wo2.heap.size ≤ g2 ∧ Row X g2 9 (nmP.map S))
              (StepX 52 (W.heap.size + 1) wo2.heap.size)
              (fun i v X => match i with
                | 0 => ∃ g, v = .slice (some ⟨g, 0, none⟩) 3 3 ∧ wo2.heap.size ≤ g ∧ Row X g 9 [S ([102] : Str), S nG, S nH]
                | 1 => v = I k
                | 2 => ∃ g, v = .pointer (some ⟨g, k, none⟩) ∧ wo2.heap.size ≤ g ∧ Row X g 9 [S ([102] : Str), S nG, S nH]
                | 3 => v = S (nmF k)
                | 4 => ∃ g, v = .slice (some ⟨g, 0, none⟩) 6 6 ∧ wo2.heap.size ≤ g ∧ Row X g 9 (nmP.map S)
                | 5 => v = .pointer (some ⟨W.heap.size + 1, 0, none⟩)
                | 6 => ∃ r : Nat, v = I r ∧ r < 7
                | 7 => ∃ g r : Nat, v = .slice (some ⟨g, 0, none⟩) r 6 ∧ r ≤ 6 ∧ wo2.heap.size ≤ g ∧ Row X g 9 (nmP.map S)
                | 8 => ∃ g r : Nat, v = .agg #[S (nmF k), .slice (some ⟨g, 0, none⟩) r 6, .slice none 0 0, .slice none 0 0] ∧ r ≤ 6 ∧ wo2.heap.size ≤ g ∧ Row X g 9 (nmP.map S)
                | 9 => ∃ (g : Nat) (cs : List Value), v = .pointer (some ⟨g, 0, none⟩) ∧ wo2.heap.size ≤ g ∧ cs.length = 4 ∧ Row X g 52 cs
                | _ => True) ?h0 ?hst ?hop ?hend
            case h0 => exact ⟨⟨⟨rfl, rfl, rfl, Nat.le_refl _, fun _ _ _ => rfl⟩, HPG.out.src⟩, trivial⟩
            case hst =>
              intro j v X X' hst hΦ
              match j, hΦ with
              | 0, ⟨g, h1, h2, h3⟩ => exact ⟨g, h1, h2, hst.row h3 (by decide) h2 hsb9⟩
              | 1, h => exact h
              | 2, ⟨g, h1, h2, h3⟩ => exact ⟨g, h1, h2, hst.row h3 (by decide) h2 hsb9⟩
              | 3, h => exact h
              | 4, ⟨g, h1, h2, h3⟩ => exact ⟨g, h1, h2, hst.row h3 (by decide) h2 hsb9⟩
              | 5, h => exact h
              | 6, h => exact h
              | 7, ⟨g, r, h1, h0, h2, h3⟩ => exact ⟨g, r, h1, h0, h2, hst.row h3 (by decide) h2 hsb9⟩
              | 8, ⟨g, r, h1, h0, h2, h3⟩ => exact ⟨g, r, h1, h0, h2, hst.row h3 (by decide) h2 hsb9⟩
              | 9, ⟨g, cs, h1, h2, h4, h3⟩ => obtain ⟨cs', h5, h6⟩ := hst.new g cs h2 h3; exact ⟨g, cs', h1, h2, h5.trans h4, h6⟩
              | j + 10, h => trivial
            case hop =>
              refine ⟨?_, ?_, ?_, ?_, ?_, ?_, ?_, ?_, ?_, ?_, ?_, trivial⟩
              · rintro stg a W4 vs ho hstg hC hΦ hsz hr
                obtain rfl := rgStage_k hstg 0 (by kernel_rfl) (by kernel_rfl)
                refine rg_val ho rfl (fun _ _ => trivial) (by intro c h; cases h) (v := .slice (some ⟨W4.heap.size, 0, none⟩) 3 3) (W' := W4.alloc (.cells #[.string ⟨#[102]⟩, .string ⟨#[103]⟩, .string ⟨#[104]⟩] 9)) ?_ ⟨_, rfl, ⟨hC.1.post (alloc_grown _ _ none) hsb9 (fun r e => by cases e), trivial⟩, StepX.al _ _ _ _ _ hsb9, _, rfl, hC.1.size, heap_new _ _⟩
                go_simp
              · rintro stg a W4 vs ho hstg hC hΦ hsz hr
                obtain rfl := rgStage_k hstg 0 (by kernel_rfl) (by kernel_rfl)
                have r1 : a.tmps.getD 10 undef = (I k) := (hr 10 (by simp [Oper.looksAt, Op.operands])).trans (show slotOf _ _ vs _ 10 = (I k) from by kernel_rfl)
                refine rg_val ho rfl (fun _ _ => trivial) (by intro c h; cases h) (v := I k) (W' := W4) ?_ ⟨_, rfl, hC, StepX.refl _ _ _ _ hsb9, rfl⟩
                go_simp
              · rintro stg a W4 vs ho hstg hC hΦ hsz hr
                obtain rfl := rgStage_k hstg 0 (by kernel_rfl) (by kernel_rfl)
                have r1 : a.tmps.getD 69 undef = vs 0 := (hr 69 (by simp [Oper.looksAt, Op.operands])).trans (show slotOf _ _ vs _ 69 = vs 0 from by kernel_rfl)
                have r2 : a.tmps.getD 70 undef = vs 1 := (hr 70 (by simp [Oper.looksAt, Op.operands])).trans (show slotOf _ _ vs _ 70 = vs 1 from by kernel_rfl)
                obtain ⟨g, hv0, hg0, hrow⟩ := hΦ 0 (by kernel_rfl)
                have hv1 : vs 1 = I k := hΦ 1 (by kernel_rfl)
                rw [hv0] at r1
                rw [hv1] at r2
                have hkn : ¬ (3 : Int) ≤ k := by omega
                refine rg_val ho rfl (fun _ _ => trivial) (by intro c h; cases h) (v := .pointer (some ⟨g, k, none⟩)) (W' := W4) ?_ ⟨_, rfl, hC, StepX.refl _ _ _ _ hsb9, g, rfl, hg0, hrow⟩
                go_simp
              · rintro stg a W4 vs ho hstg hC hΦ hsz hr
                obtain rfl := rgStage_k hstg 0 (by kernel_rfl) (by kernel_rfl)
                have r1 : a.tmps.getD 71 undef = vs 2 := (hr 71 (by simp [Oper.looksAt, Op.operands])).trans (show slotOf _ _ vs _ 71 = vs 2 from by kernel_rfl)
                obtain ⟨g, hv2, hg0, hrow⟩ := hΦ 2 (by kernel_rfl)
                rw [hv2] at r1
                have ck := (hrow.cell k).trans (nmF_at hk0 hk3)
                refine rg_val ho rfl (fun _ _ => trivial) (by intro c h; cases h) (v := S (nmF k)) (W' := W4) ?_ ⟨_, rfl, hC, StepX.refl _ _ _ _ hsb9, rfl⟩
                go_simp
              · rintro stg a W4 vs ho hstg hC hΦ hsz hr
                obtain rfl := rgStage_k hstg 0 (by kernel_rfl) (by kernel_rfl)
                refine rg_val ho rfl (fun _ _ => trivial) (by intro c h; cases h) (v := .slice (some ⟨W4.heap.size, 0, none⟩) 6 6) (W' := W4.alloc (.cells #[.string ⟨#[112]⟩, .string ⟨#[113]⟩, .string ⟨#[114]⟩, .string ⟨#[115]⟩, .string ⟨#[116]⟩, .string ⟨#[117]⟩] 9)) ?_ ⟨_, rfl, ⟨hC.1.post (alloc_grown _ _ none) hsb9 (fun r e => by cases e), trivial⟩, StepX.al _ _ _ _ _ hsb9, _, rfl, hC.1.size, heap_new _ _⟩
                go_simp
              · rintro stg a W4 vs ho hstg hC hΦ hsz hr
                obtain rfl := rgStage_k hstg 0 (by kernel_rfl) (by kernel_rfl)
                have r1 : a.tmps.getD 5 undef = (.pointer (some ⟨W.heap.size + 1, 0, none⟩)) := (hr 5 (by simp [Oper.looksAt, Op.operands])).trans (show slotOf _ _ vs _ 5 = (.pointer (some ⟨W.heap.size + 1, 0, none⟩)) from by kernel_rfl)
                refine rg_val ho rfl (fun _ _ => trivial) (by intro c h; cases h) (v := .pointer (some ⟨W.heap.size + 1, 0, none⟩)) (W' := W4) ?_ ⟨_, rfl, hC, StepX.refl _ _ _ _ hsb9, rfl⟩
                go_simp
              · rintro stg a W4 vs ho hstg hC hΦ hsz hr
                obtain rfl := rgStage_k hstg 0 (by kernel_rfl) (by kernel_rfl)
                have r1 : a.tmps.getD 74 undef = _ := ((hr 74 (by simp [Oper.looksAt, Op.operands, Call.operands])).trans (show slotOf _ _ vs _ 74 = vs 5 from by kernel_rfl)).trans (hΦ 5 (by kernel_rfl))
                refine rg_call ho rfl (fun _ _ => trivial) (by intro c h; cases h) (f := 25) (args := #[.pointer (some ⟨W.heap.size + 1, 0, none⟩), I 7]) (W' := W4) ?_ (fun h => by cases h) (callsIn_wide.2 (next25_any (W.heap.size + 1) 7 W4 hC.1.2 (by omega) (by omega))) ?_
                · go_simp
                · rintro e w5 ⟨⟨r, rfl, hr0, hr4⟩, hs5⟩
                  obtain ⟨m, rfl⟩ := nat_of hr0
                  exact ⟨I m, rfl, _, rfl, ⟨hC.1.trans hs5, trivial⟩, StepX.of hs5.1 hsb9, m, rfl, by omega⟩
              · rintro stg a W4 vs ho hstg hC hΦ hsz hr
                obtain rfl := rgStage_k hstg 0 (by kernel_rfl) (by kernel_rfl)
                have r1 : a.tmps.getD 73 undef = vs 4 := (hr 73 (by simp [Oper.looksAt, Op.operands])).trans (show slotOf _ _ vs _ 73 = vs 4 from by kernel_rfl)
                have r2 : a.tmps.getD 75 undef = vs 6 := (hr 75 (by simp [Oper.looksAt, Op.operands])).trans (show slotOf _ _ vs _ 75 = vs 6 from by kernel_rfl)
                obtain ⟨g, hv4, hg0, hrow⟩ := hΦ 4 (by kernel_rfl)
                obtain ⟨m, hv6, hm4⟩ := hΦ 6 (by kernel_rfl)
                rw [hv4] at r1
                rw [hv6] at r2
                have hm4z : (m : Int) ≤ 6 := by omega
                have hkn : ¬ (6 : Int) < m := by omega
                have hkn2 : ¬ (m : Int) < 0 := by omega
                refine rg_val ho rfl (fun _ _ => trivial) (by intro c h; cases h) (v := .slice (some ⟨g, 0, none⟩) m 6) (W' := W4) ?_ ⟨_, rfl, hC, StepX.refl _ _ _ _ hsb9, g, m, rfl, by omega, hg0, hrow⟩
                go_simp
              · rintro stg a W4 vs ho hstg hC hΦ hsz hr
                obtain rfl := rgStage_k hstg 0 (by kernel_rfl) (by kernel_rfl)
                have r1 : a.tmps.getD 72 undef = vs 3 := (hr 72 (by simp [Oper.looksAt, Op.operands])).trans (show slotOf _ _ vs _ 72 = vs 3 from by kernel_rfl)
                have r2 : a.tmps.getD 76 undef = vs 7 := (hr 76 (by simp [Oper.looksAt, Op.operands])).trans (show slotOf _ _ vs _ 76 = vs 7 from by kernel_rfl)
                have hv3 : vs 3 = S (nmF k) := hΦ 3 (by kernel_rfl)
                obtain ⟨g, r, hv7, hr6, hg0, hrow⟩ := hΦ 7 (by kernel_rfl)
                rw [hv3] at r1
                rw [hv7] at r2
                have h72 : 72 < a.tmps.size := by rw [hsz]; simp
                have h76 : 76 < a.tmps.size := by rw [hsz]; simp
                have q1 : a.tmps[72] = S (nmF k) := by simpa [Array.getD, h72] using r1
                have q2 : a.tmps[76] = .slice (some ⟨g, 0, none⟩) r 6 := by simpa [Array.getD, h76] using r2
                refine rg_val ho rfl (fun _ _ => trivial) (by intro c h; cases h) (v := .agg #[S (nmF k), .slice (some ⟨g, 0, none⟩) r 6, .slice none 0 0, .slice none 0 0]) (W' := W4) ?_ ⟨_, rfl, hC, StepX.refl _ _ _ _ hsb9, g, r, rfl, hr6, hg0, hrow⟩
                go_simp
              · rintro stg a W4 vs ho hstg hC hΦ hsz hr
                obtain rfl := rgStage_k hstg 0 (by kernel_rfl) (by kernel_rfl)
                refine rg_val ho rfl (fun _ _ => trivial) (by intro c h; cases h) (v := .pointer (some ⟨W4.heap.size, 0, none⟩)) (W' := W4.alloc (.cells #[.string ⟨#[]⟩, .slice none 0 0, .slice none 0 0, .slice none 0 0] 52)) ?_ ⟨_, rfl, ⟨hC.1.post (alloc_grown _ _ none) hsb9 (fun r e => by cases e), trivial⟩, StepX.al _ _ _ _ _ hsb9, _, [S [], .slice none 0 0, .slice none 0 0, .slice none 0 0], rfl, hC.1.size, rfl, heap_new _ _⟩
                go_simp
              · rintro stg a W4 vs ho hstg hC hΦ hsz hr
                obtain rfl := rgStage_k hstg 0 (by kernel_rfl) (by kernel_rfl)
                have r1 : a.tmps.getD 11 undef = vs 9 := (hr 11 (by simp [Oper.looksAt, Op.operands])).trans (show slotOf _ _ vs _ 11 = vs 9 from by kernel_rfl)
                have r2 : a.tmps.getD 77 undef = vs 8 := (hr 77 (by simp [Oper.looksAt, Op.operands])).trans (show slotOf _ _ vs _ 77 = vs 8 from by kernel_rfl)
                obtain ⟨g, cs, hv9, hg0, hcs, hrow⟩ := hΦ 9 (by kernel_rfl)
                obtain ⟨g2, r, hv8, hr6, hg2, hrow2⟩ := hΦ 8 (by kernel_rfl)
                rw [hv9] at r1
                rw [hv8] at r2
                have hne : g2 ≠ g := fun e => by
                  subst e
                  unfold Row at hrow hrow2
                  rw [hrow] at hrow2
                  simp only [Option.some.injEq, Obj.cells.injEq] at hrow2
                  exact absurd hrow2.2.1 (by decide)
                refine rg_row ho rfl 52 (.tmp 11) (.tmp 77) rfl g [S (nmF k), .slice (some ⟨g2, 0, none⟩) r 6, .slice none 0 0, .slice none 0 0] r1 r2 52 cs hrow (by kernel_rfl) hcs (by simp [Value.oneCell']) ⟨_, rfl, ⟨hC.1.post setRow_grown hsb9 (fun r e => by cases e; exact hg0), g, g2, r, hv9, hg0, setRow_heap _ _ _ _ _ _ hrow, hr6, hg2, hrow2.kept setRow_grown (fun e => hne (Option.some.inj e))⟩, StepX.set hrow hcs.symm, trivial⟩
            case hend =>
              rintro us X ⟨hsg, g, g2, r, hv9, hg9, hrow, hr6, hg2, hrow2⟩ hΦ
              simp only [putAll, Act.put, List.setIfInBounds_toArray, List.set_cons_zero, List.set_cons_succ, Nat.zero_add, Nat.reduceAdd]
              rw [hv9]
              clear hΦ hv9
              generalize us 0 = y0
              generalize us 1 = y1
              generalize us 2 = y2
              generalize us 3 = y3
              generalize us 4 = y4
              generalize us 5 = y5
              generalize us 6 = y6
              generalize us 7 = y7
              generalize us 8 = y8
              have hsX := hsg.size
              have HSG := Lib.hid hsg
              have HPX := Lib.hid (HPG.out.draw hsg)
              have HARX := Lib.hid (show RSlB (fun b => pb < b ∧ b < nb) 2 RArr X (.slice aa NA ac) ars from HARR.out.grown hsg.1 (fun r e => by cases e; omega) (fun _ _ h => h))
              have HFX := Lib.hid (HFN.out.grown hsg.1 (fun r e => by cases e; omega))
              have HRX2 := Lib.hid hrow2
              have c0 := hrow.cell 0
              have c1 := hrow.cell 1
              have c2 := hrow.cell 2
              have c3 := hrow.cell 3
              have q2 := HPX.out.c.cell 2
              simp only [List.getElem?_cons_zero, List.getElem?_cons_succ] at c0 c1 c2 c3 q2
              obtain ⟨y, hy⟩ : ∃ y : FD, y = ⟨⟨nmF k, r, 0, []⟩, some ⟨g2, 0, none⟩, 6, none, 0, none, 0⟩ := ⟨_, rfl⟩
              obtain ⟨o5, ho5⟩ : ∃ o : Obj, o = .cells #[S (nmF k), .slice (some ⟨g2, 0, none⟩) r 6, .slice none 0 0, .slice none 0 0] 52 := ⟨_, rfl⟩
              have hg5 : X.grownBy (X.alloc o5) none := alloc_grown _ _ none
              have HN5 := Lib.hid (show Row (X.alloc o5) X.heap.size 52 (fnEnc y) by rw [ho5, hy]; exact heap_new _ _)
              have HO5 := Lib.hid (show OwnS 4 52 fnEnc (X.alloc o5) nb fnv hs from OwnS.tag HFX.out.2.1 hg5 (NoTag.none _ _))
              have HP5 := Lib.hid (HPX.out.kept hg5 (fun r e => by cases e))
              have HAR5 := Lib.hid (show RSlB (fun b => pb < b ∧ b < nb) 2 RArr (X.alloc o5) (.slice aa NA ac) ars from HARX.out.grown hg5 (fun r e => by cases e) (fun _ _ h => h))
              have hnbX : nb ≤ wo2.heap.size := by
                obtain ⟨y0, hy0⟩ : ∃ y0, y0 ∈ hs := by
                  cases hs with
                  | nil => exact absurd HNM.out (by simp)
                  | cons a l => exact ⟨a, by simp⟩
                rcases HFN.out.2.1.2 with ⟨_, h0⟩ | ⟨g0, _, _, _, h1, h2, _⟩
                · exact absurd (List.length_eq_zero_iff.1 h0) (List.ne_nil_of_mem hy0)
                · have := (Array.getElem?_eq_some_iff.1 h2).1
                  omega
              have hle5 : nb ≤ (X.alloc o5).heap.size := by rw [World.size_alloc]; omega
              have hll : hs.length ≤ 1000000000 := by
                have := congrArg List.length HNM.out
                simp only [List.length_map, List.length_cons, dn, List.length_range] at this
                omega
              have HPY := Lib.hid (show PartF (fun b => nb ≤ b ∧ b < X.heap.size ∧ fnv.ownBlock ≠ some b) X y by
                have h1 := HFN.out.2.1
                have hb2 : nb ≤ g2 ∧ g2 < X.heap.size ∧ fnv.ownBlock ≠ some g2 := ⟨by omega, hrow2.lt, fun e => by have := (ownsRow_base h1 _ e).2; omega⟩
                rw [hy]
                exact ⟨row_strs hrow2 hb2 hr6 (by decide), RSlB.nil _ _ _ _, 0, RSlB.nil _ _ _ _⟩)
              rw [ho5] at HN5 HO5 HP5 hle5 HAR5
              have HYN := Lib.hid (show y.q.nm = nmF k ∧ y.q.np ≤ 6 by rw [hy]; exact ⟨rfl, hr6⟩)
              clear ho5 hg5 hy hsg hrow hrow2
              go_wp2_with (first
                | (at_builtin; refine wpList_appS slFunc rfl _ _ rfl fnEnc_len fnEnc_one nb fnv hs rfl HO5.out X.heap.size y rfl (fun j hj => cell_of_block HN5.out j |>.trans (by simp)) hll (by decide) hle5 ?_; intro g' cap w6 ho6 hg6 hat6 hlt6; have HF6 := Lib.hid (FnI.app HFX.out (grown_refl X none) (fun r e => by cases e) HPY.out ho6 hg6 rfl hat6); have hown6 : ∀ r, fnv.ownBlock = some r → nb ≤ r := (fun r e => (ownsRow_base HO5.out r e).1); have HP6 := Lib.hid (HP5.out.kept hg6 (fun r e => by have := hown6 r e; omega)); have HAR6 := Lib.hid (HAR5.out.grown hg6 (fun r e hb => by have := hown6 r e; omega) (fun _ _ h => h)); clear ho6 hg6 hat6 hlt6 q2 c0 c1 c2 c3 hown6; have f2 := HP6.out.c.frozen 2; have q2 := HP6.out.c.cell 2; simp only [List.getElem?_cons_zero, List.getElem?_cons_succ] at q2))
              go_roundg (k - 1)
              case measure => omega
              case rel =>
                have hdn := dn_step nmF (n := n2) (k := k - 1) (by omega)
                rw [show k - 1 + 1 = k by omega] at hdn
                have hgc := setCell_grown w6 cb 2 (.slice (some ⟨g', 0, none⟩) (hs.length + 1) cap)
                refine ⟨k - 1, rfl, (by rw [show ((k - 1 : Nat) : Int) = (k : Int) - 1 by omega]), Lib.hid ⟨by omega, hs ++ [y], _, ?_, ?_, HP6.out.setc 2 _, HF6.out.grown hgc (fun r e => by cases e; omega), HAR6.out.grown hgc (fun r e => by cases e; omega) (fun _ _ h => h)⟩⟩
                · rw [List.map_append, HNM.out, hdn, List.map_singleton, HYN.out.1]; rfl
                · intro x hx
                  rcases List.mem_append.1 hx with hx | hx
                  · exact HFW.out x hx
                  · obtain rfl := List.mem_singleton.1 hx
                    refine ⟨HYN.out.2, fun e => absurd (HYN.out.1.symm.trans e) ?_⟩
                    have : k = 1 ∨ k = 2 := by omega
                    rcases this with rfl | rfl <;> decide
          · have hk0z : ¬ (0 : Int) < (k : Int) := by omega
            have hke : k = 0 := by omega
            subst hke
            go_upto_region 20 with (fail)
            have hll : hs.length ≤ 3 := by
              have := congrArg List.length HNM.out
              simp only [List.length_map, List.length_cons, dn, List.length_range] at this
              omega
            have HHD := Lib.hid (show Heads hs from ⟨by rw [HNM.out]; exact dn_fun (by omega), HFW.out⟩)
            obtain ⟨fa, fc, rfl⟩ := HFN.out.2.1.slice
            have hfr := HFN.out.read (by omega)
            obtain ⟨nc, hnc⟩ : ∃ n, n = wo2.heap.size := ⟨_, rfl⟩
            have hpc : pb < nc := by rw [hnc]; exact HPG.out.lt
            rw [← hnc] at hfr
            obtain ⟨NF, hNF⟩ : ∃ n, n = hs.length := ⟨_, rfl⟩
            rw [← hNF] at hfr HPG hll
            have HFR := Lib.hid hfr
            have HNF := Lib.hid hNF
            clear hfr hNF HFN HNM HFW
            go_upto_region 21 with (fail)
            go_loopg [12] NF (fun gh i wr => ∃ k : Nat, gh + k = NF ∧ i = I k ∧ Hid (∃ (done : List FD) (fv : Value), done.map headOf = (hs.map headOf).take k ∧ (∀ p ∈ done, p.q.nl ≤ 5 ∧ ∀ s ∈ p.q.body, DrS (scL ars (hs.map headOf) p.q.np p.q.nl) 4 false s) ∧
              PgI W cb pb [.slice none 0 0, .slice aa NA ac, .slice fa NF fc, .bool false, .bool false] [.slice aa NA ac, fv] wr ∧ FnI wr (pb + 1) nc fv done ∧ RSlB (fun b => pb < b ∧ b < nb) 2 RArr wr (.slice aa NA ac) ars ∧
              RSlB (fun b => nb ≤ b ∧ b < nc) 4 (RF (fun b => nb ≤ b ∧ b < nc)) wr (.slice fa NF fc) (hs.map fun p => p.q.f) ∧ nc ≤ wr.heap.size))
            case atStart => exact ⟨0, by omega, rfl, Lib.hid ⟨[], _, rfl, (fun p hp => by cases hp), HPG.out, FnI.nil _ (by omega), HARR.out, HFR.out, by omega⟩⟩
            case round =>
              obtain ⟨k, hg, rfl, HH⟩ := hrel
              obtain ⟨wo3, rfl⟩ : ∃ wo, wo = wr := ⟨_, rfl⟩
              obtain ⟨done, fv, hdh, hdd, hpg, hfn, harr, hfr, hnc3⟩ := HH.out
              have HPG := Lib.hid hpg
              have HFN := Lib.hid hfn
              have HDH := Lib.hid hdh
              have HDD := Lib.hid hdd
              have HARR := Lib.hid harr
              have HFR := Lib.hid hfr
              have q2 := hpg.c.cell 2
              simp only [List.getElem?_cons_zero, List.getElem?_cons_succ] at q2
              clear HH hpg hfn hdh hdd harr hfr hnc
              by_cases hlt : k < NF
              · have hltz : (k : Int) < (NF : Int) := by omega
                have hkl : k < hs.length := by rw [← HNF.out]; exact hlt
                have hkm : k < (hs.map fun p => p.q.f).length := by rw [List.length_map]; exact hkl
                obtain ⟨b, o, C, rfl, hbB, hC, hrx⟩ := HFR.out.at hkm
                obtain ⟨hd, hhd⟩ : ∃ h, h = hs[k] := ⟨_, rfl⟩
                rw [List.getElem_map, ← hhd] at hrx
                have hmem : hd ∈ hs := by rw [hhd]; exact List.getElem_mem hkl
                have hhead : (hs.map headOf)[k]? = some (headOf hd) := by rw [List.getElem?_map, List.getElem?_eq_getElem hkl, hhd]; rfl
                have hnp := (HHD.out.few hd hmem).1
                obtain ⟨nm, hnm⟩ : ∃ x, x = hd.q.nm := ⟨_, rfl⟩
                obtain ⟨np, hnpe⟩ : ∃ x, x = hd.q.np := ⟨_, rfl⟩
                have hho : headOf hd = (nm, np) := by rw [hnm, hnpe]; rfl
                have hpar : hd.q.f.params = nmP.take np := by rw [hnpe]; rfl
                have hpl : (nmP.take np).length = np := by rw [List.length_take, hnpe]; show min _ 6 = _; omega
                rw [← hnpe] at hnp
                have e0 := hC 0 (by omega)
                have e1 := hC 1 (by omega)
                have e2 := hC 2 (by omega)
                have e3 := hC 3 (by omega)
                rw [show C 0 = S nm by rw [hnm]; exact hrx.1] at e0
                have hpx := hrx.2.1
                rw [hpar] at hpx
                obtain ⟨pa, pc, hpv, -⟩ := id hpx
                obtain ⟨la, lc, hlv, -⟩ := id hrx.2.2.1
                obtain ⟨ba, bc, hbv⟩ := hrx.2.2.2.slice
                rw [hpl] at hpv
                rw [hpv] at e1 hpx
                rw [hlv] at e2
                rw [hbv] at e3
                generalize hd.q.f.locals.length = ln at e2
                generalize hd.q.f.body.length = bn at e3
                simp only [Nat.add_zero] at e0
                rw [hho] at hhead
                have HPX := Lib.hid hpx
                have HHE := Lib.hid hhead
                have HPL := Lib.hid hpl
                clear hC hrx hhd hmem hnm hnpe hho hpar hpv hlv hbv hpx hhead hkm hpl
                go_upto_region 24 with (fail)
                have hsb9 : W.heap.size + 1 < wo3.heap.size := by have := HPG.out.lt; have := HPG.out.lc; have := HPG.out.lp; omega
                obtain ⟨w4, hw4⟩ : ∃ w4, w4 = wo3.alloc (.cells #[S nm, .slice pa np pc, .slice la ln lc, .slice ba bn bc] 52) := ⟨_, rfl⟩
                have hs4 : SG (W.heap.size + 1) wo3 w4 := by rw [hw4]; exact SG.start HPG.out.src (below_a1 _ _)
                obtain ⟨fb, hfb⟩ : ∃ n, n = wo3.heap.size := ⟨_, rfl⟩
                have hr4 : Row w4 fb 52 [S nm, .slice pa np pc, .slice la ln lc, .slice ba bn bc] := by rw [hw4, hfb]; exact heap_new _ _
                rw [← hw4, ← hfb]
                have HS4 := Lib.hid hs4
                have HR4 := Lib.hid hr4
                have hfs : W.heap.size + 1 < fb := by omega
                have hfw : wo3.heap.size ≤ fb := by omega
                clear hw4 hs4 hr4 e0 e1 e2 e3 q2 hfb
                obtain ⟨o5, ho5⟩ : ∃ o : Obj, o = .cells #[.string ⟨#[120]⟩, .string ⟨#[121]⟩, .string ⟨#[122]⟩, .string ⟨#[105]⟩, .string ⟨#[107]⟩] 9 := ⟨_, rfl⟩
                have hr5 : Row (w4.alloc o5) w4.heap.size 9 (nmL.map S) := by rw [ho5]; exact heap_new _ _
                obtain ⟨lb, hlb⟩ : ∃ n, n = w4.heap.size := ⟨_, rfl⟩
                have hlbf : fb < lb := by rw [hlb]; exact HR4.out.lt
                have HS5 := Lib.hid (HS4.out.post (alloc_grown w4 o5 none) (by omega) (fun r e => by cases e))
                have HR5 := Lib.hid (HR4.out.kept (alloc_grown w4 o5 none) (by simp))
                rw [← hlb] at hr5
                have HL5 := Lib.hid hr5
                rw [ho5] at HS5 HR5 HL5
                have HLB := Lib.hid hlb
                clear hr5 ho5 hlb
                go_upto_region 25 with (first
                  | (go_at_call 25; refine (next25_any (W.heap.size + 1) 6 _ HS5.out.2 (by omega) (by omega)).mono ?_; rintro e w6 ⟨⟨r, rfl, hr0, hr6⟩, hs6⟩; obtain ⟨nl, rfl⟩ := nat_of hr0; have HS6 := Lib.hid (HS5.out.trans hs6); have HR6 := Lib.hid (hs6.row HR5.out (by omega)); have HL6 := Lib.hid (hs6.row HL5.out (by omega)); clear hs6 hr0; have f2 := HR6.out.frozen 2; have c2 := HR6.out.cell 2; simp only [List.getElem?_cons_zero, List.getElem?_cons_succ] at c2; have hnl5 : (nl : Int) ≤ 5 := (by omega); have hnl6 : ¬ (5 : Int) < nl := (by omega)))
                rw [← HLB.out]
                obtain ⟨w7, hw7⟩ : ∃ w7, w7 = w6.setCell ⟨fb, 2, none⟩ (.slice (some ⟨lb, 0, none⟩) nl 5) := ⟨_, rfl⟩
                have hg7 : w6.grownBy w7 (some fb) := by rw [hw7]; exact setCell_grown _ _ _ _
                have hr7 : Row w7 fb 52 [S nm, .slice pa np pc, .slice (some ⟨lb, 0, none⟩) nl 5, .slice ba bn bc] := by rw [hw7]; exact HR6.out.set 2 _
                have HS7 := Lib.hid (HS6.out.post hg7 (by omega) (fun r e => by cases e; omega))
                have HR7 := Lib.hid hr7
                have HL7 := Lib.hid (HL6.out.kept hg7 (fun e => by cases e; omega))
                have HPG7 := Lib.hid (HPG.out.draw HS7.out)
                rw [← hw7]
                have z0 := HPG7.out.c.cell 0
                have z1 := HPG7.out.c.cell 1
                have z2 := HPG7.out.c.cell 2
                have z3 := HPG7.out.c.cell 3
                have z4 := HPG7.out.c.cell 4
                simp only [List.getElem?_cons_zero, List.getElem?_cons_succ] at z0 z1 z2 z3 z4
                clear hw7 hg7 hr7 f2 c2 HS6 HR6 HL6 HS5 HR5 HL5 HS4 HR4 HLB
                go_upto_region 26 with (fail)
                clear z0 z1 z2 z3 z4
                obtain ⟨w8, hw8⟩ : ∃ w8, w8 = w7.alloc (.cells #[.slice none 0 0, .slice aa NA ac, .slice (some ⟨b, o, none⟩) NF fc, .bool false, .bool false] 64) := ⟨_, rfl⟩
                obtain ⟨ib, hib⟩ : ∃ n, n = w7.heap.size := ⟨_, rfl⟩
                have hg8 : w7.grownBy w8 none := by rw [hw8]; exact alloc_grown _ _ none
                have hr8 : Row w8 ib 64 [.slice none 0 0, .slice aa NA ac, .slice (some ⟨b, o, none⟩) NF fc, .bool false, .bool false] := by rw [hw8, hib]; exact heap_new _ _
                have hibf : lb < ib := by rw [hib]; exact HL7.out.lt
                rw [← hw8, ← hib]
                have HI8 := Lib.hid hr8
                have HS8 := Lib.hid (HS7.out.post hg8 (by omega) (fun r e => by cases e))
                have HR8 := Lib.hid (HR7.out.kept hg8 (by simp))
                have HL8 := Lib.hid (HL7.out.kept hg8 (by simp))
                clear hw8 hib hg8 hr8 HS7 HR7 HL7 HPG7
                refine wp_region_ordW (by kernel_rfl) (fun X => X.cell? ⟨fb, 1, none⟩ = some (.slice pa np pc) ∧ X.cell? ⟨fb, 2, none⟩ = some (.slice (some ⟨lb, 0, none⟩) nl 5))
                  [(0, 0), (0, 1), (0, 3), (0, 4), (1, 2), (1, 5), (0, 6), (2, 7)] (by kernel_rfl) ?hS ?_
                case hS => intro wd hh; exact ⟨row_at HR8.out hh 1, row_at HR8.out hh 2⟩
                intro wd hh hgd hS
                have hpx : RSlB (fun b => nb ≤ b ∧ b < nc) 1 RStr wd (.slice pa np pc) (nmP.take np) := (HPX.out.grown HS8.out.1 (fun r e => by cases e; omega) (fun _ _ h => h)).grown hgd (fun r e => by cases e) (fun _ _ h => h)
                have HPD := Lib.hid hpx
                have HSD := Lib.hid (HS8.out.post hgd (by omega) (fun r e => by cases e))
                have HRD := Lib.hid (HR8.out.kept hgd (by simp))
                have HLD := Lib.hid (HL8.out.kept hgd (by simp))
                have HID := Lib.hid (HI8.out.kept hgd (by simp))
                have hibd : ib < wd.heap.size := HID.out.lt
                have hpl6 : (nmP.take np).length ≤ 6 := by rw [HPL.out]; omega
                have hll5 : (nmL.take nl).length ≤ 5 := by rw [List.length_take]; show min _ 5 ≤ _; omega
                have HP6 := Lib.hid hpl6
                have HL6 := Lib.hid hll5
                clear hh hgd HS8 HR8 HL8 HI8 hpx hpl6 hll5
                simp only [pickOps, List.map_cons, List.map_nil, List.getElem?_cons_zero, List.getElem?_cons_succ, Option.getD_some]
                repeat (refine wpOrd_look (v := ?_) (by rfl) ?_ (by assumption) (fun _ _ _ h => h) ?_; rotate_left; (· (intro wS hSw; (try dsimp only at hSw); go_simp; (first | done | with_reducible rfl))); simp only [Act.put, List.setIfInBounds_toArray, List.set_cons_zero, List.set_cons_succ])
                refine wpOrd_turn ?_
                go_wp2_with (first
                  | (at_builtin; refine wpList_appL rfl _ _ rfl wd.heap.size (.slice none 0 0) [] rfl OwnS.nil (.slice pa np pc) (nmP.take np) rfl HPD.out (by have := HP6.out; simp only [List.length_nil]; omega) (Nat.le_refl _) ?_; intro v1 w9 ho9 hg9; have HO9 := Lib.hid ho9; have HG9 := Lib.hid (show wd.grownBy w9 none from hg9); clear ho9 hg9))
                have HS9 := Lib.hid (HSD.out.post HG9.out (by omega) (fun r e => by cases e))
                have HR9 := Lib.hid (HRD.out.kept HG9.out (by simp))
                have HL9 := Lib.hid (HLD.out.kept HG9.out (by simp))
                have HI9 := Lib.hid (HID.out.kept HG9.out (by simp))
                refine QN_keep ⟨HR9.out.cell 1, HR9.out.cell 2⟩ fun hS => ?_
                refine wpOrd_turn ?_
                go_wp2_with (first
                  | (at_builtin; refine wpList_appL rfl _ _ rfl wd.heap.size v1 ([] ++ nmP.take np) rfl HO9.out (.slice (some ⟨lb, 0, none⟩) nl 5) (nmL.take nl) rfl (row_strs (B := fun b => b = lb) HL9.out rfl (show nl ≤ nmL.length from (by omega : nl ≤ 5)) (by decide)) (by have := HP6.out; have := HL6.out; simp only [List.nil_append]; omega) HG9.out.size ?_; intro v2 wA hoA hgA; obtain ⟨vl, hvl⟩ : ∃ vl : List Str, vl = ([] ++ nmP.take np) ++ nmL.take nl := ⟨_, rfl⟩; rw [← hvl] at hoA; obtain ⟨va, vc, hv2⟩ := hoA.slice; obtain ⟨VN, hVN⟩ : ∃ n, n = vl.length := ⟨_, rfl⟩; rw [← hVN] at hv2; subst hv2; have HVL := Lib.hid hvl; have HVN := Lib.hid hVN; clear hvl hVN; have HOA := Lib.hid hoA; have HGA := Lib.hid hgA; clear hoA hgA))
                have hown9 : ∀ r, v1.ownBlock = some r → wd.heap.size ≤ r := fun r e => (ownsRow_base HO9.out r e).1
                have HSA := Lib.hid (HS9.out.post HGA.out (by omega) (fun r e => by have := hown9 r e; have := HSD.out.size; omega))
                have HRA := Lib.hid (HR9.out.kept HGA.out (fun e => by have := hown9 _ e.symm; have := HRD.out.lt; omega))
                have HLA := Lib.hid (HL9.out.kept HGA.out (fun e => by have := hown9 _ e.symm; have := HLD.out.lt; omega))
                have HIA := Lib.hid (HI9.out.kept HGA.out (fun e => by have := hown9 _ e.symm; omega))
                clear hown9
                refine QN_keep ⟨HRA.out.cell 1, HRA.out.cell 2⟩ fun hS => ?_
                repeat (refine wpOrd_look (v := ?_) (by rfl) ?_ (by assumption) (fun _ _ _ h => h) ?_; rotate_left; (· (intro wS hSw; (try dsimp only at hSw); go_simp; (first | done | with_reducible rfl))); simp only [Act.put, List.setIfInBounds_toArray, List.set_cons_zero, List.set_cons_succ])
                have f0 := HIA.out.frozen 0
                have d0 := HIA.out.cell 0
                simp only [List.getElem?_cons_zero] at d0
                clear hS
                refine wpOrd_last ?_
                go_wp2
                refine QN_normal (wpOrd_nil ?_)
                obtain ⟨wB, hwB⟩ : ∃ w, w = wA.setCell ⟨ib, 0, none⟩ (.slice va VN vc) := ⟨_, rfl⟩
                have hgB : wA.grownBy wB (some ib) := by rw [hwB]; exact setCell_grown _ _ _ _
                have hrB : Row wB ib 64 [.slice va VN vc, .slice aa NA ac, .slice (some ⟨b, o, none⟩) NF fc, .bool false, .bool false] := by rw [hwB]; exact HIA.out.set 0 _
                have hsB := HSA.out.post hgB (by omega) (fun r e => by cases e; omega)
                have hvx : RSlB (· ≠ W.heap.size + 1) 1 RStr wB (.slice va VN vc) vl := by
                  have h1 : OwnS 1 9 sEncS wB wd.heap.size (.slice va VN vc) vl := ownsRow_kept' HOA.out hgB (by
                    cases hv : (Value.slice va VN vc).ownBlock with
                    | none => exact .inl rfl
                    | some q =>
                      right
                      intro e
                      have := (ownsRow_base HOA.out q hv).1
                      have : q = ib := Option.some.inj e
                      omega)
                  have h2 := h1.rslB (R := RStr) (fun x => x) sEncS_len (by rw [HVL.out]; have := HP6.out; have := HL6.out; simp only [List.length_append, List.length_nil]; omega) (fun x _ => rfl)
                  have h3 : RSlB (wd.heap.size ≤ ·) 1 RStr wB (.slice va VN vc) vl := by simpa using h2
                  exact h3.weak (fun q hq => by have := HSD.out.size; omega) (fun _ _ h => h)
                have hcl : Calls Tryz.prog 30 #[.agg #[.slice va VN vc, .slice aa NA ac, .slice (some ⟨b, o, none⟩) NF fc, .bool false, .bool false], .pointer (some ⟨W.heap.size + 1, 0, none⟩), I 4] wB (DrT (scL ars (hs.map headOf) np nl) 4 false wB (W.heap.size + 1)) := by
                  refine stmts30 (scL ars (hs.map headOf) np nl) rfl 4 (by decide) (by decide) (W.heap.size + 1) wB _ _ _ false ⟨⟨vl, hvx, fun _ x hx => ?_⟩, ⟨ars, ?_, fun _ x hx => ⟨x, hx, rfl⟩⟩, ⟨hs.map fun p => p.q.f, ?_, fun _ => ⟨?_, fun x hx => ?_⟩⟩, fun h => by cases h⟩ hsB.2
                  · rw [HVL.out, List.nil_append] at hx; exact hx
                  · exact (HARR.out.grown hsB.1 (fun r e => by cases e; omega) (fun _ _ h => h)).weak (fun q hq => by omega) (fun _ _ h => h)
                  · exact (HFR.out.grown hsB.1 (fun r e => by cases e; omega) (fun _ _ h => h.grown hsB.1 (fun r e => by cases e; omega))).weak (fun q hq => by omega) (fun _ _ h => h.weak (fun q hq => by omega))
                  · intro e
                    rw [List.map_eq_nil_iff.1 e] at hkl
                    exact absurd hkl (by simp)
                  · obtain ⟨p, hp, rfl⟩ := List.mem_map.1 hx
                    refine List.mem_map.2 ⟨p, hp, ?_⟩
                    have h6 := (HHD.out.few p hp).1
                    show (p.q.nm, p.q.np) = (p.q.nm, (nmP.take p.q.np).length)
                    rw [List.length_take, show nmP.length = 6 from rfl, Nat.min_eq_left h6]
                rw [← hwB]
                have HCL := Lib.hid hcl
                have HIB := Lib.hid hrB
                have HSB := Lib.hid hsB
                have HRB := Lib.hid (HRA.out.kept hgB (fun e => by cases e; omega))
                have HLB := Lib.hid (HLA.out.kept hgB (fun e => by cases e; omega))
                have z0 := hrB.cell 0
                have z1 := hrB.cell 1
                have z2 := hrB.cell 2
                have z3 := hrB.cell 3
                have z4 := hrB.cell 4
                simp only [List.getElem?_cons_zero, List.getElem?_cons_succ] at z0 z1 z2 z3 z4
                clear hwB hgB hrB hsB hvx hcl f0 d0 HSA HRA HLA HIA HOA HGA HS9 HR9 HL9 HI9 HO9 HG9 HSD HRD HLD HID HPD
                go_upto_region 28 with (first
                  | (go_at_call 30; refine HCL.out.mono ?_; rintro e wC ⟨bl, ea, ec, rfl, hbl4, hbd, hbx, hsC⟩; have HSC := Lib.hid (HSB.out.trans hsC); have HRC := Lib.hid (hsC.row HRB.out (by omega)); have HLC := Lib.hid (hsC.row HLB.out (by omega)); have HBX := Lib.hid hbx; have HBD := Lib.hid hbd; have HBZ := Lib.hid (show wo3.heap.size ≤ wB.heap.size from HSB.out.size); have f3 := HRC.out.frozen 3; have d3 := HRC.out.cell 3; simp only [List.getElem?_cons_zero, List.getElem?_cons_succ] at d3; obtain ⟨BN, hBN⟩ : ∃ n, n = bl.length := ⟨_, rfl⟩; rw [← hBN]; have HBN := Lib.hid hBN; clear hbl4 hbd hbx hsC hBN z0 z1 z2 z3 z4))
                obtain ⟨wD, hwD⟩ : ∃ w, w = wC.setCell ⟨fb, 3, none⟩ (.slice ea BN ec) := ⟨_, rfl⟩
                have hgD : wC.grownBy wD (some fb) := by rw [hwD]; exact setCell_grown _ _ _ _
                have hrD : Row wD fb 52 [S nm, .slice pa np pc, .slice (some ⟨lb, 0, none⟩) nl 5, .slice ea BN ec] := by rw [hwD]; exact HRC.out.set 3 _
                have HSD := Lib.hid (HSC.out.post hgD (by omega) (fun r e => by cases e; omega))
                have HLD := Lib.hid (HLC.out.kept hgD (fun e => by cases e; omega))
                have HXD := Lib.hid (SX.size (SX.grown HBX.out hgD (fun r e hb => by cases e; have := HRB.out.lt; omega)))
                have HPGD := Lib.hid (HPG.out.draw HSD.out)
                have HFND := Lib.hid (HFN.out.grown HSD.out.1 (fun r e => by cases e; omega))
                rw [← hwD]
                have y0 := hrD.cell 0
                have y1 := hrD.cell 1
                have y2 := hrD.cell 2
                have y3 := hrD.cell 3
                have p1 := HPGD.out.p.cell 1
                simp only [List.getElem?_cons_zero, List.getElem?_cons_succ] at y0 y1 y2 y3 p1
                obtain ⟨y, hy⟩ : ∃ y : FD, y = ⟨⟨nm, np, nl, bl⟩, pa, pc, some ⟨lb, 0, none⟩, 5, ea, ec⟩ := ⟨_, rfl⟩
                obtain ⟨o5, ho5⟩ : ∃ o : Obj, o = .cells #[S nm, .slice pa np pc, .slice (some ⟨lb, 0, none⟩) nl 5, .slice ea BN ec] 52 := ⟨_, rfl⟩
                have hg5 : wD.grownBy (wD.alloc o5) none := alloc_grown _ _ none
                have HN5 := Lib.hid (show Row (wD.alloc o5) wD.heap.size 52 (fnEnc y) by rw [ho5, hy, HBN.out]; exact heap_new _ _)
                have HO5 := Lib.hid (show OwnS 4 52 fnEnc (wD.alloc o5) nc fv done from OwnS.tag HFND.out.2.1 hg5 (NoTag.none _ _))
                have HP5 := Lib.hid (HPGD.out.kept hg5 (fun r e => by cases e))
                have hzD := HSD.out.size
                have hle5 : nc ≤ (wD.alloc o5).heap.size := by rw [World.size_alloc]; omega
                have hdl : done.length ≤ 1000000000 := by
                  have := congrArg List.length HDH.out
                  simp only [List.length_map, List.length_take] at this
                  omega
                have HPY := Lib.hid (show PartF (fun q => pb + 1 ≤ q ∧ q < wD.heap.size ∧ fv.ownBlock ≠ some q) wD y by
                  have hob : ∀ q, fv.ownBlock = some q → nc ≤ q ∧ q < wo3.heap.size := fun q e => ownsRow_base HFN.out.2.1 q e
                  rw [hy]
                  refine ⟨?_, row_strs HLD.out ⟨by omega, HLD.out.lt, fun e => by have := hob _ e; omega⟩ (show nl ≤ nmL.length from (by omega : nl ≤ 5)) (by decide), SX.weak HXD.out fun q hq => ⟨by have := hq.1; have := HBZ.out; omega, hq.2, fun e => by have := hob _ e; have := hq.1; have := HBZ.out; omega⟩⟩
                  exact (HPX.out.grown HSD.out.1 (fun r e => by cases e; omega) (fun _ _ h => h)).weak (fun q hq => ⟨by omega, by omega, fun e => by have := hob _ e; omega⟩) (fun _ _ h => h))
                have HYD := Lib.hid (show headOf y = (nm, np) ∧ y.q.nl ≤ 5 ∧ ∀ s ∈ y.q.body, DrS (scL ars (hs.map headOf) y.q.np y.q.nl) 4 false s by rw [hy]; exact ⟨rfl, by show nl ≤ 5; omega, HBD.out⟩)
                rw [ho5] at HN5 HO5 HP5 hle5
                clear ho5 hg5 hy hwD hgD hrD f3 d3
                go_wp2_with (first
                  | (at_builtin; (refine wpList_appS slFunc rfl _ _ rfl fnEnc_len fnEnc_one nc fv done rfl HO5.out wD.heap.size y rfl (fun j hj => cell_of_block HN5.out j |>.trans (by simp)) hdl (by decide) hle5 ?_; intro g' cap w6 ho6 hg6 hat6 hlt6; have HF6 := Lib.hid (FnI.app HFN.out HSD.out.1 (fun r e => by cases e; omega) HPY.out ho6 hg6 rfl hat6); have hown6 : ∀ r, fv.ownBlock = some r → nc ≤ r := (fun r e => (ownsRow_base HO5.out r e).1); have HP6 := Lib.hid (HP5.out.kept hg6 (fun r e => by have := hown6 r e; omega)); have HG6 := Lib.hid (show ∀ r, fv.ownBlock = some r → nc ≤ r from hown6); have HGG := Lib.hid hg6; clear ho6 hg6 hat6 hlt6 y0 y1 y2 y3 p1 hown6; have f1 := HP6.out.p.frozen 1; have p1 := HP6.out.p.cell 1; simp only [List.getElem?_cons_zero, List.getElem?_cons_succ] at p1)))
                have HR1 := Lib.hid (show RSlB (fun q => pb < q ∧ q < nb) 2 RArr w6 (.slice aa NA ac) ars from ((HARR.out.grown HSD.out.1 (fun r e => by cases e; omega) (fun _ _ h => h)).grown (alloc_grown wD _ none) (fun r e => by cases e) (fun _ _ h => h)).grown HGG.out (fun r e hq => by have := HG6.out r e; have := HPX.out; omega) (fun _ _ h => h))
                have HR2 := Lib.hid (show RSlB (fun q => nb ≤ q ∧ q < nc) 4 (RF (fun q => nb ≤ q ∧ q < nc)) w6 (.slice (some ⟨b, o, none⟩) NF fc) (hs.map fun p => p.q.f) from by
                  have h1 := HFR.out.grown HSD.out.1 (fun r e => by cases e; omega) (fun _ _ h => h.grown HSD.out.1 (fun r e => by cases e; omega))
                  have hga := alloc_grown wD (.cells #[S nm, .slice pa np pc, .slice (some ⟨lb, 0, none⟩) nl 5, .slice ea BN ec] 52) none
                  have h2 := h1.grown hga (fun r e => by cases e) (fun _ _ h => h.grown hga (fun r e => by cases e))
                  exact h2.grown HGG.out (fun r e hq => by have := HG6.out r e; omega) (fun _ _ h => h.grown HGG.out (fun r e hq => by have := HG6.out r e; omega)))
                have hz6 : nc ≤ w6.heap.size := Nat.le_trans hle5 HGG.out.size
                go_roundg (NF - (k + 1))
                case measure => omega
                case rel =>
                  have hgp := setCell_grown w6 pb 1 (.slice (some ⟨g', 0, none⟩) (done.length + 1) cap)
                  refine ⟨k + 1, by omega, by go_num, Lib.hid ⟨done ++ [y], _, ?_, ?_, HP6.out.setp 1 _, HF6.out.grown hgp (fun r e => by cases e; omega), HR1.out.grown hgp (fun r e => by cases e; omega) (fun _ _ h => h), HR2.out.grown hgp (fun r e => by cases e; omega) (fun _ _ h => h.grown hgp (fun r e => by cases e; omega)), Nat.le_trans hz6 hgp.size⟩⟩
                  · rw [List.map_append, HDH.out, List.map_singleton, HYD.out.1, List.take_add_one, HHE.out]; rfl
                  · intro p hp
                    rcases List.mem_append.1 hp with hp | hp
                    · exact HDD.out p hp
                    · obtain rfl := List.mem_singleton.1 hp
                      exact HYD.out.2
              · have hltz : ¬ (k : Int) < (NF : Int) := by omega
                have hkn : k = NF := by omega
                obtain ⟨fva, fvc, rfl⟩ := HFN.out.2.1.slice
                have hdl : done.length ≤ 1000000000 := by
                  have := congrArg List.length HDH.out
                  simp only [List.length_map, List.length_take] at this
                  omega
                have hraw : RawP ars (done.map FD.q) := raw_of HN1.out HSZ.out HHD.out (by rw [HDH.out]; exact List.take_of_length_le (by rw [List.length_map, ← HNF.out]; omega)) HDD.out
                have hfx := HFN.out.read hdl
                obtain ⟨DN, hDN⟩ : ∃ n, n = done.length := ⟨_, rfl⟩
                rw [← hDN] at hfx HPG
                have HFX := Lib.hid hfx
                have HRAW := Lib.hid hraw
                have p0 := HPG.out.p.cell 0
                have p1 := HPG.out.p.cell 1
                simp only [List.getElem?_cons_zero, List.getElem?_cons_succ] at p0 p1
                clear hdl hraw hfx hDN HFN HDH HDD HHD HFR HNF
                go_wp2_with (first
                  | (refine store_first 27 (.tmp 4) (.tmp 119) rfl ?_; refine wpList_store_row rfl 27 (.tmp 4) (.tmp 119) rfl W.heap.size _ rfl rfl 27 #[.slice none 0 0, .slice none 0 0] HPG.out.out (by kernel_rfl) (by rfl) (by simp [Value.oneCell']) ?_))
                have hg9 : wo3.grownBy (wo3.setRow W.heap.size #[.slice aa NA ac, .slice fva DN fvc]) (some W.heap.size) := setRow_grown
                have hlc9 := HPG.out.lc
                have hlp9 := HPG.out.lp
                refine bodyPost_ret (results_cell_row rfl _ _ W.heap.size 27 _ (0, 0) _ rfl (setRow_heap _ _ _ _ _ _ HPG.out.out) Tryz.underlying27 rfl (by kernel_rfl)) rfl ?_
                rw [HQ.out]
                refine ⟨_, _, ars, done.map FD.q, rfl, HRAW.out, ⟨?_, ?_⟩, HPG.out.below.grown hg9 HPG.out.below.size (fun r e => by cases e; omega)⟩
                · exact (HARR.out.grown hg9 (fun r e => by cases e; omega) (fun _ _ h => h)).weak (fun q hq => (by omega : W.heap.size ≤ q)) (fun _ _ h => h)
                · have h1 := (HFX.out.grown hg9 (fun r e => by cases e; omega) (fun _ _ h => h.grown hg9 (fun r e => by cases e; omega))).weak (B' := (W.heap.size ≤ ·)) (fun q hq => (by omega : W.heap.size ≤ q)) (fun _ _ h => h.weak (fun q hq => (by omega : W.heap.size ≤ q)))
                  show RSlB _ 4 _ _ _ ((done.map FD.q).map PQ.f)
                  rw [List.map_map]
                  exact h1
  have HREST := Lib.hid hrest
  clear hKR hrest
  by_cases hL : 400 < L
  · have hLz : (400 : Int) < (L : Int) := by omega
    have hc400 : 400 ≤ c := by omega
    go_upto_region 3 with (fail)
    have c0 := HR2.out.cell 0
    have f0 := HR2.out.frozen 0
    simp only [List.getElem?_cons_zero] at c0
    go_wp2
    have hg2 : w1.grownBy (w1.setCell ⟨W.heap.size + 1, 0, none⟩ (.slice a 400 c)) (some (W.heap.size + 1)) := setCell_grown _ _ _ _
    refine HREST.out _ _ _ _ _ _ _ _ _ _ _ _ (HB1.out.grown hg2 HB1.out.size (fun r e => by cases e; omega)) (HR1.out.kept hg2 (by simp)) ⟨.slice a 400 c, l.take 400, 0, HR2.out.set 0 _, ?_, Nat.zero_le _⟩
    exact (((HLT.out 400 (by omega) (by omega)).grown (below_grown HB1.out none) (fun r e => by cases e) (fun _ _ h => h)).grown hg2 (fun r e => by cases e; omega) (fun _ _ h => h)).weak (fun b hb => by omega) (fun _ _ h => h)
  · have hLz : ¬ (400 : Int) < (L : Int) := by omega
    go_wp2
    refine HREST.out _ _ _ _ _ _ _ _ _ _ _ _ HB1.out HR1.out ⟨.slice a L c, l.take L, 0, HR2.out, ?_, Nat.zero_le _⟩
    exact ((HLT.out L (Nat.le_refl _) (by omega)).grown (below_grown HB1.out none) (fun r e => by cases e) (fun _ _ h => h)).weak (fun b hb => by omega) (fun _ _ h => h)
end Go.Proofs.YtjgbkdbkachciaaGreatDoor
