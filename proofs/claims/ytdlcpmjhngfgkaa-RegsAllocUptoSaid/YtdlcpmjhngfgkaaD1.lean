import Derived.Test.YtdlcpmjhngfgkaaC8
namespace Go.Proofs.Ytdlcpmjhngfgkaa
open Go.RowKit Go.Shelf
attribute [local go_sem] Oper.semAt_some

/-- what a row holds when k from either end have changed places -/
def revAt (cs : List Value) (n k i : Nat) : Option Value := if i < n ∧ (i < k ∨ n ≤ i + k) then cs[n - 1 - i]? else cs[i]?

set_option maxRecDepth 100000 in
set_option maxHeartbeats 2000000 in
theorem reverse_any (w : World) (g n c : Nat) (cs : List Value) (hr0 : Row w g 32 cs) (hn : n ≤ cs.length) (hsz0 : n ≤ 1000000000000) (hsl : ∀ v ∈ cs.take n, ∃ a m c, v = .slice a m c) :
    Calls Try.prog 71 #[.slice (some ⟨g, 0, none⟩) n c] w fun e w' => (∃ v, e = .returned v) ∧ w.grownBy w' (some g) ∧ Row w' g 32 ((cs.take n).reverse ++ cs.drop n) := by
  refine (callsIn_wide (n := 8)).1 ?_
  refine callsIn_of_wp Try.func71 rfl trivial ?_ rfl
  simp only [Try.ntmps71, List.size_toArray, List.length_cons, List.length_nil, Nat.reduceAdd, Nat.reduceSub, Array.replicate_succ, Array.replicate_zero, List.push_toArray, List.append_toArray, List.nil_append, List.cons_append]
  gi_wp2
  gi_loopg [2, 3] n (fun gh i j wr => ∃ (k : Nat) (l : List Value), gh + k = n ∧ i = I k ∧ j = I ((n : Int) - 1 - k) ∧ w.grownBy wr (some g) ∧ Row wr g 32 l ∧ l.length = cs.length ∧ ∀ i, l[i]? = revAt cs n k i)
  case atStart =>
    refine ⟨0, cs, by omega, rfl, by go_num, grown_refl _ _, hr0, rfl, fun i => ?_⟩
    unfold revAt
    by_cases h : i < n ∧ (i < 0 ∨ n ≤ i + 0)
    · omega
    · rw [if_neg h]
  case round =>
    obtain ⟨k, l, hg, rfl, rfl, hw, hrow, hl, hat⟩ := hrel
    have HW := Lib.hid hw
    have HR := Lib.hid hrow
    have HA := Lib.hid hat
    clear hw hrow hat
    by_cases hlt : 2 * k + 1 < n
    · gi_wp2
      obtain ⟨j, hj⟩ : ∃ j : Nat, (n : Int) - 1 - k = (j : Int) := ⟨n - 1 - k, by omega⟩
      rw [hj]
      have hsl' : ∀ i, i < n → ∃ a m c, l[i]? = some (.slice a m c) := fun i hi => by
        rw [HA.out i]
        have h1 : ∀ i, i < n → ∃ a m c, cs[i]? = some (.slice a m c) := fun i hi => by
          obtain ⟨a, m, c, e⟩ := hsl (cs[i]) (List.mem_take_iff_getElem.2 ⟨i, by omega, rfl⟩)
          exact ⟨a, m, c, by rw [List.getElem?_eq_getElem (by omega), e]⟩
        unfold revAt
        split
        · exact h1 _ (by omega)
        · exact h1 _ hi
      obtain ⟨xa, xm, xc, hx⟩ := hsl' k (by omega)
      obtain ⟨ya, ym, yc, hy⟩ := hsl' j (by omega)
      obtain ⟨x, hxe⟩ : ∃ x : Value, x = .slice xa xm xc := ⟨_, rfl⟩
      obtain ⟨y, hye⟩ : ∃ y : Value, y = .slice ya ym yc := ⟨_, rfl⟩
      rw [← hxe] at hx
      rw [← hye] at hy
      clear hsl'
      refine wpIn_region_rgL (by kernel_rfl) [13, 15] (by decide) (by kernel_rfl) (by kernel_rfl)
        (fun s W => W.heap.size = wr.heap.size ∧ wr.grownBy W (some g) ∧ Row W g 32 (if s = 0 then l else if s = 1 then l.set k y else (l.set k y).set j x))
        (fun _ _ => True)
        (fun i v _ => match i with
          | 0 => v = .slice (some ⟨g, 0, none⟩) n c
          | 1 => v = I k
          | 2 => v = .slice (some ⟨g, 0, none⟩) n c
          | 3 => v = I j
          | 4 => v = .slice (some ⟨g, 0, none⟩) n c
          | 5 => v = I j
          | 6 => v = .pointer (some ⟨g, j, none⟩)
          | 7 => v = y
          | 8 => v = .slice (some ⟨g, 0, none⟩) n c
          | 9 => v = I k
          | 10 => v = .pointer (some ⟨g, k, none⟩)
          | 11 => v = x
          | 12 => v = .pointer (some ⟨g, k, none⟩)
          | 14 => v = .pointer (some ⟨g, j, none⟩)
          | _ => True) ?h0 ?hst ?hop ?hend
      case h0 => exact ⟨rfl, ⟨rfl, rfl, rfl, Nat.le_refl _, fun _ _ _ => rfl⟩, HR.out⟩
      case hst =>
        intro i v W W' _ h
        exact h
      case hop =>
        have hk1 : (k : Int) < (n : Int) := by omega
        have hj1 : (j : Int) < (n : Int) := by omega
        refine ⟨?_, ?_, ?_, ?_, ?_, ?_, ?_, ?_, ?_, ?_, ?_, ?_, ?_, ?_, ?_, ?_, trivial⟩
        · rintro stg a W4 vs ho hstg hC hΦ hsz hr
          have r : a.tmps.getD 0 undef = (.slice (some ⟨g, 0, none⟩) n c) := (hr 0 (by simp [Oper.looksAt, Op.operands])).trans (show slotOf _ _ vs _ 0 = (.slice (some ⟨g, 0, none⟩) n c) from by kernel_rfl)
          refine rg_val ho rfl (fun _ _ => trivial) (by intro c h; cases h) (v := (.slice (some ⟨g, 0, none⟩) n c)) (W' := W4) ?_ ⟨_, rfl, hC, trivial, rfl⟩
          go_simp
        · rintro stg a W4 vs ho hstg hC hΦ hsz hr
          have r : a.tmps.getD 2 undef = (I k) := (hr 2 (by simp [Oper.looksAt, Op.operands])).trans (show slotOf _ _ vs _ 2 = (I k) from by kernel_rfl)
          refine rg_val ho rfl (fun _ _ => trivial) (by intro c h; cases h) (v := (I k)) (W' := W4) ?_ ⟨_, rfl, hC, trivial, rfl⟩
          go_simp
        · rintro stg a W4 vs ho hstg hC hΦ hsz hr
          have r : a.tmps.getD 0 undef = (.slice (some ⟨g, 0, none⟩) n c) := (hr 0 (by simp [Oper.looksAt, Op.operands])).trans (show slotOf _ _ vs _ 0 = (.slice (some ⟨g, 0, none⟩) n c) from by kernel_rfl)
          refine rg_val ho rfl (fun _ _ => trivial) (by intro c h; cases h) (v := (.slice (some ⟨g, 0, none⟩) n c)) (W' := W4) ?_ ⟨_, rfl, hC, trivial, rfl⟩
          go_simp
        · rintro stg a W4 vs ho hstg hC hΦ hsz hr
          have r : a.tmps.getD 3 undef = (I j) := (hr 3 (by simp [Oper.looksAt, Op.operands])).trans (show slotOf _ _ vs _ 3 = (I j) from by kernel_rfl)
          refine rg_val ho rfl (fun _ _ => trivial) (by intro c h; cases h) (v := (I j)) (W' := W4) ?_ ⟨_, rfl, hC, trivial, rfl⟩
          go_simp
        · rintro stg a W4 vs ho hstg hC hΦ hsz hr
          have r : a.tmps.getD 0 undef = (.slice (some ⟨g, 0, none⟩) n c) := (hr 0 (by simp [Oper.looksAt, Op.operands])).trans (show slotOf _ _ vs _ 0 = (.slice (some ⟨g, 0, none⟩) n c) from by kernel_rfl)
          refine rg_val ho rfl (fun _ _ => trivial) (by intro c h; cases h) (v := (.slice (some ⟨g, 0, none⟩) n c)) (W' := W4) ?_ ⟨_, rfl, hC, trivial, rfl⟩
          go_simp
        · rintro stg a W4 vs ho hstg hC hΦ hsz hr
          have r : a.tmps.getD 3 undef = (I j) := (hr 3 (by simp [Oper.looksAt, Op.operands])).trans (show slotOf _ _ vs _ 3 = (I j) from by kernel_rfl)
          refine rg_val ho rfl (fun _ _ => trivial) (by intro c h; cases h) (v := (I j)) (W' := W4) ?_ ⟨_, rfl, hC, trivial, rfl⟩
          go_simp
        · rintro stg a W4 vs ho hstg hC hΦ hsz hr
          have r1 : a.tmps.getD 18 undef = _ := ((hr 18 (by simp [Oper.looksAt, Op.operands])).trans (show slotOf _ _ vs _ 18 = vs 4 from by kernel_rfl)).trans (hΦ 4 (by kernel_rfl))
          have r2 : a.tmps.getD 19 undef = _ := ((hr 19 (by simp [Oper.looksAt, Op.operands])).trans (show slotOf _ _ vs _ 19 = vs 5 from by kernel_rfl)).trans (hΦ 5 (by kernel_rfl))
          refine rg_val ho rfl (fun _ _ => trivial) (by intro c h; cases h) (v := (.pointer (some ⟨g, j, none⟩))) (W' := W4) ?_ ⟨_, rfl, hC, trivial, rfl⟩
          go_simp
        · rintro stg a W4 vs ho hstg hC hΦ hsz hr
          obtain rfl := rgStage_k hstg 0 (by kernel_rfl) (by kernel_rfl)
          have r1 : a.tmps.getD 20 undef = _ := ((hr 20 (by simp [Oper.looksAt, Op.operands])).trans (show slotOf _ _ vs _ 20 = vs 6 from by kernel_rfl)).trans (hΦ 6 (by kernel_rfl))
          have hc := hC.2.2.cell j
          simp only [if_true] at hc
          rw [hy] at hc
          refine rg_val ho rfl (fun _ _ => trivial) (by intro c h; cases h) (v := y) (W' := W4) ?_ ⟨_, rfl, hC, trivial, rfl⟩
          go_simp
        · rintro stg a W4 vs ho hstg hC hΦ hsz hr
          have r : a.tmps.getD 0 undef = (.slice (some ⟨g, 0, none⟩) n c) := (hr 0 (by simp [Oper.looksAt, Op.operands])).trans (show slotOf _ _ vs _ 0 = (.slice (some ⟨g, 0, none⟩) n c) from by kernel_rfl)
          refine rg_val ho rfl (fun _ _ => trivial) (by intro c h; cases h) (v := (.slice (some ⟨g, 0, none⟩) n c)) (W' := W4) ?_ ⟨_, rfl, hC, trivial, rfl⟩
          go_simp
        · rintro stg a W4 vs ho hstg hC hΦ hsz hr
          have r : a.tmps.getD 2 undef = (I k) := (hr 2 (by simp [Oper.looksAt, Op.operands])).trans (show slotOf _ _ vs _ 2 = (I k) from by kernel_rfl)
          refine rg_val ho rfl (fun _ _ => trivial) (by intro c h; cases h) (v := (I k)) (W' := W4) ?_ ⟨_, rfl, hC, trivial, rfl⟩
          go_simp
        · rintro stg a W4 vs ho hstg hC hΦ hsz hr
          have r1 : a.tmps.getD 22 undef = _ := ((hr 22 (by simp [Oper.looksAt, Op.operands])).trans (show slotOf _ _ vs _ 22 = vs 8 from by kernel_rfl)).trans (hΦ 8 (by kernel_rfl))
          have r2 : a.tmps.getD 23 undef = _ := ((hr 23 (by simp [Oper.looksAt, Op.operands])).trans (show slotOf _ _ vs _ 23 = vs 9 from by kernel_rfl)).trans (hΦ 9 (by kernel_rfl))
          refine rg_val ho rfl (fun _ _ => trivial) (by intro c h; cases h) (v := (.pointer (some ⟨g, k, none⟩))) (W' := W4) ?_ ⟨_, rfl, hC, trivial, rfl⟩
          go_simp
        · rintro stg a W4 vs ho hstg hC hΦ hsz hr
          obtain rfl := rgStage_k hstg 0 (by kernel_rfl) (by kernel_rfl)
          have r1 : a.tmps.getD 24 undef = _ := ((hr 24 (by simp [Oper.looksAt, Op.operands])).trans (show slotOf _ _ vs _ 24 = vs 10 from by kernel_rfl)).trans (hΦ 10 (by kernel_rfl))
          have hc := hC.2.2.cell k
          simp only [if_true] at hc
          rw [hx] at hc
          refine rg_val ho rfl (fun _ _ => trivial) (by intro c h; cases h) (v := x) (W' := W4) ?_ ⟨_, rfl, hC, trivial, rfl⟩
          go_simp
        · rintro stg a W4 vs ho hstg hC hΦ hsz hr
          have r1 : a.tmps.getD 14 undef = _ := ((hr 14 (by simp [Oper.looksAt, Op.operands])).trans (show slotOf _ _ vs _ 14 = vs 0 from by kernel_rfl)).trans (hΦ 0 (by kernel_rfl))
          have r2 : a.tmps.getD 15 undef = _ := ((hr 15 (by simp [Oper.looksAt, Op.operands])).trans (show slotOf _ _ vs _ 15 = vs 1 from by kernel_rfl)).trans (hΦ 1 (by kernel_rfl))
          refine rg_val ho rfl (fun _ _ => trivial) (by intro c h; cases h) (v := (.pointer (some ⟨g, k, none⟩))) (W' := W4) ?_ ⟨_, rfl, hC, trivial, rfl⟩
          go_simp
        · rintro stg a W4 vs ho hstg hC hΦ hsz hr
          obtain rfl := rgStage_k hstg 0 (by kernel_rfl) (by kernel_rfl)
          have r1 : a.tmps.getD 26 undef = _ := ((hr 26 (by simp [Oper.looksAt, Op.operands])).trans (show slotOf _ _ vs _ 26 = vs 12 from by kernel_rfl)).trans (hΦ 12 (by kernel_rfl))
          have r2 : a.tmps.getD 21 undef = _ := ((hr 21 (by simp [Oper.looksAt, Op.operands])).trans (show slotOf _ _ vs _ 21 = vs 7 from by kernel_rfl)).trans (hΦ 7 (by kernel_rfl))
          have hc := hC.2.2.cell k
          have hf := hC.2.2.frozen k
          simp only [if_true] at hc
          rw [hx] at hc
          refine rg_skip ho rfl (fun _ _ => trivial) (by intro c h; cases h) (W' := W4.setCell ⟨g, k, none⟩ y) ?_ ⟨_, rfl, ⟨?_, ?_, ?_⟩, trivial, trivial⟩
          · rw [hye] at r2 ⊢; go_simp
          · rw [← hC.1]; simp [World.setCell]
          · exact grown_trans hC.2.1 (setCell_grown _ _ _ _)
          · exact hC.2.2.set k y
        · rintro stg a W4 vs ho hstg hC hΦ hsz hr
          have r1 : a.tmps.getD 16 undef = _ := ((hr 16 (by simp [Oper.looksAt, Op.operands])).trans (show slotOf _ _ vs _ 16 = vs 2 from by kernel_rfl)).trans (hΦ 2 (by kernel_rfl))
          have r2 : a.tmps.getD 17 undef = _ := ((hr 17 (by simp [Oper.looksAt, Op.operands])).trans (show slotOf _ _ vs _ 17 = vs 3 from by kernel_rfl)).trans (hΦ 3 (by kernel_rfl))
          refine rg_val ho rfl (fun _ _ => trivial) (by intro c h; cases h) (v := (.pointer (some ⟨g, j, none⟩))) (W' := W4) ?_ ⟨_, rfl, hC, trivial, rfl⟩
          go_simp
        · rintro stg a W4 vs ho hstg hC hΦ hsz hr
          obtain rfl := rgStage_k hstg 1 (by kernel_rfl) (by kernel_rfl)
          have r1 : a.tmps.getD 27 undef = _ := ((hr 27 (by simp [Oper.looksAt, Op.operands])).trans (show slotOf _ _ vs _ 27 = vs 14 from by kernel_rfl)).trans (hΦ 14 (by kernel_rfl))
          have r2 : a.tmps.getD 25 undef = _ := ((hr 25 (by simp [Oper.looksAt, Op.operands])).trans (show slotOf _ _ vs _ 25 = vs 11 from by kernel_rfl)).trans (hΦ 11 (by kernel_rfl))
          have hc := hC.2.2.cell j
          have hf := hC.2.2.frozen j
          have hkj : k ≠ j := by omega
          simp only [Nat.one_ne_zero, if_false, if_true] at hc
          rw [List.getElem?_set_ne hkj, hy] at hc
          refine rg_skip ho rfl (fun _ _ => trivial) (by intro c h; cases h) (W' := W4.setCell ⟨g, j, none⟩ x) ?_ ⟨_, rfl, ⟨?_, ?_, ?_⟩, trivial, trivial⟩
          · rw [hxe] at r2 ⊢; go_simp
          · rw [← hC.1]; simp [World.setCell]
          · exact grown_trans hC.2.1 (setCell_grown _ _ _ _)
          · exact hC.2.2.set j x
      case hend =>
        rintro vs W ⟨hs, hg2, hrow⟩ hΦ
        generalize hs : slotOf _ _ vs (fun _ => true) = s
        simp only [List.size_toArray, List.length_cons, List.length_nil, Nat.reduceAdd, List.range, List.range.loop, List.map_cons, List.map_nil]
        have s0 : s 0 = .slice (some ⟨g, 0, none⟩) n c := by rw [← hs]; kernel_rfl
        have s1 : s 1 = undef := by rw [← hs]; kernel_rfl
        have s2 : s 2 = I k := by rw [← hs]; kernel_rfl
        have s3 : s 3 = I j := by rw [← hs]; kernel_rfl
        have s4 : s 4 = .slice (some ⟨g, 0, none⟩) n c := by rw [← hs]; kernel_rfl
        have s5 : s 5 = I n := by rw [← hs]; kernel_rfl
        have s6 : s 6 = I (n - 1) := by rw [← hs]; kernel_rfl
        rw [s0, s1, s2, s3, s4, s5, s6]
        clear hs s0 s1 s2 s3 s4 s5 s6
        gi_wp2
        gi_roundg (n - (k + 1))
        case measure => omega
        case rel =>
          simp only [Nat.succ_ne_self, Nat.reduceEqDiff, List.length_cons, List.length_nil, if_false] at hrow
          refine ⟨k + 1, _, by omega, by go_num, by go_num, grown_trans HW.out hg2, hrow, by simp [hl], fun i => ?_⟩
          rw [HA.out k] at hx
          rw [HA.out j] at hy
          unfold revAt at hx hy
          rw [if_neg (by omega)] at hx hy
          rw [List.getElem?_set, List.getElem?_set, List.length_set]
          by_cases h1 : j = i
          · subst h1
            rw [if_pos rfl, if_pos (by omega)]
            unfold revAt
            rw [if_pos (by omega), show n - 1 - j = k by omega, hx]
          · rw [if_neg h1]
            by_cases h2 : k = i
            · subst h2
              rw [if_pos rfl, if_pos (by omega)]
              unfold revAt
              rw [if_pos (by omega), show n - 1 - k = j by omega, hy]
            · rw [if_neg h2, HA.out i]
              unfold revAt
              by_cases h3 : i < n ∧ (i < k ∨ n ≤ i + k)
              · rw [if_pos h3, if_pos (by omega)]
              · rw [if_neg h3, if_neg (by omega)]
    · gi_wp2
      refine bodyPost_end (results_none rfl _ _ _) rfl ?_
      refine ⟨⟨_, rfl⟩, HW.out, ?_⟩
      have : l = (cs.take n).reverse ++ cs.drop n := by
        apply List.ext_getElem?
        intro i
        rw [HA.out i]
        unfold revAt
        by_cases hi : i < n
        · rw [List.getElem?_append_left (by simp; omega), List.getElem?_reverse (by simp; omega), List.getElem?_take, List.length_take, Nat.min_eq_left hn]
          rw [if_pos (show n - 1 - i < n by omega)]
          by_cases h3 : i < n ∧ (i < k ∨ n ≤ i + k)
          · rw [if_pos h3]
          · rw [if_neg h3]; congr 1; omega
        · rw [if_neg (by omega), List.getElem?_append_right (by simp; omega), List.getElem?_drop, List.length_reverse, List.length_take, Nat.min_eq_left hn]
          congr 1; omega
      rw [← this]; exact HR.out

end Go.Proofs.Ytdlcpmjhngfgkaa
