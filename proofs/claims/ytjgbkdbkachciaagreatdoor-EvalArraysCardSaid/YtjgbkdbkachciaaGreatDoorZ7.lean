import Derived.Test.YtjgbkdbkachciaaGreatDoorZ4
namespace Go.Proofs.YtjgbkdbkachciaaGreatDoor
open Go.RowKit Go.Shelf
attribute [local go_sem] Oper.semAt_some

def ValC (d : Nat) : Prop := ∀ (e : LE) (av : Value) (W : World) (B : Nat → Prop), NumX d e → EX B W av e →
  Calls Tryz.prog 38 #[eV e av] W fun en w' => en = .returned (.tuple #[I ((valD d e).getD 0), .bool (valD d e).isSome]) ∧ Below W.heap.size W w'
theorem NumX.args {d : Nat} {e : LE} (h : NumX (d + 1) e) : ∀ x ∈ e.args, NumX d x := by
  rcases h with ⟨_, h⟩ | ⟨_, _, a, h, h1⟩ | ⟨_, a, b, h, h1, h2⟩
  · rw [h]; intro x hx; cases hx
  · rw [h]; intro x hx; rw [List.mem_singleton.1 hx]; exact h1
  · rw [h]; intro x hx
    rcases List.mem_cons.1 hx with rfl | hx
    · exact h1
    · rw [List.mem_singleton.1 hx]; exact h2

set_option maxRecDepth 100000 in
set_option maxHeartbeats 16000000 in
theorem value_any : ∀ d, ValC d
  | 0 => fun _ _ _ _ h => h.elim
  | d + 1 => by
    have ih := value_any d
    intro e av W B hn hx
    obtain ⟨a0, c0, rfl⟩ := hx.slice
    obtain ⟨dd, hx⟩ := hx
    obtain ⟨ek, hek⟩ : ∃ k, k = e.kind := ⟨_, rfl⟩
    obtain ⟨eo, heo⟩ : ∃ k, k = e.op := ⟨_, rfl⟩
    obtain ⟨en, hen⟩ : ∃ k, k = e.n := ⟨_, rfl⟩
    obtain ⟨nm, hnm⟩ : ∃ k, k = e.name := ⟨_, rfl⟩
    obtain ⟨al, hal⟩ : ∃ k, k = e.args.length := ⟨_, rfl⟩
    obtain ⟨vr, hvr⟩ : ∃ v, v = valD (d + 1) e := ⟨_, rfl⟩
    rw [eV, ← hek, ← heo, ← hen, ← hnm, ← hal, ← hvr]
    rw [← hal] at hx
    have hal2 : al ≤ 2 := by
      rw [hal]
      rcases hn with ⟨_, h⟩ | ⟨_, _, a, h, h1⟩ | ⟨_, a, b, h, h1, h2⟩ <;> rw [h] <;> simp
    have hk3 : ek = 1 ∨ ek = 3 ∨ ek = 4 := by
      rw [hek]
      rcases hn with ⟨h, _⟩ | ⟨h, _⟩ | ⟨h, _⟩
      · exact .inl h
      · exact .inr (.inl h)
      · exact .inr (.inr h)
    have HX := Lib.hid hx
    have HN := Lib.hid hn
    have HEK := Lib.hid hek
    have HEO := Lib.hid heo
    have HEN := Lib.hid hen
    have HAL := Lib.hid hal
    have HVR := Lib.hid hvr
    have HI := Lib.hid ih
    have HK3 := Lib.hid hk3
    obtain ⟨w0, hw0⟩ : ∃ w0, w0 = W.alloc (.cells #[I ek, I eo, I en, S nm, .slice a0 al c0] 31) := ⟨_, rfl⟩
    have hwe := hw0.symm
    have hb0 : Below W.heap.size W w0 := by rw [hw0]; exact below_a1 _ _
    have hp0 : Row w0 W.heap.size 31 [I ek, I eo, I en, S nm, .slice a0 al c0] := by rw [hw0]; exact heap_new _ _
    have HB0 := Lib.hid hb0
    have HP0 := Lib.hid hp0
    clear hx hn hek heo hen hnm hal hvr hw0 hb0 hp0 ih hk3
    go_enter Tryz.func38, Tryz.ntmps38
    go_upto_region 2 with (fail)
    obtain ⟨w1, hw1⟩ : ∃ w1, w1 = w0.alloc (.cells #[] 3) := ⟨_, rfl⟩
    have hb1 : Below W.heap.size W w1 := by rw [hw1]; exact HB0.out.alloc HB0.out.size _
    have hp1 : Row w1 W.heap.size 31 [I ek, I eo, I en, S nm, .slice a0 al c0] := by rw [hw1]; exact heap_old _ _ HP0.out
    have ho1 : OwnInts w1 (W.heap.size + 1) (.slice (some ⟨w0.heap.size, 0, none⟩) 0 0) [] := by
      rw [hw1]
      exact ⟨rfl, .inr ⟨w0.heap.size, 0, #[], rfl, HP0.out.lt, heap_new _ _, Nat.le_refl _, by decide, rfl, rfl⟩⟩
    rw [← hw1]
    have p4 := hp1.cell 4
    simp only [List.getElem?_cons_zero, List.getElem?_cons_succ] at p4
    have HB1 := Lib.hid hb1
    have HP1 := Lib.hid hp1
    have HO1 := Lib.hid ho1
    clear hw1 hb1 hp1 ho1
    go_upto_region 3 with (fail)
    go_loopg [4, 5, 14] al (fun gh v fb i wr => ∃ j : Nat, gh + j = al ∧ i = I j ∧ ∃ b, fb = .bool b ∧ Hid (b = (e.args.take j).all (fun x => (valD d x).isSome) ∧ Below W.heap.size W wr ∧ Row wr W.heap.size 31 [I ek, I eo, I en, S nm, .slice a0 al c0] ∧ OwnInts wr (W.heap.size + 1) v ((e.args.take j).map fun x => (valD d x).getD 0)))
    case atStart => exact ⟨0, rfl, rfl, true, rfl, Lib.hid ⟨rfl, HB1.out, HP1.out, HO1.out⟩⟩
    case round =>
      obtain ⟨j, hg, rfl, fb, rfl, HH⟩ := hrel
      obtain ⟨wo, rfl⟩ : ∃ wo, wo = wr := ⟨_, rfl⟩
      by_cases hlt : j < al
      · have hltz : (j : Int) < (al : Int) := by omega
        have hjl : j < e.args.length := by rw [← HAL.out]; exact hlt
        have hvo := RSlB.below HH.out.2.1 (fun C x h => RE.grown dd (below_grown HH.out.2.1 none) (fun r e => by cases e) h) HX.out
        obtain ⟨b, o, C, rfl, hBb, hC, hrx⟩ := hvo.at hjl
        obtain ⟨x, hx⟩ : ∃ x, x = e.args[j] := ⟨_, rfl⟩
        rw [← hx] at hrx
        obtain ⟨dx, rfl⟩ : ∃ dx, dd = dx + 1 := by
          cases dd with
          | zero => exact hrx.elim
          | succ dx => exact ⟨dx, rfl⟩
        obtain ⟨h0, h1, h2, h3, h4⟩ := hrx
        obtain ⟨xa, xc, hxv, -⟩ := id h4
        have e0 := hC 0 (by omega)
        have e1 := hC 1 (by omega)
        have e2 := hC 2 (by omega)
        have e3 := hC 3 (by omega)
        have e4 := hC 4 (by omega)
        rw [h0] at e0
        rw [h1] at e1
        rw [h2] at e2
        rw [h3] at e3
        rw [hxv] at e4 h4
        simp only [Nat.add_zero] at e0 e1 e2 e3 e4
        have htk : e.args.take (j + 1) = e.args.take j ++ [x] := by rw [List.take_succ_eq_append_getElem hjl, ← hx]
        obtain ⟨ls, hls⟩ : ∃ l, l = (e.args.take j).map fun x => (valD d x).getD 0 := ⟨_, rfl⟩
        have hll : ls.length ≤ 2 := by rw [hls, List.length_map, List.length_take]; omega
        have ho := HH.out.2.2.2
        rw [← hls] at ho
        have HO := Lib.hid ho
        have HFB := Lib.hid HH.out.1
        have HBO := Lib.hid HH.out.2.1
        have HPO := Lib.hid HH.out.2.2.1
        have HTK := Lib.hid htk
        have HLS := Lib.hid hls
        have HX4 := Lib.hid h4
        have hnx : NumX d x := by rw [hx]; exact HN.out.args _ (List.getElem_mem hjl)
        have HNX := Lib.hid hnx
        obtain ⟨xn, hxn⟩ : ∃ n, n = x.args.length := ⟨_, rfl⟩
        rw [← hxn] at e4 HX4
        have HXN := Lib.hid hxn
        clear hvo hBb hC h0 h1 h2 h3 h4 hxv hx htk hls ho HH hnx hxn
        go_upto_region 5 with (first
          | (refine store_first 31 (.tmp 7) (.tmp 17) rfl ?_; refine wpList_store_row rfl 31 (.tmp 7) (.tmp 17) rfl wo.heap.size _ rfl rfl 31 eZ (heap_new _ _) (by kernel_rfl) (by rfl) (by simp [Value.oneCell']) ?_))
        obtain ⟨w3, hw3⟩ : ∃ w3, w3 = (wo.alloc (.cells eZ 31)).setRow wo.heap.size #[I x.kind, I x.op, I x.n, S x.name, .slice xa xn xc] := ⟨_, rfl⟩
        have hg3 : wo.grownBy w3 none := by rw [hw3, World.setRow_alloc_new]; exact alloc_grown _ _ _
        have hx3 : Row w3 wo.heap.size 31 [I x.kind, I x.op, I x.n, S x.name, .slice xa xn xc] := by rw [hw3]; exact setRow_heap _ _ _ _ _ _ (heap_new _ _)
        rw [← hw3]
        have c0 := hx3.cell 0
        have c1 := hx3.cell 1
        have c2 := hx3.cell 2
        have c3 := hx3.cell 3
        have c4 := hx3.cell 4
        simp only [List.getElem?_cons_succ, List.getElem?_cons_zero] at c0 c1 c2 c3 c4
        have hcall := HI.out x (.slice xa xn xc) w3 B HNX.out (⟨dx, (show RSlB B 5 (RE dx B) wo (.slice xa xn xc) x.args from HX4.out).grown hg3 (fun r e => by cases e) fun _ _ h => RE.grown dx hg3 (fun r e => by cases e) h⟩ : EX B w3 (.slice xa xn xc) x)
        rw [eV] at hcall
        obtain ⟨vx, hvx⟩ : ∃ v, v = valD d x := ⟨_, rfl⟩
        rw [← hvx] at hcall
        obtain ⟨nx, hnx⟩ : ∃ n, n = vx.getD 0 := ⟨_, rfl⟩
        obtain ⟨bx, hbx⟩ : ∃ n, n = vx.isSome := ⟨_, rfl⟩
        rw [← hnx, ← hbx] at hcall
        have HCALL := Lib.hid hcall
        have HVX := Lib.hid hvx
        have HNXX := Lib.hid hnx
        have HBX := Lib.hid hbx
        have HB3 := Lib.hid (HBO.out.grown hg3 HBO.out.size (fun r e => by cases e))
        have HP3 := Lib.hid (HPO.out.kept hg3 (by simp))
        have HO3 := Lib.hid (HO.out.kept hg3 (fun r e => by cases e))
        clear hw3 hg3 hx3 hcall hvx hnx hbx e0 e1 e2 e3 e4
        go_upto_region 6 with (first
          | (go_at_call 38; refine HCALL.out.mono ?_; rintro e' w4 ⟨rfl, hb4⟩; have HB4 := Lib.hid (HB3.out.trans (hb4.mono HB3.out.size)); have HP4 := Lib.hid (HP3.out.ext hb4); have HO4 := Lib.hid (HO3.out.tag (below_grown hb4 none) (NoTag.none _ _)); clear hb4))
        have hcn : (w4.alloc (.cells #[I nx] 3)).cell? ⟨w4.heap.size, 0, none⟩ = some (.int .i64 nx) := by rw [cell_of_block (heap_new w4 (.cells #[I nx] 3))]; rfl
        have HCN := Lib.hid hcn
        have HOA := Lib.hid (HO4.out.kept (alloc_grown w4 (.cells #[I nx] 3) none) (fun r e => by cases e))
        have hbs : W.heap.size + 1 ≤ (w4.alloc (.cells #[I nx] 3)).heap.size := by have := HP4.out.lt; simp; omega
        have HBS := Lib.hid hbs
        clear hcn c0 c1 c2 c3 c4 hbs
        cases fb with
        | false =>
          go_upto_region 7 with (first
            | (at_builtin; refine wpList_app1 rfl _ _ rfl (W.heap.size + 1) u4 ls rfl HOA.out w4.heap.size nx rfl HCN.out (by omega) HBS.out ?_; intro g' cap' w6 ho6 hg6 hat6 hlt6; have HO6 := Lib.hid ho6; have HG6 := Lib.hid hg6; clear ho6 hg6 hat6))
          have hown : ∀ r, u4.ownBlock = some r → W.heap.size + 1 ≤ r := fun r e => (ownsRow_base HO4.out r e).1
          have hb6 : Below W.heap.size W w6 := (HB4.out.alloc HB4.out.size _).grown HG6.out (by have := HB4.out.size; simp; omega) (fun r e => by have := hown r e; omega)
          have hp6 := (HP4.out.kept (alloc_grown w4 (.cells #[I nx] 3) none) (by simp)).kept HG6.out (fun e => by have := hown _ e.symm; omega)
          have hfb : (e.args.take (j + 1)).all (fun x => (valD d x).isSome) = (false && bx) := by
            rw [HTK.out, List.all_append, ← HFB.out, HBX.out, HVX.out]; simp
          have hls : (e.args.take (j + 1)).map (fun x => (valD d x).getD 0) = ls ++ [nx] := by
            rw [HTK.out, List.map_append, ← HLS.out, HNXX.out, HVX.out]; rfl
          have HB6 := Lib.hid hb6
          have HP6 := Lib.hid hp6
          have HFB6 := Lib.hid hfb
          have HLS6 := Lib.hid hls
          clear hown hb6 hp6 hfb hls
          go_wp2
          go_roundg (al - (j + 1))
          case measure => omega
          case rel => exact ⟨j + 1, by omega, by go_num, _, rfl, Lib.hid ⟨by rw [HFB6.out]; rfl, HB6.out, HP6.out, by rw [HLS6.out]; exact HO6.out⟩⟩
        | true =>
          go_upto_region 7 with (first
            | (at_builtin; refine wpList_app1 rfl _ _ rfl (W.heap.size + 1) u4 ls rfl HOA.out w4.heap.size nx rfl HCN.out (by omega) HBS.out ?_; intro g' cap' w6 ho6 hg6 hat6 hlt6; have HO6 := Lib.hid ho6; have HG6 := Lib.hid hg6; clear ho6 hg6 hat6))
          have hown : ∀ r, u4.ownBlock = some r → W.heap.size + 1 ≤ r := fun r e => (ownsRow_base HO4.out r e).1
          have hb6 : Below W.heap.size W w6 := (HB4.out.alloc HB4.out.size _).grown HG6.out (by have := HB4.out.size; simp; omega) (fun r e => by have := hown r e; omega)
          have hp6 := (HP4.out.kept (alloc_grown w4 (.cells #[I nx] 3) none) (by simp)).kept HG6.out (fun e => by have := hown _ e.symm; omega)
          have hfb : (e.args.take (j + 1)).all (fun x => (valD d x).isSome) = (true && bx) := by
            rw [HTK.out, List.all_append, ← HFB.out, HBX.out, HVX.out]; simp
          have hls : (e.args.take (j + 1)).map (fun x => (valD d x).getD 0) = ls ++ [nx] := by
            rw [HTK.out, List.map_append, ← HLS.out, HNXX.out, HVX.out]; rfl
          have HB6 := Lib.hid hb6
          have HP6 := Lib.hid hp6
          have HFB6 := Lib.hid hfb
          have HLS6 := Lib.hid hls
          clear hown hb6 hp6 hfb hls
          go_wp2
          go_roundg (al - (j + 1))
          case measure => omega
          case rel => exact ⟨j + 1, by omega, by go_num, _, rfl, Lib.hid ⟨by rw [HFB6.out]; rfl, HB6.out, HP6.out, by rw [HLS6.out]; exact HO6.out⟩⟩
      · have hltz : ¬ (j : Int) < (al : Int) := by omega
        have hfb := HH.out.1
        have ho := HH.out.2.2.2
        have hp := HH.out.2.2.1
        rw [List.take_of_length_le (by rw [← HAL.out]; omega)] at hfb ho
        have p0 := hp.cell 0
        have p1 := hp.cell 1
        have p2 := hp.cell 2
        simp only [List.getElem?_cons_zero, List.getElem?_cons_succ] at p0 p1 p2
        have HBO := Lib.hid HH.out.2.1
        have HPO := Lib.hid hp
        have HFB := Lib.hid hfb
        have HO := Lib.hid ho
        clear HH hfb ho hp
        cases fb with
        | false =>
          have hv : vr = none := by
            rw [HVR.out]
            have h0 := HFB.out
            rcases HN.out with ⟨_, h⟩ | ⟨h1, _, a, h, _⟩ | ⟨h1, a, b, h, _, _⟩
            · rw [h] at h0; simp at h0
            · rw [h] at h0
              have h0 : valD d a = none := by simpa using h0
              rw [valD, if_neg (by omega), if_pos h1, h]
              show (valD d a).bind _ = none
              rw [h0]; rfl
            · rw [h] at h0
              rw [valD, if_neg (by omega), if_neg (by omega), h]
              show (valD d a).bind (fun x => (valD d b).bind (twoI e.op x)) = none
              cases ha : valD d a with
              | none => rfl
              | some x =>
                have h0 : valD d b = none := by simpa [ha] using h0
                rw [h0]; rfl
          have HV := Lib.hid hv
          clear hv
          go_wp2
          go_ret2
          exact ⟨by rw [HV.out]; rfl, HBO.out⟩
        | true =>
          have hlit : RSlB (fun b => b = wo.heap.size) 1 RI (wo.alloc (.cells #[I 1, I 3, I 4] 3)) (.slice (some ⟨wo.heap.size, 0, none⟩) 3 3) [1, 3, 4] := by
            refine ⟨_, _, rfl, by simp, .inr ⟨wo.heap.size, 0, rfl, rfl, fun i x hx => ⟨fun _ => I x, fun j hj => ?_, rfl⟩⟩⟩
            obtain rfl : j = 0 := by omega
            rw [cell_of_block (heap_new wo (.cells #[I 1, I 3, I 4] 3))]
            match i, hx with
            | 0, hx => cases hx; rfl
            | 1, hx => cases hx; rfl
            | 2, hx => cases hx; rfl
            | i + 3, hx => simp at hx
          have hmem : decide (ek ∈ [(1 : Int), 3, 4]) = true := by rw [decide_eq_true_eq]; have := HK3.out; simp; omega
          have hct := containsI_any (wo.alloc (.cells #[I 1, I 3, I 4] 3)) _ [1, 3, 4] ek hlit
          rw [hmem] at hct
          have HCT := Lib.hid hct
          clear hlit hmem hct
          have hb4 : Below W.heap.size W (wo.alloc (.cells #[I 1, I 3, I 4] 3)) := HBO.out.alloc HBO.out.size _
          have hp4 := HPO.out.kept (alloc_grown wo (.cells #[I 1, I 3, I 4] 3) none) (by simp)
          have ho4 := HO.out.kept (alloc_grown wo (.cells #[I 1, I 3, I 4] 3) none) (fun r e => by cases e)
          obtain ⟨w4, hw4⟩ : ∃ w4, w4 = wo.alloc (.cells #[I 1, I 3, I 4] 3) := ⟨_, rfl⟩
          have hwe4 := hw4.symm
          rw [← hw4] at hb4 hp4 ho4 HCT
          have q0 := hp4.cell 0
          have q1 := hp4.cell 1
          have q2 := hp4.cell 2
          simp only [List.getElem?_cons_zero, List.getElem?_cons_succ] at q0 q1 q2
          have HB4 := Lib.hid hb4
          have HP4 := Lib.hid hp4
          have HO4 := Lib.hid ho4
          clear hw4 hb4 hp4 ho4
          rcases HK3.out with rfl | rfl | rfl
          · have hv : vr = some en := by rw [HVR.out, HEN.out, valD, if_pos HEK.out.symm]
            have HV := Lib.hid hv
            clear hv
            go_wp2_with (first
              | (go_at_call 61; refine HCT.out.mono ?_; rintro e' w5 ⟨rfl, rfl⟩))
            go_ret2
            exact ⟨by rw [HV.out]; rfl, HB4.out⟩
          · obtain ⟨a, hla, hsome, hnx⟩ : ∃ a, e.args = [a] ∧ (valD d a).isSome = true ∧ ∀ z, (oneI e.op z).isSome := by
              have h0 := HFB.out
              rcases HN.out with ⟨h1, _⟩ | ⟨_, h2, a, h, _⟩ | ⟨h1, _⟩
              · have := HEK.out; omega
              · rw [h] at h0; exact ⟨a, h, by simpa using h0.symm, h2⟩
              · have := HEK.out; omega
            obtain ⟨x, hx⟩ := Option.isSome_iff_exists.1 hsome
            have ho4 := HO4.out
            rw [hla] at ho4
            simp only [List.map_cons, List.map_nil, hx, Option.getD_some] at ho4
            obtain ⟨g, cap, hu4, hc0⟩ := ho4.cell (i := 0) (x := x) rfl
            subst hu4
            obtain ⟨z, hz⟩ := Option.isSome_iff_exists.1 (hnx x)
            have hv : vr = some z := by
              rw [HVR.out, valD, if_neg (by have := HEK.out; omega), if_pos HEK.out.symm, hla]
              show (valD d a).bind _ = _
              rw [hx]; exact hz
            have hone := fun X => one_any eo x X
            rw [HEO.out, hz] at hone
            have hrt : retI (some z) = .tuple #[I z, .bool true] := rfl
            rw [hrt, ← HEO.out] at hone
            have HONE := Lib.hid hone
            have HV := Lib.hid hv
            have HC0 := Lib.hid hc0
            clear hla hsome hnx hx ho4 hc0 hz hv hone hrt
            simp only [List.length_cons, List.length_nil, Nat.zero_add] at *
            go_upto_region 13 with (first
              | (go_at_call 61; refine HCT.out.mono ?_; rintro e' w5 ⟨rfl, rfl⟩))
            refine wp_region_ordW (by kernel_rfl) (fun X => X.cell? ⟨W.heap.size, 1, none⟩ = some (I eo) ∧ X.cell? ⟨g, 0, none⟩ = some (I x)) [(0, 0), (0, 1), (0, 2), (0, 3), (0, 4), (1, 5), (0, 6), (0, 7), (0, 8), (0, 9)] (by kernel_rfl) ?hS3 ?_
            case hS3 => intro wd hh; exact ⟨row_at HP4.out hh 1, (cell_heap hh _).trans HC0.out⟩
            intro wd hh hgd hS
            have HBD := Lib.hid (HB4.out.grown hgd HB4.out.size (fun r e => by cases e))
            have HPD := Lib.hid (HP4.out.kept hgd (by simp))
            have HCD := Lib.hid (gcell HC0.out hgd (by simp))
            clear hh hgd q0 q1 q2 p0 p1 p2
            simp only [pickOps, List.map_cons, List.map_nil, List.getElem?_cons_zero, List.getElem?_cons_succ, Option.getD_some]
            repeat (first | (refine wpOrd_pass (by rfl) (by assumption) (fun _ _ _ h => h) ?_; simp only [Act.put, List.setIfInBounds_toArray, List.set_cons_zero, List.set_cons_succ]) | (refine wpOrd_look (v := ?_) (by rfl) ?_ (by assumption) (fun _ _ _ h => h) ?_; rotate_left; (· (intro wS hSw; (try dsimp only at hSw); go_simp; (first | done | with_reducible rfl))); simp only [Act.put, List.setIfInBounds_toArray, List.set_cons_zero, List.set_cons_succ]))
            refine wpOrd_turn ?_
            go_wp2_with (first
              | (go_at_call 62; refine (HONE.out _).mono ?_; rintro e' w6 ⟨rfl, hb6⟩; have HB6 := Lib.hid hb6; clear hb6 hS))
            refine QN_keep ⟨(HPD.out.ext HB6.out).cell 1, gcell HCD.out (below_grown HB6.out none) (by simp)⟩ fun hS => ?_
            repeat (first | (refine wpOrd_pass (by rfl) (by assumption) (fun _ _ _ h => h) ?_; simp only [Act.put, List.setIfInBounds_toArray, List.set_cons_zero, List.set_cons_succ]) | (refine wpOrd_look (v := ?_) (by rfl) ?_ (by assumption) (fun _ _ _ h => h) ?_; rotate_left; (· (intro wS hSw; (try dsimp only at hSw); go_simp; (first | done | with_reducible rfl))); simp only [Act.put, List.setIfInBounds_toArray, List.set_cons_zero, List.set_cons_succ]))
            refine wpOrd_nil ?_
            clear hS
            go_wp2
            go_ret2
            exact ⟨by rw [HV.out]; rfl, HBD.out.trans (HB6.out.mono HBD.out.size)⟩
          · obtain ⟨a, b, hla, hsa, hsb⟩ : ∃ a b, e.args = [a, b] ∧ (valD d a).isSome = true ∧ (valD d b).isSome = true := by
              have h0 := HFB.out
              rcases HN.out with ⟨h1, _⟩ | ⟨h1, _⟩ | ⟨_, a, b, h, _, _⟩
              · have := HEK.out; omega
              · have := HEK.out; omega
              · rw [h] at h0
                have h0 : (valD d a).isSome = true ∧ (valD d b).isSome = true := by simpa using h0.symm
                exact ⟨a, b, h, h0.1, h0.2⟩
            obtain ⟨x, hx⟩ := Option.isSome_iff_exists.1 hsa
            obtain ⟨y, hy⟩ := Option.isSome_iff_exists.1 hsb
            have ho4 := HO4.out
            rw [hla] at ho4
            simp only [List.map_cons, List.map_nil, hx, hy, Option.getD_some] at ho4
            obtain ⟨g, cap, hu4, hc0⟩ := ho4.cell (i := 0) (x := x) rfl
            subst hu4
            have hc1 := ho4.cell' (i := 1) (x := y) rfl
            have hv : vr = twoI eo x y := by
              rw [HVR.out, valD, if_neg (by have := HEK.out; omega), if_neg (by have := HEK.out; omega), hla, HEO.out]
              show (valD d a).bind (fun x => (valD d b).bind (twoI e.op x)) = _
              rw [hx, hy]; rfl
            have htwo := fun X => two_any eo x y X
            rw [← hv] at htwo
            obtain ⟨n2, b2, hrt, hn2, hb2⟩ : ∃ n b, retI vr = .tuple #[I n, .bool b] ∧ vr.getD 0 = n ∧ vr.isSome = b := by
              cases vr with
              | none => exact ⟨0, false, rfl, rfl, rfl⟩
              | some z => exact ⟨z, true, rfl, rfl, rfl⟩
            rw [hrt] at htwo
            have HTWO := Lib.hid htwo
            have HN2 := Lib.hid hn2
            have HB2 := Lib.hid hb2
            have HC0 := Lib.hid hc0
            have HC1 := Lib.hid hc1
            clear hla hsa hsb hx hy ho4 hc0 hc1 hv htwo hrt hn2 hb2
            simp only [List.length_cons, List.length_nil, Nat.zero_add, Nat.reduceAdd] at *
            go_upto_region 14 with (first
              | (go_at_call 61; refine HCT.out.mono ?_; rintro e' w5 ⟨rfl, rfl⟩))
            refine wp_region_ordW (by kernel_rfl) (fun X => X.cell? ⟨W.heap.size, 1, none⟩ = some (I eo) ∧ X.cell? ⟨g, 0, none⟩ = some (I x) ∧ X.cell? ⟨g, 1, none⟩ = some (I y)) [(0, 0), (0, 1), (0, 2), (0, 3), (0, 4), (0, 5), (0, 6), (0, 7), (1, 8), (0, 9), (0, 10), (0, 11), (0, 12)] (by kernel_rfl) ?hS4 ?_
            case hS4 => intro wd hh; exact ⟨row_at HP4.out hh 1, (cell_heap hh _).trans HC0.out, (cell_heap hh _).trans HC1.out⟩
            intro wd hh hgd hS
            have HBD := Lib.hid (HB4.out.grown hgd HB4.out.size (fun r e => by cases e))
            have HPD := Lib.hid (HP4.out.kept hgd (by simp))
            have HCD := Lib.hid (gcell HC0.out hgd (by simp))
            have HCE := Lib.hid (gcell HC1.out hgd (by simp))
            clear hh hgd q0 q1 q2 p0 p1 p2
            simp only [pickOps, List.map_cons, List.map_nil, List.getElem?_cons_zero, List.getElem?_cons_succ, Option.getD_some]
            repeat (first | (refine wpOrd_pass (by rfl) (by assumption) (fun _ _ _ h => h) ?_; simp only [Act.put, List.setIfInBounds_toArray, List.set_cons_zero, List.set_cons_succ]) | (refine wpOrd_look (v := ?_) (by rfl) ?_ (by assumption) (fun _ _ _ h => h) ?_; rotate_left; (· (intro wS hSw; (try dsimp only at hSw); go_simp; (first | done | with_reducible rfl))); simp only [Act.put, List.setIfInBounds_toArray, List.set_cons_zero, List.set_cons_succ]))
            refine wpOrd_turn ?_
            go_wp2_with (first
              | (go_at_call 63; refine (HTWO.out _).mono ?_; rintro e' w6 ⟨rfl, hb6⟩; have HB6 := Lib.hid hb6; clear hb6 hS))
            refine QN_keep ⟨(HPD.out.ext HB6.out).cell 1, gcell HCD.out (below_grown HB6.out none) (by simp), gcell HCE.out (below_grown HB6.out none) (by simp)⟩ fun hS => ?_
            repeat (first | (refine wpOrd_pass (by rfl) (by assumption) (fun _ _ _ h => h) ?_; simp only [Act.put, List.setIfInBounds_toArray, List.set_cons_zero, List.set_cons_succ]) | (refine wpOrd_look (v := ?_) (by rfl) ?_ (by assumption) (fun _ _ _ h => h) ?_; rotate_left; (· (intro wS hSw; (try dsimp only at hSw); go_simp; (first | done | with_reducible rfl))); simp only [Act.put, List.setIfInBounds_toArray, List.set_cons_zero, List.set_cons_succ]))
            refine wpOrd_nil ?_
            clear hS
            go_wp2
            go_ret2
            exact ⟨by rw [HN2.out, HB2.out]; rfl, HBD.out.trans (HB6.out.mono HBD.out.size)⟩
end Go.Proofs.YtjgbkdbkachciaaGreatDoor

namespace Go.Proofs.YtjgbkdbkachciaaGreatDoor
open Go.RowKit Go.Shelf
attribute [local go_sem] Oper.semAt_some

set_option maxRecDepth 100000 in
set_option maxHeartbeats 4000000 in
theorem value20_any (d : Nat) (e : LE) (av : Value) (W : World) (B : Nat → Prop) (hn : NumX d e) (ho : okE 40 e) (hx : EX B W av e) :
    Calls Tryz.prog 20 #[eV e av] W fun en w' => en = .returned (.tuple #[I ((valD d e).getD 0), .bool (valD d e).isSome]) ∧ Below W.heap.size W w' := by
  obtain ⟨a0, c0, rfl⟩ := hx.slice
  have HRE := Lib.hid (fun X (hb : Below W.heap.size W X) => rightExpr_yes e ho (.slice a0 e.args.length c0) X B (hx.grown (below_grown hb none) (fun r e => by cases e)))
  have HVA := Lib.hid (fun X (hb : Below W.heap.size W X) => value_any d e (.slice a0 e.args.length c0) X B hn (hx.grown (below_grown hb none) (fun r e => by cases e)))
  obtain ⟨vr, hvr⟩ : ∃ v, v = valD d e := ⟨_, rfl⟩
  rw [← hvr] at HVA ⊢
  obtain ⟨nx, hnx⟩ : ∃ n, n = vr.getD 0 := ⟨_, rfl⟩
  obtain ⟨bx, hbx⟩ : ∃ n, n = vr.isSome := ⟨_, rfl⟩
  rw [← hnx, ← hbx] at HVA ⊢
  clear hvr hnx hbx
  obtain ⟨al, hal⟩ : ∃ n, n = e.args.length := ⟨_, rfl⟩
  rw [eV, ← hal] at HRE HVA ⊢
  obtain ⟨w0, hw0⟩ : ∃ w0, w0 = W.alloc (.cells #[I e.kind, I e.op, I e.n, S e.name, .slice a0 al c0] 31) := ⟨_, rfl⟩
  have hwe := hw0.symm
  have hb0 : Below W.heap.size W w0 := by rw [hw0]; exact below_a1 _ _
  have hp0 : Row w0 W.heap.size 31 [I e.kind, I e.op, I e.n, S e.name, .slice a0 al c0] := by rw [hw0]; exact heap_new _ _
  have c0' := hp0.cell 0
  have c1 := hp0.cell 1
  have c2 := hp0.cell 2
  have c3 := hp0.cell 3
  have c4 := hp0.cell 4
  simp only [List.getElem?_cons_zero, List.getElem?_cons_succ] at c0' c1 c2 c3 c4
  have HB0 := Lib.hid hb0
  have HP0 := Lib.hid hp0
  clear hx hn ho hw0 hb0 hp0 hal
  go_enter Tryz.func20, Tryz.ntmps20
  go_upto_region 3 with (first
    | (go_at_call 37; refine (HRE.out _ HB0.out).mono ?_; rintro e' w1 ⟨rfl, hb1⟩; have HB1 := Lib.hid (HB0.out.trans (hb1.mono HB0.out.size)); have hp1 := HP0.out.ext hb1; have d0 := hp1.cell 0; have d1 := hp1.cell 1; have d2 := hp1.cell 2; have d3 := hp1.cell 3; have d4 := hp1.cell 4; simp only [List.getElem?_cons_zero, List.getElem?_cons_succ] at d0 d1 d2 d3 d4; clear hb1 hp1 c0' c1 c2 c3 c4))
  go_wp2_with (first
    | (go_at_call 38; refine (HVA.out _ HB1.out).mono ?_; rintro e' w2 ⟨rfl, hb2⟩; have HB2 := Lib.hid (HB1.out.trans (hb2.mono HB1.out.size)); clear hb2))
  go_ret2
  exact ⟨rfl, HB2.out⟩
end Go.Proofs.YtjgbkdbkachciaaGreatDoor

namespace Go.Proofs.YtjgbkdbkachciaaGreatDoor
open Go.RowKit Go.Shelf
attribute [local go_sem] Oper.semAt_some

theorem PX.lt {B : Nat → Prop} {W : World} {av fv : Value} {p : LP} (h : PX B W av fv p) : PX (· < W.heap.size) W av fv p := h.size.weak fun _b hb => hb.2
theorem lst_lit {W : World} {g : Nat} {x : Int} (h : Row W g 3 [I x]) : Lst W (.slice (some ⟨g, 0, none⟩) 1 1) [x] :=
  ⟨_, _, rfl, by simp, .inr ⟨g, 0, rfl, h.lt, fun i y hy => ⟨fun _ => I x, fun j hj => by
    have : i = 0 := by
      cases i with
      | zero => rfl
      | succ i => simp at hy
    subst this
    obtain rfl : j = 0 := by omega
    exact h.cell 0, by
    cases i with
    | zero => have hy : x = y := by simpa using hy
              rw [hy]
    | succ i => simp at hy⟩⟩⟩
theorem RIn.lit {W : World} {g : Nat} {x : Int} (h : Row W g 3 [I x]) : RIn (· < W.heap.size) W (.slice (some ⟨g, 0, none⟩) 1 1) [x] := ⟨RSlI.of (lst_lit h), _, _, rfl, Nat.le_refl _⟩
theorem RIn.nil (B : Nat → Prop) (W : World) : RIn B W (.slice none 0 0) [] := ⟨RSlI.of (RSlB.nil _ _ _ _), _, _, rfl, Nat.le_refl _⟩

set_option maxRecDepth 100000 in
set_option maxHeartbeats 16000000 in
theorem awake_any (W : World) : Calls Tryz.prog 11 #[] W fun e w' => e = .returned (.bool true) ∧ Below W.heap.size W w' := by
  have HPA := Lib.hid (fun W => parse_yes awText aw_asc (by decide) 100 50 100 awToks awUs awP aw_scan (by decide) aw_ended aw_prog aw_okP W)
  have HRUN := Lib.hid (fun (av fv : Value) (iv : Value) (inp : List Int) (most : Int) (X : World) hx hi hm hk => run0_any awP aw_runs rfl av fv iv inp most X hx hi hm 203 hk)
  have hr1 := fun (av fv iv : Value) (X : World) hx hi => HRUN.out av fv iv [1] 99 X hx hi (by decide) (by decide)
  have hr2 := fun (av fv iv : Value) (X : World) hx hi => HRUN.out av fv iv [0] 99 X hx hi (by decide) (by decide)
  have hr3 := fun (av fv iv : Value) (X : World) hx hi => HRUN.out av fv iv [1] 2 X hx hi (by decide) (by decide)
  rw [aw_run1] at hr1
  rw [aw_run2] at hr2
  rw [aw_run3] at hr3
  have HR1 := Lib.hid hr1
  have HR2 := Lib.hid hr2
  have HR3 := Lib.hid hr3
  clear hr1 hr2 hr3 HRUN
  go_enter Tryz.func11, Tryz.ntmps11
  go_upto_region 2 with (first
    | (go_at_call 23; refine (HPA.out _).mono ?_; rintro e' w1 ⟨av, fv, rfl, hx1, hb1⟩; obtain ⟨ra, rc, fa, fc, rfl, rfl⟩ := hx1.slice; have HX1 := Lib.hid hx1.lt; have HB1 := Lib.hid hb1; clear hx1 hb1))
  obtain ⟨w2, hw2⟩ : ∃ w2, w2 = w1.alloc (.cells #[.slice ra 0 rc, .slice fa 1 fc] 27) := ⟨_, rfl⟩
  have hb2 : Below w1.heap.size w1 w2 := by rw [hw2]; exact below_a1 _ _
  have ht2 : Row w2 w1.heap.size 27 [.slice ra 0 rc, .slice fa 1 fc] := by rw [hw2]; exact heap_new _ _
  have hx2 := (HX1.out.below hb2).lt
  rw [← hw2]
  have c0 := ht2.cell 0
  have c1 := ht2.cell 1
  simp only [List.getElem?_cons_zero, List.getElem?_cons_succ] at c0 c1
  obtain ⟨tb, htb⟩ : ∃ n, n = w1.heap.size := ⟨_, rfl⟩
  rw [← htb] at ht2 c0 c1 ⊢
  have HT_w2 := Lib.hid ht2
  have HX_w2 := Lib.hid hx2
  have HB_w2 := Lib.hid (HB1.out.trans (hb2.mono HB1.out.size))
  clear hw2 hb2 ht2 hx2 htb
  have HXA1 := Lib.hid (HX_w2.out.below (below_a1 w2 (.cells #[I 1] 3))).lt
  have HIA1 := Lib.hid (RIn.lit (W := w2.alloc (.cells #[I 1] 3)) (g := w2.heap.size) (x := 1) (heap_new _ _))
  go_upto_region 3 with (first
    | (go_at_call 17; refine (HR1.out _ _ _ _ HXA1.out HIA1.out).mono ?_; rintro e' w13 ⟨ov1, rfl, ho1, hb1⟩; obtain ⟨oa1, oc1, rfl⟩ := ho1.slice; have HO_w13 := Lib.hid ho1; have HBB1 := Lib.hid ((below_a1 w2 (.cells #[I 1] 3)).trans (hb1.mono (by simp))); clear ho1 hb1 c0 c1)
    | (refine store_first 37 (.tmp 4) (.tmp 16) rfl ?_; refine wpList_store_row rfl 37 (.tmp 4) (.tmp 16) rfl w13.heap.size _ rfl rfl 37 r37Z (heap_new _ _) (by kernel_rfl) (by rfl) (by simp [Value.oneCell']) ?_; rw [World.setRow_alloc_new]))
  obtain ⟨v1, hv1⟩ : ∃ w, w = w13.alloc (.cells #[I 1, I 7, .slice oa1 1 oc1, I 6] 37) := ⟨_, rfl⟩
  obtain ⟨r1, hr1⟩ : ∃ r, r = w13.heap.size := ⟨_, rfl⟩
  have hbv1 : Below w13.heap.size w13 v1 := by rw [hv1]; exact below_a1 _ _
  have hrv1 : Row v1 r1 37 [I 1, I 7, .slice oa1 1 oc1, I 6] := by rw [hv1, hr1]; exact heap_new _ _
  have hba1 : Below w2.heap.size w2 v1 := HBB1.out.trans (hbv1.mono HBB1.out.size)
  change Code.wp _ _ _ _ (w13.alloc (.cells #[I 1, I 7, .slice oa1 1 oc1, I 6] 37))
  rw [← hv1, ← hr1]
  have HT_v1 := Lib.hid (HT_w2.out.ext hba1)
  have HX_v1 := Lib.hid (HX_w2.out.below hba1).lt
  have HB_v1 := Lib.hid (HB_w2.out.trans (hba1.mono HB_w2.out.size))
  have HR1_v1 := Lib.hid hrv1
  have HO1_v1 := Lib.hid (HO_w13.out.tag (below_grown hbv1 none) (NoTag.none _ _))
  have c0 := HT_v1.out.cell 0
  have c1 := HT_v1.out.cell 1
  simp only [List.getElem?_cons_zero, List.getElem?_cons_succ] at c0 c1
  clear hv1 hr1 hbv1 hrv1 hba1
  have HXA2 := Lib.hid (HX_v1.out.below (below_a1 v1 (.cells #[I 0] 3))).lt
  have HIA2 := Lib.hid (RIn.lit (W := v1.alloc (.cells #[I 0] 3)) (g := v1.heap.size) (x := 0) (heap_new _ _))
  go_upto_region 4 with (first
    | (go_at_call 17; refine (HR2.out _ _ _ _ HXA2.out HIA2.out).mono ?_; rintro e' w23 ⟨ov2, rfl, ho2, hb2⟩; obtain ⟨oa2, oc2, rfl⟩ := ho2.slice; have HO_w23 := Lib.hid ho2; have HBB2 := Lib.hid ((below_a1 v1 (.cells #[I 0] 3)).trans (hb2.mono (by simp))); clear ho2 hb2 c0 c1)
    | (refine store_first 37 (.tmp 5) (.tmp 19) rfl ?_; refine wpList_store_row rfl 37 (.tmp 5) (.tmp 19) rfl w23.heap.size _ rfl rfl 37 r37Z (heap_new _ _) (by kernel_rfl) (by rfl) (by simp [Value.oneCell']) ?_; rw [World.setRow_alloc_new]))
  obtain ⟨v2, hv2⟩ : ∃ w, w = w23.alloc (.cells #[I 2, I 0, .slice oa2 0 oc2, I 4] 37) := ⟨_, rfl⟩
  obtain ⟨r2, hr2⟩ : ∃ r, r = w23.heap.size := ⟨_, rfl⟩
  have hbv2 : Below w23.heap.size w23 v2 := by rw [hv2]; exact below_a1 _ _
  have hrv2 : Row v2 r2 37 [I 2, I 0, .slice oa2 0 oc2, I 4] := by rw [hv2, hr2]; exact heap_new _ _
  have hba2 : Below v1.heap.size v1 v2 := HBB2.out.trans (hbv2.mono HBB2.out.size)
  change Code.wp _ _ _ _ (w23.alloc (.cells #[I 2, I 0, .slice oa2 0 oc2, I 4] 37))
  rw [← hv2, ← hr2]
  have HT_v2 := Lib.hid (HT_v1.out.ext hba2)
  have HX_v2 := Lib.hid (HX_v1.out.below hba2).lt
  have HB_v2 := Lib.hid (HB_v1.out.trans (hba2.mono HB_v1.out.size))
  have HR2_v2 := Lib.hid hrv2
  have HO2_v2 := Lib.hid (HO_w23.out.tag (below_grown hbv2 none) (NoTag.none _ _))
  have HR1_v2 := Lib.hid (HR1_v1.out.ext hba2)
  have HO1_v2 := Lib.hid (HO1_v1.out.tag (below_grown hba2 none) (NoTag.none _ _))
  have c0 := HT_v2.out.cell 0
  have c1 := HT_v2.out.cell 1
  simp only [List.getElem?_cons_zero, List.getElem?_cons_succ] at c0 c1
  clear hv2 hr2 hbv2 hrv2 hba2
  have HXA3 := Lib.hid (HX_v2.out.below (below_a1 v2 (.cells #[I 1] 3))).lt
  have HIA3 := Lib.hid (RIn.lit (W := v2.alloc (.cells #[I 1] 3)) (g := v2.heap.size) (x := 1) (heap_new _ _))
  go_upto_region 5 with (first
    | (go_at_call 17; refine (HR3.out _ _ _ _ HXA3.out HIA3.out).mono ?_; rintro e' w33 ⟨ov3, rfl, ho3, hb3⟩; obtain ⟨oa3, oc3, rfl⟩ := ho3.slice; have HO_w33 := Lib.hid ho3; have HBB3 := Lib.hid ((below_a1 v2 (.cells #[I 1] 3)).trans (hb3.mono (by simp))); clear ho3 hb3 c0 c1)
    | (refine store_first 37 (.tmp 6) (.tmp 22) rfl ?_; refine wpList_store_row rfl 37 (.tmp 6) (.tmp 22) rfl w33.heap.size _ rfl rfl 37 r37Z (heap_new _ _) (by kernel_rfl) (by rfl) (by simp [Value.oneCell']) ?_; rw [World.setRow_alloc_new]))
  obtain ⟨v3, hv3⟩ : ∃ w, w = w33.alloc (.cells #[I 0, I 0, .slice oa3 0 oc3, I 2] 37) := ⟨_, rfl⟩
  obtain ⟨r3, hr3⟩ : ∃ r, r = w33.heap.size := ⟨_, rfl⟩
  have hbv3 : Below w33.heap.size w33 v3 := by rw [hv3]; exact below_a1 _ _
  have hrv3 : Row v3 r3 37 [I 0, I 0, .slice oa3 0 oc3, I 2] := by rw [hv3, hr3]; exact heap_new _ _
  have hba3 : Below v2.heap.size v2 v3 := HBB3.out.trans (hbv3.mono HBB3.out.size)
  change Code.wp _ _ _ _ (w33.alloc (.cells #[I 0, I 0, .slice oa3 0 oc3, I 2] 37))
  rw [← hv3, ← hr3]
  have HT_v3 := Lib.hid (HT_v2.out.ext hba3)
  have HX_v3 := Lib.hid (HX_v2.out.below hba3).lt
  have HB_v3 := Lib.hid (HB_v2.out.trans (hba3.mono HB_v2.out.size))
  have HR3_v3 := Lib.hid hrv3
  have HO3_v3 := Lib.hid (HO_w33.out.tag (below_grown hbv3 none) (NoTag.none _ _))
  have HR1_v3 := Lib.hid (HR1_v2.out.ext hba3)
  have HO1_v3 := Lib.hid (HO1_v2.out.tag (below_grown hba3 none) (NoTag.none _ _))
  have HR2_v3 := Lib.hid (HR2_v2.out.ext hba3)
  have HO2_v3 := Lib.hid (HO2_v2.out.tag (below_grown hba3 none) (NoTag.none _ _))
  have c0 := HT_v3.out.cell 0
  have c1 := HT_v3.out.cell 1
  simp only [List.getElem?_cons_zero, List.getElem?_cons_succ] at c0 c1
  clear hv3 hr3 hbv3 hrv3 hba3
  have HVAL := Lib.hid (show Calls Tryz.prog 20 #[.agg #[I 1, I 0, I 4, S [], .slice none 0 0]] v3 (fun en w' => en = .returned (.tuple #[I 4, .bool true]) ∧ Below v3.heap.size v3 w') from value20_any 1 (numE 4) (.slice none 0 0) v3 (fun _ => True) (.inl ⟨rfl, rfl⟩) (num_okE 4 (by decide) 39) ⟨1, RSlB.nil _ _ _ _⟩)
  go_upto_region 6 with (first
    | (go_at_call 20; refine HVAL.out.mono ?_; rintro e' w4 ⟨rfl, hb4⟩; have HR1_w4 := Lib.hid (HR1_v3.out.ext hb4); have HR2_w4 := Lib.hid (HR2_v3.out.ext hb4); have HR3_w4 := Lib.hid (HR3_v3.out.ext hb4); have HO1_w4 := Lib.hid (HO1_v3.out.tag (below_grown hb4 none) (NoTag.none _ _)); have HO2_w4 := Lib.hid (HO2_v3.out.tag (below_grown hb4 none) (NoTag.none _ _)); have HO3_w4 := Lib.hid (HO3_v3.out.tag (below_grown hb4 none) (NoTag.none _ _)); have HB_w4 := Lib.hid (HB_v3.out.trans (hb4.mono HB_v3.out.size)); clear hb4 c0 c1))
  obtain ⟨w5, hw5⟩ : ∃ w5, w5 = w4.alloc (.cells #[I 1] 3) := ⟨_, rfl⟩
  have hwe5 := hw5.symm
  have hb5 : Below w4.heap.size w4 w5 := by rw [hw5]; exact below_a1 _ _
  have hl5 : Lst w5 (.slice (some ⟨w4.heap.size, 0, none⟩) 1 1) [1] := by rw [hw5]; exact lst_lit (heap_new _ _)
  have HL5 := Lib.hid hl5
  have ho5 : Lst w5 (.slice oa1 1 oc1) [1] := (show Lst w4 (.slice oa1 1 oc1) [1] from HO1_w4.out.rslB (by simp)).below hb5
  have HS1 := Lib.hid (same_yes 1 7 6 [1] _ _ w5 ho5 hl5)
  have hr14 := HR1_w4.out
  have a0 := hr14.cell 0
  have a1 := hr14.cell 1
  have a2 := hr14.cell 2
  have a3 := hr14.cell 3
  simp only [List.getElem?_cons_zero, List.getElem?_cons_succ] at a0 a1 a2 a3
  have HR2_w5 := Lib.hid (HR2_w4.out.ext hb5)
  have HR3_w5 := Lib.hid (HR3_w4.out.ext hb5)
  have HO2_w5 := Lib.hid (HO2_w4.out.tag (below_grown hb5 none) (NoTag.none _ _))
  have HO3_w5 := Lib.hid (HO3_w4.out.tag (below_grown hb5 none) (NoTag.none _ _))
  have HB_w5 := Lib.hid (HB_w4.out.trans (hb5.mono HB_w4.out.size))
  clear hw5 hb5 hl5 ho5 hr14
  go_wp2_with (first
    | (go_at_call 16; refine HS1.out.mono ?_; rintro e' w6 ⟨rfl, hb6⟩; have hr2 := HR2_w5.out.ext hb6; have b0 := hr2.cell 0; have b1 := hr2.cell 1; have b2 := hr2.cell 2; have b3 := hr2.cell 3; simp only [List.getElem?_cons_zero, List.getElem?_cons_succ] at b0 b1 b2 b3; have HR3_w6 := Lib.hid (HR3_w5.out.ext hb6); have HO2_w6 := Lib.hid (HO2_w5.out.tag (below_grown hb6 none) (NoTag.none _ _)); have HO3_w6 := Lib.hid (HO3_w5.out.tag (below_grown hb6 none) (NoTag.none _ _)); have HB_w6 := Lib.hid (HB_w5.out.trans (hb6.mono HB_w5.out.size)); have HS2 := Lib.hid (same_yes 2 0 4 [] _ _ w6 (show Lst w6 (.slice oa2 0 oc2) [] from HO2_w6.out.rslB (by simp)) (RSlB.nil _ _ _ _)); clear hb6 hr2 HS1 a0 a1 a2 a3)
    | (go_at_call 16; refine HS2.out.mono ?_; rintro e' w7 ⟨rfl, hb7⟩; have hr3 := HR3_w6.out.ext hb7; have d0 := hr3.cell 0; have d1 := hr3.cell 1; have d2 := hr3.cell 2; have d3 := hr3.cell 3; simp only [List.getElem?_cons_zero, List.getElem?_cons_succ] at d0 d1 d2 d3; have HO3_w7 := Lib.hid (HO3_w6.out.tag (below_grown hb7 none) (NoTag.none _ _)); have HB_w7 := Lib.hid (HB_w6.out.trans (hb7.mono HB_w6.out.size)); have HS3 := Lib.hid (same_yes 0 0 2 [] _ _ w7 (show Lst w7 (.slice oa3 0 oc3) [] from HO3_w7.out.rslB (by simp)) (RSlB.nil _ _ _ _)); clear hb7 hr3 HS2 b0 b1 b2 b3)
    | (go_at_call 16; refine HS3.out.mono ?_; rintro e' w8 ⟨rfl, hb8⟩; have HB_w8 := Lib.hid (HB_w7.out.trans (hb8.mono HB_w7.out.size)); clear hb8))
  go_ret
  exact ⟨rfl, HB_w8.out⟩
end Go.Proofs.YtjgbkdbkachciaaGreatDoor
