import Derived.Test.YtjgbkdbkachciaaGreatDoorB8
namespace Go.Proofs.YtjgbkdbkachciaaGreatDoor
open Go.RowKit Go.Shelf
attribute [local go_sem] Oper.semAt_some

/-- where the expressions of a row stand -/
theorem RE.at {d : Nat} {B : Nat → Prop} {w : World} {a : Option Addr} {n c : Nat} {l : List LE} (h : RSlB B 5 (RE d B) w (.slice a n c) l) {k : Nat} (hk : k < l.length) :
    ∃ b o xa xc, a = some ⟨b, o, none⟩ ∧ w.cell? ⟨b, o + k * 5, none⟩ = some (I l[k].kind) ∧ w.cell? ⟨b, o + k * 5 + 1, none⟩ = some (I l[k].op) ∧ w.cell? ⟨b, o + k * 5 + 2, none⟩ = some (I l[k].n) ∧ w.cell? ⟨b, o + k * 5 + 3, none⟩ = some (S l[k].name) ∧ w.cell? ⟨b, o + k * 5 + 4, none⟩ = some (.slice xa l[k].args.length xc) ∧ EX B w (.slice xa l[k].args.length xc) l[k] := by
  obtain ⟨b, o, C, h1, _, hC, hx⟩ := h.at hk
  have e0 := hC 0 (by omega)
  have e1 := hC 1 (by omega)
  have e2 := hC 2 (by omega)
  have e3 := hC 3 (by omega)
  have e4 := hC 4 (by omega)
  cases d with
  | zero => exact hx.elim
  | succ d =>
    obtain ⟨k0, k1, k2, k3, k4⟩ := hx
    have hex : EX B w (C 4) l[k] := ⟨d, k4⟩
    obtain ⟨xa, xc, hv⟩ := hex.slice
    rw [hv] at hex
    rw [k0] at e0
    rw [k1] at e1
    rw [k2] at e2
    rw [k3] at e3
    rw [hv] at e4
    simp only [Nat.add_zero] at e0
    exact ⟨b, o, xa, xc, h1, e0, e1, e2, e3, e4, hex⟩
set_option maxRecDepth 100000 in
set_option maxHeartbeats 8000000 in
/-- what a strip leaves -/
theorem strip24_any (c : Sc) : ∀ (d : Nat) (e : LE), DrE c d e → ∀ (av : Value) (W : World), EX (· < W.heap.size) W av e → Calls Tryz.prog 24 #[eV e av] W fun en w' => ∃ av', en = .returned (eV (stripE d e) av') ∧ EX (W.heap.size ≤ ·) w' av' (stripE d e) ∧ Below W.heap.size W w' := by
  intro d
  induction d with
  | zero => intro e h; exact h.elim
  | succ d ih =>
  intro e hdr av W hx
  obtain ⟨Q, hQ⟩ : ∃ Q : Ending → World → Prop, Q = fun en w' => ∃ av', en = .returned (eV (stripE (d + 1) e) av') ∧ EX (W.heap.size ≤ ·) w' av' (stripE (d + 1) e) ∧ Below W.heap.size W w' := ⟨_, rfl⟩
  rw [← hQ]
  have HQ := Lib.hid hQ
  obtain ⟨aa, ac, rfl⟩ := hx.slice
  obtain ⟨dd, hdd⟩ := id hx
  have hn9 : e.args.length ≤ 1000000000 := by obtain ⟨_, _, _, h, _⟩ := hdd; exact h
  obtain ⟨n, hn⟩ : ∃ n, n = e.args.length := ⟨_, rfl⟩
  obtain ⟨ek, hek⟩ : ∃ k, k = e.kind := ⟨_, rfl⟩
  obtain ⟨eo, heo⟩ : ∃ k, k = e.op := ⟨_, rfl⟩
  obtain ⟨en, hen⟩ : ∃ k, k = e.n := ⟨_, rfl⟩
  obtain ⟨es, hes⟩ : ∃ k, k = e.name := ⟨_, rfl⟩
  show Calls Tryz.prog 24 #[.agg #[I e.kind, I e.op, I e.n, S e.name, .slice aa e.args.length ac]] W Q
  rw [← hn, ← hek, ← heo, ← hen, ← hes]
  rw [← hn] at hdd hn9
  obtain ⟨w1, hw1⟩ : ∃ w1, w1 = (W.alloc (.cells #[I ek, I eo, I en, S es, .slice aa n ac] 31)).alloc (.cells eZ 31) := ⟨_, rfl⟩
  have hwe := hw1.symm
  have hb1 : Below W.heap.size W w1 := by rw [hw1]; exact below_a2 _ _ _
  have hr1 : Row w1 W.heap.size 31 [I ek, I eo, I en, S es, .slice aa n ac] := by rw [hw1]; exact heap_old _ _ (heap_new _ _)
  have hr2 : Row w1 (W.heap.size + 1) 31 [I 0, I 0, I 0, S [], .slice none 0 0] := by rw [hw1]; exact heap_at (by simp)
  have HB1 := Lib.hid hb1
  have HR1 := Lib.hid hr1
  have HR2 := Lib.hid hr2
  have HDD := Lib.hid hdd
  have HN := Lib.hid hn
  have HEK := Lib.hid hek
  have HEO := Lib.hid heo
  have HEN := Lib.hid hen
  have HES := Lib.hid hes
  have HDR := Lib.hid hdr
  have HIH := Lib.hid ih
  have b0 := hr1.cell 0
  have b4 := hr1.cell 4
  simp only [List.getElem?_cons_zero, List.getElem?_cons_succ] at b0 b4
  clear hQ hdd hn hek heo hen hes hdr ih hx hw1 hb1 hr1 hr2
  have hno : ¬ (ek = 1 ∨ ek = 3 ∨ ek = 4) → stripE (d + 1) e = .mk 1 0 5 [] [] := fun h => by rw [stripE, if_neg (by rw [← HEK.out]; exact h)]
  have hyes : (ek = 1 ∨ ek = 3 ∨ ek = 4) → stripE (d + 1) e = .mk ek eo en es (e.args.map (stripE d)) := fun h => by rw [stripE, if_pos (by rw [← HEK.out]; exact h), HEK.out, HEO.out, HEN.out, HES.out]
  have HNO := Lib.hid hno
  have HYES := Lib.hid hyes
  clear hno hyes
  by_cases hk : ek = 1 ∨ ek = 3 ∨ ek = 4
  · have hst := HYES.out hk
    have HST := Lib.hid hst
    clear hst
    go_enter Tryz.func24, Tryz.ntmps24
    go_upto_region 1 with (fail)
    rename_i K1 hK1 K2 hK2
    have hrest : ∀ (x5 x6 x7 x8 x9 x10 x11 x12 x13 x14 x15 x16 x17 : Value), K1 { tmps := #[.agg #[I ek, I eo, I en, S es, .slice aa n ac], .pointer (some ⟨W.heap.size, 0, none⟩), .pointer (some ⟨W.heap.size + 1, 0, none⟩), undef, undef, x5, x6, x7, x8, x9, x10, x11, x12, x13, x14, x15, x16, x17, undef, undef, undef, undef, undef, undef, undef, undef, undef, undef, undef, undef, undef, undef, undef, undef, undef, undef, undef, undef], defers := [] } w1 := by
      intro x5 x6 x7 x8 x9 x10 x11 x12 x13 x14 x15 x16 x17
      refine hK1 _ _ ?_
      clear hK1 hK2 K1 K2 hk
      go_upto_region 5 with (fail)
      go_loopg [3, 4] n (fun gh v i wr => ∃ k : Nat, gh + k = n ∧ i = I k ∧ Hid (∃ done : List EA, done.length = k ∧ Below W.heap.size W wr ∧ Row wr W.heap.size 31 [I ek, I eo, I en, S es, .slice aa n ac] ∧ Row wr (W.heap.size + 1) 31 [I 0, I 0, I 0, S [], .slice none 0 0] ∧ EsI wr (W.heap.size + 2) v done ∧ done.map EA.e = (e.args.take k).map (stripE d)))
      case atStart => exact ⟨0, by omega, rfl, Lib.hid ⟨[], rfl, HB1.out, HR1.out, HR2.out, EsI.nil _ _, rfl⟩⟩
      case round =>
        obtain ⟨k, hg, rfl, HH⟩ := hrel
        obtain ⟨wo, rfl⟩ : ∃ wo, wo = wr := ⟨_, rfl⟩
        obtain ⟨done, hdk, hb, r1, r2, hes, hmap⟩ := HH.out
        obtain ⟨va, vc, rfl⟩ := hes.1.slice
        rw [hdk] at hes
        have p4 := r1.cell 4
        simp only [List.getElem?_cons_zero, List.getElem?_cons_succ] at p4
        have hsz := r2.lt
        have HBO := Lib.hid hb
        have HO1 := Lib.hid r1
        have HO2 := Lib.hid r2
        have HEI := Lib.hid hes
        have HMP := Lib.hid hmap
        have HDK := Lib.hid hdk
        rw [hdk]
        clear HH hb r1 r2 hes hmap hdk b0 b4
        by_cases hlt : k < n
        · have hltz : (k : Int) < (n : Int) := by omega
          have hka : k < e.args.length := by rw [← HN.out]; exact hlt
          obtain ⟨b, o, xa, xc, rfl, e0, e1, e2, e3, e4, hex⟩ := RE.at (HDD.out.grown (below_grown HBO.out none) (fun r e => by cases e) (fun _ _ h => RE.grown dd (below_grown HBO.out none) (fun r e => by cases e) h)) hka
          obtain ⟨x, hx⟩ : ∃ x, x = e.args[k] := ⟨_, rfl⟩
          rw [← hx] at e0 e1 e2 e3 e4 hex
          have hc := HIH.out x (by rw [hx]; exact HDR.out.2 _ (List.getElem_mem _)) (.slice xa x.args.length xc) wo (hex.weak fun b hb => Nat.lt_of_lt_of_le hb HBO.out.size)
          obtain ⟨y, hy⟩ : ∃ y, y = stripE d x := ⟨_, rfl⟩
          rw [← hy] at hc
          have HC := Lib.hid hc
          have HXK := Lib.hid hx
          have HYX := Lib.hid hy
          have hdn : done.length ≤ 1000000000 := by rw [HDK.out]; omega
          clear hex hx hy hc
          go_wp2_with (first
            | (go_at_call 24; refine HC.out.mono ?_; rintro e' w2 ⟨av_, rfl, hx_, hb_⟩; obtain ⟨ya, yc, rfl⟩ := hx_.slice; have HY := Lib.hid hx_; have HB2 := Lib.hid hb_; have HE2 := Lib.hid (HEI.out.grown (below_grown hb_ none) (fun r e => by cases e)); have hbz := hb_.size; clear hx_ hb_)
            | (at_builtin; refine wpList_appS slExpr rfl _ _ rfl eEnc_len eEnc_one (W.heap.size + 2) (.slice va k vc) done rfl (HE2.out.grown (alloc_grown w2 _ none) (fun r e => by cases e)).1 w2.heap.size ⟨y, ya, yc⟩ rfl (fun j hj => (cell_of_block (heap_new w2 _) j).trans (by simp [eEnc, EA.av])) hdn (by decide) (by simp only [World.size_alloc]; omega) ?_; intro g' cap w6 ho6 hg6 hat6 hlt6; have HO6 := Lib.hid ho6; have HG6 := Lib.hid hg6; have HAT := Lib.hid hat6; clear ho6 hg6 hat6))
          have hob : ∀ r, (Value.slice va k vc).ownBlock = some r → W.heap.size + 2 ≤ r := fun r e => (ownsRow_base HE2.out.1 r e).1
          have hne : ∀ g, g < W.heap.size + 2 → some g ≠ (Value.slice va k vc).ownBlock := fun g hg e => by have := hob g e.symm; omega
          have hQ1 := (show Row _ W.heap.size 31 [I ek, I eo, I en, S es, .slice (some ⟨b, o, none⟩) n ac] from heap_old _ _ (HO1.out.ext HB2.out)).kept HG6.out (hne _ (by omega))
          have hQ2 := (show Row _ (W.heap.size + 1) 31 [I 0, I 0, I 0, S [], .slice none 0 0] from heap_old _ _ (HO2.out.ext HB2.out)).kept HG6.out (hne _ (by omega))
          have hB6 := ((HBO.out.trans (HB2.out.mono HBO.out.size)).alloc (Nat.le_trans HBO.out.size HB2.out.size) (.cells #[I y.kind, I y.op, I y.n, S y.name, .slice ya y.args.length yc] 31)).grown HG6.out (by simp; have := HBO.out.size; omega) (fun r e => by have := hob r e; omega)
          have hE6 := EsI.app HEI.out (below_grown HB2.out none) (fun r e => by cases e) HY.out (by omega) HO6.out HG6.out rfl HAT.out
          go_roundg (n - (k + 1))
          case measure => omega
          case rel =>
            refine ⟨k + 1, by omega, by go_num, Lib.hid ⟨done ++ [⟨y, ya, yc⟩], by simp [HDK.out], hB6, hQ1, hQ2, hE6, ?_⟩⟩
            rw [List.map_append, HMP.out, List.take_succ_eq_append_getElem hka, List.map_append]
            show _ ++ [y] = _ ++ [stripE d e.args[k]]
            rw [HYX.out, HXK.out]
        · have hltz : ¬ (k : Int) < (n : Int) := by omega
          have hkn : k = n := by omega
          have HKN := Lib.hid hkn
          have f4 := HO1.out.frozen 4
          clear hkn
          go_upto_region 9 with (fail)
          obtain ⟨w4, hw4⟩ : ∃ w4, w4 = wo.setCell ⟨W.heap.size, 4, none⟩ (.slice va k vc) := ⟨_, rfl⟩
          have hg4 : wo.grownBy w4 (some W.heap.size) := by rw [hw4]; exact setCell_grown _ _ _ _
          have hs4 : Row w4 W.heap.size 31 [I ek, I eo, I en, S es, .slice va k vc] := by rw [hw4]; exact HO1.out.set 4 _
          rw [← hw4]
          have HV2 := Lib.hid (HO2.out.kept hg4 (by simp))
          have HB4 := Lib.hid (HBO.out.grown hg4 HBO.out.size (fun r e => by cases e; omega))
          have HE4 := Lib.hid (HEI.out.grown hg4 (fun r e => by cases e; omega))
          have c0 := hs4.cell 0
          have c1 := hs4.cell 1
          have c2 := hs4.cell 2
          have c3 := hs4.cell 3
          have c4 := hs4.cell 4
          simp only [List.getElem?_cons_zero, List.getElem?_cons_succ] at c0 c1 c2 c3 c4
          clear hw4 hg4 hs4 p4 f4
          go_wp2_with (first
            | (refine store_first 31 (.tmp 2) (.tmp 37) rfl ?_; refine wpList_store_row rfl 31 (.tmp 2) (.tmp 37) rfl (W.heap.size + 1) _ rfl rfl 31 #[I 0, I 0, I 0, S [], .slice none 0 0] HV2.out (by kernel_rfl) (by rfl) (by simp [Value.oneCell']) ?_))
          refine bodyPost_ret (results_cell_row rfl _ _ (W.heap.size + 1) 31 _ (0, 0) _ rfl (setRow_heap _ _ _ _ _ _ HV2.out) Tryz.underlying31 rfl (by kernel_rfl)) rfl ?_
          rw [HQ.out]
          show ∃ av', _ ∧ _ ∧ _
          rw [HST.out]
          have hm : e.args.map (stripE d) = done.map EA.e := by rw [HMP.out, HKN.out, HN.out, List.take_length]
          have hlen : (e.args.map (stripE d)).length = k := by rw [hm, List.length_map, HDK.out]
          refine ⟨.slice va k vc, rfl, ?_, HB4.out.grown setRow_grown HB4.out.size (fun r e => by cases e; omega)⟩
          have h1 := (HE4.out.grown (setRow_grown (g := W.heap.size + 1) (cs := #[I ek, I eo, I en, S es, .slice va k vc])) (fun r e => by cases e; omega)).read (e := .mk ek eo en es (e.args.map (stripE d))) (by rw [HDK.out]; omega) hm
          exact EX.weak (B := (W.heap.size + 2 ≤ ·)) h1 fun b hb => (by omega : W.heap.size ≤ b)
    have HREST := Lib.hid hrest
    clear hK1 hrest
    rcases hk with rfl | rfl | rfl
    · go_wp2
      exact HREST.out _ _ _ _ _ _ _ _ _ _ _ _ _
    · go_wp2
      exact HREST.out _ _ _ _ _ _ _ _ _ _ _ _ _
    · go_wp2
      exact HREST.out _ _ _ _ _ _ _ _ _ _ _ _ _
  · have hst := HNO.out hk
    have HST := Lib.hid hst
    have k1 : (ek != 1) = true := by simp only [bne_iff_ne]; exact fun h => hk (.inl h)
    have k3 : (ek != 3) = true := by simp only [bne_iff_ne]; exact fun h => hk (.inr (.inl h))
    have k4 : (ek != 4) = true := by simp only [bne_iff_ne]; exact fun h => hk (.inr (.inr h))
    clear hst hk
    go_enter Tryz.func24, Tryz.ntmps24
    go_wp2_with (first
      | (refine store_first 31 (.tmp 2) (.tmp 18) rfl ?_; refine wpList_store_row rfl 31 (.tmp 2) (.tmp 18) rfl (W.heap.size + 1) _ rfl rfl 31 #[I 0, I 0, I 0, S [], .slice none 0 0] HR2.out (by kernel_rfl) (by rfl) (by simp [Value.oneCell']) ?_))
    refine bodyPost_ret (results_cell_row rfl _ _ (W.heap.size + 1) 31 _ (0, 0) _ rfl (setRow_heap _ _ _ _ _ _ HR2.out) Tryz.underlying31 rfl (by kernel_rfl)) rfl ?_
    rw [HQ.out]
    show ∃ av', _ ∧ _ ∧ _
    rw [HST.out]
    exact ⟨.slice none 0 0, rfl, EArgs.nil rfl, HB1.out.grown setRow_grown HB1.out.size (fun r e => by cases e; omega)⟩
end Go.Proofs.YtjgbkdbkachciaaGreatDoor
