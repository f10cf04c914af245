import Derived.Test.YtjgbkdbkachciaaGreatDoorE9
import Derived.Test.YtjgbkdbkachciaaGreatDoorB0
namespace Go.Proofs.YtjgbkdbkachciaaGreatDoor
open Go.RowKit Go.Shelf
attribute [local go_sem] Oper.semAt_some

/-- a list of numbers behind another -/
theorem wpList_appM {B : Nat → Prop} {w : World} {ops : Array Oper} {rest : List Oper} {o : Oper} {a : Act} {Q : Exit → Act → World → Prop} (hgd : o.guard = none) (s x : Operand)
    (ho : o.op = .call { callee := .builtin .append, args := #[s, x], argTypes := #[22, 22] })
    (base : Nat) (v : Value) (l : List Int) (hs : a.eval s = v) (hown : OwnInts w base v l)
    (xv : Value) (ys : List Int) (hx : a.eval x = xv) (hys : RSlB B 1 RI w xv ys)
    (hl : l.length + ys.length ≤ 1000000000) (hbase : base ≤ w.heap.size)
    (h : ∀ v' w', OwnInts w' base v' (l ++ ys) → w.grownBy w' v.ownBlock → wpList Tryz.prog ops Q rest (a.put o.dst v') w') : wpList Tryz.prog ops Q (o :: rest) a w := by
  obtain ⟨xa, xc, rfl, hm, hor⟩ := hys
  rcases Nat.eq_zero_or_pos ys.length with h0 | h0
  · have hn : ys = [] := List.length_eq_zero_iff.1 h0
    subst hn
    refine wpList_app0 slInt hgd s x ho base v _ _ hs hown xa xc (by simpa using hx) ?_
    exact h v w (by simpa using hown) ⟨rfl, rfl, rfl, Nat.le_refl _, fun _ _ _ => rfl⟩
  · rcases hor with rfl | ⟨b, of, rfl, -, hc⟩
    · exact absurd h0 (by simp)
    refine wpList_app slInt hgd s x ho base v _ _ hs hown ⟨b, of, none⟩ ys.length xc (ys.map I) hx (by simp) ?_ ?_ h0 (by omega) (by unfold maxLen; omega) hbase ?_
    · intro j u hu
      rw [List.getElem?_map] at hu
      cases hj : ys[j]? with
      | none => rw [hj] at hu; cases hu
      | some y =>
        rw [hj] at hu
        obtain ⟨C, hC, hR⟩ := hc j y hj
        have h1 := hC 0 (by decide)
        rw [show C 0 = I y from hR] at h1
        rw [add_nat]
        simp only [Nat.mul_one, Nat.add_zero] at h1
        rw [h1]
        exact hu
    · intro u hu
      obtain ⟨x, _, rfl⟩ := List.mem_map.1 hu
      rfl
    · intro g' cap w' h1 h2 h3 h4
      refine h _ _ ?_ h2
      unfold OwnInts
      rw [List.length_append, List.map_append]
      exact h1
theorem OwnInts.rin {w : World} {base : Nat} {v : Value} {l : List Int} (h : OwnInts w base v l) (hl : l.length ≤ 1000000000) : RIn (· < w.heap.size) w v l := by
  refine ⟨RSlI.of (h.rslB hl), ?_⟩
  rcases h.2 with ⟨rfl, h0⟩ | ⟨g, cap, cur, rfl, h1, h2, h3, h4⟩
  · exact ⟨none, 0, by rw [h0], by omega⟩
  · exact ⟨_, _, rfl, h3⟩
theorem OwnInts.ext {w w' : World} {base : Nat} {v : Value} {l : List Int} (h : OwnInts w base v l) (hb : Below w.heap.size w w') : OwnInts w' base v l := h.kept (below_grown hb none) (fun r e => by cases e)
theorem own_base {w : World} {base : Nat} {v : Value} {l : List Int} (h : OwnInts w base v l) : ∀ r, v.ownBlock = some r → base ≤ r := fun r e => (ownsRow_base h r e).1
def OT.rd : OT := .one 0 0 (.one 0 1 (.one 0 2 (.one 0 4 (.two 3 6 (.two 5 6 (.one 1 6 (.one 2 7 .nil)) (.one 1 5 (.one 2 7 .nil))) (.one 1 3 (.one 1 5 (.one 2 7 .nil)))))))

set_option maxRecDepth 100000 in
set_option maxHeartbeats 8000000 in
/-- EvalReads, walked -/
theorem evalReads_any (W : World) (rv iv mv : Value) (raw inp more : List Int) (hr : RInts W rv raw) (hc : ∃ a c, rv = .slice a raw.length c ∧ raw.length ≤ c) (hi : RIn (· < W.heap.size) W iv inp) (hm : RIn (· < W.heap.size) W mv more)
    (hin : inp.length ≤ 100000000) (hmn : more.length ≤ 100000000) (st : Int) (hst : InI st) :
    Calls Tryz.prog 5 #[rv, iv, mv, I st] W fun e w' => e = .returned (.bool true) ∧ Below W.heap.size W w' := by
  have HAW := Lib.hid (awake_any W)
  have HI := Lib.hid hi
  have HIL := Lib.hid (show RSlB (· < W.heap.size) 1 RI W iv inp from hi.sl.small (by omega))
  have HML := Lib.hid (show RSlB (· < W.heap.size) 1 RI W mv more from hm.sl.small (by omega))
  obtain ⟨ra, rc, rfl, hrc⟩ := hc
  obtain ⟨ia, ik, rfl, -⟩ := id hi.room
  obtain ⟨ma, mc, rfl, -⟩ := id hm.room
  obtain ⟨RN, hRN⟩ : ∃ n, n = raw.length := ⟨_, rfl⟩
  obtain ⟨IN, hIN⟩ : ∃ n, n = inp.length := ⟨_, rfl⟩
  obtain ⟨MN, hMN⟩ : ∃ n, n = more.length := ⟨_, rfl⟩
  have HPG := Lib.hid (fun (w : World) (hb : Below W.heap.size W w) => prog14_any w (.slice ra raw.length rc) raw (RInts.below hb hr) ⟨_, _, rfl, hrc⟩)
  rw [← hRN] at HPG ⊢
  rw [← hIN] at HI HIL hin ⊢
  rw [← hMN] at HML hmn ⊢
  have HINe := Lib.hid hIN
  have HMNe := Lib.hid hMN
  obtain ⟨n, hn, hn2⟩ := pick_nat st
  have HP1 := Lib.hid (fun W => hn ▸ pick15_any st 1001 hst (by decide) (by decide) W)
  clear hr hi hm hRN hIN hMN hn hst hrc
  go_enter Tryz.func5, Tryz.ntmps5
  go_upto_region 4 with (first
    | (go_at_call 11; refine HAW.out.mono ?_; rintro e' w1 ⟨rfl, hb1⟩; have HB1 := Lib.hid hb1; clear hb1)
    | (go_at_call 14; refine (HPG.out _ HB1.out).mono ?_; rintro e' w2 ⟨av, fv, ars, fs, rfl, hraw, hpx, hb2⟩; obtain ⟨aa, ac, fa, fc, rfl, rfl⟩ := hpx.slice; have HB2 := Lib.hid (HB1.out.trans (hb2.mono HB1.out.size)); obtain ⟨p, hp⟩ : ∃ p, p = rawP ars fs := ⟨_, rfl⟩; have hrs := hraw.can; rw [← hp] at hpx hrs; obtain ⟨AN, hAN⟩ : ∃ n, n = p.arrays.length := ⟨_, rfl⟩; obtain ⟨FN, hFN⟩ : ∃ n, n = p.funcs.length := ⟨_, rfl⟩; have hAN' : (rawP ars fs).arrays.length = AN := (by rw [hAN, hp]); have hFN' : (rawP ars fs).funcs.length = FN := (by rw [hFN, hp]); rw [hAN', hFN']; rw [← hAN, ← hFN] at hpx; have HPX := Lib.hid (PX.lt hpx); have HRS := Lib.hid hrs; clear hraw hpx hrs hb2 hp hAN hFN hAN' hFN' HPG)
    | (go_at_call 15; (refine (HP1.out _).mono ?_; rintro e' wp ⟨rfl, rfl⟩; clear HP1)))
  obtain ⟨w3, hw3⟩ : ∃ w, w = w2.alloc (.cells #[.slice aa AN ac, .slice fa FN fc] 27) := ⟨_, rfl⟩
  obtain ⟨pb, hpb⟩ : ∃ n, n = w2.heap.size := ⟨_, rfl⟩
  have hb3 : Below W.heap.size W w3 := by rw [hw3]; exact HB2.out.alloc HB2.out.size _
  have hr3 : Row w3 pb 27 [.slice aa AN ac, .slice fa FN fc] := by rw [hw3, hpb]; exact heap_new _ _
  have hx3 : PX (· < w3.heap.size) w3 (.slice aa AN ac) (.slice fa FN fc) p := by rw [hw3]; exact PX.lt (HPX.out.grown (alloc_grown _ _ none) (fun r e => by cases e))
  rw [← hw3, ← hpb]
  obtain ⟨A, hA⟩ : ∃ A, A = runM p 4001 inp (n : Int) := ⟨_, rfl⟩
  have hmore := run_more p inp n n 4001 (by omega) (Nat.le_refl _)
  have hoA := run_out p inp (n : Int) 4001
  have hrd := run_reads p inp more n 4001
  rw [← hA] at hmore hoA hrd
  have hRA := fun (w : World) (hb : Below W.heap.size W w) (hx : PX (· < w.heap.size) w (.slice aa AN ac) (.slice fa FN fc) p) => hA ▸ run_any p HRS.out (.slice aa AN ac) (.slice fa FN fc) (.slice ia IN ik) inp (n : Int) w hx ⟨(HI.out.sl.grown (below_grown hb none) (fun r e => by cases e) (fun _ _ h => h)).weak (fun b hb' => Nat.lt_of_lt_of_le hb' hb.size) (fun _ _ h => h), HI.out.room⟩ (by omega) 4001 (by omega)
  have hRB := fun (w : World) (qv : Value) (hx : PX (· < w.heap.size) w (.slice aa AN ac) (.slice fa FN fc) p) (hq : RIn (· < w.heap.size) w qv (inp ++ (List.replicate (n + 1) (-1) ++ more))) => hrd ▸ run_any p HRS.out (.slice aa AN ac) (.slice fa FN fc) qv (inp ++ (List.replicate (n + 1) (-1) ++ more)) (n : Int) w hx hq (by omega) 4001 (by omega)
  have HRA := Lib.hid hRA
  have HRB := Lib.hid hRB
  have hAw := hmore.within
  have c0 := hr3.cell 0
  have c1 := hr3.cell 1
  simp only [List.getElem?_cons_zero, List.getElem?_cons_succ] at c0 c1
  have HB3 := Lib.hid hb3
  have HR3 := Lib.hid hr3
  have HX3 := Lib.hid hx3
  clear hw3 hpb hb3 hr3 hx3 hA hmore hrd hRA hRB HRS HPX HI
  go_upto_region 5 with (first
    | (go_at_call 17; refine (HRA.out _ HB3.out HX3.out).mono ?_; rintro e' w4 ⟨ov, rfl, ho, hb4⟩; have hL := ho.rslB (by omega); obtain ⟨oa, oc, rfl, -, -⟩ := id hL; have HOL := Lib.hid hL; have HB4 := Lib.hid (HB3.out.trans (hb4.mono HB3.out.size)); have HR4 := Lib.hid (HR3.out.ext hb4); have HX4 := Lib.hid (PX.lt (HX3.out.below hb4)); clear hL ho hb4 c0 c1)
    | (refine store_first 37 (.tmp 12) (.tmp 25) rfl ?_; refine wpList_store_row rfl 37 (.tmp 12) (.tmp 25) rfl w4.heap.size _ rfl rfl 37 r37Z (heap_new _ _) (by kernel_rfl) (by rfl) (by simp [Value.oneCell']) ?_))
  obtain ⟨w5, hw5⟩ : ∃ w, w = (w4.alloc (.cells r37Z 37)).setRow w4.heap.size #[I A.status, I A.code, .slice oa A.out.length oc, I A.steps] := ⟨_, rfl⟩
  have hw5' : w5 = w4.alloc (.cells #[I A.status, I A.code, .slice oa A.out.length oc, I A.steps] 37) := by rw [hw5]; exact World.setRow_alloc_new _ _ _ _
  obtain ⟨sb, hsb⟩ : ∃ n, n = w4.heap.size := ⟨_, rfl⟩
  have hb45 : Below w4.heap.size w4 w5 := by rw [hw5']; exact below_a1 _ _
  have hr5 : Row w5 sb 37 [I A.status, I A.code, .slice oa A.out.length oc, I A.steps] := by rw [hw5', hsb]; exact heap_new _ _
  change Code.wp _ _ _ _ ((w4.alloc (.cells r37Z 37)).setRow w4.heap.size #[I A.status, I A.code, .slice oa A.out.length oc, I A.steps])
  rw [← hw5, ← hsb]
  obtain ⟨AL, hAL⟩ : ∃ n, n = A.out.length := ⟨_, rfl⟩
  have HB5 := Lib.hid (HB4.out.trans (hb45.mono HB4.out.size))
  have HR5 := Lib.hid (HR4.out.ext hb45)
  have HX5 := Lib.hid (PX.lt (HX4.out.below hb45))
  have HLA := Lib.hid (Lst.below HOL.out hb45)
  have HS5 := Lib.hid hr5
  have HAL := Lib.hid hAL
  have hAL9 : AL ≤ 1000000000 := by omega
  rw [← hAL] at HLA HS5 ⊢
  clear hw5 hw5' hsb hb45 hr5 HR4 HX4 HOL hAL hoA HB3 HR3 HX3 HB4
  go_upto_region 7 with (first
    | (at_builtin; refine wpList_appM rfl _ _ rfl w5.heap.size (.slice none 0 0) [] rfl (OwnInts.nil _ _) (.slice ia IN ik) inp rfl (RSlB.below HB5.out (fun _ _ h => h) HIL.out) (by have := HINe.out; simp only [List.length_nil]; omega) (Nat.le_refl _) ?_; intro v6 w6 ho6 hg6; have HO6 := Lib.hid (show OwnInts w6 w5.heap.size v6 inp from ho6); have HB6 := Lib.hid (show Below w5.heap.size w5 w6 from (Below.refl _ _).grown hg6 (Nat.le_refl _) (fun r e => by cases e)); clear ho6 hg6))
  go_loopg [13, 14] (n + 1) (fun gh pv i wr => ∃ k : Nat, gh + k = n + 1 ∧ i = I k ∧ Hid (OwnInts wr w5.heap.size pv (inp ++ List.replicate k (-1)) ∧ Below w5.heap.size w5 wr))
  case atStart => exact ⟨0, by omega, rfl, Lib.hid ⟨by simpa using HO6.out, HB6.out⟩⟩
  case round =>
    obtain ⟨k, hg, rfl, HH⟩ := hrel
    obtain ⟨wo, rfl⟩ : ∃ wo, wo = wr := ⟨_, rfl⟩
    have hll : (inp ++ List.replicate k (-1)).length = IN + k := by rw [List.length_append, List.length_replicate, HINe.out]
    by_cases hlt : k ≤ n
    · have hltz : (k : Int) ≤ (n : Int) := by omega
      have hk1 : (k : Int) < 1001 := by omega
      have HLL := Lib.hid hll
      clear hll
      go_wp2_with (first
        | (at_builtin; refine wpList_appM rfl _ _ rfl w5.heap.size _ (inp ++ List.replicate k (-1)) rfl (HH.out.1.ext (below_a1 wo _)) (.slice (some ⟨wo.heap.size, 0, none⟩) 1 1) [-1] rfl (lst_lit (x := -1) (heap_new wo _)) (by rw [HLL.out]; simp only [List.length_cons, List.length_nil]; omega) (by rw [World.size_alloc]; have := HH.out.2.size; omega) ?_; intro v' w6 ho6 hg6; have HO6' := Lib.hid ho6; have HB6' := Lib.hid (show Below w5.heap.size w5 w6 from (HH.out.2.alloc HH.out.2.size _).grown hg6 (by rw [World.size_alloc]; have := HH.out.2.size; omega) (fun r e => own_base HH.out.1 r e)); clear ho6 hg6))
      go_roundg (n + 1 - (k + 1))
      case measure => omega
      case rel =>
        refine ⟨k + 1, by omega, by go_num, Lib.hid ⟨?_, HB6'.out⟩⟩
        rw [List.replicate_succ', ← List.append_assoc]
        exact HO6'.out
    · have hltz : ¬ (k : Int) ≤ (n : Int) := by omega
      have hkn : k = n + 1 := by omega
      subst hkn
      have HO7 := Lib.hid HH.out.1
      have HB7 := Lib.hid HH.out.2
      have HLL := Lib.hid hll
      clear HH hll
      go_upto_region 10 with (fail)
      rename_i KR hKR
      have hrest : ∀ (x13 x14 x17 x18 x19 x20 x21 x22 x23 x24 x25 x26 x27 x28 x29 x30 x31 x32 x33 x34 x35 x36 x37 x38 x39 x40 x41 x42 x43 x44 x45 : Value) (wz : World) (gb : Nat) (oa2 : Option Addr) (oc2 : Nat), Below w5.heap.size w5 wz → Row wz gb 37 [I A.status, I A.code, .slice oa2 AL oc2, I A.steps] → Lst wz (.slice oa2 AL oc2) A.out → KR { tmps := #[.slice ra RN rc, .slice ia IN ik, .slice ma MN mc, I st, undef, undef, undef, undef, .bool false, .bool true, .pointer (some ⟨pb, 0, none⟩), I n, .pointer (some ⟨sb, 0, none⟩), x13, x14, .pointer (some ⟨gb, 0, none⟩), undef, x17, x18, x19, x20, x21, x22, x23, x24, x25, x26, x27, x28, x29, x30, x31, x32, x33, x34, x35, x36, x37, x38, x39, x40, x41, x42, x43, x44, x45, undef, undef, undef, undef, undef, undef, undef, undef, undef, undef, undef, undef, undef, undef, undef], defers := [] } wz := by
        intro x13 x14 x17 x18 x19 x20 x21 x22 x23 x24 x25 x26 x27 x28 x29 x30 x31 x32 x33 x34 x35 x36 x37 x38 x39 x40 x41 x42 x43 x44 x45 wz gb oa2 oc2 hbz hrz hlz
        refine hKR _ _ ?_
        clear hKR KR
        have HBZ := Lib.hid hbz
        have HRZ := Lib.hid hrz
        have HLZ := Lib.hid hlz
        have hr := HR5.out.ext hbz
        have c0 := hr.cell 0
        have c1 := hr.cell 1
        simp only [List.getElem?_cons_zero, List.getElem?_cons_succ] at c0 c1
        have HCR := Lib.hid (HRA.out wz (HB5.out.trans (hbz.mono HB5.out.size)) (PX.lt (HX5.out.below hbz)))
        clear hbz hrz hlz hr HO7 HB7 HRA HRB HLL
        go_upto_region 12 with (first
          | (go_at_call 17; refine HCR.out.mono ?_; rintro e' w8 ⟨ov, rfl, ho, hb8⟩; have hL := ho.rslB (by rw [← HAL.out]; exact hAL9); obtain ⟨oa3, oc3, rfl, -, -⟩ := id hL; have HL8 := Lib.hid hL; have HB8 := Lib.hid hb8; clear hL ho hb8 c0 c1)
          | (refine store_first 37 (.tmp 16) (.tmp 49) rfl ?_; refine wpList_store_row rfl 37 (.tmp 16) (.tmp 49) rfl w8.heap.size _ rfl rfl 37 r37Z (heap_new _ _) (by kernel_rfl) (by rfl) (by simp [Value.oneCell']) ?_))
        obtain ⟨w9, hw9⟩ : ∃ w, w = (w8.alloc (.cells r37Z 37)).setRow w8.heap.size #[I A.status, I A.code, .slice oa3 A.out.length oc3, I A.steps] := ⟨_, rfl⟩
        have hw9' : w9 = w8.alloc (.cells #[I A.status, I A.code, .slice oa3 A.out.length oc3, I A.steps] 37) := by rw [hw9]; exact World.setRow_alloc_new _ _ _ _
        obtain ⟨hb, hhb⟩ : ∃ n, n = w8.heap.size := ⟨_, rfl⟩
        have hb89 : Below w8.heap.size w8 w9 := by rw [hw9']; exact below_a1 _ _
        have hr9 : Row w9 hb 37 [I A.status, I A.code, .slice oa3 A.out.length oc3, I A.steps] := by rw [hw9', hhb]; exact heap_new _ _
        have hbz9 : Below wz.heap.size wz w9 := HB8.out.trans (hb89.mono HB8.out.size)
        change Code.wp _ _ _ _ ((w8.alloc (.cells r37Z 37)).setRow w8.heap.size #[I A.status, I A.code, .slice oa3 A.out.length oc3, I A.steps])
        rw [← hw9, ← hhb]
        rw [← HAL.out] at hr9 HL8 ⊢
        have HR9a := Lib.hid ((HS5.out.ext HBZ.out).ext hbz9)
        have HR9b := Lib.hid (HRZ.out.ext hbz9)
        have HR9c := Lib.hid hr9
        have HLa := Lib.hid (Lst.below (Lst.below HLA.out HBZ.out) hbz9)
        have HLb := Lib.hid (Lst.below HLZ.out hbz9)
        have HLc := Lib.hid (Lst.below HL8.out hb89)
        have HB9 := Lib.hid (HBZ.out.trans (hbz9.mono HBZ.out.size))
        have HS1 := Lib.hid (same_yes A.status A.code (A.steps : Int) A.out _ _ w9 HLa.out HLb.out)
        have HS2 := Lib.hid (fun (w : World) (hb : Below w9.heap.size w9 w) => same_yes A.status A.code (A.steps : Int) A.out _ _ w (Lst.below HLa.out hb) (Lst.below HLc.out hb))
        have a0 := HR9a.out.cell 0
        have a1 := HR9a.out.cell 1
        have a2 := HR9a.out.cell 2
        have a3 := HR9a.out.cell 3
        have b0 := HR9b.out.cell 0
        have b1 := HR9b.out.cell 1
        have b2 := HR9b.out.cell 2
        have b3 := HR9b.out.cell 3
        simp only [List.getElem?_cons_zero, List.getElem?_cons_succ] at a0 a1 a2 a3 b0 b1 b2 b3
        clear hw9 hw9' hhb hb89 hr9 hbz9 HL8 HLZ HRZ
        go_wp2_with (first
          | (go_at_call 16; first
            | (refine HS1.out.mono ?_; rintro e' wA ⟨rfl, hbA⟩; have HBA := Lib.hid hbA; have ra := HR9a.out.ext hbA; have rc := HR9c.out.ext hbA; clear hbA a0 a1 a2 a3 b0 b1 b2 b3 HS1; have a0 := ra.cell 0; have a1 := ra.cell 1; have a2 := ra.cell 2; have a3 := ra.cell 3; have b0 := rc.cell 0; have b1 := rc.cell 1; have b2 := rc.cell 2; have b3 := rc.cell 3; simp only [List.getElem?_cons_zero, List.getElem?_cons_succ] at a0 a1 a2 a3 b0 b1 b2 b3; clear ra rc)
            | (refine (HS2.out _ HBA.out).mono ?_; rintro e' wB ⟨rfl, hbB⟩; have HBB := Lib.hid (HBA.out.trans (hbB.mono HBA.out.size)); clear hbB a0 a1 a2 a3 b0 b1 b2 b3)))
        go_ret
        exact ⟨rfl, HB5.out.trans ((HB9.out.trans (HBB.out.mono HB9.out.size)).mono HB5.out.size)⟩
      have HREST := Lib.hid hrest
      clear hKR hrest
      have hdn : ∀ (wx : World) (gb : Nat) (oa2 : Option Addr) (oc2 : Nat) (cs : List Value), Below w5.heap.size w5 wx → w5.heap.size ≤ gb → Row wx gb 37 cs → OwnInts wx 0 (.slice oa2 AL oc2) A.out → Below w5.heap.size w5 (wx.setRow gb #[I A.status, I A.code, .slice oa2 AL oc2, I A.steps]) ∧ Row (wx.setRow gb #[I A.status, I A.code, .slice oa2 AL oc2, I A.steps]) gb 37 [I A.status, I A.code, .slice oa2 AL oc2, I A.steps] ∧ Lst (wx.setRow gb #[I A.status, I A.code, .slice oa2 AL oc2, I A.steps]) (.slice oa2 AL oc2) A.out := by
        intro wx gb oa2 oc2 cs hb hgb hr ho
        exact ⟨hb.grown setRow_grown hb.size (fun r e => by cases e; exact hgb), setRow_heap _ _ _ _ _ _ hr, (OwnInts.tag ho setRow_grown (NoTag.box 3 hr (by decide))).rslB (by rw [← HAL.out]; exact hAL9)⟩
      have HDN := Lib.hid hdn
      have hrn := fun (X : World) (qv : Value) (hb : Below w5.heap.size w5 X) (ho : OwnInts X w5.heap.size qv (inp ++ (List.replicate (n + 1) (-1) ++ more))) => HRB.out X qv (PX.lt (HX5.out.below hb)) (ho.rin (by have := HLL.out; simp only [List.length_append, List.length_replicate] at this ⊢; rw [← HMNe.out]; omega))
      have HRN := Lib.hid hrn
      clear hdn hrn
      refine wp_region_ordT (by kernel_rfl) (fun X => X.cell? ⟨pb, 0, none⟩ = some (.slice aa AN ac) ∧ X.cell? ⟨pb, 1, none⟩ = some (.slice fa FN fc)) OT.rd (by kernel_rfl) ?hS ?_
      case hS => intro wd hh; exact ⟨row_at (HR5.out.ext HB7.out) hh 0, row_at (HR5.out.ext HB7.out) hh 1⟩
      intro wd hh hgd hS
      have HBD := Lib.hid (show Below w5.heap.size w5 wd from HB7.out.grown hgd HB7.out.size (fun r e => by cases e))
      have HOD := Lib.hid (show OwnInts wd w5.heap.size u13 (inp ++ List.replicate (n + 1) (-1)) from HO7.out.kept hgd (fun r e => by cases e))
      have HMD := Lib.hid (show RSlB (· < W.heap.size) 1 RI wd (.slice ma MN mc) more from RSlB.below (HB5.out.trans (HBD.out.mono HB5.out.size)) (fun _ _ h => h) HML.out)
      have HSX := Lib.hid (show ∀ X : World, Below w5.heap.size w5 X → X.cell? ⟨pb, 0, none⟩ = some (.slice aa AN ac) ∧ X.cell? ⟨pb, 1, none⟩ = some (.slice fa FN fc) from fun X hb => ⟨(HR5.out.ext hb).cell 0, (HR5.out.ext hb).cell 1⟩)
      clear hh hgd HO7 HB7 HML
      repeat (refine wpOrdT_look (v := ?_) rfl (by rfl) ?_ (by assumption) (fun _ _ _ h => h) ?_; rotate_left; (· (intro wS hSw; (try dsimp only at hSw); go_simp; (first | done | with_reducible rfl))); simp only [Act.put, List.setIfInBounds_toArray, List.set_cons_zero, List.set_cons_succ])
      refine wpOrdT_two rfl rfl ?_ ?_
      · go_wp2_with (first
          | (at_builtin; refine wpList_appM rfl _ _ rfl w5.heap.size u13 (inp ++ List.replicate (n + 1) (-1)) rfl HOD.out (.slice ma MN mc) more rfl HMD.out (by rw [HLL.out, ← HMNe.out]; omega) HBD.out.size ?_; intro v7 w7 ho7 hg7; rw [List.append_assoc] at ho7; have HO7a := Lib.hid ho7; have HB7a := Lib.hid (show Below w5.heap.size w5 w7 from HBD.out.grown hg7 HBD.out.size (fun r e => own_base HOD.out r e)); have HG7 := Lib.hid hg7; clear ho7 hg7))
        refine QNT_keep (HSX.out w7 HB7a.out) fun hS => ?_
        refine wpOrdT_two rfl rfl ?_ ?_
        · have HB7b := Lib.hid HB7a.out
          have HO7b := Lib.hid HO7a.out
          clear hS
          go_wp2_with (first
            | (go_at_call 17; refine (HRN.out _ v7 HB7b.out HO7b.out).mono ?_; rintro e' w8 ⟨ov, rfl, ho, hb8⟩; have hL := ho.rslB (by rw [← HAL.out]; exact hAL9); obtain ⟨oa2, oc2, rfl, -, -⟩ := id hL; rw [← HAL.out] at ho ⊢; have HO8 := Lib.hid ho; have HB8 := Lib.hid hb8; clear hL ho hb8))
          have HBX := Lib.hid (HB7a.out.trans (HB8.out.mono HB7a.out.size))
          refine QNT_keep (HSX.out w8 HBX.out) fun hS => ?_
          refine wpOrdT_turn rfl ?_
          clear hS
          go_wp2
          refine QNT_keep (HSX.out _ (HBX.out.alloc HBX.out.size _)) fun hS => ?_
          refine wpOrdT_last rfl ?_
          clear hS
          refine store_first 37 (.tmp 15) (.tmp 45) rfl ?_
          refine wpList_store_row rfl 37 (.tmp 15) (.tmp 45) rfl w8.heap.size _ rfl rfl 37 r37Z (heap_new _ _) (by kernel_rfl) (by rfl) (by simp [Value.oneCell']) ?_
          go_wp2
          refine QN_normal (wpOrdT_nil ?_)
          obtain ⟨h1, h2, h3⟩ := HDN.out (w8.alloc (.cells r37Z 37)) w8.heap.size oa2 oc2 [I 0, I 0, .slice none 0 0, I 0] (HBX.out.alloc HBX.out.size _) HBX.out.size (heap_new _ _) (HO8.out.ext (below_a1 _ _))
          exact HREST.out _ _ _ _ _ _ _ _ _ _ _ _ _ _ _ _ _ _ _ _ _ _ _ _ _ _ _ _ _ _ _ _ w8.heap.size oa2 oc2 h1 h2 h3
        · go_wp2
          obtain ⟨wa, hwa⟩ : ∃ w, w = w7.alloc (.cells r37Z 37) := ⟨_, rfl⟩
          obtain ⟨gb, hgb⟩ : ∃ g, g = w7.heap.size := ⟨_, rfl⟩
          have hgb5 : w5.heap.size ≤ gb := by rw [hgb]; exact HB7a.out.size
          have HRG := Lib.hid (show Row wa gb 37 [I 0, I 0, .slice none 0 0, I 0] by rw [hwa, hgb]; exact heap_new _ _)
          have HB7b := Lib.hid (show Below w5.heap.size w5 wa by rw [hwa]; exact HB7a.out.alloc HB7a.out.size _)
          have HO7b := Lib.hid (show OwnInts wa w5.heap.size v7 (inp ++ (List.replicate (n + 1) (-1) ++ more)) by rw [hwa]; exact HO7a.out.ext (below_a1 _ _))
          change QN _ _ _ _ (w7.alloc (.cells r37Z 37))
          rw [← hwa, ← hgb]
          clear hwa hgb hS
          refine QNT_keep (HSX.out wa HB7b.out) fun hS => ?_
          refine wpOrdT_turn rfl ?_
          clear hS
          go_wp2_with (first
            | (go_at_call 17; refine (HRN.out _ v7 HB7b.out HO7b.out).mono ?_; rintro e' w8 ⟨ov, rfl, ho, hb8⟩; have hL := ho.rslB (by rw [← HAL.out]; exact hAL9); obtain ⟨oa2, oc2, rfl, -, -⟩ := id hL; rw [← HAL.out] at ho ⊢; have HO8 := Lib.hid ho; have HB8 := Lib.hid hb8; clear hL ho hb8))
          have HBX := Lib.hid (HB7b.out.trans (HB8.out.mono HB7b.out.size))
          have HRX := Lib.hid (HRG.out.ext HB8.out)
          refine QNT_keep (HSX.out w8 HBX.out) fun hS => ?_
          refine wpOrdT_last rfl ?_
          clear hS
          refine store_first 37 (.tmp 15) (.tmp 45) rfl ?_
          refine wpList_store_row rfl 37 (.tmp 15) (.tmp 45) rfl gb _ rfl rfl 37 r37Z HRX.out (by kernel_rfl) (by rfl) (by simp [Value.oneCell']) ?_
          go_wp2
          refine QN_normal (wpOrdT_nil ?_)
          obtain ⟨h1, h2, h3⟩ := HDN.out w8 gb oa2 oc2 [I 0, I 0, .slice none 0 0, I 0] HBX.out hgb5 HRX.out HO8.out
          exact HREST.out _ _ _ _ _ _ _ _ _ _ _ _ _ _ _ _ _ _ _ _ _ _ _ _ _ _ _ _ _ _ _ _ gb oa2 oc2 h1 h2 h3
      · go_wp2
        obtain ⟨wa, hwa⟩ : ∃ w, w = wd.alloc (.cells r37Z 37) := ⟨_, rfl⟩
        obtain ⟨gb, hgb⟩ : ∃ g, g = wd.heap.size := ⟨_, rfl⟩
        have hgb5 : w5.heap.size ≤ gb := by rw [hgb]; exact HBD.out.size
        have HRA := Lib.hid (show Row wa gb 37 [I 0, I 0, .slice none 0 0, I 0] by rw [hwa, hgb]; exact heap_new _ _)
        have hown : ∀ r, u13.ownBlock = some r → r < gb := fun r e => by rw [hgb]; exact (ownsRow_base HOD.out r e).2
        have hbd : Below w5.heap.size w5 wa := by rw [hwa]; exact HBD.out.alloc HBD.out.size _
        have hod : OwnInts wa w5.heap.size u13 (inp ++ List.replicate (n + 1) (-1)) := by rw [hwa]; exact HOD.out.ext (below_a1 _ _)
        have hmd : RSlB (· < W.heap.size) 1 RI wa (.slice ma MN mc) more := by rw [hwa]; exact HMD.out.grown (alloc_grown _ _ none) (fun r e => by cases e) (fun _ _ h => h)
        change QN _ _ _ _ (wd.alloc (.cells r37Z 37))
        rw [← hwa, ← hgb]
        clear hwa hgb hS HBD HOD HMD
        have HBD := Lib.hid hbd
        have HOD := Lib.hid hod
        have HMD := Lib.hid hmd
        have HON := Lib.hid hown
        clear hbd hod hmd hown
        refine QNT_keep (HSX.out wa HBD.out) fun hS => ?_
        refine wpOrdT_turn rfl ?_
        clear hS
        go_wp2_with (first
          | (at_builtin; refine wpList_appM rfl _ _ rfl w5.heap.size u13 (inp ++ List.replicate (n + 1) (-1)) rfl HOD.out (.slice ma MN mc) more rfl HMD.out (by rw [HLL.out, ← HMNe.out]; omega) HBD.out.size ?_; intro v7 w7 ho7 hg7; rw [List.append_assoc] at ho7; have HO7a := Lib.hid ho7; have HB7a := Lib.hid (show Below w5.heap.size w5 w7 from HBD.out.grown hg7 HBD.out.size (fun r e => own_base HOD.out r e)); have HG7 := Lib.hid hg7; clear ho7 hg7))
        have HB7b := Lib.hid HB7a.out
        have HO7b := Lib.hid HO7a.out
        have HRG := Lib.hid (HRA.out.kept HG7.out (fun e => by have := HON.out _ e.symm; omega))
        refine QNT_keep (HSX.out w7 HB7b.out) fun hS => ?_
        refine wpOrdT_turn rfl ?_
        clear hS
        go_wp2_with (first
          | (go_at_call 17; refine (HRN.out _ v7 HB7b.out HO7b.out).mono ?_; rintro e' w8 ⟨ov, rfl, ho, hb8⟩; have hL := ho.rslB (by rw [← HAL.out]; exact hAL9); obtain ⟨oa2, oc2, rfl, -, -⟩ := id hL; rw [← HAL.out] at ho ⊢; have HO8 := Lib.hid ho; have HB8 := Lib.hid hb8; clear hL ho hb8))
        have HBX := Lib.hid (HB7b.out.trans (HB8.out.mono HB7b.out.size))
        have HRX := Lib.hid (HRG.out.ext HB8.out)
        refine QNT_keep (HSX.out w8 HBX.out) fun hS => ?_
        refine wpOrdT_last rfl ?_
        clear hS
        refine store_first 37 (.tmp 15) (.tmp 45) rfl ?_
        refine wpList_store_row rfl 37 (.tmp 15) (.tmp 45) rfl gb _ rfl rfl 37 r37Z HRX.out (by kernel_rfl) (by rfl) (by simp [Value.oneCell']) ?_
        go_wp2
        refine QN_normal (wpOrdT_nil ?_)
        obtain ⟨h1, h2, h3⟩ := HDN.out w8 gb oa2 oc2 [I 0, I 0, .slice none 0 0, I 0] HBX.out hgb5 HRX.out HO8.out
        exact HREST.out _ _ _ _ _ _ _ _ _ _ _ _ _ _ _ _ _ _ _ _ _ _ _ _ _ _ _ _ _ _ _ _ gb oa2 oc2 h1 h2 h3
end Go.Proofs.YtjgbkdbkachciaaGreatDoor
