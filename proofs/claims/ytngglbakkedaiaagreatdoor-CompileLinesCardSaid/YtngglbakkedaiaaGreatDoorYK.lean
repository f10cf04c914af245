import Derived.Test.YtngglbakkedaiaaGreatDoorG5
import Derived.Deep.Slices
import Derived.SizedLaws
set_option linter.all false
namespace Go.Proofs.YtngglbakkedaiaaGreatDoor
section
open Go.RowKit Go.Shelf
attribute [local go_sem] Oper.semAt_some
theorem RF.vals {B:Nat→Prop} {w:World} {C:Nat→Value} {f:LF} (h:RF B w C f):∃pa np pc la lc ba bc,C 0=S f.name∧C 1= .slice pa np pc∧C 2= .slice la f.locals.length lc∧C 3= .slice ba f.body.length bc∧f.locals.length≤1000000000∧SX B w (.slice ba f.body.length bc) f.body:=by
 obtain⟨h0,h1,h2,h3⟩:=h
 obtain⟨pa,pc,hp,-⟩:=h1
 obtain⟨la,lc,hl,hn,-⟩:=id h2
 obtain⟨ba,bc,hb⟩:=h3.slice
 exact⟨pa,_,pc,la,lc,ba,bc,h0,hp,hl,hb,hn,hb▸h3⟩
set_option maxRecDepth 100000 in
set_option maxHeartbeats 8000000 in
theorem line8_any (p:LP) (ho:OdP p) (av fv:Value) (w:World) (B0:Nat→Prop) (hx:PX B0 w av fv p) (hcap:CapF fv) (fn st:Int) (hfn:InI fn) (hst:InI st):
  CR 8 #[.agg #[av,fv],I fn,I st] w (I (lineP p fn st)):=by
  obtain ⟨B, hB⟩ : ∃ B : Nat → Prop, B = fun b => B0 b ∧ b < w.heap.size := ⟨_, rfl⟩
  have hx := hx.size
  rw [← hB] at hx
  have hBl : ∀ b, B b → b < w.heap.size := fun b hb => by rw [hB] at hb; exact hb.2
  clear hB
  obtain ⟨L, hL⟩ : ∃ L, L = lineP p fn st := ⟨_, rfl⟩
  rw [← hL]
  obtain ⟨aa, ac, fa, fc, rfl, rfl⟩ := hx.slice
  have hcp := hcap _ _ _ rfl
  obtain ⟨NA, hNA⟩ : ∃ n, n = p.arrays.length := ⟨_, rfl⟩
  obtain ⟨NF, hNF⟩ : ∃ n, n = p.funcs.length := ⟨_, rfl⟩
  have hfew := ho.few
  rw [← hNA, ← hNF] at hfew
  obtain ⟨Q, hQ⟩ : ∃ Q, Q = bP (okP p) := ⟨_, rfl⟩
  have hRT : ∀ W, PX B W (.slice aa NA ac) (.slice fa NF fc) p → CR 18 #[.agg #[.slice aa NA ac, .slice fa NF fc]] W (.bool Q) := fun W h => by rw [hQ]; exact right_any p ho.ascs _ _ W B h
  rw [← hNA, ← hNF] at hx ⊢
  rw [← hNF] at hcp
  obtain ⟨w1, hw1⟩ : ∃ w1, w1 = w.alloc (.cells #[.slice aa NA ac, .slice fa NF fc] 27) := ⟨_, rfl⟩
  have hwe := hw1.symm
  have HB1 := Lib.hid (show Below w.heap.size w w1 by rw [hw1]; exact below_a1 _ _)
  have HR1 := Lib.hid (show Row w1 w.heap.size 27 [.slice aa NA ac, .slice fa NF fc] by rw [hw1]; exact heap_new _ _)
  have HX := Lib.hid hx
  have HX1 := Lib.hid (hx.grown (below_grown HB1.out none) (fun r e => by cases e))
  have HRT := Lib.hid hRT
  have HO := Lib.hid ho
  have HQ := Lib.hid hQ
  have HL := Lib.hid hL
  have HNA := Lib.hid hNA
  have HNF := Lib.hid hNF
  have HBL := Lib.hid hBl
  have HST := Lib.hid hst
  have i0 := HR1.out.k0
  have i1 := HR1.out.k1
  unfold InI at hfn
  clear hx hRT ho hQ hL hNA hNF hBl hw1 hst
  cases Q with
  | false =>
    obtain rfl : L = 1 := by rw [HL.out]; exact lineP_no p fn st (.inl HQ.out.symm)
    go_enter Tryz.func8, Tryz.ntmps8
    go_wp2_with (first
      | (go_at_call 18; refine (HRT.out w1 HX1.out).mono ?_; rintro e' w2 ⟨rfl, hb2⟩; have HB2 := Lib.hid (HB1.out.trans (hb2.mono HB1.out.size)); clear hb2))
    go_ret
    exact ⟨rfl, HB2.out⟩
  | true =>
  by_cases hf0 : fn < 0
  case pos =>
    obtain rfl : L = 1 := by rw [HL.out]; exact lineP_no p fn st (.inr (.inl hf0))
    go_enter Tryz.func8, Tryz.ntmps8
    go_wp2_with (first
      | (go_at_call 18; refine (HRT.out w1 HX1.out).mono ?_; rintro e' w2 ⟨rfl, hb2⟩; have HB2 := Lib.hid (HB1.out.trans (hb2.mono HB1.out.size)); clear hb2))
    go_ret
    exact ⟨rfl, HB2.out⟩
  by_cases hf1 : (NF : Int) ≤ fn
  case pos =>
    obtain rfl : L = 1 := by rw [HL.out]; exact lineP_no p fn st (.inr (.inr (by rw [← HNF.out]; exact hf1)))
    go_enter Tryz.func8, Tryz.ntmps8
    go_wp2_with (first
      | (go_at_call 18; refine (HRT.out w1 HX1.out).mono ?_; rintro e' w2 ⟨rfl, hb2⟩; have HB2 := Lib.hid (HB1.out.trans (hb2.mono HB1.out.size)); have hr2 := HR1.out.ext hb2; have j0 := hr2.k0; have j1 := hr2.k1; clear hb2 hr2 i0 i1))
    go_ret
    exact ⟨rfl, HB2.out⟩
  obtain ⟨k, rfl⟩ : ∃ k : Nat, fn = k := ⟨fn.toNat, by omega⟩
  have hkN : k < NF := by omega
  have hkF : k < p.funcs.length := by rw [← HNF.out]; exact hkN
  have HOK := Lib.hid (bP_iff.1 HQ.out.symm)
  have HLY := Lib.hid (HL.out.trans (lineP_yes p k st HQ.out.symm hkF))
  go_enter Tryz.func8, Tryz.ntmps8
  have hNFb : NF ≤ 1000 := by omega
  have hkc : (k : Int) + 1 ≤ (fc : Int) := by omega
  have HNAb : NA ≤ 1000 := by omega
  go_wp2_with (first
      | (go_at_call 18; refine (HRT.out w1 HX1.out).mono ?_; rintro e' w2 ⟨rfl, hb2⟩; have HB2 := Lib.hid (HB1.out.trans (hb2.mono HB1.out.size)); have hr2 := HR1.out.ext hb2; have j0 := hr2.k0; have j1 := hr2.k1; clear hb2 hr2 i0 i1))
  clear j0 j1 hwe
  generalize decide (NF ≤ k) = q1
  generalize decide ((k : Int) < 0) = q2
  go_loopg [7, 35] (k + 1) (fun gh ln i wr => ∃ (j q : Nat), gh + j = k + 1 ∧ j ≤ k ∧ i = I j ∧ ln = I q ∧ q ≤ 20300000 ∧ Hid (Below w.heap.size w wr ∧ q = hdr p j))
  case atStart => exact ⟨0, 1 + NA, by omega, by omega, rfl, by go_num, by omega, Lib.hid ⟨HB2.out, by unfold hdr; rw [List.take_zero, ← HNA.out]; rfl⟩⟩
  case round =>
    obtain ⟨j, q, hg, hjk, rfl, rfl, hqb, HH⟩ := hrel
    obtain ⟨wo, rfl⟩ : ∃ wo, wo = wr := ⟨_, rfl⟩
    have hjF : j < p.funcs.length := by rw [← HNF.out]; omega
    have hltz : (j : Int) < (k : Int) + 1 := by omega
    have hxo : PX B wo (.slice aa NA ac) (.slice fa NF fc) p := HX.out.grown (below_grown HH.out.1 none) (fun r e => by cases e)
    obtain ⟨b, o, C, hba, hBb, hC, hrx⟩ := hxo.funcs.at hjF
    obtain rfl := hba
    have hof := HO.out.funcs _ (List.getElem_mem hjF)
    have hkf := HOK.out.funcs _ (List.getElem_mem hjF)
    have hst := hdr_step p j hjF
    have hle := hdr_le HO.out HOK.out (j + 1)
    have HLZ := Lib.hid (show j = k → L = fnd (offL p.funcs[j].body (hdr p j + 1 + p.funcs[j].locals.length)) 0 st (hdr p j) from fun e => by subst e; exact HLY.out)
    obtain ⟨x, hxk⟩ : ∃ x, x = p.funcs[j] := ⟨_, rfl⟩
    rw [← hxk] at hrx hof hkf hst HLZ
    obtain ⟨pa, np, pc, la, lc, ba, bc, h0, h1, h2, h3, hln, hsx⟩ := hrx.vals
    have hbt := body_tot hof hkf
    have hll := linL_le x.body
    have e0 := hC 0 (by omega)
    have e1 := hC 1 (by omega)
    have e2 := hC 2 (by omega)
    have e3 := hC 3 (by omega)
    simp only [Nat.add_zero] at e0
    rw [h0] at e0
    rw [h1] at e1
    rw [h2] at e2
    rw [h3] at e3
    obtain ⟨nl, hnl⟩ : ∃ n, n = x.locals.length := ⟨_, rfl⟩
    obtain ⟨nb, hnb⟩ : ∃ n, n = x.body.length := ⟨_, rfl⟩
    obtain ⟨lb, hlb⟩ : ∃ n, n = linL x.body := ⟨_, rfl⟩
    rw [← hnl] at e2 hln
    rw [← hnb] at e3 hsx
    rw [← hlb] at hll
    have hst : hdr p (j + 1) = q + 2 + nl + lb := by rw [hst, ← HH.out.2, hnl, hlb]; unfold lnF; omega
    rw [hst] at hle
    have HXK := Lib.hid hxk
    have HSX := Lib.hid hsx
    have HBT := Lib.hid hbt
    have HNL := Lib.hid hnl
    have HLB := Lib.hid hlb
    have HSTP := Lib.hid hst
    have HBB := Lib.hid hBb
    clear hC hrx h0 h1 h2 h3 hsx hbt hnl hnb hlb hst hof hkf hxo hxk hBb
    go_upto_region 7 with (first
      | (refine sr 51 (.tmp 9) (.tmp 39) wo fZ4 hn0 ?_; rw [World.setRow_alloc_new]))
    obtain ⟨w3, hw3⟩ : ∃ w3, w3 = wo.alloc (.cells #[S x.name, .slice pa np pc, .slice la nl lc, .slice ba nb bc] 51) := ⟨_, rfl⟩
    rw [← hw3]
    have hg3 : wo.grownBy w3 none := by rw [hw3]; exact alloc_grown _ _ _
    have hr3 : Row w3 wo.heap.size 51 [S x.name, .slice pa np pc, .slice la nl lc, .slice ba nb bc] := by rw [hw3]; exact heap_new _ _
    have c2 := hr3.k2
    have c3 := hr3.k3
    have HG3 := Lib.hid hg3
    have HR3 := Lib.hid hr3
    clear hw3 e0 e1 e2 e3 hg3 hr3
    have hwr : IntKind.i64.wrap ((q : Int) + 1 + (nl : Int)) = (q : Int) + 1 + nl := wrap_small _ (by omega) (by omega)
    go_upto_region 8 with (fail)
    obtain ⟨A, hA⟩ : ∃ A : Nat, A = q + 1 + nl := ⟨_, rfl⟩
    have hAI : (q : Int) + 1 + (nl : Int) = (A : Int) := by omega
    rw [hAI]
    obtain ⟨w4, hw4⟩ : ∃ w4, w4 = w3.alloc (.cells #[I (A : Int), I 0, I st, I (q : Int)] 67) := ⟨_, rfl⟩
    rw [← hw4]
    have hg4 : w3.grownBy w4 none := by rw [hw4]; exact alloc_grown _ _ _
    have hr4 : Row w4 w3.heap.size 67 (cRow18 A 0 st q) := by rw [hw4]; exact heap_new _ _
    obtain ⟨cb, hcb⟩ : ∃ cb, cb = w3.heap.size := ⟨_, rfl⟩
    rw [← hcb] at hr4 ⊢
    have hcw : w.heap.size ≤ cb := by rw [hcb]; exact Nat.le_trans HH.out.1.size HG3.out.size
    have hr34 := HR3.out.kept hg4 (fun e => by cases e)
    have d3 := hr34.k3
    have hall : Calls Tryz.prog 19 #[.pointer (some ⟨cb, 0, none⟩), .slice ba nb bc] w4 fun e w' => e = .returned (.tuple #[]) ∧ Row w' cb 67 (cRow18 (A + linL x.body) (0 + (offL x.body 0).length) st (fnd (offL x.body A) (0 : Nat) st q)) ∧ w4.grownBy w' (some cb) :=
      stmts19_any x.body (.slice ba nb bc) w4 B cb A 0 st q ((HSX.out.grown HG3.out (fun r e => by cases e)).grown hg4 (fun r e => by cases e)) (by have := HBT.out; omega) hr4 (fun hb => by have := HBL.out _ hb; omega) (by have := HBT.out; omega) (by have := HBT.out; omega)
    rw [← HLB.out] at hall
    have HCL := Lib.hid hall
    have HA := Lib.hid hA
    have HB4 := Lib.hid (show Below w.heap.size w w4 from (HH.out.1.grown HG3.out HH.out.1.size (fun r e => by cases e)).grown hg4 (by have := HH.out.1.size; have := HG3.out.size; omega) (fun r e => by cases e))
    have HCW := Lib.hid hcw
    clear c2 c3 hwr hAI hw4 hg4 hr4 hcb hr34 hall hcw
    go_upto_region 9 with (first
      | (go_at_call 19; refine HCL.out.mono ?_; rintro e' w5 ⟨rfl, hr5, hg5⟩))
    have HB5 := Lib.hid (HB4.out.grown hg5 HB4.out.size (fun r e => by cases e; exact HCW.out))
    obtain ⟨f5, hf5⟩ : ∃ f, f = fnd (offL x.body A) (0 : Nat) st q := ⟨_, rfl⟩
    obtain ⟨A5, hA5⟩ : ∃ n, n = A + lb := ⟨_, rfl⟩
    rw [← hf5, ← hA5] at hr5
    have k0 := hr5.k0
    have k3 := hr5.k3
    have hA5b : A5 + 1 ≤ 100000000 := by omega
    have HF5 := Lib.hid hf5
    have HA5 := Lib.hid hA5
    clear hr5 hg5 hf5 hA5 hA d3
    by_cases hjk2 : j = k
    case pos =>
      have hLf : L = f5 := by rw [HLZ.out hjk2, HF5.out, HA.out, ← HNL.out, ← HH.out.2]; rfl
      subst hLf
      subst hjk2
      go_wp2
      go_ret
      exact ⟨rfl, HB5.out⟩
    have hb1 : ((j : Int) == (k : Int)) = false := by simp; omega
    have HJK := Lib.hid hjk2
    clear hjk2
    go_wp2
    go_roundg (k + 1 - (j + 1))
    case measure => omega
    case rel =>
      have hjk3 : j + 1 ≤ k := by have := HJK.out; omega
      exact ⟨j + 1, q + 2 + nl + lb, by omega, hjk3, by go_num, by have := HA.out; have := HA5.out; go_num, by omega, Lib.hid ⟨HB5.out, HSTP.out.symm⟩⟩
end
section
open Go.RowKit Go.Shelf
attribute [local go_sem] Oper.semAt_some
theorem offL_lt' (l:List LS):∀x∈offL l 0,x<linL l:=fun x hx=>by have:=offL_lt l 0 x hx;omega
set_option maxRecDepth 100000 in
set_option maxHeartbeats 8000000 in
theorem line9_any (p:LP) (ho:OdP p) (av fv:Value) (w:World) (B0:Nat→Prop) (hx:PX B0 w av fv p) (fn st:Int) (hfn:InI fn) (hst:InI st):
  CR 9 #[.agg #[av,fv],I fn,I st] w (I (lineP p fn st)):=by
  obtain ⟨B, hB⟩ : ∃ B : Nat → Prop, B = fun b => B0 b ∧ b < w.heap.size := ⟨_, rfl⟩
  have hx := hx.size
  rw [← hB] at hx
  have hBl : ∀ b, B b → b < w.heap.size := fun b hb => by rw [hB] at hb; exact hb.2
  clear hB
  obtain ⟨L, hL⟩ : ∃ L, L = lineP p fn st := ⟨_, rfl⟩
  rw [← hL]
  obtain ⟨aa, ac, fa, fc, rfl, rfl⟩ := hx.slice
  obtain ⟨NA, hNA⟩ : ∃ n, n = p.arrays.length := ⟨_, rfl⟩
  obtain ⟨NF, hNF⟩ : ∃ n, n = p.funcs.length := ⟨_, rfl⟩
  have hfew := ho.few
  rw [← hNA, ← hNF] at hfew
  obtain ⟨Q, hQ⟩ : ∃ Q, Q = bP (okP p) := ⟨_, rfl⟩
  have hRT : ∀ W, PX B W (.slice aa NA ac) (.slice fa NF fc) p → CR 20 #[.agg #[.slice aa NA ac, .slice fa NF fc]] W (.bool Q) := fun W h => by rw [hQ]; exact right54_any p ho.ascs ho.shrts _ _ W B h
  rw [← hNA, ← hNF] at hx ⊢
  obtain ⟨w1, hw1⟩ : ∃ w1, w1 = w.alloc (.cells #[.slice aa NA ac, .slice fa NF fc] 27) := ⟨_, rfl⟩
  have hwe := hw1.symm
  have HB1 := Lib.hid (show Below w.heap.size w w1 by rw [hw1]; exact below_a1 _ _)
  have HR1 := Lib.hid (show Row w1 w.heap.size 27 [.slice aa NA ac, .slice fa NF fc] by rw [hw1]; exact heap_new _ _)
  have HX := Lib.hid hx
  have HX1 := Lib.hid (hx.grown (below_grown HB1.out none) (fun r e => by cases e))
  have HRT := Lib.hid hRT
  have HO := Lib.hid ho
  have HQ := Lib.hid hQ
  have HL := Lib.hid hL
  have HNA := Lib.hid hNA
  have HNF := Lib.hid hNF
  have HBL := Lib.hid hBl
  have HST := Lib.hid hst
  have i0 := HR1.out.k0
  have i1 := HR1.out.k1
  unfold InI at hfn
  clear hx hRT ho hQ hL hNA hNF hBl hw1 hst
  cases Q with
  | false =>
    obtain rfl : L = 1 := by rw [HL.out]; exact lineP_no p fn st (.inl HQ.out.symm)
    go_enter Tryz.func9, Tryz.ntmps9
    go_wp2_with (first
      | (go_at_call 20; refine (HRT.out w1 HX1.out).mono ?_; rintro e' w2 ⟨rfl, hb2⟩; have HB2 := Lib.hid (HB1.out.trans (hb2.mono HB1.out.size)); have HR2 := Lib.hid (HR1.out.ext hb2); have j0 := HR2.out.k0; have j1 := HR2.out.k1; clear hb2 i0 i1))
    go_ret
    exact ⟨rfl, HB2.out⟩
  | true =>
  by_cases hf0 : fn < 0
  case pos =>
    obtain rfl : L = 1 := by rw [HL.out]; exact lineP_no p fn st (.inr (.inl hf0))
    go_enter Tryz.func9, Tryz.ntmps9
    go_wp2_with (first
      | (go_at_call 20; refine (HRT.out w1 HX1.out).mono ?_; rintro e' w2 ⟨rfl, hb2⟩; have HB2 := Lib.hid (HB1.out.trans (hb2.mono HB1.out.size)); have HR2 := Lib.hid (HR1.out.ext hb2); have j0 := HR2.out.k0; have j1 := HR2.out.k1; clear hb2 i0 i1))
    go_ret
    exact ⟨rfl, HB2.out⟩
  by_cases hf1 : (NF : Int) ≤ fn
  case pos =>
    obtain rfl : L = 1 := by rw [HL.out]; exact lineP_no p fn st (.inr (.inr (by rw [← HNF.out]; exact hf1)))
    go_enter Tryz.func9, Tryz.ntmps9
    go_wp2_with (first
      | (go_at_call 20; refine (HRT.out w1 HX1.out).mono ?_; rintro e' w2 ⟨rfl, hb2⟩; have HB2 := Lib.hid (HB1.out.trans (hb2.mono HB1.out.size)); have HR2 := Lib.hid (HR1.out.ext hb2); have j0 := HR2.out.k0; have j1 := HR2.out.k1; clear hb2 i0 i1))
    go_ret
    exact ⟨rfl, HB2.out⟩
  obtain ⟨k, rfl⟩ : ∃ k : Nat, fn = k := ⟨fn.toNat, by omega⟩
  have hkN : k < NF := by omega
  have hkF : k < p.funcs.length := by rw [← HNF.out]; exact hkN
  have HOK := Lib.hid (bP_iff.1 HQ.out.symm)
  have HLY := Lib.hid (HL.out.trans (lineP_yes p k st HQ.out.symm hkF))
  go_enter Tryz.func9, Tryz.ntmps9
  have hNFb : NF ≤ 1000 := by omega
  have HNAb : NA ≤ 1000 := by omega
  go_wp2_with (first
      | (go_at_call 20; refine (HRT.out w1 HX1.out).mono ?_; rintro e' w2 ⟨rfl, hb2⟩; have HB2 := Lib.hid (HB1.out.trans (hb2.mono HB1.out.size)); have HR2 := Lib.hid (HR1.out.ext hb2); have j0 := HR2.out.k0; have j1 := HR2.out.k1; clear hb2 i0 i1))
  generalize decide (NF ≤ k) = q1
  generalize decide ((k : Int) < 0) = q2
  go_loopg [8, 9] k (fun gh ln i wr => ∃ (j q : Nat), gh + j = k ∧ i = I j ∧ ln = I q ∧ q ≤ 20300000 ∧ Hid (Below w.heap.size w wr ∧ q = hdr p j ∧ Row wr w.heap.size 27 [.slice aa NA ac, .slice fa NF fc]))
  case atStart => exact ⟨0, 1 + NA, by omega, rfl, by go_num, by omega, Lib.hid ⟨HB2.out, by unfold hdr; rw [List.take_zero, ← HNA.out]; rfl, HR2.out⟩⟩
  case round =>
    obtain ⟨j, q, hg, rfl, rfl, hqb, HH⟩ := hrel
    clear j0 j1
    obtain ⟨wo, rfl⟩ : ∃ wo, wo = wr := ⟨_, rfl⟩
    have hjF : j < p.funcs.length := by rw [← HNF.out]; omega
    have hxo : PX B wo (.slice aa NA ac) (.slice fa NF fc) p := HX.out.grown (below_grown HH.out.1 none) (fun r e => by cases e)
    obtain ⟨b, o, C, hba, hBb, hC, hrx⟩ := hxo.funcs.at hjF
    obtain rfl := hba
    have hof := HO.out.funcs _ (List.getElem_mem hjF)
    have hkf := HOK.out.funcs _ (List.getElem_mem hjF)
    have hst := hdr_step p j hjF
    have hle := hdr_le HO.out HOK.out (j + 1)
    have HLZ := Lib.hid (show j = k → L = fnd (offL p.funcs[j].body (hdr p j + 1 + p.funcs[j].locals.length)) 0 st (hdr p j) from fun e => by subst e; exact HLY.out)
    obtain ⟨x, hxk⟩ : ∃ x, x = p.funcs[j] := ⟨_, rfl⟩
    rw [← hxk] at hrx hof hkf hst HLZ
    obtain ⟨pa, np, pc, la, lc, ba, bc, h0, h1, h2, h3, hln, hsx⟩ := hrx.vals
    have hbt := body_tot hof hkf
    have hbf := body_fine hkf
    have hll := linL_le x.body
    have e2 := hC 2 (by omega)
    have e3 := hC 3 (by omega)
    rw [h2] at e2
    rw [h3] at e3
    obtain ⟨nl, hnl⟩ : ∃ n, n = x.locals.length := ⟨_, rfl⟩
    obtain ⟨nb, hnb⟩ : ∃ n, n = x.body.length := ⟨_, rfl⟩
    obtain ⟨lb, hlb⟩ : ∃ n, n = linL x.body := ⟨_, rfl⟩
    rw [← hnl] at e2 hln HLZ
    rw [← hnb] at e3 hsx
    rw [← hlb] at hll
    have hst : hdr p (j + 1) = q + 2 + nl + lb := by rw [hst, ← HH.out.2.1, hnl, hlb]; unfold lnF; omega
    rw [hst] at hle
    rw [← HH.out.2.1, fnd_plc] at HLZ
    have hle : q + 2 + nl + lb ≤ 20300000 := hle
    have HSX := Lib.hid hsx
    have HBT := Lib.hid hbt
    have HBF := Lib.hid hbf
    have HLB := Lib.hid hlb
    have HSTP := Lib.hid hst
    have HE2 := Lib.hid e2
    have HE3 := Lib.hid e3
    have HRW := Lib.hid HH.out.2.2
    have HLL := Lib.hid hll
    clear hC hrx h0 h1 h2 h3 hsx hbt hbf hnl hnb hlb hst hof hkf hxo hxk hBb e2 e3 hll
    by_cases hlt : j < k
    case pos =>
      have hltz : (j : Int) < (k : Int) := by omega
      go_upto_region 8 with (fail)
      have hcl : ∀ W, SX B W (.slice ba nb bc) x.body → CR 21 #[.slice ba nb bc] W (I (lb : Int)) := fun W h => by
        rw [HLB.out]
        exact lines21_any x.body _ W B h HBF.out (by have := HBT.out; omega)
      have HCL := Lib.hid hcl
      have hwr : IntKind.i64.wrap ((q : Int) + 2 + (nl : Int)) = (q : Int) + 2 + nl := wrap_small _ (by omega) (by omega)
      have hwr2 : IntKind.i64.wrap ((q : Int) + 2 + (nl : Int) + (lb : Int)) = (q : Int) + 2 + nl + lb := wrap_small _ (by omega) (by omega)
      have hwr0 : IntKind.i64.wrap ((q : Int) + 2) = (q : Int) + 2 := wrap_small _ (by omega) (by omega)
      have hjN : j < NF := by omega
      have hjN2 : (j : Int) < (NF : Int) := by omega
      clear hcl
      refine rW0 (fun X => X.cell? ⟨w.heap.size, 1, none⟩ = some (.slice (some ⟨b, o, none⟩) NF fc) ∧ X.cell? ⟨b, o + j * 4 + 2, none⟩ = some (.slice la nl lc) ∧ X.cell? ⟨b, o + j * 4 + 3, none⟩ = some (.slice ba nb bc)) [0, 0, 0, 0, 0, 0, 0, 0, 0, 0, 0, 0, 0, 0, 0, 0, 1, 0, 0] (fun wd hh => ⟨row_at HRW.out hh 1, cu0 hh HE2, cu0 hh HE3⟩) fun wd hh hgd hS => ?_
      have HBD := Lib.hid (HH.out.1.grown hgd HH.out.1.size (fun r e => by cases e))
      have HRD := Lib.hid (HRW.out.kept hgd (by simp))
      have HXD := Lib.hid (HSX.out.grown hgd (fun r e => by cases e))
      have he2 := cu0 hh HE2
      have he3 := cu0 hh HE3
      have HD2 := Lib.hid he2
      have HD3 := Lib.hid he3
      clear hh hgd he2 he3
      refine lkQ ?_
      go_wp2_with (go_at_call 21; refine (HCL.out wd HXD.out).mono ?_; rintro e' w5 ⟨rfl, hb5⟩; have HB5 := Lib.hid hb5; clear hb5 hS)
      refine QN_keep ⟨(HRD.out.ext HB5.out).k1, bcell HB5.out HD2.out, bcell HB5.out HD3.out⟩ fun hS => ?_
      refine lkM ?_
      clear hS
      have HR5 := Lib.hid (HRD.out.ext HB5.out)
      have HB6 := Lib.hid (HBD.out.trans (HB5.out.mono HBD.out.size))
      go_wp2
      go_roundg (k - (j + 1))
      case measure => omega
      case rel => exact ⟨j + 1, q + 2 + nl + lb, by omega, by go_num, by go_num, by omega, Lib.hid ⟨HB6.out, HSTP.out.symm, HR5.out⟩⟩
    case neg =>
      have hltz : ¬ (j : Int) < (k : Int) := by omega
      obtain rfl : j = k := by omega
      have HLW := Lib.hid (HLZ.out rfl)
      have hjN : j < NF := hkN
      have hjN2 : (j : Int) < (NF : Int) := by omega
      clear HLZ HLY
      by_cases hs0 : st < 0
      case pos =>
        have hLq : L = (q : Int) := by
          rw [HLW.out, if_pos ((plc_neg _ _).2 (fun h => by omega))]
        have HLq := Lib.hid hLq
        clear hLq
        go_wp2
        go_ret
        exact ⟨by rw [HLq.out]; try rfl, HH.out.1⟩
      have hpl : CR 22 #[.slice ba nb bc, I st] wo (I (plc (offL x.body 0) st)) :=
        place22_any x.body _ wo B st HSX.out HBF.out (by have := HBT.out; omega) ⟨by omega, HST.out.2⟩
      obtain ⟨P, hP⟩ : ∃ P, P = plc (offL x.body 0) st := ⟨_, rfl⟩
      have hPb : -1000001 ≤ P ∧ P < 20300000 := by
        have h1 := plc_lt (k := st) (offL_lt' x.body)
        rw [← hP] at h1
        have h2 := offL_le x.body
        have h3 := HBT.out
        have h4 := HLL.out
        have h5 := HLB.out
        rcases h1 with h1 | h1
        · refine ⟨?_, by omega⟩
          rw [hP]
          unfold plc
          split
          · omega
          · omega
        · omega
      rw [← hP] at hpl
      have HPL := Lib.hid hpl
      have HP := Lib.hid hP
      have j1 := HRW.out.k1
      have e2 := HE2.out
      have e3 := HE3.out
      clear hpl hP
      by_cases hp0 : P < 0
      case pos =>
        have hLq : L = (q : Int) := by
          rw [HLW.out, if_pos (by rw [← HP.out]; exact hp0)]
        have HLq := Lib.hid hLq
        clear hLq
        go_wp2_with (go_at_call 22; refine HPL.out.mono ?_; rintro e' w5 ⟨rfl, hb5⟩; have HB5 := Lib.hid (HH.out.1.trans (hb5.mono HH.out.1.size)); clear hb5)
        go_ret
        exact ⟨by rw [HLq.out]; try rfl, HB5.out⟩
      have hLq : L = (q : Int) + 1 + nl + P := by
        rw [HLW.out, if_neg (by rw [← HP.out]; exact hp0), ← HP.out]
        omega
      have HLq := Lib.hid hLq
      have hwr : IntKind.i64.wrap ((q : Int) + 1 + (nl : Int)) = (q : Int) + 1 + nl := wrap_small _ (by omega) (by omega)
      have hwr2 : IntKind.i64.wrap ((q : Int) + 1 + (nl : Int) + P) = (q : Int) + 1 + nl + P := wrap_small _ (by omega) (by omega)
      clear hLq
      go_wp2_with (go_at_call 22; refine HPL.out.mono ?_; rintro e' w5 ⟨rfl, hb5⟩; have HB5 := Lib.hid (HH.out.1.trans (hb5.mono HH.out.1.size)); have i1 := (HRW.out.ext hb5).k1; have f2 := bcell hb5 HE2.out; clear hb5 j1 e2 e3)
      go_ret
      exact ⟨by rw [HLq.out]; try rfl, HB5.out⟩
end
section
open Go.RowKit Go.Shelf
attribute [local go_sem] Oper.semAt_some
def LineL (W:World) (av fv:Value) (p:LP):Prop:=∀W',Below W.heap.size W W'→∀fn st:Int,InI fn→InI st→CR 8 #[.agg #[av,fv],I fn,I st] W' (I (lineP p fn st))∧CR 9 #[.agg #[av,fv],I fn,I st] W' (I (lineP p fn st))
theorem lineL_of {W:World} {av fv:Value} {p:LP} {B:Nat→Prop} (ho:OdP p) (hc:CapF fv) (hx:PX B W av fv p):LineL W av fv p:=fun W' hb fn st h1 h2=>
 ⟨line8_any p ho av fv W' B (hx.below hb) hc fn st h1 h2,line9_any p ho av fv W' B (hx.below hb) fn st h1 h2⟩
theorem LineL.below {W W':World} {av fv:Value} {p:LP} (h:LineL W av fv p) (hb:Below W.heap.size W W'):LineL W' av fv p:=fun W2 h2=>h W2 (hb.trans (h2.mono hb.size))
set_option maxRecDepth 100000 in
set_option maxHeartbeats 8000000 in
theorem lines3_any (W:World) (wv rv:Value) (wl rl:List Int) (hw:RInts W wv wl) (hwc:∃a c,wv= .slice a wl.length c∧wl.length≤c) (hr:RInts W rv rl) (hrc:∃a c,rv= .slice a rl.length c∧rl.length≤c) (free:Bool) (fn st:Int) (hfn:InI fn) (hst:InI st)
  (hA:Calls Tryz.prog 4 #[] W fun e W'=>e= .returned (.bool true)∧Below W.heap.size W W'):
  Calls Tryz.prog 3 #[wv,rv,.bool free,I fn,I st] W fun e W'=>e= .returned (.bool true)∧Below W.heap.size W W':=by
  have HW := Lib.hid hw
  have HWC := Lib.hid hwc
  have HR := Lib.hid hr
  have HRC := Lib.hid hrc
  have HA := Lib.hid hA
  have HFN := Lib.hid hfn
  have HST := Lib.hid hst
  clear hw hwc hr hrc hA hfn hst
  go_enter Tryz.func3, Tryz.ntmps3
  go_upto_region 2 with (go_at_call 4; refine HA.out.mono ?_; rintro e' w1 ⟨rfl, hb1⟩)
  have HB1 := Lib.hid hb1
  clear hb1
  go_upto_region 3 with (first
    | (go_at_call 5; refine (wild12_any w1 wv wl (HW.out.below HB1.out) HWC.out).mono ?_; rintro e' w2 ⟨av, fv, p, rfl, hod, hcap, hpx, hb2⟩; obtain ⟨aa, ac, fa, fc, rfl, rfl⟩ := hpx.slice; have HL2 := Lib.hid (lineL_of hod hcap hpx); obtain ⟨na, hna⟩ : ∃ n, n = p.arrays.length := ⟨_, rfl⟩; obtain ⟨nf, hnf⟩ : ∃ n, n = p.funcs.length := ⟨_, rfl⟩; rw [← hna, ← hnf] at HL2; rw [← hna, ← hnf]; have HB2 := Lib.hid (HB1.out.trans (hb2.mono HB1.out.size)); clear hod hcap hpx hb2 hna hnf)
    | (refine sr 27 (.tmp 12) (.tmp 18) w2 #[.slice none 0 0, .slice none 0 0] hn0 ?_; rw [World.setRow_alloc_new]))
  obtain ⟨w3, hw3⟩ : ∃ w3, w3 = w2.alloc (.cells #[.slice aa na ac, .slice fa nf fc] 27) := ⟨_, rfl⟩
  rw [← hw3]
  have HR3 := Lib.hid (show Row w3 w2.heap.size 27 [.slice aa na ac, .slice fa nf fc] by rw [hw3]; exact heap_new _ _)
  have hb3 : Below w2.heap.size w2 w3 := by rw [hw3]; exact below_a1 _ _
  have HL3 := Lib.hid (HL2.out.below hb3)
  have HB3 := Lib.hid (HB2.out.trans (hb3.mono HB2.out.size))
  obtain ⟨pb, hpb⟩ : ∃ b, b = w2.heap.size := ⟨_, rfl⟩
  rw [← hpb] at HR3 ⊢
  clear hw3 hb3 hpb
  go_upto_region 4 with (first
    | (go_at_call 6; refine (prog14W_px free w3 rv rl (HR.out.below HB3.out) HRC.out).mono ?_; rintro e' w4 ⟨av, fv, ars, fs, rfl, hraw, hcap, hpx, hb4⟩; have hod := hraw.od; obtain ⟨aa2, ac2, fa2, fc2, rfl, rfl⟩ := hpx.slice; have HL4 := Lib.hid (lineL_of hod hcap hpx); obtain ⟨P, hP⟩ : ∃ P, P = rawP ars fs := ⟨_, rfl⟩; rw [← hP] at HL4; rw [← hP]; obtain ⟨na2, hna⟩ : ∃ n, n = P.arrays.length := ⟨_, rfl⟩; obtain ⟨nf2, hnf⟩ : ∃ n, n = P.funcs.length := ⟨_, rfl⟩; rw [← hna, ← hnf] at HL4; rw [← hna, ← hnf]; have HB4 := Lib.hid hb4; clear hod hcap hpx hb4 hraw hna hnf hP)
    | (refine sr 27 (.tmp 13) (.tmp 21) w4 #[.slice none 0 0, .slice none 0 0] hn0 ?_; rw [World.setRow_alloc_new]))
  obtain ⟨w5, hw5⟩ : ∃ w5, w5 = w4.alloc (.cells #[.slice aa2 na2 ac2, .slice fa2 nf2 fc2] 27) := ⟨_, rfl⟩
  rw [← hw5]
  have HR5 := Lib.hid (show Row w5 w4.heap.size 27 [.slice aa2 na2 ac2, .slice fa2 nf2 fc2] by rw [hw5]; exact heap_new _ _)
  have hb5 : Below w4.heap.size w4 w5 := by rw [hw5]; exact below_a1 _ _
  have HL5 := Lib.hid (HL4.out.below hb5)
  have hb35 : Below w3.heap.size w3 w5 := HB4.out.trans (hb5.mono HB4.out.size)
  have HL35 := Lib.hid (HL3.out.below hb35)
  have HR35 := Lib.hid (HR3.out.ext hb35)
  have HBW := Lib.hid (HB3.out.trans (hb35.mono HB3.out.size))
  obtain ⟨xb, hxb⟩ : ∃ b, b = w4.heap.size := ⟨_, rfl⟩
  rw [← hxb] at HR5 ⊢
  clear hw5 hb5 hxb hb35
  have hq1 := pickI_nonneg fn 5 (by omega)
  have hq2 := pickI_nonneg st 60 (by omega)
  obtain ⟨f1, hf1⟩ : ∃ f, f = pickI fn 5 := ⟨_, rfl⟩
  obtain ⟨s1, hs1⟩ : ∃ s, s = pickI st 60 := ⟨_, rfl⟩
  have HPF := Lib.hid (fun W => hf1 ▸ pick15_any fn 5 HFN.out (by omega) (by omega) W)
  have HPS := Lib.hid (fun W => hs1 ▸ pick15_any st 60 HST.out (by omega) (by omega) W)
  rw [← hf1] at hq1
  rw [← hs1] at hq2
  clear hf1 hs1
  go_upto_region 5 with (go_at_call 7; refine mr0 (HPF.out _) ?_)
  go_upto_region 6 with (go_at_call 7; refine mr0 (HPS.out _) ?_)
  have hI1 : InI (f1 - 1) := by unfold InI; omega
  have hI2 : InI (s1 - 1) := by unfold InI; omega
  have HI1 := Lib.hid hI1
  have HI2 := Lib.hid hI2
  clear hI1 hI2 HPF HPS
  obtain ⟨A1, hA1⟩ : ∃ A, A = lineP p fn st := ⟨_, rfl⟩
  obtain ⟨A2, hA2⟩ : ∃ A, A = lineP P (f1 - 1) (s1 - 1) := ⟨_, rfl⟩
  obtain ⟨A3, hA3⟩ : ∃ A, A = lineP P fn st := ⟨_, rfl⟩
  have HC1 := Lib.hid (fun W hb => (hA1 ▸ HL35.out W hb fn st HFN.out HST.out : CR 8 _ W (I A1) ∧ CR 9 _ W (I A1)))
  have HC2 := Lib.hid (fun W hb => (hA2 ▸ HL5.out W hb (f1 - 1) (s1 - 1) HI1.out HI2.out : CR 8 _ W (I A2) ∧ CR 9 _ W (I A2)))
  have HC3 := Lib.hid (fun W hb => (hA3 ▸ HL5.out W hb fn st HFN.out HST.out : CR 8 _ W (I A3) ∧ CR 9 _ W (I A3)))
  clear hA1 hA2 hA3
  refine rX0 (fun X => X.cell? ⟨pb, 0, none⟩ = some (.slice aa na ac) ∧ X.cell? ⟨pb, 1, none⟩ = some (.slice fa nf fc) ∧ X.cell? ⟨xb, 0, none⟩ = some (.slice aa2 na2 ac2) ∧ X.cell? ⟨xb, 1, none⟩ = some (.slice fa2 nf2 fc2)) [(0,0),(0,1),(0,2),(0,3),(0,4),(0,6),(0,7),(0,8),(1,5),(1,9),(0,10),(0,11),(0,12),(0,13),(0,14),(0,15),(0,17),(0,18),(0,19),(1,16),(1,20),(0,21),(0,22),(0,23),(0,24),(0,25),(0,26),(0,28),(0,29),(0,30),(1,27),(1,31),(0,32),(0,33),(0,34)] (fun wd hh => ⟨row_at HR35.out hh 0, row_at HR35.out hh 1, row_at HR5.out hh 0, row_at HR5.out hh 1⟩) fun wd hh hgd hS => ?_
  have HBD := Lib.hid (show Below w5.heap.size w5 wd from (Below.refl _ _).grown hgd (Nat.le_refl _) (fun r e => by cases e))
  clear hh hgd
  have HKEEP := Lib.hid (fun X (hb : Below w5.heap.size w5 X) => (⟨(HR35.out.ext hb).k0, (HR35.out.ext hb).k1, (HR5.out.ext hb).k0, (HR5.out.ext hb).k1⟩ : X.cell? ⟨pb, 0, none⟩ = some (.slice aa na ac) ∧ X.cell? ⟨pb, 1, none⟩ = some (.slice fa nf fc) ∧ X.cell? ⟨xb, 0, none⟩ = some (.slice aa2 na2 ac2) ∧ X.cell? ⟨xb, 1, none⟩ = some (.slice fa2 nf2 fc2)))
  clear HR35 HR5 HL2 HL3 HL4 HL5 HL35 HR3 HB2 HB3 HB4
  refine lkO ?_
  refine lkA ?_
  refine wpOrd_turn ?_
  go_wp2_with (go_at_call 8; refine ((HC1.out wd HBD.out).1).mono ?_; rintro e' w6 ⟨rfl, hb⟩; have HB6 := Lib.hid (HBD.out.trans (hb.mono HBD.out.size)); clear hb hS)
  refine QN_keep (HKEEP.out w6 HB6.out) fun hS => ?_
  refine wpOrd_turn ?_
  go_wp2_with (go_at_call 9; refine ((HC1.out w6 HB6.out).2).mono ?_; rintro e' w7 ⟨rfl, hb⟩; have HB7 := Lib.hid (HB6.out.trans (hb.mono HB6.out.size)); clear hb hS)
  refine QN_keep (HKEEP.out w7 HB7.out) fun hS => ?_
  refine lkA ?_
  refine wpOrd_turn ?_
  go_wp2_with (go_at_call 8; refine ((HC2.out w7 HB7.out).1).mono ?_; rintro e' w8 ⟨rfl, hb⟩; have HB8 := Lib.hid (HB7.out.trans (hb.mono HB7.out.size)); clear hb hS)
  refine QN_keep (HKEEP.out w8 HB8.out) fun hS => ?_
  refine wpOrd_turn ?_
  go_wp2_with (go_at_call 9; refine ((HC2.out w8 HB8.out).2).mono ?_; rintro e' w9 ⟨rfl, hb⟩; have HB9 := Lib.hid (HB8.out.trans (hb.mono HB8.out.size)); clear hb hS)
  refine QN_keep (HKEEP.out w9 HB9.out) fun hS => ?_
  refine lkA ?_
  refine wpOrd_turn ?_
  go_wp2_with (go_at_call 8; refine ((HC3.out w9 HB9.out).1).mono ?_; rintro e' w10 ⟨rfl, hb⟩; have HB10 := Lib.hid (HB9.out.trans (hb.mono HB9.out.size)); clear hb hS)
  refine QN_keep (HKEEP.out w10 HB10.out) fun hS => ?_
  refine wpOrd_turn ?_
  go_wp2_with (go_at_call 9; refine ((HC3.out w10 HB10.out).2).mono ?_; rintro e' w11 ⟨rfl, hb⟩; have HB11 := Lib.hid (HB10.out.trans (hb.mono HB10.out.size)); clear hb hS)
  refine QN_keep (HKEEP.out w11 HB11.out) fun hS => ?_
  refine lkM ?_
  clear hS
  go_wp2
  go_ret
  exact ⟨rfl, HBW.out.trans (HB11.out.mono HBW.out.size)⟩
end
section
open Go.RowKit Go.Deep
section
variable {H:Type} {enc:TypeId×Value→H} {P:Program} {w:World} {sp:Nat→Bool} {held:Bool}
def Sized (P:Program) (t:TypeId) (d:DataW H):Prop:=∀n∈d.weights P t,n≤reachBytes
theorem weightsAll_mem {e:TypeId}:∀{l:List (DataW H)} {d:DataW H},d∈l→∀n∈d.weights P e,n∈DataW.weightsAll P e l
 |x::l,d,h,n,hn=>by
  simp only[DataW.weightsAll,List.mem_append]
  rcases List.mem_cons.1 h with rfl|h
  ·exact .inl hn
  ·exact .inr (weightsAll_mem h n hn)
theorem Sized.of_all {ts:List TypeId} {ds:List (DataW H)} (h:(DataW.weightsEach P ts ds).all (·≤reachBytes)=true) {j:Nat} {t:TypeId} {d:DataW H} (ht:ts[j]? =some t) (hd:ds[j]? =some d):Sized P t d:=fun n hn=>by
 have:=List.all_eq_true.1 h n (DataW.weights_mem_each ht hd n hn)
 simpa using this
theorem RSl.of_trod {α:Type} {k:Nat} (hk0:0<k) {R:World→(Nat→Value)→α→Prop} {t e:TypeId} (ht:P.underlying t=some (.slice e)) (hk:P.cellsOf e=k) (hb:0<P.bytesOf e)
  (hel:∀n cs d ps,cs.length=k→DataW.trod enc P w 0 sp held n e cs=some (d,ps)→Sized P e d→∃a:α,R w (fun j=>cs.getD j undef) a)
  {fuel:Nat} {v:Value} {d:DataW H} {ps:List MemPlace} (h:DataW.trod enc P w 0 sp held fuel t [v]=some (d,ps)) (hs:Sized P t d):∃l:List α,RSl k R w v l:=by
 rcases open_slice ht h with⟨hv,_⟩|⟨a,len,cap,m,n,D,Pl,hv,_,hlc,hcap,hm,hx,hc⟩
 ·simp only[List.cons.injEq,and_true]at hv;subst hv;exact⟨[],none,0,rfl,sm0, .inl rfl⟩
 ·simp only[List.cons.injEq,and_true]at hv;subst hv;simp only[Prod.mk.injEq]at hx;obtain⟨rfl,rfl⟩:=hx;have hlm:len≤m:=by rw[hm];split<;>omega
  have hlen:len≤140737488351232:=by
   have h1:=hs _ (by simp only[DataW.weights,ht];exact List.mem_cons_self);simp only[List.length_map,List.length_range]at h1;have:len+(m - len)≤(len+(m - len))*P.bytesOf e:=Nat.le_mul_of_pos_right _ hb;unfold reachBytes at h1;omega
  have hone:∀i,i<len→∃a':α,∃C:Nat→Value,(∀j,j<k→w.cell? ((a.add (i*k)).add j)=some (C j))∧R w C a':=fun i hi=>by
   obtain⟨cs,h1,h2⟩:=hc i om0;rw[hk]at h1;obtain⟨_,hl,hcell⟩:=World.cells?_some h1;have hsz:Sized P e (D i):=fun q hq=>hs q (by
    simp only[DataW.weights,ht,List.mem_cons,List.mem_append];exact .inr (.inl (weightsAll_mem (List.mem_map.2 ⟨i,List.mem_range.2 hi,rfl⟩) q hq)))
   obtain⟨a',ha'⟩:=hel n cs _ _ hl h2 hsz;refine⟨a',_,fun j hj=> ?_,ha'⟩;rw[hcell j hj];simp [List.getD,List.getElem?_eq_getElem (show j<cs.length by omega)]
  by_cases h0:len=0
  ·subst h0;exact⟨[],some a,cap,rfl,sm0, .inl rfl⟩
  ·obtain⟨a0,C0,_⟩:=hone 0 om0
   classical
   haveI:Inhabited α:=⟨a0⟩
   obtain⟨f,hf⟩:=choose_lt (α:=α) (n:=len) (p:=fun i a'=>∃C:Nat→Value,(∀j,j<k→w.cell? ((a.add (i*k)).add j)=some (C j))∧R w C a') hone;refine⟨(List.range len).map f,some a,cap,sm0,by simpa using hlen, ?_⟩
   ·obtain⟨C,hC,_⟩:=hf 0 om0;have hsp:=World.cell?_spot (hC 0 hk0);have hsa:a.spot=none:=by simpa [Addr.add]using hsp
    obtain⟨b,o,s⟩:=a;simp only at hsa;subst hsa;refine .inr ⟨b,o,rfl,fun i x hx=> ?_⟩;rw[List.getElem?_map]at hx;by_cases hi:i<len
    ·rw[List.getElem?_range hi]at hx;simp at hx;subst hx;obtain⟨C,hC,hr⟩:=hf i hi;refine⟨C,fun j hj=> ?_,hr⟩;have:=hC j hj;rw[add_nat,add_nat]at this;exact this
    ·rw[List.getElem?_eq_none (by simpa using hi)]at hx;cases hx
end
end
end Go.Proofs.YtngglbakkedaiaaGreatDoor
