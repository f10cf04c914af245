import Derived.Test.YtjgbkdbkachciaaGreatDoorY0
import Derived.Carry
namespace Go.Proofs.YtjgbkdbkachciaaGreatDoor
open Go.RowKit Go.Shelf
attribute [local go_sem] Oper.semAt_some

/-- statements, walked -/
def BlockC (c : RunC) (R : Nat) (st : Nat → CSt → LS → ESt → Res (Int × CSt)) : Prop :=
  ∀ (F : Nat → Prop) (W : World) (d : Nat) (s : ESt) (k : CSt) (cb mb : Nat) (l : List LS) (v : Value), CSat c F W d k s cb mb → SX c.G W v l → (∀ x ∈ l, YS c.p x) → 2 * left c.most s + 1 ≤ R →
    Calls Tryz.prog 92 #[.pointer (some ⟨cb, 0, none⟩), v] W (RunH c F cb mb W d (blockM (st d) l k s))
theorem VarsAt.none {w : World} {b : Nat} {cl : Nat} (h : w.heap[b]? = some (.map #[] cl)) : VarsAt w b (fun _ => 0) :=
  ⟨#[], cl, [], h, rfl, rfl, List.nodup_nil, fun _ _ => rfl⟩
theorem Row.of_below {_W w w' : World} {_base : Nat} {g : Nat} {t : TypeId} {cs : List Value} {r : Nat} (h : Row w g t cs) (hg : w.grownBy w' (some r)) (hr : g ≠ r) : Row w' g t cs := h.kept hg (by simpa using hr)

def valR : Res (Int × CSt) → Res Int
  | .stop a b s => .stop a b s
  | .ok q s => .ok q.2.value s
theorem callF_val (st : Nat → CSt → LS → ESt → Res (Int × CSt)) (d : Nat) (f : LF) (args : List Int) (s : ESt) : callF st d f args s = valR (blockM (st (d + 1)) f.body ⟨vars0 f args, 0⟩ s) := by
  unfold callF
  cases blockM (st (d + 1)) f.body ⟨vars0 f args, 0⟩ s <;> rfl
theorem ER.er_lt {c : RunC} {F : Nat → Prop} {W : World} {d : Nat} {s : ESt} (h : ER c F W d s) {b : Nat} (hb : c.G b) : b < W.heap.size := h.b.lt b (h.b.gf b hb)
set_option maxRecDepth 100000 in
set_option maxHeartbeats 16000000 in
theorem begin_any (c : RunC) (R : Nat) (st : Nat → CSt → LS → ESt → Res (Int × CSt)) (hS : BlockC c R st) : BeginC c R st := by
  intro F W d s f nv pv lv bv av ns h hpv hlv hbv hys hpl hav hR hd
  suffices hsuf : Calls Tryz.prog 53 #[.pointer (some ⟨c.rb, 0, none⟩), .agg #[nv, pv, lv, bv], av] W (fun en w' => Hid (RunI c F W d (callF st d f ns s) en w')) from hsuf.mono fun _ _ h => h.out
  obtain ⟨Q, hQ⟩ : ∃ Q, Q = RunI c F W d (callF st d f ns s) := ⟨_, rfl⟩
  have HQ := Lib.hid hQ
  rw [← hQ]
  obtain ⟨pa, pc, rfl, hpn, -⟩ := id hpv
  obtain ⟨la, lc, rfl, hln, -⟩ := id hlv
  obtain ⟨ba, bc, rfl⟩ := hbv.slice
  obtain ⟨aa, ac, rfl, hnn, -⟩ := id hav
  obtain ⟨iv, ov, hrun⟩ := h.run
  obtain ⟨rb, hrb⟩ : ∃ r, r = c.rb := ⟨_, rfl⟩
  obtain ⟨pn, hpn'⟩ : ∃ k, k = f.params.length := ⟨_, rfl⟩
  obtain ⟨ln, hln'⟩ : ∃ k, k = f.locals.length := ⟨_, rfl⟩
  obtain ⟨bn, hbn'⟩ : ∃ k, k = f.body.length := ⟨_, rfl⟩
  rw [← hrb] at hrun ⊢
  rw [← hpn'] at hpv hpn hpl ⊢
  rw [← hln'] at hlv hln ⊢
  rw [← hbn'] at hbv ⊢
  rw [← hpl] at hav ⊢
  have HH := Lib.hid h
  have HPV := Lib.hid hpv
  have HLV := Lib.hid hlv
  have HBV := Lib.hid hbv
  have HYS := Lib.hid hys
  have HAV := Lib.hid hav
  have HR := Lib.hid hR
  have HD := Lib.hid hd
  have HS := Lib.hid hS
  have HRUN := Lib.hid hrun
  have HRB := Lib.hid hrb
  have HPN := Lib.hid hpn'
  have HLN := Lib.hid hln'
  have HBN := Lib.hid hbn'
  have HPL := Lib.hid hpl
  have hrbs : rb < W.heap.size := hrun.lt
  clear h hpv hlv hbv hys hav hR hd hS hQ hrun hrb hpn' hln' hbn' hpl hnn
  have hmm := @run_makeMap Tryz.prog
  go_enter Tryz.func53, Tryz.ntmps53
  go_upto_region 2 with (fail)
  clear hmm
  obtain ⟨w0, hw0⟩ : ∃ w0, w0 = ((W.alloc (.cells #[nv, .slice pa pn pc, .slice la ln lc, .slice ba bn bc] 52)).alloc (.map #[] 0)).alloc (.cells #[.pointer (some ⟨rb, 0, none⟩), .map (some (W.heap.size + 1)), I 0] 148) := ⟨_, rfl⟩
  have hb0 : Below W.heap.size W w0 := by rw [hw0]; exact ((below_a1 W _).alloc (by simp) _).alloc (by simp; omega) _
  have hf0 : Row w0 W.heap.size 52 [nv, .slice pa pn pc, .slice la ln lc, .slice ba bn bc] := by rw [hw0]; exact heap_old _ _ (heap_old _ _ (heap_new _ _))
  have hm0 : VarsAt w0 (W.heap.size + 1) (fun _ => 0) := VarsAt.none (cl := 0) (by rw [hw0]; exact heap_old _ _ (heap_at (by simp)))
  have hc0 : Row w0 (W.heap.size + 1 + 1) 148 [.pointer (some ⟨rb, 0, none⟩), .map (some (W.heap.size + 1)), I 0] := by rw [hw0]; exact heap_at (by simp)
  rw [← hw0]
  have f1 := hf0.cell 1
  simp only [List.getElem?_cons_succ, List.getElem?_cons_zero] at f1
  have HB0 := Lib.hid hb0
  have HF0 := Lib.hid hf0
  have HM0 := Lib.hid hm0
  have HC0 := Lib.hid hc0
  clear hw0 hb0 hf0 hm0 hc0
  obtain ⟨g0, hg0⟩ : ∃ g : Vars, g = fun _ => 0 := ⟨_, rfl⟩
  rw [← hg0] at HM0
  have HG0 := Lib.hid hg0
  clear hg0
  go_upto_region 3 with (fail)
  go_loopg [19] pn (fun gh i wr => ∃ j : Nat, gh + j = pn ∧ i = I j ∧ Hid (Below W.heap.size W wr ∧ Row wr W.heap.size 52 [nv, .slice pa pn pc, .slice la ln lc, .slice ba bn bc] ∧ Row wr (W.heap.size + 1 + 1) 148 [.pointer (some ⟨rb, 0, none⟩), .map (some (W.heap.size + 1)), I 0] ∧ VarsAt wr (W.heap.size + 1) (((f.params.zip ns).take j).foldl (fun g p => upd g p.1 p.2) g0)))
  case atStart => exact ⟨0, rfl, rfl, Lib.hid ⟨HB0.out, HF0.out, HC0.out, HM0.out⟩⟩
  case round =>
    obtain ⟨j, hg, rfl, HS1⟩ := hrel
    obtain ⟨wo, rfl⟩ : ∃ wo, wo = wr := ⟨_, rfl⟩
    by_cases hlt : j < pn
    · have hltz : (j : Int) < (pn : Int) := by omega
      have hjp : j < f.params.length := by rw [← HPN.out]; exact hlt
      have hjn : j < ns.length := by rw [← HPL.out]; exact hlt
      have hw1 := HS1.out.1
      obtain ⟨b, o, C, rfl, _, hC, hrx⟩ := (HPV.out.below hw1 fun _ _ h => h).at hjp
      have e0 := hC 0 (by omega)
      rw [show C 0 = S f.params[j] from hrx] at e0
      simp only [Nat.mul_one, Nat.add_zero] at e0
      obtain ⟨b', o', C', rfl, _, hC', hrx'⟩ := (HAV.out.below hw1 fun _ _ h => h).at hjn
      have e1 := hC' 0 (by omega)
      rw [show C' 0 = I ns[j] from hrx'] at e1
      simp only [Nat.mul_one, Nat.add_zero] at e1
      obtain ⟨x, hx⟩ : ∃ x, x = f.params[j] := ⟨_, rfl⟩
      obtain ⟨y, hy⟩ : ∃ x, x = ns[j] := ⟨_, rfl⟩
      rw [← hx] at e0
      rw [← hy] at e1
      have htk : (f.params.zip ns).take (j + 1) = (f.params.zip ns).take j ++ [(x, y)] := by
        rw [List.take_succ_eq_append_getElem (by rw [List.length_zip]; omega), List.getElem_zip, ← hx, ← hy]
      have HTK := Lib.hid htk
      have HE1 := Lib.hid e1
      clear hC hrx hC' hrx' hx hy htk e1
      go_upto_region 5 with (fail)
      refine wp_region_ordW (by kernel_rfl) (fun X => X.cell? ⟨W.heap.size + 1 + 1, 1, none⟩ = some (.map (some (W.heap.size + 1))) ∧ X.cell? ⟨b', o' + j, none⟩ = some (I y)) [(0, 0), (0, 1), (0, 2), (0, 3), (0, 4), (0, 5), (0, 6), (0, 7), (0, 8), (2, 9)] (by kernel_rfl) ?hS ?_
      case hS => intro wd hh; exact ⟨row_at HS1.out.2.2.1 hh 1, (cell_heap hh _).trans HE1.out⟩
      intro wd hh hgd hS
      obtain ⟨w2, hrun, hv2, hg2, hsz⟩ := run_put (HS1.out.2.2.2.on (w' := wd) (by rw [hh])) x y
      have hb2 : Below W.heap.size W w2 := (hw1.grown hgd hw1.size (fun r e => by cases e)).grown hg2 (by have := hw1.size; have := hgd.size; omega) (fun r e => by cases e; omega)
      have hf2 := (HS1.out.2.1.kept hgd (by simp)).kept hg2 (by simp)
      have hc2 := (HS1.out.2.2.1.kept hgd (by simp)).kept hg2 (by simp)
      have HB2 := Lib.hid hb2
      have HF2 := Lib.hid hf2
      have HC2 := Lib.hid hc2
      have HV2 := Lib.hid hv2
      clear hh hgd e0 hv2 hg2 hsz hb2 hf2 hc2 hw1 HS1
      simp only [pickOps, List.map_cons, List.map_nil, List.getElem?_cons_zero, List.getElem?_cons_succ, Option.getD_some]
      repeat (first | (refine wpOrd_pass (by rfl) (by assumption) (fun _ _ _ h => h) ?_; simp only [Act.put, List.setIfInBounds_toArray, List.set_cons_zero, List.set_cons_succ]) | (refine wpOrd_look (v := ?_) (by rfl) ?_ (by assumption) (fun _ _ _ h => h) ?_; rotate_left; (· (intro wS hSw; (try dsimp only at hSw); go_simp; (first | done | with_reducible rfl))); simp only [Act.put, List.setIfInBounds_toArray, List.set_cons_zero, List.set_cons_succ]))
      refine wpOrd_last ?_
      go_wp2
      refine QN_normal ?_
      refine wpOrd_nil ?_
      clear hS hrun
      go_wp2
      go_roundg (pn - (j + 1))
      case measure => omega
      case rel => exact ⟨j + 1, by omega, by go_num, Lib.hid ⟨HB2.out, HF2.out, HC2.out, by rw [HTK.out, List.foldl_append]; exact HV2.out⟩⟩
    · have hltz : ¬ (j : Int) < (pn : Int) := by omega
      have hv1 := HS1.out.2.2.2
      rw [List.take_of_length_le (by rw [List.length_zip, ← HPN.out]; omega)] at hv1
      obtain ⟨g1, hg1⟩ : ∃ g : Vars, g = (f.params.zip ns).foldl (fun g p => upd g p.1 p.2) g0 := ⟨_, rfl⟩
      rw [← hg1] at hv1
      have HG1 := Lib.hid hg1
      have HB1 := Lib.hid HS1.out.1
      have hf1 := HS1.out.2.1
      have HC1 := Lib.hid HS1.out.2.2.1
      have HV1 := Lib.hid hv1
      have f2 := hf1.cell 2
      simp only [List.getElem?_cons_succ, List.getElem?_cons_zero] at f2
      have HF1 := Lib.hid hf1
      clear hg1 hv1 hf1 HS1
      go_upto_region 8 with (fail)
      go_loopg [37] ln (fun gh i wr => ∃ j : Nat, gh + j = ln ∧ i = I j ∧ Hid (Below W.heap.size W wr ∧ Row wr W.heap.size 52 [nv, .slice pa pn pc, .slice la ln lc, .slice ba bn bc] ∧ Row wr (W.heap.size + 1 + 1) 148 [.pointer (some ⟨rb, 0, none⟩), .map (some (W.heap.size + 1)), I 0] ∧ VarsAt wr (W.heap.size + 1) ((f.locals.take j).foldl (fun g x => upd g x 0) g1)))
      case atStart => exact ⟨0, rfl, rfl, Lib.hid ⟨HB1.out, HF1.out, HC1.out, HV1.out⟩⟩
      case round =>
        obtain ⟨i, hgi, rfl, HS2⟩ := hrel
        obtain ⟨wq, rfl⟩ : ∃ wo, wo = wr := ⟨_, rfl⟩
        by_cases hlt2 : i < ln
        · have hltz2 : (i : Int) < (ln : Int) := by omega
          have hip : i < f.locals.length := by rw [← HLN.out]; exact hlt2
          have hw1 := HS2.out.1
          obtain ⟨b, o, C, rfl, _, hC, hrx⟩ := (HLV.out.below hw1 fun _ _ h => h).at hip
          have e0 := hC 0 (by omega)
          rw [show C 0 = S f.locals[i] from hrx] at e0
          simp only [Nat.mul_one, Nat.add_zero] at e0
          obtain ⟨x, hx⟩ : ∃ x, x = f.locals[i] := ⟨_, rfl⟩
          rw [← hx] at e0
          have htk : f.locals.take (i + 1) = f.locals.take i ++ [x] := by rw [List.take_succ_eq_append_getElem hip, ← hx]
          have HTK := Lib.hid htk
          have c1 := HS2.out.2.2.1.cell 1
          simp only [List.getElem?_cons_succ, List.getElem?_cons_zero] at c1
          obtain ⟨w2, hrun, hv2, hg2, hsz⟩ := run_put HS2.out.2.2.2 x 0
          have hb2 : Below W.heap.size W w2 := hw1.grown hg2 hw1.size (fun r e => by cases e; omega)
          have hf2 := HS2.out.2.1.kept hg2 (by simp)
          have hc2 := HS2.out.2.2.1.kept hg2 (by simp)
          have HB2 := Lib.hid hb2
          have HF2 := Lib.hid hf2
          have HC2 := Lib.hid hc2
          have HV2 := Lib.hid hv2
          clear hC hrx hx htk hv2 hg2 hsz hb2 hf2 hc2 hw1 HS2
          go_wp2
          go_roundg (ln - (i + 1))
          case measure => omega
          case rel => exact ⟨i + 1, by omega, by go_num, Lib.hid ⟨HB2.out, HF2.out, HC2.out, by rw [HTK.out, List.foldl_append]; exact HV2.out⟩⟩
        · have hltz2 : ¬ (i : Int) < (ln : Int) := by omega
          have hv2 := HS2.out.2.2.2
          rw [List.take_of_length_le (by rw [← HLN.out]; omega)] at hv2
          have hvs : vars0 f ns = f.locals.foldl (fun g x => upd g x 0) g1 := by rw [HG1.out, HG0.out]; rfl
          rw [← hvs] at hv2
          have hb2 := HS2.out.1
          have hf2 := HS2.out.2.1
          have hc2 := HS2.out.2.2.1
          have f3 := hf2.cell 3
          simp only [List.getElem?_cons_succ, List.getElem?_cons_zero] at f3
          have hrw := HRUN.out.ext hb2
          have r4 := hrw.cell 4
          have k4 := hrw.frozen 4
          simp only [List.getElem?_cons_succ, List.getElem?_cons_zero] at r4
          have hgs := setCell_grown wq rb 4 (I (d + 1))
          have he2 : ER c (fun b => F b ∨ (b = W.heap.size + 1 ∨ b = W.heap.size + 1 + 1)) wq d s := HH.out.more hb2 _ (fun b hb => by have := hc2.lt; omega)
          have he3 : ER c (fun b => F b ∨ (b = W.heap.size + 1 ∨ b = W.heap.size + 1 + 1)) (wq.setCell ⟨rb, 4, none⟩ (I (d + 1))) (d + 1) s := by
            obtain ⟨iv2, ov2, k1, k2, k3, k4⟩ := he2.st
            rw [HRB.out] at hgs ⊢
            exact he2.turn hgs rfl ⟨he2.small.1, he2.small.2.1, by have := HD.out; omega⟩ iv2 (k1.set 4 (I (d + 1))) (RIn.rb he2.b hgs k2) (OwnInts.rb hgs k1 k3) k4
          have hgl : ∀ b, c.G b → b < W.heap.size := fun b hb => HH.out.er_lt hb
          have hcs : CSat c (fun b => F b ∨ (b = W.heap.size + 1 ∨ b = W.heap.size + 1 + 1)) (wq.setCell ⟨rb, 4, none⟩ (I (d + 1))) (d + 1) ⟨vars0 f ns, 0⟩ s (W.heap.size + 1 + 1) (W.heap.size + 1) :=
            ⟨he3, .inr (.inr rfl), .inr (.inl rfl), fun h => by have := hgl _ h; omega, fun h => by have := hgl _ h; omega, by omega, by rw [← HRB.out]; exact hc2.kept hgs (by simp; omega), hv2.on (hgs.block _ (by have := hc2.lt; omega) (by simp; omega))⟩
          have hblk := HS.out _ _ _ _ _ _ _ f.body (.slice ba bn bc) hcs (HBV.out.on fun b hb => (hgs.block b (by have := hgl b hb; have := hb2.size; omega) (fun e => by cases e; exact HH.out.b.rbF (HRB.out ▸ HH.out.b.gf _ hb))).trans (hb2.block b (hgl b hb))) HYS.out HR.out
          have hkf : KF F W (wq.setCell ⟨rb, 4, none⟩ (I (d + 1))) := (KF.below hb2 HH.out.b.lt).trans (KF.grown hgs (fun b hb => Nat.lt_of_lt_of_le (HH.out.b.lt b hb) hb2.size) (fun r e => by cases e; rw [HRB.out]; exact HH.out.b.rbF))
          obtain ⟨r, hr⟩ : ∃ r, r = blockM (st (d + 1)) f.body ⟨vars0 f ns, 0⟩ s := ⟨_, rfl⟩
          have hcf : callF st d f ns s = valR r := by rw [hr]; exact callF_val st d f ns s
          rw [← hr] at hblk
          have HKF := Lib.hid hkf
          have HCF := Lib.hid hcf
          have HBL := Lib.hid hblk
          clear hv2 hvs hb2 hf2 hc2 hrw hgs he2 he3 hgl hcs hblk hkf hr hcf HS2
          have hd5 : d ≤ 50 := HD.out
          cases r with
          | stop a b s' =>
            go_wp2_with (first
              | (go_at_call 92; refine HBL.out.mono ?_; rintro e' w5 ⟨hk5, rfl, d', he5⟩; have HK5 := Lib.hid hk5; have HE5 := Lib.hid he5; clear hk5 he5))
            refine ⟨rfl, ?_⟩
            show Hid (Q (.panicked (stopV a b)) w5)
            rw [HQ.out]
            exact Lib.hid (RunI.stop HCF.out (HKF.out.trans (HK5.out.mono fun b hb => ⟨.inl hb, by have := HH.out.b.lt b hb; omega, by have := HH.out.b.lt b hb; omega⟩)) (HE5.out.less (fun b hb => .inl hb) HH.out.b.gf))
          | ok q s' =>
            go_upto_region 14 with (first
              | (go_at_call 92; refine HBL.out.mono ?_; rintro e' w5 ⟨hk5, rfl, he5⟩; have HK5 := Lib.hid hk5; have HE5 := Lib.hid he5; clear hk5 he5))
            obtain ⟨iv5, ov5, hr5⟩ := HE5.out.er.run
            rw [← HRB.out] at hr5
            have r45 := hr5.cell 4
            have k45 := hr5.frozen 4
            have hcr := HE5.out.row
            simp only [List.getElem?_cons_succ, List.getElem?_cons_zero] at r45
            have hgs := setCell_grown w5 rb 4 (I d)
            have he6 : ER c (fun b => F b ∨ (b = W.heap.size + 1 ∨ b = W.heap.size + 1 + 1)) (w5.setCell ⟨rb, 4, none⟩ (I d)) d s' := by
              obtain ⟨iv2, ov2, k1, k2, k3, k4⟩ := HE5.out.er.st
              rw [HRB.out] at hgs ⊢
              exact HE5.out.er.turn hgs rfl ⟨HE5.out.er.small.1, HE5.out.er.small.2.1, by have := HD.out; omega⟩ iv2 (k1.set 4 (I d)) (RIn.rb HE5.out.er.b hgs k2) (OwnInts.rb hgs k1 k3) k4
            have hrl : rb ≠ W.heap.size + 1 + 1 := by omega
            have hcr6 := hcr.kept hgs (by simp; omega)
            have v6 := hcr6.cell 2
            simp only [List.getElem?_cons_succ, List.getElem?_cons_zero] at v6
            have hk6 : KF F w5 (w5.setCell ⟨rb, 4, none⟩ (I d)) := KF.grown hgs (fun b hb => HE5.out.er.b.lt b (.inl hb)) (fun r e => by cases e; rw [HRB.out]; exact HH.out.b.rbF)
            have HE6 := Lib.hid he6
            have HK6 := Lib.hid hk6
            clear hr5 hcr hgs he6 hcr6 hk6 r4 k4 f3
            go_wp2
            go_ret
            rw [HQ.out]
            exact Lib.hid (RunI.ok HCF.out ((HKF.out.trans (HK5.out.mono fun b hb => ⟨.inl hb, by have := HH.out.b.lt b hb; omega, by have := HH.out.b.lt b hb; omega⟩)).trans HK6.out) (HE6.out.less (fun b hb => .inl hb) HH.out.b.gf))
end Go.Proofs.YtjgbkdbkachciaaGreatDoor

namespace Go.Proofs.YtjgbkdbkachciaaGreatDoor
open Go.RowKit Go.Shelf
attribute [local go_sem] Oper.semAt_some

/-- one statement, walked -/
def StmtC (c : RunC) (R : Nat) (st : Nat → CSt → LS → ESt → Res (Int × CSt)) : Prop :=
  ∀ (F : Nat → Prop) (W : World) (d : Nat) (s : ESt) (k : CSt) (cb mb : Nat) (x : LS) (av tv ev : Value), CSat c F W d k s cb mb → AX c.G W av x.args → SX c.G W tv x.thn → SX c.G W ev x.els → YS c.p x → 2 * left c.most s + 1 ≤ R →
    Calls Tryz.prog 133 #[.pointer (some ⟨cb, 0, none⟩), sV x av tv ev] W (RunH c F cb mb W d (st d k x s))
theorem RunH.ok {c : RunC} {F : Nat → Prop} {cb mb : Nat} {W w' : World} {d : Nat} {r : Res (Int × CSt)} {q : Int × CSt} {s' : ESt} (h : r = .ok q s') (hk : KF (mF F cb mb) W w') (he : CSat c F w' d q.2 s' cb mb) : RunH c F cb mb W d r (.returned (I q.1)) w' := by
  rw [h]; exact ⟨hk, rfl, he⟩
theorem RunH.stop {c : RunC} {F : Nat → Prop} {cb mb : Nat} {W w' : World} {d d' : Nat} {r : Res (Int × CSt)} {a b : Int} {s' : ESt} (h : r = .stop a b s') (hk : KF (mF F cb mb) W w') (he : ER c F w' d' s') : RunH c F cb mb W d r (.panicked (stopV a b)) w' := by
  rw [h]; exact ⟨hk, rfl, d', he⟩
/-- the program's own text is kept while its call's variables change -/
theorem CSat.gkept {c : RunC} {F : Nat → Prop} {W W' : World} {d : Nat} {k : CSt} {s : ESt} {cb mb : Nat} (h : CSat c F W d k s cb mb) (hk : KF (Go.Proofs.YtjgbkdbkachciaaGreatDoor.mF F cb mb) W W') : ∀ b, c.G b → W'.heap[b]? = W.heap[b]? :=
  fun b hb => hk.block b ⟨h.er.b.gf b hb, fun e => h.cG (e ▸ hb), fun e => h.mG (e ▸ hb)⟩
theorem CSat.quiet {c : RunC} {F : Nat → Prop} {W W' : World} {d : Nat} {k : CSt} {s : ESt} {cb mb : Nat} (h : CSat c F W d k s cb mb) (hg : W.grownBy W' none) : CSat c F W' d k s cb mb :=
  h.on (h.er.kf hg (fun r e => by cases e)) (h.er.quiet hg)

def nextB (f : CSt → LS → ESt → Res (Int × CSt)) (l : List LS) : Res (Int × CSt) → Res (Int × CSt)
  | .stop a b s => .stop a b s
  | .ok q s => if q.1 = 0 then blockM f l q.2 s else .ok q s
theorem blockM_cons (f : CSt → LS → ESt → Res (Int × CSt)) (x : LS) (l : List LS) (c : CSt) (s : ESt) : blockM f (x :: l) c s = nextB f l (f c x s) := by
  rw [blockM]
  cases f c x s <;> rfl
set_option maxRecDepth 100000 in
set_option maxHeartbeats 16000000 in
theorem block_any (c : RunC) (R : Nat) (st : Nat → CSt → LS → ESt → Res (Int × CSt)) (hS : StmtC c R st) (hu : ∀ d k x s q s', st d k x s = .ok q s' → UpR 1 s s') : BlockC c R st := by
  intro F W d s k cb mb l v h hv hy hR
  suffices hsuf : Calls Tryz.prog 92 #[.pointer (some ⟨cb, 0, none⟩), v] W (fun en w' => Hid (RunH c F cb mb W d (blockM (st d) l k s) en w')) from hsuf.mono fun _ _ h => h.out
  obtain ⟨Q, hQ⟩ : ∃ Q, Q = RunH c F cb mb W d (blockM (st d) l k s) := ⟨_, rfl⟩
  have HQ := Lib.hid hQ
  rw [← hQ]
  obtain ⟨a0, c0, rfl⟩ := hv.slice
  obtain ⟨dd, hv⟩ := hv
  have hlen : l.length ≤ 1000000000 := by obtain ⟨_, _, _, h, _⟩ := hv; exact h
  obtain ⟨N, hN⟩ : ∃ N, N = l.length := ⟨_, rfl⟩
  rw [← hN] at hv hlen ⊢
  have HV := Lib.hid hv
  have HY := Lib.hid hy
  have HN := Lib.hid hN
  have HH := Lib.hid h
  have HR := Lib.hid hR
  have HS := Lib.hid hS
  have HU := Lib.hid hu
  clear h hv hy hR hQ hN hS hu
  go_enter Tryz.func92, Tryz.ntmps92
  go_upto_region 2 with (fail)
  go_loopg [10] N (fun gh i wr => ∃ j : Nat, gh + j = N ∧ i = I j ∧ Hid (∃ k' s1, blockM (st d) l k s = blockM (st d) (l.drop j) k' s1 ∧ KF (Go.Proofs.YtjgbkdbkachciaaGreatDoor.mF F cb mb) W wr ∧ CSat c F wr d k' s1 cb mb ∧ UpR 0 s s1))
  case atStart => exact ⟨0, rfl, rfl, Lib.hid ⟨k, s, rfl, KF.refl _ _, HH.out, by omega, by omega⟩⟩
  case round =>
    obtain ⟨j, hg, rfl, HL⟩ := hrel
    obtain ⟨wo, rfl⟩ : ∃ wo, wo = wr := ⟨_, rfl⟩
    obtain ⟨k1, s1, ha, hk, he, hup⟩ := HL.out
    have HK := Lib.hid hk
    have HE := Lib.hid he
    have HUP := Lib.hid hup
    by_cases hlt : j < N
    · have hltz : (j : Int) < (N : Int) := by omega
      have hjl : j < l.length := by rw [← HN.out]; exact hlt
      have hgk := HH.out.gkept hk
      have hvo := HV.out.on hgk (fun C x h => RS.on dd hgk h)
      obtain ⟨b, o, C, rfl, _, hC, hrx⟩ := hvo.at hjl
      obtain ⟨x, hx⟩ : ∃ x, x = l[j] := ⟨_, rfl⟩
      rw [← hx] at hrx
      obtain ⟨dx, rfl⟩ : ∃ dx, dd = dx + 1 := by
        cases dd with
        | zero => exact hrx.elim
        | succ dx => exact ⟨dx, rfl⟩
      obtain ⟨h0, h1, h2, h3, h4⟩ := hrx
      obtain ⟨xa, xc, hxa⟩ := h2.slice
      obtain ⟨ta, tc, hxt, -⟩ := id h3
      obtain ⟨ea, ec, hxe, -⟩ := id h4
      have e0 := hC 0 (by omega)
      have e1 := hC 1 (by omega)
      have e2 := hC 2 (by omega)
      have e3 := hC 3 (by omega)
      have e4 := hC 4 (by omega)
      rw [h0] at e0
      rw [h1] at e1
      rw [hxa] at e2 h2
      rw [hxt] at e3 h3
      rw [hxe] at e4 h4
      simp only [Nat.add_zero] at e0 e1 e2 e3 e4
      have hdr : l.drop j = x :: l.drop (j + 1) := by rw [hx]; exact List.drop_eq_getElem_cons hjl
      rw [hdr] at ha
      have HA := Lib.hid ha
      have HX2 := Lib.hid h2
      have HX3 := Lib.hid h3
      have HX4 := Lib.hid h4
      have HYX := Lib.hid (show YS c.p x by rw [hx]; exact HY.out _ (List.getElem_mem hjl))
      clear hk he hup ha hgk hvo hC h0 h1 h2 h3 h4 hxa hxt hxe hdr hx HL
      go_upto_region 4 with (first
        | (refine store_first 54 (.tmp 6) (.tmp 13) rfl ?_; refine wpList_store_row rfl 54 (.tmp 6) (.tmp 13) rfl wo.heap.size _ rfl rfl 54 sZ (heap_new _ _) (by kernel_rfl) (by rfl) (by simp [Value.oneCell']) ?_))
      obtain ⟨al, hal⟩ : ∃ n, n = (LE.mk 0 0 0 [] x.args).args.length := ⟨_, rfl⟩
      obtain ⟨tl, htl⟩ : ∃ n, n = x.thn.length := ⟨_, rfl⟩
      obtain ⟨el, hel⟩ : ∃ n, n = x.els.length := ⟨_, rfl⟩
      rw [← hal] at HX2 ⊢
      rw [← htl] at HX3 ⊢
      rw [← hel] at HX4 ⊢
      clear hal htl hel
      obtain ⟨w3, hw3⟩ : ∃ w3, w3 = (wo.alloc (.cells sZ 54)).setRow wo.heap.size #[I x.kind, S x.name, .slice xa al xc, .slice ta tl tc, .slice ea el ec] := ⟨_, rfl⟩
      have hg3 : wo.grownBy w3 none := by rw [hw3, World.setRow_alloc_new]; exact alloc_grown _ _ _
      have hx3 : Row w3 wo.heap.size 54 [I x.kind, S x.name, .slice xa al xc, .slice ta tl tc, .slice ea el ec] := by rw [hw3]; exact setRow_heap _ _ _ _ _ _ (heap_new _ _)
      rw [← hw3]
      have hcs := HE.out.quiet hg3
      have hkeep : ∀ b, c.G b → w3.heap[b]? = wo.heap[b]? := fun b hb => hg3.block b (HE.out.er.b.lt b (HE.out.er.b.gf b hb)) (by simp)
      have hex := HS.out _ _ _ _ _ _ _ x _ _ _ hcs (HX2.out.on hkeep) (⟨dx, HX3.out.on hkeep (fun _ _ h => RS.on dx hkeep h)⟩ : SX c.G w3 _ x.thn) (⟨dx, HX4.out.on hkeep (fun _ _ h => RS.on dx hkeep h)⟩ : SX c.G w3 _ x.els) HYX.out (by have := left_up (most := c.most) HUP.out; have := HR.out; omega)
      have hk3 : KF (Go.Proofs.YtjgbkdbkachciaaGreatDoor.mF F cb mb) W w3 := HK.out.trans (KF.grown hg3 (fun b hb => HE.out.er.b.lt b hb.1) (fun r e => by cases e))
      have c0 := hx3.cell 0
      have c1 := hx3.cell 1
      have c2 := hx3.cell 2
      have c3 := hx3.cell 3
      have c4 := hx3.cell 4
      simp only [List.getElem?_cons_succ, List.getElem?_cons_zero] at c0 c1 c2 c3 c4
      have HK3 := Lib.hid hk3
      have HEX := Lib.hid hex
      obtain ⟨r, hr⟩ : ∃ r, r = st d k1 x s1 := ⟨_, rfl⟩
      have hbl : blockM (st d) l k s = nextB (st d) (l.drop (j + 1)) (st d k1 x s1) := by rw [HA.out, blockM_cons]
      rw [← hr] at HEX hbl
      have HBL := Lib.hid hbl
      have HRE := Lib.hid hr
      clear hw3 hg3 hx3 hcs hkeep hex hk3 hr hbl e0 e1 e2 e3 e4
      cases r with
      | stop a b' s2 =>
        go_upto_region 5 with (first
          | (go_at_call 133; refine HEX.out.mono ?_; rintro e' w4 ⟨hk4, rfl, d', he4⟩; have HK4 := Lib.hid hk4; have HE4 := Lib.hid he4; clear hk4 he4))
        refine ⟨rfl, ?_⟩
        show Hid (Q (.panicked (stopV a b')) w4)
        rw [HQ.out]
        exact Lib.hid (RunH.stop HBL.out (HK3.out.trans HK4.out) HE4.out)
      | ok q s2 =>
        obtain ⟨how, k2⟩ := q
        go_upto_region 5 with (first
          | (go_at_call 133; refine HEX.out.mono ?_; rintro e' w4 ⟨hk4, rfl, he4⟩; have HK4 := Lib.hid hk4; have HE4 := Lib.hid he4; clear hk4 he4))
        by_cases hh : how = 0
        · have HB2 := Lib.hid (HBL.out.trans (if_pos hh))
          subst hh
          have hup2 := HU.out _ _ _ _ _ _ HRE.out.symm
          go_wp2
          go_roundg (N - (j + 1))
          case measure => omega
          case rel => exact ⟨j + 1, by omega, by go_num, Lib.hid ⟨k2, s2, HB2.out, HK3.out.trans HK4.out, HE4.out, by have := HUP.out; omega, by have := HUP.out; omega⟩⟩
        · have HB2 := Lib.hid (HBL.out.trans (if_neg hh))
          go_wp2
          go_ret
          rw [HQ.out]
          exact Lib.hid (RunH.ok (q := (how, k2)) HB2.out (HK3.out.trans HK4.out) HE4.out)
    · have hltz : ¬ (j : Int) < (N : Int) := by omega
      rw [List.drop_of_length_le (by rw [← HN.out]; omega)] at ha
      have HA := Lib.hid ha
      clear ha hk he hup HL
      go_wp2
      go_ret
      rw [HQ.out]
      exact Lib.hid (RunH.ok (q := (0, k1)) HA.out HK.out HE.out)
end Go.Proofs.YtjgbkdbkachciaaGreatDoor

namespace Go.Proofs.YtjgbkdbkachciaaGreatDoor
open Go.RowKit Go.Shelf
attribute [local go_sem] Oper.semAt_some

def afterB (m : Mach) (d : Nat) (x : LS) (q : Int × CSt) (s : ESt) : Res (Int × CSt) :=
  if q.1 = 1 then .ok (0, q.2) s else if q.1 = 3 then .ok (3, q.2) s else m.loop d q.2 x s
def afterE (m : Mach) (d : Nat) (c : CSt) (x : LS) (n : Int) (s : ESt) : Res (Int × CSt) :=
  if n = 0 then .ok (0, c) s else (blockM (m.stmt d) x.thn c s).bind (afterB m d x)
theorem loopM_after (m : Mach) (d : Nat) (c : CSt) (x : LS) (s : ESt) : loopM m d c x s = (m.expr d c.vars (x.args.getD 0 (.mk 0 0 0 [] [])) s).bind (afterE m d c x) := loopM_eq m d c x s

set_option maxRecDepth 100000 in
set_option maxHeartbeats 16000000 in
theorem loop_any (c : RunC) (K : Nat) (hE : ∀ j, j ≤ K → ExprC c j (mach c.p c.most j).expr) (hB : ∀ j, j ≤ K → BlockC c j (mach c.p c.most j).stmt)
    (F : Nat → Prop) (W : World) (d : Nat) (s : ESt) (k : CSt) (cb mb : Nat) (x : LS) (av tv ev : Value) (h : CSat c F W d k s cb mb) (hav : AX c.G W av x.args) (htv : SX c.G W tv x.thn) (hev : SX c.G W ev x.els) (hy : YS c.p x) (h4 : x.kind = 4) (hR : 2 * left c.most s + 1 ≤ K) :
    Calls Tryz.prog 187 #[.pointer (some ⟨cb, 0, none⟩), sV x av tv ev] W (RunH c F cb mb W d (loopM (mach c.p c.most K) d k x s)) := by
  suffices hsuf : Calls Tryz.prog 187 #[.pointer (some ⟨cb, 0, none⟩), sV x av tv ev] W (fun en w' => Hid (RunH c F cb mb W d (loopM (mach c.p c.most K) d k x s) en w')) from hsuf.mono fun _ _ h => h.out
  obtain ⟨Q, hQ⟩ : ∃ Q, Q = RunH c F cb mb W d (loopM (mach c.p c.most K) d k x s) := ⟨_, rfl⟩
  have HQ := Lib.hid hQ
  rw [← hQ]
  obtain ⟨a0, c0, rfl⟩ := hav.slice
  obtain ⟨t0, tc, rfl⟩ := htv.slice
  obtain ⟨e0, ec, rfl⟩ := hev.slice
  have hown := hy.own.1 (.inr (.inr (.inl h4)))
  obtain ⟨e, he⟩ := List.length_eq_one_iff.1 hown
  have hxe : XE c.p e := hy.own.2.2 e (by rw [he]; simp)
  have heq : x.args.getD 0 (.mk 0 0 0 [] []) = e := by rw [he]; rfl
  obtain ⟨da, hav⟩ := hav
  replace hav : RSlB c.G 5 (RE da c.G) W (.slice a0 1 c0) [e] := by
    have h' : RSlB c.G 5 (RE da c.G) W (.slice a0 x.args.length c0) x.args := hav
    rw [he] at h'
    exact h'
  rw [show (LE.mk 0 0 0 [] x.args).args.length = 1 from hown]
  obtain ⟨tl, htl⟩ : ∃ n, n = x.thn.length := ⟨_, rfl⟩
  obtain ⟨el, hel⟩ : ∃ n, n = x.els.length := ⟨_, rfl⟩
  rw [← htl] at htv ⊢
  rw [← hel]
  have HAV := Lib.hid hav
  have HTV := Lib.hid htv
  have HXE := Lib.hid hxe
  have HEQ := Lib.hid heq
  have HYT := Lib.hid hy.thn
  have HH := Lib.hid h
  have HR := Lib.hid hR
  have HE := Lib.hid hE
  have HB := Lib.hid hB
  clear h hav htv hev hy h4 hR hE hB hQ hown he hxe heq htl hel
  go_enter Tryz.func187, Tryz.ntmps187
  go_upto_region 1 with (fail)
  obtain ⟨w0, hw0⟩ : ∃ w0, w0 = W.alloc (.cells #[I x.kind, S x.name, .slice a0 1 c0, .slice t0 tl tc, .slice e0 el ec] 54) := ⟨_, rfl⟩
  have hg0 : W.grownBy w0 none := by rw [hw0]; exact alloc_grown _ _ _
  have hx0 : Row w0 W.heap.size 54 [I x.kind, S x.name, .slice a0 1 c0, .slice t0 tl tc, .slice e0 el ec] := by rw [hw0]; exact heap_new _ _
  rw [← hw0]
  have hc0 := HH.out.quiet hg0
  have hcs : CSat c (fun b => F b ∨ b = W.heap.size) w0 d k s cb mb := ⟨HH.out.er.add hg0 (fun r e => by cases e) (fun b hb => ⟨by omega, by rw [hb]; exact hx0.lt⟩), .inl hc0.cF, .inl hc0.mF, hc0.cG, hc0.mG, hc0.ne, hc0.row, hc0.vars⟩
  have hcb : cb < W.heap.size := HH.out.er.b.lt cb HH.out.cF
  have hmb : mb < W.heap.size := HH.out.er.b.lt mb HH.out.mF
  have HC0 := Lib.hid hcs
  have HX0 := Lib.hid hx0
  have HK0 := Lib.hid (show KF (Go.Proofs.YtjgbkdbkachciaaGreatDoor.mF F cb mb) W w0 from KF.grown hg0 (fun b hb => HH.out.er.b.lt b hb.1) (fun r e => by cases e))
  clear hw0 hg0 hx0 hc0 hcs
  go_loopg [] (left c.most s) (fun gh wr => Hid (∃ j k1 s1, gh = left c.most s1 ∧ loopM (mach c.p c.most K) d k x s = loopM (mach c.p c.most j) d k1 x s1 ∧ 2 * left c.most s1 + 1 ≤ j ∧ j ≤ K ∧ KF (Go.Proofs.YtjgbkdbkachciaaGreatDoor.mF (fun b => F b ∨ b = W.heap.size) cb mb) w0 wr ∧ CSat c (fun b => F b ∨ b = W.heap.size) wr d k1 s1 cb mb))
  case atStart => exact Lib.hid ⟨K, k, s, rfl, rfl, HR.out, Nat.le_refl _, KF.refl _ _, HC0.out⟩
  case round =>
    obtain ⟨wo, rfl⟩ : ∃ wo, wo = wr := ⟨_, rfl⟩
    obtain ⟨j, k1, s1, hgh, hlo, hj, hjK, hk, hc⟩ := hrel.out
    have hgk : ∀ b, c.G b → wo.heap[b]? = W.heap[b]? := fun b hb => (hk.block b ⟨.inl (HH.out.er.b.gf b hb), fun e => HH.out.cG (e ▸ hb), fun e => HH.out.mG (e ▸ hb)⟩).trans (HK0.out.block b ⟨HH.out.er.b.gf b hb, fun e => HH.out.cG (e ▸ hb), fun e => HH.out.mG (e ▸ hb)⟩)
    have hx := hk.row HX0.out ⟨.inr rfl, by omega, by omega⟩
    have hvo := HAV.out.on hgk (fun C x h => RE.on da hgk h)
    obtain ⟨b, o, C, rfl, _, hC, hrx⟩ := hvo.at (i := 0) (by simp)
    have hrx : RE da c.G wo C e := hrx
    obtain ⟨dx, rfl⟩ : ∃ dx, da = dx + 1 := by
      cases da with
      | zero => exact hrx.elim
      | succ dx => exact ⟨dx, rfl⟩
    obtain ⟨h0, h1, h2, h3, h4⟩ := hrx
    obtain ⟨xa, xc, hxv, -⟩ := id h4
    have e0' := hC 0 (by omega)
    have e1 := hC 1 (by omega)
    have e2 := hC 2 (by omega)
    have e3 := hC 3 (by omega)
    have e4 := hC 4 (by omega)
    rw [h0] at e0'
    rw [h1] at e1
    rw [h2] at e2
    rw [h3] at e3
    rw [hxv] at e4 h4
    simp only [Nat.zero_mul, Nat.add_zero] at e0' e1 e2 e3 e4
    have c2 := hx.cell 2
    simp only [List.getElem?_cons_succ, List.getElem?_cons_zero] at c2
    have hex := HE.out j hjK _ wo d s1 k1 cb mb e _ hc (⟨dx, h4⟩ : EX c.G wo (.slice xa e.args.length xc) e) HXE.out hj
    obtain ⟨r, hr⟩ : ∃ r, r = (mach c.p c.most j).expr d k1.vars e s1 := ⟨_, rfl⟩
    have hlo2 : loopM (mach c.p c.most K) d k x s = r.bind (afterE (mach c.p c.most j) d k1 x) := by rw [hlo, loopM_after, HEQ.out, hr]
    rw [← hr] at hex
    have HEX := Lib.hid hex
    have HLO := Lib.hid hlo2
    have HRE := Lib.hid hr
    have HK := Lib.hid hk
    have HC := Lib.hid hc
    have HX := Lib.hid hx
    have HGH := Lib.hid hgh
    have HJ := Lib.hid hj
    have HJK := Lib.hid hjK
    have HGK := Lib.hid hgk
    have hkm : ∀ w', KF (Go.Proofs.YtjgbkdbkachciaaGreatDoor.mF (fun b => F b ∨ b = W.heap.size) cb mb) wo w' → KF (Go.Proofs.YtjgbkdbkachciaaGreatDoor.mF F cb mb) W w' := fun w' h => HK0.out.trans ((hk.trans h).mono fun b hb => ⟨.inl hb.1, hb.2⟩)
    have hcl : ∀ w' k' s', CSat c (fun b => F b ∨ b = W.heap.size) w' d k' s' cb mb → CSat c F w' d k' s' cb mb := fun w' k' s' h => ⟨h.er.less (fun b hb => .inl hb) HH.out.er.b.gf, HH.out.cF, HH.out.mF, h.cG, h.mG, h.ne, h.row, h.vars⟩
    have HKM := Lib.hid hkm
    have HCL := Lib.hid hcl
    obtain ⟨xn, hxn⟩ : ∃ n, n = e.args.length := ⟨_, rfl⟩
    rw [← hxn] at e4 HEX
    clear hgh hlo hj hjK hk hc hgk hx hvo hC h0 h1 h2 h3 h4 hxv hex hr hlo2 hkm hcl hrel hxn
    cases r with
    | stop a b' s2 =>
      go_wp2_with (first
        | (go_at_call 218; refine HEX.out.mono ?_; rintro e' w4 ⟨hk4, rfl, d', he4⟩; have HK4 := Lib.hid hk4; have HE4 := Lib.hid he4; clear hk4 he4))
      refine ⟨rfl, ?_⟩
      show Hid (Q (.panicked (stopV a b')) w4)
      rw [HQ.out]
      exact Lib.hid (RunH.stop HLO.out (HKM.out _ (HK4.out.mF cb mb)) (HE4.out.less (fun b hb => .inl hb) HH.out.er.b.gf))
    | ok n s2 =>
      have hlv := mach_live HRE.out.symm
      have hup := (mach_up c.p c.most j).expr HRE.out.symm
      have hl1 := left_up1 (most := c.most) hup
      have hl0 : left c.most s1 ≠ 0 := by unfold left; omega
      have HL1 := Lib.hid hl1
      have HL0 := Lib.hid hl0
      clear hlv hup hl1 hl0
      by_cases hn : n = 0
      · have HLO2 := Lib.hid (HLO.out.trans (if_pos hn))
        subst hn
        go_wp2_with (first
          | (go_at_call 218; refine HEX.out.mono ?_; rintro e' w4 ⟨hk4, rfl, he4⟩; have HK4 := Lib.hid hk4; have HE4 := Lib.hid he4; clear hk4 he4))
        go_ret
        rw [HQ.out]
        exact Lib.hid (RunH.ok (q := (0, k1)) HLO2.out (HKM.out _ (HK4.out.mF cb mb)) (HCL.out _ _ _ (HC.out.on HK4.out HE4.out)))
      · have HLO2 := Lib.hid (HLO.out.trans (if_neg hn))
        go_upto_region 2 with (first
          | (go_at_call 218; refine HEX.out.mono ?_; rintro e' w4 ⟨hk4, rfl, he4⟩; have HK4 := Lib.hid hk4; have HE4 := Lib.hid he4; clear hk4 he4))
        have hc4 := HC.out.on HK4.out HE4.out
        have hx4 := HK4.out.row HX.out (.inr rfl)
        have d3 := hx4.cell 3
        simp only [List.getElem?_cons_succ, List.getElem?_cons_zero] at d3
        have hbl := HB.out j HJK.out _ w4 d s2 k1 cb mb x.thn (.slice t0 tl tc) hc4 (HTV.out.on fun b hb => (HK4.out.block b (.inl (HH.out.er.b.gf b hb))).trans (HGK.out b hb)) HYT.out (by have := HJ.out; have := HL1.out; have := HL0.out; omega)
        obtain ⟨r2, hr2⟩ : ∃ r, r = blockM ((mach c.p c.most j).stmt d) x.thn k1 s2 := ⟨_, rfl⟩
        rw [← hr2] at hbl HLO2
        have HBL := Lib.hid hbl
        have HR2 := Lib.hid hr2
        clear hc4 hx4 hbl hr2 e0' e1 e2 e3 e4 c2
        cases r2 with
        | stop a b' s3 =>
          go_wp2_with (first
            | (go_at_call 92; refine HBL.out.mono ?_; rintro e' w5 ⟨hk5, rfl, d', he5⟩; have HK5 := Lib.hid hk5; have HE5 := Lib.hid he5; clear hk5 he5))
          refine ⟨rfl, ?_⟩
          show Hid (Q (.panicked (stopV a b')) w5)
          rw [HQ.out]
          exact Lib.hid (RunH.stop HLO2.out (HKM.out _ ((HK4.out.mF cb mb).trans HK5.out)) (HE5.out.less (fun b hb => .inl hb) HH.out.er.b.gf))
        | ok q s3 =>
          obtain ⟨how, k2⟩ := q
          have hl3 := left_up (most := c.most) (blockM_up (fun h => (mach_up c.p c.most j).stmt h) _ _ _ _ _ HR2.out.symm)
          have HL3 := Lib.hid hl3
          clear hl3
          have hlo3 : loopM (mach c.p c.most K) d k x s = afterB (mach c.p c.most j) d x (how, k2) s3 := HLO2.out
          unfold afterB at hlo3
          go_upto_region 3 with (first
            | (go_at_call 92; refine HBL.out.mono ?_; rintro e' w5 ⟨hk5, rfl, he5⟩; have HK5 := Lib.hid hk5; have HE5 := Lib.hid he5; clear hk5 he5))
          have HLO3 := Lib.hid hlo3
          clear hlo3
          by_cases h1 : how = 1
          · have HLO4 := Lib.hid (HLO3.out.trans (if_pos h1))
            subst h1
            go_wp2
            go_ret
            rw [HQ.out]
            exact Lib.hid (RunH.ok (q := (0, k2)) HLO4.out (HKM.out _ ((HK4.out.mF cb mb).trans HK5.out)) (HCL.out _ _ _ HE5.out))
          · have HLO4 := Lib.hid (HLO3.out.trans (if_neg h1))
            by_cases h3 : how = 3
            · have HLO5 := Lib.hid (HLO4.out.trans (if_pos h3))
              subst h3
              go_wp2
              go_ret
              rw [HQ.out]
              exact Lib.hid (RunH.ok (q := (3, k2)) HLO5.out (HKM.out _ ((HK4.out.mF cb mb).trans HK5.out)) (HCL.out _ _ _ HE5.out))
            · have HLO5 := Lib.hid (HLO4.out.trans (if_neg h3))
              obtain ⟨j', rfl⟩ : ∃ j', j = j' + 1 := ⟨j - 1, by have := HJ.out; omega⟩
              go_wp2
              go_roundg (left c.most s3)
              case measure => have := HGH.out; have := HL1.out; have := HL0.out; have := HL3.out; omega
              case rel => exact Lib.hid ⟨j', k2, s3, rfl, HLO5.out, by have := HJ.out; have := HL1.out; have := HL0.out; have := HL3.out; omega, by have := HJK.out; omega, HK.out.trans ((HK4.out.mF cb mb).trans HK5.out), HE5.out⟩
end Go.Proofs.YtjgbkdbkachciaaGreatDoor

namespace Go.Proofs.YtjgbkdbkachciaaGreatDoor
open Go.RowKit Go.Shelf
attribute [local go_sem] Oper.semAt_some

def LoopC (c : RunC) (R : Nat) (lp : Nat → CSt → LS → ESt → Res (Int × CSt)) : Prop :=
  ∀ (F : Nat → Prop) (W : World) (d : Nat) (s : ESt) (k : CSt) (cb mb : Nat) (x : LS) (av tv ev : Value), CSat c F W d k s cb mb → AX c.G W av x.args → SX c.G W tv x.thn → SX c.G W ev x.els → YS c.p x → x.kind = 4 → 2 * left c.most s + 2 ≤ R →
    Calls Tryz.prog 187 #[.pointer (some ⟨cb, 0, none⟩), sV x av tv ev] W (RunH c F cb mb W d (lp d k x s))
theorem ER.gz_lt {c : RunC} {F : Nat → Prop} {W : World} {d : Nat} {s : ESt} (h : ER c F W d s) : ∀ x ∈ c.gz, x.1 < W.heap.size := fun x hx => by
  obtain ⟨i, hi, hxi⟩ := List.getElem_of_mem hx
  have hli : i < s.arrs.length := by rw [h.b.len]; exact hi
  exact (h.b.arr i x s.arrs[i] (by rw [List.getElem?_eq_getElem hi, hxi]) (List.getElem?_eq_getElem hli)).1.lt
/-- a number stored in an array -/
theorem ER.store {c : RunC} {F : Nat → Prop} {W : World} {d : Nat} {s : ESt} (h : ER c F W d s) {i ga na at_ : Nat} {l : List Int} (hx : c.gz[i]? = some (ga, na)) (hl : s.arrs[i]? = some l) (v : Int) :
    ER c F (W.setCell ⟨ga, at_, none⟩ (I v)) d { s with arrs := s.arrs.set i (l.set at_ v) } := by
  have hg := setCell_grown W ga at_ (I v)
  obtain ⟨iv, ov, h1, h2, h3, h4⟩ := h.st
  have hmem := List.mem_of_getElem? hx
  have hF : ¬ F ga := (h.b.gzr _ hmem).2
  have hG : ∀ r, some ga = some r → ¬ c.G r := fun r e hG => by cases e; exact hF (h.b.gf _ hG)
  have hrb : ga ≠ c.rb := (h.b.gzr _ hmem).1
  refine ⟨⟨fun b hb => Nat.lt_of_lt_of_le (h.b.lt b hb) hg.size, h.b.gf, h.b.rbF, h.b.px.grown hg hG, h.b.arv.grown hg hG fun _ _ h => h, h.b.gzn, h.b.gzr, by simp [h.b.len], h.b.gza, fun j x l' hx' hl' => ?_⟩,
    h.small, iv, ov, h1.kept hg (by simp; omega), h2.grown hg hG fun _ _ h => h, h3.kept hg (fun r e e' => by cases e; exact (h4 _ e').2 _ hmem rfl), h4⟩
  by_cases hj : j = i
  · subst hj
    rw [hx] at hx'
    obtain rfl := Option.some.inj hx'
    have hlt : j < s.arrs.length := (List.getElem?_eq_some_iff.1 hl).1
    rw [List.getElem?_set_self hlt] at hl'
    obtain rfl := Option.some.inj hl'
    obtain ⟨k1, k2⟩ := h.b.arr j (ga, na) l hx hl
    refine ⟨?_, by simpa using k2⟩
    have := Row.set k1 at_ (I v)
    rw [List.map_set]
    exact this
  · rw [List.getElem?_set_ne (fun e => hj e.symm)] at hl'
    obtain ⟨k1, k2⟩ := h.b.arr j x l' hx' hl'
    refine ⟨k1.kept hg ?_, k2⟩
    intro e
    have e : x.1 = ga := by cases e; rfl
    have hn := h.b.gzn
    have hi' : i < c.gz.length := (List.getElem?_eq_some_iff.1 hx).1
    have hj' : j < c.gz.length := (List.getElem?_eq_some_iff.1 hx').1
    have e1 : (c.gz.map (·.1))[i]'(by simpa using hi') = ga := by
      rw [List.getElem_map]; have := (List.getElem?_eq_some_iff.1 hx).2; rw [this]
    have e2 : (c.gz.map (·.1))[j]'(by simpa using hj') = ga := by
      rw [List.getElem_map]; have := (List.getElem?_eq_some_iff.1 hx').2; rw [this, e]
    exact hj ((List.getElem_inj hn).1 (e2.trans e1.symm))
/-- a number told -/
theorem ER.print {c : RunC} {F : Nat → Prop} {W W5 : World} {d : Nat} {s : ESt} {iv ov v' : Value} {n : Int} {g' : Nat} (h : ER c F W d s) (h1 : Row W c.rb 78 (rRow c d iv ov s.steps)) (h2 : RIn c.G W iv s.inp) (h4 : ∀ g, ov.ownBlock = some g → ¬ F g ∧ ∀ x ∈ c.gz, x.1 ≠ g) (h3 : OwnInts W 0 ov s.out)
    (hg : W.grownBy W5 ov.ownBlock) (hat : ov.ownBlock = some g' ∨ g' = W.heap.size) (hv : v'.ownBlock = some g') (ho : OwnInts W5 0 v' (s.out ++ [n])) (hs : s.out.length + 1 ≤ s.steps) :
    ER c F (W5.setCell ⟨c.rb, 8, none⟩ v') d { s with out := s.out ++ [n] } ∧ KF F W (W5.setCell ⟨c.rb, 8, none⟩ v') := by
  have hb5 := h.b.kept hg (fun r e => h4 r e)
  have hr5 : Row W5 c.rb 78 (rRow c d iv ov s.steps) := h1.kept hg (fun e => by
    have := ownsRow_notag h3 (t := 78) (by decide) c.rb e.symm
    exact this _ _ h1)
  have hg6 := setCell_grown W5 c.rb 8 v'
  refine ⟨⟨hb5.kept hg6 (fun r e => by cases e; exact ⟨h.b.rbF, fun x hx => (h.b.gzr x hx).1⟩), ⟨h.small.1, by simpa using hs, h.small.2.2.1, h.small.2.2.2⟩, iv, v', hr5.set 8 v', RIn.rb hb5 hg6 (h2.grown hg (fun r e hG => (h4 r e).1 (h.b.gf r hG)) fun _ _ h => h), OwnInts.tag ho hg6 (NoTag.box 3 hr5 (by decide)), fun g e => ?_⟩, ?_⟩
  · rw [hv] at e
    obtain rfl := Option.some.inj e
    rcases hat with hat | rfl
    · exact h4 _ hat
    · exact ⟨fun hF => by have := h.b.lt _ hF; omega, fun x hx => by have := h.gz_lt x hx; omega⟩
  · exact (h.kf hg (fun r e => (h4 r e).1)).trans (KF.grown hg6 (fun b hb => Nat.lt_of_lt_of_le (h.b.lt b hb) hg.size) (fun r e => by cases e; exact h.b.rbF))
end Go.Proofs.YtjgbkdbkachciaaGreatDoor
