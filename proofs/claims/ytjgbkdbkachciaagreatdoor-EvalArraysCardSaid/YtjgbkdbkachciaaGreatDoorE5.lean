import Derived.Test.YtjgbkdbkachciaaGreatDoorZ4
import Derived.Test.YtjgbkdbkachciaaGreatDoorB0
namespace Go.Proofs.YtjgbkdbkachciaaGreatDoor
open Go.RowKit Go.Shelf
attribute [local go_sem] Oper.semAt_some

/-! ### a program with arrays run -/
def gEnc (x : Nat × Nat) : List Value := [.slice (some ⟨x.1, 0, none⟩) x.2 x.2]
theorem gEnc_len (x : Nat × Nat) : (gEnc x).length = 1 := rfl
theorem gEnc_one (x : Nat × Nat) : ∀ u ∈ gEnc x, u.oneCell' = true := by intro u hu; simp [gEnc] at hu; subst hu; rfl
theorem slSl : SlT 76 22 1 24 := SlT.mk' (z := .slice none 0 0) Tryz.underlying76 (by kernel_rfl) rfl (by decide)
/-- numbers made -/
theorem wpList_mkI {w : World} {ops : Array Oper} {rest : List Oper} {o : Oper} {a : Act} {Q : Exit → Act → World → Prop} (hgd : o.guard = none) (l c : Operand) (hop : o.op = Op.makeSlice 22 l c)
    (n : Nat) (hl : a.eval l = I n) (hc : a.eval c = I n) (hn : n ≤ 1048576)
    (hK : wpList Tryz.prog ops Q rest (a.put o.dst (.slice (some ⟨w.heap.size, 0, none⟩) n n)) (w.alloc (.cells (List.replicate n (I 0)).toArray 3))) : wpList Tryz.prog ops Q (o :: rest) a w := by
  obtain ⟨i, hi, hz, hs, hb⟩ := info_parts (show (Tryz.prog.info? 3).map (fun i => (i.zero, i.size, i.bytes)) = some (some (.int .i64 0), 1, 8) by kernel_rfl)
  have hrun := run_make (P := Tryz.prog) w 22 3 i (.int .i64 0) Tryz.underlying22 hi hz .i64 .i64 n n (by omega) (Int.le_refl _) (by rw [hb]; omega) (by omega)
  have hm : madeCells (Value.cells (.int .i64 0)) ((n : Int).toNat * i.size) = (List.replicate n (I 0)).toArray := by
    rw [hs, Int.toNat_natCast, Nat.mul_one]
    apply Array.toList_inj.1
    show (madeCells #[.int .i64 0] n).toList = List.replicate n (I 0)
    exact toList_madeCells_one _ _
  rw [hm, Int.toNat_natCast] at hrun
  refine wpList_plain hgd fun K hK' => ?_
  unfold Oper.wp
  simp [execOp, hop, hl, hc, hrun, Result.andThen]
  exact hK' _ _ hK
/-- the arrays made so far -/
structure ArI (p : LP) (rb k : Nat) (wr : World) (arv : Value) (gz : List (Nat × Nat)) : Prop where
  own : OwnS 1 22 gEnc wr (rb + 1) arv gz
  len : gz.map (·.2) = (p.arrays.take k).map fun a => a.size.toNat
  nodup : (gz.map (·.1)).Nodup
  row : ∀ x ∈ gz, rb < x.1 ∧ arv.ownBlock ≠ some x.1 ∧ Row wr x.1 3 (List.replicate x.2 (I 0))
section
variable {p : LP} {rb k : Nat} {wr w' : World} {arv : Value} {gz : List (Nat × Nat)} {row : Option Nat}
theorem ArI.nil (p : LP) (rb : Nat) (w : World) : ArI p rb 0 w (.slice none 0 0) [] := ⟨OwnS.nil, rfl, List.nodup_nil, fun x hx => by cases hx⟩
theorem ArI.kept (h : ArI p rb k wr arv gz) (hg : wr.grownBy w' row) (hr : ∀ r, row = some r → r ≤ rb) : ArI p rb k w' arv gz := by
  refine ⟨ownsRow_kept' h.own hg ?_, h.len, h.nodup, fun x hx => ⟨(h.row x hx).1, (h.row x hx).2.1, (h.row x hx).2.2.kept hg fun e => ?_⟩⟩
  · cases hv : arv.ownBlock with
    | none => exact .inl rfl
    | some g =>
      right
      intro e
      have := hr g e.symm
      have := (ownsRow_base h.own g hv).1
      omega
  · have := hr _ e.symm
    have := (h.row x hx).1
    omega
theorem ArI.count (h : ArI p rb k wr arv gz) (hk : k ≤ p.arrays.length) : gz.length = k := by
  have := congrArg List.length h.len
  simp only [List.length_map, List.length_take] at this
  omega
theorem ArI.app {w6 : World} {o : Obj} {n g' : Nat} {v' : Value} (h : ArI p rb k wr arv gz) (hk : k < p.arrays.length) (hn : n = (p.arrays[k]).size.toNat) (hrb : rb < wr.heap.size)
    (ho : OwnS 1 22 gEnc w6 (rb + 1) v' (gz ++ [(wr.heap.size, n)])) (hg : ((wr.alloc (.cells (List.replicate n (I 0)).toArray 3)).alloc o).grownBy w6 arv.ownBlock) (hv : v'.ownBlock = some g')
    (hat : arv.ownBlock = some g' ∨ g' = ((wr.alloc (.cells (List.replicate n (I 0)).toArray 3)).alloc o).heap.size) : ArI p rb (k + 1) w6 v' (gz ++ [(wr.heap.size, n)]) := by
  have hz : ((wr.alloc (.cells (List.replicate n (I 0)).toArray 3)).alloc o).heap.size = wr.heap.size + 2 := by simp
  rw [hz] at hat
  have hlt : ∀ x ∈ gz, x.1 < wr.heap.size := fun x hx => (h.row x hx).2.2.lt
  have hob : ∀ r, arv.ownBlock = some r → r < wr.heap.size := fun r e => (ownsRow_base h.own r e).2
  refine ⟨ho, ?_, ?_, fun x hx => ?_⟩
  · rw [List.map_append, h.len, List.take_succ_eq_append_getElem hk, List.map_append, hn]
    rfl
  · rw [List.map_append, List.nodup_append]
    refine ⟨h.nodup, by simp, fun a ha b hb => ?_⟩
    obtain ⟨x, hx, rfl⟩ := List.mem_map.1 ha
    have := hlt x hx
    simp at hb
    omega
  · rcases List.mem_append.1 hx with hx | hx
    · obtain ⟨h1, h2, h3⟩ := h.row x hx
      refine ⟨h1, ?_, ((h3.kept (alloc_grown _ _ none) (by simp)).kept (alloc_grown _ o none) (by simp)).kept hg (fun e => h2 e.symm)⟩
      rw [hv]
      intro e
      have e := Option.some.inj e
      have := hlt x hx
      rcases hat with h4 | h4
      · exact h2 (by rw [h4, e])
      · omega
    · obtain rfl := List.mem_singleton.1 hx
      refine ⟨hrb, ?_, (Row.kept (heap_old _ o (heap_new wr _)) hg fun e => ?_)⟩
      · rw [hv]
        intro e
        have e : g' = wr.heap.size := Option.some.inj e
        rcases hat with h4 | h4
        · have := hob g' h4
          omega
        · omega
      · have : wr.heap.size < wr.heap.size := hob wr.heap.size e.symm
        omega
end
/-- what of a run's rows is there -/
def RunK (W : World) (rb : Nat) (p27 p78 : List Value) (w : World) : Prop :=
  Below W.heap.size W w ∧ Row w W.heap.size 27 p27 ∧ Row w (W.heap.size + 1) 37 [I 0, I 0, .slice none 0 0, I 0] ∧ Row w rb 78 p78 ∧ W.heap.size + 1 < rb
theorem RunK.kept {W w w' : World} {rb : Nat} {p27 p78 : List Value} {row : Option Nat} (h : RunK W rb p27 p78 w) (hg : w.grownBy w' row) (hr : ∀ r, row = some r → rb < r) : RunK W rb p27 p78 w' := by
  obtain ⟨h1, h2, h3, h4, h5⟩ := h
  exact ⟨h1.grown hg h1.size (fun r e => by have := hr r e; omega), h2.kept hg (fun e => by have := hr _ e.symm; omega), h3.kept hg (fun e => by have := hr _ e.symm; omega), h4.kept hg (fun e => by have := hr _ e.symm; omega), h5⟩
theorem RunK.set {W w : World} {rb : Nat} {p27 p78 : List Value} (h : RunK W rb p27 p78 w) (j : Nat) (v : Value) : RunK W rb p27 (p78.set j v) (w.setCell ⟨rb, j, none⟩ v) := by
  obtain ⟨h1, h2, h3, h4, h5⟩ := h
  have hg : w.grownBy (w.setCell ⟨rb, j, none⟩ v) (some rb) := setCell_grown _ _ _ _
  exact ⟨h1.grown hg h1.size (fun r e => by cases e; omega), h2.kept hg (fun e => by cases e; omega), h3.kept hg (fun e => by cases e; omega), h4.set j v, h5⟩

set_option maxRecDepth 100000 in
set_option maxHeartbeats 16000000 in
/-- a program run -/
theorem run_any (p : LP) (hr : Runs p) (av fv iv : Value) (inp : List Int) (most : Int) (W : World) (hx : PX (· < W.heap.size) W av fv p) (hi : RIn (· < W.heap.size) W iv inp) (hm : most ≤ 1000000) (K : Nat) (hK : 2 * most.toNat + 1 ≤ K) :
    Calls Tryz.prog 17 #[.agg #[av, fv], iv, I most] W fun e w' => ∃ ov, e = .returned (.agg #[I (runM p K inp most).status, I (runM p K inp most).code, ov, I (runM p K inp most).steps]) ∧ OwnInts w' 0 ov (runM p K inp most).out ∧ Below W.heap.size W w' := by
  obtain ⟨Q, hQ⟩ : ∃ Q : Ending → World → Prop, Q = fun e w' => ∃ ov, e = .returned (.agg #[I (runM p K inp most).status, I (runM p K inp most).code, ov, I (runM p K inp most).steps]) ∧ OwnInts w' 0 ov (runM p K inp most).out ∧ Below W.heap.size W w' := ⟨_, rfl⟩
  suffices hsuf : Calls Tryz.prog 17 #[.agg #[av, fv], iv, I most] W (fun e w' => Hid (Q e w')) from hsuf.mono fun e w' h => by have := h.out; rwa [hQ] at this
  have HQ := Lib.hid hQ
  obtain ⟨aa, ac, fa, fc, rfl, rfl⟩ := hx.slice
  obtain ⟨fn, hfn⟩ : ∃ n, n = p.funcs.length := ⟨_, rfl⟩
  obtain ⟨AN, hAN⟩ : ∃ n, n = p.arrays.length := ⟨_, rfl⟩
  rw [← hAN, ← hfn] at hx ⊢
  have hANs : AN ≤ 1000000000 := by have := hr.few; omega
  obtain ⟨ia, ik, hiv, hil⟩ := hi.room
  have HI := Lib.hid hi
  have HX := Lib.hid hx
  have HRS := Lib.hid hr
  have HAN := Lib.hid hAN
  have HK := Lib.hid hK
  have HM := Lib.hid hm
  have HIV := Lib.hid hiv
  obtain ⟨il, hil'⟩ : ∃ n, n = inp.length := ⟨_, rfl⟩
  rw [← hil'] at hiv
  subst hiv
  have HIL := Lib.hid hil'
  have HCK := Lib.hid (fun (w : World) (hb : Below W.heap.size W w) => check_yes (· < W.heap.size) p _ _ w (hx.below hb) hr.okp hr.okn hr.cat hr.few hr.few2)
  clear hQ hx hi hr hK hm hil hil' hfn hAN
  obtain ⟨w0, hw0⟩ : ∃ w0, w0 = (W.alloc (.cells #[.slice aa AN ac, .slice fa fn fc] 27)).alloc (.cells r37Z 37) := ⟨_, rfl⟩
  have hwe := hw0.symm
  have hb0 : Below W.heap.size W w0 := by rw [hw0]; exact below_a2 _ _ _
  have hp0 : Row w0 W.heap.size 27 [.slice aa AN ac, .slice fa fn fc] := by rw [hw0]; exact heap_old _ _ (heap_new _ _)
  have hs0 : Row w0 (W.heap.size + 1) 37 [I 0, I 0, .slice none 0 0, I 0] := by rw [hw0]; exact heap_at (by simp)
  have p0 := hp0.cell 0
  have p1 := hp0.cell 1
  simp only [List.getElem?_cons_zero, List.getElem?_cons_succ] at p0 p1
  have HB0 := Lib.hid hb0
  have HP0 := Lib.hid hp0
  have HS0 := Lib.hid hs0
  clear hw0 hb0 hp0 hs0
  go_enter Tryz.func17, Tryz.ntmps17
  go_upto_region 2 with (first
    | (go_at_call 31; refine (HCK.out _ HB0.out).mono ?_; rintro e' w1 ⟨rfl, hb1⟩; have HB1 := Lib.hid (HB0.out.trans (hb1.mono HB0.out.size)); have HB1' := Lib.hid hb1; clear hb1))
  obtain ⟨w2, hw2⟩ : ∃ w2, w2 = w1.alloc (.cells #[.int .i64 0, .int .i64 0] 72) := ⟨_, rfl⟩
  have hb2 : Below W.heap.size W w2 := by rw [hw2]; exact HB1.out.alloc HB1.out.size _
  have hp2 : Row w2 W.heap.size 27 [.slice aa AN ac, .slice fa fn fc] := by rw [hw2]; exact heap_old _ _ (HP0.out.ext HB1'.out)
  have hs2 : Row w2 (W.heap.size + 1) 37 [I 0, I 0, .slice none 0 0, I 0] := by rw [hw2]; exact heap_old _ _ (HS0.out.ext HB1'.out)
  rw [← hw2]
  have q0 := hp2.cell 0
  have q1 := hp2.cell 1
  simp only [List.getElem?_cons_zero, List.getElem?_cons_succ] at q0 q1
  have HB2 := Lib.hid hb2
  have HP2 := Lib.hid hp2
  have HS2 := Lib.hid hs2
  clear hw2 hb2 hp2 hs2 p0 p1
  go_upto_region 5 with (fail)
  obtain ⟨w3, hw3⟩ : ∃ w3, w3 = w2.alloc (.cells #[.slice aa AN ac, .slice fa fn fc, .slice ia il ik, .slice none 0 0, I 0, I most, I 0, I 0, .slice none 0 0, I 0] 78) := ⟨_, rfl⟩
  obtain ⟨rb, hrb⟩ : ∃ r, r = w2.heap.size := ⟨_, rfl⟩
  have hrl : W.heap.size + 1 < rb := by rw [hrb]; exact HS2.out.lt
  have hk3 : RunK W rb [.slice aa AN ac, .slice fa fn fc] [.slice aa AN ac, .slice fa fn fc, .slice ia il ik, .slice none 0 0, I 0, I most, I 0, I 0, .slice none 0 0, I 0] w3 := by
    rw [hw3, hrb]
    exact ⟨HB2.out.alloc HB2.out.size _, heap_old _ _ HP2.out, heap_old _ _ HS2.out, heap_new _ _, hrb ▸ hrl⟩
  rw [← hw3, ← hrb]
  have s0 := hk3.2.1.cell 0
  simp only [List.getElem?_cons_zero] at s0
  have HK3 := Lib.hid hk3
  clear hw3 hrb hk3 q0 q1 HB0 HP0 HS0 HB1 HB1' HB2 HP2 HS2
  go_upto_region 6 with (fail)
  clear s0
  go_loopg [28] AN (fun gh i wr => ∃ k : Nat, gh + k = AN ∧ i = I k ∧ Hid (∃ (gz : List (Nat × Nat)) (arv : Value), ArI p rb k wr arv gz ∧ RunK W rb [.slice aa AN ac, .slice fa fn fc] [.slice aa AN ac, .slice fa fn fc, .slice ia il ik, arv, I 0, I most, I 0, I 0, .slice none 0 0, I 0] wr))
  case atStart => exact ⟨0, by omega, rfl, Lib.hid ⟨[], _, ArI.nil _ _ _, HK3.out⟩⟩
  case round =>
    obtain ⟨k, hg, rfl, HH⟩ := hrel
    obtain ⟨wo, rfl⟩ : ∃ wo, wo = wr := ⟨_, rfl⟩
    obtain ⟨gz, arv, hai, hrk⟩ := HH.out
    have HAI := Lib.hid hai
    have HRK := Lib.hid hrk
    clear HH hai hrk
    by_cases hlt : k < AN
    · have hltz : (k : Int) < (AN : Int) := by omega
      have hkp : k < p.arrays.length := by rw [← HAN.out]; exact hlt
      obtain ⟨b, o, C, rfl, _, hC, hrx⟩ := (HX.out.below HRK.out.1).arrays.at hkp
      have e0 := hC 0 (by omega)
      have e1 := hC 1 (by omega)
      rw [hrx.1] at e0
      rw [hrx.2] at e1
      simp only [Nat.add_zero] at e0
      have hsz := ((HRS.out.okp.arrays p.arrays[k] (List.getElem_mem hkp)).2)
      obtain ⟨nm, hnm⟩ : ∃ x, x = (p.arrays[k]).name := ⟨_, rfl⟩
      obtain ⟨n, hn⟩ : ∃ x, x = (p.arrays[k]).size.toNat := ⟨_, rfl⟩
      have hnz : (p.arrays[k]).size = (n : Int) := by rw [hn]; omega
      rw [← hnm] at e0
      rw [hnz] at e1 hsz
      have hn9 : n ≤ 1048576 := by omega
      have HN := Lib.hid hn
      have HKP := Lib.hid hkp
      clear hC hrx hnm hn hnz hsz
      go_upto_region 8 with (fail)
      obtain ⟨ab, hab⟩ : ∃ x, x = wo.heap.size := ⟨_, rfl⟩
      obtain ⟨wa, hwa⟩ : ∃ w, w = wo.alloc (.cells #[S nm, I n] 68) := ⟨_, rfl⟩
      have hra : Row wa ab 68 [S nm, I n] := by rw [hwa, hab]; exact heap_new _ _
      have hka := HRK.out.kept (w' := wa) (row := none) (by rw [hwa]; exact alloc_grown _ _ none) (fun r e => by cases e)
      have haa := HAI.out.kept (w' := wa) (row := none) (by rw [hwa]; exact alloc_grown _ _ none) (fun r e => by cases e)
      have hob : arv.ownBlock ≠ some ab := fun e => by have := (ownsRow_base HAI.out.own _ e).2; omega
      rw [← hwa, ← hab]
      have HRA := Lib.hid hra
      have HKA := Lib.hid hka
      have HAA := Lib.hid haa
      have HOB := Lib.hid hob
      clear e0 e1 hwa hab hra hka haa hob HAI HRK
      refine wp_region_ordV (by kernel_rfl) (fun X => X.cell? ⟨rb, 3, none⟩ = some arv ∧ X.cell? ⟨ab, 1, none⟩ = some (I n))
        [(0, 0), (0, 1), (0, 2), (0, 3), (0, 4), (0, 5), (0, 6), (1, 7), (1, 8), (1, 9), (0, 10), (0, 11), (2, 12)] (by kernel_rfl) ?hS ?_
      case hS => intro wd hh; exact ⟨row_at HKA.out.2.2.2.1 hh 3, row_at HRA.out hh 1⟩
      intro wd hh hgd hS
      have HRD := Lib.hid (HRA.out.kept hgd (by simp))
      have HKD := Lib.hid (HKA.out.kept hgd (fun r e => by cases e))
      have HAD := Lib.hid (HAA.out.kept hgd (fun r e => by cases e))
      clear hh hgd HRA HKA HAA
      simp only [pickOps, List.map_cons, List.map_nil, List.getElem?_cons_zero, List.getElem?_cons_succ, Option.getD_some]
      repeat (refine wpOrd_look (v := ?_) (by rfl) ?_ (by assumption) (fun _ _ _ h => h) ?_; rotate_left; (· (intro wS hSw; (try dsimp only at hSw); go_simp; (first | done | with_reducible rfl))); simp only [Act.put, List.setIfInBounds_toArray, List.set_cons_zero, List.set_cons_succ])
      refine wpOrd_turn ?_
      go_wp2_with (first
        | (at_make; refine wpList_mkI rfl _ _ rfl n rfl rfl hn9 ?_))
      obtain ⟨wm, hwm0⟩ : ∃ w, w = wd.alloc (.cells (Array.replicate n (I 0)) 3) := ⟨_, rfl⟩
      have hwm : wm = wd.alloc (.cells (List.replicate n (I 0)).toArray 3) := by rw [hwm0, List.toArray_replicate]
      have hgm : wd.grownBy wm none := by rw [hwm]; exact alloc_grown _ _ none
      have HRM := Lib.hid (HRD.out.kept hgm (by simp))
      have HKM := Lib.hid (HKD.out.kept hgm (fun r e => by cases e))
      have HWM := Lib.hid hwm
      rw [← hwm0]
      clear hwm hwm0 hgm hS
      refine QN_keep ⟨HKM.out.2.2.2.1.cell 3, HRM.out.cell 1⟩ fun hS => ?_
      refine wpOrd_turn ?_
      go_wp2
      obtain ⟨wb, hwb⟩ : ∃ w, w = wm.alloc (.cells #[.slice (some ⟨wd.heap.size, 0, none⟩) n n] 22) := ⟨_, rfl⟩
      have hgb : wm.grownBy wb none := by rw [hwb]; exact alloc_grown _ _ none
      have HRB := Lib.hid (HRM.out.kept hgb (by simp))
      have HKB := Lib.hid (HKM.out.kept hgb (fun r e => by cases e))
      have HNB := Lib.hid (show Row wb wm.heap.size 22 [.slice (some ⟨wd.heap.size, 0, none⟩) n n] by rw [hwb]; exact heap_new _ _)
      have HAB := Lib.hid ((HAD.out.kept (w' := wm) (row := none) (by rw [HWM.out]; exact alloc_grown _ _ none) (fun r e => by cases e)).kept hgb (fun r e => by cases e))
      have HWB := Lib.hid hwb
      have hrbw : rb + 1 ≤ wb.heap.size := HKB.out.2.2.2.1.lt
      have hgl : gz.length ≤ 1000000000 := by rw [HAB.out.count (by have := HKP.out; omega)]; omega
      rw [← hwb]
      clear hwb hgb hS
      refine QN_keep ⟨HKB.out.2.2.2.1.cell 3, HRB.out.cell 1⟩ fun hS => ?_
      refine wpOrd_turn ?_
      go_wp2_with (first
        | (at_builtin; refine wpList_appS slSl rfl _ _ rfl gEnc_len gEnc_one (rb + 1) arv gz rfl HAB.out.own wm.heap.size (wd.heap.size, n) rfl (fun j hj => (cell_of_block HNB.out j).trans (by simp [gEnc])) hgl (by decide) hrbw ?_; intro g' cap w6 ho6 hg6 hat6 hlt6; have HO6 := Lib.hid ho6; have HG6 := Lib.hid hg6; have HAT := Lib.hid hat6; clear ho6 hg6 hat6 hlt6))
      have hob6 : ∀ r, arv.ownBlock = some r → rb < r := fun r e => (ownsRow_base HAB.out.own r e).1
      have HK6 := Lib.hid (HKB.out.kept HG6.out hob6)
      have HR6 := Lib.hid (HRB.out.kept HG6.out (fun e => HOB.out e.symm))
      clear hS hob6
      refine QN_keep ⟨HK6.out.2.2.2.1.cell 3, HR6.out.cell 1⟩ fun hS => ?_
      repeat (refine wpOrd_look (v := ?_) (by rfl) ?_ (by assumption) (fun _ _ _ h => h) ?_; rotate_left; (· (intro wS hSw; (try dsimp only at hSw); go_simp; (first | done | with_reducible rfl))); simp only [Act.put, List.setIfInBounds_toArray, List.set_cons_zero, List.set_cons_succ])
      clear hS
      have f3 := HK6.out.2.2.2.1.frozen 3
      have c3 := HK6.out.2.2.2.1.cell 3
      simp only [List.getElem?_cons_zero, List.getElem?_cons_succ] at c3
      refine wpOrd_last ?_
      go_wp2
      refine QN_normal (wpOrd_nil ?_)
      have hgl6 : gz.length = k := HAB.out.count (by have := HKP.out; omega)
      have h6 := ArI.app (o := .cells #[.slice (some ⟨wd.heap.size, 0, none⟩) n n] 22) HAD.out HKP.out HN.out (by have := HKD.out.2.2.2.1.lt; exact this) HO6.out (by rw [← HWM.out, ← HWB.out]; exact HG6.out) rfl (by rw [← HWM.out, ← HWB.out]; exact HAT.out)
      obtain ⟨w7, hw7⟩ : ∃ w7, w7 = w6.setCell ⟨rb, 3, none⟩ (.slice (some ⟨g', 0, none⟩) (gz.length + 1) cap) := ⟨_, rfl⟩
      have h7 := h6.kept (w' := w7) (row := some rb) (by rw [hw7]; exact setCell_grown _ _ _ _) (fun r e => by cases e; exact Nat.le_refl _)
      have hk7 := HK6.out.set 3 (.slice (some ⟨g', 0, none⟩) (gz.length + 1) cap)
      rw [← hw7] at hk7 ⊢
      have H7 := Lib.hid h7
      have HK7 := Lib.hid hk7
      clear hw7 hk7 h6 h7 f3 c3
      go_wp2
      go_roundg (AN - (k + 1))
      case measure => omega
      case rel => exact ⟨k + 1, by omega, by go_num, Lib.hid ⟨_, _, H7.out, HK7.out⟩⟩
    · have hltz : ¬ (k : Int) < (AN : Int) := by omega
      have hkn : k = AN := by omega
      subst hkn
      obtain ⟨F, hF⟩ : ∃ F : Nat → Prop, F = fun b => b < wo.heap.size ∧ b ≠ rb ∧ ∀ x ∈ gz, x.1 ≠ b := ⟨_, rfl⟩
      obtain ⟨hbl, hp3, hs3, hr3, hrl2⟩ := HRK.out
      have hWF : ∀ b, b < W.heap.size → F b := fun b hb => by
        rw [hF]
        have := hbl.size
        exact ⟨by omega, by omega, fun x hx => by have := (HAI.out.row x hx).1; omega⟩
      have hglk : gz.length = p.arrays.length := by rw [HAI.out.count (by rw [HAN.out]; exact Nat.le_refl _)]; exact HAN.out
      let c : RunC := ⟨F, p, .slice aa k ac, .slice fa fn fc, arv, gz, most, rb⟩
      have her : ER c F wo 0 (st0 p inp) := by
        refine ⟨⟨fun b hb => by rw [hF] at hb; exact hb.1, fun b hb => hb, by show ¬ F rb; rw [hF]; exact fun h => h.2.1 rfl, (HX.out.below hbl).weak hWF, ?_, HAI.out.nodup, fun x hx => ⟨?_, ?_⟩, ?_, hglk, fun i x l hx hl => ?_⟩, ⟨(by simp), (by simp), (by omega), HM.out⟩, .slice ia il ik, .slice none 0 0, hr3, ⟨?_, HI.out.room⟩, OwnInts.nil _ _, fun g hg => (by cases hg)⟩
        · -- the arrays' slice
          show RSlB F 1 RAr wo arv gz
          rcases HAI.out.own.2 with ⟨hv, h0⟩ | ⟨g, cap, cur, hv, hbg, hgr, hrest⟩
          · have hn0 : gz = [] := List.length_eq_zero_iff.1 h0
            rw [hv, hn0]
            exact RSlB.nil _ _ _ _
          · refine ⟨some ⟨g, 0, none⟩, cap, hv, by rw [hglk]; have := HRS.out.few; omega, .inr ⟨g, 0, rfl, ?_, fun i x hx => ⟨fun _ => .slice (some ⟨x.1, 0, none⟩) x.2 x.2, fun j hj => ?_, rfl⟩⟩⟩
            · rw [hF]
              exact ⟨(Array.getElem?_eq_some_iff.1 hgr).1, by omega, fun x hx e => (HAI.out.row x hx).2.1 (by rw [hv, e]; rfl)⟩
            · obtain ⟨hi, hxi⟩ := List.getElem?_eq_some_iff.1 hx
              obtain ⟨g2, c2, hv2, _, hcell⟩ := HAI.out.own.cell gEnc_len hi
              have hgg : g2 = g := by rw [hv] at hv2; simp at hv2; exact hv2.1.symm
              obtain rfl : j = 0 := by omega
              have := (hcell 0 (by decide)).1
              rw [hgg, hxi] at this
              rw [Nat.zero_add, this]
              rfl
        · have := (HAI.out.row x hx).1; show x.1 ≠ rb; omega
        · rw [hF]; exact fun h => h.2.2 x hx rfl
        · show (p.arrays.map fun a => List.replicate a.size.toNat (0 : Int)).length = gz.length; rw [List.length_map, hglk]
        · have hx : gz[i]? = some x := hx
          have hl : (p.arrays.map fun a => List.replicate a.size.toNat (0 : Int))[i]? = some l := hl
          obtain ⟨hi, hxi⟩ := List.getElem?_eq_some_iff.1 hx
          have h3 := (HAI.out.row x (by rw [← hxi]; exact List.getElem_mem hi)).2.2
          have h2 := congrArg (fun l => l[i]?) HAI.out.len
          simp only [List.getElem?_map, hx, HAN.out, List.take_length, Option.map_some] at h2
          rw [List.getElem?_map] at hl
          cases hp : p.arrays[i]? with
          | none => rw [hp] at hl; cases hl
          | some a =>
            rw [hp] at hl h2
            obtain rfl : List.replicate a.size.toNat (0 : Int) = l := by simpa using hl
            obtain h2 : x.2 = a.size.toNat := by simpa using h2
            rw [List.map_replicate, List.length_replicate, ← h2]
            exact ⟨h3, rfl⟩
        · exact (HI.out.sl.grown (below_grown hbl none) (fun r e => by cases e) (fun _ _ h => h)).weak hWF (fun _ _ h => h)
      have hmain := main_any c HRS.out.xp K _ wo (st0 p inp) her (by show 2 * (most - ((0 : Nat) : Int)).toNat + 1 ≤ K; have := HK.out; omega)
      have HMA := Lib.hid (show Calls Tryz.prog 32 #[.pointer (some ⟨rb, 0, none⟩)] wo _ from hmain)
      have hFs : F (W.heap.size + 1) := by rw [hF]; exact ⟨hs3.lt, by omega, fun x hx => by have := (HAI.out.row x hx).1; omega⟩
      have HFS := Lib.hid hFs
      have HWF := Lib.hid hWF
      have HB3 := Lib.hid hbl
      have HP3 := Lib.hid hp3
      have HS3 := Lib.hid hs3
      have hrn : rb ≠ W.heap.size + 1 := by omega
      clear hbl hp3 hs3 hr3 her hmain hFs hWF hF hglk hrl2
      go_upto_region 11 with (first
        | (go_at_call 32; refine HMA.out.mono ?_; rintro e' w4 ⟨rfl, hk4, iv4, ov4, d4, hr4, ho4⟩; have HK4 := Lib.hid hk4; have HR4 := Lib.hid hr4; have HO4 := Lib.hid ho4; clear hk4 hr4 ho4))
      have hs4 := HK4.out.row HS3.out HFS.out
      have hrun : runM p K inp most = tellR (callM p (mach p most K).stmt 0 wMain [] (st0 p inp)) := runM_eq p K inp most
      have hr4 := HR4.out
      have ho4 := HO4.out
      change Row w4 rb 78 [.slice aa k ac, .slice fa fn fc, iv4, arv, I d4, I most, I (tellR (callM p (mach p most K).stmt 0 wMain [] (st0 p inp))).status, I (tellR (callM p (mach p most K).stmt 0 wMain [] (st0 p inp))).code, ov4, I (tellR (callM p (mach p most K).stmt 0 wMain [] (st0 p inp))).steps] at hr4
      change OwnInts w4 0 ov4 (tellR (callM p (mach p most K).stmt 0 wMain [] (st0 p inp))).out at ho4
      rw [← hrun] at hr4 ho4
      obtain ⟨oa, oc, rfl⟩ := ho4.slice
      obtain ⟨L, hL⟩ : ∃ L, L = runM p K inp most := ⟨_, rfl⟩
      rw [← hL] at hr4 ho4 HQ
      obtain ⟨ol, hol⟩ : ∃ n, n = L.out.length := ⟨_, rfl⟩
      have HOL := Lib.hid hol
      rw [← hol] at hr4 ho4
      have k6 := hr4.cell 6
      have k7 := hr4.cell 7
      have k8 := hr4.cell 8
      have k9 := hr4.cell 9
      simp only [List.getElem?_cons_zero, List.getElem?_cons_succ] at k6 k7 k8 k9
      obtain ⟨w5, hw5⟩ : ∃ w5, w5 = w4.setRow (W.heap.size + 1) #[I L.status, I L.code, .slice oa ol oc, I L.steps] := ⟨_, rfl⟩
      have hwe5 := hw5.symm
      have hg5 : w4.grownBy w5 (some (W.heap.size + 1)) := by rw [hw5]; exact setRow_grown
      have hs5 : Row w5 (W.heap.size + 1) 37 [I L.status, I L.code, .slice oa ol oc, I L.steps] := by rw [hw5]; exact setRow_heap _ _ _ _ _ _ hs4
      have ho5 := OwnInts.tag ho4 hg5 (NoTag.box 3 hs4 (by decide))
      have hb5 : Below W.heap.size W w5 := by
        refine ⟨(hg5.os.trans HK4.out.os).trans HB3.out.os, (hg5.tape.trans HK4.out.tape).trans HB3.out.tape, (hg5.output.trans HK4.out.output).trans HB3.out.output, Nat.le_trans (Nat.le_trans HB3.out.size HK4.out.size) hg5.size, fun b hb => ?_⟩
        have h1 := HB3.out.size
        have h2 := HK4.out.size
        exact ((hg5.block b (by omega) (by simp; omega)).trans (HK4.out.block b (HWF.out b hb))).trans (HB3.out.block b hb)
      have HS4 := Lib.hid hs4
      have HS5 := Lib.hid hs5
      have HO5 := Lib.hid ho5
      have HB5 := Lib.hid hb5
      clear hs4 hrun hr4 ho4 hL hol hw5 hg5 hs5 ho5 hb5
      go_wp2_with (first
        | (refine store_first 37 (.tmp 6) (.tmp 50) rfl ?_; refine wpList_store_row rfl 37 (.tmp 6) (.tmp 50) rfl (W.heap.size + 1) _ rfl rfl 37 r37Z HS4.out (by kernel_rfl) (by rfl) (by simp [Value.oneCell']) ?_; rw [hwe5]))
      refine bodyPost_ret (results_f17 rfl HS5.out) rfl ?_
      rw [HQ.out]
      exact Lib.hid ⟨_, rfl, HO5.out, HB5.out⟩
end Go.Proofs.YtjgbkdbkachciaaGreatDoor
