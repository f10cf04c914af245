import Derived.Test.YtdlcpmjhngfgkaaD6
namespace Go.Proofs.Ytdlcpmjhngfgkaa
open Go.RowKit Go.Shelf
attribute [local go_sem] Oper.semAt_some

theorem run_app0 {t e size bytes : Nat} (S : SlT t e size bytes) {w : World} (ty : TypeId) {base : Nat} {v : Value} {n : Nat} {xs : List Value} (hown : w.ownsRow base e size v n xs) (ad : Option Addr) (c : Nat) :
    (Builtin.append_ #[t, t] ty #[v, .slice ad 0 c]).run Try.prog w = .ok v w := by
  obtain ⟨i, z, hi, hz, hsz, hby, hzs⟩ := S.hi
  have hld : ∀ x : Addr, (loadCells x 0).run Try.prog w = .ok #[] w := fun x => by simp [loadCells, loadCellsFrom]
  rcases hown.2 with ⟨rfl, rfl⟩ | ⟨g, cap, cur, rfl, _, _, hnc, _⟩
  · cases ad <;> simp [Builtin.append_, run_underlying S.ht, sizeOf, typeInfo, hi, Builtin.lenOf, Builtin.firstCells, hld]
  · cases ad <;> simp [Builtin.append_, run_underlying S.ht, sizeOf, typeInfo, hi, Builtin.lenOf, Builtin.firstCells, hnc, storeCells, hld]

/-- append of ints that lie somewhere -/
theorem run_appN {w : World} (ty : TypeId) {base : Nat} {v : Value} {l : List Int} (hown : OwnInts w base v l) {xv : Value} {ys : List Int} (hys : RInts w xv ys) (hl : l.length + ys.length ≤ 10000000000000) (hbase : base ≤ w.heap.size) :
    ∃ v' w', (Builtin.append_ #[32, 32] ty #[v, xv]).run Try.prog w = .ok v' w' ∧ OwnInts w' base v' (l ++ ys) ∧ w.grownBy w' v.ownBlock := by
  obtain ⟨hm, ⟨rfl, ad, c, rfl⟩ | ⟨hp, b, of, c, rfl, hc⟩⟩ := hys.form
  · exact ⟨v, w, run_app0 slInt ty hown ad c, by simpa using hown, ⟨rfl, rfl, rfl, Nat.le_refl _, fun _ _ _ => rfl⟩⟩
  · obtain ⟨i, z, hi, hz, hsz, hby, hzs⟩ := slInt.hi
    obtain ⟨g, cap, w', h1, h2, h3, _⟩ := run_append_lies (P := Try.prog) w 32 ty base 3 i z 1 8 slInt.ht hi hz hsz hby hzs slInt.pos v l.length _ hown ⟨b, of, none⟩ ys.length c (ys.map (Value.int .i64)) (by simp) (fun j u hu => by rw [add_nat]; exact hc j u hu)
      (fun u hu => by obtain ⟨x, _, rfl⟩ := List.mem_map.1 hu; rfl) hp (by unfold maxLen; omega) (by omega) hbase w.heap.size rfl
    exact ⟨_, w', h1, by unfold OwnInts; rw [List.map_append, List.length_append]; exact h2, h3⟩
/-- append of one int -/
theorem run_appI {w : World} (ty : TypeId) {base : Nat} {v : Value} {l : List Int} (hown : OwnInts w base v l) {g c : Nat} {y : Int} (hg : w.cell? ⟨g, 0, none⟩ = some (I y)) (hl : l.length ≤ 10000000000000) (hbase : base ≤ w.heap.size) :
    ∃ v' w', (Builtin.append_ #[32, 32] ty #[v, .slice (some ⟨g, 0, none⟩) 1 c]).run Try.prog w = .ok v' w' ∧ OwnInts w' base v' (l ++ [y]) ∧ w.grownBy w' v.ownBlock := by
  obtain ⟨g', cap, w', h1, h2, h3, _⟩ := run_appV slInt ty (vs := l.map (Value.int .i64)) (by rw [List.length_map]; exact hown) (c := c) hg rfl (by simp; omega) (by simp [maxLen]; omega) hbase
  exact ⟨_, w', h1, by unfold OwnInts; rw [List.map_append, List.length_append]; simpa using h2, h3⟩

section
variable {F : Fence} {m : Nat} {w : World} {ops : Array Oper} {rest : List Oper} {o : Oper} {a : Act} {Q : Exit → Act → World → Prop}
theorem wpListIn_appI (hgd : o.guard = none) (s x : Operand) (ho : o.op = .call { callee := .builtin .append, args := #[s, x], argTypes := #[32, 32] }) {base : Nat} {v : Value} {l : List Int} (hs : a.eval s = v) (hown : OwnInts w base v l)
    {g c : Nat} {y : Int} (hx : a.eval x = .slice (some ⟨g, 0, none⟩) 1 c) (hg : w.cell? ⟨g, 0, none⟩ = some (I y)) (hl : l.length ≤ 10000000000000) (hbase : base ≤ w.heap.size)
    (h : ∀ v' w', OwnInts w' base v' (l ++ [y]) → w.grownBy w' v.ownBlock → wpListIn F m Try.prog ops Q rest (a.put o.dst v') w') : wpListIn F m Try.prog ops Q (o :: rest) a w := by
  obtain ⟨v', w', h1, h2, h3⟩ := run_appI o.type hown hg hl hbase (c := c)
  refine wpListIn_plain hgd fun K' hK' => ?_
  have hrun := run_opApp (o := o) (ev := a.eval) s x ho hs hx h1
  unfold Oper.wpIn
  refine ⟨by simp [Oper.about, ho, resolve, Target.leads], ?_⟩
  rw [Oper.semAt_plain F _ _ (by rw [ho]; intro c hc'; cases hc'), hrun]
  exact hK' _ _ (h v' w' h2 h3)
end

/-- all that a region's operations write, in a row -/
def putAll : List Oper → Nat → (Nat → Value) → Act → Act
  | [], _, _, a => a
  | o :: l, n, vs, a => putAll l (n + 1) vs (a.put o.dst (vs n))

theorem wpIn_region_rvP {F : Fence} {n : Nat} {P : Program} {ops : Array Oper} {Q : Exit → Act → World → Prop} {id : Nat} {a0 : Act} {w : World} (hm : P.follows .mixedOrders = true) (E : List Nat) (hE : E.Nodup) (hok : rgOK ops a0.tmps.size = true) (hEs : (E.all fun e => decide (e < ops.size)) = true)
    (hfr : ∀ vs, ({ tmps := ((List.range a0.tmps.size).map (slotOf ops a0 vs (fun _ => true))).toArray, defers := a0.defers } : Act) = putAll ops.toList 0 vs a0)
    (C : Nat → (Nat → Value) → World → Prop) (Step : World → World → Prop) (Φ : Nat → Value → World → Prop) (h0 : C 0 (fun _ => undef) { w with drawn := w.drawn + 1 })
    (hst : ∀ j v W W', Step W W' → Φ j v W → Φ j v W')
    (hop : allL (fun i o => ∀ (k : Nat) (a : Act) (W : World) (vs : Nat → Value), ops[i]? = some o → rgStage ops E i k = true → C k vs W → (∀ j, bef ops i j = true → Φ j (vs j) W) → a.tmps.size = a0.tmps.size →
      (∀ t ∈ o.looksAt ops, a.tmps.getD t undef = slotOf ops a0 vs (bef ops i) t) →
      wpOpIn F n P ops Q i (fun a' W' => ∃ v, a' = a.put o.dst v ∧ C (if i ∈ E then k + 1 else k) (fun k => if k = i then v else vs k) W' ∧ Step W W' ∧ Φ i v W') a W) ops.toList 0)
    (hend : ∀ vs W, C E.length vs W → (∀ j, j < ops.size → Φ j (vs j) W) → Q .normal (putAll ops.toList 0 vs a0) W) : (Code.region id ops true).wpIn F n P Q a0 w :=
  wpIn_region_rvL hm E hE hok hEs C Step Φ h0 hst hop (fun vs W h1 h2 => by rw [hfr]; exact hend vs W h1 h2)

def plI (x : LIns) : List Int := x.uses ++ [setsI x.kind x.d]
def plB (b : LBlock) : List Int := b.term.wants ++ b.ins.flatMap plI
def placesL (bl : List LBlock) : List Int := bl.flatMap plB

theorem foldl_flat_take {α : Type} (g : α → List Int) (l : List α) {k : Nat} (hk : k < l.length) : (l.take (k + 1)).flatMap g = (l.take k).flatMap g ++ g l[k] := by
  rw [List.take_add_one, List.getElem?_eq_getElem hk, List.flatMap_append]
  simp only [Option.toList_some, List.flatMap_cons, List.flatMap_nil, List.append_nil]
theorem flat_le {α : Type} (g : α → List Int) (l : List α) (k : Nat) : ((l.take k).flatMap g).length ≤ (l.flatMap g).length := by
  conv => rhs; rw [← List.take_append_drop k l, List.flatMap_append]
  simp

set_option maxRecDepth 100000 in
set_option maxHeartbeats 4000000 in
theorem places_any (f : LFlow) (bv : Value) (w : World) (hbv : RSl 5 RBlk w bv f.blocks) (hU : (placesL f.blocks).length ≤ 1000000000000) :
    Calls Try.prog 17 #[f.agg bv] w (RetInts w (placesL f.blocks)) := by
  obtain ⟨a0, c0, rfl, hlen⟩ := RSl.form hbv
  have HBV := Lib.hid hbv
  clear hbv
  refine (callsIn_wide (n := 8)).1 ?_
  refine callsIn_of_wp Try.func17 rfl trivial ?_ rfl
  simp only [Try.ntmps17, List.size_toArray, List.length_cons, List.length_nil, Nat.reduceAdd, Nat.reduceSub, Array.replicate_succ, Array.replicate_zero, List.push_toArray, List.append_toArray, List.nil_append, List.cons_append]
  gi_wp2
  gi_loopg [2, 10] f.blocks.length (fun gh ov i wr => ∃ k : Nat, gh + k = f.blocks.length ∧ i = I k ∧ Below w.heap.size w wr ∧ OwnInts wr w.heap.size ov ((f.blocks.take k).flatMap plB))
  case atStart => exact ⟨0, rfl, rfl, below_a1 _ _, by simpa using OwnInts.nil _ _⟩
  case round =>
    obtain ⟨k, hg, rfl, hbe, hown⟩ := hrel
    obtain ⟨wo, rfl⟩ : ∃ wo, wo = wr := ⟨_, rfl⟩
    have HBE := Lib.hid hbe
    have HOW := Lib.hid hown
    obtain ⟨oa, oc, hov⟩ := hown.slice
    clear hbe hown
    by_cases hlt : k < f.blocks.length
    · obtain ⟨b1, o1, c1, C, he, hC, h1', h2', h3', h4', gb⟩ := RSl.at HBV.out hlt
      obtain ⟨rfl, rfl⟩ : a0 = some ⟨b1, o1, none⟩ ∧ c0 = c1 := by simpa using he
      obtain ⟨blk, hblk⟩ : ∃ blk, blk = f.blocks[k] := ⟨_, rfl⟩
      rw [← hblk] at h1' h2' h3' h4' gb
      have hcell : ∀ j, j < 5 → wo.cell? ⟨b1, o1 + k * 5 + j, none⟩ = some (C j) := fun j hj => by
        rw [HBE.out.cell (p := ⟨b1, o1 + k * 5 + j, none⟩) (World.block_lt_of_cell? w _ (hC j hj))]; exact hC j hj
      obtain ⟨ai, ci, hiv, hilen⟩ := RSl.form gb.ins
      have e0 := hcell 0 (by decide); rw [hiv] at e0 gb
      have e1 := hcell 1 (by decide); rw [h1'] at e1
      have e2 := hcell 2 (by decide); rw [h2'] at e2
      have e3 := hcell 3 (by decide); rw [h3'] at e3
      have e4 := hcell 4 (by decide); rw [h4'] at e4
      simp only [Nat.add_zero] at e0
      have HGB := Lib.hid gb
      have HBK := Lib.hid hblk
      have hle := HBE.out.size
      clear hC hcell h1' h2' h3' h4' he gb hiv hblk
      obtain ⟨pv, hpv⟩ : ∃ pv, pv = (f.blocks.take k).flatMap plB := ⟨_, rfl⟩
      have hpl : (pv ++ plB blk).length ≤ 1000000000000 := by
        have := flat_le plB f.blocks (k + 1)
        rw [foldl_flat_take plB f.blocks hlt] at this
        rw [hpv, HBK.out]
        exact Nat.le_trans this hU
      rw [← hpv] at HOW hov
      have HPV := Lib.hid hpv
      clear hpv
      have hpl' : pv.length ≤ 1000000000000 := by rw [List.length_append] at hpl; omega
      have hnb : ∀ k, u2.ownBlock = some k → w.heap.size ≤ k ∧ k < wo.heap.size := ownsRow_base HOW.out
      have HNB := Lib.hid hnb
      have HOV := Lib.hid hov
      clear hnb hov
      have hw : blk.term.wants = if blk.term.kind = 2 ∨ blk.term.kind = 3 ∨ blk.term.kind = 4 then [blk.term.a] else [] := rfl
      have HW := Lib.hid hw
      clear hw
      by_cases hk2 : blk.term.kind = 2 <;> by_cases hk3 : blk.term.kind = 3 <;> by_cases hk4 : blk.term.kind = 4
      all_goals first
        | omega
        | skip
      all_goals
        gi_wp2_with (first
          | (gi_at_builtin; refine wpListIn_appI rfl (.tmp 21) (.tmp 25) rfl (base := w.heap.size) (v := u2) (l := pv) rfl ((HOW.out.tag (alloc_grown _ _ none) (NoTag.none _ _)).tag (alloc_grown _ _ none) (NoTag.none _ _)) (g := wo.heap.size + 1) (c := 1) (y := blk.term.a) rfl (by rw [cell_of_block (heap_new2 _ _ _)]; rfl) (by omega) (by simp; omega) ?_; intro v1 w1 own1 grow1; have hk1 := grown_old grow1 (heap_old _ _ (heap_new wo _)) (fun e => Nat.lt_irrefl _ (HNB.out _ e.symm).2); have d0 := cell_of_block hk1 0; simp only [List.getElem?_toArray, List.getElem?_cons_zero] at d0; have hl1 := grow1.size; simp only [World.size_alloc] at hl1; have HO1 := Lib.hid own1; have HG1 := Lib.hid grow1; clear own1 grow1 hk1)
          | gi_in)
      all_goals
        try rw [show (blk.term.kind == 2) = false from by simpa using hk2, show (blk.term.kind == 3) = false from by simpa using hk3, show (blk.term.kind == 4) = false from by simpa using hk4]
        have HK := Lib.hid (And.intro hk2 (And.intro hk3 hk4))
        clear hk2 hk3 hk4
        gi_loopg [2, 30] blk.ins.length (fun gh ov i wr => ∃ j : Nat, gh + j = blk.ins.length ∧ i = I j ∧ Below w.heap.size w wr ∧ OwnInts wr w.heap.size ov (pv ++ blk.term.wants ++ (blk.ins.take j).flatMap plI))
        case atStart =>
          first
            | exact ⟨0, rfl, rfl, ((HBE.out.alloc hle _).alloc (by simp; omega) _).grown HG1.out (by simp; omega) (fun k hk => (HNB.out k hk).1), by rw [HW.out, if_pos (by have := HK.out; omega)]; simpa using HO1.out⟩
            | exact ⟨0, rfl, rfl, HBE.out.alloc hle _, by rw [HW.out, if_neg (by have := HK.out; omega)]; simpa using HOW.out.tag (alloc_grown _ _ none) (NoTag.none _ _)⟩
        case round =>
          obtain ⟨j, hg', rfl, hbx, hox⟩ := hrel
          obtain ⟨wx, rfl⟩ : ∃ wx, wx = wr := ⟨_, rfl⟩
          have HBX := Lib.hid hbx
          have HOX := Lib.hid hox
          clear hbx hox
          by_cases hlt' : j < blk.ins.length
          · obtain ⟨b2, o2, c2, C, he, hC, h0', h1', h2', h3', h4', h5', h6', gi⟩ := RSl.at HGB.out.ins hlt'
            obtain ⟨rfl, rfl⟩ : ai = some ⟨b2, o2, none⟩ ∧ ci = c2 := by simpa using he
            obtain ⟨ins, hins⟩ : ∃ ins, ins = blk.ins[j] := ⟨_, rfl⟩
            rw [← hins] at h0' h1' h2' h3' h4' h5' h6' gi
            have hcell : ∀ i, i < 8 → wx.cell? ⟨b2, o2 + j * 8 + i, none⟩ = some (C i) := fun i hi => by
              rw [HBX.out.cell (p := ⟨b2, o2 + j * 8 + i, none⟩) (World.block_lt_of_cell? w _ (hC i hi))]; exact hC i hi
            obtain ⟨aa, ca, hav, halen⟩ := RSl.form gi.args
            have e0 := hcell 0 (by decide); rw [h0'] at e0
            have e1 := hcell 1 (by decide); rw [h1'] at e1
            have e2 := hcell 2 (by decide); rw [h2'] at e2
            have e3 := hcell 3 (by decide); rw [h3'] at e3
            have e4 := hcell 4 (by decide); rw [h4'] at e4
            have e5 := hcell 5 (by decide); rw [h5'] at e5
            have e6 := hcell 6 (by decide); rw [h6'] at e6
            have e7 := hcell 7 (by decide); rw [hav] at e7 gi
            simp only [Nat.add_zero] at e0
            have HGI := Lib.hid (gi.below HBX.out)
            have HGW := Lib.hid gi
            have HIN := Lib.hid hins
            clear hC hcell h0' h1' h2' h3' h4' h5' h6' he gi hav hins
            gi_wp2
            obtain ⟨W3, hW3⟩ : ∃ W3, wx.alloc (.cells #[I ins.kind, I ins.d, I ins.a, I ins.b, I ins.op, I ins.n, .string ins.name, .slice aa ins.args.length ca] 41) = W3 := ⟨_, rfl⟩
            have hBx : W3.heap[wx.heap.size]? = some (.cells #[I ins.kind, I ins.d, I ins.a, I ins.b, I ins.op, I ins.n, .string ins.name, .slice aa ins.args.length ca] 41 (0, 0)) := by rw [← hW3]; exact heap_new _ _
            have hB3 : Below w.heap.size w W3 := by rw [← hW3]; exact HBX.out.alloc HBX.out.size _
            have hO3 : OwnInts W3 w.heap.size u2 (pv ++ blk.term.wants ++ (blk.ins.take j).flatMap plI) := by rw [← hW3]; exact HOX.out.tag (alloc_grown _ _ none) (NoTag.none _ _)
            have hG3 : GIns W3 ins (.slice aa ins.args.length ca) := by rw [← hW3]; exact HGI.out.below (below_a1 _ _)
            rw [hW3]
            clear hW3
            obtain ⟨q, hq⟩ : ∃ q, q = pv ++ blk.term.wants ++ (blk.ins.take j).flatMap plI := ⟨_, rfl⟩
            rw [← hq] at hO3
            have hql : q.length + ins.uses.length ≤ 1000000000000 := by
              have h1 := flat_le plI blk.ins (j + 1)
              rw [foldl_flat_take plI blk.ins hlt', ← HIN.out] at h1
              unfold plB at hpl
              rw [hq]
              have h2 : (plI ins).length = ins.uses.length + 1 := by simp [plI]
              simp only [List.length_append] at hpl h1 ⊢
              omega
            have HO3 := Lib.hid hO3
            have HB3 := Lib.hid hB3
            have HX3 := Lib.hid hBx
            have HG3 := Lib.hid hG3
            have HQ := Lib.hid hq
            clear hO3 hB3 hBx hG3 hq
            have hpb : ∀ W, (Below w.heap.size w W ∧ W.heap[wx.heap.size]? = some (.cells #[I ins.kind, I ins.d, I ins.a, I ins.b, I ins.op, I ins.n, .string ins.name, .slice aa ins.args.length ca] 41 (0, 0)) ∧ GIns W ins (.slice aa ins.args.length ca)) → ∀ W' row, W.grownBy W' row → (∀ r, row = some r → w.heap.size ≤ r) → NoTag W row 41 → (Below w.heap.size w W' ∧ W'.heap[wx.heap.size]? = some (.cells #[I ins.kind, I ins.d, I ins.a, I ins.b, I ins.op, I ins.n, .string ins.name, .slice aa ins.args.length ca] 41 (0, 0))) := fun W h W' row hg hr ht =>
              ⟨h.1.grown hg h.1.size hr, grown_old hg h.2.1 (fun e => ht _ e.symm _ _ h.2.1)⟩
            refine wpIn_region_rvP (by kernel_rfl) [2, 3, 5, 6, 7, 8] (by decide) (by kernel_rfl) (by kernel_rfl) (fun vs => by kernel_rfl)
              (fun k vs W => (Below w.heap.size w W ∧ W.heap[wx.heap.size]? = some (.cells #[I ins.kind, I ins.d, I ins.a, I ins.b, I ins.op, I ins.n, .string ins.name, .slice aa ins.args.length ca] 41 (0, 0))) ∧ match k with
                | 0 => OwnInts W w.heap.size u2 q
                | 1 => OwnInts W w.heap.size u2 q ∧ OwnInts W w.heap.size (vs 2) ins.uses
                | 2 => OwnInts W w.heap.size (vs 3) (q ++ ins.uses)
                | 3 => OwnInts W w.heap.size (vs 3) (q ++ ins.uses) ∧ vs 5 = I (setsI ins.kind ins.d)
                | 4 => OwnInts W w.heap.size (vs 3) (q ++ ins.uses) ∧ ∃ r, vs 6 = .slice (some ⟨r, 0, none⟩) 1 1 ∧ W.cell? ⟨r, 0, none⟩ = some (I (setsI ins.kind ins.d))
                | 5 => OwnInts W w.heap.size (vs 7) (q ++ ins.uses ++ [setsI ins.kind ins.d])
                | _ => OwnInts W w.heap.size (vs 8) (q ++ ins.uses ++ [setsI ins.kind ins.d]))
              (fun _ _ => True)
              (fun i v _ => match i with
                | 0 => v = u2
                | 1 => v = ins.agg (.slice aa ins.args.length ca)
                | 4 => v = ins.agg (.slice aa ins.args.length ca)
                | _ => True) ?h0 ?hst ?hop ?hend
            case h0 =>
              have hg : W3.grownBy { W3 with drawn := W3.drawn + 1 } none := ⟨rfl, rfl, rfl, Nat.le_refl _, fun _ _ _ => rfl⟩
              exact ⟨⟨HB3.out.grown hg HB3.out.size (fun _ e => by cases e), HX3.out⟩, HO3.out.tag hg (NoTag.none _ _)⟩
            case hst => intro i v W W' _ h; exact h
            case hop =>
              have hnt : ∀ {W : World} {v : Value} {l : List Int}, OwnInts W w.heap.size v l → NoTag W v.ownBlock 41 ∧ ∀ r, v.ownBlock = some r → w.heap.size ≤ r := fun h => ⟨ownsRow_notag h (by decide), fun r hr => (ownsRow_base h r hr).1⟩
              have hload : ∀ W : World, W.heap[wx.heap.size]? = some (.cells #[I ins.kind, I ins.d, I ins.a, I ins.b, I ins.op, I ins.n, .string ins.name, .slice aa ins.args.length ca] 41 (0, 0)) → W.cell? ⟨wx.heap.size, 0, none⟩ = some (I ins.kind) ∧ W.cell? ⟨wx.heap.size, 1, none⟩ = some (I ins.d) ∧ W.cell? ⟨wx.heap.size, 2, none⟩ = some (I ins.a) ∧ W.cell? ⟨wx.heap.size, 3, none⟩ = some (I ins.b) ∧ W.cell? ⟨wx.heap.size, 4, none⟩ = some (I ins.op) ∧ W.cell? ⟨wx.heap.size, 5, none⟩ = some (I ins.n) ∧ W.cell? ⟨wx.heap.size, 6, none⟩ = some (.string ins.name) ∧ W.cell? ⟨wx.heap.size, 7, none⟩ = some (.slice aa ins.args.length ca) := fun W h =>
                ⟨cell_of_block h 0, cell_of_block h 1, cell_of_block h 2, cell_of_block h 3, cell_of_block h 4, cell_of_block h 5, cell_of_block h 6, cell_of_block h 7⟩
              refine ⟨?_, ?_, ?_, ?_, ?_, ?_, ?_, ?_, ?_, trivial⟩
              · rintro stg a W4 vs ho hstg hC hΦ hsz hr
                obtain ⟨xa, xc, hx⟩ := HO3.out.slice
                have r2 : a.tmps.getD 2 undef = u2 := (hr 2 (by simp [Oper.looksAt, Op.operands])).trans (show slotOf _ _ vs _ 2 = u2 from by kernel_rfl)
                rw [hx] at r2
                refine rg_val ho rfl (fun _ _ => trivial) (by intro c h; cases h) (v := .slice xa q.length xc) (W' := W4) ?_ ⟨_, rfl, hC, trivial, hx.symm⟩
                go_simp
              · rintro stg a W4 vs ho hstg hC hΦ hsz hr
                obtain rfl := rgStage_k hstg 0 (by kernel_rfl) (by kernel_rfl)
                have r6 : a.tmps.getD 6 undef = (.pointer (some ⟨wx.heap.size, 0, none⟩)) := (hr 6 (by simp [Oper.looksAt, Op.operands])).trans (show slotOf _ _ vs _ 6 = (.pointer (some ⟨wx.heap.size, 0, none⟩)) from by kernel_rfl)
                obtain ⟨f0, f1, f2, f3, f4, f5, f6, f7⟩ := hload W4 hC.1.2
                refine rg_val ho rfl (fun _ _ => trivial) (by intro c h; cases h) (v := ins.agg (.slice aa ins.args.length ca)) (W' := W4) ?_ ⟨_, rfl, hC, trivial, rfl⟩
                go_simp
              · rintro stg a W4 vs ho hstg hC hΦ hsz hr
                obtain rfl := rgStage_k hstg 0 (by kernel_rfl) (by kernel_rfl)
                have r1 : a.tmps.getD 35 undef = _ := ((hr 35 (by simp [Oper.looksAt, Op.operands, Call.operands])).trans (show slotOf _ _ vs _ 35 = vs 1 from by kernel_rfl)).trans (hΦ 1 (by kernel_rfl))
                obtain ⟨hB, hO⟩ := hC
                refine rg_call ho rfl (fun _ _ => trivial) (by intro c h; cases h) (f := 36) (args := #[ins.agg (.slice aa ins.args.length ca)]) (W' := W4) ?_ (fun _ => by omega) (callsIn_wide.2 (uses_L ins _ W4 (GIns.below hB.1 HGW.out))) ?_
                · go_simp
                · rintro e w5 ⟨v5, rfl, own5, hb5⟩
                  have hg5 := below_grown hb5 none
                  exact ⟨v5, rfl, v5, rfl, ⟨⟨hB.1.trans (hb5.mono hB.1.size), grown_old hg5 hB.2 (by simp)⟩, hO.tag hg5 (NoTag.none _ _), own5.mono hB.1.size⟩, trivial, trivial⟩
              · rintro stg a W4 vs ho hstg hC hΦ hsz hr
                obtain rfl := rgStage_k hstg 1 (by kernel_rfl) (by kernel_rfl)
                have r1 : a.tmps.getD 34 undef = _ := ((hr 34 (by simp [Oper.looksAt, Op.operands, Call.operands])).trans (show slotOf _ _ vs _ 34 = vs 0 from by kernel_rfl)).trans (hΦ 0 (by kernel_rfl))
                have r2 : a.tmps.getD 36 undef = vs 2 := (hr 36 (by simp [Oper.looksAt, Op.operands, Call.operands])).trans (show slotOf _ _ vs _ 36 = vs 2 from by kernel_rfl)
                obtain ⟨hB, hO, hV⟩ := hC
                obtain ⟨v5, w5, hrun, own5, hg5⟩ := run_appN 32 hO (hV.reads HGW.out.uses (by omega)) (by omega) hB.1.size
                have h41 := hnt hO
                refine rg_val ho rfl (fun _ _ => trivial) (by intro c h; cases h) (v := v5) (W' := w5) ?_ ⟨_, rfl, ⟨⟨hB.1.grown hg5 hB.1.size h41.2, grown_old hg5 hB.2 (fun e => h41.1 _ e.symm _ _ hB.2)⟩, own5⟩, trivial, trivial⟩
                exact run_opApp (.tmp 34) (.tmp 36) rfl r1 r2 hrun
              · rintro stg a W4 vs ho hstg hC hΦ hsz hr
                have r6 : a.tmps.getD 6 undef = (.pointer (some ⟨wx.heap.size, 0, none⟩)) := (hr 6 (by simp [Oper.looksAt, Op.operands])).trans (show slotOf _ _ vs _ 6 = (.pointer (some ⟨wx.heap.size, 0, none⟩)) from by kernel_rfl)
                obtain ⟨f0, f1, f2, f3, f4, f5, f6, f7⟩ := hload W4 hC.1.2
                refine rg_val ho rfl (fun _ _ => trivial) (by intro c h; cases h) (v := ins.agg (.slice aa ins.args.length ca)) (W' := W4) ?_ ⟨_, rfl, hC, trivial, rfl⟩
                go_simp
              · rintro stg a W4 vs ho hstg hC hΦ hsz hr
                obtain rfl := rgStage_k hstg 2 (by kernel_rfl) (by kernel_rfl)
                have r1 : a.tmps.getD 38 undef = _ := ((hr 38 (by simp [Oper.looksAt, Op.operands, Call.operands])).trans (show slotOf _ _ vs _ 38 = vs 4 from by kernel_rfl)).trans (hΦ 4 (by kernel_rfl))
                obtain ⟨hB, hO⟩ := hC
                refine rg_call ho rfl (fun _ _ => trivial) (by intro c h; cases h) (f := 34) (args := #[ins.agg (.slice aa ins.args.length ca)]) (W' := W4) ?_ (fun _ => by omega) (callsIn_wide.2 (irSets_any _ _ _ _ _ _ _ _ W4)) ?_
                · go_simp
                · rintro e w5 ⟨rfl, hb5⟩
                  have hg5 := below_grown hb5 none
                  exact ⟨_, rfl, _, rfl, ⟨⟨hB.1.trans (hb5.mono hB.1.size), grown_old hg5 hB.2 (by simp)⟩, OwnInts.tag hO hg5 (NoTag.none _ _), rfl⟩, trivial, trivial⟩
              · rintro stg a W4 vs ho hstg hC hΦ hsz hr
                obtain rfl := rgStage_k hstg 3 (by kernel_rfl) (by kernel_rfl)
                have r1 : a.tmps.getD 39 undef = vs 5 := (hr 39 (by simp [Oper.looksAt, Op.operands])).trans (show slotOf _ _ vs _ 39 = vs 5 from by kernel_rfl)
                obtain ⟨hB, hO, hv⟩ := hC
                rw [hv] at r1
                have hg5 := alloc_grown W4 (.cells #[I (setsI ins.kind ins.d)] 3) none
                have h39 : 39 < a.tmps.size := by rw [hsz]; simp
                have r2 : a.tmps[39] = I (setsI ins.kind ins.d) := by simpa [Array.getD, h39] using r1
                refine rg_val ho rfl (fun _ _ => trivial) (by intro c h; cases h) (v := .slice (some ⟨W4.heap.size, 0, none⟩) 1 1) (W' := W4.alloc (.cells #[I (setsI ins.kind ins.d)] 3)) ?_ ⟨_, rfl, ⟨⟨hB.1.alloc hB.1.size _, heap_old _ _ hB.2⟩, OwnInts.tag hO hg5 (NoTag.none _ _), W4.heap.size, rfl, by rw [cell_of_block (heap_new _ _)]; rfl⟩, trivial, trivial⟩
                go_simp
              · rintro stg a W4 vs ho hstg hC hΦ hsz hr
                obtain rfl := rgStage_k hstg 4 (by kernel_rfl) (by kernel_rfl)
                have r1 : a.tmps.getD 37 undef = vs 3 := (hr 37 (by simp [Oper.looksAt, Op.operands, Call.operands])).trans (show slotOf _ _ vs _ 37 = vs 3 from by kernel_rfl)
                have r2 : a.tmps.getD 40 undef = vs 6 := (hr 40 (by simp [Oper.looksAt, Op.operands, Call.operands])).trans (show slotOf _ _ vs _ 40 = vs 6 from by kernel_rfl)
                obtain ⟨hB, hO, r, hv6, hc6⟩ := hC
                rw [hv6] at r2
                obtain ⟨v5, w5, hrun, own5, hg5⟩ := run_appI 32 hO (c := 1) hc6 (by simp only [List.length_append]; omega) hB.1.size
                have h41 := hnt hO
                refine rg_val ho rfl (fun _ _ => trivial) (by intro c h; cases h) (v := v5) (W' := w5) ?_ ⟨_, rfl, ⟨⟨hB.1.grown hg5 hB.1.size h41.2, grown_old hg5 hB.2 (fun e => h41.1 _ e.symm _ _ hB.2)⟩, own5⟩, trivial, trivial⟩
                exact run_opApp (.tmp 37) (.tmp 40) rfl r1 r2 hrun
              · rintro stg a W4 vs ho hstg hC hΦ hsz hr
                obtain rfl := rgStage_k hstg 5 (by kernel_rfl) (by kernel_rfl)
                have r1 : a.tmps.getD 41 undef = vs 7 := (hr 41 (by simp [Oper.looksAt, Op.operands])).trans (show slotOf _ _ vs _ 41 = vs 7 from by kernel_rfl)
                obtain ⟨hB, hO⟩ := hC
                obtain ⟨xa, xc, hx⟩ := OwnInts.slice hO
                rw [hx] at r1 hO
                refine rg_val ho rfl (fun _ _ => trivial) (by intro c h; cases h) (v := .slice xa (q ++ ins.uses ++ [setsI ins.kind ins.d]).length xc) (W' := W4) ?_ ⟨_, rfl, ⟨hB, hO⟩, trivial, trivial⟩
                go_simp
            case hend =>
              rintro vs W ⟨hB, hO⟩ hΦ
              dsimp only [List.length_cons, List.length_nil] at hO
              obtain ⟨v8, hv8⟩ : ∃ v8, v8 = vs 8 := ⟨_, rfl⟩
              rw [← hv8] at hO
              have HB := Lib.hid hB
              have HO := Lib.hid hO
              clear hB hO hΦ
              simp only [putAll, Act.put]
              rw [← hv8]
              clear hv8
              gi_wp2
              gi_roundg (blk.ins.length - (j + 1))
              case measure => omega
              case rel =>
                refine ⟨j + 1, by omega, by go_num, HB.out.1, ?_⟩
                rw [foldl_flat_take plI blk.ins hlt', ← HIN.out]
                have := HO.out
                rw [HQ.out] at this
                simpa [plI] using this
          · gi_wp2
            gi_roundg (f.blocks.length - (k + 1))
            case measure => omega
            case rel =>
              refine ⟨k + 1, by omega, by go_num, HBX.out, ?_⟩
              rw [foldl_flat_take plB f.blocks hlt, ← HPV.out, ← HBK.out]
              have := HOX.out
              rw [List.take_of_length_le (by omega)] at this
              simpa [plB] using this
    · gi_wp2
      refine bodyPost_ret (results_tmp rfl _ _ _) rfl ?_
      have := HOW.out
      rw [List.take_of_length_le (by omega)] at this
      exact ⟨_, rfl, this, HBE.out⟩

end Go.Proofs.Ytdlcpmjhngfgkaa
