import Derived.Test.YtjgbkdbkachciaaGreatDoorB4
namespace Go.Proofs.YtjgbkdbkachciaaGreatDoor
open Go.RowKit Go.Shelf
attribute [local go_sem] Oper.semAt_some

theorem heap_old_at (w : World) (o : Obj) {b : Nat} (h : b < w.heap.size) : (w.alloc o).heap[b]? = w.heap[b]? := Below.heap_alloc w o b h
def OT.f6 : OT := .one 0 0 (.one 0 1 (.one 0 2 (.one 0 3 (.one 0 4 (.one 0 5 (.two 6 9 (.one 0 7 (.one 0 8 (.one 1 9 (.one 2 10 .nil)))) (.one 1 6 (.one 0 7 (.one 0 8 (.one 2 10 .nil))))))))))
theorem cell_same {X Y : World} {b o : Nat} (h : X.heap[b]? = Y.heap[b]?) : X.cell? ⟨b, o, none⟩ = Y.cell? ⟨b, o, none⟩ := by
  simp only [World.cell?, h]
abbrev fZ52 : Array Value := #[.string ⟨#[]⟩, .slice none 0 0, .slice none 0 0, .slice none 0 0]
set_option maxRecDepth 100000 in
set_option maxHeartbeats 4000000 in
/-- a call of a function, of some, or of a raw one -/
theorem call46_any (c : Sc) (d : Nat) (ih : DrC c d) (hd : d < 1000) (loop : Bool) (sb : Nat) (W : World) (vv av fv : Value) (hsc : ScIn c sb W vv av fv) (hs : Src sb W) :
    Calls Tryz.prog 46 #[.agg #[vv, av, fv, .bool c.free, .bool loop], .pointer (some ⟨sb, 0, none⟩), I (d + 1 : Nat)] W fun en w' => ∃ (e : LE) (av' : Value), en = .returned (eV e av') ∧ (e.kind = 5 ∧ c.okC e.name e.args.length ∧ e.op = 0 ∧ e.n = 0 ∧ ∀ x ∈ e.args, DrE c d x) ∧ EX (W.heap.size ≤ ·) w' av' e ∧ SG sb W w' := by
  obtain ⟨Q, hQ⟩ : ∃ Q : Ending → World → Prop, Q = fun en w' => ∃ (e : LE) (av' : Value), en = .returned (eV e av') ∧ (e.kind = 5 ∧ c.okC e.name e.args.length ∧ e.op = 0 ∧ e.n = 0 ∧ ∀ x ∈ e.args, DrE c d x) ∧ EX (W.heap.size ≤ ·) w' av' e ∧ SG sb W w' := ⟨_, rfl⟩
  rw [← hQ]
  have HQ := Lib.hid hQ
  obtain ⟨fl, hfl, hfk⟩ := hsc.f
  obtain ⟨fa, fc, rfl, hf9, -⟩ := id hfl
  obtain ⟨N, hN⟩ : ∃ N, N = fl.length := ⟨_, rfl⟩
  rw [← hN] at hfl hf9 hsc ⊢
  obtain ⟨fr, hfr⟩ : ∃ f, f = c.free := ⟨_, rfl⟩
  rw [← hfr] at hfk ⊢
  obtain ⟨w0, hw0⟩ : ∃ w0, w0 = (W.alloc (.cells #[vv, av, .slice fa N fc, .bool fr, .bool loop] 64)).alloc (.cells eZ 31) := ⟨_, rfl⟩
  obtain ⟨w1, hw1⟩ : ∃ w1, w1 = (w0.alloc (.cells eZ 31)).setRow (W.heap.size + 2) #[.int .i64 5, .int .i64 0, .int .i64 0, .string ⟨#[]⟩, .slice none 0 0] := ⟨_, rfl⟩
  have hz0 : w0.heap.size = W.heap.size + 2 := by rw [hw0]; simp
  have hw2 : w1 = w0.alloc (.cells #[I 5, I 0, I 0, S [], .slice none 0 0] 31) := by rw [hw1, ← hz0]; exact World.setRow_alloc_new _ _ _ _
  have hwe := hw1.symm
  have hb0 : Below W.heap.size W w0 := by rw [hw0]; exact below_a2 _ _ _
  have hb1 : Below W.heap.size W w1 := by rw [hw2]; exact hb0.alloc (by omega) _
  have hr1 : Row w1 W.heap.size 64 [vv, av, .slice fa N fc, .bool fr, .bool loop] := by rw [hw2, hw0]; exact heap_old _ _ (heap_old _ _ (heap_new _ _))
  have hr2 : Row w1 (W.heap.size + 1) 31 [I 0, I 0, I 0, S [], .slice none 0 0] := by rw [hw2, hw0]; exact heap_old _ _ (heap_at (by simp))
  have hr3 : Row w1 (W.heap.size + 1 + 1) 31 [I 5, I 0, I 0, S [], .slice none 0 0] := by rw [hw2]; exact heap_at (by omega)
  have hz1 : w1.heap.size = W.heap.size + 3 := by rw [hw2]; simp; omega
  rw [hw0] at hwe
  clear hw2 hb0 hw0
  have hsl := hs.lt
  have HS1 := Lib.hid (SG.start hs hb1)
  have HR1 := Lib.hid hr1
  have HR2 := Lib.hid hr2
  have HR3 := Lib.hid hr3
  have HF1 := Lib.hid (show RSlB (· ≠ sb) 4 (RF (· ≠ sb)) w1 (.slice fa N fc) fl from hfl.grown (below_grown hb1 none) (fun r e => by cases e) (fun _ _ h => h.grown (below_grown hb1 none) (fun r e => by cases e)))
  have HSC := Lib.hid hsc
  have HSC1 := Lib.hid (hsc.kept (below_grown hb1 none) (fun r e => by cases e))
  have HN := Lib.hid hN
  have HFK := Lib.hid hfk
  have HFR := Lib.hid hfr
  have HIH := Lib.hid ih
  clear hsc hs hfl hN hfr hfk ih hb1 hr1 hr2 hr3 hw1 hQ
  go_enter Tryz.func46, Tryz.ntmps46
  go_upto_region 3 with (first
    | (refine store_first 31 (.tmp 7) (.tmp 11) rfl ?_; refine wpList_store_row rfl 31 (.tmp 7) (.tmp 11) rfl (W.heap.size + 2) _ rfl rfl 31 #[.int .i64 0, .int .i64 0, .int .i64 0, .string ⟨#[]⟩, .slice none 0 0] (heap_at (by simp)) (by kernel_rfl) (by rfl) (by simp [Value.oneCell']) ?_))
  rename_i K1 hK1 K2 hK2
  clear hwe
  have hloop : ∀ (nm : Str) (n : Nat) (x9 x12 x13 x14 x15 x16 x17 x18 x19 x20 x21 x22 x23 x24 x25 x26 x27 x28 x29 x30 x31 x32 x33 x34 x35 x36 x37 x38 x39 x40 : Value) (wz : World), n ≤ 1000000000 → c.okC nm n → SG sb W wz → Row wz W.heap.size 64 [vv, av, .slice fa N fc, .bool fr, .bool loop] → Row wz (W.heap.size + 1) 31 [I 0, I 0, I 0, S [], .slice none 0 0] → Row wz (W.heap.size + 1 + 1) 31 [I 5, I 0, I 0, S nm, .slice none 0 0] →
      K1 { tmps := #[.agg #[vv, av, .slice fa N fc, .bool fr, .bool loop], .pointer (some ⟨sb, 0, none⟩), I ((d : Int) + 1), .pointer (some ⟨W.heap.size, 0, none⟩), undef, undef, .pointer (some ⟨W.heap.size + 1, 0, none⟩), .pointer (some ⟨W.heap.size + 1 + 1, 0, none⟩), I n, x9, undef, .agg #[.int .i64 5, .int .i64 0, .int .i64 0, .string ⟨#[]⟩, .slice none 0 0], x12, x13, x14, x15, x16, x17, x18, x19, x20, x21, x22, x23, x24, x25, x26, x27, x28, x29, x30, x31, x32, x33, x34, x35, x36, x37, x38, x39, x40, undef, undef, undef, undef, undef, undef, undef, undef, undef, undef, undef, undef, undef, undef, undef, undef], defers := [] } wz := by
    intro nm n x9 x12 x13 x14 x15 x16 x17 x18 x19 x20 x21 x22 x23 x24 x25 x26 x27 x28 x29 x30 x31 x32 x33 x34 x35 x36 x37 x38 x39 x40 wz hn hok hsg q1 q2 q3
    refine hK1 _ _ ?_
    clear hK1 hK2 K1 K2
    have HSG := Lib.hid hsg
    have HQ1 := Lib.hid q1
    have HQ2 := Lib.hid q2
    have HQ3 := Lib.hid q3
    have HOK := Lib.hid hok
    clear hsg q1 q2 q3 hok hz1
    go_wp2
    go_loopg [10] n (fun gh i wr => ∃ k : Nat, gh + k = n ∧ i = I k ∧ Hid (∃ (done : List EA) (v : Value), done.length = k ∧ SG sb W wr ∧ Row wr W.heap.size 64 [vv, av, .slice fa N fc, .bool fr, .bool loop] ∧ Row wr (W.heap.size + 1) 31 [I 0, I 0, I 0, S [], .slice none 0 0] ∧ Row wr (W.heap.size + 1 + 1) 31 [I 5, I 0, I 0, S nm, v] ∧ EsI wr (W.heap.size + 3) v done ∧ ∀ p ∈ done, DrE c d p.e))
    case atStart => exact ⟨0, by omega, rfl, Lib.hid ⟨[], _, rfl, HSG.out, HQ1.out, HQ2.out, HQ3.out, EsI.nil _ _, fun p hp => by cases hp⟩⟩
    case round =>
      obtain ⟨k, hg, rfl, HH⟩ := hrel
      obtain ⟨wo, rfl⟩ : ∃ wo, wo = wr := ⟨_, rfl⟩
      obtain ⟨done, v, hdk, hsg, r1, r2, r3, hes, hdr⟩ := HH.out
      obtain ⟨va, vc, rfl⟩ := hes.1.slice
      have hsz := hsg.size
      have p1 := r3.cell 4
      have b0 := r1.cell 0
      have b1 := r1.cell 1
      have b2 := r1.cell 2
      have b3 := r1.cell 3
      have b4 := r1.cell 4
      simp only [List.getElem?_cons_zero, List.getElem?_cons_succ] at p1 b0 b1 b2 b3 b4
      rw [hdk] at p1 hes
      have HSO := Lib.hid hsg
      have HO1 := Lib.hid r1
      have HO2 := Lib.hid r2
      have HO3 := Lib.hid r3
      have HES := Lib.hid hes
      have HDR := Lib.hid hdr
      have HDK := Lib.hid hdk
      clear HH hsg r1 r2 r3 hes hdr hdk
      by_cases hlt : k < n
      · have hltz : (k : Int) < (n : Int) := by omega
        clear p1 b0 b1 b2 b3 b4
        go_upto_region 12 with (fail)
        refine wp_region_ordW (by kernel_rfl) (fun X => X.cell? ⟨W.heap.size, 0, none⟩ = some vv ∧ X.cell? ⟨W.heap.size, 1, none⟩ = some av ∧ X.cell? ⟨W.heap.size, 2, none⟩ = some (.slice fa N fc) ∧ X.cell? ⟨W.heap.size, 3, none⟩ = some (.bool fr) ∧ X.cell? ⟨W.heap.size, 4, none⟩ = some (.bool loop) ∧ X.cell? ⟨W.heap.size + 1 + 1, 4, none⟩ = some (.slice va k vc))
          [(0, 0), (0, 1), (0, 2), (0, 3), (0, 4), (0, 5), (1, 6), (1, 7), (1, 8), (0, 9), (2, 10)] (by kernel_rfl) ?hS ?_
        case hS => intro wd hh; exact ⟨row_at HO1.out hh 0, row_at HO1.out hh 1, row_at HO1.out hh 2, row_at HO1.out hh 3, row_at HO1.out hh 4, (row_at HO3.out hh 4).trans (by rw [← HDK.out]; rfl)⟩
        intro wd hh hgd hS
        have HSD := Lib.hid (HSO.out.post hgd hsl (fun r e => by cases e))
        have HD1 := Lib.hid (HO1.out.kept hgd (by simp))
        have HD2 := Lib.hid (HO2.out.kept hgd (by simp))
        have HD3 := Lib.hid (show Row wd (W.heap.size + 1 + 1) 31 [I 5, I 0, I 0, S nm, .slice va k vc] by rw [← HDK.out]; exact HO3.out.kept hgd (by simp))
        have HED := Lib.hid (HES.out.grown hgd (fun r e => by cases e))
        have hzd : W.heap.size + 3 ≤ wd.heap.size := by have := hgd.size; have := HD3.out.lt; omega
        clear hh hgd HSO HO1 HO2 HO3 HES
        have HC := Lib.hid (show Calls Tryz.prog 28 #[.agg #[vv, av, .slice fa N fc, .bool fr, .bool loop], .pointer (some ⟨sb, 0, none⟩), I d] wd (DrR c d sb wd) by rw [HFR.out]; exact HIH.out sb wd vv av (.slice fa N fc) loop (HSC.out.kept HSD.out.1 (fun r e => by cases e; rfl)) HSD.out.2)
        have hwk : IntKind.i64.wrap (d : Int) = d := IntWalk.i64_in _ (by omega)
        simp only [pickOps, List.map_cons, List.map_nil, List.getElem?_cons_zero, List.getElem?_cons_succ, Option.getD_some]
        repeat (refine wpOrd_look (v := ?_) (by rfl) ?_ (by assumption) (fun _ _ _ h => h) ?_; rotate_left; (· (intro wS hSw; (try dsimp only at hSw); go_simp; (first | done | with_reducible rfl))); simp only [Act.put, List.setIfInBounds_toArray, List.set_cons_zero, List.set_cons_succ])
        refine wpOrd_turn ?_
        go_wp2_with (first
          | (go_at_call 28; refine HC.out.mono ?_; rintro e' w2 ⟨x, xv, rfl, hdr2, hex2, hsg2⟩; obtain ⟨xa, xc, rfl⟩ := hex2.slice; have HDR2 := Lib.hid hdr2; have HEX2 := Lib.hid hex2; have HSG2 := Lib.hid hsg2; have HR1' := Lib.hid (hsg2.row HD1.out (by omega)); have HR2' := Lib.hid (hsg2.row HD2.out (by omega)); have HR3' := Lib.hid (hsg2.row HD3.out (by omega)); clear hdr2 hex2 hsg2))
        have hS2 : ∀ X : World, Row X W.heap.size 64 [vv, av, .slice fa N fc, .bool fr, .bool loop] → Row X (W.heap.size + 1 + 1) 31 [I 5, I 0, I 0, S nm, .slice va k vc] → (X.cell? ⟨W.heap.size, 0, none⟩ = some vv ∧ X.cell? ⟨W.heap.size, 1, none⟩ = some av ∧ X.cell? ⟨W.heap.size, 2, none⟩ = some (.slice fa N fc) ∧ X.cell? ⟨W.heap.size, 3, none⟩ = some (.bool fr) ∧ X.cell? ⟨W.heap.size, 4, none⟩ = some (.bool loop) ∧ X.cell? ⟨W.heap.size + 1 + 1, 4, none⟩ = some (.slice va k vc)) :=
          fun X h h' => ⟨h.cell 0, h.cell 1, h.cell 2, h.cell 3, h.cell 4, h'.cell 4⟩
        have HS2 := Lib.hid hS2
        clear hS2
        refine QN_keep (HS2.out w2 HR1'.out HR3'.out) fun hS => ?_
        clear hS
        have hz2 : wd.heap.size ≤ w2.heap.size := HSG2.out.size
        refine wpOrd_turn ?_
        go_wp2
        obtain ⟨w3, hw3⟩ : ∃ w3, w3 = w2.alloc (.cells #[I x.kind, I x.op, I x.n, S x.name, .slice xa x.args.length xc] 31) := ⟨_, rfl⟩
        have hn3 : w3.heap[w2.heap.size]? = some (.cells #[I x.kind, I x.op, I x.n, S x.name, .slice xa x.args.length xc] 31) := by rw [hw3]; exact heap_new _ _
        have hr31 : Row w3 W.heap.size 64 [vv, av, .slice fa N fc, .bool fr, .bool loop] := by rw [hw3]; exact heap_old _ _ HR1'.out
        have hr33 : Row w3 (W.heap.size + 1 + 1) 31 [I 5, I 0, I 0, S nm, .slice va k vc] := by rw [hw3]; exact heap_old _ _ HR3'.out
        have he3 : EsI w3 (W.heap.size + 3) (.slice va k vc) done := by rw [hw3]; exact (HED.out.grown HSG2.out.1 (fun r e => by cases e; omega)).grown (alloc_grown _ _ none) (fun r e => by cases e)
        have hz3 : w2.heap.size < w3.heap.size := by rw [hw3]; simp
        have HW3 := Lib.hid hw3
        have HN3 := Lib.hid hn3
        have HE3 := Lib.hid he3
        rw [← hw3]
        have HR31 := Lib.hid hr31
        have HR33 := Lib.hid hr33
        have hdn : done.length ≤ 1000000000 := by rw [HDK.out]; omega
        clear hw3 hn3 hr31 hr33 he3
        refine QN_keep (HS2.out w3 HR31.out HR33.out) fun hS => ?_
        clear hS
        refine wpOrd_turn ?_
        have HDK' := Lib.hid (HDK.out.symm)
        have HE3' := Lib.hid (show OwnS 5 31 eEnc w3 (W.heap.size + 3) (.slice va k vc) done from HE3.out.1)
        go_wp2_with (first
          | (at_builtin; refine wpList_appS slExpr rfl _ _ rfl eEnc_len eEnc_one (W.heap.size + 3) (.slice va k vc) done rfl HE3'.out w2.heap.size ⟨x, xa, xc⟩ rfl (fun j hj => (cell_of_block HN3.out j).trans (by simp [eEnc, EA.av])) hdn (by omega) (by omega) ?_; intro g' cap w6 ho6 hg6 hat6 hlt6; have HO6 := Lib.hid ho6; have HG6 := Lib.hid hg6; have HAT := Lib.hid hat6; clear ho6 hg6 hat6))
        have hob : ∀ r, (Value.slice va k vc).ownBlock = some r → W.heap.size + 3 ≤ r := fun r e => (ownsRow_base HE3.out.1 r e).1
        have hne : ∀ g, g < W.heap.size + 3 → some g ≠ (Value.slice va k vc).ownBlock := fun g hg e => by have := hob g e.symm; omega
        have HQ61 := Lib.hid (HR31.out.kept HG6.out (hne _ (by omega)))
        have HQ62 := Lib.hid (show Row w6 (W.heap.size + 1) 31 [I 0, I 0, I 0, S [], .slice none 0 0] from (show Row w3 _ 31 _ by rw [HW3.out]; exact heap_old _ _ HR2'.out).kept HG6.out (hne _ (by omega)))
        have HQ63 := Lib.hid (HR33.out.kept HG6.out (hne _ (by omega)))
        have HSG6 := Lib.hid (show SG sb W w6 from ((HSD.out.trans HSG2.out).post (show w2.grownBy w3 none by rw [HW3.out]; exact alloc_grown _ _ _) hsl (fun r e => by cases e)).post HG6.out hsl (fun r e => by have := hob r e; omega))
        have HE6 := Lib.hid (show EsI w6 (W.heap.size + 3) (.slice (some ⟨g', 0, none⟩) (done.length + 1) cap) (done ++ [⟨x, xa, xc⟩]) from EsI.app HED.out HSG2.out.1 (fun r e => by cases e; omega) HEX2.out hzd HO6.out (by rw [← HW3.out]; exact HG6.out) rfl (by rw [← HW3.out]; exact HAT.out))
        refine QN_keep (HS2.out w6 HQ61.out HQ63.out) fun hS => ?_
        repeat (refine wpOrd_look (v := ?_) (by rfl) ?_ (by assumption) (fun _ _ _ h => h) ?_; rotate_left; (· (intro wS hSw; (try dsimp only at hSw); go_simp; (first | done | with_reducible rfl))); simp only [Act.put, List.setIfInBounds_toArray, List.set_cons_zero, List.set_cons_succ])
        clear hS
        have f4 := HQ63.out.frozen 4
        have c4 := HQ63.out.cell 4
        simp only [List.getElem?_cons_zero, List.getElem?_cons_succ] at c4
        refine wpOrd_last ?_
        go_wp2
        refine QN_normal (wpOrd_nil ?_)
        obtain ⟨w7, hw7⟩ : ∃ w7, w7 = w6.setCell ⟨W.heap.size + 1 + 1, 4, none⟩ (.slice (some ⟨g', 0, none⟩) (done.length + 1) cap) := ⟨_, rfl⟩
        have hg7 : w6.grownBy w7 (some (W.heap.size + 1 + 1)) := by rw [hw7]; exact setCell_grown _ _ _ _
        have hq7 : Row w7 (W.heap.size + 1 + 1) 31 [I 5, I 0, I 0, S nm, .slice (some ⟨g', 0, none⟩) (done.length + 1) cap] := by rw [hw7]; exact HQ63.out.set 4 _
        rw [← hw7]
        have HG7 := Lib.hid hg7
        have HQ7 := Lib.hid hq7
        clear hw7 hg7 hq7 f4 c4
        go_wp2
        go_roundg (n - (k + 1))
        case measure => omega
        case rel =>
          refine ⟨k + 1, by omega, by go_num, Lib.hid ⟨done ++ [⟨x, xa, xc⟩], _, by simp [HDK.out], HSG6.out.post HG7.out hsl (fun r e => by cases e; omega), HQ61.out.kept HG7.out (by simp; omega), HQ62.out.kept HG7.out (by simp), HQ7.out, HE6.out.grown HG7.out (fun r e => by cases e; omega), fun p hp => ?_⟩⟩
          rcases List.mem_append.1 hp with hp | hp
          · exact HDR.out p hp
          · obtain rfl := List.mem_singleton.1 hp
            exact HDR2.out
      · have hltz : ¬ (k : Int) < (n : Int) := by omega
        have hkn : k = n := by omega
        have c0 := HO3.out.cell 0
        have c1 := HO3.out.cell 1
        have c2 := HO3.out.cell 2
        have c3 := HO3.out.cell 3
        have c4 := HO3.out.cell 4
        simp only [List.getElem?_cons_zero, List.getElem?_cons_succ] at c0 c1 c2 c3 c4
        have hdn : done.length ≤ 1000000000 := by rw [HDK.out]; omega
        have HKN := Lib.hid hkn
        clear p1 b0 b1 b2 b3 b4 hkn
        go_wp2_with (first
          | (refine store_first 31 (.tmp 6) (.tmp 56) rfl ?_; refine wpList_store_row rfl 31 (.tmp 6) (.tmp 56) rfl (W.heap.size + 1) _ rfl rfl 31 eZ HO2.out (by kernel_rfl) (by rfl) (by simp [Value.oneCell']) ?_))
        refine bodyPost_ret (results_cell_row rfl _ _ (W.heap.size + 1) 31 _ (0, 0) _ rfl (setRow_heap _ _ _ _ _ _ HO2.out) Tryz.underlying31 rfl (by kernel_rfl)) rfl ?_
        rw [HQ.out]
        refine ⟨.mk 5 0 0 nm (done.map EA.e), _, rfl, ⟨rfl, ?_, rfl, rfl, fun x hx => ?_⟩, ?_, HSO.out.post setRow_grown hsl (fun r e => by cases e; omega)⟩
        · show c.okC nm (done.map EA.e).length
          rw [List.length_map, HDK.out, HKN.out]
          exact HOK.out
        · obtain ⟨p, hp, rfl⟩ := List.mem_map.1 (show x ∈ done.map EA.e from hx)
          exact HDR.out p hp
        · have h1 := (HES.out.grown (setRow_grown (g := W.heap.size + 1) (cs := #[I 5, I 0, I 0, S nm, .slice va done.length vc])) (fun r e => by cases e; omega)).read (e := .mk 5 0 0 nm (done.map EA.e)) (by rw [HDK.out]; omega) rfl
          rw [show (k : Nat) = done.length from HDK.out.symm] at h1
          exact EX.weak (B := (W.heap.size + 3 ≤ ·)) h1 fun b hb => (by omega : W.heap.size ≤ b)
  have HLP := Lib.hid hloop
  clear hK1 hloop
  have b2 := HR1.out.cell 2
  have b3 := HR1.out.cell 3
  simp only [List.getElem?_cons_zero, List.getElem?_cons_succ] at b2 b3
  cases fr with
  | true =>
    go_upto_region 5 with (first
      | (go_at_call 25; refine (next25_any sb 312 w1 HS1.out.2 (by omega) (by omega)).mono ?_; rintro e w2 ⟨⟨r, rfl, hr0, hr1⟩, hs2⟩; have HS2 := Lib.hid (HS1.out.trans hs2); have HRR := Lib.hid (And.intro hr0 hr1); have HT1 := Lib.hid (hs2.row HR1.out (by omega)); have HT2 := Lib.hid (hs2.row HR2.out (by omega)); have HT3 := Lib.hid (hs2.row HR3.out (by omega)); clear hs2 hr0 hr1)
      | (go_at_call 47; refine (var47_any r HRR.out.1 HRR.out.2 w2).mono ?_; rintro e w3 ⟨⟨x, rfl⟩, hb3⟩; have HS3 := Lib.hid (HS2.out.trans (SG.start HS2.out.2 hb3)); have HU1 := Lib.hid (HT1.out.ext hb3); have HU2 := Lib.hid (HT2.out.ext hb3); have HU3 := Lib.hid (HT3.out.ext hb3); have c3 := HU3.out.cell 3; simp only [List.getElem?_cons_zero, List.getElem?_cons_succ] at c3; have f3 := HU3.out.frozen 3; clear hb3))
    obtain ⟨w4, hw4⟩ : ∃ w4, w4 = w3.setCell ⟨W.heap.size + 1 + 1, 3, none⟩ (S x) := ⟨_, rfl⟩
    have hg4 : w3.grownBy w4 (some (W.heap.size + 1 + 1)) := by rw [hw4]; exact setCell_grown _ _ _ _
    have hv3 : Row w4 (W.heap.size + 1 + 1) 31 [I 5, I 0, I 0, S x, .slice none 0 0] := by rw [hw4]; exact HU3.out.set 3 _
    rw [← hw4]
    have HV3 := Lib.hid hv3
    have HV1 := Lib.hid (HU1.out.kept hg4 (by simp; omega))
    have HV2 := Lib.hid (HU2.out.kept hg4 (by simp))
    have HS4 := Lib.hid (HS3.out.post hg4 hsl (fun r e => by cases e; omega))
    have hok := (HSC1.out.any HFR.out.symm).2.2
    have HOK := Lib.hid hok
    clear hw4 hg4 hv3 c3 f3 b2 b3 hok
    go_wp2_with (first
      | (go_at_call 25; refine (next25_any sb 7 w4 HS4.out.2 (by omega) (by omega)).mono ?_; rintro e w5 ⟨⟨n, rfl, hn0, hn1⟩, hs5⟩; obtain ⟨n, rfl⟩ := nat_of hn0; have HS5 := Lib.hid hs5; clear hs5))
    exact HLP.out x n _ _ _ _ _ _ _ _ _ _ _ _ _ _ _ _ _ _ _ _ _ _ _ _ _ _ _ _ _ _ w5 (by omega) (HOK.out x n (by omega)) (HS4.out.trans HS5.out) (HS5.out.row HV1.out (by omega)) (HS5.out.row HV2.out (by omega)) (HS5.out.row HV3.out (by omega))
  | false =>
    obtain ⟨hfl0, hfok⟩ := HFK.out rfl
    have hN1 : 0 < N := by rw [HN.out]; exact List.length_pos_iff.2 hfl0
    have hNz : ¬ (N : Int) = 0 := by omega
    have hNn : ¬ N = 0 := by omega
    obtain ⟨b, o, f0, pa0, pc0, la0, ln0, lc0, ba0, bn0, bc0, rfl, hb0, -, -, -, -, -, hbs⟩ := fun_at HF1.out (show 0 < fl.length by rw [← HN.out]; exact hN1)
    have HFO := Lib.hid hfok
    obtain ⟨ob, hob⟩ : ∃ ob, ob = w1.heap[b]? := ⟨_, rfl⟩
    have HOB := Lib.hid hob
    clear hob
    have hblt : b < w1.heap.size := World.block_lt_of_cell? w1 _ hb0
    clear hfl0 hfok hb0
    go_upto_region 6 with (fail)
    rename_i K3 hK3
    have hrest : ∀ (g : Nat) (f : LF) (pa : Option Addr) (pc : Nat) (v2 v3 : Value) (y12 y13 y14 y15 y16 y17 y18 y19 y20 y21 y22 y23 y24 y25 y26 y27 y28 y29 y30 y31 y32 y33 y34 : Value) (wz : World), f.params.length ≤ 1000000000 → c.okC f.name f.params.length → W.heap.size + 3 ≤ g → Row wz g 52 [S f.name, .slice pa f.params.length pc, v2, v3] → SG sb W wz → Row wz W.heap.size 64 [vv, av, .slice (some ⟨b, o, none⟩) N fc, .bool false, .bool loop] → Row wz (W.heap.size + 1) 31 [I 0, I 0, I 0, S [], .slice none 0 0] → Row wz (W.heap.size + 1 + 1) 31 [I 5, I 0, I 0, S [], .slice none 0 0] →
        K3 { tmps := #[.agg #[vv, av, .slice (some ⟨b, o, none⟩) N fc, .bool false, .bool loop], .pointer (some ⟨sb, 0, none⟩), I ((d : Int) + 1), .pointer (some ⟨W.heap.size, 0, none⟩), undef, undef, .pointer (some ⟨W.heap.size + 1, 0, none⟩), .pointer (some ⟨W.heap.size + 1 + 1, 0, none⟩), I 0, .pointer (some ⟨g, 0, none⟩), undef, .agg #[.int .i64 5, .int .i64 0, .int .i64 0, .string ⟨#[]⟩, .slice none 0 0], y12, y13, y14, y15, y16, y17, y18, y19, y20, y21, y22, y23, y24, y25, y26, y27, y28, y29, y30, y31, y32, y33, y34, undef, undef, undef, undef, undef, undef, undef, undef, undef, undef, undef, undef, undef, undef, undef, undef, undef, undef, undef, undef, undef, undef], defers := [] } wz := by
      intro g f pa pc v2 v3 y12 y13 y14 y15 y16 y17 y18 y19 y20 y21 y22 y23 y24 y25 y26 y27 y28 y29 y30 y31 y32 y33 y34 wz hfl9 hok hgg hrg hsg q1 q2 q3
      obtain ⟨nm, hnm⟩ : ∃ x, x = f.name := ⟨_, rfl⟩
      obtain ⟨pn, hpn⟩ : ∃ x, x = f.params.length := ⟨_, rfl⟩
      rw [← hnm, ← hpn] at hok hrg
      rw [← hpn] at hfl9
      clear hnm hpn
      refine hK3 _ _ ?_
      clear hK3 K3 b2 b3
      have c0 := hrg.cell 0
      have c1 := hrg.cell 1
      have c3 := q3.cell 3
      have f3 := q3.frozen 3
      simp only [List.getElem?_cons_zero, List.getElem?_cons_succ] at c0 c1 c3
      have HRG := Lib.hid hrg
      have HSG := Lib.hid hsg
      have HQ1 := Lib.hid q1
      have HQ2 := Lib.hid q2
      have HQ3 := Lib.hid q3
      have HOK := Lib.hid hok
      clear hrg hsg q1 q2 q3 hok
      go_upto_region 8 with (fail)
      obtain ⟨w4, hw4⟩ : ∃ w4, w4 = wz.setCell ⟨W.heap.size + 1 + 1, 3, none⟩ (S nm) := ⟨_, rfl⟩
      have hg4 : wz.grownBy w4 (some (W.heap.size + 1 + 1)) := by rw [hw4]; exact setCell_grown _ _ _ _
      have hv3 : Row w4 (W.heap.size + 1 + 1) 31 [I 5, I 0, I 0, S nm, .slice none 0 0] := by rw [hw4]; exact HQ3.out.set 3 _
      rw [← hw4]
      have HV3 := Lib.hid hv3
      have HV1 := Lib.hid (HQ1.out.kept hg4 (by simp; omega))
      have HV2 := Lib.hid (HQ2.out.kept hg4 (by simp))
      have HVG := Lib.hid (HRG.out.kept hg4 (by simp; omega))
      have HS4 := Lib.hid (HSG.out.post hg4 hsl (fun r e => by cases e; omega))
      clear hw4 hg4 hv3 c0 c1 c3 f3
      have c1 := HVG.out.cell 1
      simp only [List.getElem?_cons_zero, List.getElem?_cons_succ] at c1
      go_wp2
      exact HLP.out nm pn _ _ _ _ _ _ _ _ _ _ _ _ _ _ _ _ _ _ _ _ _ _ _ _ _ _ _ _ _ _ w4 hfl9 HOK.out HS4.out HV1.out HV2.out HV3.out
    refine wp_region_ordT (by kernel_rfl) (fun X => X.cell? ⟨W.heap.size, 2, none⟩ = some (.slice (some ⟨b, o, none⟩) N fc) ∧ X.heap[b]? = ob) OT.f6 (by kernel_rfl) ?hS6 ?_
    case hS6 => intro wd hh; exact ⟨row_at HR1.out hh 2, by rw [hh]; exact HOB.out.symm⟩
    intro wd hh hgd hS
    have HSD := Lib.hid (HS1.out.post hgd hsl (fun r e => by cases e))
    have HD1 := Lib.hid (HR1.out.kept hgd (by simp))
    have HD2 := Lib.hid (HR2.out.kept hgd (by simp))
    have HD3 := Lib.hid (HR3.out.kept hgd (by simp))
    have hbd : b < wd.heap.size := Nat.lt_of_lt_of_le hblt hgd.size
    have hzd : W.heap.size + 3 ≤ wd.heap.size := by have := hgd.size; omega
    clear hh hgd b2 b3 hK3 hz1 hz0
    have HNX := Lib.hid (fun (X : World) (h : Src sb X) => next25_any sb N X h (by omega) (by omega))
    repeat (refine wpOrdT_look (v := ?_) rfl (by rfl) ?_ (by assumption) (fun _ _ _ h => h) ?_; rotate_left; (· (intro wS hSw; (try dsimp only at hSw); go_simp; (first | done | with_reducible rfl))); simp only [Act.put, List.setIfInBounds_toArray, List.set_cons_zero, List.set_cons_succ])
    refine wpOrdT_two rfl rfl ?_ ?_
    · go_wp2_with (first
        | (go_at_call 25; refine (HNX.out wd HSD.out.2).mono ?_; rintro e w2 ⟨⟨r, rfl, hr0, hr1⟩, hs2⟩; have HS2 := Lib.hid hs2; clear hs2))
      have hS2 : w2.cell? ⟨W.heap.size, 2, none⟩ = some (.slice (some ⟨b, o, none⟩) N fc) ∧ w2.heap[b]? = ob := ⟨(HS2.out.row HD1.out (by omega)).cell 2, (HS2.out.1.block b hbd (fun e => hbs (Option.some.inj e))).trans hS.2⟩
      clear hS
      refine QNT_keep hS2 fun _ => ?_
      obtain ⟨k, rfl⟩ := nat_of hr0
      have hkN : k < N := by omega
      obtain ⟨b', o', f, pa, pc, la, ln, lc, ba, bn, bc, hbo, e0, e1, e2, e3, hfm, hfl9, -⟩ := fun_at HF1.out (show k < fl.length by rw [← HN.out]; exact hkN)
      obtain ⟨rfl, rfl⟩ : b = b' ∧ o = o' := by simpa using hbo
      have HE := Lib.hid (And.intro e0 (And.intro e1 (And.intro e2 e3)))
      have HFM := Lib.hid (HFO.out f hfm)
      clear hbo e0 e1 e2 e3 hfm
      repeat (refine wpOrdT_look (v := ?_) rfl (by rfl) ?_ (by assumption) (fun _ _ _ h => h) ?_; rotate_left; (· (intro wS hSw; (try dsimp only at hSw); go_simp; (first | done | with_reducible rfl))); simp only [Act.put, List.setIfInBounds_toArray, List.set_cons_zero, List.set_cons_succ])
      refine wpOrdT_look (v := .agg #[S f.name, .slice pa f.params.length pc, .slice la ln lc, .slice ba bn bc]) rfl (by rfl) ?_ (by assumption) (fun _ _ _ h => h) ?_
      · intro wS hSw
        have t0 : wS.cell? ⟨b, o + k * 4, none⟩ = some (S f.name) := (cell_same (hSw.2.trans HOB.out)).trans HE.out.1
        have t1 : wS.cell? ⟨b, o + k * 4 + 1, none⟩ = some (.slice pa f.params.length pc) := (cell_same (hSw.2.trans HOB.out)).trans HE.out.2.1
        have t2 : wS.cell? ⟨b, o + k * 4 + 2, none⟩ = some (.slice la ln lc) := (cell_same (hSw.2.trans HOB.out)).trans HE.out.2.2.1
        have t3 : wS.cell? ⟨b, o + k * 4 + 3, none⟩ = some (.slice ba bn bc) := (cell_same (hSw.2.trans HOB.out)).trans HE.out.2.2.2
        clear hSw
        go_simp
      simp only [Act.put, List.setIfInBounds_toArray, List.set_cons_zero, List.set_cons_succ]
      refine wpOrdT_turn rfl ?_
      go_wp2
      refine QNT_keep ⟨((HS2.out.row HD1.out (by omega)).kept (alloc_grown _ _ none) (by simp)).cell 2, ?_⟩ fun _ => ?_
      · exact (heap_old_at _ _ (Nat.lt_of_lt_of_le hbd HS2.out.size)).trans hS2.2
      clear hS2
      have hz2 := HS2.out.size
      refine wpOrdT_last rfl ?_
      refine store_first 52 (.tmp 9) (.tmp 34) rfl ?_
      refine wpList_store_row rfl 52 (.tmp 9) (.tmp 34) rfl (w2.heap.size) _ rfl rfl 52 fZ52 (heap_new _ _) (by kernel_rfl) (by rfl) (by simp [Value.oneCell']) ?_
      go_wp2
      refine QN_normal (wpOrdT_nil ?_)
      refine hrest w2.heap.size f pa pc _ _ _ _ _ _ _ _ _ _ _ _ _ _ _ _ _ _ _ _ _ _ _ _ _ _ hfl9 HFM.out (by omega) (setRow_heap _ _ _ _ _ _ (heap_new _ _)) (((HSD.out.trans HS2.out).post (alloc_grown _ _ none) hsl (fun r e => by cases e)).post setRow_grown hsl (fun r e => by cases e; omega)) ?_ ?_ ?_
      · exact (show Row _ _ _ _ from heap_old _ _ (HS2.out.row HD1.out (by omega))).kept setRow_grown (by simp; omega)
      · exact (show Row _ _ _ _ from heap_old _ _ (HS2.out.row HD2.out (by omega))).kept setRow_grown (by simp; omega)
      · exact (show Row _ _ _ _ from heap_old _ _ (HS2.out.row HD3.out (by omega))).kept setRow_grown (by simp; omega)
    · go_wp2
      obtain ⟨wa, hwa⟩ : ∃ wa, wa = wd.alloc (.cells fZ52 52) := ⟨_, rfl⟩
      have hga : wd.grownBy wa none := by rw [hwa]; exact alloc_grown _ _ _
      have hra : Row wa wd.heap.size 52 [S [], .slice none 0 0, .slice none 0 0, .slice none 0 0] := by rw [hwa]; exact heap_new _ _
      have hSa : wa.cell? ⟨W.heap.size, 2, none⟩ = some (.slice (some ⟨b, o, none⟩) N fc) ∧ wa.heap[b]? = ob := ⟨(HD1.out.kept hga (by simp)).cell 2, (hga.block b hbd (by simp)).trans hS.2⟩
      rw [← hwa]
      have HA1 := Lib.hid (HD1.out.kept hga (by simp))
      have HA2 := Lib.hid (HD2.out.kept hga (by simp))
      have HA3 := Lib.hid (HD3.out.kept hga (by simp))
      have HRA := Lib.hid hra
      have HSA := Lib.hid (HSD.out.post hga hsl (fun r e => by cases e))
      have hba : b < wa.heap.size := Nat.lt_of_lt_of_le hbd hga.size
      clear hwa hga hra hS
      refine QNT_keep hSa fun hS => ?_
      refine wpOrdT_turn rfl ?_
      go_wp2_with (first
        | (go_at_call 25; refine (HNX.out wa HSA.out.2).mono ?_; rintro e w2 ⟨⟨r, rfl, hr0, hr1⟩, hs2⟩; have HS2 := Lib.hid hs2; clear hs2))
      have hS2 : w2.cell? ⟨W.heap.size, 2, none⟩ = some (.slice (some ⟨b, o, none⟩) N fc) ∧ w2.heap[b]? = ob := ⟨(HS2.out.row HA1.out (by omega)).cell 2, (HS2.out.1.block b hba (fun e => hbs (Option.some.inj e))).trans hSa.2⟩
      clear hS hSa
      refine QNT_keep hS2 fun _ => ?_
      obtain ⟨k, rfl⟩ := nat_of hr0
      have hkN : k < N := by omega
      obtain ⟨b', o', f, pa, pc, la, ln, lc, ba, bn, bc, hbo, e0, e1, e2, e3, hfm, hfl9, -⟩ := fun_at HF1.out (show k < fl.length by rw [← HN.out]; exact hkN)
      obtain ⟨rfl, rfl⟩ : b = b' ∧ o = o' := by simpa using hbo
      have HE := Lib.hid (And.intro e0 (And.intro e1 (And.intro e2 e3)))
      have HFM := Lib.hid (HFO.out f hfm)
      clear hbo e0 e1 e2 e3 hfm
      repeat (refine wpOrdT_look (v := ?_) rfl (by rfl) ?_ (by assumption) (fun _ _ _ h => h) ?_; rotate_left; (· (intro wS hSw; (try dsimp only at hSw); go_simp; (first | done | with_reducible rfl))); simp only [Act.put, List.setIfInBounds_toArray, List.set_cons_zero, List.set_cons_succ])
      refine wpOrdT_look (v := .agg #[S f.name, .slice pa f.params.length pc, .slice la ln lc, .slice ba bn bc]) rfl (by rfl) ?_ (by assumption) (fun _ _ _ h => h) ?_
      · intro wS hSw
        have t0 : wS.cell? ⟨b, o + k * 4, none⟩ = some (S f.name) := (cell_same (hSw.2.trans HOB.out)).trans HE.out.1
        have t1 : wS.cell? ⟨b, o + k * 4 + 1, none⟩ = some (.slice pa f.params.length pc) := (cell_same (hSw.2.trans HOB.out)).trans HE.out.2.1
        have t2 : wS.cell? ⟨b, o + k * 4 + 2, none⟩ = some (.slice la ln lc) := (cell_same (hSw.2.trans HOB.out)).trans HE.out.2.2.1
        have t3 : wS.cell? ⟨b, o + k * 4 + 3, none⟩ = some (.slice ba bn bc) := (cell_same (hSw.2.trans HOB.out)).trans HE.out.2.2.2
        clear hSw
        go_simp
      simp only [Act.put, List.setIfInBounds_toArray, List.set_cons_zero, List.set_cons_succ]
      clear hS2
      have HRA2 := Lib.hid (HS2.out.row HRA.out (by omega))
      refine wpOrdT_last rfl ?_
      refine store_first 52 (.tmp 9) (.tmp 34) rfl ?_
      refine wpList_store_row rfl 52 (.tmp 9) (.tmp 34) rfl (wd.heap.size) _ rfl rfl 52 fZ52 (HRA2.out) (by kernel_rfl) (by rfl) (by simp [Value.oneCell']) ?_
      go_wp2
      refine QN_normal (wpOrdT_nil ?_)
      refine hrest wd.heap.size f pa pc _ _ _ _ _ _ _ _ _ _ _ _ _ _ _ _ _ _ _ _ _ _ _ _ _ _ hfl9 HFM.out (by omega) (setRow_heap _ _ _ _ _ _ HRA2.out) ((HSA.out.trans HS2.out).post setRow_grown hsl (fun r e => by cases e; omega)) ?_ ?_ ?_
      · exact (HS2.out.row HA1.out (by omega)).kept setRow_grown (by simp; omega)
      · exact (HS2.out.row HA2.out (by omega)).kept setRow_grown (by simp; omega)
      · exact (HS2.out.row HA3.out (by omega)).kept setRow_grown (by simp; omega)
end Go.Proofs.YtjgbkdbkachciaaGreatDoor
