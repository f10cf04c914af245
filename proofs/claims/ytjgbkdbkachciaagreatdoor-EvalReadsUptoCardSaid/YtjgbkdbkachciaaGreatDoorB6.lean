import Derived.Test.YtjgbkdbkachciaaGreatDoorB5
namespace Go.Proofs.YtjgbkdbkachciaaGreatDoor
open Go.RowKit Go.Shelf
attribute [local go_sem] Oper.semAt_some

theorem shl_nn (m : Nat) (hm : m < 63) : 0 ≤ wrap64 ((2 : Int) ^ m) := by
  have hp : (2 : Int) ^ m < 9223372036854775808 := by
    have : (2 : Nat) ^ m < 2 ^ 63 := Nat.pow_lt_pow_right (by decide) hm
    have h2 : ((2 ^ m : Nat) : Int) < ((2 ^ 63 : Nat) : Int) := Int.ofNat_lt.2 this
    simpa using h2
  have h0 : (0 : Int) ≤ (2 : Int) ^ m := Int.pow_nonneg (by decide)
  have e : IntKind.i64.wrap ((2 : Int) ^ m) = (2 : Int) ^ m := IntWalk.i64_in _ (by omega)
  rw [← IntWalk.i64_left, e]
  exact h0
theorem arr_f0 (s l : Value) (w : World) : (Instr.field 68 (.agg #[s, l]) 0).run Tryz.prog w = .ok s w := by kernel_rfl
/-- the eight numbers, none below 0 -/
abbrev numsV (n q : Nat) (s : Int) : List Value := [I 0, I 1, I 2, I 3, I n, I q, I s, I 9223372036854775807]
theorem nums_at (n q : Nat) (s : Int) (hs : 0 ≤ s) {r : Nat} (hr : r < 8) : ∃ y : Int, (numsV n q s)[r]? = some (I y) ∧ 0 ≤ y := by
  rcases (by omega : r = 0 ∨ r = 1 ∨ r = 2 ∨ r = 3 ∨ r = 4 ∨ r = 5 ∨ r = 6 ∨ r = 7) with rfl | rfl | rfl | rfl | rfl | rfl | rfl | rfl
  · exact ⟨_, rfl, by decide⟩
  · exact ⟨_, rfl, by decide⟩
  · exact ⟨_, rfl, by decide⟩
  · exact ⟨_, rfl, by decide⟩
  · exact ⟨_, rfl, by omega⟩
  · exact ⟨_, rfl, by omega⟩
  · exact ⟨_, rfl, hs⟩
  · exact ⟨_, rfl, by decide⟩

def OT.n14l : OT := .one 0 10 (.one 1 11 (.one 0 12 (.one 2 13 .nil)))
def OT.n14 : OT := .one 0 0 (.one 0 1 (.one 0 2 (.one 0 3 (.one 0 4 (.one 0 5 (.one 0 6 (.one 0 8 (.two 7 9 (.one 1 9 .n14l) (.one 1 7 .n14l)))))))))
set_option maxRecDepth 100000 in
set_option maxHeartbeats 8000000 in
theorem expr28_step (c : Sc) (d : Nat) (ih : 1 ≤ d → DrC c d) (hd : d < 1000) : DrC c (d + 1) := by
  intro sb W vv av fv loop hsc hs
  obtain ⟨Q, hQ⟩ : ∃ Q : Ending → World → Prop, Q = DrR c (d + 1) sb W := ⟨_, rfl⟩
  rw [← hQ]
  have HQ := Lib.hid hQ
  have HSC := Lib.hid hsc
  obtain ⟨vl, hvl, hvk⟩ := hsc.v
  obtain ⟨al, hal, hak⟩ := hsc.a
  obtain ⟨fl, hfl, hfk⟩ := hsc.f
  obtain ⟨va, vc, rfl, hv9, -⟩ := id hvl
  obtain ⟨aa, ac, rfl, ha9, -⟩ := id hal
  obtain ⟨fa, fc, rfl, hf9, -⟩ := id hfl
  obtain ⟨NV, hNV⟩ : ∃ N, N = vl.length := ⟨_, rfl⟩
  obtain ⟨NA, hNA⟩ : ∃ N, N = al.length := ⟨_, rfl⟩
  obtain ⟨NF, hNF⟩ : ∃ N, N = fl.length := ⟨_, rfl⟩
  rw [← hNV, ← hNA, ← hNF] at HSC ⊢
  rw [← hNV] at hvl hv9
  rw [← hNA] at hal ha9
  rw [← hNF] at hfl hf9
  obtain ⟨fr, hfr⟩ : ∃ f, f = c.free := ⟨_, rfl⟩
  rw [← hfr] at hvk hak hfk ⊢
  obtain ⟨w1, hw1⟩ : ∃ w1, w1 = (W.alloc (.cells #[.slice va NV vc, .slice aa NA ac, .slice fa NF fc, .bool fr, .bool loop] 64)).alloc (.cells eZ 31) := ⟨_, rfl⟩
  have hwe := hw1.symm
  have hb1 : Below W.heap.size W w1 := by rw [hw1]; exact below_a2 _ _ _
  have hr1 : Row w1 W.heap.size 64 [.slice va NV vc, .slice aa NA ac, .slice fa NF fc, .bool fr, .bool loop] := by rw [hw1]; exact heap_old _ _ (heap_new _ _)
  have hr2 : Row w1 (W.heap.size + 1) 31 [I 0, I 0, I 0, S [], .slice none 0 0] := by rw [hw1]; exact heap_at (by simp)
  have hsl := hs.lt
  have HS1 := Lib.hid (SG.start hs hb1)
  have HR1 := Lib.hid hr1
  have HR2 := Lib.hid hr2
  have HVL := Lib.hid hvl
  have HAL := Lib.hid hal
  have HNV := Lib.hid hNV
  have HNA := Lib.hid hNA
  have HNF := Lib.hid hNF
  have HVK := Lib.hid hvk
  have HAK := Lib.hid hak
  have HFK := Lib.hid hfk
  have HFR := Lib.hid hfr
  have HIH := Lib.hid ih
  clear hsc hs hvl hal hfl hNV hNA hNF hfr hvk hak hfk ih hb1 hr1 hr2 hw1 hQ
  go_enter Tryz.func28, Tryz.ntmps28
  go_upto_region 2 with (first
    | (go_at_call 25; refine (next25_any sb 12 w1 HS1.out.2 (by omega) (by omega)).mono ?_; rintro e w2 ⟨⟨r, rfl, hr0, hr12⟩, hs2⟩; obtain ⟨k0, rfl⟩ := nat_of hr0; have HS2 := Lib.hid (HS1.out.trans hs2); have HT1 := Lib.hid (hs2.row HR1.out (by omega)); have HT2 := Lib.hid (hs2.row HR2.out (by omega)); clear hs2 hr0))
  rename_i K1 hK1 K2 hK2
  have h4 : ∀ (k : Nat) (x19 x20 x21 x22 : Value), k < 12 → (d = 0 → k < 4) → K1 { tmps := #[.agg #[.slice va NV vc, .slice aa NA ac, .slice fa NF fc, .bool fr, .bool loop], .pointer (some ⟨sb, 0, none⟩), I ((d : Int) + 1), .pointer (some ⟨W.heap.size, 0, none⟩), undef, undef, .pointer (some ⟨W.heap.size + 1, 0, none⟩), I k, undef, undef, undef, undef, undef, undef, undef, undef, undef, .pointer (some ⟨sb, 0, none⟩), I k0, x19, x20, x21, x22, undef, undef, undef, undef, undef, undef, undef, undef, undef, undef, undef, undef, undef, undef, undef, undef, undef, undef, undef, undef, undef, undef, undef, undef, undef, undef, undef, undef, undef, undef, undef, undef, undef, undef, undef, undef, undef, undef, undef, undef, undef, undef, undef, undef, undef, undef, undef, undef, undef, undef, undef, undef, undef, undef, undef, undef, undef, undef, undef, undef, undef, undef, undef, undef, undef, undef, undef, undef, undef, undef, undef, undef, undef, undef, undef, undef, undef, undef, undef, undef, undef, undef, undef, undef, undef, undef, undef, undef, undef, undef, undef, undef, undef, undef, undef, undef, undef, undef, undef, undef, undef, undef, undef, undef, undef, undef, undef, undef, undef, undef, undef, undef, undef, undef, undef, undef, undef, undef, undef, undef, undef, undef, undef, undef, undef, undef, undef, undef], defers := [] } w2 := by
    intro k x19 x20 x21 x22 hk12 hkd
    refine hK1 _ _ ?_
    clear hK1 hK2 K1 K2
    have HKD := Lib.hid hkd
    clear hkd
    have c0 := HT1.out.cell 0
    have c1 := HT1.out.cell 1
    have c2 := HT1.out.cell 2
    have c3 := HT1.out.cell 3
    simp only [List.getElem?_cons_zero, List.getElem?_cons_succ] at c0 c1 c2 c3
    go_upto_region 4 with (fail)
    rename_i K4 hK4
    have h5 : ∀ (bv : Bool) (x23 x24 x25 x26 x27 x28 x29 x30 : Value), (bv = true → fr = true ∨ 0 < NV) → K4 { tmps := #[.agg #[.slice va NV vc, .slice aa NA ac, .slice fa NF fc, .bool fr, .bool loop], .pointer (some ⟨sb, 0, none⟩), I ((d : Int) + 1), .pointer (some ⟨W.heap.size, 0, none⟩), undef, undef, .pointer (some ⟨W.heap.size + 1, 0, none⟩), I k, .bool bv, undef, undef, undef, undef, undef, undef, undef, undef, .pointer (some ⟨sb, 0, none⟩), I k0, x19, x20, x21, x22, x23, x24, x25, x26, x27, x28, x29, x30, undef, undef, undef, undef, undef, undef, undef, undef, undef, undef, undef, undef, undef, undef, undef, undef, undef, undef, undef, undef, undef, undef, undef, undef, undef, undef, undef, undef, undef, undef, undef, undef, undef, undef, undef, undef, undef, undef, undef, undef, undef, undef, undef, undef, undef, undef, undef, undef, undef, undef, undef, undef, undef, undef, undef, undef, undef, undef, undef, undef, undef, undef, undef, undef, undef, undef, undef, undef, undef, undef, undef, undef, undef, undef, undef, undef, undef, undef, undef, undef, undef, undef, undef, undef, undef, undef, undef, undef, undef, undef, undef, undef, undef, undef, undef, undef, undef, undef, undef, undef, undef, undef, undef, undef, undef, undef, undef, undef, undef, undef, undef, undef, undef, undef, undef, undef, undef, undef, undef, undef], defers := [] } w2 := by
      intro bv x23 x24 x25 x26 x27 x28 x29 x30 hbv
      refine hK4 _ _ ?_
      clear hK4 K4
      have HBV := Lib.hid hbv
      clear hbv
      go_upto_region 5 with (fail)
      rename_i K5 hK5
      have h6 : ∀ (ba : Bool) (x31 x32 x33 x34 x35 x36 x37 x38 : Value), (ba = true → fr = true ∨ 0 < NA) → K5 { tmps := #[.agg #[.slice va NV vc, .slice aa NA ac, .slice fa NF fc, .bool fr, .bool loop], .pointer (some ⟨sb, 0, none⟩), I ((d : Int) + 1), .pointer (some ⟨W.heap.size, 0, none⟩), undef, undef, .pointer (some ⟨W.heap.size + 1, 0, none⟩), I k, .bool bv, .bool ba, undef, undef, undef, undef, undef, undef, undef, .pointer (some ⟨sb, 0, none⟩), I k0, x19, x20, x21, x22, x23, x24, x25, x26, x27, x28, x29, x30, x31, x32, x33, x34, x35, x36, x37, x38, undef, undef, undef, undef, undef, undef, undef, undef, undef, undef, undef, undef, undef, undef, undef, undef, undef, undef, undef, undef, undef, undef, undef, undef, undef, undef, undef, undef, undef, undef, undef, undef, undef, undef, undef, undef, undef, undef, undef, undef, undef, undef, undef, undef, undef, undef, undef, undef, undef, undef, undef, undef, undef, undef, undef, undef, undef, undef, undef, undef, undef, undef, undef, undef, undef, undef, undef, undef, undef, undef, undef, undef, undef, undef, undef, undef, undef, undef, undef, undef, undef, undef, undef, undef, undef, undef, undef, undef, undef, undef, undef, undef, undef, undef, undef, undef, undef, undef, undef, undef, undef, undef, undef, undef, undef, undef, undef, undef, undef, undef, undef, undef], defers := [] } w2 := by
        intro ba x31 x32 x33 x34 x35 x36 x37 x38 hba
        refine hK5 _ _ ?_
        clear hK5 K5
        have HBA := Lib.hid hba
        clear hba
        go_upto_region 6 with (fail)
        rename_i K6 hK6
        have h7 : ∀ (bf : Bool) (x39 x40 x41 x42 x43 x44 x45 x46 : Value), (bf = true → fr = true ∨ 0 < NF) → K6 { tmps := #[.agg #[.slice va NV vc, .slice aa NA ac, .slice fa NF fc, .bool fr, .bool loop], .pointer (some ⟨sb, 0, none⟩), I ((d : Int) + 1), .pointer (some ⟨W.heap.size, 0, none⟩), undef, undef, .pointer (some ⟨W.heap.size + 1, 0, none⟩), I k, .bool bv, .bool ba, .bool bf, undef, undef, undef, undef, undef, undef, .pointer (some ⟨sb, 0, none⟩), I k0, x19, x20, x21, x22, x23, x24, x25, x26, x27, x28, x29, x30, x31, x32, x33, x34, x35, x36, x37, x38, x39, x40, x41, x42, x43, x44, x45, x46, undef, undef, undef, undef, undef, undef, undef, undef, undef, undef, undef, undef, undef, undef, undef, undef, undef, undef, undef, undef, undef, undef, undef, undef, undef, undef, undef, undef, undef, undef, undef, undef, undef, undef, undef, undef, undef, undef, undef, undef, undef, undef, undef, undef, undef, undef, undef, undef, undef, undef, undef, undef, undef, undef, undef, undef, undef, undef, undef, undef, undef, undef, undef, undef, undef, undef, undef, undef, undef, undef, undef, undef, undef, undef, undef, undef, undef, undef, undef, undef, undef, undef, undef, undef, undef, undef, undef, undef, undef, undef, undef, undef, undef, undef, undef, undef, undef, undef, undef, undef, undef, undef, undef, undef], defers := [] } w2 := by
          intro bf x39 x40 x41 x42 x43 x44 x45 x46 hbf
          refine hK6 _ _ ?_
          clear hK6 K6 c0 c1 c2 c3
          have HBF := Lib.hid hbf
          clear hbf
          go_upto_region 7 with (fail)
          rename_i KT hKT KS hKS KC hKC
          have hCALL : 1 ≤ d → ∀ wz : World, SG sb W wz → Calls Tryz.prog 28 #[.agg #[.slice va NV vc, .slice aa NA ac, .slice fa NF fc, .bool fr, .bool loop], .pointer (some ⟨sb, 0, none⟩), I d] wz (DrR c d sb wz) := by
            intro h1 wz hsg
            rw [HFR.out]
            exact HIH.out h1 sb wz _ _ _ loop (HSC.out.kept hsg.1 (fun r e => by cases e; rfl)) hsg.2
          have HCALL := Lib.hid hCALL
          clear hCALL
          have tail : ∀ (x47 x48 x49 x50 x51 x52 x53 x54 x55 x56 x57 x58 x59 x60 x61 x62 x63 x64 x65 x66 x67 x68 x69 x70 x71 x72 x73 x74 x75 x76 x77 x78 x79 x80 x81 x82 x83 x84 x85 x86 x87 x88 x89 x90 x91 x92 x93 x94 x95 x96 x97 x98 x99 x100 x101 x102 x103 x104 x105 x106 x107 x108 x109 x110 x111 x112 x113 x114 x115 x116 x117 x118 x119 x120 x121 x122 x123 x124 x125 x126 x127 x128 : Value) (wz : World), 1 ≤ d → SG sb W wz → Row wz W.heap.size 64 [.slice va NV vc, .slice aa NA ac, .slice fa NF fc, .bool fr, .bool loop] → Row wz (W.heap.size + 1) 31 [I 0, I 0, I 0, S [], .slice none 0 0] → KT { tmps := #[.agg #[.slice va NV vc, .slice aa NA ac, .slice fa NF fc, .bool fr, .bool loop], .pointer (some ⟨sb, 0, none⟩), I ((d : Int) + 1), .pointer (some ⟨W.heap.size, 0, none⟩), undef, undef, .pointer (some ⟨W.heap.size + 1, 0, none⟩), I k, .bool bv, .bool ba, .bool bf, undef, undef, undef, undef, undef, undef, .pointer (some ⟨sb, 0, none⟩), I k0, x19, x20, x21, x22, x23, x24, x25, x26, x27, x28, x29, x30, x31, x32, x33, x34, x35, x36, x37, x38, x39, x40, x41, x42, x43, x44, x45, x46, x47, x48, x49, x50, x51, x52, x53, x54, x55, x56, x57, x58, x59, x60, x61, x62, x63, x64, x65, x66, x67, x68, x69, x70, x71, x72, x73, x74, x75, x76, x77, x78, x79, x80, x81, x82, x83, x84, x85, x86, x87, x88, x89, x90, x91, x92, x93, x94, x95, x96, x97, x98, x99, x100, x101, x102, x103, x104, x105, x106, x107, x108, x109, x110, x111, x112, x113, x114, x115, x116, x117, x118, x119, x120, x121, x122, x123, x124, x125, x126, x127, x128, undef, undef, undef, undef, undef, undef, undef, undef, undef, undef, undef, undef, undef, undef, undef, undef, undef, undef, undef, undef, undef, undef], defers := [] } wz := by
            intro x47 x48 x49 x50 x51 x52 x53 x54 x55 x56 x57 x58 x59 x60 x61 x62 x63 x64 x65 x66 x67 x68 x69 x70 x71 x72 x73 x74 x75 x76 x77 x78 x79 x80 x81 x82 x83 x84 x85 x86 x87 x88 x89 x90 x91 x92 x93 x94 x95 x96 x97 x98 x99 x100 x101 x102 x103 x104 x105 x106 x107 x108 x109 x110 x111 x112 x113 x114 x115 x116 x117 x118 x119 x120 x121 x122 x123 x124 x125 x126 x127 x128 wz hd1 hsg q1 q2
            refine hKT _ _ ?_
            clear hKT hKS hKC KT KS KC
            have HSG := Lib.hid hsg
            have HQ1 := Lib.hid q1
            have HQ2 := Lib.hid q2
            clear hsg q1 q2
            go_upto_region 24 with (first
              | (go_at_call 25; refine (next25_any sb 16 _ HSG.out.2 (by omega) (by omega)).mono ?_; rintro e w3 ⟨⟨r_, rfl, hr0_, n3l⟩, hs_⟩; obtain ⟨n3, rfl⟩ := nat_of hr0_; have HS3 := Lib.hid (HSG.out.trans hs_); have HU1 := Lib.hid (hs_.row HQ1.out (by omega)); have HU2 := Lib.hid (hs_.row HQ2.out (by omega)); clear hs_ hr0_))
            have c0 := HU1.out.cell 0
            have c1 := HU1.out.cell 1
            have c2 := HU1.out.cell 2
            have c3 := HU1.out.cell 3
            have c4 := HU1.out.cell 4
            simp only [List.getElem?_cons_zero, List.getElem?_cons_succ] at c0 c1 c2 c3 c4
            go_upto_region 25 with (first
              | (go_at_call 28; refine (HCALL.out hd1 w3 HS3.out).mono ?_; rintro e w4 ⟨e1, av_, rfl, hd_, hx_, hs_⟩; obtain ⟨ae1, ce1, rfl⟩ := hx_.slice; have HS4 := Lib.hid (HS3.out.trans hs_); have HDR1 := Lib.hid hd_; have HX1 := Lib.hid (EX.weak (B' := (W.heap.size + 2 ≤ ·)) hx_ (fun b hb => Nat.le_trans (Nat.succ_le_of_lt HU2.out.lt) hb)); have HV1 := Lib.hid (hs_.row HU1.out (by omega)); have HV2 := Lib.hid (hs_.row HU2.out (by omega)); clear hd_ hx_ hs_ c0 c1 c2 c3 c4)
              | (refine store_first 31 (.tmp 15) (.tmp 140) rfl ?_; refine wpList_store_row rfl 31 (.tmp 15) (.tmp 140) rfl w4.heap.size _ rfl rfl 31 eZ (heap_new _ _) (by kernel_rfl) (by rfl) (by simp [Value.oneCell']) ?_))
            obtain ⟨w5, hw5⟩ : ∃ w5, w5 = (w4.alloc (.cells eZ 31)).setRow w4.heap.size #[I e1.kind, I e1.op, I e1.n, S e1.name, .slice ae1 e1.args.length ce1] := ⟨_, rfl⟩
            obtain ⟨b1, hb1⟩ : ∃ b, b = w4.heap.size := ⟨_, rfl⟩
            have hge5 : (w4.alloc (.cells eZ 31)).grownBy w5 (some b1) := by rw [hw5, hb1]; exact setRow_grown
            have hgo5 : w4.grownBy (w4.alloc (.cells eZ 31)) none := alloc_grown _ _ none
            have hnr5 : Row w5 b1 31 (eRow e1 (.slice ae1 e1.args.length ce1)) := by rw [hw5, hb1]; exact setRow_heap _ _ _ _ _ _ (heap_new _ _)
            have hsg5 : SG sb W w5 := (HS4.out.post hgo5 hsl (fun r e => by cases e)).post hge5 hsl (fun r e => by cases e; rw [hb1]; exact HS4.out.size)
            have hbb5 : W.heap.size + 2 ≤ b1 := by rw [hb1]; exact Nat.succ_le_of_lt HV2.out.lt
            rw [← hw5, ← hb1]
            have HW2 := Lib.hid (Row.kept (Row.kept HV2.out hgo5 (by simp)) hge5 (by have := HV2.out.lt; simp; omega))
            have HW1 := Lib.hid (Row.kept (Row.kept HV1.out hgo5 (by simp)) hge5 (by have := HV1.out.lt; simp; omega))
            have HNR1 := Lib.hid hnr5
            have HSG5 := Lib.hid hsg5
            have HBB1 := Lib.hid hbb5
            have HX15 := Lib.hid (EX.grown (EX.alloc (EX.size HX1.out) (o := .cells eZ 31)) hge5 (fun r e hb => by cases e; omega))
            clear hw5 hb1 hge5 hgo5 hnr5 hsg5 hbb5
            have c0 := HW1.out.cell 0
            have c1 := HW1.out.cell 1
            have c2 := HW1.out.cell 2
            have c3 := HW1.out.cell 3
            have c4 := HW1.out.cell 4
            simp only [List.getElem?_cons_zero, List.getElem?_cons_succ] at c0 c1 c2 c3 c4
            go_upto_region 26 with (first
              | (go_at_call 28; refine (HCALL.out hd1 w5 HSG5.out).mono ?_; rintro e w6 ⟨e2, av_, rfl, hd_, hx_, hs_⟩; obtain ⟨ae2, ce2, rfl⟩ := hx_.slice; have HS6 := Lib.hid (HSG5.out.trans hs_); have HDR2 := Lib.hid hd_; have HX2 := Lib.hid (EX.weak (B' := (W.heap.size + 2 ≤ ·)) hx_ (fun b hb => Nat.le_trans (Nat.succ_le_of_lt HW2.out.lt) hb)); have HY1 := Lib.hid (hs_.row HW1.out (by omega)); have HY3 := Lib.hid (hs_.row HNR1.out (by have := HBB1.out; omega)); have HY2 := Lib.hid (hs_.row HW2.out (by omega)); have HX16 := Lib.hid (EX.grown HX15.out hs_.1 (fun r e hb => by cases e; omega)); clear hd_ hx_ hs_ c0 c1 c2 c3 c4)
              | (refine store_first 31 (.tmp 16) (.tmp 145) rfl ?_; refine wpList_store_row rfl 31 (.tmp 16) (.tmp 145) rfl w6.heap.size _ rfl rfl 31 eZ (heap_new _ _) (by kernel_rfl) (by rfl) (by simp [Value.oneCell']) ?_))
            obtain ⟨w7, hw7⟩ : ∃ w7, w7 = (w6.alloc (.cells eZ 31)).setRow w6.heap.size #[I e2.kind, I e2.op, I e2.n, S e2.name, .slice ae2 e2.args.length ce2] := ⟨_, rfl⟩
            obtain ⟨b2, hb2⟩ : ∃ b, b = w6.heap.size := ⟨_, rfl⟩
            have hge7 : (w6.alloc (.cells eZ 31)).grownBy w7 (some b2) := by rw [hw7, hb2]; exact setRow_grown
            have hgo7 : w6.grownBy (w6.alloc (.cells eZ 31)) none := alloc_grown _ _ none
            have hnr7 : Row w7 b2 31 (eRow e2 (.slice ae2 e2.args.length ce2)) := by rw [hw7, hb2]; exact setRow_heap _ _ _ _ _ _ (heap_new _ _)
            have hsg7 : SG sb W w7 := (HS6.out.post hgo7 hsl (fun r e => by cases e)).post hge7 hsl (fun r e => by cases e; rw [hb2]; exact HS6.out.size)
            have hbb7 : W.heap.size + 2 ≤ b2 := by rw [hb2]; exact Nat.succ_le_of_lt HY2.out.lt
            rw [← hw7, ← hb2]
            have HZ2 := Lib.hid (Row.kept (Row.kept HY2.out hgo7 (by simp)) hge7 (by have := HY2.out.lt; simp; omega))
            have HZ3 := Lib.hid (Row.kept (Row.kept HY3.out hgo7 (by simp)) hge7 (by have := HY3.out.lt; simp; omega))
            have HNR2 := Lib.hid hnr7
            have HSG7 := Lib.hid hsg7
            have HBB2 := Lib.hid hbb7
            have HX17 := Lib.hid (EX.grown (EX.alloc (EX.size HX16.out) (o := .cells eZ 31)) hge7 (fun r e hb => by cases e; omega))
            have HX27 := Lib.hid (EX.grown (EX.alloc (EX.size HX2.out) (o := .cells eZ 31)) hge7 (fun r e hb => by cases e; omega))
            clear hw7 hb2 hge7 hgo7 hnr7 hsg7 hbb7
            have a0 := HZ3.out.cell 0
            have a1 := HZ3.out.cell 1
            have a2 := HZ3.out.cell 2
            have a3 := HZ3.out.cell 3
            have a4 := HZ3.out.cell 4
            have d0 := HNR2.out.cell 0
            have d1 := HNR2.out.cell 1
            have d2 := HNR2.out.cell 2
            have d3 := HNR2.out.cell 3
            have d4 := HNR2.out.cell 4
            simp only [eRow, List.getElem?_cons_zero, List.getElem?_cons_succ] at a0 a1 a2 a3 a4 d0 d1 d2 d3 d4
            go_wp2_with (first
              | (refine store_first 31 (.tmp 6) (.tmp 150) rfl ?_; refine wpList_store_row rfl 31 (.tmp 6) (.tmp 150) rfl (W.heap.size + 1) _ rfl rfl 31 #[I 0, I 0, I 0, S [], .slice none 0 0] (heap_old _ _ HZ2.out) (by kernel_rfl) (by rfl) (by simp [Value.oneCell']) ?_))
            refine bodyPost_ret (results_cell_row rfl _ _ (W.heap.size + 1) 31 _ (0, 0) _ rfl (setRow_heap _ _ _ _ _ _ (heap_old _ _ HZ2.out)) Tryz.underlying31 rfl (by kernel_rfl)) rfl ?_
            rw [HQ.out]
            exact ⟨.mk 4 (1 + n3) 0 [] [e1, e2], .slice (some ⟨w7.heap.size, 0, none⟩) 2 2, rfl, ⟨.inr (.inr (.inr (.inl ⟨rfl, (by show (1 : Int) ≤ 1 + n3 ∧ (1 : Int) + n3 ≤ 16; omega), rfl, rfl, rfl⟩))), fun x hx => (by rcases List.mem_cons.1 (show x ∈ [e1, e2] from hx) with rfl | hx; exact HDR1.out; obtain rfl := List.mem_singleton.1 hx; exact HDR2.out)⟩, EArgs.mono (base := W.heap.size + 2) (EArgs.two rfl (by have := HZ2.out.lt; omega) ((show Row _ _ _ _ from heap_new _ _).kept setRow_grown (by simp; have := HZ2.out.lt; omega)) (EX.grown (EX.alloc (EX.weak HX17.out (fun b hb => hb.1.1))) setRow_grown (fun r e => by cases e; omega)) (EX.grown (EX.alloc (EX.weak HX27.out (fun b hb => hb.1))) setRow_grown (fun r e => by cases e; omega))) (by omega), (HSG7.out.post (alloc_grown _ _ none) hsl (fun r e => by cases e)).post setRow_grown hsl (fun r e => by cases e; omega)⟩
          have HTAIL := Lib.hid tail
          clear hKT tail
          have sel : ∀ (b47 : Bool) (x48 x49 x50 x51 x52 x53 x54 x55 x56 x57 : Value), (b47 = true → fr = true ∨ 0 < NV) → KS { tmps := #[.agg #[.slice va NV vc, .slice aa NA ac, .slice fa NF fc, .bool fr, .bool loop], .pointer (some ⟨sb, 0, none⟩), I ((d : Int) + 1), .pointer (some ⟨W.heap.size, 0, none⟩), undef, undef, .pointer (some ⟨W.heap.size + 1, 0, none⟩), I k, .bool bv, .bool ba, .bool bf, undef, undef, undef, undef, undef, undef, .pointer (some ⟨sb, 0, none⟩), I k0, x19, x20, x21, x22, x23, x24, x25, x26, x27, x28, x29, x30, x31, x32, x33, x34, x35, x36, x37, x38, x39, x40, x41, x42, x43, x44, x45, x46, .bool b47, x48, x49, x50, x51, x52, x53, x54, x55, x56, x57, undef, undef, undef, undef, undef, undef, undef, undef, undef, undef, undef, undef, undef, undef, undef, undef, undef, undef, undef, undef, undef, undef, undef, undef, undef, undef, undef, undef, undef, undef, undef, undef, undef, undef, undef, undef, undef, undef, undef, undef, undef, undef, undef, undef, undef, undef, undef, undef, undef, undef, undef, undef, undef, undef, undef, undef, undef, undef, undef, undef, undef, undef, undef, undef, undef, undef, undef, undef, undef, undef, undef, undef, undef, undef, undef, undef, undef, undef, undef, undef, undef, undef, undef, undef, undef, undef, undef, undef, undef, undef, undef, undef, undef], defers := [] } w2 := by
            intro b47 x48 x49 x50 x51 x52 x53 x54 x55 x56 x57 hb47
            refine hKS _ _ ?_
            clear hKS hKC KS KC
            have HB47 := Lib.hid hb47
            clear hb47
            cases b47 with
            | true =>
              have hvn : fr = true ∨ vl ≠ [] := (HB47.out (by first | trivial | rfl)).imp id fun h => List.length_pos_iff.1 (by rw [← HNV.out]; exact h)
              have HVC := Lib.hid (name45_any fr loop sb w2 (.slice va NV vc) (.slice aa NA ac) (.slice fa NF fc) (.slice va NV vc) vl HS2.out.2 (HVL.out.grown HS2.out.1 (fun r e => by cases e; simp) (fun _ _ h => h)) hvn)
              clear hvn
              have c0 := HT1.out.cell 0
              have c1 := HT1.out.cell 1
              have c2 := HT1.out.cell 2
              have c3 := HT1.out.cell 3
              have c4 := HT1.out.cell 4
              simp only [List.getElem?_cons_zero, List.getElem?_cons_succ] at c0 c1 c2 c3 c4
              go_wp2_with (first
                | (go_at_call 45; refine HVC.out.mono ?_; rintro e w3 ⟨⟨x, rfl, hx⟩, hs3⟩; have HS3 := Lib.hid (HS2.out.trans hs3); have HX := Lib.hid hx; have HU2 := Lib.hid (hs3.row HT2.out (by omega)); clear hs3 hx)
                | (refine store_first 31 (.tmp 6) (.tmp 63) rfl ?_; refine wpList_store_row rfl 31 (.tmp 6) (.tmp 63) rfl (W.heap.size + 1) _ rfl rfl 31 #[I 0, I 0, I 0, S [], .slice none 0 0] HU2.out (by kernel_rfl) (by rfl) (by simp [Value.oneCell']) ?_))
              have hok : c.okV x := by
                cases hfr : fr with
                | true => exact (HSC.out.any (HFR.out.symm.trans hfr)).1 x
                | false => exact HVK.out hfr x (HX.out hfr)
              refine bodyPost_ret (results_cell_row rfl _ _ (W.heap.size + 1) 31 _ (0, 0) _ rfl (setRow_heap _ _ _ _ _ _ HU2.out) Tryz.underlying31 rfl (by kernel_rfl)) rfl ?_
              rw [HQ.out]
              exact ⟨.mk 2 0 0 x [], .slice none 0 0, rfl, ⟨.inr (.inl ⟨rfl, hok, rfl, rfl, rfl⟩), fun x hx => by cases hx⟩, EArgs.nil rfl, (HS3.out).post setRow_grown hsl (fun r e => by cases e; omega)⟩
            | false =>
              go_upto_region 10 with (fail)
              rename_i KR hKR
              have rd : ∀ (b64 : Bool) (x65 x66 x67 x68 x69 x70 x71 : Value) (wz : World), SG sb W wz → Row wz W.heap.size 64 [.slice va NV vc, .slice aa NA ac, .slice fa NF fc, .bool fr, .bool loop] → Row wz (W.heap.size + 1) 31 [I 0, I 0, I 0, S [], .slice none 0 0] → KR { tmps := #[.agg #[.slice va NV vc, .slice aa NA ac, .slice fa NF fc, .bool fr, .bool loop], .pointer (some ⟨sb, 0, none⟩), I ((d : Int) + 1), .pointer (some ⟨W.heap.size, 0, none⟩), undef, undef, .pointer (some ⟨W.heap.size + 1, 0, none⟩), I k, .bool bv, .bool ba, .bool bf, undef, undef, undef, undef, undef, undef, .pointer (some ⟨sb, 0, none⟩), I k0, x19, x20, x21, x22, x23, x24, x25, x26, x27, x28, x29, x30, x31, x32, x33, x34, x35, x36, x37, x38, x39, x40, x41, x42, x43, x44, x45, x46, .bool false, x48, x49, x50, x51, x52, x53, x54, x55, x56, x57, undef, undef, undef, undef, undef, undef, .bool b64, x65, x66, x67, x68, x69, x70, x71, undef, undef, undef, undef, undef, undef, undef, undef, undef, undef, undef, undef, undef, undef, undef, undef, undef, undef, undef, undef, undef, undef, undef, undef, undef, undef, undef, undef, undef, undef, undef, undef, undef, undef, undef, undef, undef, undef, undef, undef, undef, undef, undef, undef, undef, undef, undef, undef, undef, undef, undef, undef, undef, undef, undef, undef, undef, undef, undef, undef, undef, undef, undef, undef, undef, undef, undef, undef, undef, undef, undef, undef, undef, undef, undef, undef, undef, undef, undef], defers := [] } wz := by
                intro b64 x65 x66 x67 x68 x69 x70 x71 wz hsg q1 q2
                refine hKR _ _ ?_
                clear hKR KR
                have HSG := Lib.hid hsg
                have HQ1 := Lib.hid q1
                have HQ2 := Lib.hid q2
                clear hsg q1 q2
                cases b64 with
                | true =>
                  go_wp2_with (first
                    | (refine store_first 31 (.tmp 6) (.tmp 72) rfl ?_; refine wpList_store_row rfl 31 (.tmp 6) (.tmp 72) rfl (W.heap.size + 1) _ rfl rfl 31 #[I 0, I 0, I 0, S [], .slice none 0 0] HQ2.out (by kernel_rfl) (by rfl) (by simp [Value.oneCell']) ?_))
                  refine bodyPost_ret (results_cell_row rfl _ _ (W.heap.size + 1) 31 _ (0, 0) _ rfl (setRow_heap _ _ _ _ _ _ HQ2.out) Tryz.underlying31 rfl (by kernel_rfl)) rfl ?_
                  rw [HQ.out]
                  exact ⟨.mk 7 0 0 [] [], .slice none 0 0, rfl, ⟨.inr (.inr (.inr (.inr (.inr (.inr ⟨rfl, rfl, rfl, rfl, rfl⟩))))), fun x hx => by cases hx⟩, EArgs.nil rfl, (HSG.out).post setRow_grown hsl (fun r e => by cases e; omega)⟩
                | false =>
                  by_cases hk4 : k < 4
                  · have hz4 : (k : Int) < 4 := by omega
                    clear hk4
                    go_upto_region 14 with (first
                      | (go_at_call 25; refine (next25_any sb 1000 _ HSG.out.2 (by omega) (by omega)).mono ?_; rintro e w5 ⟨⟨r5, rfl, hr50, hr51⟩, hs5⟩; obtain ⟨n5, rfl⟩ := nat_of hr50; have HS5 := Lib.hid (HSG.out.trans hs5); have HV2 := Lib.hid (hs5.row HQ2.out (by omega)); clear hs5 hr50))
                    obtain ⟨m, hm⟩ : ∃ m : Nat, (n5 : Int).tmod 63 = m := ⟨((n5 : Int).tmod 63).toNat, by rw [Int.tmod_eq_emod_of_nonneg (by omega)]; omega⟩
                    have hm63 : m < 63 := by rw [Int.tmod_eq_emod_of_nonneg (by omega)] at hm; omega
                    have hwm : IntKind.i64.wrap (m : Int) = m := IntWalk.i64_in _ (by omega)
                    obtain ⟨q, hq⟩ : ∃ q : Nat, IntKind.i64.wrap ((n5 : Int) * n5) = q := by
                      have h1 : (n5 : Int) * n5 < 1000000 := by
                        have : (n5 : Int) * n5 ≤ 999 * 999 := Int.mul_le_mul (by omega) (by omega) (by omega) (by omega)
                        omega
                      have h0 : (0 : Int) ≤ (n5 : Int) * n5 := Int.mul_nonneg (by omega) (by omega)
                      exact ⟨((n5 : Int) * n5).toNat, by rw [IntWalk.i64_in _ (by omega)]; omega⟩
                    refine wp_region_ordT (by kernel_rfl) (fun _ => True) OT.n14 (by kernel_rfl) (fun _ _ => trivial) ?_
                    intro wd hh hgd hS
                    have HSD := Lib.hid (HS5.out.post hgd hsl (fun r e => by cases e))
                    have HD2 := Lib.hid (HV2.out.kept hgd (by simp))
                    clear hh hgd
                    repeat (refine wpOrdT_look (v := ?_) rfl (by rfl) ?_ (by assumption) (fun _ _ _ h => h) ?_; rotate_left; (· (intro wS hSw; (try dsimp only at hSw); go_simp; (first | done | with_reducible rfl))); simp only [Act.put, List.setIfInBounds_toArray, List.set_cons_zero, List.set_cons_succ])
                    obtain ⟨s, hs⟩ : ∃ s, s = wrap64 ((2 : Int) ^ m) := ⟨_, rfl⟩
                    have hs0 : 0 ≤ s := by rw [hs]; exact shl_nn m hm63
                    have HSE := Lib.hid hs
                    have HNA := Lib.hid (fun r (hr : r < 8) => nums_at n5 q s hs0 hr)
                    clear hs hs0 hm hq hm63 hwm
                    have fin : ∀ (y : Int) (wf : World), 0 ≤ y → SG sb W wf → Q (.returned (eV (.mk 1 0 y [] []) (.slice none 0 0))) (wf.setRow (W.heap.size + 1) #[I 1, I 0, I y, S [], .slice none 0 0]) := by
                      intro y wf hy hsf
                      rw [HQ.out]
                      exact ⟨.mk 1 0 y [] [], .slice none 0 0, rfl, ⟨.inl ⟨rfl, hy, rfl, rfl, rfl⟩, fun x hx => by cases hx⟩, EArgs.nil rfl, hsf.post setRow_grown hsl (fun r e => by cases e; omega)⟩
                    have HFIN := Lib.hid fin
                    clear fin
                    refine wpOrdT_two rfl rfl ?_ ?_
                    · go_wp2
                      rw [← HSE.out]
                      obtain ⟨wa, hwa⟩ : ∃ wa, wa = wd.alloc (.cells #[I 0, I 1, I 2, I 3, I n5, I q, I s, I 9223372036854775807] 3) := ⟨_, rfl⟩
                      have hga : wd.grownBy wa none := by rw [hwa]; exact alloc_grown _ _ _
                      have hra : Row wa wd.heap.size 3 (numsV n5 q s) := by rw [hwa]; exact heap_new _ _
                      rw [← hwa]
                      have HSA := Lib.hid (HSD.out.post hga hsl (fun r e => by cases e))
                      have HA2 := Lib.hid (HD2.out.kept hga (by simp))
                      have HRA := Lib.hid hra
                      have hzs : W.heap.size ≤ wd.heap.size := HSD.out.size
                      clear hwa hga hra
                      refine QNT_keep trivial fun _ => ?_
                      refine wpOrdT_turn rfl ?_
                      go_wp2_with (first
                        | (go_at_call 25; refine (next25_any sb 8 wa HSA.out.2 (by omega) (by omega)).mono ?_; rintro e w6 ⟨⟨r_, rfl, hr0_, hr8⟩, hs_⟩; obtain ⟨r8, rfl⟩ := nat_of hr0_; have HS6 := Lib.hid (HSA.out.trans hs_); have HB2 := Lib.hid (hs_.row HA2.out (by omega)); have HRB := Lib.hid (hs_.row HRA.out (by omega)); clear hs_ hr0_))
                      have hr8n : r8 < 8 := by omega
                      obtain ⟨y, hy, hy0⟩ := HNA.out r8 hr8n
                      have hcy := (HRB.out.cell r8).trans hy
                      refine QNT_keep trivial fun _ => ?_
                      clear hy
                      repeat (refine wpOrdT_look (v := ?_) rfl (by rfl) ?_ (by assumption) (fun _ _ _ h => h) ?_; rotate_left; (· (intro wS hSw; (try dsimp only at hSw); go_simp; (first | done | with_reducible rfl))); simp only [Act.put, List.setIfInBounds_toArray, List.set_cons_zero, List.set_cons_succ])
                      refine wpOrdT_turn rfl ?_
                      go_wp2
                      refine QNT_keep trivial fun _ => ?_
                      repeat (refine wpOrdT_look (v := ?_) rfl (by rfl) ?_ (by assumption) (fun _ _ _ h => h) ?_; rotate_left; (· (intro wS hSw; (try dsimp only at hSw); go_simp; (first | done | with_reducible rfl))); simp only [Act.put, List.setIfInBounds_toArray, List.set_cons_zero, List.set_cons_succ])
                      refine wpOrdT_last rfl ?_
                      refine store_first 31 (.tmp 6) (.tmp 90) rfl ?_
                      refine wpList_store_row rfl 31 (.tmp 6) (.tmp 90) rfl (W.heap.size + 1) _ rfl rfl 31 #[I 0, I 0, I 0, S [], .slice none 0 0] HB2.out (by kernel_rfl) (by rfl) (by simp [Value.oneCell']) ?_
                      go_wp2
                      refine QN_normal (wpOrdT_nil ?_)
                      go_wp2
                      refine bodyPost_ret (results_cell_row rfl _ _ (W.heap.size + 1) 31 _ (0, 0) _ rfl (setRow_heap _ _ _ _ _ _ HB2.out) Tryz.underlying31 rfl (by kernel_rfl)) rfl ?_
                      exact HFIN.out y w6 hy0 HS6.out
                    · go_wp2_with (first
                        | (go_at_call 25; refine (next25_any sb 8 wd HSD.out.2 (by omega) (by omega)).mono ?_; rintro e w6 ⟨⟨r_, rfl, hr0_, hr8⟩, hs_⟩; obtain ⟨r8, rfl⟩ := nat_of hr0_; have HS6 := Lib.hid (HSD.out.trans hs_); have HB2 := Lib.hid (hs_.row HD2.out (by omega)); clear hs_ hr0_))
                      refine QNT_keep trivial fun _ => ?_
                      refine wpOrdT_turn rfl ?_
                      go_wp2
                      rw [← HSE.out]
                      obtain ⟨wa, hwa⟩ : ∃ wa, wa = w6.alloc (.cells #[I 0, I 1, I 2, I 3, I n5, I q, I s, I 9223372036854775807] 3) := ⟨_, rfl⟩
                      have hga : w6.grownBy wa none := by rw [hwa]; exact alloc_grown _ _ _
                      have hra : Row wa w6.heap.size 3 (numsV n5 q s) := by rw [hwa]; exact heap_new _ _
                      rw [← hwa]
                      have HSA := Lib.hid (HS6.out.post hga hsl (fun r e => by cases e))
                      have HA2 := Lib.hid (HB2.out.kept hga (by simp))
                      have hr8n : r8 < 8 := by omega
                      obtain ⟨y, hy, hy0⟩ := HNA.out r8 hr8n
                      have hcy := (hra.cell r8).trans hy
                      clear hwa hga hra hy
                      refine QNT_keep trivial fun _ => ?_
                      repeat (refine wpOrdT_look (v := ?_) rfl (by rfl) ?_ (by assumption) (fun _ _ _ h => h) ?_; rotate_left; (· (intro wS hSw; (try dsimp only at hSw); go_simp; (first | done | with_reducible rfl))); simp only [Act.put, List.setIfInBounds_toArray, List.set_cons_zero, List.set_cons_succ])
                      refine wpOrdT_turn rfl ?_
                      go_wp2
                      refine QNT_keep trivial fun _ => ?_
                      repeat (refine wpOrdT_look (v := ?_) rfl (by rfl) ?_ (by assumption) (fun _ _ _ h => h) ?_; rotate_left; (· (intro wS hSw; (try dsimp only at hSw); go_simp; (first | done | with_reducible rfl))); simp only [Act.put, List.setIfInBounds_toArray, List.set_cons_zero, List.set_cons_succ])
                      refine wpOrdT_last rfl ?_
                      refine store_first 31 (.tmp 6) (.tmp 90) rfl ?_
                      refine wpList_store_row rfl 31 (.tmp 6) (.tmp 90) rfl (W.heap.size + 1) _ rfl rfl 31 #[I 0, I 0, I 0, S [], .slice none 0 0] HA2.out (by kernel_rfl) (by rfl) (by simp [Value.oneCell']) ?_
                      go_wp2
                      refine QN_normal (wpOrdT_nil ?_)
                      go_wp2
                      refine bodyPost_ret (results_cell_row rfl _ _ (W.heap.size + 1) 31 _ (0, 0) _ rfl (setRow_heap _ _ _ _ _ _ HA2.out) Tryz.underlying31 rfl (by kernel_rfl)) rfl ?_
                      exact HFIN.out y wa hy0 HSA.out
                  have hd1 : 1 ≤ d := by
                    rcases Nat.eq_zero_or_pos d with h | h
                    · have := HKD.out h; omega
                    · exact h
                  have hz4 : ¬ (k : Int) < 4 := by omega
                  have HD1 := Lib.hid hd1
                  clear hd1
                  by_cases hk5 : k = 4
                  · subst hk5
                    go_wp2_with (first
                      | (go_at_call 25; refine (next25_any sb 3 _ HSG.out.2 (by omega) (by omega)).mono ?_; rintro e w3 ⟨⟨r_, rfl, hr0_, n3l⟩, hs_⟩; obtain ⟨n3, rfl⟩ := nat_of hr0_; have HS3 := Lib.hid (HSG.out.trans hs_); have HU1 := Lib.hid (hs_.row HQ1.out (by omega)); have HU2 := Lib.hid (hs_.row HQ2.out (by omega)); clear hs_ hr0_; have c0 := HU1.out.cell 0; have c1 := HU1.out.cell 1; have c2 := HU1.out.cell 2; have c3 := HU1.out.cell 3; have c4 := HU1.out.cell 4; simp only [List.getElem?_cons_zero, List.getElem?_cons_succ] at c0 c1 c2 c3 c4)
                      | (go_at_call 28; refine (HCALL.out HD1.out w3 HS3.out).mono ?_; rintro e w4 ⟨e1, av_, rfl, hd_, hx_, hs_⟩; obtain ⟨ae1, ce1, rfl⟩ := hx_.slice; have HS4 := Lib.hid (HS3.out.trans hs_); have HDR := Lib.hid hd_; have HX1 := Lib.hid (EX.weak (B' := (W.heap.size + 2 ≤ ·)) hx_ (fun b hb => Nat.le_trans (Nat.succ_le_of_lt HU2.out.lt) hb)); have HV2 := Lib.hid (hs_.row HU2.out (by omega)); clear hd_ hx_ hs_ c0 c1 c2 c3 c4)
                      | (refine store_first 31 (.tmp 6) (.tmp 104) rfl ?_; refine wpList_store_row rfl 31 (.tmp 6) (.tmp 104) rfl (W.heap.size + 1) _ rfl rfl 31 #[I 0, I 0, I 0, S [], .slice none 0 0] (heap_old _ _ HV2.out) (by kernel_rfl) (by rfl) (by simp [Value.oneCell']) ?_))
                    refine bodyPost_ret (results_cell_row rfl _ _ (W.heap.size + 1) 31 _ (0, 0) _ rfl (setRow_heap _ _ _ _ _ _ (heap_old _ _ HV2.out)) Tryz.underlying31 rfl (by kernel_rfl)) rfl ?_
                    rw [HQ.out]
                    exact ⟨.mk 3 (17 + n3) 0 [] [e1], .slice (some ⟨w4.heap.size, 0, none⟩) 1 1, rfl, ⟨.inr (.inr (.inl ⟨rfl, (by show (17 : Int) + n3 = 17 ∨ (17 : Int) + n3 = 18 ∨ (17 : Int) + n3 = 19; omega), rfl, rfl, rfl⟩)), fun x hx => by obtain rfl := List.mem_singleton.1 (show x ∈ [e1] from hx); exact HDR.out⟩, EArgs.mono (base := W.heap.size + 2) (EArgs.one rfl (by have := HV2.out.lt; omega) ((show Row _ _ _ _ from heap_new _ _).kept setRow_grown (by simp; have := HV2.out.lt; omega)) (EX.grown (EX.alloc HX1.out) setRow_grown (fun r e => by cases e; omega))) (by omega), (HS4.out.post (alloc_grown _ _ none) hsl (fun r e => by cases e)).post setRow_grown hsl (fun r e => by cases e; omega)⟩
                  have hz5 : ¬ (k : Int) = 4 := by omega
                  by_cases hk6 : k = 5
                  · subst hk6
                    cases ba with
                    | true =>
                      have han : fr = true ∨ al ≠ [] := (HBA.out (by first | trivial | rfl)).imp id fun h => List.length_pos_iff.1 (by rw [← HNA.out]; exact h)
                      have HAR := Lib.hid (array29_any fr loop sb wz (.slice va NV vc) (.slice aa NA ac) (.slice fa NF fc) al HSG.out.2 (HAL.out.grown HSG.out.1 (fun r e => by cases e; simp) (fun _ _ h => h)) han)
                      clear han
                      have c0 := HQ1.out.cell 0
                      have c1 := HQ1.out.cell 1
                      have c2 := HQ1.out.cell 2
                      have c3 := HQ1.out.cell 3
                      have c4 := HQ1.out.cell 4
                      simp only [List.getElem?_cons_zero, List.getElem?_cons_succ] at c0 c1 c2 c3 c4
                      have hf68 := arr_f0
                      go_wp2_with (first
                        | (go_at_call 29; refine HAR.out.mono ?_; rintro e w3 ⟨⟨x, n, rfl, hx⟩, hs_⟩; have HS3 := Lib.hid (HSG.out.trans hs_); have HX := Lib.hid hx; have HU1 := Lib.hid (hs_.row HQ1.out (by omega)); have HU2 := Lib.hid (hs_.row HQ2.out (by omega)); clear hx hs_ c0 c1 c2 c3 c4; have c0 := HU1.out.cell 0; have c1 := HU1.out.cell 1; have c2 := HU1.out.cell 2; have c3 := HU1.out.cell 3; have c4 := HU1.out.cell 4; simp only [List.getElem?_cons_zero, List.getElem?_cons_succ] at c0 c1 c2 c3 c4)
                        | (go_at_call 28; refine (HCALL.out HD1.out w3 HS3.out).mono ?_; rintro e w4 ⟨e1, av_, rfl, hd_, hx_, hs_⟩; obtain ⟨ae1, ce1, rfl⟩ := hx_.slice; have HS4 := Lib.hid (HS3.out.trans hs_); have HDR := Lib.hid hd_; have HX1 := Lib.hid (EX.weak (B' := (W.heap.size + 2 ≤ ·)) hx_ (fun b hb => Nat.le_trans (Nat.succ_le_of_lt HU2.out.lt) hb)); have HV2 := Lib.hid (hs_.row HU2.out (by omega)); clear hd_ hx_ hs_ c0 c1 c2 c3 c4)
                        | (refine store_first 31 (.tmp 6) (.tmp 122) rfl ?_; refine wpList_store_row rfl 31 (.tmp 6) (.tmp 122) rfl (W.heap.size + 1) _ rfl rfl 31 #[I 0, I 0, I 0, S [], .slice none 0 0] (heap_old _ _ HV2.out) (by kernel_rfl) (by rfl) (by simp [Value.oneCell']) ?_))
                      have hok : c.okA x := by
                        cases hfr : fr with
                        | true => exact (HSC.out.any (HFR.out.symm.trans hfr)).2.1 x
                        | false =>
                          obtain ⟨a, ha, rfl⟩ := HX.out hfr
                          exact HAK.out hfr a ha
                      refine bodyPost_ret (results_cell_row rfl _ _ (W.heap.size + 1) 31 _ (0, 0) _ rfl (setRow_heap _ _ _ _ _ _ (heap_old _ _ HV2.out)) Tryz.underlying31 rfl (by kernel_rfl)) rfl ?_
                      rw [HQ.out]
                      exact ⟨.mk 6 0 0 x [e1], .slice (some ⟨w4.heap.size, 0, none⟩) 1 1, rfl, ⟨.inr (.inr (.inr (.inr (.inr (.inl ⟨rfl, hok, rfl, rfl, rfl⟩))))), fun x hx => by obtain rfl := List.mem_singleton.1 (show x ∈ [e1] from hx); exact HDR.out⟩, EArgs.mono (base := W.heap.size + 2) (EArgs.one rfl (by have := HV2.out.lt; omega) ((show Row _ _ _ _ from heap_new _ _).kept setRow_grown (by simp; have := HV2.out.lt; omega)) (EX.grown (EX.alloc HX1.out) setRow_grown (fun r e => by cases e; omega))) (by omega), (HS4.out.post (alloc_grown _ _ none) hsl (fun r e => by cases e)).post setRow_grown hsl (fun r e => by cases e; omega)⟩
                    | false =>
                      go_wp2
                      exact HTAIL.out _ _ _ _ _ _ _ _ _ _ _ _ _ _ _ _ _ _ _ _ _ _ _ _ _ _ _ _ _ _ _ _ _ _ _ _ _ _ _ _ _ _ _ _ _ _ _ _ _ _ _ _ _ _ _ _ _ _ _ _ _ _ _ _ _ _ _ _ _ _ _ _ _ _ _ _ _ _ _ _ _ _ wz HD1.out HSG.out HQ1.out HQ2.out
                  have hz6 : ¬ (k : Int) = 5 := by omega
                  by_cases hk7 : k = 6
                  · subst hk7
                    cases bf with
                    | true =>
                      have HCC : Hid (Calls Tryz.prog 46 #[.agg #[.slice va NV vc, .slice aa NA ac, .slice fa NF fc, .bool fr, .bool loop], .pointer (some ⟨sb, 0, none⟩), I ((d : Int) + 1)] wz fun en w' => ∃ (e : LE) (av' : Value), en = .returned (eV e av') ∧ (e.kind = 5 ∧ c.okC e.name e.args.length ∧ e.op = 0 ∧ e.n = 0 ∧ ∀ x ∈ e.args, DrE c d x) ∧ EX (wz.heap.size ≤ ·) w' av' e ∧ SG sb wz w') := by
                        refine Lib.hid ?_
                        rw [HFR.out, show ((d : Int) + 1) = ((d + 1 : Nat) : Int) by omega]
                        exact call46_any c d (HIH.out HD1.out) hd loop sb wz _ _ _ (HSC.out.kept HSG.out.1 (fun r e => by cases e; rfl)) HSG.out.2
                      have c0 := HQ1.out.cell 0
                      have c1 := HQ1.out.cell 1
                      have c2 := HQ1.out.cell 2
                      have c3 := HQ1.out.cell 3
                      have c4 := HQ1.out.cell 4
                      simp only [List.getElem?_cons_zero, List.getElem?_cons_succ] at c0 c1 c2 c3 c4
                      go_wp2_with (first
                        | (go_at_call 46; refine HCC.out.mono ?_; rintro e w4 ⟨e1, av_, rfl, hd_, hx_, hs_⟩; obtain ⟨ae1, ce1, rfl⟩ := hx_.slice; have HS4 := Lib.hid (HSG.out.trans hs_); have HDR := Lib.hid hd_; have HX1 := Lib.hid (EX.weak (B' := (W.heap.size + 2 ≤ ·)) hx_ (fun b hb => Nat.le_trans (Nat.succ_le_of_lt HQ2.out.lt) hb)); have HV2 := Lib.hid (hs_.row HQ2.out (by omega)); clear hd_ hx_ hs_ c0 c1 c2 c3 c4)
                        | (refine store_first 31 (.tmp 6) (.tmp 132) rfl ?_; refine wpList_store_row rfl 31 (.tmp 6) (.tmp 132) rfl (W.heap.size + 1) _ rfl rfl 31 #[I 0, I 0, I 0, S [], .slice none 0 0] HV2.out (by kernel_rfl) (by rfl) (by simp [Value.oneCell']) ?_))
                      refine bodyPost_ret (results_cell_row rfl _ _ (W.heap.size + 1) 31 _ (0, 0) _ rfl (setRow_heap _ _ _ _ _ _ HV2.out) Tryz.underlying31 rfl (by kernel_rfl)) rfl ?_
                      rw [HQ.out]
                      exact ⟨e1, _, rfl, ⟨.inr (.inr (.inr (.inr (.inl ⟨HDR.out.1, HDR.out.2.1, HDR.out.2.2.1, HDR.out.2.2.2.1⟩)))), HDR.out.2.2.2.2⟩, (EX.weak (EX.grown HX1.out setRow_grown (fun r e => by cases e; omega)) (fun b hb => (by omega : W.heap.size ≤ b))), (HS4.out).post setRow_grown hsl (fun r e => by cases e; omega)⟩
                    | false =>
                      go_wp2
                      exact HTAIL.out _ _ _ _ _ _ _ _ _ _ _ _ _ _ _ _ _ _ _ _ _ _ _ _ _ _ _ _ _ _ _ _ _ _ _ _ _ _ _ _ _ _ _ _ _ _ _ _ _ _ _ _ _ _ _ _ _ _ _ _ _ _ _ _ _ _ _ _ _ _ _ _ _ _ _ _ _ _ _ _ _ _ wz HD1.out HSG.out HQ1.out HQ2.out
                  have hz7 : ¬ (k : Int) = 6 := by omega
                  clear hk4 hk5 hk6 hk7
                  go_wp2
                  exact HTAIL.out _ _ _ _ _ _ _ _ _ _ _ _ _ _ _ _ _ _ _ _ _ _ _ _ _ _ _ _ _ _ _ _ _ _ _ _ _ _ _ _ _ _ _ _ _ _ _ _ _ _ _ _ _ _ _ _ _ _ _ _ _ _ _ _ _ _ _ _ _ _ _ _ _ _ _ _ _ _ _ _ _ _ wz HD1.out HSG.out HQ1.out HQ2.out
              have HRD := Lib.hid rd
              clear hKR rd
              by_cases hk3 : k = 3
              · subst hk3
                go_wp2_with (first
                  | (go_at_call 25; refine (next25_any sb 3 _ HS2.out.2 (by omega) (by omega)).mono ?_; rintro e w3 ⟨⟨r3, rfl, hr30, hr31⟩, hs3⟩; have HS3 := Lib.hid (HS2.out.trans hs3); have HU1 := Lib.hid (hs3.row HT1.out (by omega)); have HU2 := Lib.hid (hs3.row HT2.out (by omega)); clear hs3))
                exact HRD.out _ _ _ _ _ _ _ _ w3 HS3.out HU1.out HU2.out
              have hz3 : ¬ (k : Int) = 3 := by omega
              go_wp2
              exact HRD.out false _ _ _ _ _ _ _ w2 HS2.out HT1.out HT2.out
          have HSEL := Lib.hid sel
          clear hKS sel
          by_cases hk1 : k = 1
          · subst hk1
            cases bv with
            | true =>
              go_wp2
              exact HSEL.out true _ _ _ _ _ _ _ _ _ _ (fun _ => HBV.out (by first | trivial | rfl))
            | false =>
              go_wp2
              exact HSEL.out false _ _ _ _ _ _ _ _ _ _ (fun e => by cases e)
          by_cases hk2 : k = 2
          · subst hk2
            cases bv with
            | true =>
              go_wp2
              exact HSEL.out true _ _ _ _ _ _ _ _ _ _ (fun _ => HBV.out (by first | trivial | rfl))
            | false =>
              go_wp2
              exact HSEL.out false _ _ _ _ _ _ _ _ _ _ (fun e => by cases e)
          have hz1 : ¬ (k : Int) = 1 := by omega
          have hz2 : ¬ (k : Int) = 2 := by omega
          clear hk1 hk2
          go_wp2
          exact HSEL.out false _ _ _ _ _ _ _ _ _ _ (fun e => by cases e)
        have Hh7 := Lib.hid h7
        clear hK6 h7
        rcases Nat.eq_zero_or_pos NF with hz | hz
        rotate_left
        · have hzz : 0 < (NF : Int) := by omega
          go_wp2
          exact Hh7.out true _ _ _ _ _ _ _ _ (fun _ => .inr (by omega))
        · subst hz
          cases fr with
          | true =>
            go_wp2
            exact Hh7.out true _ _ _ _ _ _ _ _ (fun _ => by simp)
          | false =>
            go_wp2
            exact Hh7.out false _ _ _ _ _ _ _ _ (fun e => by cases e)
      have Hh6 := Lib.hid h6
      clear hK5 h6
      rcases Nat.eq_zero_or_pos NA with hz | hz
      rotate_left
      · have hzz : 0 < (NA : Int) := by omega
        go_wp2
        exact Hh6.out true _ _ _ _ _ _ _ _ (fun _ => .inr (by omega))
      · subst hz
        cases fr with
        | true =>
          go_wp2
          exact Hh6.out true _ _ _ _ _ _ _ _ (fun _ => by simp)
        | false =>
          go_wp2
          exact Hh6.out false _ _ _ _ _ _ _ _ (fun e => by cases e)
    have Hh5 := Lib.hid h5
    clear hK4 h5
    rcases Nat.eq_zero_or_pos NV with hz | hz
    rotate_left
    · have hzz : 0 < (NV : Int) := by omega
      go_wp2
      exact Hh5.out true _ _ _ _ _ _ _ _ (fun _ => .inr (by omega))
    · subst hz
      cases fr with
      | true =>
        go_wp2
        exact Hh5.out true _ _ _ _ _ _ _ _ (fun _ => by simp)
      | false =>
        go_wp2
        exact Hh5.out false _ _ _ _ _ _ _ _ (fun e => by cases e)
  have H4 := Lib.hid h4
  clear hK1 h4
  by_cases hd0 : d = 0
  · have hdz : (d : Int) + 1 < 2 := by omega
    have hk4 : (k0 : Int) % 4 = (k0 % 4 : Nat) := by omega
    clear hd0
    go_wp2
    exact H4.out (k0 % 4) _ _ _ _ (by omega) (fun _ => by omega)
  · have hdz : ¬ (d : Int) + 1 < 2 := by omega
    go_wp2
    exact H4.out k0 _ _ _ _ (by omega) (fun e => absurd e hd0)
end Go.Proofs.YtjgbkdbkachciaaGreatDoor
