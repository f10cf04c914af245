import Derived.Test.YtjgbkdbkachciaaGreatDoorC4
import Derived.Test.YtjgbkdbkachciaaGreatDoorB7
namespace Go.Proofs.YtjgbkdbkachciaaGreatDoor
open Go.RowKit Go.Shelf
attribute [local go_sem] Oper.semAt_some

/-- what stmts draws -/
def DrT (c : Sc) (d : Nat) (loop : Bool) (W : World) (sb : Nat) (en : Ending) (w' : World) : Prop := ∃ (l : List LS) (a : Option Addr) (k : Nat), en = .returned (.slice a l.length k) ∧ l.length ≤ 4 ∧ (∀ s ∈ l, DrS c d loop s) ∧ SX (W.heap.size ≤ ·) w' (.slice a l.length k) l ∧ SG sb W w'
def DrTC (c : Sc) (d : Nat) : Prop := ∀ (sb : Nat) (W : World) (vv av fv : Value) (loop : Bool), ScIn c sb W vv av fv → Src sb W → Calls Tryz.prog 30 #[.agg #[vv, av, fv, .bool false, .bool loop], .pointer (some ⟨sb, 0, none⟩), I d] W (DrT c d loop W sb)
set_option maxRecDepth 100000 in
set_option maxHeartbeats 16000000 in
theorem stmts30_step (c : Sc) (hcf : c.free = false) (d : Nat) (ih : 1 ≤ d → DrTC c d) (hd : d < 1000) : DrTC c (d + 1) := by
  intro sb W vv av fv loop hsc hs
  obtain ⟨Q, hQ⟩ : ∃ Q : Ending → World → Prop, Q = DrT c (d + 1) loop W sb := ⟨_, rfl⟩
  rw [← hQ]
  have HQ := Lib.hid hQ
  have HSC := Lib.hid hsc
  obtain ⟨vl, hvl, hvk⟩ := hsc.v
  obtain ⟨al, hal, hak⟩ := hsc.a
  obtain ⟨fl, hfl, hfk⟩ := hsc.f
  obtain ⟨va, vc, rfl, hv9, -⟩ := id hvl
  obtain ⟨aa, ac, rfl, ha9, -⟩ := id hal
  obtain ⟨fa, fc, rfl, hf9, -⟩ := id hfl
  obtain ⟨NV, hNV⟩ : ∃ N, N = vl.length := ⟨_, rfl⟩
  obtain ⟨NA, hNA⟩ : ∃ N, N = al.length := ⟨_, rfl⟩
  obtain ⟨NF, hNF⟩ : ∃ N, N = fl.length := ⟨_, rfl⟩
  rw [← hNV, ← hNA, ← hNF] at HSC ⊢
  rw [← hNV] at hvl hv9
  rw [← hNA] at hal ha9
  rw [← hNF] at hfl hf9
  obtain ⟨w1, hw1⟩ : ∃ w1, w1 = W.alloc (.cells #[.slice va NV vc, .slice aa NA ac, .slice fa NF fc, .bool false, .bool loop] 64) := ⟨_, rfl⟩
  have hwe := hw1.symm
  have hb1 : Below W.heap.size W w1 := by rw [hw1]; exact below_a1 _ _
  have hr1 : Row w1 W.heap.size 64 [.slice va NV vc, .slice aa NA ac, .slice fa NF fc, .bool false, .bool loop] := by rw [hw1]; exact heap_new _ _
  have hsl := hs.lt
  have HS1 := Lib.hid (SG.start hs hb1)
  have HR1 := Lib.hid hr1
  have HVL := Lib.hid hvl
  have HAL := Lib.hid hal
  have HNV := Lib.hid hNV
  have HNA := Lib.hid hNA
  have HNF := Lib.hid hNF
  have HVK := Lib.hid (hvk hcf)
  have HAK := Lib.hid (hak hcf)
  have HFK := Lib.hid (hfk hcf)
  have HCF := Lib.hid hcf
  have HIH := Lib.hid ih
  clear hsc hs hvl hal hfl hNV hNA hNF hvk hak hfk ih hb1 hr1 hw1 hQ hcf
  go_enter Tryz.func30, Tryz.ntmps30
  go_upto_region 3 with (first
    | (go_at_call 25; refine (next25_any sb 5 w1 HS1.out.2 (by omega) (by omega)).mono ?_; rintro e w2 ⟨⟨r, rfl, hr0, hr5⟩, hs2⟩; obtain ⟨n, rfl⟩ := nat_of hr0; have HS2 := Lib.hid (HS1.out.trans hs2); have HT1 := Lib.hid (hs2.row HR1.out (by omega)); clear hs2 hr0))
  go_upto_region 4 with (fail)
  go_loopg [7, 9] n (fun gh v i wr => ∃ k : Nat, gh + k = n ∧ i = I k ∧ Hid (∃ done : List SD, done.length = k ∧ SG sb W wr ∧ Row wr W.heap.size 64 [.slice va NV vc, .slice aa NA ac, .slice fa NF fc, .bool false, .bool loop] ∧ SdI wr (W.heap.size + 1) v done ∧ ∀ p ∈ done, DrS c (d + 1) loop p.s))
  case atStart => exact ⟨0, by omega, rfl, Lib.hid ⟨[], rfl, HS2.out, HT1.out, SdI.nil _ _, fun p hp => by cases hp⟩⟩
  case round =>
    obtain ⟨k, hg, rfl, HH⟩ := hrel
    obtain ⟨wo, rfl⟩ : ∃ wo, wo = wr := ⟨_, rfl⟩
    obtain ⟨done, hdk, hsg, r1, hsd, hdr⟩ := HH.out
    obtain ⟨oa, oc, rfl⟩ := hsd.1.slice
    rw [hdk] at hsd
    have HSO := Lib.hid hsg
    have HO1 := Lib.hid r1
    have HSD := Lib.hid hsd
    have HDR := Lib.hid hdr
    have HDK := Lib.hid hdk
    rw [hdk]
    clear HH hsg r1 hsd hdr hdk
    by_cases hlt : k < n
    · have hltz : (k : Int) < (n : Int) := by omega
      go_upto_region 7 with (first
        | (go_at_call 25; refine (next25_any sb 14 wo HSO.out.2 (by omega) (by omega)).mono ?_; rintro e w2 ⟨⟨r, rfl, hr0, hr14⟩, hs2⟩; obtain ⟨kq, rfl⟩ := nat_of hr0; have HS3 := Lib.hid (HSO.out.trans hs2); have HT3 := Lib.hid (hs2.row HO1.out (by omega)); have HSD3 := Lib.hid (HSD.out.grown hs2.1 (fun r e => by cases e; omega)); clear hs2 hr0))
      rename_i K9 hK9 K7 hK7
      have h9 : ∀ (kq : Nat) (x11 x12 x13 x14 x15 x16 x19 x20 x21 x22 x23 x24 x25 x26 x27 x28 x29 x30 x31 x32 x33 x34 x35 x36 x37 x38 x39 x40 x41 x42 x43 x44 x45 x46 x47 x48 x49 x50 x51 x52 x53 x54 x55 x56 x57 x58 x59 x60 x61 x62 x63 x64 x65 x66 x67 x68 x69 x70 x71 x72 x73 x74 x75 x76 x77 x78 x79 x80 x81 x82 x83 x84 x85 x86 x87 x88 x89 x90 x91 x92 x93 x94 x95 x96 x97 x98 x99 x100 x101 x102 x103 x104 x105 x106 x107 x108 x109 x110 x111 x112 x113 x114 x115 x116 x117 x118 x119 x120 x121 x122 x123 x124 x125 x126 x127 x128 x129 x130 x131 x132 x133 x134 x135 x136 x137 x138 x139 x140 x141 x142 x143 x144 x145 x146 x147 x148 x149 x150 x151 x152 x153 x154 x155 x156 x157 x158 x159 x160 x161 x162 x163 x164 x165 x166 x167 x168 x169 x170 x171 x172 x173 x174 x175 x176 x177 x178 x179 x180 x181 x182 x183 x184 x185 x186 x187 x188 x189 x190 x191 x192 x193 x194 x195 x196 x197 x198 x199 x200 x201 x202 x203 x204 x205 x206 x207 x208 x209 x210 x211 x212 x213 x214 x215 x216 x217 x218 x219 x220 x221 x222 x223 x224 : Value), kq < 14 → (d = 0 → kq < 7 ∨ 11 ≤ kq) → K9 { tmps := #[.agg #[.slice va NV vc, .slice aa NA ac, .slice fa NF fc, .bool false, .bool loop], .pointer (some ⟨sb, 0, none⟩), I ((d : Int) + 1), .pointer (some ⟨W.heap.size, 0, none⟩), undef, undef, .slice none 0 0, .slice oa k oc, I n, I k, I kq, x11, x12, x13, x14, x15, x16, .pointer (some ⟨sb, 0, none⟩), I n, x19, x20, x21, x22, x23, x24, x25, x26, x27, x28, x29, x30, x31, x32, x33, x34, x35, x36, x37, x38, x39, x40, x41, x42, x43, x44, x45, x46, x47, x48, x49, x50, x51, x52, x53, x54, x55, x56, x57, x58, x59, x60, x61, x62, x63, x64, x65, x66, x67, x68, x69, x70, x71, x72, x73, x74, x75, x76, x77, x78, x79, x80, x81, x82, x83, x84, x85, x86, x87, x88, x89, x90, x91, x92, x93, x94, x95, x96, x97, x98, x99, x100, x101, x102, x103, x104, x105, x106, x107, x108, x109, x110, x111, x112, x113, x114, x115, x116, x117, x118, x119, x120, x121, x122, x123, x124, x125, x126, x127, x128, x129, x130, x131, x132, x133, x134, x135, x136, x137, x138, x139, x140, x141, x142, x143, x144, x145, x146, x147, x148, x149, x150, x151, x152, x153, x154, x155, x156, x157, x158, x159, x160, x161, x162, x163, x164, x165, x166, x167, x168, x169, x170, x171, x172, x173, x174, x175, x176, x177, x178, x179, x180, x181, x182, x183, x184, x185, x186, x187, x188, x189, x190, x191, x192, x193, x194, x195, x196, x197, x198, x199, x200, x201, x202, x203, x204, x205, x206, x207, x208, x209, x210, x211, x212, x213, x214, x215, x216, x217, x218, x219, x220, x221, x222, x223, x224, undef], defers := [] } w2 := by
        intro kq x11 x12 x13 x14 x15 x16 x19 x20 x21 x22 x23 x24 x25 x26 x27 x28 x29 x30 x31 x32 x33 x34 x35 x36 x37 x38 x39 x40 x41 x42 x43 x44 x45 x46 x47 x48 x49 x50 x51 x52 x53 x54 x55 x56 x57 x58 x59 x60 x61 x62 x63 x64 x65 x66 x67 x68 x69 x70 x71 x72 x73 x74 x75 x76 x77 x78 x79 x80 x81 x82 x83 x84 x85 x86 x87 x88 x89 x90 x91 x92 x93 x94 x95 x96 x97 x98 x99 x100 x101 x102 x103 x104 x105 x106 x107 x108 x109 x110 x111 x112 x113 x114 x115 x116 x117 x118 x119 x120 x121 x122 x123 x124 x125 x126 x127 x128 x129 x130 x131 x132 x133 x134 x135 x136 x137 x138 x139 x140 x141 x142 x143 x144 x145 x146 x147 x148 x149 x150 x151 x152 x153 x154 x155 x156 x157 x158 x159 x160 x161 x162 x163 x164 x165 x166 x167 x168 x169 x170 x171 x172 x173 x174 x175 x176 x177 x178 x179 x180 x181 x182 x183 x184 x185 x186 x187 x188 x189 x190 x191 x192 x193 x194 x195 x196 x197 x198 x199 x200 x201 x202 x203 x204 x205 x206 x207 x208 x209 x210 x211 x212 x213 x214 x215 x216 x217 x218 x219 x220 x221 x222 x223 x224 hk14 hkd
        refine hK9 _ _ ?_
        clear hK9 hK7 K9 K7 hr14
        have HKD := Lib.hid hkd
        clear hkd
        go_upto_region 10 with (first
          | (refine store_first 54 (.tmp 11) (.tmp 36) rfl ?_; refine wpList_store_row rfl 54 (.tmp 11) (.tmp 36) rfl w2.heap.size _ rfl rfl 54 #[.int .i64 0, .string ⟨#[]⟩, .slice none 0 0, .slice none 0 0, .slice none 0 0] (heap_new _ _) (by kernel_rfl) (by rfl) (by simp [Value.oneCell']) ?_))
        obtain ⟨w3, hw3⟩ : ∃ w3, w3 = (w2.alloc (.cells #[.int .i64 0, .string ⟨#[]⟩, .slice none 0 0, .slice none 0 0, .slice none 0 0] 54)).setRow w2.heap.size #[.int .i64 8, .string ⟨#[]⟩, .slice none 0 0, .slice none 0 0, .slice none 0 0] := ⟨_, rfl⟩
        have hfm : FinM sb w2 8 [] none 0 [] none 0 [] none 0 [] w3 := by rw [hw3, World.setRow_alloc_new]; exact FinM.new w2 HS3.out.2 8
        rw [← hw3]
        have HFM := Lib.hid hfm
        have hrw := (hfm.sg.row HT3.out (by omega)).cell
        have c0 := hrw 0
        have c1 := hrw 1
        have c2 := hrw 2
        have c3 := hrw 3
        simp only [List.getElem?_cons_zero, List.getElem?_cons_succ] at c0 c1 c2 c3
        clear hw3 hfm hrw
        rename_i K_10 hK_10
        have h_10 : ∀ (ba : Bool) (x13 x14 x15 x16 x19 x20 x21 x22 x23 x24 x25 x26 x27 x28 x29 x30 x31 x32 x33 x34 x35 x36 x37 x38 x39 x40 x41 x42 x43 x44 x45 x46 x47 x48 x49 x50 x51 x52 x53 x54 x55 x56 x57 x58 x59 x60 x61 x62 x63 x64 x65 x66 x67 x68 x69 x70 x71 x72 x73 x74 x75 x76 x77 x78 x79 x80 x81 x82 x83 x84 x85 x86 x87 x88 x89 x90 x91 x92 x93 x94 x95 x96 x97 x98 x99 x100 x101 x102 x103 x104 x105 x106 x107 x108 x109 x110 x111 x112 x113 x114 x115 x116 x117 x118 x119 x120 x121 x122 x123 x124 x125 x126 x127 x128 x129 x130 x131 x132 x133 x134 x135 x136 x137 x138 x139 x140 x141 x142 x143 x144 x145 x146 x147 x148 x149 x150 x151 x152 x153 x154 x155 x156 x157 x158 x159 x160 x161 x162 x163 x164 x165 x166 x167 x168 x169 x170 x171 x172 x173 x174 x175 x176 x177 x178 x179 x180 x181 x182 x183 x184 x185 x186 x187 x188 x189 x190 x191 x192 x193 x194 x195 x196 x197 x198 x199 x200 x201 x202 x203 x204 x205 x206 x207 x208 x209 x210 x211 x212 x213 x214 x215 x216 x217 x218 x219 x220 x221 x222 x223 x224 : Value), (ba = true → 0 < NA) → K_10 { tmps := #[.agg #[.slice va NV vc, .slice aa NA ac, .slice fa NF fc, .bool false, .bool loop], .pointer (some ⟨sb, 0, none⟩), I ((d : Int) + 1), .pointer (some ⟨W.heap.size, 0, none⟩), undef, undef, .slice none 0 0, .slice oa k oc, I n, I k, I kq, .pointer (some ⟨w2.heap.size, 0, none⟩), .bool ba, x13, x14, x15, x16, .pointer (some ⟨sb, 0, none⟩), I n, x19, x20, x21, x22, x23, x24, x25, x26, x27, x28, x29, x30, x31, x32, x33, x34, x35, x36, x37, x38, x39, x40, x41, x42, x43, x44, x45, x46, x47, x48, x49, x50, x51, x52, x53, x54, x55, x56, x57, x58, x59, x60, x61, x62, x63, x64, x65, x66, x67, x68, x69, x70, x71, x72, x73, x74, x75, x76, x77, x78, x79, x80, x81, x82, x83, x84, x85, x86, x87, x88, x89, x90, x91, x92, x93, x94, x95, x96, x97, x98, x99, x100, x101, x102, x103, x104, x105, x106, x107, x108, x109, x110, x111, x112, x113, x114, x115, x116, x117, x118, x119, x120, x121, x122, x123, x124, x125, x126, x127, x128, x129, x130, x131, x132, x133, x134, x135, x136, x137, x138, x139, x140, x141, x142, x143, x144, x145, x146, x147, x148, x149, x150, x151, x152, x153, x154, x155, x156, x157, x158, x159, x160, x161, x162, x163, x164, x165, x166, x167, x168, x169, x170, x171, x172, x173, x174, x175, x176, x177, x178, x179, x180, x181, x182, x183, x184, x185, x186, x187, x188, x189, x190, x191, x192, x193, x194, x195, x196, x197, x198, x199, x200, x201, x202, x203, x204, x205, x206, x207, x208, x209, x210, x211, x212, x213, x214, x215, x216, x217, x218, x219, x220, x221, x222, x223, x224, undef], defers := [] } w3 := by
          intro ba x13 x14 x15 x16 x19 x20 x21 x22 x23 x24 x25 x26 x27 x28 x29 x30 x31 x32 x33 x34 x35 x36 x37 x38 x39 x40 x41 x42 x43 x44 x45 x46 x47 x48 x49 x50 x51 x52 x53 x54 x55 x56 x57 x58 x59 x60 x61 x62 x63 x64 x65 x66 x67 x68 x69 x70 x71 x72 x73 x74 x75 x76 x77 x78 x79 x80 x81 x82 x83 x84 x85 x86 x87 x88 x89 x90 x91 x92 x93 x94 x95 x96 x97 x98 x99 x100 x101 x102 x103 x104 x105 x106 x107 x108 x109 x110 x111 x112 x113 x114 x115 x116 x117 x118 x119 x120 x121 x122 x123 x124 x125 x126 x127 x128 x129 x130 x131 x132 x133 x134 x135 x136 x137 x138 x139 x140 x141 x142 x143 x144 x145 x146 x147 x148 x149 x150 x151 x152 x153 x154 x155 x156 x157 x158 x159 x160 x161 x162 x163 x164 x165 x166 x167 x168 x169 x170 x171 x172 x173 x174 x175 x176 x177 x178 x179 x180 x181 x182 x183 x184 x185 x186 x187 x188 x189 x190 x191 x192 x193 x194 x195 x196 x197 x198 x199 x200 x201 x202 x203 x204 x205 x206 x207 x208 x209 x210 x211 x212 x213 x214 x215 x216 x217 x218 x219 x220 x221 x222 x223 x224 hba
          refine hK_10 _ _ ?_
          clear hK_10 K_10
          have HBA := Lib.hid hba
          clear hba
          go_upto_region 11 with (fail)
          rename_i K_11 hK_11
          have h_11 : ∀ (bv : Bool) (x14 x15 x16 x19 x20 x21 x22 x23 x24 x25 x26 x27 x28 x29 x30 x31 x32 x33 x34 x35 x36 x37 x38 x39 x40 x41 x42 x43 x44 x45 x46 x47 x48 x49 x50 x51 x52 x53 x54 x55 x56 x57 x58 x59 x60 x61 x62 x63 x64 x65 x66 x67 x68 x69 x70 x71 x72 x73 x74 x75 x76 x77 x78 x79 x80 x81 x82 x83 x84 x85 x86 x87 x88 x89 x90 x91 x92 x93 x94 x95 x96 x97 x98 x99 x100 x101 x102 x103 x104 x105 x106 x107 x108 x109 x110 x111 x112 x113 x114 x115 x116 x117 x118 x119 x120 x121 x122 x123 x124 x125 x126 x127 x128 x129 x130 x131 x132 x133 x134 x135 x136 x137 x138 x139 x140 x141 x142 x143 x144 x145 x146 x147 x148 x149 x150 x151 x152 x153 x154 x155 x156 x157 x158 x159 x160 x161 x162 x163 x164 x165 x166 x167 x168 x169 x170 x171 x172 x173 x174 x175 x176 x177 x178 x179 x180 x181 x182 x183 x184 x185 x186 x187 x188 x189 x190 x191 x192 x193 x194 x195 x196 x197 x198 x199 x200 x201 x202 x203 x204 x205 x206 x207 x208 x209 x210 x211 x212 x213 x214 x215 x216 x217 x218 x219 x220 x221 x222 x223 x224 : Value), (bv = true → 0 < NV) → K_11 { tmps := #[.agg #[.slice va NV vc, .slice aa NA ac, .slice fa NF fc, .bool false, .bool loop], .pointer (some ⟨sb, 0, none⟩), I ((d : Int) + 1), .pointer (some ⟨W.heap.size, 0, none⟩), undef, undef, .slice none 0 0, .slice oa k oc, I n, I k, I kq, .pointer (some ⟨w2.heap.size, 0, none⟩), .bool ba, .bool bv, x14, x15, x16, .pointer (some ⟨sb, 0, none⟩), I n, x19, x20, x21, x22, x23, x24, x25, x26, x27, x28, x29, x30, x31, x32, x33, x34, x35, x36, x37, x38, x39, x40, x41, x42, x43, x44, x45, x46, x47, x48, x49, x50, x51, x52, x53, x54, x55, x56, x57, x58, x59, x60, x61, x62, x63, x64, x65, x66, x67, x68, x69, x70, x71, x72, x73, x74, x75, x76, x77, x78, x79, x80, x81, x82, x83, x84, x85, x86, x87, x88, x89, x90, x91, x92, x93, x94, x95, x96, x97, x98, x99, x100, x101, x102, x103, x104, x105, x106, x107, x108, x109, x110, x111, x112, x113, x114, x115, x116, x117, x118, x119, x120, x121, x122, x123, x124, x125, x126, x127, x128, x129, x130, x131, x132, x133, x134, x135, x136, x137, x138, x139, x140, x141, x142, x143, x144, x145, x146, x147, x148, x149, x150, x151, x152, x153, x154, x155, x156, x157, x158, x159, x160, x161, x162, x163, x164, x165, x166, x167, x168, x169, x170, x171, x172, x173, x174, x175, x176, x177, x178, x179, x180, x181, x182, x183, x184, x185, x186, x187, x188, x189, x190, x191, x192, x193, x194, x195, x196, x197, x198, x199, x200, x201, x202, x203, x204, x205, x206, x207, x208, x209, x210, x211, x212, x213, x214, x215, x216, x217, x218, x219, x220, x221, x222, x223, x224, undef], defers := [] } w3 := by
            intro bv x14 x15 x16 x19 x20 x21 x22 x23 x24 x25 x26 x27 x28 x29 x30 x31 x32 x33 x34 x35 x36 x37 x38 x39 x40 x41 x42 x43 x44 x45 x46 x47 x48 x49 x50 x51 x52 x53 x54 x55 x56 x57 x58 x59 x60 x61 x62 x63 x64 x65 x66 x67 x68 x69 x70 x71 x72 x73 x74 x75 x76 x77 x78 x79 x80 x81 x82 x83 x84 x85 x86 x87 x88 x89 x90 x91 x92 x93 x94 x95 x96 x97 x98 x99 x100 x101 x102 x103 x104 x105 x106 x107 x108 x109 x110 x111 x112 x113 x114 x115 x116 x117 x118 x119 x120 x121 x122 x123 x124 x125 x126 x127 x128 x129 x130 x131 x132 x133 x134 x135 x136 x137 x138 x139 x140 x141 x142 x143 x144 x145 x146 x147 x148 x149 x150 x151 x152 x153 x154 x155 x156 x157 x158 x159 x160 x161 x162 x163 x164 x165 x166 x167 x168 x169 x170 x171 x172 x173 x174 x175 x176 x177 x178 x179 x180 x181 x182 x183 x184 x185 x186 x187 x188 x189 x190 x191 x192 x193 x194 x195 x196 x197 x198 x199 x200 x201 x202 x203 x204 x205 x206 x207 x208 x209 x210 x211 x212 x213 x214 x215 x216 x217 x218 x219 x220 x221 x222 x223 x224 hbv
            refine hK_11 _ _ ?_
            clear hK_11 K_11
            have HBV := Lib.hid hbv
            clear hbv
            go_upto_region 12 with (fail)
            rename_i K_12 hK_12
            have h_12 : ∀ (bf : Bool) (x15 x16 x19 x20 x21 x22 x23 x24 x25 x26 x27 x28 x29 x30 x31 x32 x33 x34 x35 x36 x37 x38 x39 x40 x41 x42 x43 x44 x45 x46 x47 x48 x49 x50 x51 x52 x53 x54 x55 x56 x57 x58 x59 x60 x61 x62 x63 x64 x65 x66 x67 x68 x69 x70 x71 x72 x73 x74 x75 x76 x77 x78 x79 x80 x81 x82 x83 x84 x85 x86 x87 x88 x89 x90 x91 x92 x93 x94 x95 x96 x97 x98 x99 x100 x101 x102 x103 x104 x105 x106 x107 x108 x109 x110 x111 x112 x113 x114 x115 x116 x117 x118 x119 x120 x121 x122 x123 x124 x125 x126 x127 x128 x129 x130 x131 x132 x133 x134 x135 x136 x137 x138 x139 x140 x141 x142 x143 x144 x145 x146 x147 x148 x149 x150 x151 x152 x153 x154 x155 x156 x157 x158 x159 x160 x161 x162 x163 x164 x165 x166 x167 x168 x169 x170 x171 x172 x173 x174 x175 x176 x177 x178 x179 x180 x181 x182 x183 x184 x185 x186 x187 x188 x189 x190 x191 x192 x193 x194 x195 x196 x197 x198 x199 x200 x201 x202 x203 x204 x205 x206 x207 x208 x209 x210 x211 x212 x213 x214 x215 x216 x217 x218 x219 x220 x221 x222 x223 x224 : Value), (bf = true → 0 < NF) → K_12 { tmps := #[.agg #[.slice va NV vc, .slice aa NA ac, .slice fa NF fc, .bool false, .bool loop], .pointer (some ⟨sb, 0, none⟩), I ((d : Int) + 1), .pointer (some ⟨W.heap.size, 0, none⟩), undef, undef, .slice none 0 0, .slice oa k oc, I n, I k, I kq, .pointer (some ⟨w2.heap.size, 0, none⟩), .bool ba, .bool bv, .bool bf, x15, x16, .pointer (some ⟨sb, 0, none⟩), I n, x19, x20, x21, x22, x23, x24, x25, x26, x27, x28, x29, x30, x31, x32, x33, x34, x35, x36, x37, x38, x39, x40, x41, x42, x43, x44, x45, x46, x47, x48, x49, x50, x51, x52, x53, x54, x55, x56, x57, x58, x59, x60, x61, x62, x63, x64, x65, x66, x67, x68, x69, x70, x71, x72, x73, x74, x75, x76, x77, x78, x79, x80, x81, x82, x83, x84, x85, x86, x87, x88, x89, x90, x91, x92, x93, x94, x95, x96, x97, x98, x99, x100, x101, x102, x103, x104, x105, x106, x107, x108, x109, x110, x111, x112, x113, x114, x115, x116, x117, x118, x119, x120, x121, x122, x123, x124, x125, x126, x127, x128, x129, x130, x131, x132, x133, x134, x135, x136, x137, x138, x139, x140, x141, x142, x143, x144, x145, x146, x147, x148, x149, x150, x151, x152, x153, x154, x155, x156, x157, x158, x159, x160, x161, x162, x163, x164, x165, x166, x167, x168, x169, x170, x171, x172, x173, x174, x175, x176, x177, x178, x179, x180, x181, x182, x183, x184, x185, x186, x187, x188, x189, x190, x191, x192, x193, x194, x195, x196, x197, x198, x199, x200, x201, x202, x203, x204, x205, x206, x207, x208, x209, x210, x211, x212, x213, x214, x215, x216, x217, x218, x219, x220, x221, x222, x223, x224, undef], defers := [] } w3 := by
              intro bf x15 x16 x19 x20 x21 x22 x23 x24 x25 x26 x27 x28 x29 x30 x31 x32 x33 x34 x35 x36 x37 x38 x39 x40 x41 x42 x43 x44 x45 x46 x47 x48 x49 x50 x51 x52 x53 x54 x55 x56 x57 x58 x59 x60 x61 x62 x63 x64 x65 x66 x67 x68 x69 x70 x71 x72 x73 x74 x75 x76 x77 x78 x79 x80 x81 x82 x83 x84 x85 x86 x87 x88 x89 x90 x91 x92 x93 x94 x95 x96 x97 x98 x99 x100 x101 x102 x103 x104 x105 x106 x107 x108 x109 x110 x111 x112 x113 x114 x115 x116 x117 x118 x119 x120 x121 x122 x123 x124 x125 x126 x127 x128 x129 x130 x131 x132 x133 x134 x135 x136 x137 x138 x139 x140 x141 x142 x143 x144 x145 x146 x147 x148 x149 x150 x151 x152 x153 x154 x155 x156 x157 x158 x159 x160 x161 x162 x163 x164 x165 x166 x167 x168 x169 x170 x171 x172 x173 x174 x175 x176 x177 x178 x179 x180 x181 x182 x183 x184 x185 x186 x187 x188 x189 x190 x191 x192 x193 x194 x195 x196 x197 x198 x199 x200 x201 x202 x203 x204 x205 x206 x207 x208 x209 x210 x211 x212 x213 x214 x215 x216 x217 x218 x219 x220 x221 x222 x223 x224 hbf
              refine hK_12 _ _ ?_
              clear hK_12 K_12
              have HBF := Lib.hid hbf
              clear hbf
              go_upto_region 13 with (fail)
              rename_i KF hKF KC hKC
              have fin : ∀ (x10 x12 x13 x14 x15 x16 x19 x20 x21 x22 x23 x24 x25 x26 x27 x28 x29 x30 x31 x32 x33 x34 x35 x36 x37 x38 x39 x40 x41 x42 x43 x44 x45 x46 x47 x48 x49 x50 x51 x52 x53 x54 x55 x56 x57 x58 x59 x60 x61 x62 x63 x64 x65 x66 x67 x68 x69 x70 x71 x72 x73 x74 x75 x76 x77 x78 x79 x80 x81 x82 x83 x84 x85 x86 x87 x88 x89 x90 x91 x92 x93 x94 x95 x96 x97 x98 x99 x100 x101 x102 x103 x104 x105 x106 x107 x108 x109 x110 x111 x112 x113 x114 x115 x116 x117 x118 x119 x120 x121 x122 x123 x124 x125 x126 x127 x128 x129 x130 x131 x132 x133 x134 x135 x136 x137 x138 x139 x140 x141 x142 x143 x144 x145 x146 x147 x148 x149 x150 x151 x152 x153 x154 x155 x156 x157 x158 x159 x160 x161 x162 x163 x164 x165 x166 x167 x168 x169 x170 x171 x172 x173 x174 x175 x176 x177 x178 x179 x180 x181 x182 x183 x184 x185 x186 x187 x188 x189 x190 x191 x192 x193 x194 x195 x196 x197 x198 x199 x200 x201 x202 x203 x204 x205 x206 x207 x208 x209 x210 x211 x212 x213 x214 x215 x216 x217 x218 x219 x220 x221 x222 x223 x224 : Value) (wz : World) (kd : Int) (nm : Str) (ya : Option Addr) (yc : Nat) (es : List EA) (ta : Option Addr) (tc : Nat) (tl : List LS) (ea : Option Addr) (ec : Nat) (el : List LS), FinM sb w2 kd nm ya yc es ta tc tl ea ec el wz → FinK c d loop kd nm es tl el → KF { tmps := #[.agg #[.slice va NV vc, .slice aa NA ac, .slice fa NF fc, .bool false, .bool loop], .pointer (some ⟨sb, 0, none⟩), I ((d : Int) + 1), .pointer (some ⟨W.heap.size, 0, none⟩), undef, undef, .slice none 0 0, .slice oa k oc, I n, I k, x10, .pointer (some ⟨w2.heap.size, 0, none⟩), x12, x13, x14, x15, x16, .pointer (some ⟨sb, 0, none⟩), I n, x19, x20, x21, x22, x23, x24, x25, x26, x27, x28, x29, x30, x31, x32, x33, x34, x35, x36, x37, x38, x39, x40, x41, x42, x43, x44, x45, x46, x47, x48, x49, x50, x51, x52, x53, x54, x55, x56, x57, x58, x59, x60, x61, x62, x63, x64, x65, x66, x67, x68, x69, x70, x71, x72, x73, x74, x75, x76, x77, x78, x79, x80, x81, x82, x83, x84, x85, x86, x87, x88, x89, x90, x91, x92, x93, x94, x95, x96, x97, x98, x99, x100, x101, x102, x103, x104, x105, x106, x107, x108, x109, x110, x111, x112, x113, x114, x115, x116, x117, x118, x119, x120, x121, x122, x123, x124, x125, x126, x127, x128, x129, x130, x131, x132, x133, x134, x135, x136, x137, x138, x139, x140, x141, x142, x143, x144, x145, x146, x147, x148, x149, x150, x151, x152, x153, x154, x155, x156, x157, x158, x159, x160, x161, x162, x163, x164, x165, x166, x167, x168, x169, x170, x171, x172, x173, x174, x175, x176, x177, x178, x179, x180, x181, x182, x183, x184, x185, x186, x187, x188, x189, x190, x191, x192, x193, x194, x195, x196, x197, x198, x199, x200, x201, x202, x203, x204, x205, x206, x207, x208, x209, x210, x211, x212, x213, x214, x215, x216, x217, x218, x219, x220, x221, x222, x223, x224, undef], defers := [] } wz := by
                intro x10 x12 x13 x14 x15 x16 x19 x20 x21 x22 x23 x24 x25 x26 x27 x28 x29 x30 x31 x32 x33 x34 x35 x36 x37 x38 x39 x40 x41 x42 x43 x44 x45 x46 x47 x48 x49 x50 x51 x52 x53 x54 x55 x56 x57 x58 x59 x60 x61 x62 x63 x64 x65 x66 x67 x68 x69 x70 x71 x72 x73 x74 x75 x76 x77 x78 x79 x80 x81 x82 x83 x84 x85 x86 x87 x88 x89 x90 x91 x92 x93 x94 x95 x96 x97 x98 x99 x100 x101 x102 x103 x104 x105 x106 x107 x108 x109 x110 x111 x112 x113 x114 x115 x116 x117 x118 x119 x120 x121 x122 x123 x124 x125 x126 x127 x128 x129 x130 x131 x132 x133 x134 x135 x136 x137 x138 x139 x140 x141 x142 x143 x144 x145 x146 x147 x148 x149 x150 x151 x152 x153 x154 x155 x156 x157 x158 x159 x160 x161 x162 x163 x164 x165 x166 x167 x168 x169 x170 x171 x172 x173 x174 x175 x176 x177 x178 x179 x180 x181 x182 x183 x184 x185 x186 x187 x188 x189 x190 x191 x192 x193 x194 x195 x196 x197 x198 x199 x200 x201 x202 x203 x204 x205 x206 x207 x208 x209 x210 x211 x212 x213 x214 x215 x216 x217 x218 x219 x220 x221 x222 x223 x224 wz kd nm ya yc es ta tc tl ea ec el hfm hfk
                refine hKF _ _ ?_
                clear hKF hKC KF KC
                have HF := Lib.hid hfm
                have HK := Lib.hid hfk
                have z0 := hfm.row.cell 0
                simp only [List.getElem?_cons_zero] at z0
                clear hfm hfk
                go_upto_region 39 with (fail)
                rename_i KA hKA KX hKX
                have hA : ∀ (m1 : Nat) (x10 x12 x13 x14 x15 x19 x20 x21 x22 x23 x24 x25 x26 x27 x28 x29 x30 x31 x32 x33 x34 x35 x36 x37 x38 x39 x40 x41 x42 x43 x44 x45 x46 x47 x48 x49 x50 x51 x52 x53 x54 x55 x56 x57 x58 x59 x60 x61 x62 x63 x64 x65 x66 x67 x68 x69 x70 x71 x72 x73 x74 x75 x76 x77 x78 x79 x80 x81 x82 x83 x84 x85 x86 x87 x88 x89 x90 x91 x92 x93 x94 x95 x96 x97 x98 x99 x100 x101 x102 x103 x104 x105 x106 x107 x108 x109 x110 x111 x112 x113 x114 x115 x116 x117 x118 x119 x120 x121 x122 x123 x124 x125 x126 x127 x128 x129 x130 x131 x132 x133 x134 x135 x136 x137 x138 x139 x140 x141 x142 x143 x144 x145 x146 x147 x148 x149 x150 x151 x152 x153 x154 x155 x156 x157 x158 x159 x160 x161 x162 x163 x164 x165 x166 x167 x168 x169 x170 x171 x172 x173 x174 x175 x176 x177 x178 x179 x180 x181 x182 x183 x184 x185 x186 x187 x188 x189 x190 x191 x192 x193 x194 x195 x196 x197 x198 x199 x200 x201 x202 x203 x204 x205 x206 x207 x208 x209 x210 x211 x212 x213 x214 x215 x216 x217 x218 x219 x220 x221 x222 x223 x224 : Value), (kd = 2 → m1 = 2) → (kd ≠ 2 → m1 = 1) → KA { tmps := #[.agg #[.slice va NV vc, .slice aa NA ac, .slice fa NF fc, .bool false, .bool loop], .pointer (some ⟨sb, 0, none⟩), I ((d : Int) + 1), .pointer (some ⟨W.heap.size, 0, none⟩), undef, undef, .slice none 0 0, .slice oa k oc, I n, I k, x10, .pointer (some ⟨w2.heap.size, 0, none⟩), x12, x13, x14, x15, I m1, .pointer (some ⟨sb, 0, none⟩), I n, x19, x20, x21, x22, x23, x24, x25, x26, x27, x28, x29, x30, x31, x32, x33, x34, x35, x36, x37, x38, x39, x40, x41, x42, x43, x44, x45, x46, x47, x48, x49, x50, x51, x52, x53, x54, x55, x56, x57, x58, x59, x60, x61, x62, x63, x64, x65, x66, x67, x68, x69, x70, x71, x72, x73, x74, x75, x76, x77, x78, x79, x80, x81, x82, x83, x84, x85, x86, x87, x88, x89, x90, x91, x92, x93, x94, x95, x96, x97, x98, x99, x100, x101, x102, x103, x104, x105, x106, x107, x108, x109, x110, x111, x112, x113, x114, x115, x116, x117, x118, x119, x120, x121, x122, x123, x124, x125, x126, x127, x128, x129, x130, x131, x132, x133, x134, x135, x136, x137, x138, x139, x140, x141, x142, x143, x144, x145, x146, x147, x148, x149, x150, x151, x152, x153, x154, x155, x156, x157, x158, x159, x160, x161, x162, x163, x164, x165, x166, x167, x168, x169, x170, x171, x172, x173, x174, x175, x176, x177, x178, x179, x180, x181, x182, x183, x184, x185, x186, x187, x188, x189, x190, x191, x192, x193, x194, x195, x196, x197, x198, x199, x200, x201, x202, x203, x204, x205, x206, x207, x208, x209, x210, x211, x212, x213, x214, x215, x216, x217, x218, x219, x220, x221, x222, x223, x224, undef], defers := [] } wz := by
                  intro m1 x10 x12 x13 x14 x15 x19 x20 x21 x22 x23 x24 x25 x26 x27 x28 x29 x30 x31 x32 x33 x34 x35 x36 x37 x38 x39 x40 x41 x42 x43 x44 x45 x46 x47 x48 x49 x50 x51 x52 x53 x54 x55 x56 x57 x58 x59 x60 x61 x62 x63 x64 x65 x66 x67 x68 x69 x70 x71 x72 x73 x74 x75 x76 x77 x78 x79 x80 x81 x82 x83 x84 x85 x86 x87 x88 x89 x90 x91 x92 x93 x94 x95 x96 x97 x98 x99 x100 x101 x102 x103 x104 x105 x106 x107 x108 x109 x110 x111 x112 x113 x114 x115 x116 x117 x118 x119 x120 x121 x122 x123 x124 x125 x126 x127 x128 x129 x130 x131 x132 x133 x134 x135 x136 x137 x138 x139 x140 x141 x142 x143 x144 x145 x146 x147 x148 x149 x150 x151 x152 x153 x154 x155 x156 x157 x158 x159 x160 x161 x162 x163 x164 x165 x166 x167 x168 x169 x170 x171 x172 x173 x174 x175 x176 x177 x178 x179 x180 x181 x182 x183 x184 x185 x186 x187 x188 x189 x190 x191 x192 x193 x194 x195 x196 x197 x198 x199 x200 x201 x202 x203 x204 x205 x206 x207 x208 x209 x210 x211 x212 x213 x214 x215 x216 x217 x218 x219 x220 x221 x222 x223 x224 hm2 hm1
                  refine hKA _ _ ?_
                  clear hKA hKX KA KX
                  have HM2 := Lib.hid hm2
                  have HM1 := Lib.hid hm1
                  clear hm2 hm1
                  go_upto_region 41 with (fail)
                  rename_i KB hKB KY hKY
                  have hB : ∀ (m : Nat) (x10 x12 x13 x14 x15 x19 x20 x21 x22 x23 x24 x25 x26 x27 x28 x29 x30 x31 x32 x33 x34 x35 x36 x37 x38 x39 x40 x41 x42 x43 x44 x45 x46 x47 x48 x49 x50 x51 x52 x53 x54 x55 x56 x57 x58 x59 x60 x61 x62 x63 x64 x65 x66 x67 x68 x69 x70 x71 x72 x73 x74 x75 x76 x77 x78 x79 x80 x81 x82 x83 x84 x85 x86 x87 x88 x89 x90 x91 x92 x93 x94 x95 x96 x97 x98 x99 x100 x101 x102 x103 x104 x105 x106 x107 x108 x109 x110 x111 x112 x113 x114 x115 x116 x117 x118 x119 x120 x121 x122 x123 x124 x125 x126 x127 x128 x129 x130 x131 x132 x133 x134 x135 x136 x137 x138 x139 x140 x141 x142 x143 x144 x145 x146 x147 x148 x149 x150 x151 x152 x153 x154 x155 x156 x157 x158 x159 x160 x161 x162 x163 x164 x165 x166 x167 x168 x169 x170 x171 x172 x173 x174 x175 x176 x177 x178 x179 x180 x181 x182 x183 x184 x185 x186 x187 x188 x189 x190 x191 x192 x193 x194 x195 x196 x197 x198 x199 x200 x201 x202 x203 x204 x205 x206 x207 x208 x209 x210 x211 x212 x213 x214 x215 x216 x217 x218 x219 x220 x221 x222 x223 x224 : Value), m = manyK kd → KB { tmps := #[.agg #[.slice va NV vc, .slice aa NA ac, .slice fa NF fc, .bool false, .bool loop], .pointer (some ⟨sb, 0, none⟩), I ((d : Int) + 1), .pointer (some ⟨W.heap.size, 0, none⟩), undef, undef, .slice none 0 0, .slice oa k oc, I n, I k, x10, .pointer (some ⟨w2.heap.size, 0, none⟩), x12, x13, x14, x15, I m, .pointer (some ⟨sb, 0, none⟩), I n, x19, x20, x21, x22, x23, x24, x25, x26, x27, x28, x29, x30, x31, x32, x33, x34, x35, x36, x37, x38, x39, x40, x41, x42, x43, x44, x45, x46, x47, x48, x49, x50, x51, x52, x53, x54, x55, x56, x57, x58, x59, x60, x61, x62, x63, x64, x65, x66, x67, x68, x69, x70, x71, x72, x73, x74, x75, x76, x77, x78, x79, x80, x81, x82, x83, x84, x85, x86, x87, x88, x89, x90, x91, x92, x93, x94, x95, x96, x97, x98, x99, x100, x101, x102, x103, x104, x105, x106, x107, x108, x109, x110, x111, x112, x113, x114, x115, x116, x117, x118, x119, x120, x121, x122, x123, x124, x125, x126, x127, x128, x129, x130, x131, x132, x133, x134, x135, x136, x137, x138, x139, x140, x141, x142, x143, x144, x145, x146, x147, x148, x149, x150, x151, x152, x153, x154, x155, x156, x157, x158, x159, x160, x161, x162, x163, x164, x165, x166, x167, x168, x169, x170, x171, x172, x173, x174, x175, x176, x177, x178, x179, x180, x181, x182, x183, x184, x185, x186, x187, x188, x189, x190, x191, x192, x193, x194, x195, x196, x197, x198, x199, x200, x201, x202, x203, x204, x205, x206, x207, x208, x209, x210, x211, x212, x213, x214, x215, x216, x217, x218, x219, x220, x221, x222, x223, x224, undef], defers := [] } wz := by
                    intro m x10 x12 x13 x14 x15 x19 x20 x21 x22 x23 x24 x25 x26 x27 x28 x29 x30 x31 x32 x33 x34 x35 x36 x37 x38 x39 x40 x41 x42 x43 x44 x45 x46 x47 x48 x49 x50 x51 x52 x53 x54 x55 x56 x57 x58 x59 x60 x61 x62 x63 x64 x65 x66 x67 x68 x69 x70 x71 x72 x73 x74 x75 x76 x77 x78 x79 x80 x81 x82 x83 x84 x85 x86 x87 x88 x89 x90 x91 x92 x93 x94 x95 x96 x97 x98 x99 x100 x101 x102 x103 x104 x105 x106 x107 x108 x109 x110 x111 x112 x113 x114 x115 x116 x117 x118 x119 x120 x121 x122 x123 x124 x125 x126 x127 x128 x129 x130 x131 x132 x133 x134 x135 x136 x137 x138 x139 x140 x141 x142 x143 x144 x145 x146 x147 x148 x149 x150 x151 x152 x153 x154 x155 x156 x157 x158 x159 x160 x161 x162 x163 x164 x165 x166 x167 x168 x169 x170 x171 x172 x173 x174 x175 x176 x177 x178 x179 x180 x181 x182 x183 x184 x185 x186 x187 x188 x189 x190 x191 x192 x193 x194 x195 x196 x197 x198 x199 x200 x201 x202 x203 x204 x205 x206 x207 x208 x209 x210 x211 x212 x213 x214 x215 x216 x217 x218 x219 x220 x221 x222 x223 x224 hm
                    refine hKB _ _ ?_
                    clear hKB hKY KB KY z0
                    have HM := Lib.hid hm
                    clear hm
                    go_upto_region 43 with (fail)
                    go_loopg [212] (m - es.length) (fun gh b wr => Hid (∃ (ya : Option Addr) (yc : Nat) (es : List EA), FinM sb w2 kd nm ya yc es ta tc tl ea ec el wr ∧ FinK c d loop kd nm es tl el ∧ gh + es.length = m))
                    case atStart => exact Lib.hid ⟨ya, yc, es, HF.out, HK.out, by have := HK.out.1; rw [← HM.out] at this; omega⟩
                    case round =>
                      clear HF HK
                      obtain ⟨wz, rfl⟩ : ∃ wo, wo = wr := ⟨_, rfl⟩
                      obtain ⟨ya, yc, es, hf, hk, hgm⟩ := hrel.out
                      have HF := Lib.hid hf
                      have HK := Lib.hid hk
                      have y2 := hf.row.cell 2
                      simp only [List.getElem?_cons_zero, List.getElem?_cons_succ] at y2
                      clear hrel hf hk
                      by_cases hlm : es.length < m
                      · have hlz : (es.length : Int) < (m : Int) := by omega
                        go_upto_region 44 with (fail)
                        clear y2
                        have hrs : Row wz W.heap.size 64 [.slice va NV vc, .slice aa NA ac, .slice fa NF fc, .bool false, .bool loop] := HF.out.sg.row HT3.out (by omega)
                        have hrx : Row wz w2.heap.size 54 [I kd, S nm, .slice ya es.length yc, .slice ta tl.length tc, .slice ea el.length ec] := HF.out.row
                        have HRS := Lib.hid hrs
                        have HRX := Lib.hid hrx
                        clear hrs hrx
                        refine wp_region_ordW (by kernel_rfl) (fun X => X.cell? ⟨W.heap.size, 0, none⟩ = some (.slice va NV vc) ∧ X.cell? ⟨W.heap.size, 1, none⟩ = some (.slice aa NA ac) ∧ X.cell? ⟨W.heap.size, 2, none⟩ = some (.slice fa NF fc) ∧ X.cell? ⟨W.heap.size, 3, none⟩ = some (.bool false) ∧ X.cell? ⟨W.heap.size, 4, none⟩ = some (.bool loop) ∧ X.cell? ⟨w2.heap.size, 2, none⟩ = some (.slice ya es.length yc))
                          [(0, 0), (0, 1), (0, 2), (0, 3), (1, 4), (1, 5), (1, 6), (0, 7), (2, 8)] (by kernel_rfl) ?hS ?_
                        case hS => intro wd hh; exact ⟨row_at HRS.out hh 0, row_at HRS.out hh 1, row_at HRS.out hh 2, row_at HRS.out hh 3, row_at HRS.out hh 4, row_at HRX.out hh 2⟩
                        intro wd hh hgd hS
                        have HFD := Lib.hid (HF.out.ext hgd)
                        clear hh hgd HRS HRX
                        have hS2 : ∀ X : World, Row X W.heap.size 64 [.slice va NV vc, .slice aa NA ac, .slice fa NF fc, .bool false, .bool loop] → Row X w2.heap.size 54 [I kd, S nm, .slice ya es.length yc, .slice ta tl.length tc, .slice ea el.length ec] → (X.cell? ⟨W.heap.size, 0, none⟩ = some (.slice va NV vc) ∧ X.cell? ⟨W.heap.size, 1, none⟩ = some (.slice aa NA ac) ∧ X.cell? ⟨W.heap.size, 2, none⟩ = some (.slice fa NF fc) ∧ X.cell? ⟨W.heap.size, 3, none⟩ = some (.bool false) ∧ X.cell? ⟨W.heap.size, 4, none⟩ = some (.bool loop) ∧ X.cell? ⟨w2.heap.size, 2, none⟩ = some (.slice ya es.length yc)) :=
                          fun X h h' => ⟨h.cell 0, h.cell 1, h.cell 2, h.cell 3, h.cell 4, h'.cell 2⟩
                        have HS2' := Lib.hid hS2
                        clear hS2
                        have HC : Hid (Calls Tryz.prog 28 #[.agg #[.slice va NV vc, .slice aa NA ac, .slice fa NF fc, .bool false, .bool loop], .pointer (some ⟨sb, 0, none⟩), I 4] wd (DrR c 4 sb wd)) := by
                          refine Lib.hid ?_
                          have h := expr28 c 4 (by decide) (by decide) sb wd (.slice va NV vc) (.slice aa NA ac) (.slice fa NF fc) loop (HSC.out.kept (HS3.out.trans HFD.out.sg).1 (fun r e => by cases e; rfl)) HFD.out.sg.2
                          rw [HCF.out] at h
                          exact h
                        simp only [pickOps, List.map_cons, List.map_nil, List.getElem?_cons_zero, List.getElem?_cons_succ, Option.getD_some]
                        repeat (refine wpOrd_look (v := ?_) (by rfl) ?_ (by assumption) (fun _ _ _ h => h) ?_; rotate_left; (· (intro wS hSw; (try dsimp only at hSw); go_simp; (first | done | with_reducible rfl))); simp only [Act.put, List.setIfInBounds_toArray, List.set_cons_zero, List.set_cons_succ])
                        refine wpOrd_turn ?_
                        go_wp2_with (first
                          | (go_at_call 28; refine HC.out.mono ?_; rintro e' w4 ⟨x, xv, rfl, hdr2, hex2, hsg2⟩; obtain ⟨xa, xc, rfl⟩ := hex2.slice; have HDR2 := Lib.hid hdr2; have HEX2 := Lib.hid hex2; have HSG2 := Lib.hid hsg2; clear hdr2 hex2 hsg2; try dsimp only))
                        have HF4 := Lib.hid (HFD.out.draw HSG2.out)
                        refine QN_keep (HS2'.out w4 (HF4.out.sg.row HT3.out (by omega)) HF4.out.row) fun hS => ?_
                        clear hS
                        refine wpOrd_turn ?_
                        go_wp2
                        obtain ⟨w5, hw5⟩ : ∃ w5, w5 = w4.alloc (.cells #[I x.kind, I x.op, I x.n, S x.name, .slice xa x.args.length xc] 31) := ⟨_, rfl⟩
                        have hn5 : w5.heap[w4.heap.size]? = some (.cells #[I x.kind, I x.op, I x.n, S x.name, .slice xa x.args.length xc] 31) := by rw [hw5]; exact heap_new _ _
                        have HF5 := Lib.hid (show FinM sb w2 kd nm ya yc es ta tc tl ea ec el w5 by rw [hw5]; exact HF4.out.ext (alloc_grown _ _ none))
                        have HW5 := Lib.hid hw5
                        have HN5 := Lib.hid hn5
                        have HO5 := Lib.hid HF5.out.as_.1
                        have hz5 : w2.heap.size + 1 ≤ w5.heap.size := HF5.out.lt
                        have hdn : es.length ≤ 1000000000 := by have := HK.out.1; unfold manyK at this; split at this <;> (try split at this) <;> omega
                        rw [← hw5]
                        clear hw5 hn5
                        refine QN_keep (HS2'.out w5 (HF5.out.sg.row HT3.out (by omega)) HF5.out.row) fun hS => ?_
                        clear hS
                        refine wpOrd_turn ?_
                        go_wp2_with (first
                          | (at_builtin; refine wpList_appS slExpr rfl _ _ rfl eEnc_len eEnc_one (w2.heap.size + 1) (.slice ya es.length yc) es rfl HO5.out w4.heap.size ⟨x, xa, xc⟩ rfl (fun j hj => (cell_of_block HN5.out j).trans (by simp [eEnc, EA.av])) hdn (by decide) hz5 ?_; intro g' cap w6 ho6 hg6 hat6 hlt6; have HO6 := Lib.hid ho6; have HG6 := Lib.hid hg6; have HAT := Lib.hid hat6; clear ho6 hg6 hat6))
                        have hrs : Row w6 W.heap.size 64 [.slice va NV vc, .slice aa NA ac, .slice fa NF fc, .bool false, .bool loop] := (HF5.out.sg.row HT3.out (by omega)).kept HG6.out (fun e => by have := HF5.out.own_lt _ e.symm; have := HT3.out.lt; omega)
                        have hrx : Row w6 w2.heap.size 54 [I kd, S nm, .slice ya es.length yc, .slice ta tl.length tc, .slice ea el.length ec] := HF5.out.row.kept HG6.out (fun e => by have := HF5.out.own_lt _ e.symm; omega)
                        have HRS := Lib.hid hrs
                        have HRX := Lib.hid hrx
                        clear hrs hrx
                        refine QN_keep (HS2'.out w6 HRS.out HRX.out) fun hS => ?_
                        repeat (refine wpOrd_look (v := ?_) (by rfl) ?_ (by assumption) (fun _ _ _ h => h) ?_; rotate_left; (· (intro wS hSw; (try dsimp only at hSw); go_simp; (first | done | with_reducible rfl))); simp only [Act.put, List.setIfInBounds_toArray, List.set_cons_zero, List.set_cons_succ])
                        clear hS
                        have f2 := HRX.out.frozen 2
                        have c2 := HRX.out.cell 2
                        simp only [List.getElem?_cons_zero, List.getElem?_cons_succ] at c2
                        refine wpOrd_last ?_
                        go_wp2
                        refine QN_normal (wpOrd_nil ?_)
                        obtain ⟨w7, hw7⟩ : ∃ w7, w7 = w6.setCell ⟨w2.heap.size, 2, none⟩ (.slice (some ⟨g', 0, none⟩) (es.length + 1) cap) := ⟨_, rfl⟩
                        have hf7 : FinM sb w2 kd nm (some ⟨g', 0, none⟩) cap (es ++ [⟨x, xa, xc⟩]) ta tc tl ea ec el w7 := by
                          rw [hw7]
                          exact FinM.app (y := ⟨x, xa, xc⟩) HFD.out HSG2.out HEX2.out HO6.out (by rw [← HW5.out]; exact HG6.out) (by rw [← HW5.out]; exact HAT.out)
                        rw [← hw7]
                        have HF7 := Lib.hid hf7
                        clear hw7 hf7 f2 c2 HRS HRX HO6 HG6 HAT HO5 HN5 HW5 HF5 HF4 HS2' hz5 hdn
                        go_wp2
                        go_roundg (m - (es.length + 1))
                        case measure => omega
                        case rel => exact Lib.hid ⟨_, _, _, HF7.out, FinK.app HK.out (DrE.le (by decide) HDR2.out) (by rw [← HM.out]; exact hlm), by simp; omega⟩
                      · have hlz : ¬ (es.length : Int) < (m : Int) := by omega
                        have HFULL := Lib.hid (HK.out.full (by have := HK.out.1; rw [← HM.out] at this ⊢; omega))
                        have hdn : done.length ≤ 1000000000 := by rw [HDK.out]; omega
                        have hen : es.length ≤ 1000000000 := by have := HK.out.1; unfold manyK at this; split at this <;> (try split at this) <;> omega
                        have y0 := HF.out.row.cell 0
                        have y1 := HF.out.row.cell 1
                        have y3 := HF.out.row.cell 3
                        have y4 := HF.out.row.cell 4
                        simp only [List.getElem?_cons_zero, List.getElem?_cons_succ] at y0 y1 y3 y4
                        have HSDA := Lib.hid (HSD3.out.grown HF.out.sg.1 (fun r e => by cases e; omega))
                        have hzb : W.heap.size + 1 ≤ w2.heap.size := HT3.out.lt
                        have hzz : w2.heap.size < wz.heap.size := HF.out.lt
                        go_wp2_with (first
                          | (at_builtin; refine wpList_appS slStmt rfl _ _ rfl dEnc_len dEnc_one (W.heap.size + 1) (.slice oa k oc) done rfl (HSDA.out.grown (alloc_grown wz _ none) (fun r e => by cases e)).1 wz.heap.size ⟨.mk kd nm (es.map EA.e) tl el, ya, yc, ta, tc, ea, ec⟩ rfl (fun j hj => (cell_of_block (heap_new wz _) j).trans (by simp [dEnc, SD.av, SD.tv, SD.ev, LS.kind, LS.name, LS.args, LS.thn, LS.els])) hdn (by decide) (by simp only [World.size_alloc]; omega) ?_; intro g' cap w6 ho6 hg6 hat6 hlt6; have HO6 := Lib.hid ho6; have HG6 := Lib.hid hg6; have HAT := Lib.hid hat6; clear ho6 hg6 hat6))
                        have hob : ∀ r, (Value.slice oa k oc).ownBlock = some r → W.heap.size + 1 ≤ r := fun r e => (ownsRow_base HSDA.out.1 r e).1
                        have hsg6 := (((HS3.out.trans HF.out.sg).post (alloc_grown wz _ none) hsl (fun r e => by cases e)).post HG6.out hsl (fun r e => by have := hob r e; omega))
                        have hr6 := (show Row _ W.heap.size 64 [.slice va NV vc, .slice aa NA ac, .slice fa NF fc, .bool false, .bool loop] from heap_old _ _ (HF.out.sg.row HT3.out (by omega))).kept HG6.out (fun e => by have := hob _ e.symm; omega)
                        have hd6 := SdI.app HSD3.out HF.out.sg.1 (fun r e => by cases e; omega) (HF.out.part hen) hzb HO6.out HG6.out rfl HAT.out
                        go_roundg (n - (k + 1))
                        case measure => omega
                        case rel =>
                          refine ⟨k + 1, by omega, by go_num, Lib.hid ⟨done ++ [⟨.mk kd nm (es.map EA.e) tl el, ya, yc, ta, tc, ea, ec⟩], by simp [HDK.out], hsg6, hr6, hd6, fun p hp => ?_⟩⟩
                          rcases List.mem_append.1 hp with hp | hp
                          · exact HDR.out p hp
                          · obtain rfl := List.mem_singleton.1 hp
                            exact HFULL.out
                  have HB := Lib.hid hB
                  clear hKB hB
                  by_cases k5 : kd = 5
                  · have HE : Hid (0 = manyK kd) := Lib.hid (by rw [k5]; rfl)
                    subst k5
                    go_wp2
                    exact HB.out 0 _ _ _ _ _ _ _ _ _ _ _ _ _ _ _ _ _ _ _ _ _ _ _ _ _ _ _ _ _ _ _ _ _ _ _ _ _ _ _ _ _ _ _ _ _ _ _ _ _ _ _ _ _ _ _ _ _ _ _ _ _ _ _ _ _ _ _ _ _ _ _ _ _ _ _ _ _ _ _ _ _ _ _ _ _ _ _ _ _ _ _ _ _ _ _ _ _ _ _ _ _ _ _ _ _ _ _ _ _ _ _ _ _ _ _ _ _ _ _ _ _ _ _ _ _ _ _ _ _ _ _ _ _ _ _ _ _ _ _ _ _ _ _ _ _ _ _ _ _ _ _ _ _ _ _ _ _ _ _ _ _ _ _ _ _ _ _ _ _ _ _ _ _ _ _ _ _ _ _ _ _ _ _ _ _ _ _ _ _ _ _ _ _ _ _ _ _ _ _ _ _ _ _ _ _ _ _ _ _ _ _ HE.out
                  by_cases k6 : kd = 6
                  · have HE : Hid (0 = manyK kd) := Lib.hid (by rw [k6]; rfl)
                    subst k6
                    go_wp2
                    exact HB.out 0 _ _ _ _ _ _ _ _ _ _ _ _ _ _ _ _ _ _ _ _ _ _ _ _ _ _ _ _ _ _ _ _ _ _ _ _ _ _ _ _ _ _ _ _ _ _ _ _ _ _ _ _ _ _ _ _ _ _ _ _ _ _ _ _ _ _ _ _ _ _ _ _ _ _ _ _ _ _ _ _ _ _ _ _ _ _ _ _ _ _ _ _ _ _ _ _ _ _ _ _ _ _ _ _ _ _ _ _ _ _ _ _ _ _ _ _ _ _ _ _ _ _ _ _ _ _ _ _ _ _ _ _ _ _ _ _ _ _ _ _ _ _ _ _ _ _ _ _ _ _ _ _ _ _ _ _ _ _ _ _ _ _ _ _ _ _ _ _ _ _ _ _ _ _ _ _ _ _ _ _ _ _ _ _ _ _ _ _ _ _ _ _ _ _ _ _ _ _ _ _ _ _ _ _ _ _ _ _ _ _ _ HE.out
                  have HE : Hid (m1 = manyK kd) := Lib.hid (by
                    unfold manyK
                    by_cases k2 : kd = 2
                    · rw [if_pos k2]; exact HM2.out k2
                    · rw [if_neg k2, if_neg (by omega)]; exact HM1.out k2)
                  have k5b : (kd == 5) = false := beq_eq_false_iff_ne.2 k5
                  have k6b : (kd == 6) = false := beq_eq_false_iff_ne.2 k6
                  clear k5 k6
                  go_wp2
                  exact HB.out m1 _ _ _ _ _ _ _ _ _ _ _ _ _ _ _ _ _ _ _ _ _ _ _ _ _ _ _ _ _ _ _ _ _ _ _ _ _ _ _ _ _ _ _ _ _ _ _ _ _ _ _ _ _ _ _ _ _ _ _ _ _ _ _ _ _ _ _ _ _ _ _ _ _ _ _ _ _ _ _ _ _ _ _ _ _ _ _ _ _ _ _ _ _ _ _ _ _ _ _ _ _ _ _ _ _ _ _ _ _ _ _ _ _ _ _ _ _ _ _ _ _ _ _ _ _ _ _ _ _ _ _ _ _ _ _ _ _ _ _ _ _ _ _ _ _ _ _ _ _ _ _ _ _ _ _ _ _ _ _ _ _ _ _ _ _ _ _ _ _ _ _ _ _ _ _ _ _ _ _ _ _ _ _ _ _ _ _ _ _ _ _ _ _ _ _ _ _ _ _ _ _ _ _ _ _ _ _ _ _ _ _ HE.out
                have HA := Lib.hid hA
                clear hKA hA
                by_cases k2 : kd = 2
                · have HE : Hid (kd = 2) := Lib.hid k2
                  subst k2
                  go_wp2
                  exact HA.out 2 _ _ _ _ _ _ _ _ _ _ _ _ _ _ _ _ _ _ _ _ _ _ _ _ _ _ _ _ _ _ _ _ _ _ _ _ _ _ _ _ _ _ _ _ _ _ _ _ _ _ _ _ _ _ _ _ _ _ _ _ _ _ _ _ _ _ _ _ _ _ _ _ _ _ _ _ _ _ _ _ _ _ _ _ _ _ _ _ _ _ _ _ _ _ _ _ _ _ _ _ _ _ _ _ _ _ _ _ _ _ _ _ _ _ _ _ _ _ _ _ _ _ _ _ _ _ _ _ _ _ _ _ _ _ _ _ _ _ _ _ _ _ _ _ _ _ _ _ _ _ _ _ _ _ _ _ _ _ _ _ _ _ _ _ _ _ _ _ _ _ _ _ _ _ _ _ _ _ _ _ _ _ _ _ _ _ _ _ _ _ _ _ _ _ _ _ _ _ _ _ _ _ _ _ _ _ _ _ _ _ _ (fun _ => rfl) (fun h => absurd rfl h)
                · go_wp2
                  exact HA.out 1 _ _ _ _ _ _ _ _ _ _ _ _ _ _ _ _ _ _ _ _ _ _ _ _ _ _ _ _ _ _ _ _ _ _ _ _ _ _ _ _ _ _ _ _ _ _ _ _ _ _ _ _ _ _ _ _ _ _ _ _ _ _ _ _ _ _ _ _ _ _ _ _ _ _ _ _ _ _ _ _ _ _ _ _ _ _ _ _ _ _ _ _ _ _ _ _ _ _ _ _ _ _ _ _ _ _ _ _ _ _ _ _ _ _ _ _ _ _ _ _ _ _ _ _ _ _ _ _ _ _ _ _ _ _ _ _ _ _ _ _ _ _ _ _ _ _ _ _ _ _ _ _ _ _ _ _ _ _ _ _ _ _ _ _ _ _ _ _ _ _ _ _ _ _ _ _ _ _ _ _ _ _ _ _ _ _ _ _ _ _ _ _ _ _ _ _ _ _ _ _ _ _ _ _ _ _ _ _ _ _ _ (fun h => absurd h k2) (fun _ => rfl)
              have HFIN := Lib.hid fin
              clear hKF fin

              clear c0 c1 c2 c3
              have hcases : kq < 4 ∨ kq = 4 ∨ kq = 5 ∨ kq = 6 ∨ (kq = 7 ∨ kq = 8) ∨ (kq = 9 ∨ kq = 10) ∨ kq = 11 ∨ kq = 12 ∨ kq = 13 := by omega
              rcases hcases with h4 | rfl | rfl | rfl | h78 | h910 | rfl | rfl | rfl
              · have h4z : (kq : Int) < 4 := by omega
                cases bv with
                | true =>
                  have y0 := HFM.out.row.cell 0
                  have f0 := HFM.out.row.frozen 0
                  simp only [List.getElem?_cons_zero] at y0
                  go_upto_region 15 with (fail)
                  obtain ⟨w4, hw_⟩ : ∃ w4, w4 = w3.setCell ⟨w2.heap.size, 0, none⟩ (I 1) := ⟨_, rfl⟩
                  have hf_ : FinM sb w2 1 [] none 0 [] none 0 [] none 0 [] w4 := by rw [hw_]; exact HFM.out.kind 1
                  rw [← hw_]
                  have HF4 := Lib.hid hf_
                  clear hw_ hf_
                  clear y0 f0
                  have hrw := (HF4.out.sg.row HT3.out (by omega)).cell
                  have c0 := hrw 0
                  have c1 := hrw 1
                  have c2 := hrw 2
                  have c3 := hrw 3
                  have c4 := hrw 4
                  simp only [List.getElem?_cons_zero, List.getElem?_cons_succ] at c0 c1 c2 c3 c4
                  clear hrw
                  have HVN := Lib.hid (name45_any false loop sb w4 (.slice va NV vc) (.slice aa NA ac) (.slice fa NF fc) (.slice va NV vc) vl HF4.out.sg.2 (HVL.out.grown (HS3.out.trans HF4.out.sg).1 (fun r e => by cases e; simp) (fun _ _ h => h)) (.inr (List.length_pos_iff.1 (by rw [← HNV.out]; exact HBV.out (by first | trivial | rfl)))))
                  go_wp2_with (first
                    | (go_at_call 45; refine HVN.out.mono ?_; rintro e' w5 ⟨⟨x, rfl, hx⟩, hs5⟩; have HF5 := Lib.hid (HF4.out.draw hs5); have HX := Lib.hid (HVK.out x (hx rfl)); have y1 := HF5.out.row.cell 1; have f1 := HF5.out.row.frozen 1; simp only [List.getElem?_cons_zero, List.getElem?_cons_succ] at y1; clear hs5 hx c0 c1 c2 c3 c4; try dsimp only))
                  exact HFIN.out _ _ _ _ _ _ _ _ _ _ _ _ _ _ _ _ _ _ _ _ _ _ _ _ _ _ _ _ _ _ _ _ _ _ _ _ _ _ _ _ _ _ _ _ _ _ _ _ _ _ _ _ _ _ _ _ _ _ _ _ _ _ _ _ _ _ _ _ _ _ _ _ _ _ _ _ _ _ _ _ _ _ _ _ _ _ _ _ _ _ _ _ _ _ _ _ _ _ _ _ _ _ _ _ _ _ _ _ _ _ _ _ _ _ _ _ _ _ _ _ _ _ _ _ _ _ _ _ _ _ _ _ _ _ _ _ _ _ _ _ _ _ _ _ _ _ _ _ _ _ _ _ _ _ _ _ _ _ _ _ _ _ _ _ _ _ _ _ _ _ _ _ _ _ _ _ _ _ _ _ _ _ _ _ _ _ _ _ _ _ _ _ _ _ _ _ _ _ _ _ _ _ _ _ _ _ _ _ _ _ _ _ _ 1 x none 0 [] none 0 [] none 0 [] (HF5.out.name x) (FinK.set HX.out)
                | false =>
                  have e4 : ((kq : Int) == 4) = false := beq_eq_false_iff_ne.2 (by omega)
                  have e5 : ((kq : Int) == 5) = false := beq_eq_false_iff_ne.2 (by omega)
                  have e6 : ((kq : Int) == 6) = false := beq_eq_false_iff_ne.2 (by omega)
                  have e7 : ((kq : Int) == 7) = false := beq_eq_false_iff_ne.2 (by omega)
                  have e8 : ((kq : Int) == 8) = false := beq_eq_false_iff_ne.2 (by omega)
                  have e9 : ((kq : Int) == 9) = false := beq_eq_false_iff_ne.2 (by omega)
                  have e10 : ((kq : Int) == 10) = false := beq_eq_false_iff_ne.2 (by omega)
                  have e11 : ((kq : Int) == 11) = false := beq_eq_false_iff_ne.2 (by omega)
                  clear h4
                  go_wp2
                  exact HFIN.out _ _ _ _ _ _ _ _ _ _ _ _ _ _ _ _ _ _ _ _ _ _ _ _ _ _ _ _ _ _ _ _ _ _ _ _ _ _ _ _ _ _ _ _ _ _ _ _ _ _ _ _ _ _ _ _ _ _ _ _ _ _ _ _ _ _ _ _ _ _ _ _ _ _ _ _ _ _ _ _ _ _ _ _ _ _ _ _ _ _ _ _ _ _ _ _ _ _ _ _ _ _ _ _ _ _ _ _ _ _ _ _ _ _ _ _ _ _ _ _ _ _ _ _ _ _ _ _ _ _ _ _ _ _ _ _ _ _ _ _ _ _ _ _ _ _ _ _ _ _ _ _ _ _ _ _ _ _ _ _ _ _ _ _ _ _ _ _ _ _ _ _ _ _ _ _ _ _ _ _ _ _ _ _ _ _ _ _ _ _ _ _ _ _ _ _ _ _ _ _ _ _ _ _ _ _ _ _ _ _ _ _ w3 8 [] none 0 [] none 0 [] none 0 [] HFM.out (FinK.print (.inr (.inl rfl)))
              · cases ba with
                | true =>
                  have y0 := HFM.out.row.cell 0
                  have f0 := HFM.out.row.frozen 0
                  simp only [List.getElem?_cons_zero] at y0
                  go_upto_region 18 with (fail)
                  obtain ⟨w4, hw_⟩ : ∃ w4, w4 = w3.setCell ⟨w2.heap.size, 0, none⟩ (I 2) := ⟨_, rfl⟩
                  have hf_ : FinM sb w2 2 [] none 0 [] none 0 [] none 0 [] w4 := by rw [hw_]; exact HFM.out.kind 2
                  rw [← hw_]
                  have HF4 := Lib.hid hf_
                  clear hw_ hf_
                  clear y0 f0
                  have hrw := (HF4.out.sg.row HT3.out (by omega)).cell
                  have c0 := hrw 0
                  have c1 := hrw 1
                  have c2 := hrw 2
                  have c3 := hrw 3
                  have c4 := hrw 4
                  simp only [List.getElem?_cons_zero, List.getElem?_cons_succ] at c0 c1 c2 c3 c4
                  clear hrw
                  have hf68 := arr_f0
                  have HAR := Lib.hid (array29_any false loop sb w4 (.slice va NV vc) (.slice aa NA ac) (.slice fa NF fc) al HF4.out.sg.2 (HAL.out.grown (HS3.out.trans HF4.out.sg).1 (fun r e => by cases e; simp) (fun _ _ h => h)) (.inr (List.length_pos_iff.1 (by rw [← HNA.out]; exact HBA.out (by first | trivial | rfl)))))
                  go_upto_region 19 with (first
                    | (go_at_call 29; refine HAR.out.mono ?_; rintro e' w5 ⟨⟨xn, xz, rfl, hx⟩, hs5⟩; have HF5 := Lib.hid (HF4.out.draw hs5); have HX := Lib.hid (hx rfl); have y1 := HF5.out.row.cell 1; have f1 := HF5.out.row.frozen 1; simp only [List.getElem?_cons_zero, List.getElem?_cons_succ] at y1; clear hs5 hx c0 c1 c2 c3 c4; try dsimp only))
                  have hok : c.okA xn := by
                    obtain ⟨a, ha, rfl⟩ := HX.out
                    exact HAK.out a ha
                  have HOK := Lib.hid hok
                  obtain ⟨w6, hw6⟩ : ∃ w6, w6 = w5.setCell ⟨w2.heap.size, 1, none⟩ (S xn) := ⟨_, rfl⟩
                  have hf6 : FinM sb w2 2 xn none 0 [] none 0 [] none 0 [] w6 := by rw [hw6]; exact HF5.out.name xn
                  rw [← hw6]
                  have HF6 := Lib.hid hf6
                  clear hok hw6 hf6 y1 f1 hf68 HF4
                  obtain ⟨ya, yc, es, hes, hfa⟩ : ∃ (ya : Option Addr) (yc : Nat) (es : List EA), es = [] ∧ FinM sb w2 2 xn ya yc es none 0 [] none 0 [] w6 := ⟨none, 0, [], rfl, HF6.out⟩
                  have HFA := Lib.hid hfa
                  have HES := Lib.hid hes
                  clear hfa hes
                  have hrs : Row w6 W.heap.size 64 [.slice va NV vc, .slice aa NA ac, .slice fa NF fc, .bool false, .bool loop] := HFA.out.sg.row HT3.out (by omega)
                  have hrx : Row w6 w2.heap.size 54 [I (2), S xn, .slice ya es.length yc, .slice none 0 0, .slice none 0 0] := HFA.out.row
                  have HRS := Lib.hid hrs
                  have HRX := Lib.hid hrx
                  clear hrs hrx
                  refine wp_region_ordW (by kernel_rfl) (fun X => X.cell? ⟨W.heap.size, 0, none⟩ = some (.slice va NV vc) ∧ X.cell? ⟨W.heap.size, 1, none⟩ = some (.slice aa NA ac) ∧ X.cell? ⟨W.heap.size, 2, none⟩ = some (.slice fa NF fc) ∧ X.cell? ⟨W.heap.size, 3, none⟩ = some (.bool false) ∧ X.cell? ⟨W.heap.size, 4, none⟩ = some (.bool loop) ∧ X.cell? ⟨w2.heap.size, 2, none⟩ = some (.slice ya es.length yc))
                    [(0, 0), (0, 1), (0, 2), (0, 3), (1, 4), (1, 5), (1, 6), (0, 7), (2, 8)] (by kernel_rfl) ?hS ?_
                  case hS => intro wd hh; exact ⟨row_at HRS.out hh 0, row_at HRS.out hh 1, row_at HRS.out hh 2, row_at HRS.out hh 3, row_at HRS.out hh 4, row_at HRX.out hh 2⟩
                  intro wd hh hgd hS
                  have HFD := Lib.hid (HFA.out.ext hgd)
                  clear hh hgd HRS HRX
                  have hS2 : ∀ X : World, Row X W.heap.size 64 [.slice va NV vc, .slice aa NA ac, .slice fa NF fc, .bool false, .bool loop] → Row X w2.heap.size 54 [I (2), S xn, .slice ya es.length yc, .slice none 0 0, .slice none 0 0] → (X.cell? ⟨W.heap.size, 0, none⟩ = some (.slice va NV vc) ∧ X.cell? ⟨W.heap.size, 1, none⟩ = some (.slice aa NA ac) ∧ X.cell? ⟨W.heap.size, 2, none⟩ = some (.slice fa NF fc) ∧ X.cell? ⟨W.heap.size, 3, none⟩ = some (.bool false) ∧ X.cell? ⟨W.heap.size, 4, none⟩ = some (.bool loop) ∧ X.cell? ⟨w2.heap.size, 2, none⟩ = some (.slice ya es.length yc)) :=
                    fun X h h' => ⟨h.cell 0, h.cell 1, h.cell 2, h.cell 3, h.cell 4, h'.cell 2⟩
                  have HS2' := Lib.hid hS2
                  clear hS2
                  have HC : Hid (Calls Tryz.prog 28 #[.agg #[.slice va NV vc, .slice aa NA ac, .slice fa NF fc, .bool false, .bool loop], .pointer (some ⟨sb, 0, none⟩), I 3] wd (DrR c 3 sb wd)) := by
                    refine Lib.hid ?_
                    have h := expr28 c 3 (by decide) (by decide) sb wd (.slice va NV vc) (.slice aa NA ac) (.slice fa NF fc) loop (HSC.out.kept (HS3.out.trans HFD.out.sg).1 (fun r e => by cases e; rfl)) HFD.out.sg.2
                    rw [HCF.out] at h
                    exact h
                  simp only [pickOps, List.map_cons, List.map_nil, List.getElem?_cons_zero, List.getElem?_cons_succ, Option.getD_some]
                  repeat (refine wpOrd_look (v := ?_) (by rfl) ?_ (by assumption) (fun _ _ _ h => h) ?_; rotate_left; (· (intro wS hSw; (try dsimp only at hSw); go_simp; (first | done | with_reducible rfl))); simp only [Act.put, List.setIfInBounds_toArray, List.set_cons_zero, List.set_cons_succ])
                  refine wpOrd_turn ?_
                  go_wp2_with (first
                    | (go_at_call 28; refine HC.out.mono ?_; rintro e' w4 ⟨x, xv, rfl, hdr2, hex2, hsg2⟩; obtain ⟨xa, xc, rfl⟩ := hex2.slice; have HDR2 := Lib.hid hdr2; have HEX2 := Lib.hid hex2; have HSG2 := Lib.hid hsg2; clear hdr2 hex2 hsg2; try dsimp only))
                  have HF4 := Lib.hid (HFD.out.draw HSG2.out)
                  refine QN_keep (HS2'.out w4 (HF4.out.sg.row HT3.out (by omega)) HF4.out.row) fun hS => ?_
                  clear hS
                  refine wpOrd_turn ?_
                  go_wp2
                  obtain ⟨w5, hw5⟩ : ∃ w5, w5 = w4.alloc (.cells #[I x.kind, I x.op, I x.n, S x.name, .slice xa x.args.length xc] 31) := ⟨_, rfl⟩
                  have hn5 : w5.heap[w4.heap.size]? = some (.cells #[I x.kind, I x.op, I x.n, S x.name, .slice xa x.args.length xc] 31) := by rw [hw5]; exact heap_new _ _
                  have HF5 := Lib.hid (show FinM sb w2 2 xn ya yc es none 0 [] none 0 [] w5 by rw [hw5]; exact HF4.out.ext (alloc_grown _ _ none))
                  have HW5 := Lib.hid hw5
                  have HN5 := Lib.hid hn5
                  have HO5 := Lib.hid HF5.out.as_.1
                  have hz5 : w2.heap.size + 1 ≤ w5.heap.size := HF5.out.lt
                  have hdn : es.length ≤ 1000000000 := by rw [HES.out]; simp
                  rw [← hw5]
                  clear hw5 hn5
                  refine QN_keep (HS2'.out w5 (HF5.out.sg.row HT3.out (by omega)) HF5.out.row) fun hS => ?_
                  clear hS
                  refine wpOrd_turn ?_
                  go_wp2_with (first
                    | (at_builtin; refine wpList_appS slExpr rfl _ _ rfl eEnc_len eEnc_one (w2.heap.size + 1) (.slice ya es.length yc) es rfl HO5.out w4.heap.size ⟨x, xa, xc⟩ rfl (fun j hj => (cell_of_block HN5.out j).trans (by simp [eEnc, EA.av])) hdn (by decide) hz5 ?_; intro g' cap w6 ho6 hg6 hat6 hlt6; have HO6 := Lib.hid ho6; have HG6 := Lib.hid hg6; have HAT := Lib.hid hat6; clear ho6 hg6 hat6))
                  have hrs : Row w6 W.heap.size 64 [.slice va NV vc, .slice aa NA ac, .slice fa NF fc, .bool false, .bool loop] := (HF5.out.sg.row HT3.out (by omega)).kept HG6.out (fun e => by have := HF5.out.own_lt _ e.symm; have := HT3.out.lt; omega)
                  have hrx : Row w6 w2.heap.size 54 [I (2), S xn, .slice ya es.length yc, .slice none 0 0, .slice none 0 0] := HF5.out.row.kept HG6.out (fun e => by have := HF5.out.own_lt _ e.symm; omega)
                  have HRS := Lib.hid hrs
                  have HRX := Lib.hid hrx
                  clear hrs hrx
                  refine QN_keep (HS2'.out w6 HRS.out HRX.out) fun hS => ?_
                  repeat (refine wpOrd_look (v := ?_) (by rfl) ?_ (by assumption) (fun _ _ _ h => h) ?_; rotate_left; (· (intro wS hSw; (try dsimp only at hSw); go_simp; (first | done | with_reducible rfl))); simp only [Act.put, List.setIfInBounds_toArray, List.set_cons_zero, List.set_cons_succ])
                  clear hS
                  have f2 := HRX.out.frozen 2
                  have c2 := HRX.out.cell 2
                  simp only [List.getElem?_cons_zero, List.getElem?_cons_succ] at c2
                  refine wpOrd_last ?_
                  go_wp2
                  refine QN_normal (wpOrd_nil ?_)
                  obtain ⟨w7, hw7⟩ : ∃ w7, w7 = w6.setCell ⟨w2.heap.size, 2, none⟩ (.slice (some ⟨g', 0, none⟩) (es.length + 1) cap) := ⟨_, rfl⟩
                  have hf7 : FinM sb w2 2 xn (some ⟨g', 0, none⟩) cap (es ++ [⟨x, xa, xc⟩]) none 0 [] none 0 [] w7 := by
                    rw [hw7]
                    exact FinM.app (y := ⟨x, xa, xc⟩) HFD.out HSG2.out HEX2.out HO6.out (by rw [← HW5.out]; exact HG6.out) (by rw [← HW5.out]; exact HAT.out)
                  rw [← hw7]
                  have HF7 := Lib.hid hf7
                  clear hw7 hf7 f2 c2 HRS HRX HO6 HG6 HAT HO5 HN5 HW5 HF5 HF4 HS2' hz5 hdn
                  exact HFIN.out _ _ _ _ _ _ _ _ _ _ _ _ _ _ _ _ _ _ _ _ _ _ _ _ _ _ _ _ _ _ _ _ _ _ _ _ _ _ _ _ _ _ _ _ _ _ _ _ _ _ _ _ _ _ _ _ _ _ _ _ _ _ _ _ _ _ _ _ _ _ _ _ _ _ _ _ _ _ _ _ _ _ _ _ _ _ _ _ _ _ _ _ _ _ _ _ _ _ _ _ _ _ _ _ _ _ _ _ _ _ _ _ _ _ _ _ _ _ _ _ _ _ _ _ _ _ _ _ _ _ _ _ _ _ _ _ _ _ _ _ _ _ _ _ _ _ _ _ _ _ _ _ _ _ _ _ _ _ _ _ _ _ _ _ _ _ _ _ _ _ _ _ _ _ _ _ _ _ _ _ _ _ _ _ _ _ _ _ _ _ _ _ _ _ _ _ _ _ _ _ _ _ _ _ _ _ _ _ _ _ _ _ w7 2 xn _ _ _ none 0 [] none 0 [] HF7.out (FinK.app (by rw [HES.out]; exact FinK.store HOK.out) (DrE.le (by decide) HDR2.out) (by rw [HES.out]; decide))
                | false =>
                  go_wp2
                  exact HFIN.out _ _ _ _ _ _ _ _ _ _ _ _ _ _ _ _ _ _ _ _ _ _ _ _ _ _ _ _ _ _ _ _ _ _ _ _ _ _ _ _ _ _ _ _ _ _ _ _ _ _ _ _ _ _ _ _ _ _ _ _ _ _ _ _ _ _ _ _ _ _ _ _ _ _ _ _ _ _ _ _ _ _ _ _ _ _ _ _ _ _ _ _ _ _ _ _ _ _ _ _ _ _ _ _ _ _ _ _ _ _ _ _ _ _ _ _ _ _ _ _ _ _ _ _ _ _ _ _ _ _ _ _ _ _ _ _ _ _ _ _ _ _ _ _ _ _ _ _ _ _ _ _ _ _ _ _ _ _ _ _ _ _ _ _ _ _ _ _ _ _ _ _ _ _ _ _ _ _ _ _ _ _ _ _ _ _ _ _ _ _ _ _ _ _ _ _ _ _ _ _ _ _ _ _ _ _ _ _ _ _ _ _ w3 8 [] none 0 [] none 0 [] none 0 [] HFM.out (FinK.print (.inr (.inl rfl)))
              · cases bf with
                | true =>
                  have y0 := HFM.out.row.cell 0
                  have f0 := HFM.out.row.frozen 0
                  simp only [List.getElem?_cons_zero] at y0
                  go_upto_region 22 with (fail)
                  obtain ⟨w4a, hw_⟩ : ∃ w4, w4 = w3.setCell ⟨w2.heap.size, 0, none⟩ (I 10) := ⟨_, rfl⟩
                  have hf_ : FinM sb w2 10 [] none 0 [] none 0 [] none 0 [] w4a := by rw [hw_]; exact HFM.out.kind 10
                  rw [← hw_]
                  have HF4a := Lib.hid hf_
                  clear hw_ hf_
                  clear y0 f0
                  obtain ⟨ya, yc, es, hes, hfa⟩ : ∃ (ya : Option Addr) (yc : Nat) (es : List EA), es = [] ∧ FinM sb w2 10 [] ya yc es none 0 [] none 0 [] w4a := ⟨none, 0, [], rfl, HF4a.out⟩
                  have HFA := Lib.hid hfa
                  have HES := Lib.hid hes
                  clear hfa hes
                  have hrs : Row w4a W.heap.size 64 [.slice va NV vc, .slice aa NA ac, .slice fa NF fc, .bool false, .bool loop] := HFA.out.sg.row HT3.out (by omega)
                  have hrx : Row w4a w2.heap.size 54 [I (10), S [], .slice ya es.length yc, .slice none 0 0, .slice none 0 0] := HFA.out.row
                  have HRS := Lib.hid hrs
                  have HRX := Lib.hid hrx
                  clear hrs hrx
                  refine wp_region_ordW (by kernel_rfl) (fun X => X.cell? ⟨W.heap.size, 0, none⟩ = some (.slice va NV vc) ∧ X.cell? ⟨W.heap.size, 1, none⟩ = some (.slice aa NA ac) ∧ X.cell? ⟨W.heap.size, 2, none⟩ = some (.slice fa NF fc) ∧ X.cell? ⟨W.heap.size, 3, none⟩ = some (.bool false) ∧ X.cell? ⟨W.heap.size, 4, none⟩ = some (.bool loop) ∧ X.cell? ⟨w2.heap.size, 2, none⟩ = some (.slice ya es.length yc))
                    [(0, 0), (0, 1), (0, 2), (0, 3), (1, 4), (1, 5), (1, 6), (0, 7), (2, 8)] (by kernel_rfl) ?hS ?_
                  case hS => intro wd hh; exact ⟨row_at HRS.out hh 0, row_at HRS.out hh 1, row_at HRS.out hh 2, row_at HRS.out hh 3, row_at HRS.out hh 4, row_at HRX.out hh 2⟩
                  intro wd hh hgd hS
                  have HFD := Lib.hid (HFA.out.ext hgd)
                  clear hh hgd HRS HRX
                  have hS2 : ∀ X : World, Row X W.heap.size 64 [.slice va NV vc, .slice aa NA ac, .slice fa NF fc, .bool false, .bool loop] → Row X w2.heap.size 54 [I (10), S [], .slice ya es.length yc, .slice none 0 0, .slice none 0 0] → (X.cell? ⟨W.heap.size, 0, none⟩ = some (.slice va NV vc) ∧ X.cell? ⟨W.heap.size, 1, none⟩ = some (.slice aa NA ac) ∧ X.cell? ⟨W.heap.size, 2, none⟩ = some (.slice fa NF fc) ∧ X.cell? ⟨W.heap.size, 3, none⟩ = some (.bool false) ∧ X.cell? ⟨W.heap.size, 4, none⟩ = some (.bool loop) ∧ X.cell? ⟨w2.heap.size, 2, none⟩ = some (.slice ya es.length yc)) :=
                    fun X h h' => ⟨h.cell 0, h.cell 1, h.cell 2, h.cell 3, h.cell 4, h'.cell 2⟩
                  have HS2' := Lib.hid hS2
                  clear hS2
                  have HC : Hid (Calls Tryz.prog 46 #[.agg #[.slice va NV vc, .slice aa NA ac, .slice fa NF fc, .bool false, .bool loop], .pointer (some ⟨sb, 0, none⟩), I 3] wd fun en w' => ∃ (e : LE) (av' : Value), en = .returned (eV e av') ∧ (e.kind = 5 ∧ c.okC e.name e.args.length ∧ e.op = 0 ∧ e.n = 0 ∧ ∀ x ∈ e.args, DrE c 2 x) ∧ EX (wd.heap.size ≤ ·) w' av' e ∧ SG sb wd w') := by
                    refine Lib.hid ?_
                    have h := call46_any c 2 (expr28 c 2 (by decide) (by decide)) (by decide) loop sb wd (.slice va NV vc) (.slice aa NA ac) (.slice fa NF fc) (HSC.out.kept (HS3.out.trans HFD.out.sg).1 (fun r e => by cases e; rfl)) HFD.out.sg.2
                    rw [HCF.out] at h
                    exact h
                  simp only [pickOps, List.map_cons, List.map_nil, List.getElem?_cons_zero, List.getElem?_cons_succ, Option.getD_some]
                  repeat (refine wpOrd_look (v := ?_) (by rfl) ?_ (by assumption) (fun _ _ _ h => h) ?_; rotate_left; (· (intro wS hSw; (try dsimp only at hSw); go_simp; (first | done | with_reducible rfl))); simp only [Act.put, List.setIfInBounds_toArray, List.set_cons_zero, List.set_cons_succ])
                  refine wpOrd_turn ?_
                  go_wp2_with (first
                    | (go_at_call 46; refine HC.out.mono ?_; rintro e' w4 ⟨x, xv, rfl, hdr2, hex2, hsg2⟩; obtain ⟨xa, xc, rfl⟩ := hex2.slice; have HDR2 := Lib.hid hdr2; have HEX2 := Lib.hid hex2; have HSG2 := Lib.hid hsg2; clear hdr2 hex2 hsg2; try dsimp only))
                  have HF4 := Lib.hid (HFD.out.draw HSG2.out)
                  refine QN_keep (HS2'.out w4 (HF4.out.sg.row HT3.out (by omega)) HF4.out.row) fun hS => ?_
                  clear hS
                  refine wpOrd_turn ?_
                  go_wp2
                  obtain ⟨w5, hw5⟩ : ∃ w5, w5 = w4.alloc (.cells #[I x.kind, I x.op, I x.n, S x.name, .slice xa x.args.length xc] 31) := ⟨_, rfl⟩
                  have hn5 : w5.heap[w4.heap.size]? = some (.cells #[I x.kind, I x.op, I x.n, S x.name, .slice xa x.args.length xc] 31) := by rw [hw5]; exact heap_new _ _
                  have HF5 := Lib.hid (show FinM sb w2 10 [] ya yc es none 0 [] none 0 [] w5 by rw [hw5]; exact HF4.out.ext (alloc_grown _ _ none))
                  have HW5 := Lib.hid hw5
                  have HN5 := Lib.hid hn5
                  have HO5 := Lib.hid HF5.out.as_.1
                  have hz5 : w2.heap.size + 1 ≤ w5.heap.size := HF5.out.lt
                  have hdn : es.length ≤ 1000000000 := by rw [HES.out]; simp
                  rw [← hw5]
                  clear hw5 hn5
                  refine QN_keep (HS2'.out w5 (HF5.out.sg.row HT3.out (by omega)) HF5.out.row) fun hS => ?_
                  clear hS
                  refine wpOrd_turn ?_
                  go_wp2_with (first
                    | (at_builtin; refine wpList_appS slExpr rfl _ _ rfl eEnc_len eEnc_one (w2.heap.size + 1) (.slice ya es.length yc) es rfl HO5.out w4.heap.size ⟨x, xa, xc⟩ rfl (fun j hj => (cell_of_block HN5.out j).trans (by simp [eEnc, EA.av])) hdn (by decide) hz5 ?_; intro g' cap w6 ho6 hg6 hat6 hlt6; have HO6 := Lib.hid ho6; have HG6 := Lib.hid hg6; have HAT := Lib.hid hat6; clear ho6 hg6 hat6))
                  have hrs : Row w6 W.heap.size 64 [.slice va NV vc, .slice aa NA ac, .slice fa NF fc, .bool false, .bool loop] := (HF5.out.sg.row HT3.out (by omega)).kept HG6.out (fun e => by have := HF5.out.own_lt _ e.symm; have := HT3.out.lt; omega)
                  have hrx : Row w6 w2.heap.size 54 [I (10), S [], .slice ya es.length yc, .slice none 0 0, .slice none 0 0] := HF5.out.row.kept HG6.out (fun e => by have := HF5.out.own_lt _ e.symm; omega)
                  have HRS := Lib.hid hrs
                  have HRX := Lib.hid hrx
                  clear hrs hrx
                  refine QN_keep (HS2'.out w6 HRS.out HRX.out) fun hS => ?_
                  repeat (refine wpOrd_look (v := ?_) (by rfl) ?_ (by assumption) (fun _ _ _ h => h) ?_; rotate_left; (· (intro wS hSw; (try dsimp only at hSw); go_simp; (first | done | with_reducible rfl))); simp only [Act.put, List.setIfInBounds_toArray, List.set_cons_zero, List.set_cons_succ])
                  clear hS
                  have f2 := HRX.out.frozen 2
                  have c2 := HRX.out.cell 2
                  simp only [List.getElem?_cons_zero, List.getElem?_cons_succ] at c2
                  refine wpOrd_last ?_
                  go_wp2
                  refine QN_normal (wpOrd_nil ?_)
                  obtain ⟨w7, hw7⟩ : ∃ w7, w7 = w6.setCell ⟨w2.heap.size, 2, none⟩ (.slice (some ⟨g', 0, none⟩) (es.length + 1) cap) := ⟨_, rfl⟩
                  have hf7 : FinM sb w2 10 [] (some ⟨g', 0, none⟩) cap (es ++ [⟨x, xa, xc⟩]) none 0 [] none 0 [] w7 := by
                    rw [hw7]
                    exact FinM.app (y := ⟨x, xa, xc⟩) HFD.out HSG2.out HEX2.out HO6.out (by rw [← HW5.out]; exact HG6.out) (by rw [← HW5.out]; exact HAT.out)
                  rw [← hw7]
                  have HF7 := Lib.hid hf7
                  clear hw7 hf7 f2 c2 HRS HRX HO6 HG6 HAT HO5 HN5 HW5 HF5 HF4 HS2' hz5 hdn
                  exact HFIN.out _ _ _ _ _ _ _ _ _ _ _ _ _ _ _ _ _ _ _ _ _ _ _ _ _ _ _ _ _ _ _ _ _ _ _ _ _ _ _ _ _ _ _ _ _ _ _ _ _ _ _ _ _ _ _ _ _ _ _ _ _ _ _ _ _ _ _ _ _ _ _ _ _ _ _ _ _ _ _ _ _ _ _ _ _ _ _ _ _ _ _ _ _ _ _ _ _ _ _ _ _ _ _ _ _ _ _ _ _ _ _ _ _ _ _ _ _ _ _ _ _ _ _ _ _ _ _ _ _ _ _ _ _ _ _ _ _ _ _ _ _ _ _ _ _ _ _ _ _ _ _ _ _ _ _ _ _ _ _ _ _ _ _ _ _ _ _ _ _ _ _ _ _ _ _ _ _ _ _ _ _ _ _ _ _ _ _ _ _ _ _ _ _ _ _ _ _ _ _ _ _ _ _ _ _ _ _ _ _ _ _ _ w7 10 [] _ _ _ none 0 [] none 0 [] HF7.out (by
                    rw [HES.out]
                    obtain ⟨h1, h2, h3, h4, h5⟩ := HDR2.out
                    exact FinK.call (DrE.le (d := 3) (by decide) ⟨.inr (.inr (.inr (.inr (.inl ⟨h1, h2, h3, h4⟩)))), h5⟩) h1)
                | false =>
                  go_wp2
                  exact HFIN.out _ _ _ _ _ _ _ _ _ _ _ _ _ _ _ _ _ _ _ _ _ _ _ _ _ _ _ _ _ _ _ _ _ _ _ _ _ _ _ _ _ _ _ _ _ _ _ _ _ _ _ _ _ _ _ _ _ _ _ _ _ _ _ _ _ _ _ _ _ _ _ _ _ _ _ _ _ _ _ _ _ _ _ _ _ _ _ _ _ _ _ _ _ _ _ _ _ _ _ _ _ _ _ _ _ _ _ _ _ _ _ _ _ _ _ _ _ _ _ _ _ _ _ _ _ _ _ _ _ _ _ _ _ _ _ _ _ _ _ _ _ _ _ _ _ _ _ _ _ _ _ _ _ _ _ _ _ _ _ _ _ _ _ _ _ _ _ _ _ _ _ _ _ _ _ _ _ _ _ _ _ _ _ _ _ _ _ _ _ _ _ _ _ _ _ _ _ _ _ _ _ _ _ _ _ _ _ _ _ _ _ _ w3 8 [] none 0 [] none 0 [] none 0 [] HFM.out (FinK.print (.inr (.inl rfl)))
              · skip
                go_upto_region 23 with (fail)
                rename_i KD hKD
                have hD : ∀ (b : Bool) (x12 x13 x14 x15 x16 x19 x20 x21 x22 x23 x24 x25 x26 x27 x28 x29 x30 x31 x32 x33 x34 x35 x36 x37 x38 x39 x40 x41 x42 x43 x44 x45 x46 x47 x48 x49 x50 x51 x52 x53 x54 x55 x56 x57 x58 x59 x60 x61 x62 x63 x64 x65 x66 x67 x68 x69 x70 x71 x72 x73 x74 x75 x76 x77 x78 x79 x80 x81 x82 x83 x84 x85 x86 x87 x88 x89 x90 x91 x92 x93 x94 x95 x96 x97 x98 x99 x100 x101 x102 x103 x104 x105 x106 x107 x108 x110 x111 x112 x113 x114 x115 x116 x117 x118 x119 x120 x121 x122 x123 x124 x125 x126 x127 x128 x129 x130 x131 x132 x133 x134 x135 x136 x137 x138 x139 x140 x141 x142 x143 x144 x145 x146 x147 x148 x149 x150 x151 x152 x153 x154 x155 x156 x157 x158 x159 x160 x161 x162 x163 x164 x165 x166 x167 x168 x169 x170 x171 x172 x173 x174 x175 x176 x177 x178 x179 x180 x181 x182 x183 x184 x185 x186 x187 x188 x189 x190 x191 x192 x193 x194 x195 x196 x197 x198 x199 x200 x201 x202 x203 x204 x205 x206 x207 x208 x209 x210 x211 x212 x213 x214 x215 x216 x217 x218 x219 x220 x221 x222 x223 x224 : Value) (wz : World), FinM sb w2 8 [] none 0 [] none 0 [] none 0 [] wz → KD { tmps := #[.agg #[.slice va NV vc, .slice aa NA ac, .slice fa NF fc, .bool false, .bool loop], .pointer (some ⟨sb, 0, none⟩), I ((d : Int) + 1), .pointer (some ⟨W.heap.size, 0, none⟩), undef, undef, .slice none 0 0, .slice oa k oc, I n, I k, .int .i64 6, .pointer (some ⟨w2.heap.size, 0, none⟩), x12, x13, x14, x15, x16, .pointer (some ⟨sb, 0, none⟩), I n, x19, x20, x21, x22, x23, x24, x25, x26, x27, x28, x29, x30, x31, x32, x33, x34, x35, x36, x37, x38, x39, x40, x41, x42, x43, x44, x45, x46, x47, x48, x49, x50, x51, x52, x53, x54, x55, x56, x57, x58, x59, x60, x61, x62, x63, x64, x65, x66, x67, x68, x69, x70, x71, x72, x73, x74, x75, x76, x77, x78, x79, x80, x81, x82, x83, x84, x85, x86, x87, x88, x89, x90, x91, x92, x93, x94, x95, x96, x97, x98, x99, x100, x101, x102, x103, x104, x105, x106, x107, x108, .bool b, x110, x111, x112, x113, x114, x115, x116, x117, x118, x119, x120, x121, x122, x123, x124, x125, x126, x127, x128, x129, x130, x131, x132, x133, x134, x135, x136, x137, x138, x139, x140, x141, x142, x143, x144, x145, x146, x147, x148, x149, x150, x151, x152, x153, x154, x155, x156, x157, x158, x159, x160, x161, x162, x163, x164, x165, x166, x167, x168, x169, x170, x171, x172, x173, x174, x175, x176, x177, x178, x179, x180, x181, x182, x183, x184, x185, x186, x187, x188, x189, x190, x191, x192, x193, x194, x195, x196, x197, x198, x199, x200, x201, x202, x203, x204, x205, x206, x207, x208, x209, x210, x211, x212, x213, x214, x215, x216, x217, x218, x219, x220, x221, x222, x223, x224, undef], defers := [] } wz := by
                  intro b x12 x13 x14 x15 x16 x19 x20 x21 x22 x23 x24 x25 x26 x27 x28 x29 x30 x31 x32 x33 x34 x35 x36 x37 x38 x39 x40 x41 x42 x43 x44 x45 x46 x47 x48 x49 x50 x51 x52 x53 x54 x55 x56 x57 x58 x59 x60 x61 x62 x63 x64 x65 x66 x67 x68 x69 x70 x71 x72 x73 x74 x75 x76 x77 x78 x79 x80 x81 x82 x83 x84 x85 x86 x87 x88 x89 x90 x91 x92 x93 x94 x95 x96 x97 x98 x99 x100 x101 x102 x103 x104 x105 x106 x107 x108 x110 x111 x112 x113 x114 x115 x116 x117 x118 x119 x120 x121 x122 x123 x124 x125 x126 x127 x128 x129 x130 x131 x132 x133 x134 x135 x136 x137 x138 x139 x140 x141 x142 x143 x144 x145 x146 x147 x148 x149 x150 x151 x152 x153 x154 x155 x156 x157 x158 x159 x160 x161 x162 x163 x164 x165 x166 x167 x168 x169 x170 x171 x172 x173 x174 x175 x176 x177 x178 x179 x180 x181 x182 x183 x184 x185 x186 x187 x188 x189 x190 x191 x192 x193 x194 x195 x196 x197 x198 x199 x200 x201 x202 x203 x204 x205 x206 x207 x208 x209 x210 x211 x212 x213 x214 x215 x216 x217 x218 x219 x220 x221 x222 x223 x224 wz hz
                  refine hKD _ _ ?_
                  clear hKD KD
                  have HZ := Lib.hid hz
                  clear hz
                  cases b with
                  | true =>
                    obtain ⟨wa, hwa⟩ : ∃ wa, wa = wz.alloc (.cells #[I 7, I 9] 3) := ⟨_, rfl⟩
                    have hfa : FinM sb w2 8 [] none 0 [] none 0 [] none 0 [] wa := by rw [hwa]; exact HZ.out.ext (alloc_grown _ _ none)
                    have hra : Row wa wz.heap.size 3 [I 7, I 9] := by rw [hwa]; exact heap_new _ _
                    have hzl : w2.heap.size < wz.heap.size := HZ.out.lt
                    have hsbl : sb < w2.heap.size := HZ.out.hsb
                    have hwe2 := hwa.symm
                    have HFA := Lib.hid hfa
                    have HRA := Lib.hid hra
                    clear hwa hfa hra
                    go_wp2_with (first
                      | (go_at_call 25; refine (next25_any sb 2 wa HFA.out.sg.2 (by omega) (by omega)).mono ?_; rintro e' w5 ⟨⟨r, rfl, hr0, hr2⟩, hs5⟩; obtain ⟨r2, rfl⟩ := nat_of hr0; have HF5 := Lib.hid (HFA.out.draw hs5); obtain ⟨y, hy, hyy⟩ : ∃ y : Int, ([I 7, I 9] : List Value)[r2]? = some (I y) ∧ (y = 7 ∨ y = 9) := (by rcases (by omega : r2 = 0 ∨ r2 = 1) with rfl | rfl; exact ⟨_, rfl, .inl rfl⟩; exact ⟨_, rfl, .inr rfl⟩); have hcy := ((hs5.row HRA.out (by omega)).cell r2).trans hy; have HYY := Lib.hid hyy; have y0 := HF5.out.row.cell 0; have f0 := HF5.out.row.frozen 0; simp only [List.getElem?_cons_zero] at y0; clear hs5 hy hyy hwe2; try dsimp only))
                    exact HFIN.out _ _ _ _ _ _ _ _ _ _ _ _ _ _ _ _ _ _ _ _ _ _ _ _ _ _ _ _ _ _ _ _ _ _ _ _ _ _ _ _ _ _ _ _ _ _ _ _ _ _ _ _ _ _ _ _ _ _ _ _ _ _ _ _ _ _ _ _ _ _ _ _ _ _ _ _ _ _ _ _ _ _ _ _ _ _ _ _ _ _ _ _ _ _ _ _ _ _ _ _ _ _ _ _ _ _ _ _ _ _ _ _ _ _ _ _ _ _ _ _ _ _ _ _ _ _ _ _ _ _ _ _ _ _ _ _ _ _ _ _ _ _ _ _ _ _ _ _ _ _ _ _ _ _ _ _ _ _ _ _ _ _ _ _ _ _ _ _ _ _ _ _ _ _ _ _ _ _ _ _ _ _ _ _ _ _ _ _ _ _ _ _ _ _ _ _ _ _ _ _ _ _ _ _ _ _ _ _ _ _ _ _ _ y [] none 0 [] none 0 [] none 0 [] (HF5.out.kind y) (FinK.print (HYY.out.elim .inl (fun h => .inr (.inr h))))
                  | false =>
                    go_wp2
                    exact HFIN.out _ _ _ _ _ _ _ _ _ _ _ _ _ _ _ _ _ _ _ _ _ _ _ _ _ _ _ _ _ _ _ _ _ _ _ _ _ _ _ _ _ _ _ _ _ _ _ _ _ _ _ _ _ _ _ _ _ _ _ _ _ _ _ _ _ _ _ _ _ _ _ _ _ _ _ _ _ _ _ _ _ _ _ _ _ _ _ _ _ _ _ _ _ _ _ _ _ _ _ _ _ _ _ _ _ _ _ _ _ _ _ _ _ _ _ _ _ _ _ _ _ _ _ _ _ _ _ _ _ _ _ _ _ _ _ _ _ _ _ _ _ _ _ _ _ _ _ _ _ _ _ _ _ _ _ _ _ _ _ _ _ _ _ _ _ _ _ _ _ _ _ _ _ _ _ _ _ _ _ _ _ _ _ _ _ _ _ _ _ _ _ _ _ _ _ _ _ _ _ _ _ _ _ _ _ _ _ _ _ _ _ _ wz 8 [] none 0 [] none 0 [] none 0 [] HZ.out (FinK.print (.inr (.inl rfl)))
                have HD := Lib.hid hD
                clear hKD hD
                go_wp2_with (first
                  | (go_at_call 25; refine (next25_any sb 3 w3 HFM.out.sg.2 (by omega) (by omega)).mono ?_; rintro e' w4 ⟨⟨r3, rfl, hr0, hr3⟩, hs4⟩; have HF4 := Lib.hid (HFM.out.draw hs4); clear hs4; try dsimp only))
                exact HD.out _ _ _ _ _ _ _ _ _ _ _ _ _ _ _ _ _ _ _ _ _ _ _ _ _ _ _ _ _ _ _ _ _ _ _ _ _ _ _ _ _ _ _ _ _ _ _ _ _ _ _ _ _ _ _ _ _ _ _ _ _ _ _ _ _ _ _ _ _ _ _ _ _ _ _ _ _ _ _ _ _ _ _ _ _ _ _ _ _ _ _ _ _ _ _ _ _ _ _ _ _ _ _ _ _ _ _ _ _ _ _ _ _ _ _ _ _ _ _ _ _ _ _ _ _ _ _ _ _ _ _ _ _ _ _ _ _ _ _ _ _ _ _ _ _ _ _ _ _ _ _ _ _ _ _ _ _ _ _ _ _ _ _ _ _ _ _ _ _ _ _ _ _ _ _ _ _ _ _ _ _ _ _ _ _ _ _ _ _ _ _ _ _ _ _ _ _ _ _ _ _ _ _ _ _ _ _ _ _ _ _ w4 HF4.out
              · skip
                have hd1 : 1 ≤ d := by
                  rcases Nat.eq_zero_or_pos d with h | h
                  · have := HKD.out h; omega
                  · exact h
                have h4z : ¬ (kq : Int) < 4 := by omega
                have e4 : ((kq : Int) == 4) = false := beq_eq_false_iff_ne.2 (by omega)
                have e5 : ((kq : Int) == 5) = false := beq_eq_false_iff_ne.2 (by omega)
                have e6 : ((kq : Int) == 6) = false := beq_eq_false_iff_ne.2 (by omega)
                go_upto_region 25 with (fail)
                clear h4z e4 e5 e6
                rename_i KE hKE
                have hE : ∀ (x10 x12 x13 x14 x15 x16 x19 x20 x21 x22 x23 x24 x25 x26 x27 x28 x29 x30 x31 x32 x33 x34 x35 x36 x37 x38 x39 x40 x41 x42 x43 x44 x45 x46 x47 x48 x49 x50 x51 x52 x53 x54 x55 x56 x57 x58 x59 x60 x61 x62 x63 x64 x65 x66 x67 x68 x69 x70 x71 x72 x73 x74 x75 x76 x77 x78 x79 x80 x81 x82 x83 x84 x85 x86 x87 x88 x89 x90 x91 x92 x93 x94 x95 x96 x97 x98 x99 x100 x101 x102 x103 x104 x105 x106 x107 x108 x109 x110 x111 x112 x113 x114 x115 x116 x117 x118 x119 x120 x121 x122 x124 x125 x126 x127 x128 x129 x130 x131 x132 x133 x134 x135 x136 x137 x138 x139 x140 x141 x142 x143 x144 x145 x146 x147 x148 x149 x150 x151 x152 x153 x154 x155 x156 x157 x158 x159 x160 x161 x162 x163 x164 x165 x166 x167 x168 x169 x170 x171 x172 x173 x174 x175 x176 x177 x178 x179 x180 x181 x182 x183 x184 x185 x186 x187 x188 x189 x190 x191 x192 x193 x194 x195 x196 x197 x198 x199 x200 x201 x202 x203 x204 x205 x206 x207 x208 x209 x210 x211 x212 x213 x214 x215 x216 x217 x218 x219 x220 x221 x222 x223 x224 : Value), KE { tmps := #[.agg #[.slice va NV vc, .slice aa NA ac, .slice fa NF fc, .bool false, .bool loop], .pointer (some ⟨sb, 0, none⟩), I ((d : Int) + 1), .pointer (some ⟨W.heap.size, 0, none⟩), undef, undef, .slice none 0 0, .slice oa k oc, I n, I k, x10, .pointer (some ⟨w2.heap.size, 0, none⟩), x12, x13, x14, x15, x16, .pointer (some ⟨sb, 0, none⟩), I n, x19, x20, x21, x22, x23, x24, x25, x26, x27, x28, x29, x30, x31, x32, x33, x34, x35, x36, x37, x38, x39, x40, x41, x42, x43, x44, x45, x46, x47, x48, x49, x50, x51, x52, x53, x54, x55, x56, x57, x58, x59, x60, x61, x62, x63, x64, x65, x66, x67, x68, x69, x70, x71, x72, x73, x74, x75, x76, x77, x78, x79, x80, x81, x82, x83, x84, x85, x86, x87, x88, x89, x90, x91, x92, x93, x94, x95, x96, x97, x98, x99, x100, x101, x102, x103, x104, x105, x106, x107, x108, x109, x110, x111, x112, x113, x114, x115, x116, x117, x118, x119, x120, x121, x122, .bool true, x124, x125, x126, x127, x128, x129, x130, x131, x132, x133, x134, x135, x136, x137, x138, x139, x140, x141, x142, x143, x144, x145, x146, x147, x148, x149, x150, x151, x152, x153, x154, x155, x156, x157, x158, x159, x160, x161, x162, x163, x164, x165, x166, x167, x168, x169, x170, x171, x172, x173, x174, x175, x176, x177, x178, x179, x180, x181, x182, x183, x184, x185, x186, x187, x188, x189, x190, x191, x192, x193, x194, x195, x196, x197, x198, x199, x200, x201, x202, x203, x204, x205, x206, x207, x208, x209, x210, x211, x212, x213, x214, x215, x216, x217, x218, x219, x220, x221, x222, x223, x224, undef], defers := [] } w3 := by
                  intro x10 x12 x13 x14 x15 x16 x19 x20 x21 x22 x23 x24 x25 x26 x27 x28 x29 x30 x31 x32 x33 x34 x35 x36 x37 x38 x39 x40 x41 x42 x43 x44 x45 x46 x47 x48 x49 x50 x51 x52 x53 x54 x55 x56 x57 x58 x59 x60 x61 x62 x63 x64 x65 x66 x67 x68 x69 x70 x71 x72 x73 x74 x75 x76 x77 x78 x79 x80 x81 x82 x83 x84 x85 x86 x87 x88 x89 x90 x91 x92 x93 x94 x95 x96 x97 x98 x99 x100 x101 x102 x103 x104 x105 x106 x107 x108 x109 x110 x111 x112 x113 x114 x115 x116 x117 x118 x119 x120 x121 x122 x124 x125 x126 x127 x128 x129 x130 x131 x132 x133 x134 x135 x136 x137 x138 x139 x140 x141 x142 x143 x144 x145 x146 x147 x148 x149 x150 x151 x152 x153 x154 x155 x156 x157 x158 x159 x160 x161 x162 x163 x164 x165 x166 x167 x168 x169 x170 x171 x172 x173 x174 x175 x176 x177 x178 x179 x180 x181 x182 x183 x184 x185 x186 x187 x188 x189 x190 x191 x192 x193 x194 x195 x196 x197 x198 x199 x200 x201 x202 x203 x204 x205 x206 x207 x208 x209 x210 x211 x212 x213 x214 x215 x216 x217 x218 x219 x220 x221 x222 x223 x224
                  refine hKE _ _ ?_
                  clear hKE KE
                  have y0 := HFM.out.row.cell 0
                  have f0 := HFM.out.row.frozen 0
                  simp only [List.getElem?_cons_zero] at y0
                  go_upto_region 27 with (fail)
                  obtain ⟨w4, hw_⟩ : ∃ w4, w4 = w3.setCell ⟨w2.heap.size, 0, none⟩ (I 3) := ⟨_, rfl⟩
                  have hf_ : FinM sb w2 3 [] none 0 [] none 0 [] none 0 [] w4 := by rw [hw_]; exact HFM.out.kind 3
                  rw [← hw_]
                  have HF4 := Lib.hid hf_
                  clear hw_ hf_
                  clear y0 f0
                  obtain ⟨ya, yc, es, hes, hfa⟩ : ∃ (ya : Option Addr) (yc : Nat) (es : List EA), es = [] ∧ FinM sb w2 3 [] ya yc es none 0 [] none 0 [] w4 := ⟨none, 0, [], rfl, HF4.out⟩
                  have HFA := Lib.hid hfa
                  have HES := Lib.hid hes
                  clear hfa hes
                  have hrs : Row w4 W.heap.size 64 [.slice va NV vc, .slice aa NA ac, .slice fa NF fc, .bool false, .bool loop] := HFA.out.sg.row HT3.out (by omega)
                  have hrx : Row w4 w2.heap.size 54 [I (3), S [], .slice ya es.length yc, .slice none 0 0, .slice none 0 0] := HFA.out.row
                  have HRS := Lib.hid hrs
                  have HRX := Lib.hid hrx
                  clear hrs hrx
                  refine wp_region_ordW (by kernel_rfl) (fun X => X.cell? ⟨W.heap.size, 0, none⟩ = some (.slice va NV vc) ∧ X.cell? ⟨W.heap.size, 1, none⟩ = some (.slice aa NA ac) ∧ X.cell? ⟨W.heap.size, 2, none⟩ = some (.slice fa NF fc) ∧ X.cell? ⟨W.heap.size, 3, none⟩ = some (.bool false) ∧ X.cell? ⟨W.heap.size, 4, none⟩ = some (.bool loop) ∧ X.cell? ⟨w2.heap.size, 2, none⟩ = some (.slice ya es.length yc))
                    [(0, 0), (0, 1), (0, 2), (0, 3), (1, 4), (1, 5), (1, 6), (0, 7), (2, 8)] (by kernel_rfl) ?hS ?_
                  case hS => intro wd hh; exact ⟨row_at HRS.out hh 0, row_at HRS.out hh 1, row_at HRS.out hh 2, row_at HRS.out hh 3, row_at HRS.out hh 4, row_at HRX.out hh 2⟩
                  intro wd hh hgd hS
                  have HFD := Lib.hid (HFA.out.ext hgd)
                  clear hh hgd HRS HRX
                  have hS2 : ∀ X : World, Row X W.heap.size 64 [.slice va NV vc, .slice aa NA ac, .slice fa NF fc, .bool false, .bool loop] → Row X w2.heap.size 54 [I (3), S [], .slice ya es.length yc, .slice none 0 0, .slice none 0 0] → (X.cell? ⟨W.heap.size, 0, none⟩ = some (.slice va NV vc) ∧ X.cell? ⟨W.heap.size, 1, none⟩ = some (.slice aa NA ac) ∧ X.cell? ⟨W.heap.size, 2, none⟩ = some (.slice fa NF fc) ∧ X.cell? ⟨W.heap.size, 3, none⟩ = some (.bool false) ∧ X.cell? ⟨W.heap.size, 4, none⟩ = some (.bool loop) ∧ X.cell? ⟨w2.heap.size, 2, none⟩ = some (.slice ya es.length yc)) :=
                    fun X h h' => ⟨h.cell 0, h.cell 1, h.cell 2, h.cell 3, h.cell 4, h'.cell 2⟩
                  have HS2' := Lib.hid hS2
                  clear hS2
                  have HC : Hid (Calls Tryz.prog 28 #[.agg #[.slice va NV vc, .slice aa NA ac, .slice fa NF fc, .bool false, .bool loop], .pointer (some ⟨sb, 0, none⟩), I 3] wd (DrR c 3 sb wd)) := by
                    refine Lib.hid ?_
                    have h := expr28 c 3 (by decide) (by decide) sb wd (.slice va NV vc) (.slice aa NA ac) (.slice fa NF fc) loop (HSC.out.kept (HS3.out.trans HFD.out.sg).1 (fun r e => by cases e; rfl)) HFD.out.sg.2
                    rw [HCF.out] at h
                    exact h
                  simp only [pickOps, List.map_cons, List.map_nil, List.getElem?_cons_zero, List.getElem?_cons_succ, Option.getD_some]
                  repeat (refine wpOrd_look (v := ?_) (by rfl) ?_ (by assumption) (fun _ _ _ h => h) ?_; rotate_left; (· (intro wS hSw; (try dsimp only at hSw); go_simp; (first | done | with_reducible rfl))); simp only [Act.put, List.setIfInBounds_toArray, List.set_cons_zero, List.set_cons_succ])
                  refine wpOrd_turn ?_
                  go_wp2_with (first
                    | (go_at_call 28; refine HC.out.mono ?_; rintro e' w4 ⟨x, xv, rfl, hdr2, hex2, hsg2⟩; obtain ⟨xa, xc, rfl⟩ := hex2.slice; have HDR2 := Lib.hid hdr2; have HEX2 := Lib.hid hex2; have HSG2 := Lib.hid hsg2; clear hdr2 hex2 hsg2; try dsimp only))
                  have HF4 := Lib.hid (HFD.out.draw HSG2.out)
                  refine QN_keep (HS2'.out w4 (HF4.out.sg.row HT3.out (by omega)) HF4.out.row) fun hS => ?_
                  clear hS
                  refine wpOrd_turn ?_
                  go_wp2
                  obtain ⟨w5, hw5⟩ : ∃ w5, w5 = w4.alloc (.cells #[I x.kind, I x.op, I x.n, S x.name, .slice xa x.args.length xc] 31) := ⟨_, rfl⟩
                  have hn5 : w5.heap[w4.heap.size]? = some (.cells #[I x.kind, I x.op, I x.n, S x.name, .slice xa x.args.length xc] 31) := by rw [hw5]; exact heap_new _ _
                  have HF5 := Lib.hid (show FinM sb w2 3 [] ya yc es none 0 [] none 0 [] w5 by rw [hw5]; exact HF4.out.ext (alloc_grown _ _ none))
                  have HW5 := Lib.hid hw5
                  have HN5 := Lib.hid hn5
                  have HO5 := Lib.hid HF5.out.as_.1
                  have hz5 : w2.heap.size + 1 ≤ w5.heap.size := HF5.out.lt
                  have hdn : es.length ≤ 1000000000 := by rw [HES.out]; simp
                  rw [← hw5]
                  clear hw5 hn5
                  refine QN_keep (HS2'.out w5 (HF5.out.sg.row HT3.out (by omega)) HF5.out.row) fun hS => ?_
                  clear hS
                  refine wpOrd_turn ?_
                  go_wp2_with (first
                    | (at_builtin; refine wpList_appS slExpr rfl _ _ rfl eEnc_len eEnc_one (w2.heap.size + 1) (.slice ya es.length yc) es rfl HO5.out w4.heap.size ⟨x, xa, xc⟩ rfl (fun j hj => (cell_of_block HN5.out j).trans (by simp [eEnc, EA.av])) hdn (by decide) hz5 ?_; intro g' cap w6 ho6 hg6 hat6 hlt6; have HO6 := Lib.hid ho6; have HG6 := Lib.hid hg6; have HAT := Lib.hid hat6; clear ho6 hg6 hat6))
                  have hrs : Row w6 W.heap.size 64 [.slice va NV vc, .slice aa NA ac, .slice fa NF fc, .bool false, .bool loop] := (HF5.out.sg.row HT3.out (by omega)).kept HG6.out (fun e => by have := HF5.out.own_lt _ e.symm; have := HT3.out.lt; omega)
                  have hrx : Row w6 w2.heap.size 54 [I (3), S [], .slice ya es.length yc, .slice none 0 0, .slice none 0 0] := HF5.out.row.kept HG6.out (fun e => by have := HF5.out.own_lt _ e.symm; omega)
                  have HRS := Lib.hid hrs
                  have HRX := Lib.hid hrx
                  clear hrs hrx
                  refine QN_keep (HS2'.out w6 HRS.out HRX.out) fun hS => ?_
                  repeat (refine wpOrd_look (v := ?_) (by rfl) ?_ (by assumption) (fun _ _ _ h => h) ?_; rotate_left; (· (intro wS hSw; (try dsimp only at hSw); go_simp; (first | done | with_reducible rfl))); simp only [Act.put, List.setIfInBounds_toArray, List.set_cons_zero, List.set_cons_succ])
                  clear hS
                  have f2 := HRX.out.frozen 2
                  have c2 := HRX.out.cell 2
                  simp only [List.getElem?_cons_zero, List.getElem?_cons_succ] at c2
                  refine wpOrd_last ?_
                  go_wp2
                  refine QN_normal (wpOrd_nil ?_)
                  obtain ⟨w7, hw7⟩ : ∃ w7, w7 = w6.setCell ⟨w2.heap.size, 2, none⟩ (.slice (some ⟨g', 0, none⟩) (es.length + 1) cap) := ⟨_, rfl⟩
                  have hf7 : FinM sb w2 3 [] (some ⟨g', 0, none⟩) cap (es ++ [⟨x, xa, xc⟩]) none 0 [] none 0 [] w7 := by
                    rw [hw7]
                    exact FinM.app (y := ⟨x, xa, xc⟩) HFD.out HSG2.out HEX2.out HO6.out (by rw [← HW5.out]; exact HG6.out) (by rw [← HW5.out]; exact HAT.out)
                  rw [← hw7]
                  have HF7 := Lib.hid hf7
                  clear hw7 hf7 f2 c2 HRS HRX HO6 HG6 HAT HO5 HN5 HW5 HF5 HF4 HS2' hz5 hdn
                  go_upto_region 28 with (fail)
                  have hrw := (HF7.out.sg.row HT3.out (by omega)).cell
                  have c0 := hrw 0
                  have c1 := hrw 1
                  have c2 := hrw 2
                  have c3 := hrw 3
                  have c4 := hrw 4
                  simp only [List.getElem?_cons_zero, List.getElem?_cons_succ] at c0 c1 c2 c3 c4
                  clear hrw
                  have HT_ := Lib.hid (HIH.out hd1 sb w7 (.slice va NV vc) (.slice aa NA ac) (.slice fa NF fc) loop (HSC.out.kept (HS3.out.trans HF7.out.sg).1 (fun r e => by cases e; rfl)) HF7.out.sg.2)
                  go_upto_region 29 with (first
                    | (go_at_call 30; refine HT_.out.mono ?_; rintro e' w8p ⟨tl, ta, tk, rfl, hl4, hxd, hxx, hxs⟩; have HXDt := Lib.hid hxd; have HXX := Lib.hid hxx; have HXS := Lib.hid hxs; have y3 := (HF7.out.draw hxs).row.cell 3; have f3 := (HF7.out.draw hxs).row.frozen 3; simp only [List.getElem?_cons_zero, List.getElem?_cons_succ] at y3; clear hxd hxx hxs hl4 c0 c1 c2 c3 c4; try dsimp only))
                  obtain ⟨w8, hw_⟩ : ∃ w9, w9 = w8p.setCell ⟨w2.heap.size, 3, none⟩ (.slice ta tl.length tk) := ⟨_, rfl⟩
                  have hf_ := HF7.out.thn HXS.out HXX.out
                  rw [← hw_] at hf_ ⊢
                  have HF8 := Lib.hid hf_
                  clear hw_ hf_ y3 f3 HXX HXS HT_
                  have hrw := (HF8.out.sg.row HT3.out (by omega)).cell
                  have c0 := hrw 0
                  have c1 := hrw 1
                  have c2 := hrw 2
                  have c3 := hrw 3
                  have c4 := hrw 4
                  simp only [List.getElem?_cons_zero, List.getElem?_cons_succ] at c0 c1 c2 c3 c4
                  clear hrw
                  have HT_ := Lib.hid (HIH.out hd1 sb w8 (.slice va NV vc) (.slice aa NA ac) (.slice fa NF fc) loop (HSC.out.kept (HS3.out.trans HF8.out.sg).1 (fun r e => by cases e; rfl)) HF8.out.sg.2)
                  go_wp2_with (first
                    | (go_at_call 30; refine HT_.out.mono ?_; rintro e' w9p ⟨el, ea, ek, rfl, hl4, hxd, hxx, hxs⟩; have HXDe := Lib.hid hxd; have HXX := Lib.hid hxx; have HXS := Lib.hid hxs; have y4 := (HF8.out.draw hxs).row.cell 4; have f4 := (HF8.out.draw hxs).row.frozen 4; simp only [List.getElem?_cons_zero, List.getElem?_cons_succ] at y4; clear hxd hxx hxs hl4 c0 c1 c2 c3 c4; try dsimp only))
                  obtain ⟨w9, hw_⟩ : ∃ w9, w9 = w9p.setCell ⟨w2.heap.size, 4, none⟩ (.slice ea el.length ek) := ⟨_, rfl⟩
                  have hf_ := HF8.out.els HXS.out HXX.out
                  rw [← hw_] at hf_ ⊢
                  have HF9 := Lib.hid hf_
                  clear hw_ hf_ y4 f4 HXX HXS HT_
                  exact HFIN.out _ _ _ _ _ _ _ _ _ _ _ _ _ _ _ _ _ _ _ _ _ _ _ _ _ _ _ _ _ _ _ _ _ _ _ _ _ _ _ _ _ _ _ _ _ _ _ _ _ _ _ _ _ _ _ _ _ _ _ _ _ _ _ _ _ _ _ _ _ _ _ _ _ _ _ _ _ _ _ _ _ _ _ _ _ _ _ _ _ _ _ _ _ _ _ _ _ _ _ _ _ _ _ _ _ _ _ _ _ _ _ _ _ _ _ _ _ _ _ _ _ _ _ _ _ _ _ _ _ _ _ _ _ _ _ _ _ _ _ _ _ _ _ _ _ _ _ _ _ _ _ _ _ _ _ _ _ _ _ _ _ _ _ _ _ _ _ _ _ _ _ _ _ _ _ _ _ _ _ _ _ _ _ _ _ _ _ _ _ _ _ _ _ _ _ _ _ _ _ _ _ _ _ _ _ _ _ _ _ _ _ _ w9 3 [] _ _ _ _ _ _ _ _ _ HF9.out (by rw [HES.out]; exact FinK.iff (y := ⟨x, xa, xc⟩) (DrE.le (by decide) HDR2.out) HXDt.out HXDe.out)
                have HE_ := Lib.hid hE
                clear hKE hE
                rcases h78 with rfl | rfl
                · go_wp2
                  exact HE_.out _ _ _ _ _ _ _ _ _ _ _ _ _ _ _ _ _ _ _ _ _ _ _ _ _ _ _ _ _ _ _ _ _ _ _ _ _ _ _ _ _ _ _ _ _ _ _ _ _ _ _ _ _ _ _ _ _ _ _ _ _ _ _ _ _ _ _ _ _ _ _ _ _ _ _ _ _ _ _ _ _ _ _ _ _ _ _ _ _ _ _ _ _ _ _ _ _ _ _ _ _ _ _ _ _ _ _ _ _ _ _ _ _ _ _ _ _ _ _ _ _ _ _ _ _ _ _ _ _ _ _ _ _ _ _ _ _ _ _ _ _ _ _ _ _ _ _ _ _ _ _ _ _ _ _ _ _ _ _ _ _ _ _ _ _ _ _ _ _ _ _ _ _ _ _ _ _ _ _ _ _ _ _ _ _ _ _ _ _ _ _ _ _ _ _ _ _ _ _ _ _ _ _ _ _ _ _ _ _ _ _
                · go_wp2
                  exact HE_.out _ _ _ _ _ _ _ _ _ _ _ _ _ _ _ _ _ _ _ _ _ _ _ _ _ _ _ _ _ _ _ _ _ _ _ _ _ _ _ _ _ _ _ _ _ _ _ _ _ _ _ _ _ _ _ _ _ _ _ _ _ _ _ _ _ _ _ _ _ _ _ _ _ _ _ _ _ _ _ _ _ _ _ _ _ _ _ _ _ _ _ _ _ _ _ _ _ _ _ _ _ _ _ _ _ _ _ _ _ _ _ _ _ _ _ _ _ _ _ _ _ _ _ _ _ _ _ _ _ _ _ _ _ _ _ _ _ _ _ _ _ _ _ _ _ _ _ _ _ _ _ _ _ _ _ _ _ _ _ _ _ _ _ _ _ _ _ _ _ _ _ _ _ _ _ _ _ _ _ _ _ _ _ _ _ _ _ _ _ _ _ _ _ _ _ _ _ _ _ _ _ _ _ _ _ _ _ _ _ _ _
              · skip
                have hd1 : 1 ≤ d := by
                  rcases Nat.eq_zero_or_pos d with h | h
                  · have := HKD.out h; omega
                  · exact h
                have h4z : ¬ (kq : Int) < 4 := by omega
                have e4 : ((kq : Int) == 4) = false := beq_eq_false_iff_ne.2 (by omega)
                have e5 : ((kq : Int) == 5) = false := beq_eq_false_iff_ne.2 (by omega)
                have e6 : ((kq : Int) == 6) = false := beq_eq_false_iff_ne.2 (by omega)
                have e7 : ((kq : Int) == 7) = false := beq_eq_false_iff_ne.2 (by omega)
                have e8 : ((kq : Int) == 8) = false := beq_eq_false_iff_ne.2 (by omega)
                go_upto_region 30 with (fail)
                clear h4z e4 e5 e6 e7 e8
                rename_i KE hKE
                have hE : ∀ (x10 x12 x13 x14 x15 x16 x19 x20 x21 x22 x23 x24 x25 x26 x27 x28 x29 x30 x31 x32 x33 x34 x35 x36 x37 x38 x39 x40 x41 x42 x43 x44 x45 x46 x47 x48 x49 x50 x51 x52 x53 x54 x55 x56 x57 x58 x59 x60 x61 x62 x63 x64 x65 x66 x67 x68 x69 x70 x71 x72 x73 x74 x75 x76 x77 x78 x79 x80 x81 x82 x83 x84 x85 x86 x87 x88 x89 x90 x91 x92 x93 x94 x95 x96 x97 x98 x99 x100 x101 x102 x103 x104 x105 x106 x107 x108 x109 x110 x111 x112 x113 x114 x115 x116 x117 x118 x119 x120 x121 x122 x123 x124 x125 x126 x127 x128 x129 x130 x131 x132 x133 x134 x135 x136 x137 x138 x139 x140 x141 x142 x143 x144 x145 x146 x147 x148 x149 x150 x152 x153 x154 x155 x156 x157 x158 x159 x160 x161 x162 x163 x164 x165 x166 x167 x168 x169 x170 x171 x172 x173 x174 x175 x176 x177 x178 x179 x180 x181 x182 x183 x184 x185 x186 x187 x188 x189 x190 x191 x192 x193 x194 x195 x196 x197 x198 x199 x200 x201 x202 x203 x204 x205 x206 x207 x208 x209 x210 x211 x212 x213 x214 x215 x216 x217 x218 x219 x220 x221 x222 x223 x224 : Value), KE { tmps := #[.agg #[.slice va NV vc, .slice aa NA ac, .slice fa NF fc, .bool false, .bool loop], .pointer (some ⟨sb, 0, none⟩), I ((d : Int) + 1), .pointer (some ⟨W.heap.size, 0, none⟩), undef, undef, .slice none 0 0, .slice oa k oc, I n, I k, x10, .pointer (some ⟨w2.heap.size, 0, none⟩), x12, x13, x14, x15, x16, .pointer (some ⟨sb, 0, none⟩), I n, x19, x20, x21, x22, x23, x24, x25, x26, x27, x28, x29, x30, x31, x32, x33, x34, x35, x36, x37, x38, x39, x40, x41, x42, x43, x44, x45, x46, x47, x48, x49, x50, x51, x52, x53, x54, x55, x56, x57, x58, x59, x60, x61, x62, x63, x64, x65, x66, x67, x68, x69, x70, x71, x72, x73, x74, x75, x76, x77, x78, x79, x80, x81, x82, x83, x84, x85, x86, x87, x88, x89, x90, x91, x92, x93, x94, x95, x96, x97, x98, x99, x100, x101, x102, x103, x104, x105, x106, x107, x108, x109, x110, x111, x112, x113, x114, x115, x116, x117, x118, x119, x120, x121, x122, x123, x124, x125, x126, x127, x128, x129, x130, x131, x132, x133, x134, x135, x136, x137, x138, x139, x140, x141, x142, x143, x144, x145, x146, x147, x148, x149, x150, .bool true, x152, x153, x154, x155, x156, x157, x158, x159, x160, x161, x162, x163, x164, x165, x166, x167, x168, x169, x170, x171, x172, x173, x174, x175, x176, x177, x178, x179, x180, x181, x182, x183, x184, x185, x186, x187, x188, x189, x190, x191, x192, x193, x194, x195, x196, x197, x198, x199, x200, x201, x202, x203, x204, x205, x206, x207, x208, x209, x210, x211, x212, x213, x214, x215, x216, x217, x218, x219, x220, x221, x222, x223, x224, undef], defers := [] } w3 := by
                  intro x10 x12 x13 x14 x15 x16 x19 x20 x21 x22 x23 x24 x25 x26 x27 x28 x29 x30 x31 x32 x33 x34 x35 x36 x37 x38 x39 x40 x41 x42 x43 x44 x45 x46 x47 x48 x49 x50 x51 x52 x53 x54 x55 x56 x57 x58 x59 x60 x61 x62 x63 x64 x65 x66 x67 x68 x69 x70 x71 x72 x73 x74 x75 x76 x77 x78 x79 x80 x81 x82 x83 x84 x85 x86 x87 x88 x89 x90 x91 x92 x93 x94 x95 x96 x97 x98 x99 x100 x101 x102 x103 x104 x105 x106 x107 x108 x109 x110 x111 x112 x113 x114 x115 x116 x117 x118 x119 x120 x121 x122 x123 x124 x125 x126 x127 x128 x129 x130 x131 x132 x133 x134 x135 x136 x137 x138 x139 x140 x141 x142 x143 x144 x145 x146 x147 x148 x149 x150 x152 x153 x154 x155 x156 x157 x158 x159 x160 x161 x162 x163 x164 x165 x166 x167 x168 x169 x170 x171 x172 x173 x174 x175 x176 x177 x178 x179 x180 x181 x182 x183 x184 x185 x186 x187 x188 x189 x190 x191 x192 x193 x194 x195 x196 x197 x198 x199 x200 x201 x202 x203 x204 x205 x206 x207 x208 x209 x210 x211 x212 x213 x214 x215 x216 x217 x218 x219 x220 x221 x222 x223 x224
                  refine hKE _ _ ?_
                  clear hKE KE
                  have hrw := (HFM.out.sg.row HT3.out (by omega)).cell
                  have c0 := hrw 0
                  have c1 := hrw 1
                  have c2 := hrw 2
                  have c3 := hrw 3
                  have c4 := hrw 4
                  simp only [List.getElem?_cons_zero, List.getElem?_cons_succ] at c0 c1 c2 c3 c4
                  clear hrw
                  go_upto_region 32 with (fail)
                  obtain ⟨wa, hwa⟩ : ∃ wa, wa = w3.alloc (.cells #[.slice va NV vc, .slice aa NA ac, .slice fa NF fc, .bool false, .bool loop] 64) := ⟨_, rfl⟩
                  obtain ⟨inb, hinb⟩ : ∃ b, b = w3.heap.size := ⟨_, rfl⟩
                  have hra : Row wa inb 64 [.slice va NV vc, .slice aa NA ac, .slice fa NF fc, .bool false, .bool loop] := by rw [hwa, hinb]; exact heap_new _ _
                  have hib : w2.heap.size < inb := by rw [hinb]; exact HFM.out.lt
                  have hib2 : sb < inb := by have := HT3.out.lt; omega
                  have HFA0 := Lib.hid (show FinM sb w2 8 [] none 0 [] none 0 [] none 0 [] wa by rw [hwa]; exact HFM.out.ext (alloc_grown _ _ none))
                  rw [← hwa, ← hinb]
                  have HRA := Lib.hid hra
                  have a4 := hra.cell 4
                  have fa4 := hra.frozen 4
                  simp only [List.getElem?_cons_zero, List.getElem?_cons_succ] at a4
                  clear hwa hra hinb c0 c1 c2 c3 c4
                  go_upto_region 33 with (fail)
                  obtain ⟨wb, hwb⟩ : ∃ wb, wb = wa.setCell ⟨inb, 4, none⟩ (.bool true) := ⟨_, rfl⟩
                  have hgb : wa.grownBy wb (some inb) := by rw [hwb]; exact setCell_grown _ _ _ _
                  have HIB := Lib.hid (show Row wb inb 64 [.slice va NV vc, .slice aa NA ac, .slice fa NF fc, .bool false, .bool true] by rw [hwb]; exact HRA.out.set 4 _)
                  have HFB := Lib.hid (show FinM sb w2 8 [] none 0 [] none 0 [] none 0 [] wb from FinM.nil (HFA0.out.sg.post hgb HFA0.out.hsb (fun r e => by cases e; omega)) HFA0.out.hsb (HFA0.out.row.kept hgb (fun e => by cases e; omega)))
                  rw [← hwb]
                  clear hwb hgb a4 fa4
                  have y0 := HFB.out.row.cell 0
                  have f0 := HFB.out.row.frozen 0
                  simp only [List.getElem?_cons_zero] at y0
                  go_upto_region 34 with (fail)
                  obtain ⟨w4, hw_⟩ : ∃ w4, w4 = wb.setCell ⟨w2.heap.size, 0, none⟩ (I 4) := ⟨_, rfl⟩
                  have hf_ : FinM sb w2 4 [] none 0 [] none 0 [] none 0 [] w4 := by rw [hw_]; exact HFB.out.kind 4
                  have HIN := Lib.hid (show Row w4 inb 64 [.slice va NV vc, .slice aa NA ac, .slice fa NF fc, .bool false, .bool true] by rw [hw_]; exact HIB.out.kept (setCell_grown _ _ _ _) (fun e => by cases e; omega))
                  rw [← hw_]
                  have HF4 := Lib.hid hf_
                  clear hw_ hf_ y0 f0
                  obtain ⟨ya, yc, es, hes, hfa⟩ : ∃ (ya : Option Addr) (yc : Nat) (es : List EA), es = [] ∧ FinM sb w2 4 [] ya yc es none 0 [] none 0 [] w4 := ⟨none, 0, [], rfl, HF4.out⟩
                  have HFA := Lib.hid hfa
                  have HES := Lib.hid hes
                  clear hfa hes
                  have hrs : Row w4 W.heap.size 64 [.slice va NV vc, .slice aa NA ac, .slice fa NF fc, .bool false, .bool loop] := HFA.out.sg.row HT3.out (by omega)
                  have hrx : Row w4 w2.heap.size 54 [I (4), S [], .slice ya es.length yc, .slice none 0 0, .slice none 0 0] := HFA.out.row
                  have HRS := Lib.hid hrs
                  have HRX := Lib.hid hrx
                  clear hrs hrx
                  refine wp_region_ordW (by kernel_rfl) (fun X => X.cell? ⟨W.heap.size, 0, none⟩ = some (.slice va NV vc) ∧ X.cell? ⟨W.heap.size, 1, none⟩ = some (.slice aa NA ac) ∧ X.cell? ⟨W.heap.size, 2, none⟩ = some (.slice fa NF fc) ∧ X.cell? ⟨W.heap.size, 3, none⟩ = some (.bool false) ∧ X.cell? ⟨W.heap.size, 4, none⟩ = some (.bool loop) ∧ X.cell? ⟨w2.heap.size, 2, none⟩ = some (.slice ya es.length yc))
                    [(0, 0), (0, 1), (0, 2), (0, 3), (1, 4), (1, 5), (1, 6), (0, 7), (2, 8)] (by kernel_rfl) ?hS ?_
                  case hS => intro wd hh; exact ⟨row_at HRS.out hh 0, row_at HRS.out hh 1, row_at HRS.out hh 2, row_at HRS.out hh 3, row_at HRS.out hh 4, row_at HRX.out hh 2⟩
                  intro wd hh hgd hS
                  have HFD := Lib.hid (HFA.out.ext hgd)
                  have HIND := Lib.hid (HIN.out.kept hgd (by simp))
                  clear hh hgd HRS HRX
                  have hS2 : ∀ X : World, Row X W.heap.size 64 [.slice va NV vc, .slice aa NA ac, .slice fa NF fc, .bool false, .bool loop] → Row X w2.heap.size 54 [I (4), S [], .slice ya es.length yc, .slice none 0 0, .slice none 0 0] → (X.cell? ⟨W.heap.size, 0, none⟩ = some (.slice va NV vc) ∧ X.cell? ⟨W.heap.size, 1, none⟩ = some (.slice aa NA ac) ∧ X.cell? ⟨W.heap.size, 2, none⟩ = some (.slice fa NF fc) ∧ X.cell? ⟨W.heap.size, 3, none⟩ = some (.bool false) ∧ X.cell? ⟨W.heap.size, 4, none⟩ = some (.bool loop) ∧ X.cell? ⟨w2.heap.size, 2, none⟩ = some (.slice ya es.length yc)) :=
                    fun X h h' => ⟨h.cell 0, h.cell 1, h.cell 2, h.cell 3, h.cell 4, h'.cell 2⟩
                  have HS2' := Lib.hid hS2
                  clear hS2
                  have HC : Hid (Calls Tryz.prog 28 #[.agg #[.slice va NV vc, .slice aa NA ac, .slice fa NF fc, .bool false, .bool loop], .pointer (some ⟨sb, 0, none⟩), I 3] wd (DrR c 3 sb wd)) := by
                    refine Lib.hid ?_
                    have h := expr28 c 3 (by decide) (by decide) sb wd (.slice va NV vc) (.slice aa NA ac) (.slice fa NF fc) loop (HSC.out.kept (HS3.out.trans HFD.out.sg).1 (fun r e => by cases e; rfl)) HFD.out.sg.2
                    rw [HCF.out] at h
                    exact h
                  simp only [pickOps, List.map_cons, List.map_nil, List.getElem?_cons_zero, List.getElem?_cons_succ, Option.getD_some]
                  repeat (refine wpOrd_look (v := ?_) (by rfl) ?_ (by assumption) (fun _ _ _ h => h) ?_; rotate_left; (· (intro wS hSw; (try dsimp only at hSw); go_simp; (first | done | with_reducible rfl))); simp only [Act.put, List.setIfInBounds_toArray, List.set_cons_zero, List.set_cons_succ])
                  refine wpOrd_turn ?_
                  go_wp2_with (first
                    | (go_at_call 28; refine HC.out.mono ?_; rintro e' w4 ⟨x, xv, rfl, hdr2, hex2, hsg2⟩; obtain ⟨xa, xc, rfl⟩ := hex2.slice; have HDR2 := Lib.hid hdr2; have HEX2 := Lib.hid hex2; have HSG2 := Lib.hid hsg2; clear hdr2 hex2 hsg2; try dsimp only))
                  have HF4 := Lib.hid (HFD.out.draw HSG2.out)
                  have HIN4 := Lib.hid (HSG2.out.row HIND.out (by omega))
                  refine QN_keep (HS2'.out w4 (HF4.out.sg.row HT3.out (by omega)) HF4.out.row) fun hS => ?_
                  clear hS
                  refine wpOrd_turn ?_
                  go_wp2
                  obtain ⟨w5, hw5⟩ : ∃ w5, w5 = w4.alloc (.cells #[I x.kind, I x.op, I x.n, S x.name, .slice xa x.args.length xc] 31) := ⟨_, rfl⟩
                  have hn5 : w5.heap[w4.heap.size]? = some (.cells #[I x.kind, I x.op, I x.n, S x.name, .slice xa x.args.length xc] 31) := by rw [hw5]; exact heap_new _ _
                  have HF5 := Lib.hid (show FinM sb w2 4 [] ya yc es none 0 [] none 0 [] w5 by rw [hw5]; exact HF4.out.ext (alloc_grown _ _ none))
                  have HIN5 := Lib.hid (show Row w5 inb 64 [.slice va NV vc, .slice aa NA ac, .slice fa NF fc, .bool false, .bool true] by rw [hw5]; exact heap_old _ _ HIN4.out)
                  have HW5 := Lib.hid hw5
                  have HN5 := Lib.hid hn5
                  have HO5 := Lib.hid HF5.out.as_.1
                  have hz5 : w2.heap.size + 1 ≤ w5.heap.size := HF5.out.lt
                  have hdn : es.length ≤ 1000000000 := by rw [HES.out]; simp
                  rw [← hw5]
                  clear hw5 hn5
                  refine QN_keep (HS2'.out w5 (HF5.out.sg.row HT3.out (by omega)) HF5.out.row) fun hS => ?_
                  clear hS
                  refine wpOrd_turn ?_
                  go_wp2_with (first
                    | (at_builtin; refine wpList_appS slExpr rfl _ _ rfl eEnc_len eEnc_one (w2.heap.size + 1) (.slice ya es.length yc) es rfl HO5.out w4.heap.size ⟨x, xa, xc⟩ rfl (fun j hj => (cell_of_block HN5.out j).trans (by simp [eEnc, EA.av])) hdn (by decide) hz5 ?_; intro g' cap w6 ho6 hg6 hat6 hlt6; have HO6 := Lib.hid ho6; have HG6 := Lib.hid hg6; have HAT := Lib.hid hat6; clear ho6 hg6 hat6))
                  have hrs : Row w6 W.heap.size 64 [.slice va NV vc, .slice aa NA ac, .slice fa NF fc, .bool false, .bool loop] := (HF5.out.sg.row HT3.out (by omega)).kept HG6.out (fun e => by have := HF5.out.own_lt _ e.symm; have := HT3.out.lt; omega)
                  have hrx : Row w6 w2.heap.size 54 [I (4), S [], .slice ya es.length yc, .slice none 0 0, .slice none 0 0] := HF5.out.row.kept HG6.out (fun e => by have := HF5.out.own_lt _ e.symm; omega)
                  have HRS := Lib.hid hrs
                  have HRX := Lib.hid hrx
                  have HIN6 := Lib.hid (HIN5.out.tagk HG6.out (ownsRow_notag HO5.out (by decide)))
                  clear hrs hrx
                  refine QN_keep (HS2'.out w6 HRS.out HRX.out) fun hS => ?_
                  repeat (refine wpOrd_look (v := ?_) (by rfl) ?_ (by assumption) (fun _ _ _ h => h) ?_; rotate_left; (· (intro wS hSw; (try dsimp only at hSw); go_simp; (first | done | with_reducible rfl))); simp only [Act.put, List.setIfInBounds_toArray, List.set_cons_zero, List.set_cons_succ])
                  clear hS
                  have f2 := HRX.out.frozen 2
                  have c2 := HRX.out.cell 2
                  simp only [List.getElem?_cons_zero, List.getElem?_cons_succ] at c2
                  refine wpOrd_last ?_
                  go_wp2
                  refine QN_normal (wpOrd_nil ?_)
                  obtain ⟨w7, hw7⟩ : ∃ w7, w7 = w6.setCell ⟨w2.heap.size, 2, none⟩ (.slice (some ⟨g', 0, none⟩) (es.length + 1) cap) := ⟨_, rfl⟩
                  have hf7 : FinM sb w2 4 [] (some ⟨g', 0, none⟩) cap (es ++ [⟨x, xa, xc⟩]) none 0 [] none 0 [] w7 := by
                    rw [hw7]
                    exact FinM.app (y := ⟨x, xa, xc⟩) HFD.out HSG2.out HEX2.out HO6.out (by rw [← HW5.out]; exact HG6.out) (by rw [← HW5.out]; exact HAT.out)
                  have HIN7 := Lib.hid (show Row w7 inb 64 [.slice va NV vc, .slice aa NA ac, .slice fa NF fc, .bool false, .bool true] by rw [hw7]; exact HIN6.out.kept (setCell_grown _ _ _ _) (fun e => by cases e; omega))
                  rw [← hw7]
                  have HF7 := Lib.hid hf7
                  clear hw7 hf7 f2 c2 HRS HRX HO6 HG6 HAT HO5 HN5 HW5 HF5 HF4 HS2' hz5 hdn
                  go_upto_region 35 with (fail)
                  have hrw := HIN7.out.cell
                  have c0 := hrw 0
                  have c1 := hrw 1
                  have c2 := hrw 2
                  have c3 := hrw 3
                  have c4 := hrw 4
                  simp only [List.getElem?_cons_zero, List.getElem?_cons_succ] at c0 c1 c2 c3 c4
                  clear hrw
                  have HT_ := Lib.hid (HIH.out hd1 sb w7 (.slice va NV vc) (.slice aa NA ac) (.slice fa NF fc) true (HSC.out.kept (HS3.out.trans HF7.out.sg).1 (fun r e => by cases e; rfl)) HF7.out.sg.2)
                  go_wp2_with (first
                    | (go_at_call 30; refine HT_.out.mono ?_; rintro e' w8p ⟨tl, ta, tk, rfl, hl4, hxd, hxx, hxs⟩; have HXDt := Lib.hid hxd; have HXX := Lib.hid hxx; have HXS := Lib.hid hxs; have y3 := (HF7.out.draw hxs).row.cell 3; have f3 := (HF7.out.draw hxs).row.frozen 3; simp only [List.getElem?_cons_zero, List.getElem?_cons_succ] at y3; clear hxd hxx hxs hl4 c0 c1 c2 c3 c4; try dsimp only))
                  obtain ⟨w8, hw_⟩ : ∃ w9, w9 = w8p.setCell ⟨w2.heap.size, 3, none⟩ (.slice ta tl.length tk) := ⟨_, rfl⟩
                  have hf_ := HF7.out.thn HXS.out HXX.out
                  rw [← hw_] at hf_ ⊢
                  have HF8 := Lib.hid hf_
                  clear hw_ hf_ y3 f3 HXX HXS HT_
                  exact HFIN.out _ _ _ _ _ _ _ _ _ _ _ _ _ _ _ _ _ _ _ _ _ _ _ _ _ _ _ _ _ _ _ _ _ _ _ _ _ _ _ _ _ _ _ _ _ _ _ _ _ _ _ _ _ _ _ _ _ _ _ _ _ _ _ _ _ _ _ _ _ _ _ _ _ _ _ _ _ _ _ _ _ _ _ _ _ _ _ _ _ _ _ _ _ _ _ _ _ _ _ _ _ _ _ _ _ _ _ _ _ _ _ _ _ _ _ _ _ _ _ _ _ _ _ _ _ _ _ _ _ _ _ _ _ _ _ _ _ _ _ _ _ _ _ _ _ _ _ _ _ _ _ _ _ _ _ _ _ _ _ _ _ _ _ _ _ _ _ _ _ _ _ _ _ _ _ _ _ _ _ _ _ _ _ _ _ _ _ _ _ _ _ _ _ _ _ _ _ _ _ _ _ _ _ _ _ _ _ _ _ _ _ _ w8 4 [] _ _ _ _ _ _ none 0 [] HF8.out (by rw [HES.out]; exact FinK.whl (y := ⟨x, xa, xc⟩) (DrE.le (by decide) HDR2.out) HXDt.out)
                have HE_ := Lib.hid hE
                clear hKE hE
                rcases h910 with rfl | rfl
                · go_wp2
                  exact HE_.out _ _ _ _ _ _ _ _ _ _ _ _ _ _ _ _ _ _ _ _ _ _ _ _ _ _ _ _ _ _ _ _ _ _ _ _ _ _ _ _ _ _ _ _ _ _ _ _ _ _ _ _ _ _ _ _ _ _ _ _ _ _ _ _ _ _ _ _ _ _ _ _ _ _ _ _ _ _ _ _ _ _ _ _ _ _ _ _ _ _ _ _ _ _ _ _ _ _ _ _ _ _ _ _ _ _ _ _ _ _ _ _ _ _ _ _ _ _ _ _ _ _ _ _ _ _ _ _ _ _ _ _ _ _ _ _ _ _ _ _ _ _ _ _ _ _ _ _ _ _ _ _ _ _ _ _ _ _ _ _ _ _ _ _ _ _ _ _ _ _ _ _ _ _ _ _ _ _ _ _ _ _ _ _ _ _ _ _ _ _ _ _ _ _ _ _ _ _ _ _ _ _ _ _ _ _ _ _ _ _ _
                · go_wp2
                  exact HE_.out _ _ _ _ _ _ _ _ _ _ _ _ _ _ _ _ _ _ _ _ _ _ _ _ _ _ _ _ _ _ _ _ _ _ _ _ _ _ _ _ _ _ _ _ _ _ _ _ _ _ _ _ _ _ _ _ _ _ _ _ _ _ _ _ _ _ _ _ _ _ _ _ _ _ _ _ _ _ _ _ _ _ _ _ _ _ _ _ _ _ _ _ _ _ _ _ _ _ _ _ _ _ _ _ _ _ _ _ _ _ _ _ _ _ _ _ _ _ _ _ _ _ _ _ _ _ _ _ _ _ _ _ _ _ _ _ _ _ _ _ _ _ _ _ _ _ _ _ _ _ _ _ _ _ _ _ _ _ _ _ _ _ _ _ _ _ _ _ _ _ _ _ _ _ _ _ _ _ _ _ _ _ _ _ _ _ _ _ _ _ _ _ _ _ _ _ _ _ _ _ _ _ _ _ _ _ _ _ _ _ _
              · skip
                go_upto_region 36 with (fail)
                rename_i KG hKG
                have hG : ∀ (b : Bool) (x12 x13 x14 x15 x16 x19 x20 x21 x22 x23 x24 x25 x26 x27 x28 x29 x30 x31 x32 x33 x34 x35 x36 x37 x38 x39 x40 x41 x42 x43 x44 x45 x46 x47 x48 x49 x50 x51 x52 x53 x54 x55 x56 x57 x58 x59 x60 x61 x62 x63 x64 x65 x66 x67 x68 x69 x70 x71 x72 x73 x74 x75 x76 x77 x78 x79 x80 x81 x82 x83 x84 x85 x86 x87 x88 x89 x90 x91 x92 x93 x94 x95 x96 x97 x98 x99 x100 x101 x102 x103 x104 x105 x106 x107 x108 x109 x110 x111 x112 x113 x114 x115 x116 x117 x118 x119 x120 x121 x122 x123 x124 x125 x126 x127 x128 x129 x130 x131 x132 x133 x134 x135 x136 x137 x138 x139 x140 x141 x142 x143 x144 x145 x146 x147 x148 x149 x150 x151 x152 x153 x154 x155 x156 x157 x158 x159 x160 x161 x162 x163 x164 x165 x166 x167 x168 x169 x170 x171 x172 x173 x174 x176 x177 x178 x179 x180 x181 x182 x183 x184 x185 x186 x187 x188 x189 x190 x191 x192 x193 x194 x195 x196 x197 x198 x199 x200 x201 x202 x203 x204 x205 x206 x207 x208 x209 x210 x211 x212 x213 x214 x215 x216 x217 x218 x219 x220 x221 x222 x223 x224 : Value) (wz : World), (b = true → loop = true) → FinM sb w2 8 [] none 0 [] none 0 [] none 0 [] wz → KG { tmps := #[.agg #[.slice va NV vc, .slice aa NA ac, .slice fa NF fc, .bool false, .bool loop], .pointer (some ⟨sb, 0, none⟩), I ((d : Int) + 1), .pointer (some ⟨W.heap.size, 0, none⟩), undef, undef, .slice none 0 0, .slice oa k oc, I n, I k, .int .i64 11, .pointer (some ⟨w2.heap.size, 0, none⟩), x12, x13, x14, x15, x16, .pointer (some ⟨sb, 0, none⟩), I n, x19, x20, x21, x22, x23, x24, x25, x26, x27, x28, x29, x30, x31, x32, x33, x34, x35, x36, x37, x38, x39, x40, x41, x42, x43, x44, x45, x46, x47, x48, x49, x50, x51, x52, x53, x54, x55, x56, x57, x58, x59, x60, x61, x62, x63, x64, x65, x66, x67, x68, x69, x70, x71, x72, x73, x74, x75, x76, x77, x78, x79, x80, x81, x82, x83, x84, x85, x86, x87, x88, x89, x90, x91, x92, x93, x94, x95, x96, x97, x98, x99, x100, x101, x102, x103, x104, x105, x106, x107, x108, x109, x110, x111, x112, x113, x114, x115, x116, x117, x118, x119, x120, x121, x122, x123, x124, x125, x126, x127, x128, x129, x130, x131, x132, x133, x134, x135, x136, x137, x138, x139, x140, x141, x142, x143, x144, x145, x146, x147, x148, x149, x150, x151, x152, x153, x154, x155, x156, x157, x158, x159, x160, x161, x162, x163, x164, x165, x166, x167, x168, x169, x170, x171, x172, x173, x174, .bool b, x176, x177, x178, x179, x180, x181, x182, x183, x184, x185, x186, x187, x188, x189, x190, x191, x192, x193, x194, x195, x196, x197, x198, x199, x200, x201, x202, x203, x204, x205, x206, x207, x208, x209, x210, x211, x212, x213, x214, x215, x216, x217, x218, x219, x220, x221, x222, x223, x224, undef], defers := [] } wz := by
                  intro b x12 x13 x14 x15 x16 x19 x20 x21 x22 x23 x24 x25 x26 x27 x28 x29 x30 x31 x32 x33 x34 x35 x36 x37 x38 x39 x40 x41 x42 x43 x44 x45 x46 x47 x48 x49 x50 x51 x52 x53 x54 x55 x56 x57 x58 x59 x60 x61 x62 x63 x64 x65 x66 x67 x68 x69 x70 x71 x72 x73 x74 x75 x76 x77 x78 x79 x80 x81 x82 x83 x84 x85 x86 x87 x88 x89 x90 x91 x92 x93 x94 x95 x96 x97 x98 x99 x100 x101 x102 x103 x104 x105 x106 x107 x108 x109 x110 x111 x112 x113 x114 x115 x116 x117 x118 x119 x120 x121 x122 x123 x124 x125 x126 x127 x128 x129 x130 x131 x132 x133 x134 x135 x136 x137 x138 x139 x140 x141 x142 x143 x144 x145 x146 x147 x148 x149 x150 x151 x152 x153 x154 x155 x156 x157 x158 x159 x160 x161 x162 x163 x164 x165 x166 x167 x168 x169 x170 x171 x172 x173 x174 x176 x177 x178 x179 x180 x181 x182 x183 x184 x185 x186 x187 x188 x189 x190 x191 x192 x193 x194 x195 x196 x197 x198 x199 x200 x201 x202 x203 x204 x205 x206 x207 x208 x209 x210 x211 x212 x213 x214 x215 x216 x217 x218 x219 x220 x221 x222 x223 x224 wz hbl hz
                  refine hKG _ _ ?_
                  clear hKG KG
                  have HZ := Lib.hid hz
                  have HBL := Lib.hid hbl
                  clear hz hbl
                  cases b with
                  | true =>
                    obtain ⟨wa, hwa⟩ : ∃ wa, wa = wz.alloc (.cells #[I 5, I 6] 3) := ⟨_, rfl⟩
                    have hfa : FinM sb w2 8 [] none 0 [] none 0 [] none 0 [] wa := by rw [hwa]; exact HZ.out.ext (alloc_grown _ _ none)
                    have hra : Row wa wz.heap.size 3 [I 5, I 6] := by rw [hwa]; exact heap_new _ _
                    have hzl : w2.heap.size < wz.heap.size := HZ.out.lt
                    have hsbl : sb < w2.heap.size := HZ.out.hsb
                    have hwe2 := hwa.symm
                    have HFA := Lib.hid hfa
                    have HRA := Lib.hid hra
                    clear hwa hfa hra
                    go_wp2_with (first
                      | (go_at_call 25; refine (next25_any sb 2 wa HFA.out.sg.2 (by omega) (by omega)).mono ?_; rintro e' w5 ⟨⟨r, rfl, hr0, hr2⟩, hs5⟩; obtain ⟨r2, rfl⟩ := nat_of hr0; have HF5 := Lib.hid (HFA.out.draw hs5); obtain ⟨y, hy, hyy⟩ : ∃ y : Int, ([I 5, I 6] : List Value)[r2]? = some (I y) ∧ (y = 5 ∨ y = 6) := (by rcases (by omega : r2 = 0 ∨ r2 = 1) with rfl | rfl; exact ⟨_, rfl, .inl rfl⟩; exact ⟨_, rfl, .inr rfl⟩); have hcy := ((hs5.row HRA.out (by omega)).cell r2).trans hy; have HYY := Lib.hid hyy; have y0 := HF5.out.row.cell 0; have f0 := HF5.out.row.frozen 0; simp only [List.getElem?_cons_zero] at y0; clear hs5 hy hyy hwe2; try dsimp only))
                    exact HFIN.out _ _ _ _ _ _ _ _ _ _ _ _ _ _ _ _ _ _ _ _ _ _ _ _ _ _ _ _ _ _ _ _ _ _ _ _ _ _ _ _ _ _ _ _ _ _ _ _ _ _ _ _ _ _ _ _ _ _ _ _ _ _ _ _ _ _ _ _ _ _ _ _ _ _ _ _ _ _ _ _ _ _ _ _ _ _ _ _ _ _ _ _ _ _ _ _ _ _ _ _ _ _ _ _ _ _ _ _ _ _ _ _ _ _ _ _ _ _ _ _ _ _ _ _ _ _ _ _ _ _ _ _ _ _ _ _ _ _ _ _ _ _ _ _ _ _ _ _ _ _ _ _ _ _ _ _ _ _ _ _ _ _ _ _ _ _ _ _ _ _ _ _ _ _ _ _ _ _ _ _ _ _ _ _ _ _ _ _ _ _ _ _ _ _ _ _ _ _ _ _ _ _ _ _ _ _ _ _ _ _ _ _ _ y [] none 0 [] none 0 [] none 0 [] (HF5.out.kind y) (FinK.brk HYY.out (HBL.out rfl))
                  | false =>
                    go_wp2
                    exact HFIN.out _ _ _ _ _ _ _ _ _ _ _ _ _ _ _ _ _ _ _ _ _ _ _ _ _ _ _ _ _ _ _ _ _ _ _ _ _ _ _ _ _ _ _ _ _ _ _ _ _ _ _ _ _ _ _ _ _ _ _ _ _ _ _ _ _ _ _ _ _ _ _ _ _ _ _ _ _ _ _ _ _ _ _ _ _ _ _ _ _ _ _ _ _ _ _ _ _ _ _ _ _ _ _ _ _ _ _ _ _ _ _ _ _ _ _ _ _ _ _ _ _ _ _ _ _ _ _ _ _ _ _ _ _ _ _ _ _ _ _ _ _ _ _ _ _ _ _ _ _ _ _ _ _ _ _ _ _ _ _ _ _ _ _ _ _ _ _ _ _ _ _ _ _ _ _ _ _ _ _ _ _ _ _ _ _ _ _ _ _ _ _ _ _ _ _ _ _ _ _ _ _ _ _ _ _ _ _ _ _ _ _ _ wz 8 [] none 0 [] none 0 [] none 0 [] HZ.out (FinK.print (.inr (.inl rfl)))
                have HG := Lib.hid hG
                clear hKG hG
                have hrw := (HFM.out.sg.row HT3.out (by omega)).cell
                have c3 := hrw 3
                have c4 := hrw 4
                simp only [List.getElem?_cons_zero, List.getElem?_cons_succ] at c3 c4
                clear hrw
                cases loop with
                | true =>
                  go_wp2_with (first
                    | (go_at_call 25; refine (next25_any sb 2 w3 HFM.out.sg.2 (by omega) (by omega)).mono ?_; rintro e' w4 ⟨⟨r3, rfl, hr0, hr3⟩, hs4⟩; have HF4 := Lib.hid (HFM.out.draw hs4); clear hs4; try dsimp only))
                  exact HG.out _ _ _ _ _ _ _ _ _ _ _ _ _ _ _ _ _ _ _ _ _ _ _ _ _ _ _ _ _ _ _ _ _ _ _ _ _ _ _ _ _ _ _ _ _ _ _ _ _ _ _ _ _ _ _ _ _ _ _ _ _ _ _ _ _ _ _ _ _ _ _ _ _ _ _ _ _ _ _ _ _ _ _ _ _ _ _ _ _ _ _ _ _ _ _ _ _ _ _ _ _ _ _ _ _ _ _ _ _ _ _ _ _ _ _ _ _ _ _ _ _ _ _ _ _ _ _ _ _ _ _ _ _ _ _ _ _ _ _ _ _ _ _ _ _ _ _ _ _ _ _ _ _ _ _ _ _ _ _ _ _ _ _ _ _ _ _ _ _ _ _ _ _ _ _ _ _ _ _ _ _ _ _ _ _ _ _ _ _ _ _ _ _ _ _ _ _ _ _ _ _ _ _ _ _ _ _ _ _ _ _ w4 (fun _ => rfl) HF4.out
                | false =>
                  go_wp2
                  exact HG.out false _ _ _ _ _ _ _ _ _ _ _ _ _ _ _ _ _ _ _ _ _ _ _ _ _ _ _ _ _ _ _ _ _ _ _ _ _ _ _ _ _ _ _ _ _ _ _ _ _ _ _ _ _ _ _ _ _ _ _ _ _ _ _ _ _ _ _ _ _ _ _ _ _ _ _ _ _ _ _ _ _ _ _ _ _ _ _ _ _ _ _ _ _ _ _ _ _ _ _ _ _ _ _ _ _ _ _ _ _ _ _ _ _ _ _ _ _ _ _ _ _ _ _ _ _ _ _ _ _ _ _ _ _ _ _ _ _ _ _ _ _ _ _ _ _ _ _ _ _ _ _ _ _ _ _ _ _ _ _ _ _ _ _ _ _ _ _ _ _ _ _ _ _ _ _ _ _ _ _ _ _ _ _ _ _ _ _ _ _ _ _ _ _ _ _ _ _ _ _ _ _ _ _ _ _ _ _ _ _ _ w3 (fun e => by cases e) HFM.out
              · skip
                go_wp2
                exact HFIN.out _ _ _ _ _ _ _ _ _ _ _ _ _ _ _ _ _ _ _ _ _ _ _ _ _ _ _ _ _ _ _ _ _ _ _ _ _ _ _ _ _ _ _ _ _ _ _ _ _ _ _ _ _ _ _ _ _ _ _ _ _ _ _ _ _ _ _ _ _ _ _ _ _ _ _ _ _ _ _ _ _ _ _ _ _ _ _ _ _ _ _ _ _ _ _ _ _ _ _ _ _ _ _ _ _ _ _ _ _ _ _ _ _ _ _ _ _ _ _ _ _ _ _ _ _ _ _ _ _ _ _ _ _ _ _ _ _ _ _ _ _ _ _ _ _ _ _ _ _ _ _ _ _ _ _ _ _ _ _ _ _ _ _ _ _ _ _ _ _ _ _ _ _ _ _ _ _ _ _ _ _ _ _ _ _ _ _ _ _ _ _ _ _ _ _ _ _ _ _ _ _ _ _ _ _ _ _ _ _ _ _ _ w3 8 [] none 0 [] none 0 [] none 0 [] HFM.out (FinK.print (.inr (.inl rfl)))
              · skip
                go_wp2
                exact HFIN.out _ _ _ _ _ _ _ _ _ _ _ _ _ _ _ _ _ _ _ _ _ _ _ _ _ _ _ _ _ _ _ _ _ _ _ _ _ _ _ _ _ _ _ _ _ _ _ _ _ _ _ _ _ _ _ _ _ _ _ _ _ _ _ _ _ _ _ _ _ _ _ _ _ _ _ _ _ _ _ _ _ _ _ _ _ _ _ _ _ _ _ _ _ _ _ _ _ _ _ _ _ _ _ _ _ _ _ _ _ _ _ _ _ _ _ _ _ _ _ _ _ _ _ _ _ _ _ _ _ _ _ _ _ _ _ _ _ _ _ _ _ _ _ _ _ _ _ _ _ _ _ _ _ _ _ _ _ _ _ _ _ _ _ _ _ _ _ _ _ _ _ _ _ _ _ _ _ _ _ _ _ _ _ _ _ _ _ _ _ _ _ _ _ _ _ _ _ _ _ _ _ _ _ _ _ _ _ _ _ _ _ _ w3 8 [] none 0 [] none 0 [] none 0 [] HFM.out (FinK.print (.inr (.inl rfl)))
            have H_12 := Lib.hid h_12
            clear hK_12 h_12
            rcases Nat.eq_zero_or_pos NF with hz | hz
            rotate_left
            · have hzz : 0 < (NF : Int) := by omega
              go_wp2
              exact H_12.out true _ _ _ _ _ _ _ _ _ _ _ _ _ _ _ _ _ _ _ _ _ _ _ _ _ _ _ _ _ _ _ _ _ _ _ _ _ _ _ _ _ _ _ _ _ _ _ _ _ _ _ _ _ _ _ _ _ _ _ _ _ _ _ _ _ _ _ _ _ _ _ _ _ _ _ _ _ _ _ _ _ _ _ _ _ _ _ _ _ _ _ _ _ _ _ _ _ _ _ _ _ _ _ _ _ _ _ _ _ _ _ _ _ _ _ _ _ _ _ _ _ _ _ _ _ _ _ _ _ _ _ _ _ _ _ _ _ _ _ _ _ _ _ _ _ _ _ _ _ _ _ _ _ _ _ _ _ _ _ _ _ _ _ _ _ _ _ _ _ _ _ _ _ _ _ _ _ _ _ _ _ _ _ _ _ _ _ _ _ _ _ _ _ _ _ _ _ _ _ _ _ _ _ _ _ _ _ _ (fun _ => hz)
            · subst hz
              go_wp2
              exact H_12.out false _ _ _ _ _ _ _ _ _ _ _ _ _ _ _ _ _ _ _ _ _ _ _ _ _ _ _ _ _ _ _ _ _ _ _ _ _ _ _ _ _ _ _ _ _ _ _ _ _ _ _ _ _ _ _ _ _ _ _ _ _ _ _ _ _ _ _ _ _ _ _ _ _ _ _ _ _ _ _ _ _ _ _ _ _ _ _ _ _ _ _ _ _ _ _ _ _ _ _ _ _ _ _ _ _ _ _ _ _ _ _ _ _ _ _ _ _ _ _ _ _ _ _ _ _ _ _ _ _ _ _ _ _ _ _ _ _ _ _ _ _ _ _ _ _ _ _ _ _ _ _ _ _ _ _ _ _ _ _ _ _ _ _ _ _ _ _ _ _ _ _ _ _ _ _ _ _ _ _ _ _ _ _ _ _ _ _ _ _ _ _ _ _ _ _ _ _ _ _ _ _ _ _ _ _ _ _ _ (fun e => by cases e)
          have H_11 := Lib.hid h_11
          clear hK_11 h_11
          rcases Nat.eq_zero_or_pos NV with hz | hz
          rotate_left
          · have hzz : 0 < (NV : Int) := by omega
            go_wp2
            exact H_11.out true _ _ _ _ _ _ _ _ _ _ _ _ _ _ _ _ _ _ _ _ _ _ _ _ _ _ _ _ _ _ _ _ _ _ _ _ _ _ _ _ _ _ _ _ _ _ _ _ _ _ _ _ _ _ _ _ _ _ _ _ _ _ _ _ _ _ _ _ _ _ _ _ _ _ _ _ _ _ _ _ _ _ _ _ _ _ _ _ _ _ _ _ _ _ _ _ _ _ _ _ _ _ _ _ _ _ _ _ _ _ _ _ _ _ _ _ _ _ _ _ _ _ _ _ _ _ _ _ _ _ _ _ _ _ _ _ _ _ _ _ _ _ _ _ _ _ _ _ _ _ _ _ _ _ _ _ _ _ _ _ _ _ _ _ _ _ _ _ _ _ _ _ _ _ _ _ _ _ _ _ _ _ _ _ _ _ _ _ _ _ _ _ _ _ _ _ _ _ _ _ _ _ _ _ _ _ _ _ _ (fun _ => hz)
          · subst hz
            go_wp2
            exact H_11.out false _ _ _ _ _ _ _ _ _ _ _ _ _ _ _ _ _ _ _ _ _ _ _ _ _ _ _ _ _ _ _ _ _ _ _ _ _ _ _ _ _ _ _ _ _ _ _ _ _ _ _ _ _ _ _ _ _ _ _ _ _ _ _ _ _ _ _ _ _ _ _ _ _ _ _ _ _ _ _ _ _ _ _ _ _ _ _ _ _ _ _ _ _ _ _ _ _ _ _ _ _ _ _ _ _ _ _ _ _ _ _ _ _ _ _ _ _ _ _ _ _ _ _ _ _ _ _ _ _ _ _ _ _ _ _ _ _ _ _ _ _ _ _ _ _ _ _ _ _ _ _ _ _ _ _ _ _ _ _ _ _ _ _ _ _ _ _ _ _ _ _ _ _ _ _ _ _ _ _ _ _ _ _ _ _ _ _ _ _ _ _ _ _ _ _ _ _ _ _ _ _ _ _ _ _ _ _ _ _ (fun e => by cases e)
        have H_10 := Lib.hid h_10
        clear hK_10 h_10
        rcases Nat.eq_zero_or_pos NA with hz | hz
        rotate_left
        · have hzz : 0 < (NA : Int) := by omega
          go_wp2
          exact H_10.out true _ _ _ _ _ _ _ _ _ _ _ _ _ _ _ _ _ _ _ _ _ _ _ _ _ _ _ _ _ _ _ _ _ _ _ _ _ _ _ _ _ _ _ _ _ _ _ _ _ _ _ _ _ _ _ _ _ _ _ _ _ _ _ _ _ _ _ _ _ _ _ _ _ _ _ _ _ _ _ _ _ _ _ _ _ _ _ _ _ _ _ _ _ _ _ _ _ _ _ _ _ _ _ _ _ _ _ _ _ _ _ _ _ _ _ _ _ _ _ _ _ _ _ _ _ _ _ _ _ _ _ _ _ _ _ _ _ _ _ _ _ _ _ _ _ _ _ _ _ _ _ _ _ _ _ _ _ _ _ _ _ _ _ _ _ _ _ _ _ _ _ _ _ _ _ _ _ _ _ _ _ _ _ _ _ _ _ _ _ _ _ _ _ _ _ _ _ _ _ _ _ _ _ _ _ _ _ _ _ _ (fun _ => hz)
        · subst hz
          go_wp2
          exact H_10.out false _ _ _ _ _ _ _ _ _ _ _ _ _ _ _ _ _ _ _ _ _ _ _ _ _ _ _ _ _ _ _ _ _ _ _ _ _ _ _ _ _ _ _ _ _ _ _ _ _ _ _ _ _ _ _ _ _ _ _ _ _ _ _ _ _ _ _ _ _ _ _ _ _ _ _ _ _ _ _ _ _ _ _ _ _ _ _ _ _ _ _ _ _ _ _ _ _ _ _ _ _ _ _ _ _ _ _ _ _ _ _ _ _ _ _ _ _ _ _ _ _ _ _ _ _ _ _ _ _ _ _ _ _ _ _ _ _ _ _ _ _ _ _ _ _ _ _ _ _ _ _ _ _ _ _ _ _ _ _ _ _ _ _ _ _ _ _ _ _ _ _ _ _ _ _ _ _ _ _ _ _ _ _ _ _ _ _ _ _ _ _ _ _ _ _ _ _ _ _ _ _ _ _ _ _ _ _ _ _ _ (fun e => by cases e)
      have H9 := Lib.hid h9
      clear hK9 h9
      by_cases hd0 : d = 0
      · have hdz : (d : Int) + 1 < 2 := by omega
        clear hd0
        by_cases h7 : 7 ≤ kq
        · have h7z : (7 : Int) ≤ kq := by omega
          by_cases h11 : kq < 11
          · have h11z : (kq : Int) < 11 := by omega
            go_wp2
            exact H9.out 0 _ _ _ _ _ _ _ _ _ _ _ _ _ _ _ _ _ _ _ _ _ _ _ _ _ _ _ _ _ _ _ _ _ _ _ _ _ _ _ _ _ _ _ _ _ _ _ _ _ _ _ _ _ _ _ _ _ _ _ _ _ _ _ _ _ _ _ _ _ _ _ _ _ _ _ _ _ _ _ _ _ _ _ _ _ _ _ _ _ _ _ _ _ _ _ _ _ _ _ _ _ _ _ _ _ _ _ _ _ _ _ _ _ _ _ _ _ _ _ _ _ _ _ _ _ _ _ _ _ _ _ _ _ _ _ _ _ _ _ _ _ _ _ _ _ _ _ _ _ _ _ _ _ _ _ _ _ _ _ _ _ _ _ _ _ _ _ _ _ _ _ _ _ _ _ _ _ _ _ _ _ _ _ _ _ _ _ _ _ _ _ _ _ _ _ _ _ _ _ _ _ _ _ _ _ _ _ _ _ _ _ _ (by omega) (fun _ => by omega)
          · have h11z : ¬ (kq : Int) < 11 := by omega
            go_wp2
            exact H9.out kq _ _ _ _ _ _ _ _ _ _ _ _ _ _ _ _ _ _ _ _ _ _ _ _ _ _ _ _ _ _ _ _ _ _ _ _ _ _ _ _ _ _ _ _ _ _ _ _ _ _ _ _ _ _ _ _ _ _ _ _ _ _ _ _ _ _ _ _ _ _ _ _ _ _ _ _ _ _ _ _ _ _ _ _ _ _ _ _ _ _ _ _ _ _ _ _ _ _ _ _ _ _ _ _ _ _ _ _ _ _ _ _ _ _ _ _ _ _ _ _ _ _ _ _ _ _ _ _ _ _ _ _ _ _ _ _ _ _ _ _ _ _ _ _ _ _ _ _ _ _ _ _ _ _ _ _ _ _ _ _ _ _ _ _ _ _ _ _ _ _ _ _ _ _ _ _ _ _ _ _ _ _ _ _ _ _ _ _ _ _ _ _ _ _ _ _ _ _ _ _ _ _ _ _ _ _ _ _ _ _ _ _ (by omega) (fun _ => by omega)
        · have h7z : ¬ (7 : Int) ≤ kq := by omega
          go_wp2
          exact H9.out kq _ _ _ _ _ _ _ _ _ _ _ _ _ _ _ _ _ _ _ _ _ _ _ _ _ _ _ _ _ _ _ _ _ _ _ _ _ _ _ _ _ _ _ _ _ _ _ _ _ _ _ _ _ _ _ _ _ _ _ _ _ _ _ _ _ _ _ _ _ _ _ _ _ _ _ _ _ _ _ _ _ _ _ _ _ _ _ _ _ _ _ _ _ _ _ _ _ _ _ _ _ _ _ _ _ _ _ _ _ _ _ _ _ _ _ _ _ _ _ _ _ _ _ _ _ _ _ _ _ _ _ _ _ _ _ _ _ _ _ _ _ _ _ _ _ _ _ _ _ _ _ _ _ _ _ _ _ _ _ _ _ _ _ _ _ _ _ _ _ _ _ _ _ _ _ _ _ _ _ _ _ _ _ _ _ _ _ _ _ _ _ _ _ _ _ _ _ _ _ _ _ _ _ _ _ _ _ _ _ _ _ _ (by omega) (fun _ => by omega)
      · have hdz : ¬ (d : Int) + 1 < 2 := by omega
        go_wp2
        exact H9.out kq _ _ _ _ _ _ _ _ _ _ _ _ _ _ _ _ _ _ _ _ _ _ _ _ _ _ _ _ _ _ _ _ _ _ _ _ _ _ _ _ _ _ _ _ _ _ _ _ _ _ _ _ _ _ _ _ _ _ _ _ _ _ _ _ _ _ _ _ _ _ _ _ _ _ _ _ _ _ _ _ _ _ _ _ _ _ _ _ _ _ _ _ _ _ _ _ _ _ _ _ _ _ _ _ _ _ _ _ _ _ _ _ _ _ _ _ _ _ _ _ _ _ _ _ _ _ _ _ _ _ _ _ _ _ _ _ _ _ _ _ _ _ _ _ _ _ _ _ _ _ _ _ _ _ _ _ _ _ _ _ _ _ _ _ _ _ _ _ _ _ _ _ _ _ _ _ _ _ _ _ _ _ _ _ _ _ _ _ _ _ _ _ _ _ _ _ _ _ _ _ _ _ _ _ _ _ _ _ _ _ _ _ (by omega) (fun e => absurd e hd0)
    · have hltz : ¬ (k : Int) < (n : Int) := by omega
      have hkn : k = n := by omega
      go_wp2
      rw [HQ.out]
      have h4 : done.length ≤ 4 := by rw [HDK.out]; omega
      have h1 := HSD.out.read (by omega)
      refine ⟨done.map SD.s, oa, oc, ?_, by simpa using h4, fun s hs => ?_, ?_, HSO.out⟩
      · rw [List.length_map, HDK.out, hkn]
      · obtain ⟨p, hp, rfl⟩ := List.mem_map.1 hs
        exact HDR.out p hp
      · rw [List.length_map, HDK.out]
        exact SX.weak h1 fun b hb => (by omega : W.heap.size ≤ b)
end Go.Proofs.YtjgbkdbkachciaaGreatDoor
