import Derived.Test.YtngglbakkedaiaaGreatDoorB5
set_option linter.all false
namespace Go.Proofs.YtngglbakkedaiaaGreatDoor
section
open Go.RowKit Go.Shelf
attribute [local go_sem] Oper.semAt_some
theorem shl_nn (m:Nat) (hm:m<63):0≤wrap64 ((2:Int)^m):=by
 have hp:(2:Int)^m<9223372036854775808:=by
  have:(2:Nat)^m<2^63:=Nat.pow_lt_pow_right dc0 hm;have h2:((2^m:Nat):Int)<((2^63:Nat):Int):=Int.ofNat_lt.2 this;simpa using h2
 have h0:(0:Int)≤(2:Int)^m:=Int.pow_nonneg dc0;have e:IntKind.i64.wrap ((2:Int)^m)=(2:Int)^m:=IntWalk.i64_in _ om0;rw[←IntWalk.i64_left,e];exact h0
theorem arr_f0 (s l:Value) (w:World):(Instr.field 60 (.agg #[s,l]) 0).run Tryz.prog w= .ok s w:=kr0
abbrev numsV (n q:Nat) (s:Int):List Value:= [I 0,I 1,I 2,I 3,I n,I q,I s,I 9223372036854775807]
theorem nums_at (n q:Nat) (s:Int) (hs:0≤s) {r:Nat} (hr:r<8):∃y:Int,(numsV n q s)[r]? =some (I y)∧0≤y:=by
 rcases(by omega:r=0∨r=1∨r=2∨r=3∨r=4∨r=5∨r=6∨r=7)with rfl|rfl|rfl|rfl|rfl|rfl|rfl|rfl
 ·exact⟨_,rfl,dc0⟩
 ·exact⟨_,rfl,dc0⟩
 ·exact⟨_,rfl,dc0⟩
 ·exact⟨_,rfl,dc0⟩
 ·exact⟨_,rfl,om0⟩
 ·exact⟨_,rfl,om0⟩
 ·exact⟨_,rfl,hs⟩
 ·exact⟨_,rfl,dc0⟩
def OT.n14l:OT:= .one 0 10 (.one 1 11 (.one 0 12 (.one 2 13 .nil)))
def OT.n14:OT:= .one 0 0 (.one 0 1 (.one 0 2 (.one 0 3 (.one 0 4 (.one 0 5 (.one 0 6 (.one 0 8 (.two 7 9 (.one 1 9 .n14l) (.one 1 7 .n14l)))))))))
set_option maxRecDepth 100000 in
set_option maxHeartbeats 8000000 in
theorem expr28_step (c:Sc) (d:Nat) (ih:1≤d→DrC c d) (hd:d<1000):DrC c (d+1):=by
 intro sb W vv av fv loop hsc hs;obtain⟨Q,hQ⟩:∃Q:Ending→World→Prop,Q=DrR c (d+1) sb W:=⟨_,rfl⟩;rw[←hQ];have HQ:=hqz9 hQ;have HSC:=hqz9 hsc;obtain⟨vl,hvl,hvk⟩:=hsc.v;obtain⟨al,hal,hak⟩:=hsc.a;obtain⟨fl,hfl,hfk⟩:=hsc.f;obtain⟨va,vc,rfl,hv9, -⟩:=id hvl;obtain⟨aa,ac,rfl,ha9, -⟩:=id hal;obtain⟨fa,fc,rfl,hf9, -⟩:=id hfl;have⟨NV,hNV⟩:=xq vl.length;have⟨NA,hNA⟩:=xq al.length;have⟨NF,hNF⟩:=xq fl.length;rw[←hNV,←hNA,←hNF]at HSC⊢;rw[←hNV]at hvl hv9;rw[←hNA]at hal ha9;rw[←hNF]at hfl hf9;have⟨fr,hfr⟩:=xq c.free;rw[←hfr]at hvk hak hfk⊢;obtain⟨w1,hw1⟩:∃w1,w1=(W.alloc (.cells #[.slice va NV vc, .slice aa NA ac, .slice fa NF fc, .bool fr, .bool loop] 48)).alloc (.cells eZ 57):=⟨_,rfl⟩;have hwe:=hw1.symm;have hb1:Below W W w1:=by rw[hw1];exact below_a2 _ _ _
 have HR1:=hqz9 (show Row w1 W 48 [.slice va NV vc, .slice aa NA ac, .slice fa NF fc, .bool fr, .bool loop] by rw[hw1];exact heap_old _ _ hn0);have HR2:=hqz9 (show Row w1 (W.heap.size+1) 57 [I 0,I 0,I 0,S [], .slice none 0 0] by rw[hw1];exact heap_at sm0);have hsl:=hs.lt;have HS1:=hqz9 (SG.start hs hb1);have HVL:=hqz9 hvl;have HAL:=hqz9 hal;have HNV:=hqz9 hNV;have HNA:=hqz9 hNA;have HNF:=hqz9 hNF;have HVK:=hqz9 hvk;have HAK:=hqz9 hak;have HFK:=hqz9 hfk;have HFR:=hqz9 hfr;have HIH:=hqz9 ih;clear hsc hs hvl hal hfl hNV hNA hNF hfr hvk hak hfk ih hb1 hw1 hQ;go_enter Tryz.func15,Tryz.ntmps15;go_upto_region 2 with(go_at_call 12;refine(next25_any sb 12 w1 HS1.2 om0 om0).mono ?_;rintro e w2⟨⟨r,rfl,hr0,hr12⟩,hs2⟩;obtain⟨k0,rfl⟩:=nat_of hr0;have HS2:=hqz9 (HS1.out.trans hs2);have HT1:=hqz9 (hs2.row HR1 om0);have HT2:=hqz9 (hs2.row HR2 om0);clear hs2 hr0)
 rename_i K1 hK1 K2 hK2;have h4:∀(k:Nat) (x19 x20 x21 x22:Value),k<12→(d=0→k<4)→K1 {tmps:= #[.agg #[.slice va NV vc, .slice aa NA ac, .slice fa NF fc, .bool fr, .bool loop], .pointer (some ⟨sb,0,none⟩),I ((d:Int)+1), .pointer (some ⟨W.heap.size,0,none⟩),undef,undef, .pointer (some ⟨W.heap.size+1,0,none⟩),I k,undef,undef,undef,undef,undef,undef,undef,undef,undef, .pointer (some ⟨sb,0,none⟩),I k0,x19,x20,x21,x22,undef,undef,undef,undef,undef,undef,undef,undef,undef,undef,undef,undef,undef,undef,undef,undef,undef,undef,undef,undef,undef,undef,undef,undef,undef,undef,undef,undef,undef,undef,undef,undef,undef,undef,undef,undef,undef,undef,undef,undef,undef,undef,undef,undef,undef,undef,undef,undef,undef,undef,undef,undef,undef,undef,undef,undef,undef,undef,undef,undef,undef,undef,undef,undef,undef,undef,undef,undef,undef,undef,undef,undef,undef,undef,undef,undef,undef,undef,undef,undef,undef,undef,undef,undef,undef,undef,undef,undef,undef,undef,undef,undef,undef,undef,undef,undef,undef,undef,undef,undef,undef,undef,undef,undef,undef,undef,undef,undef,undef,undef,undef,undef,undef,undef,undef,undef,undef,undef,undef,undef,undef,undef,undef,undef,undef,undef,undef,undef],defers:= []} w2:=by
  intro k x19 x20 x21 x22 hk12 hkd;refine hK1 _ _ ?_;clear hK1 hK2 K1 K2;have HKD:=hqz9 hkd;clear hkd;have c0:=HT1.k0;have c1:=HT1.k1;have c2:=HT1.k2;have c3:=HT1.k3;go_upto_region 4 with(fail)
  rename_i K4 hK4;have h5:∀(bv:Bool) (x23 x24 x25 x26 x27 x28 x29 x30:Value),(bv=true→fr=true∨0<NV)→K4 {tmps:= #[.agg #[.slice va NV vc, .slice aa NA ac, .slice fa NF fc, .bool fr, .bool loop], .pointer (some ⟨sb,0,none⟩),I ((d:Int)+1), .pointer (some ⟨W.heap.size,0,none⟩),undef,undef, .pointer (some ⟨W.heap.size+1,0,none⟩),I k, .bool bv,undef,undef,undef,undef,undef,undef,undef,undef, .pointer (some ⟨sb,0,none⟩),I k0,x19,x20,x21,x22,x23,x24,x25,x26,x27,x28,x29,x30,undef,undef,undef,undef,undef,undef,undef,undef,undef,undef,undef,undef,undef,undef,undef,undef,undef,undef,undef,undef,undef,undef,undef,undef,undef,undef,undef,undef,undef,undef,undef,undef,undef,undef,undef,undef,undef,undef,undef,undef,undef,undef,undef,undef,undef,undef,undef,undef,undef,undef,undef,undef,undef,undef,undef,undef,undef,undef,undef,undef,undef,undef,undef,undef,undef,undef,undef,undef,undef,undef,undef,undef,undef,undef,undef,undef,undef,undef,undef,undef,undef,undef,undef,undef,undef,undef,undef,undef,undef,undef,undef,undef,undef,undef,undef,undef,undef,undef,undef,undef,undef,undef,undef,undef,undef,undef,undef,undef,undef,undef,undef,undef,undef,undef,undef,undef,undef,undef,undef,undef],defers:= []} w2:=by
   intro bv x23 x24 x25 x26 x27 x28 x29 x30 hbv;refine hK4 _ _ ?_;clear hK4 K4;have HBV:=hqz9 hbv;clear hbv;go_upto_region 5 with(fail)
   rename_i K5 hK5;have h6:∀(ba:Bool) (x31 x32 x33 x34 x35 x36 x37 x38:Value),(ba=true→fr=true∨0<NA)→K5 {tmps:= #[.agg #[.slice va NV vc, .slice aa NA ac, .slice fa NF fc, .bool fr, .bool loop], .pointer (some ⟨sb,0,none⟩),I ((d:Int)+1), .pointer (some ⟨W.heap.size,0,none⟩),undef,undef, .pointer (some ⟨W.heap.size+1,0,none⟩),I k, .bool bv, .bool ba,undef,undef,undef,undef,undef,undef,undef, .pointer (some ⟨sb,0,none⟩),I k0,x19,x20,x21,x22,x23,x24,x25,x26,x27,x28,x29,x30,x31,x32,x33,x34,x35,x36,x37,x38,undef,undef,undef,undef,undef,undef,undef,undef,undef,undef,undef,undef,undef,undef,undef,undef,undef,undef,undef,undef,undef,undef,undef,undef,undef,undef,undef,undef,undef,undef,undef,undef,undef,undef,undef,undef,undef,undef,undef,undef,undef,undef,undef,undef,undef,undef,undef,undef,undef,undef,undef,undef,undef,undef,undef,undef,undef,undef,undef,undef,undef,undef,undef,undef,undef,undef,undef,undef,undef,undef,undef,undef,undef,undef,undef,undef,undef,undef,undef,undef,undef,undef,undef,undef,undef,undef,undef,undef,undef,undef,undef,undef,undef,undef,undef,undef,undef,undef,undef,undef,undef,undef,undef,undef,undef,undef,undef,undef,undef,undef,undef,undef],defers:= []} w2:=by
    intro ba x31 x32 x33 x34 x35 x36 x37 x38 hba;refine hK5 _ _ ?_;clear hK5 K5;have HBA:=hqz9 hba;clear hba;go_upto_region 6 with(fail)
    rename_i K6 hK6;have h7:∀(bf:Bool) (x39 x40 x41 x42 x43 x44 x45 x46:Value),(bf=true→fr=true∨0<NF)→K6 {tmps:= #[.agg #[.slice va NV vc, .slice aa NA ac, .slice fa NF fc, .bool fr, .bool loop], .pointer (some ⟨sb,0,none⟩),I ((d:Int)+1), .pointer (some ⟨W.heap.size,0,none⟩),undef,undef, .pointer (some ⟨W.heap.size+1,0,none⟩),I k, .bool bv, .bool ba, .bool bf,undef,undef,undef,undef,undef,undef, .pointer (some ⟨sb,0,none⟩),I k0,x19,x20,x21,x22,x23,x24,x25,x26,x27,x28,x29,x30,x31,x32,x33,x34,x35,x36,x37,x38,x39,x40,x41,x42,x43,x44,x45,x46,undef,undef,undef,undef,undef,undef,undef,undef,undef,undef,undef,undef,undef,undef,undef,undef,undef,undef,undef,undef,undef,undef,undef,undef,undef,undef,undef,undef,undef,undef,undef,undef,undef,undef,undef,undef,undef,undef,undef,undef,undef,undef,undef,undef,undef,undef,undef,undef,undef,undef,undef,undef,undef,undef,undef,undef,undef,undef,undef,undef,undef,undef,undef,undef,undef,undef,undef,undef,undef,undef,undef,undef,undef,undef,undef,undef,undef,undef,undef,undef,undef,undef,undef,undef,undef,undef,undef,undef,undef,undef,undef,undef,undef,undef,undef,undef,undef,undef,undef,undef,undef,undef,undef,undef],defers:= []} w2:=by
     intro bf x39 x40 x41 x42 x43 x44 x45 x46 hbf;refine hK6 _ _ ?_;clear hK6 K6 c0 c1 c2 c3;have HBF:=hqz9 hbf;clear hbf;go_upto_region 7 with(fail)
     rename_i KT hKT KS hKS KC hKC;have hCALL:1≤d→∀wz:World,SG sb W wz→Calls Tryz.prog 15 #[.agg #[.slice va NV vc, .slice aa NA ac, .slice fa NF fc, .bool fr, .bool loop], .pointer (some ⟨sb,0,none⟩),I d] wz (DrR c d sb wz):=by
      intro h1 wz hsg;rw[HFR.out];exact HIH h1 sb wz _ _ _ loop (HSC.kept hsg.1 (fun r e=>by cases e;rfl)) hsg.2
     have HCALL:=hqz9 hCALL;clear hCALL;have tail:∀(x47 x48 x49 x50 x51 x52 x53 x54 x55 x56 x57 x58 x59 x60 x61 x62 x63 x64 x65 x66 x67 x68 x69 x70 x71 x72 x73 x74 x75 x76 x77 x78 x79 x80 x81 x82 x83 x84 x85 x86 x87 x88 x89 x90 x91 x92 x93 x94 x95 x96 x97 x98 x99 x100 x101 x102 x103 x104 x105 x106 x107 x108 x109 x110 x111 x112 x113 x114 x115 x116 x117 x118 x119 x120 x121 x122 x123 x124 x125 x126 x127 x128:Value) (wz:World),1≤d→SG sb W wz→Row wz W 48 [.slice va NV vc, .slice aa NA ac, .slice fa NF fc, .bool fr, .bool loop]→Row wz (W.heap.size+1) 57 [I 0,I 0,I 0,S [], .slice none 0 0]→KT {tmps:= #[.agg #[.slice va NV vc, .slice aa NA ac, .slice fa NF fc, .bool fr, .bool loop], .pointer (some ⟨sb,0,none⟩),I ((d:Int)+1), .pointer (some ⟨W.heap.size,0,none⟩),undef,undef, .pointer (some ⟨W.heap.size+1,0,none⟩),I k, .bool bv, .bool ba, .bool bf,undef,undef,undef,undef,undef,undef, .pointer (some ⟨sb,0,none⟩),I k0,x19,x20,x21,x22,x23,x24,x25,x26,x27,x28,x29,x30,x31,x32,x33,x34,x35,x36,x37,x38,x39,x40,x41,x42,x43,x44,x45,x46,x47,x48,x49,x50,x51,x52,x53,x54,x55,x56,x57,x58,x59,x60,x61,x62,x63,x64,x65,x66,x67,x68,x69,x70,x71,x72,x73,x74,x75,x76,x77,x78,x79,x80,x81,x82,x83,x84,x85,x86,x87,x88,x89,x90,x91,x92,x93,x94,x95,x96,x97,x98,x99,x100,x101,x102,x103,x104,x105,x106,x107,x108,x109,x110,x111,x112,x113,x114,x115,x116,x117,x118,x119,x120,x121,x122,x123,x124,x125,x126,x127,x128,undef,undef,undef,undef,undef,undef,undef,undef,undef,undef,undef,undef,undef,undef,undef,undef,undef,undef,undef,undef,undef,undef],defers:= []} wz:=by
      (iterate 82 intro);intro wz hd1 hsg q1 q2
      refine hKT _ _ ?_;clear hKT hKS hKC KT KS KC;have HSG:=hqz9 hsg;have HQ1:=hqz9 q1;have HQ2:=hqz9 q2;clear hsg q1 q2;go_upto_region 24 with(go_at_call 12;refine(next25_any sb 16 _ HSG.2 om0 om0).mono ?_;rintro e w3⟨⟨r_,rfl,hr0_,n3l⟩,hs_⟩;obtain⟨n3,rfl⟩:=nat_of hr0_;have HS3:=hqz9 (HSG.out.trans hs_);have HU1:=hqz9 (hs_.row HQ1 om0);have HU2:=hqz9 (hs_.row HQ2 om0);clear hs_ hr0_)
      have c0:=HU1.k0;have c1:=HU1.k1;have c2:=HU1.k2;have c3:=HU1.k3;have c4:=HU1.k4;go_upto_region 25 with(first|(go_at_call 15;refine(HCALL hd1 w3 HS3).mono ?_;rintro e w4⟨e1,av_,rfl,hd_,hx_,hs_⟩;obtain⟨ae1,ce1,rfl⟩:=hx_.slice;have HS4:=hqz9 (HS3.out.trans hs_);have HDR1:=hqz9 hd_;have HX1:=hqz9 (EX.weak (B':=(W.heap.size+2≤·)) hx_ (fun b hb=>Nat.le_trans (Nat.succ_le_of_lt HU2.lt) hb));have HV1:=hqz9 (hs_.row HU1 om0);have HV2:=hqz9 (hs_.row HU2 om0);clear hd_ hx_ hs_ c0 c1 c2 c3 c4)|(refine sr 57 (.tmp 15) (.tmp 140) w4 eZ hn0 ?_))
      obtain⟨w5,hw5⟩:∃w5,w5=(w4.alloc (.cells eZ 57)).setRow w4 #[I e1.kind,I e1.op,I e1.n,S e1.name, .slice ae1 e1.args.length ce1]:=⟨_,rfl⟩;have⟨b1,hb1⟩:=xq w4.heap.size;have hge5:(w4.alloc (.cells eZ 57)).grownBy w5 (some b1):=by rw[hw5,hb1];exact setRow_grown
      have hgo5:w4.grownBy (w4.alloc (.cells eZ 57)) none:=alloc_grown _ _ none;have hnr5:Row w5 b1 57 (eRow e1 (.slice ae1 e1.args.length ce1)):=by rw[hw5,hb1];exact setRow_heap _ _ _ _ _ _ hn0
      have hsg5:SG sb W w5:=(HS4.post hgo5 hsl nx0).post hge5 hsl (fun r e=>by cases e;rw[hb1];exact HS4.size);have hbb5:W.heap.size+2≤b1:=by rw[hb1];exact Nat.succ_le_of_lt HV2.lt
      rw[←hw5,←hb1];have HW2:=hqz9 (Row.kept (Row.kept HV2 hgo5 sm0) hge5 (by have:=HV2.lt;simp;omega));have HW1:=hqz9 (Row.kept (Row.kept HV1 hgo5 sm0) hge5 (by have:=HV1.lt;simp;omega));have HNR1:=hqz9 hnr5;have HSG5:=hqz9 hsg5;have HBB1:=hqz9 hbb5;have HX15:=hqz9 (EX.grown (EX.alloc (EX.size HX1) (o:= .cells eZ 57)) hge5 sy0);clear hw5 hb1 hge5 hgo5 hnr5 hsg5 hbb5;have c0:=HW1.k0;have c1:=HW1.k1;have c2:=HW1.k2;have c3:=HW1.k3;have c4:=HW1.k4;go_upto_region 26 with(first|(go_at_call 15;refine(HCALL hd1 w5 HSG5).mono ?_;rintro e w6⟨e2,av_,rfl,hd_,hx_,hs_⟩;obtain⟨ae2,ce2,rfl⟩:=hx_.slice;have HS6:=hqz9 (HSG5.out.trans hs_);have HDR2:=hqz9 hd_;have HX2:=hqz9 (EX.weak (B':=(W.heap.size+2≤·)) hx_ (fun b hb=>Nat.le_trans (Nat.succ_le_of_lt HW2.lt) hb));have HY1:=hqz9 (hs_.row HW1 om0);have HY3:=hqz9 (hs_.row HNR1 (oq0 HBB1));have HY2:=hqz9 (hs_.row HW2 om0);have HX16:=hqz9 (EX.grown HX15 hs_.1 sy0);clear hd_ hx_ hs_ c0 c1 c2 c3 c4)|(refine sr 57 (.tmp 16) (.tmp 145) w6 eZ hn0 ?_))
      obtain⟨w7,hw7⟩:∃w7,w7=(w6.alloc (.cells eZ 57)).setRow w6 #[I e2.kind,I e2.op,I e2.n,S e2.name, .slice ae2 e2.args.length ce2]:=⟨_,rfl⟩;have⟨b2,hb2⟩:=xq w6.heap.size;have hge7:(w6.alloc (.cells eZ 57)).grownBy w7 (some b2):=by rw[hw7,hb2];exact setRow_grown
      have hgo7:w6.grownBy (w6.alloc (.cells eZ 57)) none:=alloc_grown _ _ none;have hnr7:Row w7 b2 57 (eRow e2 (.slice ae2 e2.args.length ce2)):=by rw[hw7,hb2];exact setRow_heap _ _ _ _ _ _ hn0
      have hsg7:SG sb W w7:=(HS6.post hgo7 hsl nx0).post hge7 hsl (fun r e=>by cases e;rw[hb2];exact HS6.size);have hbb7:W.heap.size+2≤b2:=by rw[hb2];exact Nat.succ_le_of_lt HY2.lt
      rw[←hw7,←hb2];have HZ2:=hqz9 (Row.kept (Row.kept HY2 hgo7 sm0) hge7 (by have:=HY2.lt;simp;omega));have HZ3:=hqz9 (Row.kept (Row.kept HY3 hgo7 sm0) hge7 (by have:=HY3.lt;simp;omega));have HNR2:=hqz9 hnr7;have HSG7:=hqz9 hsg7;have HBB2:=hqz9 hbb7;have HX17:=hqz9 (EX.grown (EX.alloc (EX.size HX16) (o:= .cells eZ 57)) hge7 sy0);have HX27:=hqz9 (EX.grown (EX.alloc (EX.size HX2) (o:= .cells eZ 57)) hge7 sy0);clear hw7 hb2 hge7 hgo7 hnr7 hsg7 hbb7;have a0:=HZ3.cell 0;have a1:=HZ3.cell 1;have a2:=HZ3.cell 2;have a3:=HZ3.cell 3;have a4:=HZ3.cell 4;have d0:=HNR2.cell 0;have d1:=HNR2.cell 1;have d2:=HNR2.cell 2;have d3:=HNR2.cell 3;have d4:=HNR2.cell 4;simp only[eRow,List.getElem?_cons_zero,List.getElem?_cons_succ]at a0 a1 a2 a3 a4 d0 d1 d2 d3 d4;go_wp2_with (refine sr 57 (.tmp 6) (.tmp 150) (W.heap.size+1) #[I 0,I 0,I 0,S [], .slice none 0 0] (ho0 HZ2.out) ?_)
      refine bodyPost_ret (results_cell_row rfl _ _ (W.heap.size+1) 57 _ (0,0) _ rfl (setRow_heap _ _ _ _ _ _ (ho0 HZ2.out)) Tryz.underlying57 rfl kr0) rfl ?_;rw[HQ.out];exact⟨.mk 4 (1+n3) 0 [] [e1,e2], .slice (some ⟨w7.heap.size,0,none⟩) 2 2,rfl,⟨.inr (.inr (.inr (.inl ⟨rfl,(by show(1:Int)≤1+n3∧(1:Int)+n3≤16;omega),rfl,rfl,rfl⟩))),fun x hx=>(by rcases List.mem_cons.1 (show x∈ [e1,e2]from hx)with rfl|hx;exact HDR1.out;obtain rfl:=List.mem_singleton.1 hx;exact HDR2.out)⟩,EArgs.mono (base:=W.heap.size+2) (EArgs.two rfl (oh0 HZ2.lt) ((show Row _ _ _ _ from heap_new _ _).kept setRow_grown (by simp;have:=HZ2.lt;omega)) (EX.grown (EX.alloc (EX.weak HX17 (fun b hb=>hb.1.1))) setRow_grown sx0) (EX.grown (EX.alloc (EX.weak HX27 (fun b hb=>hb.1))) setRow_grown sx0)) om0,(HSG7.post ag0 hsl nx0).post setRow_grown hsl sx0⟩
     have HTAIL:=hqz9 tail;clear hKT tail;have sel:∀(b47:Bool) (x48 x49 x50 x51 x52 x53 x54 x55 x56 x57:Value),(b47=true→fr=true∨0<NV)→KS {tmps:= #[.agg #[.slice va NV vc, .slice aa NA ac, .slice fa NF fc, .bool fr, .bool loop], .pointer (some ⟨sb,0,none⟩),I ((d:Int)+1), .pointer (some ⟨W.heap.size,0,none⟩),undef,undef, .pointer (some ⟨W.heap.size+1,0,none⟩),I k, .bool bv, .bool ba, .bool bf,undef,undef,undef,undef,undef,undef, .pointer (some ⟨sb,0,none⟩),I k0,x19,x20,x21,x22,x23,x24,x25,x26,x27,x28,x29,x30,x31,x32,x33,x34,x35,x36,x37,x38,x39,x40,x41,x42,x43,x44,x45,x46, .bool b47,x48,x49,x50,x51,x52,x53,x54,x55,x56,x57,undef,undef,undef,undef,undef,undef,undef,undef,undef,undef,undef,undef,undef,undef,undef,undef,undef,undef,undef,undef,undef,undef,undef,undef,undef,undef,undef,undef,undef,undef,undef,undef,undef,undef,undef,undef,undef,undef,undef,undef,undef,undef,undef,undef,undef,undef,undef,undef,undef,undef,undef,undef,undef,undef,undef,undef,undef,undef,undef,undef,undef,undef,undef,undef,undef,undef,undef,undef,undef,undef,undef,undef,undef,undef,undef,undef,undef,undef,undef,undef,undef,undef,undef,undef,undef,undef,undef,undef,undef,undef,undef,undef,undef],defers:= []} w2:=by
      intro b47 x48 x49 x50 x51 x52 x53 x54 x55 x56 x57 hb47;refine hKS _ _ ?_;clear hKS hKC KS KC;have HB47:=hqz9 hb47;clear hb47;cases b47 with
      |true=>
       have hvn:fr=true∨vl≠ []:=(HB47 (by first|trivial|rfl)).imp id fun h=>List.length_pos_iff.1 (by rw[←HNV.out];exact h);have HVC:=hqz9 (name45_any fr loop sb w2 (.slice va NV vc) (.slice aa NA ac) (.slice fa NF fc) (.slice va NV vc) vl HS2.2 (HVL.grown HS2.1 (fun r e=>by cases e;simp) i20) hvn);clear hvn;have c0:=HT1.k0;have c1:=HT1.k1;have c2:=HT1.k2;have c3:=HT1.k3;have c4:=HT1.k4;go_wp2_with (first|(go_at_call 33;refine HVC.mono ?_;rintro e w3⟨⟨x,rfl,hx⟩,hs3⟩;have HS3:=hqz9 (HS2.out.trans hs3);have HX:=hqz9 hx;have HU2:=hqz9 (hs3.row HT2 om0);clear hs3 hx)|(refine sr 57 (.tmp 6) (.tmp 63) (W.heap.size+1) #[I 0,I 0,I 0,S [], .slice none 0 0] HU2.out ?_))
       have hok:c.okV x:=by
        cases hfr:fr with
        |true=>exact(HSC.any (HFR.out.symm.trans hfr)).1 x (HX.2 hfr)
        |false=>exact HVK hfr x (HX.1 hfr)
       refine bodyPost_ret (results_cell_row rfl _ _ (W.heap.size+1) 57 _ (0,0) _ rfl (setRow_heap _ _ _ _ _ _ HU2.out) Tryz.underlying57 rfl kr0) rfl ?_;rw[HQ.out];exact⟨.mk 2 0 0 x [], .slice none 0 0,rfl,⟨.inr (.inl ⟨rfl,hok,rfl,rfl,rfl⟩),nx0⟩,EArgs.nil rfl,(HS3.out).post setRow_grown hsl sx0⟩
      |false=>
       go_upto_region 10 with(fail)
       rename_i KR hKR;have rd:∀(b64:Bool) (x65 x66 x67 x68 x69 x70 x71:Value) (wz:World),SG sb W wz→Row wz W 48 [.slice va NV vc, .slice aa NA ac, .slice fa NF fc, .bool fr, .bool loop]→Row wz (W.heap.size+1) 57 [I 0,I 0,I 0,S [], .slice none 0 0]→KR {tmps:= #[.agg #[.slice va NV vc, .slice aa NA ac, .slice fa NF fc, .bool fr, .bool loop], .pointer (some ⟨sb,0,none⟩),I ((d:Int)+1), .pointer (some ⟨W.heap.size,0,none⟩),undef,undef, .pointer (some ⟨W.heap.size+1,0,none⟩),I k, .bool bv, .bool ba, .bool bf,undef,undef,undef,undef,undef,undef, .pointer (some ⟨sb,0,none⟩),I k0,x19,x20,x21,x22,x23,x24,x25,x26,x27,x28,x29,x30,x31,x32,x33,x34,x35,x36,x37,x38,x39,x40,x41,x42,x43,x44,x45,x46, .bool false,x48,x49,x50,x51,x52,x53,x54,x55,x56,x57,undef,undef,undef,undef,undef,undef, .bool b64,x65,x66,x67,x68,x69,x70,x71,undef,undef,undef,undef,undef,undef,undef,undef,undef,undef,undef,undef,undef,undef,undef,undef,undef,undef,undef,undef,undef,undef,undef,undef,undef,undef,undef,undef,undef,undef,undef,undef,undef,undef,undef,undef,undef,undef,undef,undef,undef,undef,undef,undef,undef,undef,undef,undef,undef,undef,undef,undef,undef,undef,undef,undef,undef,undef,undef,undef,undef,undef,undef,undef,undef,undef,undef,undef,undef,undef,undef,undef,undef,undef,undef,undef,undef,undef,undef],defers:= []} wz:=by
        intro b64 x65 x66 x67 x68 x69 x70 x71 wz hsg q1 q2;refine hKR _ _ ?_;clear hKR KR;have HSG:=hqz9 hsg;have HQ1:=hqz9 q1;have HQ2:=hqz9 q2;clear hsg q1 q2;cases b64 with
        |true=>
         go_wp2_with (refine sr 57 (.tmp 6) (.tmp 72) (W.heap.size+1) #[I 0,I 0,I 0,S [], .slice none 0 0] HQ2.out ?_)
         refine bodyPost_ret (results_cell_row rfl _ _ (W.heap.size+1) 57 _ (0,0) _ rfl (setRow_heap _ _ _ _ _ _ HQ2.out) Tryz.underlying57 rfl kr0) rfl ?_;rw[HQ.out];exact⟨.mk 7 0 0 [] [], .slice none 0 0,rfl,⟨.inr (.inr (.inr (.inr (.inr (.inr ⟨rfl,rfl,rfl,rfl,rfl⟩))))),nx0⟩,EArgs.nil rfl,(HSG.out).post setRow_grown hsl sx0⟩
        |false=>
         by_cases hk4:k<4
         ·have hz4:(k:Int)<4:=om0;clear hk4;go_upto_region 14 with(go_at_call 12;refine(next25_any sb 1000 _ HSG.2 om0 om0).mono ?_;rintro e w5⟨⟨r5,rfl,hr50,hr51⟩,hs5⟩;obtain⟨n5,rfl⟩:=nat_of hr50;have HS5:=hqz9 (HSG.out.trans hs5);have HV2:=hqz9 (hs5.row HQ2 om0);clear hs5 hr50)
          obtain⟨m,hm⟩:∃m:Nat,(n5:Int).tmod 63=m:=⟨((n5:Int).tmod 63).toNat,by rw[Int.tmod_eq_emod_of_nonneg om0];omega⟩;have hm63:m<63:=by rw[Int.tmod_eq_emod_of_nonneg om0]at hm;omega
          have hwm:IntKind.i64.wrap (m:Int)=m:=IntWalk.i64_in _ om0;obtain⟨q,hq⟩:∃q:Nat,IntKind.i64.wrap ((n5:Int)*n5)=q:=by
           have h1:(n5:Int)*n5<1000000:=by
            have:(n5:Int)*n5≤999*999:=Int.mul_le_mul om0 om0 om0 om0;omega
           have h0:(0:Int)≤(n5:Int)*n5:=Int.mul_nonneg om0 om0;exact⟨((n5:Int)*n5).toNat,by rw[IntWalk.i64_in _ om0];omega⟩
          refine wp_region_ordT kr0 (fun _=>True) OT.n14 kr0 t20 ?_;intro wd hh hgd hS;have HSD:=hqz9 (HS5.post hgd hsl nx0);have HD2:=kp0 HV2 hgd;clear hh hgd;refine lkT ?_;have⟨s,hs⟩:=xq (wrap64 ((2:Int)^m));have hs0:0≤s:=by rw[hs];exact shl_nn m hm63
          have HSE:=hqz9 hs;have HNA:=hqz9 (fun r (hr:r<8)=>nums_at n5 q s hs0 hr);clear hs hs0 hm hq hm63 hwm;have fin:∀(y:Int) (wf:World),0≤y→SG sb W wf→Q (.returned (eV (.mk 1 0 y [] []) (.slice none 0 0))) (wf.setRow (W.heap.size+1) #[I 1,I 0,I y,S [], .slice none 0 0]):=by
           intro y wf hy hsf;rw[HQ.out];exact⟨.mk 1 0 y [] [], .slice none 0 0,rfl,⟨.inl ⟨rfl,hy,rfl,rfl,rfl⟩,nx0⟩,EArgs.nil rfl,hsf.post setRow_grown hsl sx0⟩
          have HFIN:=hqz9 fin;clear fin;refine wpOrdT_two rfl rfl ?_ ?_
          ·go_wp2;rw[←HSE.out];have⟨wa,hwa⟩:=xq (wd.alloc (.cells #[I 0,I 1,I 2,I 3,I n5,I q,I s,I 9223372036854775807] 3));have hga:=aG0 hwa
           have HRA:=hqz9 (aN0 hwa);rw[←hwa];have HSA:=hqz9 (HSD.post hga hsl nx0);have HA2:=kp0 HD2 hga;have hzs:W.heap.size≤wd.heap.size:=HSD.size;clear hwa hga;refine QNT_keep trivial fun _=> ?_;refine wpOrdT_turn rfl ?_;go_wp2_with (go_at_call 12;refine(next25_any sb 8 wa HSA.2 om0 om0).mono ?_;rintro e w6⟨⟨r_,rfl,hr0_,hr8⟩,hs_⟩;obtain⟨r8,rfl⟩:=nat_of hr0_;have HS6:=hqz9 (HSA.out.trans hs_);have HB2:=hqz9 (hs_.row HA2 om0);have HRB:=hqz9 (hs_.row HRA om0);clear hs_ hr0_)
           have hr8n:r8<8:=om0;obtain⟨y,hy,hy0⟩:=HNA r8 hr8n;have hcy:=(HRB.cell r8).trans hy;refine QNT_keep trivial fun _=> ?_;clear hy;refine lkT ?_;refine wpOrdT_turn rfl ?_;go_wp2;refine QNT_keep trivial fun _=> ?_
           refine lkT ?_;refine wpOrdT_last rfl ?_;refine store_first 57 (.tmp 6) (.tmp 90) rfl ?_;refine wpList_store_row rfl 57 (.tmp 6) (.tmp 90) rfl (W.heap.size+1) _ rfl rfl 57 #[I 0,I 0,I 0,S [], .slice none 0 0] HB2.out kr0 rf0 sv0 ?_;go_wp2;refine QN_normal (wpOrdT_nil ?_);go_wp2;refine bodyPost_ret (results_cell_row rfl _ _ (W.heap.size+1) 57 _ (0,0) _ rfl (setRow_heap _ _ _ _ _ _ HB2.out) Tryz.underlying57 rfl kr0) rfl ?_;exact HFIN y w6 hy0 HS6
          ·go_wp2_with (go_at_call 12;refine(next25_any sb 8 wd HSD.2 om0 om0).mono ?_;rintro e w6⟨⟨r_,rfl,hr0_,hr8⟩,hs_⟩;obtain⟨r8,rfl⟩:=nat_of hr0_;have HS6:=hqz9 (HSD.out.trans hs_);have HB2:=hqz9 (hs_.row HD2 om0);clear hs_ hr0_)
           refine QNT_keep trivial fun _=> ?_;refine wpOrdT_turn rfl ?_;go_wp2;rw[←HSE.out];have⟨wa,hwa⟩:=xq (w6.alloc (.cells #[I 0,I 1,I 2,I 3,I n5,I q,I s,I 9223372036854775807] 3));have hga:=aG0 hwa
           have hra:=aN0 hwa;rw[←hwa];have HSA:=hqz9 (HS6.post hga hsl nx0);have HA2:=kp0 HB2 hga;have hr8n:r8<8:=om0;obtain⟨y,hy,hy0⟩:=HNA r8 hr8n;have hcy:=(hra.cell r8).trans hy;clear hwa hga hra hy;refine QNT_keep trivial fun _=> ?_;refine lkT ?_;refine wpOrdT_turn rfl ?_;go_wp2;refine QNT_keep trivial fun _=> ?_
           refine lkT ?_;refine wpOrdT_last rfl ?_;refine store_first 57 (.tmp 6) (.tmp 90) rfl ?_;refine wpList_store_row rfl 57 (.tmp 6) (.tmp 90) rfl (W.heap.size+1) _ rfl rfl 57 #[I 0,I 0,I 0,S [], .slice none 0 0] HA2.out kr0 rf0 sv0 ?_;go_wp2;refine QN_normal (wpOrdT_nil ?_);go_wp2;refine bodyPost_ret (results_cell_row rfl _ _ (W.heap.size+1) 57 _ (0,0) _ rfl (setRow_heap _ _ _ _ _ _ HA2.out) Tryz.underlying57 rfl kr0) rfl ?_;exact HFIN y wa hy0 HSA
         have hd1:1≤d:=by
          rcases Nat.eq_zero_or_pos d with h|h
          ·have:=HKD h;omega
          ·exact h
         have hz4: ¬(k:Int)<4:=om0;have HD1:=hqz9 hd1;clear hd1;by_cases hk5:k=4
         ·subst hk5;go_wp2_with (first|(go_at_call 12;refine(next25_any sb 3 _ HSG.2 om0 om0).mono ?_;rintro e w3⟨⟨r_,rfl,hr0_,n3l⟩,hs_⟩;obtain⟨n3,rfl⟩:=nat_of hr0_;have HS3:=hqz9 (HSG.out.trans hs_);have HU1:=hqz9 (hs_.row HQ1 om0);have HU2:=hqz9 (hs_.row HQ2 om0);clear hs_ hr0_;have c0:=HU1.k0;have c1:=HU1.k1;have c2:=HU1.k2;have c3:=HU1.k3;have c4:=HU1.k4)|(go_at_call 15;refine(HCALL HD1 w3 HS3).mono ?_;rintro e w4⟨e1,av_,rfl,hd_,hx_,hs_⟩;obtain⟨ae1,ce1,rfl⟩:=hx_.slice;have HS4:=hqz9 (HS3.out.trans hs_);have HDR:=hqz9 hd_;have HX1:=hqz9 (EX.weak (B':=(W.heap.size+2≤·)) hx_ (fun b hb=>Nat.le_trans (Nat.succ_le_of_lt HU2.lt) hb));have HV2:=hqz9 (hs_.row HU2 om0);clear hd_ hx_ hs_ c0 c1 c2 c3 c4)|(refine sr 57 (.tmp 6) (.tmp 104) (W.heap.size+1) #[I 0,I 0,I 0,S [], .slice none 0 0] (ho0 HV2.out) ?_))
          refine bodyPost_ret (results_cell_row rfl _ _ (W.heap.size+1) 57 _ (0,0) _ rfl (setRow_heap _ _ _ _ _ _ (ho0 HV2.out)) Tryz.underlying57 rfl kr0) rfl ?_;rw[HQ.out];exact⟨.mk 3 (17+n3) 0 [] [e1], .slice (some ⟨w4.heap.size,0,none⟩) 1 1,rfl,⟨.inr (.inr (.inl ⟨rfl,(by show(17:Int)+n3=17∨(17:Int)+n3=18∨(17:Int)+n3=19;omega),rfl,rfl,rfl⟩)),fun x hx=>by obtain rfl:=List.mem_singleton.1 (show x∈ [e1]from hx);exact HDR.out⟩,EArgs.mono (base:=W.heap.size+2) (EArgs.one rfl (oh0 HV2.lt) ((show Row _ _ _ _ from heap_new _ _).kept setRow_grown (by simp;have:=HV2.lt;omega)) (EX.grown (EX.alloc HX1) setRow_grown sx0)) om0,(HS4.post ag0 hsl nx0).post setRow_grown hsl sx0⟩
         have hz5: ¬(k:Int)=4:=om0
         by_cases hk6:k=5
         ·subst hk6;cases ba with
          |true=>
           have han:fr=true∨al≠ []:=(HBA (by first|trivial|rfl)).imp id fun h=>List.length_pos_iff.1 (by rw[←HNA.out];exact h);have HAR:=hqz9 (array29_any fr loop sb wz (.slice va NV vc) (.slice aa NA ac) (.slice fa NF fc) al HSG.2 (HAL.grown HSG.1 (fun r e=>by cases e;simp) i20) han);clear han;have c0:=HQ1.k0;have c1:=HQ1.k1;have c2:=HQ1.k2;have c3:=HQ1.k3;have c4:=HQ1.k4;have hf68:=arr_f0;go_wp2_with (first|(go_at_call 16;refine HAR.mono ?_;rintro e w3⟨⟨x,n,rfl,hx⟩,hs_⟩;have HS3:=hqz9 (HSG.out.trans hs_);have HX:=hqz9 hx;have HU1:=hqz9 (hs_.row HQ1 om0);have HU2:=hqz9 (hs_.row HQ2 om0);clear hx hs_ c0 c1 c2 c3 c4;have c0:=HU1.k0;have c1:=HU1.k1;have c2:=HU1.k2;have c3:=HU1.k3;have c4:=HU1.k4)|(go_at_call 15;refine(HCALL HD1 w3 HS3).mono ?_;rintro e w4⟨e1,av_,rfl,hd_,hx_,hs_⟩;obtain⟨ae1,ce1,rfl⟩:=hx_.slice;have HS4:=hqz9 (HS3.out.trans hs_);have HDR:=hqz9 hd_;have HX1:=hqz9 (EX.weak (B':=(W.heap.size+2≤·)) hx_ (fun b hb=>Nat.le_trans (Nat.succ_le_of_lt HU2.lt) hb));have HV2:=hqz9 (hs_.row HU2 om0);clear hd_ hx_ hs_ c0 c1 c2 c3 c4)|(refine sr 57 (.tmp 6) (.tmp 122) (W.heap.size+1) #[I 0,I 0,I 0,S [], .slice none 0 0] (ho0 HV2.out) ?_))
           have hok:c.okA x:=by
            cases hfr:fr with
            |true=>exact(HSC.any (HFR.out.symm.trans hfr)).2.1 x (HX.2 hfr)
            |false=>
             obtain⟨a,ha,rfl⟩:=HX.1 hfr;exact HAK hfr a ha
           refine bodyPost_ret (results_cell_row rfl _ _ (W.heap.size+1) 57 _ (0,0) _ rfl (setRow_heap _ _ _ _ _ _ (ho0 HV2.out)) Tryz.underlying57 rfl kr0) rfl ?_;rw[HQ.out];exact⟨.mk 6 0 0 x [e1], .slice (some ⟨w4.heap.size,0,none⟩) 1 1,rfl,⟨.inr (.inr (.inr (.inr (.inr (.inl ⟨rfl,hok,rfl,rfl,rfl⟩))))),fun x hx=>by obtain rfl:=List.mem_singleton.1 (show x∈ [e1]from hx);exact HDR.out⟩,EArgs.mono (base:=W.heap.size+2) (EArgs.one rfl (oh0 HV2.lt) ((show Row _ _ _ _ from heap_new _ _).kept setRow_grown (by simp;have:=HV2.lt;omega)) (EX.grown (EX.alloc HX1) setRow_grown sx0)) om0,(HS4.post ag0 hsl nx0).post setRow_grown hsl sx0⟩
          |false=>
           go_wp2;exact HTAIL _ _ _ _ _ _ _ _ _ _ _ _ _ _ _ _ _ _ _ _ _ _ _ _ _ _ _ _ _ _ _ _ _ _ _ _ _ _ _ _ _ _ _ _ _ _ _ _ _ _ _ _ _ _ _ _ _ _ _ _ _ _ _ _ _ _ _ _ _ _ _ _ _ _ _ _ _ _ _ _ _ _ wz HD1 HSG HQ1 HQ2
         have hz6: ¬(k:Int)=5:=om0
         by_cases hk7:k=6
         ·subst hk7;cases bf with
          |true=>
           have HCC:Hid (Calls Tryz.prog 34 #[.agg #[.slice va NV vc, .slice aa NA ac, .slice fa NF fc, .bool fr, .bool loop], .pointer (some ⟨sb,0,none⟩),I ((d:Int)+1)] wz fun en w'=>∃(e:LE) (av':Value),en= .returned (eV e av')∧(e.kind=5∧c.okC e.name e.args.length∧e.op=0∧e.n=0∧∀x∈e.args,DrE c d x)∧EX (wz.heap.size≤·) w' av' e∧SG sb wz w'):=by
            refine hqz9 ?_;rw[HFR.out,show((d:Int)+1)=((d+1:Nat):Int) by omega];exact call46_any c d (HIH HD1) hd loop sb wz _ _ _ (HSC.kept HSG.1 (fun r e=>by cases e;rfl)) HSG.2 ((HBF (by first|trivial|rfl)).imp (fun h=>HFR.out.symm.trans h) (fun h=>⟨_,_,_,rfl,h⟩))
           have c0:=HQ1.k0;have c1:=HQ1.k1;have c2:=HQ1.k2;have c3:=HQ1.k3;have c4:=HQ1.k4;go_wp2_with (first|(go_at_call 34;refine HCC.mono ?_;rintro e w4⟨e1,av_,rfl,hd_,hx_,hs_⟩;obtain⟨ae1,ce1,rfl⟩:=hx_.slice;have HS4:=hqz9 (HSG.out.trans hs_);have HDR:=hqz9 hd_;have HX1:=hqz9 (EX.weak (B':=(W.heap.size+2≤·)) hx_ (fun b hb=>Nat.le_trans (Nat.succ_le_of_lt HQ2.lt) hb));have HV2:=hqz9 (hs_.row HQ2 om0);clear hd_ hx_ hs_ c0 c1 c2 c3 c4)|(refine sr 57 (.tmp 6) (.tmp 132) (W.heap.size+1) #[I 0,I 0,I 0,S [], .slice none 0 0] HV2.out ?_))
           refine bodyPost_ret (results_cell_row rfl _ _ (W.heap.size+1) 57 _ (0,0) _ rfl (setRow_heap _ _ _ _ _ _ HV2.out) Tryz.underlying57 rfl kr0) rfl ?_;rw[HQ.out];exact⟨e1,_,rfl,⟨.inr (.inr (.inr (.inr (.inl ⟨HDR.1,HDR.2.1,HDR.2.2.1,HDR.2.2.2.1⟩)))),HDR.2.2.2.2⟩,(EX.weak (EX.grown HX1 setRow_grown sx0) (fun b hb=>(by omega:W.heap.size≤b))),(HS4.out).post setRow_grown hsl sx0⟩
          |false=>
           go_wp2;exact HTAIL _ _ _ _ _ _ _ _ _ _ _ _ _ _ _ _ _ _ _ _ _ _ _ _ _ _ _ _ _ _ _ _ _ _ _ _ _ _ _ _ _ _ _ _ _ _ _ _ _ _ _ _ _ _ _ _ _ _ _ _ _ _ _ _ _ _ _ _ _ _ _ _ _ _ _ _ _ _ _ _ _ _ wz HD1 HSG HQ1 HQ2
         have hz7: ¬(k:Int)=6:=om0;clear hk4 hk5 hk6 hk7;go_wp2;exact HTAIL _ _ _ _ _ _ _ _ _ _ _ _ _ _ _ _ _ _ _ _ _ _ _ _ _ _ _ _ _ _ _ _ _ _ _ _ _ _ _ _ _ _ _ _ _ _ _ _ _ _ _ _ _ _ _ _ _ _ _ _ _ _ _ _ _ _ _ _ _ _ _ _ _ _ _ _ _ _ _ _ _ _ wz HD1 HSG HQ1 HQ2
       have HRD:=hqz9 rd;clear hKR rd;by_cases hk3:k=3
       ·subst hk3;go_wp2_with (go_at_call 12;refine(next25_any sb 3 _ HS2.2 om0 om0).mono ?_;rintro e w3⟨⟨r3,rfl,hr30,hr31⟩,hs3⟩;have HS3:=hqz9 (HS2.out.trans hs3);have HU1:=hqz9 (hs3.row HT1 om0);have HU2:=hqz9 (hs3.row HT2 om0);clear hs3)
        exact HRD _ _ _ _ _ _ _ _ w3 HS3 HU1 HU2
       have hz3: ¬(k:Int)=3:=om0;go_wp2;exact HRD false _ _ _ _ _ _ _ w2 HS2 HT1 HT2
     have HSEL:=hqz9 sel;clear hKS sel;by_cases hk1:k=1
     ·subst hk1;cases bv with
      |true=>
       go_wp2;exact HSEL true _ _ _ _ _ _ _ _ _ _ (fun _=>HBV.out (by first|trivial|rfl))
      |false=>
       go_wp2;exact HSEL false _ _ _ _ _ _ _ _ _ _ se1
     by_cases hk2:k=2
     ·subst hk2;cases bv with
      |true=>
       go_wp2;exact HSEL true _ _ _ _ _ _ _ _ _ _ (fun _=>HBV.out (by first|trivial|rfl))
      |false=>
       go_wp2;exact HSEL false _ _ _ _ _ _ _ _ _ _ se1
     have hz1: ¬(k:Int)=1:=om0;have hz2: ¬(k:Int)=2:=om0;clear hk1 hk2;go_wp2;exact HSEL false _ _ _ _ _ _ _ _ _ _ se1
    have Hh7:=hqz9 h7;clear hK6 h7;rcases Nat.eq_zero_or_pos NF with hz|hz
    rotate_left
    ·have hzz:0<(NF:Int):=om0;go_wp2;exact Hh7 true _ _ _ _ _ _ _ _ (fun _=> .inr om0)
    ·subst hz;cases fr with
     |true=>
      go_wp2;exact Hh7 true _ _ _ _ _ _ _ _ (fun _=>by simp)
     |false=>
      go_wp2;exact Hh7 false _ _ _ _ _ _ _ _ se1
   have Hh6:=hqz9 h6;clear hK5 h6;rcases Nat.eq_zero_or_pos NA with hz|hz
   rotate_left
   ·have hzz:0<(NA:Int):=om0;go_wp2;exact Hh6 true _ _ _ _ _ _ _ _ (fun _=> .inr om0)
   ·subst hz;cases fr with
    |true=>
     go_wp2;exact Hh6 true _ _ _ _ _ _ _ _ (fun _=>by simp)
    |false=>
     go_wp2;exact Hh6 false _ _ _ _ _ _ _ _ se1
  have Hh5:=hqz9 h5;clear hK4 h5;rcases Nat.eq_zero_or_pos NV with hz|hz
  rotate_left
  ·have hzz:0<(NV:Int):=om0;go_wp2;exact Hh5 true _ _ _ _ _ _ _ _ (fun _=> .inr om0)
  ·subst hz;cases fr with
   |true=>
    go_wp2;exact Hh5 true _ _ _ _ _ _ _ _ (fun _=>by simp)
   |false=>
    go_wp2;exact Hh5 false _ _ _ _ _ _ _ _ se1
 have H4:=hqz9 h4;clear hK1 h4;by_cases hd0:d=0
 ·have hdz:(d:Int)+1<2:=om0;have hk4:(k0:Int)%4=(k0%4:Nat):=om0;clear hd0;go_wp2;exact H4 (k0%4) _ _ _ _ om0 (fun _=>by omega)
 ·have hdz: ¬(d:Int)+1<2:=om0;go_wp2;exact H4 k0 _ _ _ _ om0 (fun e=>absurd e hd0)
end
section
open Go.RowKit Go.Shelf
attribute [local go_sem] Oper.semAt_some
abbrev IT:=Int×Int×Nat
theorem Row.tagk {W W':World} {row:Option Nat} {g:Nat} {t:TypeId} {cs:List Value} (h:Row W g t cs) (hg:W.grownBy W' row) (hn:NoTag W row t):Row W' g t cs:=
 h.kept hg fun e=>hn g e.symm _ _ h
section
variable {W0 W W':World} {pb fb:Nat} {l:List (Option IT)} {bv:Value}
end
end
section
open Go.RowKit Go.Shelf
theorem RSlB.one {α:Type} {B:Nat→Prop} {n:Nat} {t:TypeId} {R:World→(Nat→Value)→α→Prop} {W:World} {g:Nat} {cs:List Value} {x:α} (hr:Row W g t cs) (hB:B g) (hl:cs.length=n) (h:R W (fun j=>cs.getD j undef) x):RSlB B n R W (.slice (some (g,0)) 1 1) [x]:=by
 refine⟨_,_,rfl,sm0, .inr ⟨g,0,rfl,hB,fun i y hy=> ?_⟩⟩
 match i,hy with
 |0,hy=>
  obtain rfl:x=y:=by simpa using hy
  refine⟨fun j=>cs.getD j undef,fun j hj=> ?_,h⟩;have hlt:j<cs.length:=om0;rw[show 0+0*n+j=j by omega,hr.cell,List.getElem?_eq_getElem hlt];simp [List.getD,List.getElem?_eq_getElem hlt]
 |i+1,hy=>simp at hy
theorem expr28 (c:Sc):∀d:Nat,1≤d→d≤100→DrC c d
 |0,h,_=>by omega
 |d+1,_,h=>expr28_step c d (fun h1=>expr28 c d h1 om0) om0
end
section
open Go.RowKit Go.Shelf
attribute [local go_sem] Oper.semAt_some
theorem RInts.take {W:World} {a:Option Addr} {c:Nat} {l:List Int} (h:RInts W (.slice a l.length c) l) {n:Nat} (hn:n≤l.length) (h9:n≤1000000000):RSlB (·<W.heap.size) 1 RInt W (.slice a n c) (l.take n):=by
 obtain⟨a',c',hv,hm,h⟩:=h;obtain⟨rfl, -,rfl⟩:=Value.slice.inj hv;have hlen:(l.take n).length=n:=by rw[List.length_take];omega
 refine⟨a,c,by rw[hlen],om0, ?_⟩;rcases Nat.eq_zero_or_pos n with h0|h0
 ·exact .inl (by rw[h0];rfl)
 rcases h with rfl|⟨b,o,rfl,h⟩
 ·exact .inl sm0
 refine .inr ⟨b,o,rfl, ?_,fun i x hx=> ?_⟩
 ·obtain⟨C,hC,_⟩:=h 0 (l[0]' om0) (List.getElem?_eq_getElem om0);exact World.block_lt_of_cell? W _ (hC 0 om0)
 ·rw[List.getElem?_take]at hx;split at hx
  ·exact h i x hx
  ·cases hx
end
end Go.Proofs.YtngglbakkedaiaaGreatDoor
