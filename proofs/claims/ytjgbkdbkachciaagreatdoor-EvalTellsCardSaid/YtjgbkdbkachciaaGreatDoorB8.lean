import Derived.Test.YtjgbkdbkachciaaGreatDoorB5
set_option linter.all false
namespace Go.Proofs.YtjgbkdbkachciaaGreatDoor
set_option maxRecDepth 100000
set_option maxHeartbeats 16000000
section
open Go.RowKit Go.Shelf
end
section
open Go.RowKit Go.Shelf
attribute [local go_sem] Oper.semAt_some
theorem aiB (m:Nat) (hm:m<63):0<=wrap64 ((2:Int)^m):=by
 have hp:(2:Int)^m<9223372036854775808:=by
  have:(2:Nat)^m<2^63:=Nat.pow_lt_pow_right aQ hm;have h2:((2^m:Nat):Int)<((2^63:Nat):Int):=Int.ofNat_lt.2 this;simpa using h2
 have h0:(0:Int)<=(2:Int)^m:=Int.pow_nonneg aQ;have e:IntKind.i64.wrap ((2:Int)^m)=(2:Int)^m:=IntWalk.i64_in _ aG;rw[<-IntWalk.i64_left,e];exact h0
theorem ZB (s l:Value) (w:World):(Instr.field 68 (.agg #[s,l]) 0).run Tryz.prog w= .ok s w:=aL
abbrev ajj (n q:Nat) (s:Int):List Value:= [I 0,I 1,I 2,I 3,I n,I q,I s,I 9223372036854775807]
theorem ah8 (n q:Nat) (s:Int) (hs:0<=s) {r:Nat} (hr:r<8):∃y:Int,(ajj n q s)[r]? =some (I y)/\0<=y:=by
 rcases(by omega:r=0\/r=1\/r=2\/r=3\/r=4\/r=5\/r=6\/r=7)with rfl|rfl|rfl|rfl|rfl|rfl|rfl|rfl
 ·exact⟨_,rfl,aQ⟩
 ·exact⟨_,rfl,aQ⟩
 ·exact⟨_,rfl,aQ⟩
 ·exact⟨_,rfl,aQ⟩
 ·exact⟨_,rfl,aG⟩
 ·exact⟨_,rfl,aG⟩
 ·exact⟨_,rfl,hs⟩
 ·exact⟨_,rfl,aQ⟩
def OT.aah:OT:= .one 0 10 (.one 1 11 (.one 0 12 (.one 2 13 .nil)))
def OT.n14:OT:= .one 0 0 (.one 0 1 (.one 0 2 (.one 0 3 (.one 0 4 (.one 0 5 (.one 0 6 (.one 0 8 (.two 7 9 (.one 1 9 .aah) (.one 1 7 .aah)))))))))
theorem afv (c:Sc) (d:Nat) (ih:1<=d->Pv c d) (hd:d<1000):Pv c (d+1):=by
 intro sb W vv av fv loop hsc hs;obtain⟨Q,hQ⟩:∃Q:Ending->World->Prop,Q=Bn c (d+1) sb W:=⟨_,rfl⟩;rw[<-hQ];have HQ:=aF hQ;have nM:=aF hsc;obtain⟨vl,hvl,hvk⟩:=hsc.v;obtain⟨al,hal,I4⟩:=hsc.a;obtain⟨fl,hfl,yo⟩:=hsc.f;obtain⟨va,vc,rfl,tj, -⟩:=id hvl;obtain⟨aa,ac,rfl,U3, -⟩:=id hal;obtain⟨fa,fc,rfl,Mm, -⟩:=id hfl;have⟨NV,C2⟩:=xq vl.length;have⟨NA,nN⟩:=xq al.length;have⟨NF,tu⟩:=xq fl.length;rw[<-C2,<-nN,<-tu]at nM|-;rw[<-C2]at hvl tj;rw[<-nN]at hal U3;rw[<-tu]at hfl Mm;have⟨fr,gW⟩:=xq c.free;rw[<-gW]at hvk I4 yo|-;obtain⟨w1,hw1⟩:∃w1,w1=(W.alloc (.cells #[.slice va NV vc, .slice aa NA ac, .slice fa NF fc, .bool fr, .bool loop] 64)).alloc (.cells eZ 31):=⟨_,rfl⟩;have dO:=hw1.symm;have hb1:Below W W w1:=by rw[hw1];exact nR _ _ _
 have bC:=aF (show Row w1 W 64 [.slice va NV vc, .slice aa NA ac, .slice fa NF fc, .bool fr, .bool loop] by rw[hw1];exact dV _ _ hn0);have cB:=aF (show Row w1 (W.heap.size+1) 31 [I 0,I 0,I 0,S [], .slice none 0 0] by rw[hw1];exact jF aH);have hsl:=hs.lt;have fI:=aF (SG.start hs hb1);have El:=aF hvl;have jM:=aF hal;have U4:=aF C2;have Gg:=aF nN;have Bo:=aF tu;have U5:=aF hvk;have U6:=aF I4;have HFK:=aF yo;have ki:=aF gW;have wZ:=aF ih;clear hsc hs hvl hal hfl C2 nN tu gW hvk I4 yo ih hb1 hw1 hQ;go_enter Tryz.func28,Tryz.ntmps28;go_upto_region 2 with(go_at_call 25;refine(gY sb 12 w1 fI.2 aG aG).mono ?_;rintro e w2⟨⟨r,rfl,b_,aph⟩,hs2⟩;obtain⟨k0,rfl⟩:=j4 b_;have cu:=aF (fI.out.trans hs2);have mJ:=aF (hs2.row bC aG);have fe:=aF (hs2.row cB aG);clear hs2 b_)
 rename_i K1 Gh K2 hK2;have h4:∀(k:Nat) (lB lC lD mj:Value),k<12->(d=0->k<4)->K1 {tmps:= #[.agg #[.slice va NV vc, .slice aa NA ac, .slice fa NF fc, .bool fr, .bool loop], .pointer (some ⟨sb,0,none⟩),I ((d:Int)+1), .pointer (some ⟨W.heap.size,0,none⟩),undef,undef, .pointer (some ⟨W.heap.size+1,0,none⟩),I k,undef,undef,undef,undef,undef,undef,undef,undef,undef, .pointer (some ⟨sb,0,none⟩),I k0,lB,lC,lD,mj,undef,undef,undef,undef,undef,undef,undef,undef,undef,undef,undef,undef,undef,undef,undef,undef,undef,undef,undef,undef,undef,undef,undef,undef,undef,undef,undef,undef,undef,undef,undef,undef,undef,undef,undef,undef,undef,undef,undef,undef,undef,undef,undef,undef,undef,undef,undef,undef,undef,undef,undef,undef,undef,undef,undef,undef,undef,undef,undef,undef,undef,undef,undef,undef,undef,undef,undef,undef,undef,undef,undef,undef,undef,undef,undef,undef,undef,undef,undef,undef,undef,undef,undef,undef,undef,undef,undef,undef,undef,undef,undef,undef,undef,undef,undef,undef,undef,undef,undef,undef,undef,undef,undef,undef,undef,undef,undef,undef,undef,undef,undef,undef,undef,undef,undef,undef,undef,undef,undef,undef,undef,undef,undef,undef,undef,undef,undef,undef],defers:= []} w2:=by
  intro k lB lC lD mj api w_;refine Gh _ _ ?_;clear Gh hK2 K1 K2;have ye:=aF w_;clear w_;have c0:=mJ.k0;have c1:=mJ.k1;have c2:=mJ.k2;have c3:=mJ.k3;go_upto_region 4 with(fail)
  rename_i K4 hK4;have h5:∀(bv:Bool) (n_ og oh qT qU qV qW qX:Value),(bv=true->fr=true\/0<NV)->K4 {tmps:= #[.agg #[.slice va NV vc, .slice aa NA ac, .slice fa NF fc, .bool fr, .bool loop], .pointer (some ⟨sb,0,none⟩),I ((d:Int)+1), .pointer (some ⟨W.heap.size,0,none⟩),undef,undef, .pointer (some ⟨W.heap.size+1,0,none⟩),I k, .bool bv,undef,undef,undef,undef,undef,undef,undef,undef, .pointer (some ⟨sb,0,none⟩),I k0,lB,lC,lD,mj,n_,og,oh,qT,qU,qV,qW,qX,undef,undef,undef,undef,undef,undef,undef,undef,undef,undef,undef,undef,undef,undef,undef,undef,undef,undef,undef,undef,undef,undef,undef,undef,undef,undef,undef,undef,undef,undef,undef,undef,undef,undef,undef,undef,undef,undef,undef,undef,undef,undef,undef,undef,undef,undef,undef,undef,undef,undef,undef,undef,undef,undef,undef,undef,undef,undef,undef,undef,undef,undef,undef,undef,undef,undef,undef,undef,undef,undef,undef,undef,undef,undef,undef,undef,undef,undef,undef,undef,undef,undef,undef,undef,undef,undef,undef,undef,undef,undef,undef,undef,undef,undef,undef,undef,undef,undef,undef,undef,undef,undef,undef,undef,undef,undef,undef,undef,undef,undef,undef,undef,undef,undef,undef,undef,undef,undef,undef,undef],defers:= []} w2:=by
   intro bv n_ og oh qT qU qV qW qX l_;refine hK4 _ _ ?_;clear hK4 K4;have I5:=aF l_;clear l_;go_upto_region 5 with(fail)
   rename_i K5 U7;have h6:∀(ba:Bool) (rX rY rZ r9 si sj su sw:Value),(ba=true->fr=true\/0<NA)->K5 {tmps:= #[.agg #[.slice va NV vc, .slice aa NA ac, .slice fa NF fc, .bool fr, .bool loop], .pointer (some ⟨sb,0,none⟩),I ((d:Int)+1), .pointer (some ⟨W.heap.size,0,none⟩),undef,undef, .pointer (some ⟨W.heap.size+1,0,none⟩),I k, .bool bv, .bool ba,undef,undef,undef,undef,undef,undef,undef, .pointer (some ⟨sb,0,none⟩),I k0,lB,lC,lD,mj,n_,og,oh,qT,qU,qV,qW,qX,rX,rY,rZ,r9,si,sj,su,sw,undef,undef,undef,undef,undef,undef,undef,undef,undef,undef,undef,undef,undef,undef,undef,undef,undef,undef,undef,undef,undef,undef,undef,undef,undef,undef,undef,undef,undef,undef,undef,undef,undef,undef,undef,undef,undef,undef,undef,undef,undef,undef,undef,undef,undef,undef,undef,undef,undef,undef,undef,undef,undef,undef,undef,undef,undef,undef,undef,undef,undef,undef,undef,undef,undef,undef,undef,undef,undef,undef,undef,undef,undef,undef,undef,undef,undef,undef,undef,undef,undef,undef,undef,undef,undef,undef,undef,undef,undef,undef,undef,undef,undef,undef,undef,undef,undef,undef,undef,undef,undef,undef,undef,undef,undef,undef,undef,undef,undef,undef,undef,undef],defers:= []} w2:=by
    intro ba rX rY rZ r9 si sj su sw pF;refine U7 _ _ ?_;clear U7 K5;have kj:=aF pF;clear pF;go_upto_region 6 with(fail)
    rename_i K6 U8;have h7:∀(bf:Bool) (tA tB uy uz uA uB uC uD:Value),(bf=true->fr=true\/0<NF)->K6 {tmps:= #[.agg #[.slice va NV vc, .slice aa NA ac, .slice fa NF fc, .bool fr, .bool loop], .pointer (some ⟨sb,0,none⟩),I ((d:Int)+1), .pointer (some ⟨W.heap.size,0,none⟩),undef,undef, .pointer (some ⟨W.heap.size+1,0,none⟩),I k, .bool bv, .bool ba, .bool bf,undef,undef,undef,undef,undef,undef, .pointer (some ⟨sb,0,none⟩),I k0,lB,lC,lD,mj,n_,og,oh,qT,qU,qV,qW,qX,rX,rY,rZ,r9,si,sj,su,sw,tA,tB,uy,uz,uA,uB,uC,uD,undef,undef,undef,undef,undef,undef,undef,undef,undef,undef,undef,undef,undef,undef,undef,undef,undef,undef,undef,undef,undef,undef,undef,undef,undef,undef,undef,undef,undef,undef,undef,undef,undef,undef,undef,undef,undef,undef,undef,undef,undef,undef,undef,undef,undef,undef,undef,undef,undef,undef,undef,undef,undef,undef,undef,undef,undef,undef,undef,undef,undef,undef,undef,undef,undef,undef,undef,undef,undef,undef,undef,undef,undef,undef,undef,undef,undef,undef,undef,undef,undef,undef,undef,undef,undef,undef,undef,undef,undef,undef,undef,undef,undef,undef,undef,undef,undef,undef,undef,undef,undef,undef,undef,undef],defers:= []} w2:=by
     intro bf tA tB uy uz uA uB uC uD xd;refine U8 _ _ ?_;clear U8 K6 c0 c1 c2 c3;have xe:=aF xd;clear xd;go_upto_region 7 with(fail)
     rename_i KT Bp KS yq KC C4;have ZN:1<=d->∀wz:World,SG sb W wz->Calls Tryz.prog 28 #[.agg #[.slice va NV vc, .slice aa NA ac, .slice fa NF fc, .bool fr, .bool loop], .pointer (some ⟨sb,0,none⟩),I d] wz (Bn c d sb wz):=by
      intro h1 wz d_;rw[ki.out];exact wZ h1 sb wz _ _ _ loop (nM.kept d_.1 (λr e=>by cases e;rfl)) d_.2
     have jk:=aF ZN;clear ZN;have tail:∀(zF uE uF uG uH uI uJ uK uL uM uN zG zH zI zJ zK zL zM vq vt vw vz vA vB vC zN zO zP zQ zR zS zT zU zV zW zX zY zZ z_ Aa Ab Ac Ad Ae Af Ag Ah Ai Aj Ak Al Am Ao yV yX yY yZ y_ za ze zf zg Ci Cj Ck Cl Cm Cn Co Cq Cr Cs Ct Cu Cv Cw Fl Cx Cy Cz CA CB:Value) (wz:World),1<=d->SG sb W wz->Row wz W 64 [.slice va NV vc, .slice aa NA ac, .slice fa NF fc, .bool fr, .bool loop]->Row wz (W.heap.size+1) 31 [I 0,I 0,I 0,S [], .slice none 0 0]->KT {tmps:= #[.agg #[.slice va NV vc, .slice aa NA ac, .slice fa NF fc, .bool fr, .bool loop], .pointer (some ⟨sb,0,none⟩),I ((d:Int)+1), .pointer (some ⟨W.heap.size,0,none⟩),undef,undef, .pointer (some ⟨W.heap.size+1,0,none⟩),I k, .bool bv, .bool ba, .bool bf,undef,undef,undef,undef,undef,undef, .pointer (some ⟨sb,0,none⟩),I k0,lB,lC,lD,mj,n_,og,oh,qT,qU,qV,qW,qX,rX,rY,rZ,r9,si,sj,su,sw,tA,tB,uy,uz,uA,uB,uC,uD,zF,uE,uF,uG,uH,uI,uJ,uK,uL,uM,uN,zG,zH,zI,zJ,zK,zL,zM,vq,vt,vw,vz,vA,vB,vC,zN,zO,zP,zQ,zR,zS,zT,zU,zV,zW,zX,zY,zZ,z_,Aa,Ab,Ac,Ad,Ae,Af,Ag,Ah,Ai,Aj,Ak,Al,Am,Ao,yV,yX,yY,yZ,y_,za,ze,zf,zg,Ci,Cj,Ck,Cl,Cm,Cn,Co,Cq,Cr,Cs,Ct,Cu,Cv,Cw,Fl,Cx,Cy,Cz,CA,CB,undef,undef,undef,undef,undef,undef,undef,undef,undef,undef,undef,undef,undef,undef,undef,undef,undef,undef,undef,undef,undef,undef],defers:= []} wz:=by
      (iterate 82 intro);intro wz hd1 d_ q1 q2
      refine Bp _ _ ?_;clear Bp yq C4 KT KS KC;have mK:=aF d_;have gp:=aF q1;have iU:=aF q2;clear d_ q1 q2;go_upto_region 24 with(go_at_call 25;refine(gY sb 16 _ mK.2 aG aG).mono ?_;rintro e w3⟨⟨r_,rfl,zh,n3l⟩,hs_⟩;obtain⟨n3,rfl⟩:=j4 zh;have gB:=aF (mK.out.trans hs_);have jW:=aF (hs_.row gp aG);have mZ:=aF (hs_.row iU aG);clear hs_ zh)
      have c0:=jW.k0;have c1:=jW.k1;have c2:=jW.k2;have c3:=jW.k3;have c4:=jW.k4;go_upto_region 25 with(first|(go_at_call 28;refine(jk hd1 w3 gB).mono ?_;rintro e w4⟨e1,Pw,rfl,vD,qY,hs_⟩;obtain⟨Mn,Mo,rfl⟩:=qY.slice;have o7:=aF (gB.out.trans hs_);have akb:=aF vD;have kF:=aF (EX.weak (B':=(W.heap.size+2<=·)) qY (λb hb=>az (Nat.succ_le_of_lt mZ.lt) hb));have xg:=aF (hs_.row jW aG);have ko:=aF (hs_.row mZ aG);clear vD qY hs_ c0 c1 c2 c3 c4)|(refine sr 31 (.tmp 15) (.tmp 140) w4 eZ hn0 ?_))
      obtain⟨w5,bQ⟩:∃w5,w5=(w4.alloc (.cells eZ 31)).setRow w4 #[I e1.kind,I e1.op,I e1.n,S e1.name, .slice Mn e1.args.length Mo]:=⟨_,rfl⟩;have⟨b1,hb1⟩:=xq w4.heap.size;have Kq:(w4.alloc (.cells eZ 31)).grownBy w5 (some b1):=by rw[bQ,hb1];exact bJ
      have Ot:w4.grownBy (w4.alloc (.cells eZ 31)) none:=cE _ _ none;have aai:Row w5 b1 31 (l6 e1 (.slice Mn e1.args.length Mo)):=by rw[bQ,hb1];exact setRow_heap _ _ _ _ _ _ hn0
      have aaj:SG sb W w5:=(o7.post Ot hsl aJ).post Kq hsl (λr e=>by cases e;rw[hb1];exact o7.size);have aak:W.heap.size+2<=b1:=by rw[hb1];exact Nat.succ_le_of_lt ko.lt
      rw[<-bQ,<-hb1];have HW2:=aF (Row.kept (Row.kept ko Ot aH) Kq (by have:=ko.lt;simp;omega));have nZ:=aF (Row.kept (Row.kept xg Ot aH) Kq (by have:=xg.lt;simp;omega));have akc:=aF aai;have uU:=aF aaj;have Ou:=aF aak;have akd:=aF (EX.grown (EX.alloc (EX.size kF) (o:= .cells eZ 31)) Kq lG);clear bQ hb1 Kq Ot aai aaj aak;have c0:=nZ.k0;have c1:=nZ.k1;have c2:=nZ.k2;have c3:=nZ.k3;have c4:=nZ.k4;go_upto_region 26 with(first|(go_at_call 28;refine(jk hd1 w5 uU).mono ?_;rintro e w6⟨e2,Pw,rfl,vD,qY,hs_⟩;obtain⟨ae2,ce2,rfl⟩:=qY.slice;have zE:=aF (uU.out.trans hs_);have uh:=aF vD;have aY:=aF (EX.weak (B':=(W.heap.size+2<=·)) qY (λb hb=>az (Nat.succ_le_of_lt HW2.lt) hb));have HY1:=aF (hs_.row nZ aG);have HY3:=aF (hs_.row akc (cw Ou));have U9:=aF (hs_.row HW2 aG);have ake:=aF (EX.grown akd hs_.1 lG);clear vD qY hs_ c0 c1 c2 c3 c4)|(refine sr 31 (.tmp 16) (.tmp 145) w6 eZ hn0 ?_))
      obtain⟨w7,cT⟩:∃w7,w7=(w6.alloc (.cells eZ 31)).setRow w6 #[I e2.kind,I e2.op,I e2.n,S e2.name, .slice ae2 e2.args.length ce2]:=⟨_,rfl⟩;have⟨b2,hb2⟩:=xq w6.heap.size;have Ih:(w6.alloc (.cells eZ 31)).grownBy w7 (some b2):=by rw[cT,hb2];exact bJ
      have Ov:w6.grownBy (w6.alloc (.cells eZ 31)) none:=cE _ _ none;have aal:Row w7 b2 31 (l6 e2 (.slice ae2 e2.args.length ce2)):=by rw[cT,hb2];exact setRow_heap _ _ _ _ _ _ hn0
      have aam:SG sb W w7:=(zE.post Ov hsl aJ).post Ih hsl (λr e=>by cases e;rw[hb2];exact zE.size);have aan:W.heap.size+2<=b2:=by rw[hb2];exact Nat.succ_le_of_lt U9.lt
      rw[<-cT,<-hb2];have Em:=aF (Row.kept (Row.kept U9 Ov aH) Ih (by have:=U9.lt;simp;omega));have Mp:=aF (Row.kept (Row.kept HY3 Ov aH) Ih (by have:=HY3.lt;simp;omega));have Kr:=aF aal;have Ow:=aF aam;have Sk:=aF aan;have akf:=aF (EX.grown (EX.alloc (EX.size ake) (o:= .cells eZ 31)) Ih lG);have akg:=aF (EX.grown (EX.alloc (EX.size aY) (o:= .cells eZ 31)) Ih lG);clear cT hb2 Ih Ov aal aam aan;have a0:=Mp.cell 0;have a1:=Mp.cell 1;have a2:=Mp.cell 2;have a3:=Mp.cell 3;have a4:=Mp.cell 4;have d0:=Kr.cell 0;have d1:=Kr.cell 1;have d2:=Kr.cell 2;have d3:=Kr.cell 3;have d4:=Kr.cell 4;simp only[l6,af,ag]at a0 a1 a2 a3 a4 d0 d1 d2 d3 d4;go_wp2_with (refine sr 31 (.tmp 6) (.tmp 150) (W.heap.size+1) #[I 0,I 0,I 0,S [], .slice none 0 0] (ho0 Em.out) ?_)
      refine bodyPost_ret (results_cell_row rfl _ _ (W.heap.size+1) 31 _ (0,0) _ rfl (setRow_heap _ _ _ _ _ _ (ho0 Em.out)) Tryz.underlying31 rfl aL) rfl ?_;rw[HQ.out];exact⟨.mk 4 (1+n3) 0 [] [e1,e2], .slice (some ⟨w7.heap.size,0,none⟩) 2 2,rfl,⟨.inr (.inr (.inr (.inl ⟨rfl,(by show(1:Int)<=1+n3/\(1:Int)+n3<=16;omega),rfl,rfl,rfl⟩))),λx hx=>(by rcases List.mem_cons.1 (show x∈ [e1,e2]from hx)with rfl|hx;exact akb.out;obtain rfl:=ai hx;exact uh.out)⟩,fW.mono (base:=W.heap.size+2) (fW.two rfl (iZ Em.lt) ((show Row _ _ _ _ from cj _ _).kept bJ (by simp;have:=Em.lt;omega)) (EX.grown (EX.alloc (EX.weak akf (λb hb=>hb.1.1))) bJ bh) (EX.grown (EX.alloc (EX.weak akg (λb hb=>hb.1))) bJ bh)) aG,(Ow.post iD hsl aJ).post bJ hsl bh⟩
     have RQ:=aF tail;clear Bp tail;have sel:∀(Px:Bool) (uE uF uG uH uI uJ uK uL uM uN:Value),(Px=true->fr=true\/0<NV)->KS {tmps:= #[.agg #[.slice va NV vc, .slice aa NA ac, .slice fa NF fc, .bool fr, .bool loop], .pointer (some ⟨sb,0,none⟩),I ((d:Int)+1), .pointer (some ⟨W.heap.size,0,none⟩),undef,undef, .pointer (some ⟨W.heap.size+1,0,none⟩),I k, .bool bv, .bool ba, .bool bf,undef,undef,undef,undef,undef,undef, .pointer (some ⟨sb,0,none⟩),I k0,lB,lC,lD,mj,n_,og,oh,qT,qU,qV,qW,qX,rX,rY,rZ,r9,si,sj,su,sw,tA,tB,uy,uz,uA,uB,uC,uD, .bool Px,uE,uF,uG,uH,uI,uJ,uK,uL,uM,uN,undef,undef,undef,undef,undef,undef,undef,undef,undef,undef,undef,undef,undef,undef,undef,undef,undef,undef,undef,undef,undef,undef,undef,undef,undef,undef,undef,undef,undef,undef,undef,undef,undef,undef,undef,undef,undef,undef,undef,undef,undef,undef,undef,undef,undef,undef,undef,undef,undef,undef,undef,undef,undef,undef,undef,undef,undef,undef,undef,undef,undef,undef,undef,undef,undef,undef,undef,undef,undef,undef,undef,undef,undef,undef,undef,undef,undef,undef,undef,undef,undef,undef,undef,undef,undef,undef,undef,undef,undef,undef,undef,undef,undef],defers:= []} w2:=by
      intro Px uE uF uG uH uI uJ uK uL uM uN aao;refine yq _ _ ?_;clear yq C4 KS KC;have akh:=aF aao;clear aao;cases Px with
      |true=>
       have En:fr=true\/vl≠ []:=(akh (by first|trivial|rfl)).imp id λh=>List.length_pos_iff.1 (by rw[<-U4.out];exact h);have Py:=aF (X7 fr loop sb w2 (.slice va NV vc) (.slice aa NA ac) (.slice fa NF fc) (.slice va NV vc) vl cu.2 (El.grown cu.1 (λr e=>by cases e;simp) i20) En);clear En;have c0:=mJ.k0;have c1:=mJ.k1;have c2:=mJ.k2;have c3:=mJ.k3;have c4:=mJ.k4;go_wp2_with (first|(go_at_call 45;refine Py.mono ?_;rintro e w3⟨⟨x,rfl,hx⟩,hs3⟩;have gB:=aF (cu.out.trans hs3);have HX:=aF hx;have mZ:=aF (hs3.row fe aG);clear hs3 hx)|(refine sr 31 (.tmp 6) (.tmp 63) (W.heap.size+1) #[I 0,I 0,I 0,S [], .slice none 0 0] mZ.out ?_))
       have hok:c.okV x:=by
        cases gW:fr with
        |true=>exact(nM.any (ki.out.symm.trans gW)).1 x (HX.2 gW)
        |false=>exact U5 gW x (HX.1 gW)
       refine bodyPost_ret (results_cell_row rfl _ _ (W.heap.size+1) 31 _ (0,0) _ rfl (setRow_heap _ _ _ _ _ _ mZ.out) Tryz.underlying31 rfl aL) rfl ?_;rw[HQ.out];exact⟨.mk 2 0 0 x [], .slice none 0 0,rfl,⟨.inr (.inl ⟨rfl,hok,rfl,rfl,rfl⟩),aJ⟩,fW.nil rfl,(gB.out).post bJ hsl bh⟩
      |false=>
       go_upto_region 10 with(fail)
       rename_i KR uO;have rd:∀(U_:Bool) (vq vt vw vz vA vB vC:Value) (wz:World),SG sb W wz->Row wz W 64 [.slice va NV vc, .slice aa NA ac, .slice fa NF fc, .bool fr, .bool loop]->Row wz (W.heap.size+1) 31 [I 0,I 0,I 0,S [], .slice none 0 0]->KR {tmps:= #[.agg #[.slice va NV vc, .slice aa NA ac, .slice fa NF fc, .bool fr, .bool loop], .pointer (some ⟨sb,0,none⟩),I ((d:Int)+1), .pointer (some ⟨W.heap.size,0,none⟩),undef,undef, .pointer (some ⟨W.heap.size+1,0,none⟩),I k, .bool bv, .bool ba, .bool bf,undef,undef,undef,undef,undef,undef, .pointer (some ⟨sb,0,none⟩),I k0,lB,lC,lD,mj,n_,og,oh,qT,qU,qV,qW,qX,rX,rY,rZ,r9,si,sj,su,sw,tA,tB,uy,uz,uA,uB,uC,uD, .bool false,uE,uF,uG,uH,uI,uJ,uK,uL,uM,uN,undef,undef,undef,undef,undef,undef, .bool U_,vq,vt,vw,vz,vA,vB,vC,undef,undef,undef,undef,undef,undef,undef,undef,undef,undef,undef,undef,undef,undef,undef,undef,undef,undef,undef,undef,undef,undef,undef,undef,undef,undef,undef,undef,undef,undef,undef,undef,undef,undef,undef,undef,undef,undef,undef,undef,undef,undef,undef,undef,undef,undef,undef,undef,undef,undef,undef,undef,undef,undef,undef,undef,undef,undef,undef,undef,undef,undef,undef,undef,undef,undef,undef,undef,undef,undef,undef,undef,undef,undef,undef,undef,undef,undef,undef],defers:= []} wz:=by
        intro U_ vq vt vw vz vA vB vC wz d_ q1 q2;refine uO _ _ ?_;clear uO KR;have mK:=aF d_;have gp:=aF q1;have iU:=aF q2;clear d_ q1 q2;cases U_ with
        |true=>
         go_wp2_with (refine sr 31 (.tmp 6) (.tmp 72) (W.heap.size+1) #[I 0,I 0,I 0,S [], .slice none 0 0] iU.out ?_)
         refine bodyPost_ret (results_cell_row rfl _ _ (W.heap.size+1) 31 _ (0,0) _ rfl (setRow_heap _ _ _ _ _ _ iU.out) Tryz.underlying31 rfl aL) rfl ?_;rw[HQ.out];exact⟨.mk 7 0 0 [] [], .slice none 0 0,rfl,⟨.inr (.inr (.inr (.inr (.inr (.inr ⟨rfl,rfl,rfl,rfl,rfl⟩))))),aJ⟩,fW.nil rfl,(mK.out).post bJ hsl bh⟩
        |false=>
         by_cases hk4:k<4
         ·have Eo:(k:Int)<4:=aG;clear hk4;go_upto_region 14 with(go_at_call 25;refine(gY sb 1000 _ mK.2 aG aG).mono ?_;rintro e w5⟨⟨r5,rfl,zi,apj⟩,hs5⟩;obtain⟨n5,rfl⟩:=j4 zi;have ur:=aF (mK.out.trans hs5);have ko:=aF (hs5.row iU aG);clear hs5 zi)
          obtain⟨m,hm⟩:∃m:Nat,(n5:Int).tmod 63=m:=⟨((n5:Int).tmod 63).toNat,by rw[Int.tmod_eq_emod_of_nonneg aG];omega⟩;have hm63:m<63:=by rw[Int.tmod_eq_emod_of_nonneg aG]at hm;omega
          have CS:IntKind.i64.wrap (m:Int)=m:=IntWalk.i64_in _ aG;obtain⟨q,hq⟩:∃q:Nat,IntKind.i64.wrap ((n5:Int)*n5)=q:=by
           have h1:(n5:Int)*n5<1000000:=by
            have:(n5:Int)*n5<=999*999:=Int.mul_le_mul aG aG aG aG;omega
           have h0:(0:Int)<=(n5:Int)*n5:=Int.mul_nonneg aG aG;exact⟨((n5:Int)*n5).toNat,by rw[IntWalk.i64_in _ aG];omega⟩
          refine EM aL (λ_=>True) OT.n14 aL t20 ?_;intro wd hh hgd hS;have kG:=aF (ur.post hgd hsl aJ);have Gi:=bI ko hgd;clear hh hgd;refine iX ?_;have⟨s,hs⟩:=xq (wrap64 ((2:Int)^m));have hs0:0<=s:=by rw[hs];exact aiB m hm63
          have HSE:=aF hs;have Gg:=aF (λr (hr:r<8)=>ah8 n5 q s hs0 hr);clear hs hs0 hm hq hm63 CS;have fin:∀(y:Int) (wf:World),0<=y->SG sb W wf->Q (.returned (eV (.mk 1 0 y [] []) (.slice none 0 0))) (wf.setRow (W.heap.size+1) #[I 1,I 0,I y,S [], .slice none 0 0]):=by
           intro y wf hy hsf;rw[HQ.out];exact⟨.mk 1 0 y [] [], .slice none 0 0,rfl,⟨.inl ⟨rfl,hy,rfl,rfl,rfl⟩,aJ⟩,fW.nil rfl,hsf.post bJ hsl bh⟩
          have gi:=aF fin;clear fin;refine uR rfl rfl ?_ ?_
          ·go_wp2;rw[<-HSE.out];have⟨wa,iq⟩:=xq (wd.alloc (.cells #[I 0,I 1,I 2,I 3,I n5,I q,I s,I 9223372036854775807] 3));have kI:=jy iq
           have gJ:=aF (dZ iq);rw[<-iq];have Bq:=aF (kG.post kI hsl aJ);have I6:=bI Gi kI;have hzs:W.heap.size<=wd.heap.size:=kG.size;clear iq kI;refine dB trivial λ_=> ?_;refine gQ rfl ?_;go_wp2_with (go_at_call 25;refine(gY sb 8 wa Bq.2 aG aG).mono ?_;rintro e w6⟨⟨r_,rfl,zh,lU⟩,hs_⟩;obtain⟨r8,rfl⟩:=j4 zh;have zE:=aF (Bq.out.trans hs_);have aM:=aF (hs_.row I6 aG);have bF:=aF (hs_.row gJ aG);clear hs_ zh)
           have Sl:r8<8:=aG;obtain⟨y,hy,hy0⟩:=Gg r8 Sl;have U':=(bF.cell r8).trans hy;refine dB trivial λ_=> ?_;clear hy;refine iX ?_;refine gQ rfl ?_;go_wp2;refine dB trivial λ_=> ?_
           refine iX ?_;refine tY rfl ?_;refine sJ 31 (.tmp 6) (.tmp 90) rfl ?_;refine wpList_store_row rfl 31 (.tmp 6) (.tmp 90) rfl (W.heap.size+1) _ rfl rfl 31 #[I 0,I 0,I 0,S [], .slice none 0 0] aM.out aL fV sv0 ?_;go_wp2;refine iG (pO ?_);go_wp2;refine bodyPost_ret (results_cell_row rfl _ _ (W.heap.size+1) 31 _ (0,0) _ rfl (setRow_heap _ _ _ _ _ _ aM.out) Tryz.underlying31 rfl aL) rfl ?_;exact gi y w6 hy0 zE
          ·go_wp2_with (go_at_call 25;refine(gY sb 8 wd kG.2 aG aG).mono ?_;rintro e w6⟨⟨r_,rfl,zh,lU⟩,hs_⟩;obtain⟨r8,rfl⟩:=j4 zh;have zE:=aF (kG.out.trans hs_);have aM:=aF (hs_.row Gi aG);clear hs_ zh)
           refine dB trivial λ_=> ?_;refine gQ rfl ?_;go_wp2;rw[<-HSE.out];have⟨wa,iq⟩:=xq (w6.alloc (.cells #[I 0,I 1,I 2,I 3,I n5,I q,I s,I 9223372036854775807] 3));have kI:=jy iq
           have o6:=dZ iq;rw[<-iq];have Bq:=aF (zE.post kI hsl aJ);have I6:=bI aM kI;have Sl:r8<8:=aG;obtain⟨y,hy,hy0⟩:=Gg r8 Sl;have U':=(o6.cell r8).trans hy;clear iq kI o6 hy;refine dB trivial λ_=> ?_;refine iX ?_;refine gQ rfl ?_;go_wp2;refine dB trivial λ_=> ?_
           refine iX ?_;refine tY rfl ?_;refine sJ 31 (.tmp 6) (.tmp 90) rfl ?_;refine wpList_store_row rfl 31 (.tmp 6) (.tmp 90) rfl (W.heap.size+1) _ rfl rfl 31 #[I 0,I 0,I 0,S [], .slice none 0 0] I6.out aL fV sv0 ?_;go_wp2;refine iG (pO ?_);go_wp2;refine bodyPost_ret (results_cell_row rfl _ _ (W.heap.size+1) 31 _ (0,0) _ rfl (setRow_heap _ _ _ _ _ _ I6.out) Tryz.underlying31 rfl aL) rfl ?_;exact gi y wa hy0 Bq
         have hd1:1<=d:=by
          rcases Nat.eq_zero_or_pos d with h|h
          ·have:=ye h;omega
          ·exact h
         have Eo: ¬(k:Int)<4:=aG;have vE:=aF hd1;clear hd1;by_cases cg:k=4
         ·subst cg;go_wp2_with (first|(go_at_call 25;refine(gY sb 3 _ mK.2 aG aG).mono ?_;rintro e w3⟨⟨r_,rfl,zh,n3l⟩,hs_⟩;obtain⟨n3,rfl⟩:=j4 zh;have gB:=aF (mK.out.trans hs_);have jW:=aF (hs_.row gp aG);have mZ:=aF (hs_.row iU aG);clear hs_ zh;have c0:=jW.k0;have c1:=jW.k1;have c2:=jW.k2;have c3:=jW.k3;have c4:=jW.k4)|(go_at_call 28;refine(jk vE w3 gB).mono ?_;rintro e w4⟨e1,Pw,rfl,vD,qY,hs_⟩;obtain⟨Mn,Mo,rfl⟩:=qY.slice;have o7:=aF (gB.out.trans hs_);have iO:=aF vD;have kF:=aF (EX.weak (B':=(W.heap.size+2<=·)) qY (λb hb=>az (Nat.succ_le_of_lt mZ.lt) hb));have ko:=aF (hs_.row mZ aG);clear vD qY hs_ c0 c1 c2 c3 c4)|(refine sr 31 (.tmp 6) (.tmp 104) (W.heap.size+1) #[I 0,I 0,I 0,S [], .slice none 0 0] (ho0 ko.out) ?_))
          refine bodyPost_ret (results_cell_row rfl _ _ (W.heap.size+1) 31 _ (0,0) _ rfl (setRow_heap _ _ _ _ _ _ (ho0 ko.out)) Tryz.underlying31 rfl aL) rfl ?_;rw[HQ.out];exact⟨.mk 3 (17+n3) 0 [] [e1], .slice (some ⟨w4.heap.size,0,none⟩) 1 1,rfl,⟨.inr (.inr (.inl ⟨rfl,(by show(17:Int)+n3=17\/(17:Int)+n3=18\/(17:Int)+n3=19;omega),rfl,rfl,rfl⟩)),λx hx=>by obtain rfl:=ai (show x∈ [e1]from hx);exact iO.out⟩,fW.mono (base:=W.heap.size+2) (fW.one rfl (iZ ko.lt) ((show Row _ _ _ _ from cj _ _).kept bJ (by simp;have:=ko.lt;omega)) (EX.grown (EX.alloc kF) bJ bh)) aG,(o7.post iD hsl aJ).post bJ hsl bh⟩
         have pE: ¬(k:Int)=4:=aG
         by_cases mX:k=5
         ·subst mX;cases ba with
          |true=>
           have dI:fr=true\/al≠ []:=(kj (by first|trivial|rfl)).imp id λh=>List.length_pos_iff.1 (by rw[<-Gg.out];exact h);have mV:=aF (QH fr loop sb wz (.slice va NV vc) (.slice aa NA ac) (.slice fa NF fc) al mK.2 (jM.grown mK.1 (λr e=>by cases e;simp) i20) dI);clear dI;have c0:=gp.k0;have c1:=gp.k1;have c2:=gp.k2;have c3:=gp.k3;have c4:=gp.k4;have aap:=ZB;go_wp2_with (first|(go_at_call 29;refine mV.mono ?_;rintro e w3⟨⟨x,n,rfl,hx⟩,hs_⟩;have gB:=aF (mK.out.trans hs_);have HX:=aF hx;have jW:=aF (hs_.row gp aG);have mZ:=aF (hs_.row iU aG);clear hx hs_ c0 c1 c2 c3 c4;have c0:=jW.k0;have c1:=jW.k1;have c2:=jW.k2;have c3:=jW.k3;have c4:=jW.k4)|(go_at_call 28;refine(jk vE w3 gB).mono ?_;rintro e w4⟨e1,Pw,rfl,vD,qY,hs_⟩;obtain⟨Mn,Mo,rfl⟩:=qY.slice;have o7:=aF (gB.out.trans hs_);have iO:=aF vD;have kF:=aF (EX.weak (B':=(W.heap.size+2<=·)) qY (λb hb=>az (Nat.succ_le_of_lt mZ.lt) hb));have ko:=aF (hs_.row mZ aG);clear vD qY hs_ c0 c1 c2 c3 c4)|(refine sr 31 (.tmp 6) (.tmp 122) (W.heap.size+1) #[I 0,I 0,I 0,S [], .slice none 0 0] (ho0 ko.out) ?_))
           have hok:c.rM x:=by
            cases gW:fr with
            |true=>exact(nM.any (ki.out.symm.trans gW)).2.1 x (HX.2 gW)
            |false=>
             obtain⟨a,ha,rfl⟩:=HX.1 gW;exact U6 gW a ha
           refine bodyPost_ret (results_cell_row rfl _ _ (W.heap.size+1) 31 _ (0,0) _ rfl (setRow_heap _ _ _ _ _ _ (ho0 ko.out)) Tryz.underlying31 rfl aL) rfl ?_;rw[HQ.out];exact⟨.mk 6 0 0 x [e1], .slice (some ⟨w4.heap.size,0,none⟩) 1 1,rfl,⟨.inr (.inr (.inr (.inr (.inr (.inl ⟨rfl,hok,rfl,rfl,rfl⟩))))),λx hx=>by obtain rfl:=ai (show x∈ [e1]from hx);exact iO.out⟩,fW.mono (base:=W.heap.size+2) (fW.one rfl (iZ ko.lt) ((show Row _ _ _ _ from cj _ _).kept bJ (by simp;have:=ko.lt;omega)) (EX.grown (EX.alloc kF) bJ bh)) aG,(o7.post iD hsl aJ).post bJ hsl bh⟩
          |false=>
           go_wp2;exact RQ _ _ _ _ _ _ _ _ _ _ _ _ _ _ _ _ _ _ _ _ _ _ _ _ _ _ _ _ _ _ _ _ _ _ _ _ _ _ _ _ _ _ _ _ _ _ _ _ _ _ _ _ _ _ _ _ _ _ _ _ _ _ _ _ _ _ _ _ _ _ _ _ _ _ _ _ _ _ _ _ _ _ wz vE mK gp iU
         have ym: ¬(k:Int)=5:=aG
         by_cases kC:k=6
         ·subst kC;cases bf with
          |true=>
           have kT:Hid (Calls Tryz.prog 46 #[.agg #[.slice va NV vc, .slice aa NA ac, .slice fa NF fc, .bool fr, .bool loop], .pointer (some ⟨sb,0,none⟩),I ((d:Int)+1)] wz λen w'=>∃(e:LE) (m_:Value),en= .returned (eV e m_)/\(e.kind=5/\c.zD e.name e.args.length/\e.op=0/\e.n=0/\∀x∈e.args,iP c d x)/\EX (wz.heap.size<=·) w' m_ e/\SG sb wz w'):=by
            refine aF ?_;rw[ki.out,show((d:Int)+1)=((d+1:Nat):Int) by omega];exact X_ c d (wZ vE) hd loop sb wz _ _ _ (nM.kept mK.1 (λr e=>by cases e;rfl)) mK.2 ((xe (by first|trivial|rfl)).imp (λh=>ki.out.symm.trans h) (λh=>⟨_,_,_,rfl,h⟩))
           have c0:=gp.k0;have c1:=gp.k1;have c2:=gp.k2;have c3:=gp.k3;have c4:=gp.k4;go_wp2_with (first|(go_at_call 46;refine kT.mono ?_;rintro e w4⟨e1,Pw,rfl,vD,qY,hs_⟩;obtain⟨Mn,Mo,rfl⟩:=qY.slice;have o7:=aF (mK.out.trans hs_);have iO:=aF vD;have kF:=aF (EX.weak (B':=(W.heap.size+2<=·)) qY (λb hb=>az (Nat.succ_le_of_lt iU.lt) hb));have ko:=aF (hs_.row iU aG);clear vD qY hs_ c0 c1 c2 c3 c4)|(refine sr 31 (.tmp 6) (.tmp 132) (W.heap.size+1) #[I 0,I 0,I 0,S [], .slice none 0 0] ko.out ?_))
           refine bodyPost_ret (results_cell_row rfl _ _ (W.heap.size+1) 31 _ (0,0) _ rfl (setRow_heap _ _ _ _ _ _ ko.out) Tryz.underlying31 rfl aL) rfl ?_;rw[HQ.out];exact⟨e1,_,rfl,⟨.inr (.inr (.inr (.inr (.inl ⟨iO.1,iO.2.1,iO.2.2.1,iO.2.2.2.1⟩)))),iO.2.2.2.2⟩,(EX.weak (EX.grown kF bJ bh) (λb hb=>(by omega:W.heap.size<=b))),(o7.out).post bJ hsl bh⟩
          |false=>
           go_wp2;exact RQ _ _ _ _ _ _ _ _ _ _ _ _ _ _ _ _ _ _ _ _ _ _ _ _ _ _ _ _ _ _ _ _ _ _ _ _ _ _ _ _ _ _ _ _ _ _ _ _ _ _ _ _ _ _ _ _ _ _ _ _ _ _ _ _ _ _ _ _ _ _ _ _ _ _ _ _ _ _ _ _ _ _ wz vE mK gp iU
         have Ga: ¬(k:Int)=6:=aG;clear hk4 cg mX kC;go_wp2;exact RQ _ _ _ _ _ _ _ _ _ _ _ _ _ _ _ _ _ _ _ _ _ _ _ _ _ _ _ _ _ _ _ _ _ _ _ _ _ _ _ _ _ _ _ _ _ _ _ _ _ _ _ _ _ _ _ _ _ _ _ _ _ _ _ _ _ _ _ _ _ _ _ _ _ _ _ _ _ _ _ _ _ _ wz vE mK gp iU
       have dz:=aF rd;clear uO rd;by_cases hk3:k=3
       ·subst hk3;go_wp2_with (go_at_call 25;refine(gY sb 3 _ cu.2 aG aG).mono ?_;rintro e w3⟨⟨r3,rfl,apk,Sm⟩,hs3⟩;have gB:=aF (cu.out.trans hs3);have jW:=aF (hs3.row mJ aG);have mZ:=aF (hs3.row fe aG);clear hs3)
        exact dz _ _ _ _ _ _ _ _ w3 gB jW mZ
       have hz3: ¬(k:Int)=3:=aG;go_wp2;exact dz false _ _ _ _ _ _ _ w2 cu mJ fe
     have Ks:=aF sel;clear yq sel;by_cases hk1:k=1
     ·subst hk1;cases bv with
      |true=>
       go_wp2;exact Ks true _ _ _ _ _ _ _ _ _ _ (λ_=>I5.out (by first|trivial|rfl))
      |false=>
       go_wp2;exact Ks false _ _ _ _ _ _ _ _ _ _ s8
     by_cases hk2:k=2
     ·subst hk2;cases bv with
      |true=>
       go_wp2;exact Ks true _ _ _ _ _ _ _ _ _ _ (λ_=>I5.out (by first|trivial|rfl))
      |false=>
       go_wp2;exact Ks false _ _ _ _ _ _ _ _ _ _ s8
     have hz1: ¬(k:Int)=1:=aG;have hz2: ¬(k:Int)=2:=aG;clear hk1 hk2;go_wp2;exact Ks false _ _ _ _ _ _ _ _ _ _ s8
    have Va:=aF h7;clear U8 h7;rcases Nat.eq_zero_or_pos NF with hz|hz
    rotate_left
    ·have hzz:0<(NF:Int):=aG;go_wp2;exact Va true _ _ _ _ _ _ _ _ (λ_=> .inr aG)
    ·subst hz;cases fr with
     |true=>
      go_wp2;exact Va true _ _ _ _ _ _ _ _ (λ_=>by simp)
     |false=>
      go_wp2;exact Va false _ _ _ _ _ _ _ _ s8
   have Vb:=aF h6;clear U7 h6;rcases Nat.eq_zero_or_pos NA with hz|hz
   rotate_left
   ·have hzz:0<(NA:Int):=aG;go_wp2;exact Vb true _ _ _ _ _ _ _ _ (λ_=> .inr aG)
   ·subst hz;cases fr with
    |true=>
     go_wp2;exact Vb true _ _ _ _ _ _ _ _ (λ_=>by simp)
    |false=>
     go_wp2;exact Vb false _ _ _ _ _ _ _ _ s8
  have Vc:=aF h5;clear hK4 h5;rcases Nat.eq_zero_or_pos NV with hz|hz
  rotate_left
  ·have hzz:0<(NV:Int):=aG;go_wp2;exact Vc true _ _ _ _ _ _ _ _ (λ_=> .inr aG)
  ·subst hz;cases fr with
   |true=>
    go_wp2;exact Vc true _ _ _ _ _ _ _ _ (λ_=>by simp)
   |false=>
    go_wp2;exact Vc false _ _ _ _ _ _ _ _ s8
 have H4:=aF h4;clear Gh h4;by_cases hd0:d=0
 ·have Gj:(d:Int)+1<2:=aG;have hk4:(k0:Int)%4=(k0%4:Nat):=aG;clear hd0;go_wp2;exact H4 (k0%4) _ _ _ _ aG (λ_=>by omega)
 ·have Gj: ¬(d:Int)+1<2:=aG;go_wp2;exact H4 k0 _ _ _ _ aG (λe=>absurd e hd0)
end
section
open Go.RowKit Go.Shelf
theorem aP.one {α:Type} {B:Nat->Prop} {n:Nat} {t:TypeId} {R:World->(Nat->Value)->α->Prop} {W:World} {g:Nat} {cs:List Value} {x:α} (hr:Row W g t cs) (hB:B g) (hl:cs.length=n) (h:R W (λj=>cs.getD j undef) x):aP B n R W (.slice (some (g,0)) 1 1) [x]:=by
 refine⟨_,_,rfl,aH, .inr ⟨g,0,rfl,hB,λi y hy=> ?_⟩⟩
 match i,hy with
 |0,hy=>
  obtain rfl:x=y:=by simpa using hy
  refine⟨λj=>cs.getD j undef,λj hj=> ?_,h⟩;have hlt:j<cs.length:=aG;rw[show 0+0*n+j=j by omega,hr.cell,ah hlt];simp [List.getD,ah hlt]
 |i+1,hy=>simp at hy
def apa:Sc:=⟨true,λ_=>True,λ_=>True,λ_ n=>n<=6⟩
def ai':Nat->LE->LE
 |0,e=>e
 |d+1,e=>if e.kind=1\/e.kind=3\/e.kind=4 then .mk e.kind e.op e.n e.name (e.args.map (ai' d))else .mk 1 0 5 [] []
theorem yM (c:Sc):∀d:Nat,1<=d->d<=100->Pv c d
 |0,h,_=>by omega
 |d+1,_,h=>afv c d (λh1=>yM c d h1 aG) aG
end
section
open Go.RowKit Go.Shelf
attribute [local go_sem] Oper.semAt_some
theorem mA.take {W:World} {a:Option Addr} {c:Nat} {l:List Int} (h:mA W (.slice a l.length c) l) {n:Nat} (hn:n<=l.length) (h9:n<=1000000000):aP (·<W.heap.size) 1 yU W (.slice a n c) (l.take n):=by
 obtain⟨a',c',hv,hm,h⟩:=h;obtain⟨rfl, -,rfl⟩:=Value.slice.inj hv;have hlen:(l.take n).length=n:=by rw[List.length_take];omega
 refine⟨a,c,by rw[hlen],aG, ?_⟩;rcases Nat.eq_zero_or_pos n with h0|h0
 ·exact .inl (by rw[h0];rfl)
 rcases h with rfl|⟨b,o,rfl,h⟩
 ·exact .inl aH
 refine .inr ⟨b,o,rfl, ?_,λi x hx=> ?_⟩
 ·obtain⟨C,hC,_⟩:=h 0 (l[0]' aG) (ah aG);exact World.block_lt_of_cell? W _ (hC 0 aG)
 ·rw[List.getElem?_take]at hx;split at hx
  ·exact h i x hx
  ·cases hx
end
section
open Go.RowKit Go.Shelf
section
variable {c:Sc} {p:LP} {vs:List aK}
end
section
variable {aX:List LA} {fs:List PQ}
end
end
end Go.Proofs.YtjgbkdbkachciaaGreatDoor
