import Derived.Test.YtjgbkdbkachciaaGreatDoorS4
set_option linter.all false
namespace Go.Proofs.YtjgbkdbkachciaaGreatDoor
set_option maxRecDepth 100000
set_option maxHeartbeats 16000000
section
open Go.RowKit Go.Shelf
attribute [local go_sem] Oper.semAt_some
theorem PG.zero {w w1 w2:World} {pb tb:Nat} {ts:List Tok} {o:Obj} (h:PG w1 pb tb ts w2) (hw:w1=w.alloc o) (hp:pb<w.heap.size):w2.heap[w.heap.size]? =some o:=YJ hw h.1 (λr e=>by cases e;exact hp)
theorem fW.pg {base:Nat} {w w':World} {pb tb:Nat} {ts:List Tok} {av:Value} {e:LE} (h:fW base w av e) (hg:PG w pb tb ts w') (hp:pb<base):fW base w' av e:=h.grown hg.1 (λr e=>by cases e;exact hp)
theorem fW.alloc {base:Nat} {w:World} {o:Obj} {av:Value} {e:LE} (h:fW base w av e):fW base (w.alloc o) av e:=h.grown (cE w o none) aJ
theorem PG.row {w w':World} {pb tb:Nat} {ts:List Tok} (h:PG w pb tb ts w') {g:Nat} {t:TypeId} {cs:List Value} (hr:Row w g t cs) (hg:g≠pb):Row w' g t cs:=hr.kept h.1 (by simpa using hg)
theorem agl {k:Nat} (ih:IP k) (pb tb:Nat) (ts us:List Tok) (x:LE) (w:World) (h:PS w pb tb ts) (he:gq ts) (hx:tF (k+1) ts=some (x,us)):
  Calls Tryz.prog 257 #[.pointer (some (pb,0))] w (λe w'=>DT w pb tb x us e w'/\gq us):=by
 cases ts with
 |nil=>rw[tF]at hx;cases hx
 |cons t r=>
  have hpl:=h.lt;have htl:=h.zA;have⟨w1,hw1⟩:=xq (w.alloc (.cells eZ 31));have hb1:=gI hw1;have hz1:w1.heap.size=w.heap.size+1:=by rw[hw1];simp
  have dO:w.alloc (.cells eZ 31)=w1:=hw1.symm;have h1:=h.ext hb1;have nZ:=aF hw1;have aI:=aF hb1;have iy:=aF (PG.start h1 (Below.refl _ w1));have⟨u,hu⟩:=xq (wN t 3 17);have hun:=ag5 pb tb t r w1 h1;rw[tF]at hx;rw[<-hu]at hx hun;by_cases hu0:u=0
  ·have bp:t.kind≠5->r≠ []/\gq r:=he.tail;rw[if_neg (by simpa using hu0)]at hx;have cg:t.kind≠5:=by
    intro e;have hno:∀y,fE t y=false:=λy=>by unfold fE;rw[e];simp
    rw[hno,hno]at hx;simp [e]at hx
   obtain⟨j_,hre⟩:=bp cg;replace hun:=hun j_;rw[if_pos hu0]at hun;subst hu0;have Jp:=aF hun;have tR:=aF j_;clear hun bp cg hb1 hw1 hu h1
   cases j5:fE t [40]
   ·rw[j5]at hx;simp only[Bool.false_eq_true,if_false]at hx;have T9:=aF j5;clear j5;cases dA:fE t [114,101,97,100]
    ·rw[dA]at hx;simp only[Bool.false_eq_true,if_false]at hx;have dz:=aF dA;clear dA;by_cases hk3:t.kind=3
     ·rw[if_pos hk3]at hx;simp only[Option.some.injEq,Prod.mk.injEq]at hx;obtain⟨rfl,rfl⟩:=hx;have w_:=λW (hh:PS W pb tb (t::r))=>Y7 pb tb t r W hh j_
      rw[hk3]at w_;have ye:=aF w_;have IU:=N9;have apY:=ai_;have fP:=aF hre;clear w_ he h j_ hre
      as_aux_lemma=>
      go_enter Tryz.func257,Tryz.ntmps257;go_upto_region 8 with(first|(go_at_call 265;refine aN Jp λw2 eX=> ?_)|(go_at_call 74;refine aN (tG pb tb t r [40] w2 eX.2 T9.out) λw3 hb3=> ?_;have fO:=aF (eX.below hb3)))
      go_upto_region 11 with(go_at_call 74;refine aN (tG pb tb t r [114,101,97,100] w3 fO.2 dz.out) λw4 hb4=> ?_;have bH:=aF (fO.below hb4))
      go_wp2_with (first|(go_at_call 70;refine aN (E5 pb tb t r w4 bH.2) λw5 bz=> ?_;have dW:=aF (bH.below bz))|(go_at_call 75;refine aN (ye w5 dW.2) λw6 fU=> ?_;have fD:=aF (dW.out.trans fU);have ir:=aF ((dW.out.trans fU).zero nZ hpl))|(refine wpList_store_row rfl 31 (.tmp 2) (.tmp 38) rfl w.heap.size _ rfl rfl 31 _ ir.out aL fV sv0 ?_))
      refine bodyPost_ret (results_cell_row rfl _ _ w 31 _ (0,0) _ rfl (setRow_heap _ _ _ _ _ _ ir.out) Tryz.underlying31 rfl aL) rfl ?_;exact⟨CL (x:= .mk 1 0 t.n [] []) (fD.pre aI) ir (fW.nil rfl) htl hpl,fP⟩
     ·rw[if_neg hk3]at hx;by_cases hk1:t.kind=1
      ·rw[if_pos hk1]at hx;have cv:=aF (λW (hh:PS W pb tb (t::r))=>Yx pb tb t r W hh j_ hk1);have oI:=aF (λW (hh:PS W pb tb r)=>ih.n pb tb t.text r us x W hh hre hx);have IU:=N9;clear hx he h j_ hre hk3
       as_aux_lemma=>
       go_enter Tryz.func257,Tryz.ntmps257;go_upto_region 8 with(first|(go_at_call 265;refine aN Jp λw2 eX=> ?_)|(go_at_call 74;refine aN (tG pb tb t r [40] w2 eX.2 T9.out) λw3 hb3=> ?_;have fO:=aF (eX.below hb3)))
       go_upto_region 11 with(go_at_call 74;refine aN (tG pb tb t r [114,101,97,100] w3 fO.2 dz.out) λw4 hb4=> ?_;have bH:=aF (fO.below hb4))
       go_wp2_with (first|(go_at_call 70;refine aN (E5 pb tb t r w4 bH.2) λw5 bz=> ?_;have dW:=aF (bH.below bz))|(go_at_call 73;refine aN (cv w5 dW.2) λw6 fU=> ?_;have fD:=aF (dW.out.trans fU))|(go_at_call 266;refine(oI w6 fD.2).mono ?_;rintro e w7⟨⟨av,rfl,ha,vS⟩,hen⟩;have hsz:=fD.1.size;have HA:=aF (ha.mono (base':=w.heap.size+1) aG);obtain⟨aa,ac,rfl⟩:=ha.slice;have sY:=aF (fD.out.trans vS);have jK:=aF hen;have nI:=aF ((fD.out.trans vS).zero nZ hpl);clear vS hen ha)|(refine wpList_store_row rfl 31 (.tmp 2) (.tmp 42) rfl w.heap.size _ rfl rfl 31 _ nI.out aL fV sv0 ?_))
       refine bodyPost_ret (results_cell_row rfl _ _ w 31 _ (0,0) _ rfl (setRow_heap _ _ _ _ _ _ nI.out) Tryz.underlying31 rfl aL) rfl ?_;exact⟨CL (sY.pre aI) nI HA htl hpl,jK⟩
      ·rw[if_neg hk1]at hx;cases hx
    ·rw[dA]at hx;simp only[if_true]at hx;obtain⟨r',hw,hx2⟩:=Option.map_eq_some_iff.1 hx;clear hx;simp only[Prod.mk.injEq]at hx2;obtain⟨rfl,rfl⟩:=hx2;obtain⟨hun,heu⟩:=hre.want hw;have fL:=aF (λW (hh:PS W pb tb (t::r))=>B_ pb tb t r [114,101,97,100] W hh dA j_);have vL:=aF (λW sb (hh:PS W pb tb r) (hs:Row W sb 9 ([[40],[41]].map S))=>B6 pb tb sb 2 2 [[40],[41]] r r' W hh hs rfl hw hun aH);have HEU:=aF heu;clear he h j_ hre dA hw hun heu
     as_aux_lemma=>
     go_enter Tryz.func257,Tryz.ntmps257;go_upto_region 8 with(first|(go_at_call 265;refine aN Jp λw2 eX=> ?_)|(go_at_call 74;refine aN (tG pb tb t r [40] w2 eX.2 T9.out) λw3 hb3=> ?_;have fO:=aF (eX.below hb3)))
     go_wp2_with (first|(go_at_call 74;refine aN (fL w3 fO.2) λw4 kg=> ?_;have bH:=aF (fO.out.trans kg))|(go_at_call 72;refine(vL _ w4 (bH.2.ext jI) hn0).mono ?_;rintro e w5⟨⟨v5,rfl⟩,nL⟩;have dW:=aF ((bH.below jI).trans nL);have dG:=aF (((bH.below jI).trans nL).zero nZ hpl);clear nL)|(refine wpList_store_row rfl 31 (.tmp 2) (.tmp 29) rfl w.heap.size _ rfl rfl 31 _ dG.out aL fV sv0 ?_))
     refine bodyPost_ret (results_cell_row rfl _ _ w 31 _ (0,0) _ rfl (setRow_heap _ _ _ _ _ _ dG.out) Tryz.underlying31 rfl aL) rfl ?_;exact⟨CL (x:= .mk 7 0 0 [] []) (dW.pre aI) dG (fW.nil rfl) htl hpl,HEU⟩
   ·rw[j5]at hx;simp only[if_true]at hx;cases hc:cF k 1 r with
    |none=>rw[hc]at hx;cases hx
    |some p=>
     obtain⟨e,gZ⟩:=p;rw[hc]at hx;simp only[]at hx;obtain⟨r',hw,hx2⟩:=Option.map_eq_some_iff.1 hx;clear hx;simp only[Prod.mk.injEq]at hx2;obtain⟨rfl,rfl⟩:=hx2;have fL:=aF (λW (hh:PS W pb tb (t::r))=>B_ pb tb t r [40] W hh j5 j_);have eA:=aF (λW (hh:PS W pb tb r)=>N0 ih pb tb r gZ e W hh hre hc);have vL:=aF (λW sb (hh:PS W pb tb gZ) (hs:Row W sb 9 ([[41]].map S)) (hen:gq gZ)=>B6 pb tb sb 1 1 [[41]] gZ r' W hh hs rfl hw (hen.want hw).1 aH);have Gu:=aF (λ(hen:gq gZ)=>(hen.want hw).2);clear he h j_ hre j5 hw hc
     as_aux_lemma=>
     go_enter Tryz.func257,Tryz.ntmps257;go_upto_region 6 with(first|(go_at_call 265;refine aN Jp λw2 eX=> ?_)|(go_at_call 74;refine aN (fL w2 eX.2) λw3 mU=> ?_;have fO:=aF (eX.out.trans mU))|(go_at_call 226;refine(eA w3 fO.2).mono ?_;rintro e w4⟨⟨av,rfl,ha,kg⟩,hen⟩;have hsz:=fO.1.size;have HA:=aF (ha.mono (base':=w.heap.size+1) aG);obtain⟨aa,ac,rfl⟩:=ha.slice;have bH:=aF (fO.out.trans kg);have jK:=aF hen;clear kg hen ha))
     have⟨w5,bQ⟩:=xq (w4.alloc (.cells #[.int .i64 e.kind, .int .i64 e.op, .int .i64 e.n, .string ⟨e.name.toArray⟩, .slice aa e.args.length ac] 31));have bp:=dZ bQ;have nL:PG w1 pb tb gZ w5:=by rw[bQ];exact bH.below jI
     have Ex:fW (w,1) w5 (.slice aa e.args.length ac) e:=by rw[bQ];exact HA.alloc
     rw[<-bQ];have cL:=aF bp;have dW:=aF nL;have Gv:=aF Ex;have Lz:w4.heap.size≠pb:=by have:=bH.1.size;omega
     have pE:w4.heap.size<w5.heap.size:=by rw[bQ];simp
     clear bQ bp nL Ex;go_upto_region 7 with(go_at_call 72;refine(vL _ w5 (dW.2.ext jI) hn0 jK).mono ?_;rintro e' w6⟨⟨v6,rfl⟩,fU⟩;have fD:=aF ((dW.below jI).trans fU);have C9:=aF (Gv.alloc.pg fU aG);have dU:=fU.row (ho0 cL.out) Lz;have ir:=aF (((dW.below jI).trans fU).zero nZ hpl);have dJ:=aF dU;clear fU dU)
     have c0:=dJ.cell 0;have c1:=dJ.cell 1;have c2:=dJ.cell 2;have c3:=dJ.cell 3;have c4:=dJ.cell 4;simp only[l6,ag,af]at c0 c1 c2 c3 c4;go_wp2_with (refine wpList_store_row rfl 31 (.tmp 2) (.tmp 22) rfl w.heap.size _ rfl rfl 31 _ ir.out aL fV sv0 ?_)
     refine bodyPost_ret (results_cell_row rfl _ _ w 31 _ (0,0) _ rfl (setRow_heap _ _ _ _ _ _ ir.out) Tryz.underlying31 rfl aL) rfl ?_;exact⟨CL (fD.pre aI) ir C9 htl hpl,Gu jK⟩
  ·rw[if_pos (by simpa using hu0)]at hx;have cg:t.kind≠5:=Yv 3 17 (by rw[<-hu];exact hu0);obtain⟨j_,hre⟩:=he.tail cg;replace hun:=hun j_;rw[if_neg hu0]at hun;obtain⟨⟨e,gZ⟩,ht,hx2⟩:=Option.map_eq_some_iff.1 hx;clear hx;simp only[Prod.mk.injEq]at hx2;obtain⟨rfl,rfl⟩:=hx2;have Jp:=aF hun;have GV:=aF (λW (hh:PS W pb tb r)=>ih.t pb tb r gZ e W hh hre ht);have apZ:(u !=0)=true:=by rw[bne_iff_ne];exact hu0
   clear hun cg hb1 hw1 hu h1 j_ hre ht he h hu0;go_enter Tryz.func257,Tryz.ntmps257;go_wp2_with (first|(go_at_call 265;refine aN Jp λw2 eX=> ?_)|(go_at_call 257;refine(GV w2 eX.2).mono ?_;rintro e' w3⟨⟨av,rfl,ha,mU⟩,hen⟩;have hsz:=eX.1.size;have HA:=aF (ha.mono (base':=w.heap.size+1) aG);obtain⟨aa,ac,rfl⟩:=ha.slice;have fO:=aF (eX.out.trans mU);have jK:=aF hen;have ap0:=(eX.out.trans mU).1.size;have gy:=aF ((eX.out.trans mU).zero nZ hpl);have bR:=aF (show(w3.alloc (.cells #[I e.kind,I e.op,I e.n,S e.name, .slice aa e.args.length ac] 31)).heap[w.heap.size]? =some (.cells eZ 31 (0,0))from dV _ _ gy.out);clear mU hen ha)|(refine sr 31 (.tmp 2) (.tmp 13) w eZ bR.out ?_))
   have⟨w4,hw4⟩:=xq (w3.alloc (.cells #[I e.kind,I e.op,I e.n,S e.name, .slice aa e.args.length ac] 31));have hk4:w4.heap[w.heap.size]? =some (.cells eZ 31 (0,0)):=by rw[hw4];exact bR.out
   have hr4:=dZ hw4;have iE:PG w pb tb gZ w4:=by rw[hw4];exact(fO.below jI).pre aI
   have Gd:fW (w,1) w4 (.slice aa e.args.length ac) e:=by rw[hw4];exact HA.alloc
   have cX:fW (w,1) w4 (.slice (some (w3,0)) 1 1) (.mk 3 u 0 [] [e]):=fW.one (x:=e) rfl aG hr4 Gd;rw[<-hw4];clear hw4 bR;refine bodyPost_ret (results_cell_row rfl _ _ w 31 _ (0,0) _ rfl (setRow_heap _ _ _ _ _ _ hk4) Tryz.underlying31 rfl aL) rfl ?_;exact⟨CL iE hk4 cX htl hpl,jK⟩
theorem agx {k:Nat} (ih:IP k) (pb tb:Nat) (nm:aK) (ts us:List Tok) (x:LE) (w:World) (h:PS w pb tb ts) (he:gq ts) (hx:nF (k+1) nm ts=some (x,us)):
  Calls Tryz.prog 266 #[.pointer (some (pb,0)),S nm] w (λe w'=>DT w pb tb x us e w'/\gq us):=by
 cases ts with
 |nil=>rw[nF]at hx;cases hx
 |cons t r=>
  have hpl:=h.lt;have htl:=h.zA;have⟨w1,hw1⟩:=xq (w.alloc (.cells eZ 31));have hb1:=gI hw1;have hz1:w1.heap.size=w.heap.size+1:=by rw[hw1];simp
  have dO:w.alloc (.cells eZ 31)=w1:=hw1.symm;have h1:=h.ext hb1;have nZ:=aF hw1;have aI:=aF hb1;have iy:=aF (PG.start h1 (Below.refl _ w1));rw[nF]at hx;cases j5:fE t [40]
  case true=>rw[j5]at hx;simp at hx
  rw[j5]at hx;simp only[Bool.false_eq_true,if_false]at hx;have IX:=aF (tG pb tb t r [40] w1 h1 j5);cases hbr:fE t [91]
  ·rw[hbr]at hx;simp only[Bool.false_eq_true,if_false,Option.some.injEq,Prod.mk.injEq]at hx;obtain⟨rfl,rfl⟩:=hx;have rN:=aF (λW (hh:PS W pb tb (t::r))=>tG pb tb t r [91] W hh hbr);have jK:=aF he;clear h he j5 hbr hb1 hw1 h1;go_enter Tryz.func266,Tryz.ntmps266;go_upto_region 3 with(go_at_call 74;refine aN IX λw2 hb2=> ?_;have eX:=aF (iy.below hb2))
   go_wp2_with (first|(go_at_call 74;refine aN (rN w2 eX.2) λw3 hb3=> ?_;have fO:=aF (eX.below hb3);have gy:=aF ((eX.below hb3).zero nZ hpl))|(refine sr 31 (.tmp 4) (.tmp 26) w eZ gy.out ?_))
   refine bodyPost_ret (results_cell_row rfl _ _ w 31 _ (0,0) _ rfl (setRow_heap _ _ _ _ _ _ gy.out) Tryz.underlying31 rfl aL) rfl ?_;exact⟨CL (x:= .mk 2 0 0 nm []) (fO.pre aI) gy (fW.nil rfl) htl hpl,jK⟩
  ·rw[hbr]at hx;simp only[if_true]at hx;obtain⟨j_,hre⟩:=he.tail (Dw hbr);cases hc:cF k 1 r with
   |none=>rw[hc]at hx;cases hx
   |some p=>
    obtain⟨e,gZ⟩:=p;rw[hc]at hx;simp only[]at hx;obtain⟨r',hw,hx2⟩:=Option.map_eq_some_iff.1 hx;clear hx;simp only[Prod.mk.injEq]at hx2;obtain⟨rfl,rfl⟩:=hx2;have fL:=aF (λW (hh:PS W pb tb (t::r))=>B_ pb tb t r [91] W hh hbr j_);have eA:=aF (λW (hh:PS W pb tb r)=>N0 ih pb tb r gZ e W hh hre hc);have vL:=aF (λW sb (hh:PS W pb tb gZ) (hs:Row W sb 9 ([[93]].map S)) (hen:gq gZ)=>B6 pb tb sb 1 1 [[93]] gZ r' W hh hs rfl hw (hen.want hw).1 aH);have Gu:=aF (λ(hen:gq gZ)=>(hen.want hw).2);clear he h j_ hre j5 hbr hw hc hb1 hw1 h1;go_enter Tryz.func266,Tryz.ntmps266;go_upto_region 3 with(go_at_call 74;refine aN IX λw2 hb2=> ?_;have eX:=aF (iy.below hb2))
    go_upto_region 5 with(first|(go_at_call 74;refine aN (fL w2 eX.2) λw3 mU=> ?_;have fO:=aF (eX.out.trans mU))|(go_at_call 226;refine(eA w3 fO.2).mono ?_;rintro e w4⟨⟨av,rfl,ha,kg⟩,hen⟩;have hsz:=fO.1.size;have HA:=aF (ha.mono (base':=w.heap.size+1) aG);obtain⟨aa,ac,rfl⟩:=ha.slice;have bH:=aF (fO.out.trans kg);have jK:=aF hen;clear kg hen ha))
    have⟨w5,bQ⟩:=xq (w4.alloc (.cells #[.int .i64 e.kind, .int .i64 e.op, .int .i64 e.n, .string ⟨e.name.toArray⟩, .slice aa e.args.length ac] 31));have bp:=dZ bQ;have nL:PG w1 pb tb gZ w5:=by rw[bQ];exact bH.below jI
    have Ex:fW (w,1) w5 (.slice aa e.args.length ac) e:=by rw[bQ];exact HA.alloc
    have pE:w4.heap.size<w5.heap.size:=by rw[bQ];simp
    rw[<-bQ];have cL:=aF bp;have dW:=aF nL;have Gv:=aF Ex;have Lz:w4.heap.size≠pb:=by have:=bH.1.size;omega
    clear bQ bp nL Ex;go_upto_region 6 with(go_at_call 72;refine(vL _ w5 (dW.2.ext jI) hn0 jK).mono ?_;rintro e' w6⟨⟨v6,rfl⟩,fU⟩;have fD:=aF ((dW.below jI).trans fU);have C9:=aF (Gv.alloc.pg fU aG);have dU:=fU.row (ho0 cL.out) Lz;have ir:=aF (((dW.below jI).trans fU).zero nZ hpl);have dJ:=aF dU;have ym:=fU.1.size;rw[World.size_alloc]at ym;clear fU dU)
    have c0:=dJ.cell 0;have c1:=dJ.cell 1;have c2:=dJ.cell 2;have c3:=dJ.cell 3;have c4:=dJ.cell 4;simp only[l6,ag,af]at c0 c1 c2 c3 c4;have nI:=aF (show(w6.alloc (.cells #[I e.kind,I e.op,I e.n,S e.name, .slice aa e.args.length ac] 31)).heap[w.heap.size]? =some (.cells eZ 31 (0,0))from dV _ _ ir.out);go_wp2_with (refine sr 31 (.tmp 4) (.tmp 24) w eZ nI.out ?_)
    have⟨w7,cT⟩:=xq (w6.alloc (.cells #[I e.kind,I e.op,I e.n,S e.name, .slice aa e.args.length ac] 31));have kC:w7.heap[w.heap.size]? =some (.cells eZ 31 (0,0)):=by rw[cT];exact nI.out
    have kV:=dZ cT;have iE:PG w pb tb r' w7:=by rw[cT];exact(fD.below jI).pre aI
    have Gd:fW (w,1) w7 (.slice aa e.args.length ac) e:=by rw[cT];exact C9.alloc
    have Eo:=bH.1.size;have cX:fW (w,1) w7 (.slice (some (w6,0)) 1 1) (.mk 6 0 0 nm [e]):=fW.one (x:=e) rfl aG kV Gd;rw[<-cT];clear cT nI;refine bodyPost_ret (results_cell_row rfl _ _ w 31 _ (0,0) _ rfl (setRow_heap _ _ _ _ _ _ kC) Tryz.underlying31 rfl aL) rfl ?_;exact⟨CL iE kC cX htl hpl,Gu jK⟩
def EX (B:Nat->Prop) (W:World) (av:Value) (e:LE):Prop:=∃d,aP B 5 (RE d B) W av e.args
theorem EX.grown {B:Nat->Prop} {w w':World} {row:Option Nat} {av:Value} {e:LE} (h:EX B w av e) (hg:w.grownBy w' row) (hr:∀r,row=some r-> ¬B r):EX B w' av e:=by
 obtain⟨d,h⟩:=h;exact⟨d,h.grown hg hr λ_ _ h=>RE.grown d hg hr h⟩
theorem EX.alloc {B:Nat->Prop} {w:World} {o:Obj} {av:Value} {e:LE} (h:EX B w av e):EX B (w.alloc o) av e:=h.grown (cE w o none) aJ
theorem EX.weak {B B':Nat->Prop} {w:World} {av:Value} {e:LE} (h:EX B w av e) (hb:∀b,B b->B' b):EX B' w av e:=by
 obtain⟨d,h⟩:=h;exact⟨d,h.weak hb λ_ _ h=>RE.weak d hb h⟩
theorem EX.slice {B:Nat->Prop} {w:World} {av:Value} {e:LE} (h:EX B w av e):∃a c,av= .slice a e.args.length c:=by
 obtain⟨d,a,c,h,_⟩:=h;exact⟨a,c,h⟩
theorem aP.size {α:Type} {B:Nat->Prop} {k:Nat} (hk:0<k) {R R':World->(Nat->Value)->α->Prop} {w:World} (hR:∀C x,R w C x->R' w C x) {v:Value} {l:List α} (h:aP B k R w v l):aP (λb=>B b/\b<w.heap.size) k R' w v l:=by
 obtain⟨a,c,h1,h2,h3⟩:=h;refine⟨a,c,h1,h2, ?_⟩;cases l with
 |nil=>exact .inl rfl
 |cons x0 l0=>
  rcases h3 with h3|⟨b,o,h4,h5,h6⟩
  ·cases h3
  ·right;refine⟨b,o,h4,⟨h5, ?_⟩,λi x hx=> ?_⟩
   ·obtain⟨C,hC,_⟩:=h6 0 x0 rfl;exact World.block_lt_of_cell? w (b,o+0*k+0) (hC 0 hk)
   ·obtain⟨C,hC,hr⟩:=h6 i x hx;exact⟨C,hC,hR C x hr⟩
theorem RE.size:∀(d:Nat) {B:Nat->Prop} {w:World} {C:Nat->Value} {e:LE},RE d B w C e->RE d (λb=>B b/\b<w.heap.size) w C e
 |0,_,_,_,_,h=>h
 |d+1,_,_,_,_,⟨h0,h1,h2,h3,h4⟩=>⟨h0,h1,h2,h3,h4.size aG λ_ _ h=>RE.size d h⟩
theorem EX.size {B:Nat->Prop} {w:World} {av:Value} {e:LE} (h:EX B w av e):EX (λb=>B b/\b<w.heap.size) w av e:=by
 obtain⟨d,h⟩:=h;exact⟨d,h.size aG λ_ _ h=>RE.size d h⟩
theorem EX.two {B:Nat->Prop} {g:Nat} {w:World} {e x y:LE} {xv yv:Value} (hx:e.args= [x,y]) (hb:B g) (hrow:Row w g 31 (l6 x xv++l6 y yv)) (h:EX B w xv x) (k:EX B w yv y):EX B w (.slice (some (g,0)) 2 2) e:=by
 obtain⟨d,h⟩:=h;obtain⟨d',k⟩:=k;have h':=h.weak (B':=B) (R':=RE (max d d') B) (λ_ h=>h) (λ_ _ h=>RE.le (Nat.le_max_left d d') h);have k':=k.weak (B':=B) (R':=RE (max d d') B) (λ_ h=>h) (λ_ _ h=>RE.le (Nat.le_max_right d d') h);refine⟨max d d'+1,some (g,0),2,by rw[hx];rfl,by rw[hx];simp, .inr ⟨g,0,rfl,hb,λi z hz=> ?_⟩⟩;rw[hx]at hz;rcases(by cases i with
  |zero=>simp at hz;exact .inl ⟨rfl,hz.symm⟩
  |succ i=>cases i with
   |zero=>simp at hz;exact .inr ⟨rfl,hz.symm⟩
   |succ i=>simp at hz:(i=0/\z=x)\/(i=1/\z=y))with⟨rfl,rfl⟩|⟨rfl,rfl⟩
 ·refine⟨λj=>(l6 z xv).getD j undef,λj hj=> ?_,rfl,rfl,rfl,rfl,h'⟩;rw[hrow.cell];rcases(by omega:j=0\/j=1\/j=2\/j=3\/j=4)with rfl|rfl|rfl|rfl|rfl<;>rfl
 ·refine⟨λj=>(l6 z yv).getD j undef,λj hj=> ?_,rfl,rfl,rfl,rfl,k'⟩;rw[hrow.cell];rcases(by omega:j=0\/j=1\/j=2\/j=3\/j=4)with rfl|rfl|rfl|rfl|rfl<;>rfl
theorem gq.cons {ts:List Tok} (h:gq ts):∃t r,ts=t::r:=by
 obtain⟨e,h1,_⟩:=h;cases ts with
 |nil=>cases h1
 |cons t r=>exact⟨t,r,rfl⟩
theorem agz {k:Nat} (ih:∀j,j<=k->IP j) (pb tb:Nat) (lv:Int) (ts us:List Tok) (x:LE) (w:World) (h:PS w pb tb ts) (he:gq ts) (hx:cF (k+1) lv ts=some (x,us)):
  Calls Tryz.prog 245 #[.pointer (some (pb,0)),I lv] w (λe w'=>DT w pb tb x us e w'/\gq us):=by
 obtain⟨t',r',rfl⟩:=he.cons;have hpl:=h.lt;have htl:=h.zA;have⟨w1,hw1⟩:=xq (w.alloc (.cells eZ 31));have hb1:=gI hw1;have hz1:w1.heap.size=w.heap.size+1:=by rw[hw1];simp
 have dO:w.alloc (.cells eZ 31)=w1:=hw1.symm;have h1:=h.ext hb1;have nZ:=aF hw1;have aI:=aF hb1;rw[cF]at hx;cases ht:tF k (t'::r')with
 |none=>rw[ht]at hx;cases hx
 |some p=>
  obtain⟨e0,Jc⟩:=p;rw[ht]at hx;simp only[]at hx;have Dk:=aF hx;have GV:=aF ((ih k fQ).t pb tb (t'::r') Jc e0 w1 h1 he ht);have wZ:=aF ih;clear h he hx ht h1 hb1 hw1 ih;go_enter Tryz.func245,Tryz.ntmps245;go_upto_region 2 with(go_at_call 257;refine GV.mono ?_;rintro e w2⟨⟨av,rfl,ha,hp2⟩,hen⟩;obtain⟨aa,ac,rfl⟩:=ha.slice;have HA:=aF ha;have eX:=aF hp2;have jK:=aF hen;clear ha hp2 hen)
  obtain⟨t0,r0,rfl⟩:=jK.cons;have⟨bb,hbb⟩:=xq w2.heap.size;have aql:=eX.1.size;have⟨w3,hw3⟩:=xq (w2.alloc (.cells #[.int .i64 e0.kind, .int .i64 e0.op, .int .i64 e0.n, .string ⟨e0.name.toArray⟩, .slice aa e0.args.length ac] 31));have hr3:Row w3 bb 31 (l6 e0 (.slice aa e0.args.length ac)):=by rw[hw3,hbb];exact cj _ _
  have mU:PG w1 pb tb (t0::r0) w3:=by rw[hw3];exact eX.below jI
  have hx3:EX (λb=>w.heap.size+1<=b/\b≠bb) w3 (.slice aa e0.args.length ac) e0:=by
   have h1:EX (w1.heap.size<=·) w2 (.slice aa e0.args.length ac) e0:=HA.out;rw[hw3];exact(h1.size.weak (λb hb=>⟨by have:=hb.1;omega,by have:=hb.2;omega⟩)).alloc
  have hbp:pb<bb:=aG;have yG:w.heap.size<bb:=aG;rw[<-hw3,<-hbb];have bL:=aF hr3;have fO:=aF mU;have bq:=aF hx3;clear hw3 hr3 mU hx3 hbb HA;go_wp2_with (go_at_call 258;refine aN (Yn pb tb lv t0 r0 w3 fO.2) λw4 hb4=> ?_;have bH:=aF (fO.below hb4);have bU:=bA bL hb4;have cI:=aF (bq.grown (bX hb4 none) aJ))
  go_loopg [6] k (λgh v wr=>∃(e:LE) (av:Value) (t:Tok) (r:List Tok),v=I (ue lv t 16 1)/\gh<=k/\Hid (PG w1 pb tb (t::r) wr/\Row wr bb 31 (l6 e av)/\EX (λb=>w.heap.size+1<=b/\b≠bb) wr av e/\gq (t::r)/\lF gh lv e (t::r)=some (x,us)))
  case atStart=>exact⟨e0,_,t0,r0,rfl,ay _,aF ⟨bH,bU,cI,jK,Dk⟩⟩
  case round=>
   obtain⟨e,av,t,r,rfl,q7,HH⟩:=hrel;obtain⟨wo,rfl⟩:=xq wr;obtain⟨hp,dh,uP,hen,o9⟩:=HH.out;obtain⟨ea,ec,rfl⟩:=uP.slice;obtain⟨g1,rfl⟩:∃g1,gk=g1+1:=by
    cases gk with
    |zero=>rw[lF]at o9;cases o9
    |succ g=>exact⟨g,rfl⟩
   rw[lF]at o9;have⟨op,hop⟩:=xq (ue lv t 16 1);rw[<-hop]at o9|-;have hz0:=hp.1.size;have HP:=aF hp;have HRW:=aF dh;have AA:=aF uP;have al9:=aF hen;by_cases h0:op=0
   ·rw[if_pos h0]at o9;simp only[Option.some.injEq,Prod.mk.injEq]at o9;obtain⟨rfl,rfl⟩:=o9;have hne:(op !=0)=false:=by rw[h0];rfl
    have c0:=dh.cell 0;have c1:=dh.cell 1;have c2:=dh.cell 2;have c3:=dh.cell 3;have c4:=dh.cell 4;simp only[l6,ag,af]at c0 c1 c2 c3 c4;have HK:=aF (hp.zero nZ hpl);clear hp dh uP hen hop h0 HH;go_wp2_with (refine sr 31 (.tmp 4) (.tmp 36) w eZ HK.out ?_)
    refine bodyPost_ret (results_cell_row rfl _ _ w 31 _ (0,0) _ rfl (setRow_heap _ _ _ _ _ _ HK.out) Tryz.underlying31 rfl aL) rfl ?_;exact⟨CL (HP.pre aI) HK (AA.weak λb hb=>hb.1) htl hpl,al9⟩
   ·rw[if_neg h0]at o9;cases hc:cF g1 (nT op+1) r with
    |none=>rw[hc]at o9;cases o9
    |some p=>
     obtain⟨f,r2⟩:=p;rw[hc]at o9;simp only[]at o9;obtain⟨j_,hre⟩:=hen.tail (X3 16 1 (by rw[<-hop];exact h0));have hne:(op !=0)=true:=by rw[bne_iff_ne];exact h0
     obtain⟨o,c,k1,k2,k3,k4⟩:=hp.2;have c0:=cell_of_block k2 0;have f0:wo.frozen? (pb,0)=false:=Row.frozen (cs:= [.slice (some (tb,o)) (t::r).length c]) k2 0;simp only[List.getElem?_toArray,af,aq]at c0;have hrp:0<r.length:=List.length_pos_iff.2 j_;have hc1:r.length+1<=c:=k1;have hcz:((r.length:Int)+1)<=(c:Int):=aG;have hc2: ¬c=1:=aG;have hpo:pb<wo.heap.size:=aG;have V8:tb<wo.heap.size:=aG;have⟨L,hL⟩:=xq (nT op);have hLb:0<=L/\L<=8:=by
      rw[hL];unfold nT
      repeat' split
      all_goals omega
     obtain⟨hL0,hL8⟩:=hLb;have L3:∀W,CR 144 #[I op] W (I L):=λW=>by rw[hL];exact JK op W
     rw[<-hL]at hc;have CZ:=aF L3;have oo:=aF (λW (hh:PS W pb tb r)=>(wZ g1 aG).c pb tb (L+1) r r2 f W hh hre hc);have al_:=aF o9;have HOP:=aF hop;have K2:=aF k2;have K3:=aF k3;have K4:=aF k4;have ama:g1<=k:=aG;have hg1:g1<g1+1:=aG;clear hp dh uP hen hop h0 HH o9 hc j_ hre L3 hL k1 k2 k3 k4 q7;go_upto_region 6 with(fail)
     have⟨w5,bQ⟩:=xq (wo.setCell (pb,0) (.slice (some (tb,o+4)) r.length (c - 1)));have iE:PG wo pb tb r w5:=by rw[bQ];exact PG.drop (Below.refl _ wo) hpo (by simpa using hc1) K2.out K3.out K4.out
     have cD:wo.grownBy w5 (some pb):=iE.1;rw[<-bQ];have dW:=aF (HP.out.trans iE);have cL:=aF (HRW.kept cD ct);have rV:=aF (AA.grown cD bh);clear bQ iE cD c0 f0;go_upto_region 7 with(first|(go_at_call 144;refine aN (CZ w5) λw6 bV=> ?_;have fD:=aF (dW.below bV);have dJ:=bA cL bV;have rS:=aF (rV.grown (bX bV none) aJ))|(go_at_call 245;refine(oo w6 fD.2).mono ?_;rintro e' w7⟨⟨fv,rfl,WJ,vS⟩,aco⟩;have ym:=fD.1.size;have Ga:=vS.1.size;have BJ:=dJ.lt;have rP:=aF (vS.row dJ aG);have Jk:=aF (rS.grown vS.1 bh);obtain⟨fa,fc,rfl⟩:=WJ.slice;have pJ:EX (λb=>w.heap.size+1<=b/\b≠bb) w7 (.slice fa f.args.length fc) f:=EX.weak (B:=(w6.heap.size<=·)) WJ (λb hb=>⟨aG,aG⟩);have pK:=aF pJ;have sY:=aF (fD.out.trans vS);have oK:=aF aco;clear vS aco WJ pJ))
     have⟨w8,nP⟩:=xq (w7.alloc (.cells #[.int .i64 f.kind, .int .i64 f.op, .int .i64 f.n, .string ⟨f.name.toArray⟩, .slice fa f.args.length fc] 31));have⟨bf,xd⟩:=xq w7.heap.size;have lU:Row w8 bf 31 (l6 f (.slice fa f.args.length fc)):=by rw[nP,xd];exact cj _ _
     have mY:=gI nP;rw[<-nP,<-xd];have qR:=aF (sY.below mY);have Ed:=rP.ext mY;have amb:=aF Ed;have U2:=aF (Jk.grown (bX mY none) aJ);have BD:=aF (pK.grown (bX mY none) aJ);have aqm:=qR.1.size;have c0:=Ed.cell 0;have c1:=Ed.cell 1;have c2:=Ed.cell 2;have c3:=Ed.cell 3;have c4:=Ed.cell 4;have d0:=lU.cell 0;have d1:=lU.cell 1;have d2:=lU.cell 2;have d3:=lU.cell 3;have d4:=lU.cell 4;simp only[l6,ag,af]at c0 c1 c2 c3 c4 d0 d1 d2 d3 d4;have hlb:=Ed.lt;have WK:=aF (show(w8.alloc (.cells #[I e.kind,I e.op,I e.n,S e.name, .slice ea e.args.length ec,I f.kind,I f.op,I f.n,S f.name, .slice fa f.args.length fc] 31)).heap[bb]? =some (.cells #[I e.kind,I e.op,I e.n,S e.name, .slice ea e.args.length ec] 31 (0,0))from dV _ _ amb.out);clear nP mY xd Ed lU;go_upto_region 4 with(refine sr 31 (.tmp 5) (.tmp 35) bb #[I e.kind,I e.op,I e.n,S e.name, .slice ea e.args.length ec] WK.out ?_)
     have⟨w9,lq⟩:=xq (w8.alloc (.cells #[I e.kind,I e.op,I e.n,S e.name, .slice ea e.args.length ec,I f.kind,I f.op,I f.n,S f.name, .slice fa f.args.length fc] 31));have Nk:=dZ lq;have M6:w9.heap[bb]? =some (.cells #[I e.kind,I e.op,I e.n,S e.name, .slice ea e.args.length ec] 31 (0,0)):=by rw[lq];exact WK.out
     have Dt:PG w1 pb tb r2 w9:=by rw[lq];exact qR.below jI
     have hx9:EX (λb=>w.heap.size+1<=b/\b≠bb) w9 (.slice (some (w8,0)) 2 2) (.mk 4 op 0 [] [e,f]):=by
      refine EX.two (x:=e) (y:=f) rfl ⟨aG,aG⟩ Nk ?_ ?_
      ·rw[lq];exact U2.alloc
      ·rw[lq];exact BD.alloc
     rw[<-lq];have⟨Gb,Pc⟩:=xq (w9.setRow bb #[.int .i64 4,I op, .int .i64 0, .string ⟨#[]⟩, .slice (some (w8,0)) 2 2]);have Ig:w9.grownBy Gb (some bb):=by rw[Pc];exact bJ
     have Oo:Row Gb bb 31 (l6 (.mk 4 op 0 [] [e,f]) (.slice (some (w8,0)) 2 2)):=by rw[Pc];exact setRow_heap _ _ _ _ _ _ M6
     have acp:Hid (PG w1 pb tb r2 Gb):=Dt.new aG Ig aG aG;have amc:=aF (hx9.grown Ig (λr e=>by cases e;exact λh=>h.2 rfl));rw[<-Pc];obtain⟨t2,vX,rfl⟩:=oK.cons;have Kn:=aF Oo;clear lq Nk M6 Dt hx9 Pc Ig Oo c0 c1 c2 c3 c4 d0 d1 d2 d3 d4 WK;go_wp2_with (go_at_call 258;refine aN (Yn pb tb lv t2 vX Gb acp.2) λw11 UF=> ?_;have amd:=aF (acp.below UF);have ame:=bA Kn UF;have amf:=aF (amc.grown (bX UF none) aJ))
     go_roundg g1
     case measure=>exact hg1
     case rel=>exact⟨.mk 4 op 0 [] [e,f],_,t2,vX,rfl,ama,aF ⟨amd,ame,amf,oK,al_⟩⟩
theorem J0:∀k j,j<=k->IP j
 |0,j,hj=>by
  obtain rfl:j=0:=aG
  refine⟨λpb tb ts us x w h he hx=> ?_,λpb tb nm ts us x w h he hx=> ?_,λpb tb lv ts us x w h he hx=> ?_⟩
  ·rw[tF]at hx;cases hx
  ·rw[nF]at hx;cases hx
  ·rw[cF]at hx;cases hx
 |k+1,j,hj=>by
  by_cases h:j<=k
  ·exact J0 k j h
  ·obtain rfl:j=k+1:=aG
   exact⟨λpb tb ts us x w h he hx=>agl (J0 k k fQ) pb tb ts us x w h he hx,
    λpb tb nm ts us x w h he hx=>agx (J0 k k fQ) pb tb nm ts us x w h he hx,
    λpb tb lv ts us x w h he hx=>agz (J0 k) pb tb lv ts us x w h he hx⟩
theorem eOk (k:Nat):IP k:=J0 k k fQ
end
end Go.Proofs.YtjgbkdbkachciaaGreatDoor
