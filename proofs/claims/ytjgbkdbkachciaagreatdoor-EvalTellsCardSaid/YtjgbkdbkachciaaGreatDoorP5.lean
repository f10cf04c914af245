import Derived.Test.YtjgbkdbkachciaaGreatDoorQ6
set_option linter.all false
namespace Go.Proofs.YtjgbkdbkachciaaGreatDoor
set_option maxRecDepth 100000
set_option maxHeartbeats 16000000
section
open Go.RowKit Go.Shelf
attribute [local go_sem] Oper.semAt_some
def Rs (d:Nat):Prop:=∀(p:LP) (vs:List aK) (x:LE) (B:Nat->Prop) (W:World) (av fv vv:Value) (C:Nat->Value),PX B W av fv p->aP B 1 dc W vv vs->RE d B W C x->
 CR 138 #[.agg #[av,fv],vv,eV x (C 4)] W (I (kL p vs x))
theorem Xq (d:Nat) (ih:∀j,d=j+1->Rs j):Rs d:=by
 intro p vs x B w av fv vv C hpx hvs hrx;have⟨Q,hQ⟩:=xq (kL p vs x);rw[<-hQ];have HQ:=aF hQ;obtain⟨j,rfl⟩:∃j,d=j+1:=by
  cases d with
  |zero=>exact hrx.elim
  |succ j=>exact⟨j,rfl⟩
 have hi:=ih j rfl;obtain⟨-, -, -, -,hx⟩:=hrx;obtain⟨xa,xc,hxv,hlen, -⟩:=id hx;obtain⟨aa,ac,fa,fc,rfl,rfl⟩:=hpx.slice;obtain⟨va,vc,rfl, -⟩:=id hvs;have⟨N,hN⟩:=xq x.args.length;have hNb:N<=1000000000:=aG;have⟨AN,iV⟩:=xq p.arrays.length;have⟨FN,nj⟩:=xq p.funcs.length;have⟨VN,qa⟩:=xq vs.length;have⟨ek,lT⟩:=xq x.kind;have⟨eo,mg⟩:=xq x.op;have⟨en,hen⟩:=xq x.n;have⟨nm,cJ⟩:=xq x.name;have hval:eV x (C 4)= .agg #[I ek,I eo,I en,S nm, .slice xa N xc]:=by rw[eV,hxv,lT,mg,hen,cJ,hN]
 rw[hval];rw[hxv,<-hN]at hx;rw[<-iV,<-nj]at hpx|-;rw[<-qa]at hvs|-;have hown0:∀c,qK p vs x=c->c≠0->Q=c:=λc h hc=>by rw[hQ,JN,h,if_neg hc]
 have hown1:qK p vs x=0->Q=jt (kL p vs) x.args:=λh=>by rw[hQ,JN,h,if_pos rfl,E0]
 have Kb:qK p vs x=if ek=2 then pQ (decide (nm∈vs)) 51 else if ek=6 then pQ (decide (0<=lK p nm)) 51 else if ek=5 then if ji p nm<0 then 51 else pQ (decide ((qJ p (ji p nm)).params.length=N)) 52 else 0:=by
  unfold qK;rw[lT,cJ,hN]
 have tV:=aF hown0;have fk:=aF hown1;have js:=aF Kb;obtain⟨w0,hw0⟩:∃w0,w0=(w.alloc (.cells #[.slice aa AN ac, .slice fa FN fc] 27)).alloc (.cells #[I ek,I eo,I en,S nm, .slice xa N xc] 31):=⟨_,rfl⟩;have dO:=hw0.symm;have hb0:Below w w w0:=by rw[hw0];exact nR _ _ _
 have hp0:Row w0 w 27 [.slice aa AN ac, .slice fa FN fc]:=by rw[hw0];exact dV _ _ hn0
 have b_:Row w0 (w,1) 31 [I ek,I eo,I en,S nm, .slice xa N xc]:=by rw[hw0];exact jF aH
 have bg:=aF hb0;have gT:=aF hp0;have oC:=aF b_;have jU:=aF (hpx.below hb0);have nO:=aF (show aP B 1 dc w0 (.slice va VN vc) vs from hvs.below hb0 (λC x h=>h));have HX:=aF (show aP B 5 (RE j B) w0 (.slice xa N xc) x.args from hx.below hb0 (λC x h=>RE.below hb0 h));have HI:=aF hi;have HN:=aF hN;have b0:=b_.k0;have b3:=b_.k3;have b4:=b_.k4;have p0:=hp0.k0;have p1:=hp0.k1;have eT:=aF nj;clear hQ hpx hvs hx hxv hlen hN iV nj qa lT mg hen cJ hval hw0 hb0 hp0 b_ hi ih hown0 hown1 Kb;go_enter Tryz.func138,Tryz.ntmps138;go_upto_region 2 with(fail)
 by_cases hk2:ek=2
 ·subst hk2;have⟨q,hq⟩:=xq (decide (nm∈vs));have hov:=js.out;rw[if_pos rfl,<-hq]at hov;have Bv:=aF (show Calls Tryz.prog 56 #[.slice va VN vc,S nm] w0 λe w'=>e= .returned (.bool q)/\w'=w0 by rw[hq];exact NJ w0 _ vs nm nO);clear hq;cases q
  ·obtain rfl:Q=51:=tV 51 (by rw[hov];rfl) aQ;clear hov;go_wp2_with (go_at_call 56;refine fX Bv ?_)
   go_ret;exact⟨rfl,bg⟩
  ·have gp:=aF (fk (by rw[hov];rfl));have bB:=aF (Below.refl w0.heap.size w0);clear hov tV fk js HQ;go_upto_region 14 with(go_at_call 56;refine fX Bv ?_)
   go_upto_region 15 with(fail)
   go_loopg [8] N (λgh i wr=>∃k:Nat,gh+k=N/\i=I k/\Hid (Below w0.heap.size w0 wr/\∀j,(hj:j<x.args.length)->j<k->kL p vs x.args[j]=0))
   case atStart=>exact⟨0,aG,rfl,aF ⟨bB,λj _ h=>absurd h aG⟩⟩
   case round=>
    obtain⟨k,hg,rfl,HH⟩:=hrel;obtain⟨wo,rfl⟩:=xq wr;have eN:=oC.ext HH.out.1;have b4:=eN.k4;have aR:=aF b4;have bH:=aF (gT.ext HH.out.1);clear eN;by_cases hlt:k<N
    ·have bT:(k:Int)<(N:Int):=aG;have hlt':k<x.args.length:=by rw[<-HN.out];exact hlt
     obtain⟨b,o,D,rfl,_,hD,dA⟩:=(show aP B 5 (RE j B) wo (.slice xa x.args.length xc) x.args by rw[<-HN.out];exact HX.below HH.out.1 (λC x h=>RE.below HH.out.1 h)).at hlt';have e0:=hD 0 aG;have e1:=hD 1 aG;have e2:=hD 2 aG;have e3:=hD 3 aG;have e4:=hD 4 aG;simp only[aA]at e0;obtain⟨hev, -⟩:=dA.ev;have⟨y,hyk⟩:=xq (x.args[k]);rw[<-hyk]at hev dA;have⟨c,hc⟩:=xq (kL p vs y);have hcall:=λW (hb:Below wo wo W)=>HI.out p vs y B W (.slice aa AN ac) (.slice fa FN fc) (.slice va VN vc) D ((jU.below HH.out.1).below hb) ((nO.below HH.out.1 (λC x h=>h)).below hb (λC x h=>h)) (RE.below hb dA)
     rw[<-hev,<-hc]at hcall;have jk:=aF hcall;have HE:=aF (And.intro e0 (And.intro e1 (And.intro e2 (And.intro e3 e4))));have jA:=aF hyk;have HC:=aF hc;clear hD dA hev hyk hc hcall e0 e1 e2 e3 e4;go_upto_region 17 with(fail)
     clear b4;refine cC (λW=>W.cell? (w,0)=some (.slice aa AN ac)/\W.cell? (w,1)=some (.slice fa FN fc)/\W.cell? (w,1,4)=some (.slice (some (b,o)) N xc)/\W.cell? (b,o+k*5)=some (D 0)/\W.cell? (b,o+k*5+1)=some (D 1)/\W.cell? (b,o+k*5+2)=some (D 2)/\W.cell? (b,o+k*5+3)=some (D 3)/\W.cell? (b,o+k*5+4)=some (D 4)) [0,0,0,0,0,0,0,1,0] (λwd hh=>⟨aO bH.out hh 0,aO bH.out hh 1,eP hh aR,bY hh HE.1,bY hh HE.2.1,bY hh HE.2.2.1,bY hh HE.2.2.2.1,bY hh HE.2.2.2.2⟩) λwd hh hgd hS=> ?_;have bE:=aF (show Below wo wo wd from(Below.refl _ _).grown hgd fQ aJ);clear hh hgd;refine nE ?_;go_wp2_with (go_at_call 138;refine aN (jk _ bE) λw1 hb1=> ?_;have aI:=aU bE hb1)
     clear hS;refine bw ⟨(bH.ext aI).cell 0,(bH.ext aI).cell 1,aS aR (aT aI) aH,aS HE.1 (aT aI) aH,aS HE.2.1 (aT aI) aH,aS HE.2.2.1 (aT aI) aH,aS HE.2.2.2.1 (aT aI) aH,aS HE.2.2.2.2 (aT aI) aH⟩ λhS=> ?_;refine wY ?_;clear hS;have ey:=aF (HH.out.1.trans (aI.mono HH.out.1.size));by_cases hc0:c=0
     ·subst hc0;go_wp2;go_roundg (N - (k+1))
      case measure=>omega
      case rel=>exact⟨k+1,aG,by go_num,aF ⟨ey,λj hj hjk=>by
       by_cases e:j=k
       ·subst e;rw[<-jA.out];exact HC.out.symm
       ·exact HH.out.2 j hj aG⟩⟩
     ·have hcb:(c !=0)=true:=by rw[bne_iff_ne];exact hc0
      have hend:Q=c:=by
       rw[gp.out,xJ hlt' (λj hj=>HH.out.2 j aG hj) (by rw[<-jA.out,<-HC.out];exact hc0),<-jA.out,HC.out]
      subst hend;go_wp2;go_ret;exact⟨rfl,bg.out.trans (ey.mono bg.size)⟩
    ·have bT: ¬(k:Int)<(N:Int):=aG;have hend:Q=0:=by
      rw[gp.out];exact xH λj hj=>HH.out.2 j hj (cw HN)
     subst hend;go_wp2;go_ret;exact⟨rfl,bg.out.trans (HH.out.1.mono bg.size)⟩
 by_cases mX:ek=6
 ·subst mX;have⟨q,hq⟩:=xq (lK p nm);have hov:=js.out;rw[if_neg aQ,if_pos rfl,<-hq]at hov;have mV:=aF (show Calls Tryz.prog 137 #[.agg #[.slice aa AN ac, .slice fa FN fc],S nm] w0 λe w'=>e= .returned (I q)/\Below w0.heap.size w0 w' by rw[hq];exact Ns p nm _ _ w0 B jU);clear hq;by_cases hq0:q<0
  ·obtain rfl:Q=51:=tV 51 (by rw[hov,decide_eq_false aG];rfl) aQ;clear hov;go_wp2_with (go_at_call 137;refine aN mV λw1 aI=> ?_)
   go_ret;exact⟨rfl,bg.out.trans (aI.mono bg.size)⟩
  ·have gp:=aF (fk (by rw[hov,decide_eq_true aG];rfl));clear hov tV fk js HQ;go_upto_region 14 with(go_at_call 137;refine aN mV λw1 bB=> ?_)
   clear b0 b3 b4 p0 p1;go_upto_region 15 with(fail)
   go_loopg [8] N (λgh i wr=>∃k:Nat,gh+k=N/\i=I k/\Hid (Below w0.heap.size w0 wr/\∀j,(hj:j<x.args.length)->j<k->kL p vs x.args[j]=0))
   case atStart=>exact⟨0,aG,rfl,aF ⟨bB,λj _ h=>absurd h aG⟩⟩
   case round=>
    obtain⟨k,hg,rfl,HH⟩:=hrel;obtain⟨wo,rfl⟩:=xq wr;have eN:=oC.ext HH.out.1;have b4:=eN.k4;have aR:=aF b4;have bH:=aF (gT.ext HH.out.1);clear eN;by_cases hlt:k<N
    ·have bT:(k:Int)<(N:Int):=aG;have hlt':k<x.args.length:=by rw[<-HN.out];exact hlt
     obtain⟨b,o,D,rfl,_,hD,dA⟩:=(show aP B 5 (RE j B) wo (.slice xa x.args.length xc) x.args by rw[<-HN.out];exact HX.below HH.out.1 (λC x h=>RE.below HH.out.1 h)).at hlt';have e0:=hD 0 aG;have e1:=hD 1 aG;have e2:=hD 2 aG;have e3:=hD 3 aG;have e4:=hD 4 aG;simp only[aA]at e0;obtain⟨hev, -⟩:=dA.ev;have⟨y,hyk⟩:=xq (x.args[k]);rw[<-hyk]at hev dA;have⟨c,hc⟩:=xq (kL p vs y);have hcall:=λW (hb:Below wo wo W)=>HI.out p vs y B W (.slice aa AN ac) (.slice fa FN fc) (.slice va VN vc) D ((jU.below HH.out.1).below hb) ((nO.below HH.out.1 (λC x h=>h)).below hb (λC x h=>h)) (RE.below hb dA)
     rw[<-hev,<-hc]at hcall;have jk:=aF hcall;have HE:=aF (And.intro e0 (And.intro e1 (And.intro e2 (And.intro e3 e4))));have jA:=aF hyk;have HC:=aF hc;clear hD dA hev hyk hc hcall e0 e1 e2 e3 e4;go_upto_region 17 with(fail)
     clear b4;refine cC (λW=>W.cell? (w,0)=some (.slice aa AN ac)/\W.cell? (w,1)=some (.slice fa FN fc)/\W.cell? (w,1,4)=some (.slice (some (b,o)) N xc)/\W.cell? (b,o+k*5)=some (D 0)/\W.cell? (b,o+k*5+1)=some (D 1)/\W.cell? (b,o+k*5+2)=some (D 2)/\W.cell? (b,o+k*5+3)=some (D 3)/\W.cell? (b,o+k*5+4)=some (D 4)) [0,0,0,0,0,0,0,1,0] (λwd hh=>⟨aO bH.out hh 0,aO bH.out hh 1,eP hh aR,bY hh HE.1,bY hh HE.2.1,bY hh HE.2.2.1,bY hh HE.2.2.2.1,bY hh HE.2.2.2.2⟩) λwd hh hgd hS=> ?_;have bE:=aF (show Below wo wo wd from(Below.refl _ _).grown hgd fQ aJ);clear hh hgd;refine nE ?_;go_wp2_with (go_at_call 138;refine aN (jk _ bE) λw1 hb1=> ?_;have aI:=aU bE hb1)
     clear hS;refine bw ⟨(bH.ext aI).cell 0,(bH.ext aI).cell 1,aS aR (aT aI) aH,aS HE.1 (aT aI) aH,aS HE.2.1 (aT aI) aH,aS HE.2.2.1 (aT aI) aH,aS HE.2.2.2.1 (aT aI) aH,aS HE.2.2.2.2 (aT aI) aH⟩ λhS=> ?_;refine wY ?_;clear hS;have ey:=aF (HH.out.1.trans (aI.mono HH.out.1.size));by_cases hc0:c=0
     ·subst hc0;go_wp2;go_roundg (N - (k+1))
      case measure=>omega
      case rel=>exact⟨k+1,aG,by go_num,aF ⟨ey,λj hj hjk=>by
       by_cases e:j=k
       ·subst e;rw[<-jA.out];exact HC.out.symm
       ·exact HH.out.2 j hj aG⟩⟩
     ·have hcb:(c !=0)=true:=by rw[bne_iff_ne];exact hc0
      have hend:Q=c:=by
       rw[gp.out,xJ hlt' (λj hj=>HH.out.2 j aG hj) (by rw[<-jA.out,<-HC.out];exact hc0),<-jA.out,HC.out]
      subst hend;go_wp2;go_ret;exact⟨rfl,bg.out.trans (ey.mono bg.size)⟩
    ·have bT: ¬(k:Int)<(N:Int):=aG;have hend:Q=0:=by
      rw[gp.out];exact xH λj hj=>HH.out.2 j hj (cw HN)
     subst hend;go_wp2;go_ret;exact⟨rfl,bg.out.trans (HH.out.1.mono bg.size)⟩
 by_cases cg:ek=5
 ·subst cg;have⟨q,hq⟩:=xq (ji p nm);have hov:=js.out;rw[if_neg aQ,if_neg aQ,if_pos rfl,<-hq]at hov;have eG:=aF (show Calls Tryz.prog 35 #[.agg #[.slice aa AN ac, .slice fa FN fc],S nm] w0 λe w'=>e= .returned (I q)/\Below w0.heap.size w0 w' by rw[hq];exact Nt p nm _ _ w0 B jU);by_cases hq0:q<0
  ·clear hq;rw[if_pos hq0]at hov;obtain rfl:Q=51:=tV 51 hov aQ;clear hov;go_wp2_with (go_at_call 35;refine aN eG λw1 aI=> ?_)
   go_ret;exact⟨rfl,bg.out.trans (aI.mono bg.size)⟩
  ·rw[if_neg hq0]at hov;obtain⟨m,hm,pG⟩:=A3 (t:=λf:LF=>decide (f.name=nm)) (l:=p.funcs) (by rw[show ny (λf:LF=>decide (f.name=nm)) p.funcs=q from hq.symm];exact hq0);obtain rfl:q=(m:Int):=hq.trans hm;obtain⟨pn,jx⟩:∃n,n=(qJ p (m:Int)).params.length:=⟨_,rfl⟩;rw[<-jx]at hov;have⟨pf,Bt⟩:=xq (p.funcs[m]'pG);have ack:pn=pf.params.length:=by rw[jx,Bt,qJ,Int.toNat_natCast,List.getD_eq_getElem?_getD,ah pG];rfl
   have vh:=aF ack;have Mr:=aF (show∃h:m<p.funcs.length,pf=p.funcs[m]'h from⟨pG,Bt⟩);have s9:(m:Int)<(FN:Int):=by have:=eT.out;omega
   clear hq hm jx ack Bt pG;go_upto_region 12 with(go_at_call 35;refine aN eG λw1 bB=> ?_)
   obtain⟨fb,fo,D,rfl,_,hD,hrf⟩:=(show aP B 4 (RF B) w1 (.slice fa p.funcs.length fc) p.funcs by rw[<-eT.out];exact(jU.below bB).funcs).at Mr.1;rw[<-Mr.2]at hrf;obtain⟨IL,IM,qx, -⟩:=hrf.2.1;have e1:=hD 1 aG;rw[qx,<-vh.out]at e1;have pY:=aF e1;have iy:=bA gT bB;have bC:=bA oC bB;clear hD hrf qx e1 b0 b3 b4 p0 p1;refine cC (λW=>W.cell? (w,1)=some (.slice (some (fb,fo)) FN fc)/\W.cell? (w,1,4)=some (.slice xa N xc)/\W.cell? (fb,fo+m*4+1)=some (.slice IL pn IM)) [0,0,0,0,0,0,0,0,0,0,0] (λwd hh=>⟨aO iy.out hh 1,aO bC.out hh 4,eP hh pY⟩) λwd hh hgd hS=> ?_;have bE:=dF bB hgd;clear hh hgd;by_cases hpe:pn=N
   ·obtain rfl:=hpe.symm;have gp:=aF (fk (by rw[hov,decide_eq_true rfl];rfl));clear hov tV fk js HQ;refine Bg ?_;refine wY ?_;clear hS;go_upto_region 14 with(fail)
    go_upto_region 15 with(fail)
    go_loopg [8] N (λgh i wr=>∃k:Nat,gh+k=N/\i=I k/\Hid (Below w0.heap.size w0 wr/\∀j,(hj:j<x.args.length)->j<k->kL p vs x.args[j]=0))
    case atStart=>exact⟨0,aG,rfl,aF ⟨bE,λj _ h=>absurd h aG⟩⟩
    case round=>
     obtain⟨k,hg,rfl,HH⟩:=hrel;obtain⟨wo,rfl⟩:=xq wr;have eN:=oC.ext HH.out.1;have b4:=eN.k4;have aR:=aF b4;have bH:=aF (gT.ext HH.out.1);clear eN;by_cases hlt:k<N
     ·have bT:(k:Int)<(N:Int):=aG;have hlt':k<x.args.length:=by rw[<-HN.out];exact hlt
      obtain⟨b,o,D,rfl,_,hD,dA⟩:=(show aP B 5 (RE j B) wo (.slice xa x.args.length xc) x.args by rw[<-HN.out];exact HX.below HH.out.1 (λC x h=>RE.below HH.out.1 h)).at hlt';have e0:=hD 0 aG;have e1:=hD 1 aG;have e2:=hD 2 aG;have e3:=hD 3 aG;have e4:=hD 4 aG;simp only[aA]at e0;obtain⟨hev, -⟩:=dA.ev;have⟨y,hyk⟩:=xq (x.args[k]);rw[<-hyk]at hev dA;have⟨c,hc⟩:=xq (kL p vs y);have hcall:=λW (hb:Below wo wo W)=>HI.out p vs y B W (.slice aa AN ac) (.slice (some (fb,fo)) FN fc) (.slice va VN vc) D ((jU.below HH.out.1).below hb) ((nO.below HH.out.1 (λC x h=>h)).below hb (λC x h=>h)) (RE.below hb dA)
      rw[<-hev,<-hc]at hcall;have jk:=aF hcall;have HE:=aF (And.intro e0 (And.intro e1 (And.intro e2 (And.intro e3 e4))));have jA:=aF hyk;have HC:=aF hc;clear hD dA hev hyk hc hcall e0 e1 e2 e3 e4;go_upto_region 17 with(fail)
      clear b4;refine cC (λW=>W.cell? (w,0)=some (.slice aa AN ac)/\W.cell? (w,1)=some (.slice (some (fb,fo)) FN fc)/\W.cell? (w,1,4)=some (.slice (some (b,o)) N xc)/\W.cell? (b,o+k*5)=some (D 0)/\W.cell? (b,o+k*5+1)=some (D 1)/\W.cell? (b,o+k*5+2)=some (D 2)/\W.cell? (b,o+k*5+3)=some (D 3)/\W.cell? (b,o+k*5+4)=some (D 4)) [0,0,0,0,0,0,0,1,0] (λwd hh=>⟨aO bH.out hh 0,aO bH.out hh 1,eP hh aR,bY hh HE.1,bY hh HE.2.1,bY hh HE.2.2.1,bY hh HE.2.2.2.1,bY hh HE.2.2.2.2⟩) λwd hh hgd hS=> ?_;have bE:=aF (show Below wo wo wd from(Below.refl _ _).grown hgd fQ aJ);clear hh hgd;refine nE ?_;go_wp2_with (go_at_call 138;refine aN (jk _ bE) λw1 hb1=> ?_;have aI:=aU bE hb1)
      clear hS;refine bw ⟨(bH.ext aI).cell 0,(bH.ext aI).cell 1,aS aR (aT aI) aH,aS HE.1 (aT aI) aH,aS HE.2.1 (aT aI) aH,aS HE.2.2.1 (aT aI) aH,aS HE.2.2.2.1 (aT aI) aH,aS HE.2.2.2.2 (aT aI) aH⟩ λhS=> ?_;refine wY ?_;clear hS;have ey:=aF (HH.out.1.trans (aI.mono HH.out.1.size));by_cases hc0:c=0
      ·subst hc0;go_wp2;go_roundg (N - (k+1))
       case measure=>omega
       case rel=>exact⟨k+1,aG,by go_num,aF ⟨ey,λj hj hjk=>by
        by_cases e:j=k
        ·subst e;rw[<-jA.out];exact HC.out.symm
        ·exact HH.out.2 j hj aG⟩⟩
      ·have hcb:(c !=0)=true:=by rw[bne_iff_ne];exact hc0
       have hend:Q=c:=by
        rw[gp.out,xJ hlt' (λj hj=>HH.out.2 j aG hj) (by rw[<-jA.out,<-HC.out];exact hc0),<-jA.out,HC.out]
       subst hend;go_wp2;go_ret;exact⟨rfl,bg.out.trans (ey.mono bg.size)⟩
     ·have bT: ¬(k:Int)<(N:Int):=aG;have hend:Q=0:=by
       rw[gp.out];exact xH λj hj=>HH.out.2 j hj (cw HN)
      subst hend;go_wp2;go_ret;exact⟨rfl,bg.out.trans (HH.out.1.mono bg.size)⟩
   ·have hpb:((pn:Int) !=(N:Int))=true:=by rw[bne_iff_ne];omega
    obtain rfl:Q=52:=tV 52 (by rw[hov,decide_eq_false hpe];rfl) aQ;clear hov hpe;refine Bg ?_;refine wY ?_;clear hS;go_wp2;go_ret;exact⟨rfl,bg.out.trans (bE.mono bg.size)⟩
 have k2:(ek==2)=false:=bu hk2;have k6:(ek==6)=false:=bu mX;have k5:(ek==5)=false:=bu cg;have gp:=aF (fk (by rw[js.out,if_neg hk2,if_neg mX,if_neg cg]));have bB:=aF (Below.refl w0.heap.size w0);clear hk2 mX cg tV fk js HQ;go_upto_region 14 with(fail)
 go_upto_region 15 with(fail)
 go_loopg [8] N (λgh i wr=>∃k:Nat,gh+k=N/\i=I k/\Hid (Below w0.heap.size w0 wr/\∀j,(hj:j<x.args.length)->j<k->kL p vs x.args[j]=0))
 case atStart=>exact⟨0,aG,rfl,aF ⟨bB,λj _ h=>absurd h aG⟩⟩
 case round=>
  obtain⟨k,hg,rfl,HH⟩:=hrel;obtain⟨wo,rfl⟩:=xq wr;have eN:=oC.ext HH.out.1;have b4:=eN.k4;have aR:=aF b4;have bH:=aF (gT.ext HH.out.1);clear eN;by_cases hlt:k<N
  ·have bT:(k:Int)<(N:Int):=aG;have hlt':k<x.args.length:=by rw[<-HN.out];exact hlt
   obtain⟨b,o,D,rfl,_,hD,dA⟩:=(show aP B 5 (RE j B) wo (.slice xa x.args.length xc) x.args by rw[<-HN.out];exact HX.below HH.out.1 (λC x h=>RE.below HH.out.1 h)).at hlt';have e0:=hD 0 aG;have e1:=hD 1 aG;have e2:=hD 2 aG;have e3:=hD 3 aG;have e4:=hD 4 aG;simp only[aA]at e0;obtain⟨hev, -⟩:=dA.ev;have⟨y,hyk⟩:=xq (x.args[k]);rw[<-hyk]at hev dA;have⟨c,hc⟩:=xq (kL p vs y);have hcall:=λW (hb:Below wo wo W)=>HI.out p vs y B W (.slice aa AN ac) (.slice fa FN fc) (.slice va VN vc) D ((jU.below HH.out.1).below hb) ((nO.below HH.out.1 (λC x h=>h)).below hb (λC x h=>h)) (RE.below hb dA)
   rw[<-hev,<-hc]at hcall;have jk:=aF hcall;have HE:=aF (And.intro e0 (And.intro e1 (And.intro e2 (And.intro e3 e4))));have jA:=aF hyk;have HC:=aF hc;clear hD dA hev hyk hc hcall e0 e1 e2 e3 e4;go_upto_region 17 with(fail)
   clear b4;refine cC (λW=>W.cell? (w,0)=some (.slice aa AN ac)/\W.cell? (w,1)=some (.slice fa FN fc)/\W.cell? (w,1,4)=some (.slice (some (b,o)) N xc)/\W.cell? (b,o+k*5)=some (D 0)/\W.cell? (b,o+k*5+1)=some (D 1)/\W.cell? (b,o+k*5+2)=some (D 2)/\W.cell? (b,o+k*5+3)=some (D 3)/\W.cell? (b,o+k*5+4)=some (D 4)) [0,0,0,0,0,0,0,1,0] (λwd hh=>⟨aO bH.out hh 0,aO bH.out hh 1,eP hh aR,bY hh HE.1,bY hh HE.2.1,bY hh HE.2.2.1,bY hh HE.2.2.2.1,bY hh HE.2.2.2.2⟩) λwd hh hgd hS=> ?_;have bE:=aF (show Below wo wo wd from(Below.refl _ _).grown hgd fQ aJ);clear hh hgd;refine nE ?_;go_wp2_with (go_at_call 138;refine aN (jk _ bE) λw1 hb1=> ?_;have aI:=aU bE hb1)
   clear hS;refine bw ⟨(bH.ext aI).cell 0,(bH.ext aI).cell 1,aS aR (aT aI) aH,aS HE.1 (aT aI) aH,aS HE.2.1 (aT aI) aH,aS HE.2.2.1 (aT aI) aH,aS HE.2.2.2.1 (aT aI) aH,aS HE.2.2.2.2 (aT aI) aH⟩ λhS=> ?_;refine wY ?_;clear hS;have ey:=aF (HH.out.1.trans (aI.mono HH.out.1.size));by_cases hc0:c=0
   ·subst hc0;go_wp2;go_roundg (N - (k+1))
    case measure=>omega
    case rel=>exact⟨k+1,aG,by go_num,aF ⟨ey,λj hj hjk=>by
     by_cases e:j=k
     ·subst e;rw[<-jA.out];exact HC.out.symm
     ·exact HH.out.2 j hj aG⟩⟩
   ·have hcb:(c !=0)=true:=by rw[bne_iff_ne];exact hc0
    have hend:Q=c:=by
     rw[gp.out,xJ hlt' (λj hj=>HH.out.2 j aG hj) (by rw[<-jA.out,<-HC.out];exact hc0),<-jA.out,HC.out]
    subst hend;go_wp2;go_ret;exact⟨rfl,bg.out.trans (ey.mono bg.size)⟩
  ·have bT: ¬(k:Int)<(N:Int):=aG;have hend:Q=0:=by
    rw[gp.out];exact xH λj hj=>HH.out.2 j hj (cw HN)
   subst hend;go_wp2;go_ret;exact⟨rfl,bg.out.trans (HH.out.1.mono bg.size)⟩
theorem G9:∀d,Rs d
 |0=>Xq 0 aJ
 |d+1=>Xq (d+1) (λj e=>by
   obtain rfl:j=d:=aG
   exact G9 j)
end
end Go.Proofs.YtjgbkdbkachciaaGreatDoor
