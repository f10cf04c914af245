import Derived.Test.YtjgbkdbkachciaaGreatDoorP5
set_option linter.all false
namespace Go.Proofs.YtjgbkdbkachciaaGreatDoor
set_option maxRecDepth 100000
set_option maxHeartbeats 16000000
section
open Go.RowKit Go.Shelf
attribute [local go_sem] Oper.semAt_some
theorem agU (p:LP) (vs:List aK) (x:LS) (loop:Bool) (B:Nat->Prop) (w:World) (av fv vv PN Vz VA:Value) (hpx:PX B w av fv p) (hvs:aP B 1 dc w vv vs) (hx:AX B w PN x.args) (Bu:∃a n c,Vz= .slice a n c) (kS:∃a n c,VA= .slice a n c):
 CR 97 #[.agg #[av,fv],vv,sV x PN Vz VA, .bool loop] w (I (oO p vs loop x)):=by
 have⟨Q,hQ⟩:=xq (oO p vs loop x);rw[<-hQ];have HQ:=aF hQ;obtain⟨PO,PR,PT,rfl⟩:=Bu;obtain⟨PU,PV,PW,rfl⟩:=kS;obtain⟨xa,xc,hxv⟩:=hx.slice;have⟨N,hN⟩:=xq x.args.length;rw[show(LE.mk 0 0 0 [] x.args).args.length=N from hN.symm]at hxv;have hNb:N<=1000000000:=by
  obtain⟨_,_,_,_,h, -⟩:=id hx;rw[hN];exact h
 obtain⟨aa,ac,fa,fc,rfl,rfl⟩:=hpx.slice;obtain⟨va,vc,rfl, -⟩:=id hvs;have⟨AN,iV⟩:=xq p.arrays.length;have⟨FN,nj⟩:=xq p.funcs.length;have⟨VN,qa⟩:=xq vs.length;have⟨sk,hsk⟩:=xq x.kind;have⟨nm,cJ⟩:=xq x.name;have hval:sV x PN (.slice PO PR PT) (.slice PU PV PW)= .agg #[I sk,S nm, .slice xa N xc, .slice PO PR PT, .slice PU PV PW]:=by rw[sV,hxv,hsk,cJ]
 rw[hval];rw[hxv]at hx;rw[<-iV,<-nj]at hpx|-;rw[<-qa]at hvs|-;have hown0:∀c,qi p vs loop x=c->c≠0->Q=c:=λc h hc=>by rw[hQ,JY h hc]
 have hown1:qi p vs loop x=0->Q=jt (kL p vs) x.args:=λh=>by rw[hQ,Ht h,E0]
 have Kb:qi p vs loop x=if sk=5\/sk=6 then pQ loop 53 else if sk=1 then pQ (decide (nm∈vs)) 51 else if sk=2 then pQ (decide (0<=lK p nm)) 51 else 0:=by
  unfold qi;rw[hsk,cJ]
 have tV:=aF hown0;have fk:=aF hown1;have js:=aF Kb;obtain⟨w0,hw0⟩:∃w0,w0=(w.alloc (.cells #[.slice aa AN ac, .slice fa FN fc] 27)).alloc (.cells #[I sk,S nm, .slice xa N xc, .slice PO PR PT, .slice PU PV PW] 54):=⟨_,rfl⟩;have dO:=hw0.symm;have hb0:Below w w w0:=by rw[hw0];exact nR _ _ _
 have hp0:Row w0 w 27 [.slice aa AN ac, .slice fa FN fc]:=by rw[hw0];exact dV _ _ hn0
 have b_:Row w0 (w,1) 54 [I sk,S nm, .slice xa N xc, .slice PO PR PT, .slice PU PV PW]:=by rw[hw0];exact jF aH
 have bg:=aF hb0;have gT:=aF hp0;have oC:=aF b_;have jU:=aF (hpx.below hb0);have nO:=aF (show aP B 1 dc w0 (.slice va VN vc) vs from hvs.below hb0 (λC x h=>h));obtain⟨dj,hdj⟩:=EX.grown hx (bX hb0 none) aJ;have HX:=aF (show aP B 5 (RE dj B) w0 (.slice xa N xc) x.args from hdj);have HN:=aF hN;have b0:=b_.k0;have b1:=b_.k1;have b2:=b_.k2;have p0:=hp0.k0;have p1:=hp0.k1;clear hQ hpx hvs hx hxv hN iV nj qa hsk cJ hval hw0 hb0 hp0 b_ hown0 hown1 Kb hdj;go_enter Tryz.func97,Tryz.ntmps97;go_upto_region 2 with(fail)
 by_cases Lu:sk=5\/sk=6
 ·have hov:=js.out;rw[if_pos Lu]at hov;cases loop
  ·obtain rfl:Q=53:=tV 53 (by rw[hov];rfl) aQ;clear hov;rcases Lu with rfl|rfl
   all_goals
    go_wp2;go_ret;exact⟨rfl,bg⟩
  ·have gp:=aF (fk (by rw[hov];rfl));have bB:=aF (Below.refl w0.heap.size w0);clear hov tV fk js HQ;rcases Lu with rfl|rfl
   ·go_upto_region 12 with(fail)
    go_upto_region 13 with(fail)
    go_loopg [9] N (λgh i wr=>∃k:Nat,gh+k=N/\i=I k/\Hid (Below w0.heap.size w0 wr/\∀j,(hj:j<x.args.length)->j<k->kL p vs x.args[j]=0))
    case atStart=>exact⟨0,aG,rfl,aF ⟨bB,λj _ h=>absurd h aG⟩⟩
    case round=>
     obtain⟨k,hg,rfl,HH⟩:=hrel;obtain⟨wo,rfl⟩:=xq wr;have eN:=oC.ext HH.out.1;have b4:=eN.k2;have aR:=aF b4;have bH:=aF (gT.ext HH.out.1);clear eN;by_cases hlt:k<N
     ·have bT:(k:Int)<(N:Int):=aG;have hlt':k<x.args.length:=by rw[<-HN.out];exact hlt
      obtain⟨b,o,D,rfl,_,hD,dA⟩:=(show aP B 5 (RE dj B) wo (.slice xa x.args.length xc) x.args by rw[<-HN.out];exact HX.below HH.out.1 (λC x h=>RE.below HH.out.1 h)).at hlt';have e0:=hD 0 aG;have e1:=hD 1 aG;have e2:=hD 2 aG;have e3:=hD 3 aG;have e4:=hD 4 aG;simp only[aA]at e0;obtain⟨hev, -⟩:=dA.ev;have⟨y,hyk⟩:=xq (x.args[k]);rw[<-hyk]at hev dA;have⟨c,hc⟩:=xq (kL p vs y);have hcall:=λW (hb:Below wo wo W)=>G9 dj p vs y B W (.slice aa AN ac) (.slice fa FN fc) (.slice va VN vc) D ((jU.below HH.out.1).below hb) ((nO.below HH.out.1 (λC x h=>h)).below hb (λC x h=>h)) (RE.below hb dA)
      rw[<-hev,<-hc]at hcall;have jk:=aF hcall;have HE:=aF (And.intro e0 (And.intro e1 (And.intro e2 (And.intro e3 e4))));have jA:=aF hyk;have HC:=aF hc;clear hD dA hev hyk hc hcall e0 e1 e2 e3 e4;go_upto_region 15 with(fail)
      clear b4;refine cC (λW=>W.cell? (w,0)=some (.slice aa AN ac)/\W.cell? (w,1)=some (.slice fa FN fc)/\W.cell? (w,1,2)=some (.slice (some (b,o)) N xc)/\W.cell? (b,o+k*5)=some (D 0)/\W.cell? (b,o+k*5+1)=some (D 1)/\W.cell? (b,o+k*5+2)=some (D 2)/\W.cell? (b,o+k*5+3)=some (D 3)/\W.cell? (b,o+k*5+4)=some (D 4)) [0,0,0,0,0,0,0,1,0] (λwd hh=>⟨aO bH.out hh 0,aO bH.out hh 1,eP hh aR,bY hh HE.1,bY hh HE.2.1,bY hh HE.2.2.1,bY hh HE.2.2.2.1,bY hh HE.2.2.2.2⟩) λwd hh hgd hS=> ?_;have bE:=aF (show Below wo wo wd from(Below.refl _ _).grown hgd fQ aJ);clear hh hgd;refine nE ?_;go_wp2_with (go_at_call 138;refine aN (jk _ bE) λw1 hb1=> ?_;have aI:=aU bE hb1)
      clear hS;refine bw ⟨(bH.ext aI).cell 0,(bH.ext aI).cell 1,aS aR (aT aI) aH,aS HE.1 (aT aI) aH,aS HE.2.1 (aT aI) aH,aS HE.2.2.1 (aT aI) aH,aS HE.2.2.2.1 (aT aI) aH,aS HE.2.2.2.2 (aT aI) aH⟩ λhS=> ?_;refine wY ?_;clear hS;have ey:=aF (HH.out.1.trans (aI.mono HH.out.1.size));by_cases hc0:c=0
      ·subst hc0;go_wp2;go_roundg (N - (k+1))
       case measure=>omega
       case rel=>exact⟨k+1,aG,by go_num,aF ⟨ey,λj hj hjk=>by
        by_cases e:j=k
        ·subst e;rw[<-jA.out];exact HC.out.symm
        ·exact HH.out.2 j hj aG⟩⟩
      ·have hcb:(c !=0)=true:=by rw[bne_iff_ne];exact hc0
       have hend:Q=c:=by
        rw[gp.out,xJ hlt' (λj hj=>HH.out.2 j aG hj) (by rw[<-jA.out,<-HC.out];exact hc0),<-jA.out,HC.out]
       subst hend;go_wp2;go_ret;exact⟨rfl,bg.out.trans (ey.mono bg.size)⟩
     ·have bT: ¬(k:Int)<(N:Int):=aG;have hend:Q=0:=by
       rw[gp.out];exact xH λj hj=>HH.out.2 j hj (cw HN)
      subst hend;go_wp2;go_ret;exact⟨rfl,bg.out.trans (HH.out.1.mono bg.size)⟩
   ·go_upto_region 12 with(fail)
    go_upto_region 13 with(fail)
    go_loopg [9] N (λgh i wr=>∃k:Nat,gh+k=N/\i=I k/\Hid (Below w0.heap.size w0 wr/\∀j,(hj:j<x.args.length)->j<k->kL p vs x.args[j]=0))
    case atStart=>exact⟨0,aG,rfl,aF ⟨bB,λj _ h=>absurd h aG⟩⟩
    case round=>
     obtain⟨k,hg,rfl,HH⟩:=hrel;obtain⟨wo,rfl⟩:=xq wr;have eN:=oC.ext HH.out.1;have b4:=eN.k2;have aR:=aF b4;have bH:=aF (gT.ext HH.out.1);clear eN;by_cases hlt:k<N
     ·have bT:(k:Int)<(N:Int):=aG;have hlt':k<x.args.length:=by rw[<-HN.out];exact hlt
      obtain⟨b,o,D,rfl,_,hD,dA⟩:=(show aP B 5 (RE dj B) wo (.slice xa x.args.length xc) x.args by rw[<-HN.out];exact HX.below HH.out.1 (λC x h=>RE.below HH.out.1 h)).at hlt';have e0:=hD 0 aG;have e1:=hD 1 aG;have e2:=hD 2 aG;have e3:=hD 3 aG;have e4:=hD 4 aG;simp only[aA]at e0;obtain⟨hev, -⟩:=dA.ev;have⟨y,hyk⟩:=xq (x.args[k]);rw[<-hyk]at hev dA;have⟨c,hc⟩:=xq (kL p vs y);have hcall:=λW (hb:Below wo wo W)=>G9 dj p vs y B W (.slice aa AN ac) (.slice fa FN fc) (.slice va VN vc) D ((jU.below HH.out.1).below hb) ((nO.below HH.out.1 (λC x h=>h)).below hb (λC x h=>h)) (RE.below hb dA)
      rw[<-hev,<-hc]at hcall;have jk:=aF hcall;have HE:=aF (And.intro e0 (And.intro e1 (And.intro e2 (And.intro e3 e4))));have jA:=aF hyk;have HC:=aF hc;clear hD dA hev hyk hc hcall e0 e1 e2 e3 e4;go_upto_region 15 with(fail)
      clear b4;refine cC (λW=>W.cell? (w,0)=some (.slice aa AN ac)/\W.cell? (w,1)=some (.slice fa FN fc)/\W.cell? (w,1,2)=some (.slice (some (b,o)) N xc)/\W.cell? (b,o+k*5)=some (D 0)/\W.cell? (b,o+k*5+1)=some (D 1)/\W.cell? (b,o+k*5+2)=some (D 2)/\W.cell? (b,o+k*5+3)=some (D 3)/\W.cell? (b,o+k*5+4)=some (D 4)) [0,0,0,0,0,0,0,1,0] (λwd hh=>⟨aO bH.out hh 0,aO bH.out hh 1,eP hh aR,bY hh HE.1,bY hh HE.2.1,bY hh HE.2.2.1,bY hh HE.2.2.2.1,bY hh HE.2.2.2.2⟩) λwd hh hgd hS=> ?_;have bE:=aF (show Below wo wo wd from(Below.refl _ _).grown hgd fQ aJ);clear hh hgd;refine nE ?_;go_wp2_with (go_at_call 138;refine aN (jk _ bE) λw1 hb1=> ?_;have aI:=aU bE hb1)
      clear hS;refine bw ⟨(bH.ext aI).cell 0,(bH.ext aI).cell 1,aS aR (aT aI) aH,aS HE.1 (aT aI) aH,aS HE.2.1 (aT aI) aH,aS HE.2.2.1 (aT aI) aH,aS HE.2.2.2.1 (aT aI) aH,aS HE.2.2.2.2 (aT aI) aH⟩ λhS=> ?_;refine wY ?_;clear hS;have ey:=aF (HH.out.1.trans (aI.mono HH.out.1.size));by_cases hc0:c=0
      ·subst hc0;go_wp2;go_roundg (N - (k+1))
       case measure=>omega
       case rel=>exact⟨k+1,aG,by go_num,aF ⟨ey,λj hj hjk=>by
        by_cases e:j=k
        ·subst e;rw[<-jA.out];exact HC.out.symm
        ·exact HH.out.2 j hj aG⟩⟩
      ·have hcb:(c !=0)=true:=by rw[bne_iff_ne];exact hc0
       have hend:Q=c:=by
        rw[gp.out,xJ hlt' (λj hj=>HH.out.2 j aG hj) (by rw[<-jA.out,<-HC.out];exact hc0),<-jA.out,HC.out]
       subst hend;go_wp2;go_ret;exact⟨rfl,bg.out.trans (ey.mono bg.size)⟩
     ·have bT: ¬(k:Int)<(N:Int):=aG;have hend:Q=0:=by
       rw[gp.out];exact xH λj hj=>HH.out.2 j hj (cw HN)
      subst hend;go_wp2;go_ret;exact⟨rfl,bg.out.trans (HH.out.1.mono bg.size)⟩
 have k5:(sk==5)=false:=bD;have k6:(sk==6)=false:=bD;by_cases hk1:sk=1
 ·subst hk1;have⟨q,hq⟩:=xq (decide (nm∈vs));have hov:=js.out;rw[if_neg aQ,if_pos rfl,<-hq]at hov;have Bv:=aF (show Calls Tryz.prog 56 #[.slice va VN vc,S nm] w0 λe w'=>e= .returned (.bool q)/\w'=w0 by rw[hq];exact NJ w0 _ vs nm nO);clear hq;cases q
  ·obtain rfl:Q=51:=tV 51 (by rw[hov];rfl) aQ;clear hov;go_wp2_with (go_at_call 56;refine fX Bv ?_)
   go_ret;exact⟨rfl,bg⟩
  ·have gp:=aF (fk (by rw[hov];rfl));have bB:=aF (Below.refl w0.heap.size w0);clear hov tV fk js HQ;go_upto_region 12 with(go_at_call 56;refine fX Bv ?_)
   go_upto_region 13 with(fail)
   go_loopg [9] N (λgh i wr=>∃k:Nat,gh+k=N/\i=I k/\Hid (Below w0.heap.size w0 wr/\∀j,(hj:j<x.args.length)->j<k->kL p vs x.args[j]=0))
   case atStart=>exact⟨0,aG,rfl,aF ⟨bB,λj _ h=>absurd h aG⟩⟩
   case round=>
    obtain⟨k,hg,rfl,HH⟩:=hrel;obtain⟨wo,rfl⟩:=xq wr;have eN:=oC.ext HH.out.1;have b4:=eN.k2;have aR:=aF b4;have bH:=aF (gT.ext HH.out.1);clear eN;by_cases hlt:k<N
    ·have bT:(k:Int)<(N:Int):=aG;have hlt':k<x.args.length:=by rw[<-HN.out];exact hlt
     obtain⟨b,o,D,rfl,_,hD,dA⟩:=(show aP B 5 (RE dj B) wo (.slice xa x.args.length xc) x.args by rw[<-HN.out];exact HX.below HH.out.1 (λC x h=>RE.below HH.out.1 h)).at hlt';have e0:=hD 0 aG;have e1:=hD 1 aG;have e2:=hD 2 aG;have e3:=hD 3 aG;have e4:=hD 4 aG;simp only[aA]at e0;obtain⟨hev, -⟩:=dA.ev;have⟨y,hyk⟩:=xq (x.args[k]);rw[<-hyk]at hev dA;have⟨c,hc⟩:=xq (kL p vs y);have hcall:=λW (hb:Below wo wo W)=>G9 dj p vs y B W (.slice aa AN ac) (.slice fa FN fc) (.slice va VN vc) D ((jU.below HH.out.1).below hb) ((nO.below HH.out.1 (λC x h=>h)).below hb (λC x h=>h)) (RE.below hb dA)
     rw[<-hev,<-hc]at hcall;have jk:=aF hcall;have HE:=aF (And.intro e0 (And.intro e1 (And.intro e2 (And.intro e3 e4))));have jA:=aF hyk;have HC:=aF hc;clear hD dA hev hyk hc hcall e0 e1 e2 e3 e4;go_upto_region 15 with(fail)
     clear b4;refine cC (λW=>W.cell? (w,0)=some (.slice aa AN ac)/\W.cell? (w,1)=some (.slice fa FN fc)/\W.cell? (w,1,2)=some (.slice (some (b,o)) N xc)/\W.cell? (b,o+k*5)=some (D 0)/\W.cell? (b,o+k*5+1)=some (D 1)/\W.cell? (b,o+k*5+2)=some (D 2)/\W.cell? (b,o+k*5+3)=some (D 3)/\W.cell? (b,o+k*5+4)=some (D 4)) [0,0,0,0,0,0,0,1,0] (λwd hh=>⟨aO bH.out hh 0,aO bH.out hh 1,eP hh aR,bY hh HE.1,bY hh HE.2.1,bY hh HE.2.2.1,bY hh HE.2.2.2.1,bY hh HE.2.2.2.2⟩) λwd hh hgd hS=> ?_;have bE:=aF (show Below wo wo wd from(Below.refl _ _).grown hgd fQ aJ);clear hh hgd;refine nE ?_;go_wp2_with (go_at_call 138;refine aN (jk _ bE) λw1 hb1=> ?_;have aI:=aU bE hb1)
     clear hS;refine bw ⟨(bH.ext aI).cell 0,(bH.ext aI).cell 1,aS aR (aT aI) aH,aS HE.1 (aT aI) aH,aS HE.2.1 (aT aI) aH,aS HE.2.2.1 (aT aI) aH,aS HE.2.2.2.1 (aT aI) aH,aS HE.2.2.2.2 (aT aI) aH⟩ λhS=> ?_;refine wY ?_;clear hS;have ey:=aF (HH.out.1.trans (aI.mono HH.out.1.size));by_cases hc0:c=0
     ·subst hc0;go_wp2;go_roundg (N - (k+1))
      case measure=>omega
      case rel=>exact⟨k+1,aG,by go_num,aF ⟨ey,λj hj hjk=>by
       by_cases e:j=k
       ·subst e;rw[<-jA.out];exact HC.out.symm
       ·exact HH.out.2 j hj aG⟩⟩
     ·have hcb:(c !=0)=true:=by rw[bne_iff_ne];exact hc0
      have hend:Q=c:=by
       rw[gp.out,xJ hlt' (λj hj=>HH.out.2 j aG hj) (by rw[<-jA.out,<-HC.out];exact hc0),<-jA.out,HC.out]
      subst hend;go_wp2;go_ret;exact⟨rfl,bg.out.trans (ey.mono bg.size)⟩
    ·have bT: ¬(k:Int)<(N:Int):=aG;have hend:Q=0:=by
      rw[gp.out];exact xH λj hj=>HH.out.2 j hj (cw HN)
     subst hend;go_wp2;go_ret;exact⟨rfl,bg.out.trans (HH.out.1.mono bg.size)⟩
 by_cases hk2:sk=2
 ·subst hk2;have⟨q,hq⟩:=xq (lK p nm);have hov:=js.out;rw[if_neg aQ,if_neg aQ,if_pos rfl,<-hq]at hov;have mV:=aF (show Calls Tryz.prog 137 #[.agg #[.slice aa AN ac, .slice fa FN fc],S nm] w0 λe w'=>e= .returned (I q)/\Below w0.heap.size w0 w' by rw[hq];exact Ns p nm _ _ w0 B jU);clear hq;by_cases hq0:q<0
  ·obtain rfl:Q=51:=tV 51 (by rw[hov,decide_eq_false aG];rfl) aQ;clear hov;go_wp2_with (go_at_call 137;refine aN mV λw1 aI=> ?_)
   go_ret;exact⟨rfl,bg.out.trans (aI.mono bg.size)⟩
  ·have gp:=aF (fk (by rw[hov,decide_eq_true aG];rfl));clear hov tV fk js HQ;go_upto_region 12 with(go_at_call 137;refine aN mV λw1 bB=> ?_)
   clear b0 b1 b2 p0 p1;go_upto_region 13 with(fail)
   go_loopg [9] N (λgh i wr=>∃k:Nat,gh+k=N/\i=I k/\Hid (Below w0.heap.size w0 wr/\∀j,(hj:j<x.args.length)->j<k->kL p vs x.args[j]=0))
   case atStart=>exact⟨0,aG,rfl,aF ⟨bB,λj _ h=>absurd h aG⟩⟩
   case round=>
    obtain⟨k,hg,rfl,HH⟩:=hrel;obtain⟨wo,rfl⟩:=xq wr;have eN:=oC.ext HH.out.1;have b4:=eN.k2;have aR:=aF b4;have bH:=aF (gT.ext HH.out.1);clear eN;by_cases hlt:k<N
    ·have bT:(k:Int)<(N:Int):=aG;have hlt':k<x.args.length:=by rw[<-HN.out];exact hlt
     obtain⟨b,o,D,rfl,_,hD,dA⟩:=(show aP B 5 (RE dj B) wo (.slice xa x.args.length xc) x.args by rw[<-HN.out];exact HX.below HH.out.1 (λC x h=>RE.below HH.out.1 h)).at hlt';have e0:=hD 0 aG;have e1:=hD 1 aG;have e2:=hD 2 aG;have e3:=hD 3 aG;have e4:=hD 4 aG;simp only[aA]at e0;obtain⟨hev, -⟩:=dA.ev;have⟨y,hyk⟩:=xq (x.args[k]);rw[<-hyk]at hev dA;have⟨c,hc⟩:=xq (kL p vs y);have hcall:=λW (hb:Below wo wo W)=>G9 dj p vs y B W (.slice aa AN ac) (.slice fa FN fc) (.slice va VN vc) D ((jU.below HH.out.1).below hb) ((nO.below HH.out.1 (λC x h=>h)).below hb (λC x h=>h)) (RE.below hb dA)
     rw[<-hev,<-hc]at hcall;have jk:=aF hcall;have HE:=aF (And.intro e0 (And.intro e1 (And.intro e2 (And.intro e3 e4))));have jA:=aF hyk;have HC:=aF hc;clear hD dA hev hyk hc hcall e0 e1 e2 e3 e4;go_upto_region 15 with(fail)
     clear b4;refine cC (λW=>W.cell? (w,0)=some (.slice aa AN ac)/\W.cell? (w,1)=some (.slice fa FN fc)/\W.cell? (w,1,2)=some (.slice (some (b,o)) N xc)/\W.cell? (b,o+k*5)=some (D 0)/\W.cell? (b,o+k*5+1)=some (D 1)/\W.cell? (b,o+k*5+2)=some (D 2)/\W.cell? (b,o+k*5+3)=some (D 3)/\W.cell? (b,o+k*5+4)=some (D 4)) [0,0,0,0,0,0,0,1,0] (λwd hh=>⟨aO bH.out hh 0,aO bH.out hh 1,eP hh aR,bY hh HE.1,bY hh HE.2.1,bY hh HE.2.2.1,bY hh HE.2.2.2.1,bY hh HE.2.2.2.2⟩) λwd hh hgd hS=> ?_;have bE:=aF (show Below wo wo wd from(Below.refl _ _).grown hgd fQ aJ);clear hh hgd;refine nE ?_;go_wp2_with (go_at_call 138;refine aN (jk _ bE) λw1 hb1=> ?_;have aI:=aU bE hb1)
     clear hS;refine bw ⟨(bH.ext aI).cell 0,(bH.ext aI).cell 1,aS aR (aT aI) aH,aS HE.1 (aT aI) aH,aS HE.2.1 (aT aI) aH,aS HE.2.2.1 (aT aI) aH,aS HE.2.2.2.1 (aT aI) aH,aS HE.2.2.2.2 (aT aI) aH⟩ λhS=> ?_;refine wY ?_;clear hS;have ey:=aF (HH.out.1.trans (aI.mono HH.out.1.size));by_cases hc0:c=0
     ·subst hc0;go_wp2;go_roundg (N - (k+1))
      case measure=>omega
      case rel=>exact⟨k+1,aG,by go_num,aF ⟨ey,λj hj hjk=>by
       by_cases e:j=k
       ·subst e;rw[<-jA.out];exact HC.out.symm
       ·exact HH.out.2 j hj aG⟩⟩
     ·have hcb:(c !=0)=true:=by rw[bne_iff_ne];exact hc0
      have hend:Q=c:=by
       rw[gp.out,xJ hlt' (λj hj=>HH.out.2 j aG hj) (by rw[<-jA.out,<-HC.out];exact hc0),<-jA.out,HC.out]
      subst hend;go_wp2;go_ret;exact⟨rfl,bg.out.trans (ey.mono bg.size)⟩
    ·have bT: ¬(k:Int)<(N:Int):=aG;have hend:Q=0:=by
      rw[gp.out];exact xH λj hj=>HH.out.2 j hj (cw HN)
     subst hend;go_wp2;go_ret;exact⟨rfl,bg.out.trans (HH.out.1.mono bg.size)⟩
 have k1:(sk==1)=false:=bu hk1;have k2:(sk==2)=false:=bu hk2;have gp:=aF (fk (by rw[js.out,if_neg Lu,if_neg hk1,if_neg hk2]));have bB:=aF (Below.refl w0.heap.size w0);clear Lu hk1 hk2 tV fk js HQ;go_upto_region 12 with(fail)
 go_upto_region 13 with(fail)
 go_loopg [9] N (λgh i wr=>∃k:Nat,gh+k=N/\i=I k/\Hid (Below w0.heap.size w0 wr/\∀j,(hj:j<x.args.length)->j<k->kL p vs x.args[j]=0))
 case atStart=>exact⟨0,aG,rfl,aF ⟨bB,λj _ h=>absurd h aG⟩⟩
 case round=>
  obtain⟨k,hg,rfl,HH⟩:=hrel;obtain⟨wo,rfl⟩:=xq wr;have eN:=oC.ext HH.out.1;have b4:=eN.k2;have aR:=aF b4;have bH:=aF (gT.ext HH.out.1);clear eN;by_cases hlt:k<N
  ·have bT:(k:Int)<(N:Int):=aG;have hlt':k<x.args.length:=by rw[<-HN.out];exact hlt
   obtain⟨b,o,D,rfl,_,hD,dA⟩:=(show aP B 5 (RE dj B) wo (.slice xa x.args.length xc) x.args by rw[<-HN.out];exact HX.below HH.out.1 (λC x h=>RE.below HH.out.1 h)).at hlt';have e0:=hD 0 aG;have e1:=hD 1 aG;have e2:=hD 2 aG;have e3:=hD 3 aG;have e4:=hD 4 aG;simp only[aA]at e0;obtain⟨hev, -⟩:=dA.ev;have⟨y,hyk⟩:=xq (x.args[k]);rw[<-hyk]at hev dA;have⟨c,hc⟩:=xq (kL p vs y);have hcall:=λW (hb:Below wo wo W)=>G9 dj p vs y B W (.slice aa AN ac) (.slice fa FN fc) (.slice va VN vc) D ((jU.below HH.out.1).below hb) ((nO.below HH.out.1 (λC x h=>h)).below hb (λC x h=>h)) (RE.below hb dA)
   rw[<-hev,<-hc]at hcall;have jk:=aF hcall;have HE:=aF (And.intro e0 (And.intro e1 (And.intro e2 (And.intro e3 e4))));have jA:=aF hyk;have HC:=aF hc;clear hD dA hev hyk hc hcall e0 e1 e2 e3 e4;go_upto_region 15 with(fail)
   clear b4;refine cC (λW=>W.cell? (w,0)=some (.slice aa AN ac)/\W.cell? (w,1)=some (.slice fa FN fc)/\W.cell? (w,1,2)=some (.slice (some (b,o)) N xc)/\W.cell? (b,o+k*5)=some (D 0)/\W.cell? (b,o+k*5+1)=some (D 1)/\W.cell? (b,o+k*5+2)=some (D 2)/\W.cell? (b,o+k*5+3)=some (D 3)/\W.cell? (b,o+k*5+4)=some (D 4)) [0,0,0,0,0,0,0,1,0] (λwd hh=>⟨aO bH.out hh 0,aO bH.out hh 1,eP hh aR,bY hh HE.1,bY hh HE.2.1,bY hh HE.2.2.1,bY hh HE.2.2.2.1,bY hh HE.2.2.2.2⟩) λwd hh hgd hS=> ?_;have bE:=aF (show Below wo wo wd from(Below.refl _ _).grown hgd fQ aJ);clear hh hgd;refine nE ?_;go_wp2_with (go_at_call 138;refine aN (jk _ bE) λw1 hb1=> ?_;have aI:=aU bE hb1)
   clear hS;refine bw ⟨(bH.ext aI).cell 0,(bH.ext aI).cell 1,aS aR (aT aI) aH,aS HE.1 (aT aI) aH,aS HE.2.1 (aT aI) aH,aS HE.2.2.1 (aT aI) aH,aS HE.2.2.2.1 (aT aI) aH,aS HE.2.2.2.2 (aT aI) aH⟩ λhS=> ?_;refine wY ?_;clear hS;have ey:=aF (HH.out.1.trans (aI.mono HH.out.1.size));by_cases hc0:c=0
   ·subst hc0;go_wp2;go_roundg (N - (k+1))
    case measure=>omega
    case rel=>exact⟨k+1,aG,by go_num,aF ⟨ey,λj hj hjk=>by
     by_cases e:j=k
     ·subst e;rw[<-jA.out];exact HC.out.symm
     ·exact HH.out.2 j hj aG⟩⟩
   ·have hcb:(c !=0)=true:=by rw[bne_iff_ne];exact hc0
    have hend:Q=c:=by
     rw[gp.out,xJ hlt' (λj hj=>HH.out.2 j aG hj) (by rw[<-jA.out,<-HC.out];exact hc0),<-jA.out,HC.out]
    subst hend;go_wp2;go_ret;exact⟨rfl,bg.out.trans (ey.mono bg.size)⟩
  ·have bT: ¬(k:Int)<(N:Int):=aG;have hend:Q=0:=by
    rw[gp.out];exact xH λj hj=>HH.out.2 j hj (cw HN)
   subst hend;go_wp2;go_ret;exact⟨rfl,bg.out.trans (HH.out.1.mono bg.size)⟩
theorem QC {α:Type} (f:α->Int):∀(a b:List α),jt f (a++b)=if jt f a=0 then jt f b else jt f a
 | [],b=>by simp [jt]
 |x::a,b=>by
  rw[List.cons_append,jt,jt,QC f a b]
  split<;>rfl
abbrev fJ (p:LP) (vs:List aK):LS×Bool->Int:=λq=>oO p vs q.2 q.1
theorem age (p:LP) (vs:List aK) (loop:Bool) (l:List LS) (k:Nat) (hk:k<l.length) (x:LS) (hx:x=l[k]) (c1 c2 c3:Int) (h1:c1=oO p vs loop x) (h2:c2=jt (fJ p vs) (ez (loop||x.kind==4) x.thn)) (h3:c3=jt (fJ p vs) (ez loop x.els)):
  jt (fJ p vs) (ez loop (l.drop k))=if c1=0 then if c2=0 then if c3=0 then jt (fJ p vs) (ez loop (l.drop (k+1)))else c3 else c2 else c1:=by
 rw[List.drop_eq_getElem_cons hk,<-hx,ez,JO,List.cons_append,jt,QC,QC,<-h2,<-h3];show(if oO p vs loop x=0 then _ else oO p vs loop x)=_;rw[<-h1];by_cases e1:c1=0
 ·rw[if_pos e1,if_pos e1];by_cases e2:c2=0
  ·rw[if_pos e2,if_pos e2]
  ·rw[if_neg e2,if_neg e2,if_neg e2]
 ·rw[if_neg e1,if_neg e1]
def R6 (d:Nat):Prop:=∀(p:LP) (vs:List aK) (l:List LS) (loop:Bool) (B:Nat->Prop) (W:World) (av fv vv v:Value),PX B W av fv p->aP B 1 dc W vv vs->aP B 5 (RS d B) W v l->
 Calls Tryz.prog 57 #[.agg #[av,fv],vv,v, .bool loop] W λe' w'=>(∃n:Int,e'= .returned (.tuple #[I (jt (fJ p vs) (ez loop l)),I n]))/\Below W.heap.size W w'
theorem Xl (d:Nat) (ih:∀j,d=j+1->R6 j):R6 d:=by
 intro p vs l loop B w av fv vv v hpx hvs hx;have⟨Q,hQ⟩:=xq (jt (fJ p vs) (ez loop l));rw[<-hQ];have HQ:=aF hQ;obtain⟨xa,xc,rfl,hlen, -⟩:=id hx;obtain⟨aa,ac,fa,fc,rfl,rfl⟩:=hpx.slice;obtain⟨va,vc,rfl, -⟩:=id hvs;have⟨N,hN⟩:=xq l.length;have hNb:N<=1000000000:=aG;have⟨AN,iV⟩:=xq p.arrays.length;have⟨FN,nj⟩:=xq p.funcs.length;have⟨VN,qa⟩:=xq vs.length;rw[<-iV,<-nj]at hpx|-;rw[<-qa]at hvs|-;rw[<-hN]at hx|-;have⟨w0,hw0⟩:=xq (w.alloc (.cells #[.slice aa AN ac, .slice fa FN fc] 27));have dO:=hw0.symm;have hb0:=gI hw0;have gT:=aF (dZ hw0);have bg:=aF hb0;have jU:=aF (hpx.below hb0);have nO:=aF (show aP B 1 dc w0 (.slice va VN vc) vs from hvs.below hb0 (λC x h=>h));have HX:=aF (show aP B 5 (RS d B) w0 (.slice xa N xc) l from hx.below hb0 (λC x h=>RS.below hb0 h));have HN:=aF hN;have HI:=aF ih;clear hQ hpx hvs hx hlen hN iV nj qa hw0 hb0 ih;go_enter Tryz.func57,Tryz.ntmps57;go_upto_region 3 with(fail)
 clear dO;go_loopg [10,11] N (λgh n i wr=>∃(k:Nat) (q:Int),gh+k=N/\i=I k/\n=I q/\Hid (Below w0 w0 wr/\Q=jt (fJ p vs) (ez loop (l.drop k))))
 case atStart=>exact⟨0,0,aG,rfl,rfl,aF ⟨Below.refl _ _,HQ⟩⟩
 case round=>
  obtain⟨k,n0,hg,rfl,rfl,HH⟩:=hrel;obtain⟨wo,rfl⟩:=xq wr;by_cases hlt:k<N
  case neg=>
   have bT: ¬(k:Int)<(N:Int):=aG;have hend:Q=0:=by
    rw[HH.out.2,List.drop_of_length_le (cw HN)];rfl
   subst hend;go_wp2;go_ret2;exact⟨⟨_,rfl⟩,bg.out.trans (HH.out.1.mono bg.size)⟩
  have bT:(k:Int)<(N:Int):=aG;have hlt':k<l.length:=by rw[<-HN.out];exact hlt
  obtain⟨b,o,D,rfl,_,hD,dA⟩:=(show aP B 5 (RS d B) wo (.slice xa l.length xc) l by rw[<-HN.out];exact HX.below HH.out.1 (λC x h=>RS.below HH.out.1 h)).at hlt';obtain⟨j,rfl⟩:∃j,d=j+1:=by
   cases d with
   |zero=>exact dA.elim
   |succ j=>exact⟨j,rfl⟩
  have e0:=hD 0 aG;have e1:=hD 1 aG;have e2:=hD 2 aG;have e3:=hD 3 aG;have e4:=hD 4 aG;simp only[aA]at e0;have⟨x,hxk⟩:=xq (l[k]);rw[<-hxk]at dA;obtain⟨hev, -⟩:=dA.ev;obtain⟨h0,h1,pH,htx,hex⟩:=dA;have hi:=HI j rfl;obtain⟨ta,tc,gu, -⟩:=id htx;obtain⟨ea,ec,aaL, -⟩:=id hex;have⟨sk,hsk⟩:=xq x.kind;have⟨c1,hc1⟩:=xq (oO p vs loop x);have⟨c2,hc2⟩:=xq (jt (fJ p vs) (ez (loop||x.kind==4) x.thn));have⟨c3,hc3⟩:=xq (jt (fJ p vs) (ez loop x.els));have hdr:=age p vs loop l k hlt' x hxk c1 c2 c3 hc1 hc2 hc3;rw[<-HH.out.2]at hdr;have hone:=λW (hb:Below wo wo W)=>agU p vs x loop B W (.slice aa AN ac) (.slice fa FN fc) (.slice va VN vc) (D 2) (D 3) (D 4) ((jU.below HH.out.1).below hb) ((nO.below HH.out.1 (λC x h=>h)).below hb (λC x h=>h)) (EX.grown pH (bX hb none) aJ) ⟨_,_,_,gu⟩ ⟨_,_,_,aaL⟩
  rw[<-hev,<-hc1]at hone;have Iu:=λW (hb:Below wo wo W)=>hi p vs x.thn (loop||x.kind==4) B W (.slice aa AN ac) (.slice fa FN fc) (.slice va VN vc) (D 3) ((jU.below HH.out.1).below hb) ((nO.below HH.out.1 (λC x h=>h)).below hb (λC x h=>h)) (htx.below hb (λC x h=>RS.below hb h))
  have Iw:=λW (hb:Below wo wo W)=>hi p vs x.els loop B W (.slice aa AN ac) (.slice fa FN fc) (.slice va VN vc) (D 4) ((jU.below HH.out.1).below hb) ((nO.below HH.out.1 (λC x h=>h)).below hb (λC x h=>h)) (hex.below hb (λC x h=>RS.below hb h))
  rw[<-hc2,<-hsk]at Iu;rw[<-hc3]at Iw;rw[h0,<-hsk]at e0;have hagg:(Value.agg #[I sk,D 1,D 2,D 3,D 4])=sO D:=by rw[hsk,<-h0]
  rw[<-hagg]at hone;have Ik:=aF hone;have LI:=aF Iu;have OM:=aF Iw;have iO:=aF hdr;have HE:=aF (And.intro e0 (And.intro e1 (And.intro e2 (And.intro e3 e4))));have bH:=aF (gT.ext HH.out.1);have⟨D1,hD1⟩:=xq (D 1);have⟨D2,hD2⟩:=xq (D 2);have⟨D3,VP⟩:=xq (D 3);have⟨D4,VQ⟩:=xq (D 4);rw[<-hD1,<-hD2,<-VP,<-VQ]at HE Ik;rw[<-VP]at LI;rw[<-VQ]at OM;clear hD hev h0 h1 pH htx hex hi gu aaL hsk hc1 hc2 hc3 hdr hone Iu Iw hagg e0 e1 e2 e3 e4 hxk hD1 hD2 VP VQ;have EE:=aF (Below.refl wo wo);go_upto_region 5 with(fail)
  refine cC (λW=>W.cell? (w,0)=some (.slice aa AN ac)/\W.cell? (w,1)=some (.slice fa FN fc)/\W.cell? ⟨b,o+k*5,none⟩=some (I sk)/\W.cell? ⟨b,o+k*5+1,none⟩=some D1/\W.cell? ⟨b,o+k*5+2,none⟩=some D2/\W.cell? ⟨b,o+k*5+3,none⟩=some D3/\W.cell? ⟨b,o+k*5+4,none⟩=some D4) [0,0,0,0,0,0,0,1,0] (λwd hh=>⟨bY hh ((bH.ext EE).cell 0),bY hh ((bH.ext EE).cell 1),bY hh (aS HE.1 (aT EE) aH),bY hh (aS HE.2.1 (aT EE) aH),bY hh (aS HE.2.2.1 (aT EE) aH),bY hh (aS HE.2.2.2.1 (aT EE) aH),bY hh (aS HE.2.2.2.2 (aT EE) aH)⟩) λwd hh hgd hS=> ?_;have aaM:=dF EE hgd;clear hh hgd;refine dS ?_;go_wp2_with (go_at_call 97;refine aN (Ik _ aaM) λwx hb1=> ?_;have aI:=aU aaM hb1)
  clear hS;refine bw ⟨(bH.ext aI).cell 0,(bH.ext aI).cell 1,aS HE.1 (aT aI) aH,aS HE.2.1 (aT aI) aH,aS HE.2.2.1 (aT aI) aH,aS HE.2.2.2.1 (aT aI) aH,aS HE.2.2.2.2 (aT aI) aH⟩ λhS=> ?_;refine dP ?_;clear hS;by_cases hc1:c1=0
  case neg=>
   have hcb:(c1 !=0)=true:=by rw[bne_iff_ne];exact hc1
   have hend:Q=c1:=iO.out.trans (by simp only[eq_self_iff_true,if_true,hc1,if_false]);subst hend;go_wp2;go_ret2;exact⟨⟨_,rfl⟩,bg.out.trans ((HH.out.1.trans (aI.mono HH.out.1.size)).mono bg.size)⟩
  subst hc1;obtain⟨lf,o9⟩:∃b,b=(loop||sk==4):=⟨_,rfl⟩;rw[<-o9]at LI;have Dk:=aF o9;clear o9;have hl4:loop=true\/(loop=false/\sk=4)\/(loop=false/\sk≠4):=by cases loop<;>simp;omega
  rcases hl4 with rfl|⟨rfl,hk4⟩|⟨rfl,hk4⟩
  ·obtain rfl:lf=true:=by rw[Dk.out];rfl
   go_upto_region 9 with(fail)
   refine cC (λW=>W.cell? (w,0)=some (.slice aa AN ac)/\W.cell? (w,1)=some (.slice fa FN fc)/\W.cell? ⟨b,o+k*5,none⟩=some (I sk)/\W.cell? ⟨b,o+k*5+1,none⟩=some D1/\W.cell? ⟨b,o+k*5+2,none⟩=some D2/\W.cell? ⟨b,o+k*5+3,none⟩=some D3/\W.cell? ⟨b,o+k*5+4,none⟩=some D4) [0,0,0,0,0,0,0,0,0,0,0,0,0,0,0,0,1,0,0,0,0,0] (λwd hh=>⟨bY hh ((bH.ext aI).cell 0),bY hh ((bH.ext aI).cell 1),bY hh (aS HE.1 (aT aI) aH),bY hh (aS HE.2.1 (aT aI) aH),bY hh (aS HE.2.2.1 (aT aI) aH),bY hh (aS HE.2.2.2.1 (aT aI) aH),bY hh (aS HE.2.2.2.2 (aT aI) aH)⟩) λwd hh hgd hS=> ?_;have D8:=dF aI hgd;clear hh hgd;refine dS ?_;go_wp2_with (go_at_call 57;refine(LI _ D8).mono ?_;rintro e wx⟨⟨nx,rfl⟩,hb1⟩;have aM:=aU D8 hb1;clear hb1)
   clear hS;refine bw ⟨(bH.ext aM).cell 0,(bH.ext aM).cell 1,aS HE.1 (aT aM) aH,aS HE.2.1 (aT aM) aH,aS HE.2.2.1 (aT aM) aH,aS HE.2.2.2.1 (aT aM) aH,aS HE.2.2.2.2 (aT aM) aH⟩ λhS=> ?_;refine dP ?_;clear hS;by_cases hc2:c2=0
   case neg=>
    have hcb:(c2 !=0)=true:=by rw[bne_iff_ne];exact hc2
    have hend:Q=c2:=iO.out.trans (by simp only[eq_self_iff_true,if_true,hc2,if_false]);subst hend;go_wp2;go_ret2;exact⟨⟨_,rfl⟩,bg.out.trans ((HH.out.1.trans (aM.mono HH.out.1.size)).mono bg.size)⟩
   subst hc2;go_upto_region 13 with(fail)
   refine cC (λW=>W.cell? (w,0)=some (.slice aa AN ac)/\W.cell? (w,1)=some (.slice fa FN fc)/\W.cell? ⟨b,o+k*5,none⟩=some (I sk)/\W.cell? ⟨b,o+k*5+1,none⟩=some D1/\W.cell? ⟨b,o+k*5+2,none⟩=some D2/\W.cell? ⟨b,o+k*5+3,none⟩=some D3/\W.cell? ⟨b,o+k*5+4,none⟩=some D4) [0,0,0,0,0,0,0,0,1,0,0,0,0,0] (λwd hh=>⟨bY hh ((bH.ext aM).cell 0),bY hh ((bH.ext aM).cell 1),bY hh (aS HE.1 (aT aM) aH),bY hh (aS HE.2.1 (aT aM) aH),bY hh (aS HE.2.2.1 (aT aM) aH),bY hh (aS HE.2.2.2.1 (aT aM) aH),bY hh (aS HE.2.2.2.2 (aT aM) aH)⟩) λwd hh hgd hS=> ?_;have D9:=dF aM hgd;clear hh hgd;refine dS ?_;go_wp2_with (go_at_call 57;refine(OM _ D9).mono ?_;rintro e wx⟨⟨nx,rfl⟩,hb1⟩;have aW:=aU D9 hb1;clear hb1)
   clear hS;refine bw ⟨(bH.ext aW).cell 0,(bH.ext aW).cell 1,aS HE.1 (aT aW) aH,aS HE.2.1 (aT aW) aH,aS HE.2.2.1 (aT aW) aH,aS HE.2.2.2.1 (aT aW) aH,aS HE.2.2.2.2 (aT aW) aH⟩ λhS=> ?_;refine dP ?_;clear hS;by_cases hc3:c3=0
   case neg=>
    have hcb:(c3 !=0)=true:=by rw[bne_iff_ne];exact hc3
    have hend:Q=c3:=iO.out.trans (by simp only[eq_self_iff_true,if_true,hc3,if_false]);subst hend;go_wp2;go_ret2;exact⟨⟨_,rfl⟩,bg.out.trans ((HH.out.1.trans (aW.mono HH.out.1.size)).mono bg.size)⟩
   subst hc3;go_wp2;go_roundg (N - (k+1))
   case measure=>omega
   case rel=>exact⟨k+1,_,aG,by go_num,rfl,aF ⟨HH.out.1.trans (aW.mono HH.out.1.size),iO.out.trans (by simp only[eq_self_iff_true,if_true])⟩⟩
  ·have hkb:(sk==4)=true:=by rw[hk4];rfl
   obtain rfl:lf=true:=by rw[Dk.out,hkb];rfl
   clear hk4;go_upto_region 9 with(fail)
   refine cC (λW=>W.cell? (w,0)=some (.slice aa AN ac)/\W.cell? (w,1)=some (.slice fa FN fc)/\W.cell? ⟨b,o+k*5,none⟩=some (I sk)/\W.cell? ⟨b,o+k*5+1,none⟩=some D1/\W.cell? ⟨b,o+k*5+2,none⟩=some D2/\W.cell? ⟨b,o+k*5+3,none⟩=some D3/\W.cell? ⟨b,o+k*5+4,none⟩=some D4) [0,0,0,0,0,0,0,0,0,0,0,0,0,0,0,0,1,0,0,0,0,0] (λwd hh=>⟨bY hh ((bH.ext aI).cell 0),bY hh ((bH.ext aI).cell 1),bY hh (aS HE.1 (aT aI) aH),bY hh (aS HE.2.1 (aT aI) aH),bY hh (aS HE.2.2.1 (aT aI) aH),bY hh (aS HE.2.2.2.1 (aT aI) aH),bY hh (aS HE.2.2.2.2 (aT aI) aH)⟩) λwd hh hgd hS=> ?_;have D8:=dF aI hgd;clear hh hgd;refine dS ?_;go_wp2_with (go_at_call 57;refine(LI _ D8).mono ?_;rintro e wx⟨⟨nx,rfl⟩,hb1⟩;have aM:=aU D8 hb1;clear hb1)
   clear hS;refine bw ⟨(bH.ext aM).cell 0,(bH.ext aM).cell 1,aS HE.1 (aT aM) aH,aS HE.2.1 (aT aM) aH,aS HE.2.2.1 (aT aM) aH,aS HE.2.2.2.1 (aT aM) aH,aS HE.2.2.2.2 (aT aM) aH⟩ λhS=> ?_;refine dP ?_;clear hS;by_cases hc2:c2=0
   case neg=>
    have hcb:(c2 !=0)=true:=by rw[bne_iff_ne];exact hc2
    have hend:Q=c2:=iO.out.trans (by simp only[eq_self_iff_true,if_true,hc2,if_false]);subst hend;go_wp2;go_ret2;exact⟨⟨_,rfl⟩,bg.out.trans ((HH.out.1.trans (aM.mono HH.out.1.size)).mono bg.size)⟩
   subst hc2;go_upto_region 13 with(fail)
   refine cC (λW=>W.cell? (w,0)=some (.slice aa AN ac)/\W.cell? (w,1)=some (.slice fa FN fc)/\W.cell? ⟨b,o+k*5,none⟩=some (I sk)/\W.cell? ⟨b,o+k*5+1,none⟩=some D1/\W.cell? ⟨b,o+k*5+2,none⟩=some D2/\W.cell? ⟨b,o+k*5+3,none⟩=some D3/\W.cell? ⟨b,o+k*5+4,none⟩=some D4) [0,0,0,0,0,0,0,0,1,0,0,0,0,0] (λwd hh=>⟨bY hh ((bH.ext aM).cell 0),bY hh ((bH.ext aM).cell 1),bY hh (aS HE.1 (aT aM) aH),bY hh (aS HE.2.1 (aT aM) aH),bY hh (aS HE.2.2.1 (aT aM) aH),bY hh (aS HE.2.2.2.1 (aT aM) aH),bY hh (aS HE.2.2.2.2 (aT aM) aH)⟩) λwd hh hgd hS=> ?_;have D9:=dF aM hgd;clear hh hgd;refine dS ?_;go_wp2_with (go_at_call 57;refine(OM _ D9).mono ?_;rintro e wx⟨⟨nx,rfl⟩,hb1⟩;have aW:=aU D9 hb1;clear hb1)
   clear hS;refine bw ⟨(bH.ext aW).cell 0,(bH.ext aW).cell 1,aS HE.1 (aT aW) aH,aS HE.2.1 (aT aW) aH,aS HE.2.2.1 (aT aW) aH,aS HE.2.2.2.1 (aT aW) aH,aS HE.2.2.2.2 (aT aW) aH⟩ λhS=> ?_;refine dP ?_;clear hS;by_cases hc3:c3=0
   case neg=>
    have hcb:(c3 !=0)=true:=by rw[bne_iff_ne];exact hc3
    have hend:Q=c3:=iO.out.trans (by simp only[eq_self_iff_true,if_true,hc3,if_false]);subst hend;go_wp2;go_ret2;exact⟨⟨_,rfl⟩,bg.out.trans ((HH.out.1.trans (aW.mono HH.out.1.size)).mono bg.size)⟩
   subst hc3;go_wp2;go_roundg (N - (k+1))
   case measure=>omega
   case rel=>exact⟨k+1,_,aG,by go_num,rfl,aF ⟨HH.out.1.trans (aW.mono HH.out.1.size),iO.out.trans (by simp only[eq_self_iff_true,if_true])⟩⟩
  ·have hkb:(sk==4)=false:=bu hk4;obtain rfl:lf=false:=by rw[Dk.out,hkb];rfl
   clear hk4;go_upto_region 9 with(fail)
   refine cC (λW=>W.cell? (w,0)=some (.slice aa AN ac)/\W.cell? (w,1)=some (.slice fa FN fc)/\W.cell? ⟨b,o+k*5,none⟩=some (I sk)/\W.cell? ⟨b,o+k*5+1,none⟩=some D1/\W.cell? ⟨b,o+k*5+2,none⟩=some D2/\W.cell? ⟨b,o+k*5+3,none⟩=some D3/\W.cell? ⟨b,o+k*5+4,none⟩=some D4) [0,0,0,0,0,0,0,0,0,0,0,0,0,0,0,0,1,0,0,0,0,0] (λwd hh=>⟨bY hh ((bH.ext aI).cell 0),bY hh ((bH.ext aI).cell 1),bY hh (aS HE.1 (aT aI) aH),bY hh (aS HE.2.1 (aT aI) aH),bY hh (aS HE.2.2.1 (aT aI) aH),bY hh (aS HE.2.2.2.1 (aT aI) aH),bY hh (aS HE.2.2.2.2 (aT aI) aH)⟩) λwd hh hgd hS=> ?_;have D8:=dF aI hgd;clear hh hgd;refine dS ?_;go_wp2_with (go_at_call 57;refine(LI _ D8).mono ?_;rintro e wx⟨⟨nx,rfl⟩,hb1⟩;have aM:=aU D8 hb1;clear hb1)
   clear hS;refine bw ⟨(bH.ext aM).cell 0,(bH.ext aM).cell 1,aS HE.1 (aT aM) aH,aS HE.2.1 (aT aM) aH,aS HE.2.2.1 (aT aM) aH,aS HE.2.2.2.1 (aT aM) aH,aS HE.2.2.2.2 (aT aM) aH⟩ λhS=> ?_;refine dP ?_;clear hS;by_cases hc2:c2=0
   case neg=>
    have hcb:(c2 !=0)=true:=by rw[bne_iff_ne];exact hc2
    have hend:Q=c2:=iO.out.trans (by simp only[eq_self_iff_true,if_true,hc2,if_false]);subst hend;go_wp2;go_ret2;exact⟨⟨_,rfl⟩,bg.out.trans ((HH.out.1.trans (aM.mono HH.out.1.size)).mono bg.size)⟩
   subst hc2;go_upto_region 13 with(fail)
   refine cC (λW=>W.cell? (w,0)=some (.slice aa AN ac)/\W.cell? (w,1)=some (.slice fa FN fc)/\W.cell? ⟨b,o+k*5,none⟩=some (I sk)/\W.cell? ⟨b,o+k*5+1,none⟩=some D1/\W.cell? ⟨b,o+k*5+2,none⟩=some D2/\W.cell? ⟨b,o+k*5+3,none⟩=some D3/\W.cell? ⟨b,o+k*5+4,none⟩=some D4) [0,0,0,0,0,0,0,0,1,0,0,0,0,0] (λwd hh=>⟨bY hh ((bH.ext aM).cell 0),bY hh ((bH.ext aM).cell 1),bY hh (aS HE.1 (aT aM) aH),bY hh (aS HE.2.1 (aT aM) aH),bY hh (aS HE.2.2.1 (aT aM) aH),bY hh (aS HE.2.2.2.1 (aT aM) aH),bY hh (aS HE.2.2.2.2 (aT aM) aH)⟩) λwd hh hgd hS=> ?_;have D9:=dF aM hgd;clear hh hgd;refine dS ?_;go_wp2_with (go_at_call 57;refine(OM _ D9).mono ?_;rintro e wx⟨⟨nx,rfl⟩,hb1⟩;have aW:=aU D9 hb1;clear hb1)
   clear hS;refine bw ⟨(bH.ext aW).cell 0,(bH.ext aW).cell 1,aS HE.1 (aT aW) aH,aS HE.2.1 (aT aW) aH,aS HE.2.2.1 (aT aW) aH,aS HE.2.2.2.1 (aT aW) aH,aS HE.2.2.2.2 (aT aW) aH⟩ λhS=> ?_;refine dP ?_;clear hS;by_cases hc3:c3=0
   case neg=>
    have hcb:(c3 !=0)=true:=by rw[bne_iff_ne];exact hc3
    have hend:Q=c3:=iO.out.trans (by simp only[eq_self_iff_true,if_true,hc3,if_false]);subst hend;go_wp2;go_ret2;exact⟨⟨_,rfl⟩,bg.out.trans ((HH.out.1.trans (aW.mono HH.out.1.size)).mono bg.size)⟩
   subst hc3;go_wp2;go_roundg (N - (k+1))
   case measure=>omega
   case rel=>exact⟨k+1,_,aG,by go_num,rfl,aF ⟨HH.out.1.trans (aW.mono HH.out.1.size),iO.out.trans (by simp only[eq_self_iff_true,if_true])⟩⟩
theorem XC:∀d,R6 d
 |0=>Xl 0 aJ
 |d+1=>Xl (d+1) (λj e=>by
   obtain rfl:j=d:=aG
   exact XC j)
end
end Go.Proofs.YtjgbkdbkachciaaGreatDoor
