import Derived.Test.YtjgbkdbkachciaaGreatDoorQ9
set_option linter.all false
namespace Go.Proofs.YtjgbkdbkachciaaGreatDoor
set_option maxRecDepth 100000
set_option maxHeartbeats 16000000
section
open Go.RowKit Go.Shelf
attribute [local go_sem] Oper.semAt_some
structure aix (f:LF):Prop where
 name:f.name.length<=1000000
 params:∀x∈f.params,x.length<=1000000
 locals:∀x∈f.locals,x.length<=1000000
 body:∀x∈f.body,wh x
structure DA (p:LP):Prop where
 arrays:∀a∈p.arrays,a.name.length<=1000000
 funcs:∀f∈p.funcs,aix f
theorem QF (p:LP) (hap:sP p) (hsp:DA p) (av fv:Value) (w:World) (B:Nat->Prop) (hx:PX B w av fv p):
  CR 54 #[.agg #[av,fv]] w (.bool (bP (kR p))):=by
 have Pj:=aF hsp;clear hsp;have⟨Q,hQ⟩:=xq (bP (kR p));have HQ:=aF hQ;rw[<-hQ];obtain⟨aa,ac,fa,fc,rfl,rfl⟩:=hx.slice;have HX:=aF hx;have HP:=aF hap;have aI:=aF (cm w (.cells #[.slice aa p.arrays.length ac, .slice fa p.funcs.length fc] 27));have bC:=aF (show Row (w.alloc (.cells #[.slice aa p.arrays.length ac, .slice fa p.funcs.length fc] 27)) w 27 [.slice aa p.arrays.length ac, .slice fa p.funcs.length fc]from cj _ _);have jS:=hx.arrays;have o9:=hx.funcs;obtain⟨_,_,_,nJ, -⟩:=jS;obtain⟨_,_,_,hlm, -⟩:=o9;clear hx hap hQ;have hr1:=bC.out;have i0:=hr1.k0;have i1:=hr1.k1;clear hr1;go_enter Tryz.func54,Tryz.ntmps54;go_upto_region 2 with(fail)
 go_loopg [3] p.arrays.length (λgh i wr=>∃k:Nat,gh+k=p.arrays.length/\i=I k/\wr.cell? (w,0)=some (.slice aa p.arrays.length ac)/\wr.cell? (w,1)=some (.slice fa p.funcs.length fc)/\Hid (Below w w wr/\Row wr w 27 [.slice aa p.arrays.length ac, .slice fa p.funcs.length fc]/\∀j,(hj:j<p.arrays.length)->j<k->rM p.arrays[j]))
 case atStart=>exact⟨0,rfl,rfl,i0,i1,aF ⟨aI,bC,λj _ h=>absurd h aG⟩⟩
 case round=>
  obtain⟨k,hg,rfl,i0',UO,HH⟩:=hrel;clear i0 i1;obtain⟨wo,rfl⟩:=xq wr;by_cases hlt:k<p.arrays.length
  ·have bT:(k:Int)<(p.arrays.length:Int):=aG;obtain⟨b,o,C,rfl,_,hC,hrx⟩:=(HX.arrays.below HH.out.1 (λC x h=>h)).at hlt;have hok:=HP.arrays _ (ak hlt);have hsh:=Pj.arrays _ (ak hlt);have⟨x,hx⟩:=xq (p.arrays[k]);rw[<-hx]at hrx hok hsh;have lN:=aF (show¬rM x->Q=false from λhn=>by
    rw[HQ.out];exact vY λh=>hn (by rw[hx];exact h.arrays _ (ak hlt)))
   have sX:=aF hx;have Km:=aF hok;obtain⟨h0,h1⟩:=hrx;have e0:=hC 0 aG;have e1:=hC 1 aG;rw[h0]at e0;rw[h1]at e1;simp only[aA]at e0 e1;have⟨nb,hnb⟩:=xq (isName x.name);have HN:=aF (λW=>JE x.name hok hsh W);rw[<-hnb]at HN;have sW:=aF hnb;clear hC h0 h1 hok hsh hx hnb;cases nb
   case false=>
    obtain rfl:Q=false:=lN λh=>by have:=h.1.2;rw[<-sW.out]at this;cases this
    go_wp2_with (go_at_call 93;refine fX (HN _) ?_)
    go_ret;exact⟨rfl,HH.out.1⟩
   by_cases hs3:x.size<1
   case pos=>
    obtain rfl:Q=false:=lN λh=>by have:=h.2.1;omega
    go_wp2_with (go_at_call 93;refine fX (HN _) ?_)
    go_ret;exact⟨rfl,HH.out.1⟩
   by_cases hs4:1048576<x.size
   case pos=>
    obtain rfl:Q=false:=lN λh=>by have:=h.2.2;omega
    go_wp2_with (go_at_call 93;refine fX (HN _) ?_)
    go_ret;exact⟨rfl,HH.out.1⟩
   have qP:=aF (show rM x from⟨⟨Km,sW.out.symm⟩,aG,aG⟩);go_wp2_with (go_at_call 93;refine fX (HN _) ?_)
   go_roundg (p.arrays.length - (k+1))
   case measure=>omega
   case rel=>exact⟨k+1,aG,by go_num,i0',UO,aF ⟨HH.out.1,HH.out.2.1,λj hj hjk=>by
    by_cases e:j=k
    ·subst e;rw[<-sX.out];exact qP.out
    ·exact HH.out.2.2 j hj aG⟩⟩
  ·have bT: ¬(k:Int)<(p.arrays.length:Int):=aG;have bW:=aF HH.out.1;have cL:=aF HH.out.2.1;have mV:=aF (show∀a∈p.arrays,rM a from λa ha=>by
    obtain⟨j,hj,rfl⟩:=List.getElem_of_mem ha;exact HH.out.2.2 j hj aG)
   clear HH;go_upto_region 8 with(fail)
   go_loopg [5] p.funcs.length (λgh i wr=>∃k:Nat,gh+k=p.funcs.length/\i=I k/\wr.cell? (w,1)=some (.slice fa p.funcs.length fc)/\Hid (Below w w wr/\Row wr w 27 [.slice aa p.arrays.length ac, .slice fa p.funcs.length fc]/\∀j,(hj:j<p.funcs.length)->j<k->okF p.funcs[j]))
   case atStart=>exact⟨0,rfl,rfl,UO,aF ⟨bW,cL,λj _ h=>absurd h aG⟩⟩
   case round=>
    obtain⟨j,hg2,rfl,i1,HH⟩:=hrel;clear i0' UO;obtain⟨wq,rfl⟩:=xq wr;by_cases qI:j<p.funcs.length
    ·have yO:(j:Int)<(p.funcs.length:Int):=aG;obtain⟨b,o,C,rfl,_,hC,hrx⟩:=(HX.funcs.below HH.out.1 (λC x h=>h.grown (bX HH.out.1 none) aJ)).at qI;have hok:=HP.funcs _ (ak qI);have hsh:=Pj.funcs _ (ak qI);have⟨x,hx⟩:=xq (p.funcs[j]);rw[<-hx]at hrx hok hsh;have lN:=aF (show¬okF x->Q=false from λhn=>by
      rw[HQ.out];exact vY λh=>hn (by rw[hx];exact h.funcs _ (ak qI)))
     have sX:=aF hx;have Km:=aF hok;obtain⟨h0,j5,hloc,hbody⟩:=hrx;have e0:=hC 0 aG;have e1:=hC 1 aG;have e2:=hC 2 aG;have e3:=hC 3 aG;obtain⟨pa,pc,hpv, -⟩:=id j5;obtain⟨la,lc,hlv, -⟩:=id hloc;obtain⟨ba,bc,l_⟩:=hbody.slice;rw[h0]at e0;rw[hpv]at e1 j5;rw[hlv]at e2 hloc;rw[l_]at e3 hbody;simp only[aA]at e0 e1 e2 e3;have⟨nb,hnb⟩:=xq (isName x.name);have⟨np,ve⟩:=xq (x.params.all isName);have⟨nl,hnl⟩:=xq (x.locals.all isName);obtain⟨fn,hfn⟩:∃n:Nat,n=ql 42 x.body:=⟨_,rfl⟩;have⟨bb,hbb⟩:=xq (bP (∀y∈x.body,tI y));have HN:=aF (λW=>JE x.name hok.name hsh.name W);have uu:=aF (λW hh=>Xu (B:=B) W (.slice pa x.params.length pc) x.params hh hok.params hsh.params);have gL:=aF (λW hh=>Xu (B:=B) W (.slice la x.locals.length lc) x.locals hh hok.locals hsh.locals);have Oj:=aF (λW (hh:SX B W (.slice ba x.body.length bc) x.body)=>Yq 42 aG x.body (.slice ba x.body.length bc) W B hh);have sW:=aF (λW (hh:SX B W (.slice ba x.body.length bc) x.body)=>hh.elim λd hd=>Yr d x.body (.slice ba x.body.length bc) W B hok.body hsh.body hd);rw[<-hnb]at HN;rw[<-ve]at uu;rw[<-hnl]at gL;rw[<-hbb]at sW;rw[<-hfn]at Oj;have uT:=aF (show okF x↔nb=true/\np=true/\nl=true/\x.params.length<=6/\fn<=40/\bb=true from by
      rw[hnb,ve,hnl,hbb,hfn,ow,<-ahh,<-NH _ hok.params,<-NH _ hok.locals];exact⟨λh=>⟨h.1.2,h.2⟩,λh=>⟨⟨hok.name,h.1⟩,h.2⟩⟩)
     have o_:=aF j5;have mW:=aF hloc;have iL:=aF hbody;clear hC h0 ve hnl hnb hbb hfn hok hsh j5 hloc hbody hpv hlv l_ hx;go_upto_region 11 with(refine sr 52 (.tmp 6) (.tmp 56) wq CU hn0 ?_)
     obtain⟨w3,hw3⟩:∃w3,w3=(wq.alloc (.cells CU 52)).setRow wq #[S x.name, .slice pa x.params.length pc, .slice la x.locals.length lc, .slice ba x.body.length bc]:=⟨_,rfl⟩;have hz:=HH.out.1.size;have hb3:Below wq wq w3:=by rw[hw3];exact(cm wq _).grown bJ aH bh
     have hx3:Row w3 wq 52 [S x.name, .slice pa x.params.length pc, .slice la x.locals.length lc, .slice ba x.body.length bc]:=by rw[hw3];exact setRow_heap _ _ _ _ _ _ hn0
     rw[<-hw3];have c0:=hx3.cell 0;simp only[af]at c0;have c1:=hx3.k1;have c2:=hx3.k2;have c3:=hx3.k3;have aW:=aF hb3;have bq:=aF hx3;clear hw3 hb3 hx3 e0 e1 e2 e3
     skip
     have HZ:=aF hz;cases nb
     case false=>
      obtain rfl:Q=false:=lN λh=>by have:=(uT.1 h).1;cases this
      go_upto_region 12 with(go_at_call 93;refine fX (HN _) ?_)
      go_upto_region 13 with(go_at_call 94;refine fX (uu _ (o_.grown (aT aW) aJ i20)) ?_)
      go_upto_region 14 with(go_at_call 94;refine fX (gL _ (mW.grown (aT aW) aJ i20)) ?_)
      go_wp2;go_ret;exact⟨rfl,HH.out.1.trans (aW.mono hz)⟩
     cases np
     case false=>
      obtain rfl:Q=false:=lN λh=>by have:=(uT.1 h).2.1;cases this
      go_upto_region 12 with(go_at_call 93;refine fX (HN _) ?_)
      go_upto_region 13 with(go_at_call 94;refine fX (uu _ (o_.grown (aT aW) aJ i20)) ?_)
      go_upto_region 14 with(go_at_call 94;refine fX (gL _ (mW.grown (aT aW) aJ i20)) ?_)
      go_wp2;go_ret;exact⟨rfl,HH.out.1.trans (aW.mono hz)⟩
     cases nl
     case false=>
      obtain rfl:Q=false:=lN λh=>by have:=(uT.1 h).2.2.1;cases this
      go_upto_region 12 with(go_at_call 93;refine fX (HN _) ?_)
      go_upto_region 13 with(go_at_call 94;refine fX (uu _ (o_.grown (aT aW) aJ i20)) ?_)
      go_upto_region 14 with(go_at_call 94;refine fX (gL _ (mW.grown (aT aW) aJ i20)) ?_)
      go_wp2;go_ret;exact⟨rfl,HH.out.1.trans (aW.mono hz)⟩
     by_cases fU:x.params.length<=6
     case neg=>
      have Sh:6<(x.params.length:Int):=aG;obtain rfl:Q=false:=lN λh=>by exact fU (uT.1 h).2.2.2.1
      go_upto_region 12 with(go_at_call 93;refine fX (HN _) ?_)
      go_upto_region 13 with(go_at_call 94;refine fX (uu _ (o_.grown (aT aW) aJ i20)) ?_)
      go_upto_region 14 with(go_at_call 94;refine fX (gL _ (mW.grown (aT aW) aJ i20)) ?_)
      go_wp2;go_ret;exact⟨rfl,HH.out.1.trans (aW.mono hz)⟩
     have Sh: ¬6<(x.params.length:Int):=aG
     by_cases hf:fn<=40
     case neg=>
      have hfz:40<(fn:Int):=aG;obtain rfl:Q=false:=lN λh=>by exact hf (uT.1 h).2.2.2.2.1
      go_upto_region 12 with(go_at_call 93;refine fX (HN _) ?_)
      go_upto_region 13 with(go_at_call 94;refine fX (uu _ (o_.grown (aT aW) aJ i20)) ?_)
      go_upto_region 14 with(go_at_call 94;refine fX (gL _ (mW.grown (aT aW) aJ i20)) ?_)
      go_wp2_with (go_at_call 95;refine aN (Oj _ (iL.grown (aT aW) aJ)) λw5 bz=> ?_;have bW:=aU aW bz;have kD:=bq.ext bz;have c3:=kD.k3;clear kD)
      go_ret;exact⟨rfl,HH.out.1.trans (bW.mono hz)⟩
     have hfz: ¬40<(fn:Int):=aG;cases bb
     case false=>
      obtain rfl:Q=false:=lN λh=>by have:=(uT.1 h).2.2.2.2.2;cases this
      go_upto_region 12 with(go_at_call 93;refine fX (HN _) ?_)
      go_upto_region 13 with(go_at_call 94;refine fX (uu _ (o_.grown (aT aW) aJ i20)) ?_)
      go_upto_region 14 with(go_at_call 94;refine fX (gL _ (mW.grown (aT aW) aJ i20)) ?_)
      go_wp2_with (first|(go_at_call 95;refine aN (Oj _ (iL.grown (aT aW) aJ)) λw5 bz=> ?_;have bW:=aU aW bz;have kD:=bq.ext bz;have c3:=kD.k3;clear kD)|(go_at_call 96;refine aN (sW _ (iL.grown (aT bW) aJ)) λw6 bV=> ?_;have cY:=aU bW bV))
      go_ret;exact⟨rfl,HH.out.1.trans (cY.mono hz)⟩
     have qP:=aF (uT.2 ⟨rfl,rfl,rfl,fU,hf,rfl⟩);go_upto_region 12 with(go_at_call 93;refine fX (HN _) ?_)
     go_upto_region 13 with(go_at_call 94;refine fX (uu _ (o_.grown (aT aW) aJ i20)) ?_)
     go_upto_region 14 with(go_at_call 94;refine fX (gL _ (mW.grown (aT aW) aJ i20)) ?_)
     go_wp2_with (first|(go_at_call 95;refine aN (Oj _ (iL.grown (aT aW) aJ)) λw5 bz=> ?_;have bW:=aU aW bz;have kD:=bq.ext bz;have c3:=kD.k3;clear kD)|(go_at_call 96;refine aN (sW _ (iL.grown (aT bW) aJ)) λw6 bV=> ?_;have cY:=aU bW bV))
     have dh:=(HH.out.2.1.ext (cY.out)).k1;go_roundg (p.funcs.length - (j+1))
     case measure=>omega
     case rel=>exact⟨j+1,aG,by go_num,dh,aF ⟨HH.out.1.trans (cY.mono hz),HH.out.2.1.ext cY,λi hi hij=>by
      by_cases e:i=j
      ·subst e;rw[<-sX.out];exact qP.out
      ·exact HH.out.2.2 i hi aG⟩⟩
    ·have yO: ¬(j:Int)<(p.funcs.length:Int):=aG;have hend:Q=true:=by
      rw[HQ.out];exact t_ ⟨mV,λf hf=>by
       obtain⟨i,hi,rfl⟩:=List.getElem_of_mem hf;exact HH.out.2.2 i hi aG⟩
     subst hend;go_wp2;go_ret;exact⟨rfl,HH.out.1⟩
theorem ET {tmps:Array Value} {w:World} {b:Nat} {x y z:Value} (h2:tmps.getD 2 undef=x) (h3:tmps.getD 3 undef= .pointer (some (b,0))) (hr:Row w b 72 [y,z]):
  (results Tryz.f33 tmps).run Tryz.prog w= .ok (.tuple #[x, .agg #[y,z]]) w:=by
 have h2':tmps[2]?.getD undef=x:=by simpa using h2
 have h3':tmps[3]?.getD undef= .pointer (some (b,0)):=by simpa using h3
 have c0:=hr.k0;have c1:=hr.k1;simp [results,show Tryz.f33.results= #[.tmp 2, .cell 3 72]from rfl,h2',h3',asAddr,go_sem,c0,c1]
theorem afs (B:Nat->Prop) (p:LP) (av fv:Value) (w:World) (hx:PX B w av fv p) (hap:sP p) (hsp:DA p) (hok: ¬kR p):
  Calls Tryz.prog 33 #[.agg #[av,fv]] w (DC w):=by
 obtain⟨aa,ac,fa,fc,rfl,rfl⟩:=hx.slice;have⟨an,dI⟩:=xq p.arrays.length;have⟨fn,hfn⟩:=xq p.funcs.length;rw[<-dI,<-hfn]at hx|-;have eT:=aF hfn;obtain⟨w0,hw0⟩:∃w0,w0=(w.alloc (.cells #[.slice aa an ac, .slice fa fn fc] 27)).alloc (.cells #[.int .i64 0, .int .i64 0] 72):=⟨_,rfl⟩;have dO:=hw0.symm;have bg:=aF (show Below w w w0 by rw[hw0];exact nR _ _ _);have hr1:Row w0 w 27 [.slice aa an ac, .slice fa fn fc]:=by rw[hw0];exact dV _ _ hn0
 have bL:=aF (show Row w0 (w,1) 72 [I 0,I 0] by rw[hw0];exact jF aH);have c0:=hr1.k0;have c1:=hr1.k1;have bC:=aF hr1;have HX:=aF hx;have ux:=λW (hb:Below w w W)=>QF p hap hsp _ _ W B (hx.below hb)
 rw[vY hok]at ux;have qy:=aF ux;clear hx hap hsp hok hw0 hr1 ux hfn dI;go_enter Tryz.func33,Tryz.ntmps33;go_upto_region 3 with(go_at_call 54;refine aN (qy _ bg) λw2 hb1=> ?_;have hb2:=bg.out.trans (hb1.mono bg.size);have hr:=bC.ext hb1;clear c0 c1;have c0:=hr.k0;have c1:=hr.k1;have fY:=aF hb2;have kH:=aF hr;have dz:=bA bL hb1;clear hb2 hr)
 have hq:=dz.out;have q0:=hq.k0;have q1:=hq.k1;have p0:=hq.frozen 0;have p1:=hq.frozen 1;have kE:=aF hq;clear hq;go_wp2;refine bodyPost_ret (ET rfl rfl ((kE.set 0 _).set 1 _)) rfl ?_;exact Ca (by first|decide|assumption) fY
theorem a_.room {α:Type} {k e:Nat} {enc:α->List Value} {w:World} {base:Nat} {v:Value} {l:List α} (h:a_ k e enc w base v l):∀a n c,v= .slice a n c->n<=c:=by
 intro a n c e;rcases h.2 with⟨hv,h0⟩|⟨g,cap,cs,hv,_,_,hle,_⟩
 ·rw[hv]at e;cases e;first|exact Nat.zero_le _|omega
 ·rw[hv]at e;cases e;first|exact hle|omega
theorem afD (B:Nat->Prop) (p:LP) (av fv:Value) (w:World) (hx:PX B w av fv p) (hap:sP p) (hsp:DA p) (hok:kR p) (ht:nS (j3 p)=true) (hN:p.arrays.length+p.funcs.length<=1000000000):
  Calls Tryz.prog 33 #[.agg #[av,fv]] w (DC w):=by
 obtain⟨aa,ac,fa,fc,rfl,rfl⟩:=hx.slice;have⟨an,dI⟩:=xq p.arrays.length;have⟨fn,hfn⟩:=xq p.funcs.length;rw[<-dI,<-hfn]at hx|-;have eT:=aF hfn;have mD:=aF dI;obtain⟨w0,hw0⟩:∃w0,w0=(w.alloc (.cells #[.slice aa an ac, .slice fa fn fc] 27)).alloc (.cells #[.int .i64 0, .int .i64 0] 72):=⟨_,rfl⟩;have dO:=hw0.symm;have bg:=aF (show Below w w w0 by rw[hw0];exact nR _ _ _);have hr1:Row w0 w 27 [.slice aa an ac, .slice fa fn fc]:=by rw[hw0];exact dV _ _ hn0
 have bL:=aF (show Row w0 (w,1) 72 [I 0,I 0] by rw[hw0];exact jF aH);have c0:=hr1.k0;have c1:=hr1.k1;have bC:=aF hr1;have HX:=aF hx;have ux:=λW (hb:Below w w W)=>QF p hap hsp _ _ W B (hx.below hb)
 rw[t_ hok]at ux;have qy:=aF ux;have⟨al,hal⟩:=xq (p.arrays.map (·.name));have⟨fl,hfl⟩:=xq (p.funcs.map (·.name));have hgl:j3 p=al++fl:=by rw[hal,hfl];rfl
 rw[hgl]at ht;have GV:=aF ht;have jM:=aF hal;have rQ:=aF hfl;have oI:=aF hN;clear hx hap hsp hok hw0 hr1 ux hfn dI hal hfl hgl ht hN;go_enter Tryz.func33,Tryz.ntmps33;go_upto_region 4 with(go_at_call 54;refine aN (qy _ bg) λw2 hb1=> ?_;have hb2:=bg.out.trans (hb1.mono bg.size);have hr:=bC.ext hb1;clear c0 c1;have c0:=hr.k0;have c1:=hr.k1;have fY:=aF hb2;have kH:=aF hr;have dz:=bA bL hb1;clear hb2 hr)
 go_upto_region 6 with(fail)
 go_loopg [5,6] an (λgh v i wr=>∃k:Nat,gh+k=an/\i=I k/\wr.cell? (w,0)=some (.slice aa an ac)/\wr.cell? (w,1)=some (.slice fa fn fc)/\Hid (Below w w wr/\Row wr w 27 [.slice aa an ac, .slice fa fn fc]/\Row wr (w,1) 72 [I 0,I 0]/\a_ 1 9 fR wr (w,2) v (al.take k)))
 case atStart=>exact⟨0,rfl,rfl,c0,c1,aF ⟨fY,kH,dz,a_.nil⟩⟩
 case round=>
  obtain⟨k,hg,rfl,d0,d1,HH⟩:=hrel;clear c0 c1;obtain⟨wo,rfl⟩:=xq wr;by_cases hlt:k<an
  ·have bT:(k:Int)<(an:Int):=aG;have hbig:an<=1000000000:=by have:=oI.out;have:=mD.out;omega
   obtain⟨b,o,C,rfl,_,hC,hrx⟩:=(HX.arrays.below HH.out.1 (λC x h=>h)).at (show k<p.arrays.length by rw[<-mD.out];exact hlt);have wU:k<p.arrays.length:=by rw[<-mD.out];exact hlt
   have⟨x,hx⟩:=xq (p.arrays[k]);rw[<-hx]at hrx;obtain⟨h0,h1⟩:=hrx;have e0:=hC 0 aG;rw[h0]at e0;simp only[aA]at e0;have htk:al.take (k+1)=al.take k++ [x.name]:=by
    rw[jM.out,List.take_succ_eq_append_getElem (by simpa using wU)];simp [hx]
   have⟨tl,htl⟩:=xq (al.take k);rw[<-htl]at htk;have hlk:tl.length<=1000000000:=by have:=oI.out;rw[htl,jM.out,List.length_take,aC];omega
   have ho0:=HH.out.2.2.2;rw[<-htl]at ho0;have fL:=aF htk;have oL:=aF ho0;have hz3:w.heap.size+2<=wo.heap.size:=HH.out.2.2.1.lt;clear hC h0 h1 hx htk htl ho0 wU;obtain⟨va,vc,rfl⟩:=oL.slice;go_wp2_with (at_builtin;refine lX wu rfl _ _ rfl qC Ho (w.heap.size+2) _ tl rfl (a_.tag oL.out iD eF) wo.heap.size x.name rfl (λj hj=>(cell_of_block (cj wo (.cells #[S x.name] 9)) j).trans (by simp [fR])) hlk aG ct ?_;intro g2 cap2 w5 fT cD qu uX;have dQ:=aF fT;have cL:=aF ((HH.out.2.1.kept (cE _ (.cells #[S x.name] 9) none) aH).kept cD (λe=>by have:=(cO (a_.tag oL (cE _ (.cells #[S x.name] 9) none) eF) _ e.symm).1;omega));have cZ:=aF ((HH.out.2.2.1.kept (cE _ (.cells #[S x.name] 9) none) aH).kept cD (λe=>by have:=(cO (a_.tag oL (cE _ (.cells #[S x.name] 9) none) eF) _ e.symm).1;omega));have bW:=aF ((HH.out.1.alloc HH.out.1.size (.cells #[S x.name] 9)).grown cD (by have:=HH.out.1.size;simp;omega) (λr e=>by have:=(cO (a_.tag oL (cE _ (.cells #[S x.name] 9) none) eF) _ e).1;omega));clear fT cD qu)
   have bp:=cL.out;have f0:=bp.k0;have f1:=bp.k1;go_roundg (an - (k+1))
   case measure=>omega
   case rel=>exact⟨k+1,aG,by go_num,f0,f1,aF ⟨bW,cL,cZ,by rw[fL.out];simpa using dQ.out⟩⟩
  ·have bT: ¬(k:Int)<(an:Int):=aG;have dQ:=aF (show a_ 1 9 fR wo (w,2) _ al by have:=HH.out.2.2.2;rwa[List.take_of_length_le (by rw[jM.out];have:=mD.out;simp;omega)]at this);go_upto_region 10 with(fail)
   go_loopg [5,7] fn (λgh v i wr=>∃k:Nat,gh+k=fn/\i=I k/\wr.cell? (w,0)=some (.slice aa an ac)/\wr.cell? (w,1)=some (.slice fa fn fc)/\Hid (Below w w wr/\Row wr w 27 [.slice aa an ac, .slice fa fn fc]/\Row wr (w,1) 72 [I 0,I 0]/\a_ 1 9 fR wr (w,2) v (al++fl.take k)))
   case atStart=>exact⟨0,rfl,rfl,d0,d1,aF ⟨HH.out.1,HH.out.2.1,HH.out.2.2.1,by simpa using dQ.out⟩⟩
   case round=>
    clear HH;obtain⟨j,hg2,rfl,c0,c1,HH⟩:=hrel;clear d0 d1;obtain⟨wq,rfl⟩:=xq wr;by_cases qI:j<fn
    ·have yO:(j:Int)<(fn:Int):=aG;have hbig:fn<=1000000000:=by have:=oI.out;have:=eT.out;omega
     have wU:j<p.funcs.length:=by rw[<-eT.out];exact qI
     obtain⟨b,o,C,rfl,_,hC,hrx⟩:=(HX.funcs.below HH.out.1 (λC x h=>h.grown (bX HH.out.1 none) aJ)).at wU;have⟨x,hx⟩:=xq (p.funcs[j]);rw[<-hx]at hrx;obtain⟨h0, -⟩:=hrx;have e0:=hC 0 aG;rw[h0]at e0;simp only[aA]at e0;have htk:al++fl.take (j+1)=al++fl.take j++ [x.name]:=by
      rw[rQ.out,List.take_succ_eq_append_getElem (by simpa using wU),List.append_assoc];simp [hx]
     have⟨tl,htl⟩:=xq (al++fl.take j);rw[<-htl]at htk;have hlk:tl.length<=1000000000:=by have:=oI.out;rw[htl,jM.out,rQ.out,ax,List.length_take,aC,aC];omega
     have ho0:=HH.out.2.2.2;rw[<-htl]at ho0;have fL:=aF htk;have oL:=aF ho0;have hz3:w.heap.size+2<=wq.heap.size:=HH.out.2.2.1.lt;clear hC h0 hx htk htl ho0 wU;obtain⟨va,vc,rfl⟩:=oL.slice;go_wp2_with (at_builtin;refine lX wu rfl _ _ rfl qC Ho (w.heap.size+2) _ tl rfl (a_.tag oL.out iD eF) wq.heap.size x.name rfl (λj hj=>(cell_of_block (cj wq (.cells #[S x.name] 9)) j).trans (by simp [fR])) hlk aG ct ?_;intro g2 cap2 w5 fT cD qu uX;have dQ:=aF fT;have cL:=aF ((HH.out.2.1.kept (cE _ (.cells #[S x.name] 9) none) aH).kept cD (λe=>by have:=(cO (a_.tag oL (cE _ (.cells #[S x.name] 9) none) eF) _ e.symm).1;omega));have cZ:=aF ((HH.out.2.2.1.kept (cE _ (.cells #[S x.name] 9) none) aH).kept cD (λe=>by have:=(cO (a_.tag oL (cE _ (.cells #[S x.name] 9) none) eF) _ e.symm).1;omega));have bW:=aF ((HH.out.1.alloc HH.out.1.size (.cells #[S x.name] 9)).grown cD (by have:=HH.out.1.size;simp;omega) (λr e=>by have:=(cO (a_.tag oL (cE _ (.cells #[S x.name] 9) none) eF) _ e).1;omega));clear fT cD qu)
     have bp:=cL.out;have f0:=bp.k0;have f1:=bp.k1;go_roundg (fn - (j+1))
     case measure=>omega
     case rel=>exact⟨j+1,aG,by go_num,f0,f1,aF ⟨bW,cL,cZ,by rw[fL.out];simpa using dQ.out⟩⟩
    ·have yO: ¬(j:Int)<(fn:Int):=aG;have jB:=HH.out.2.2.2;rw[List.take_of_length_le (by rw[rQ.out];have:=eT.out;simp;omega)]at jB;have G3:=GV.out;have⟨gl,hgl⟩:=xq (al++fl);rw[<-hgl]at jB G3;have oP:gl.length<=1000000000:=by have:=oI.out;rw[hgl,ax,jM.out,rQ.out,aC,aC];exact this
     have hroom:=jB.room;obtain⟨va,vc,rfl⟩:=jB.slice;have hrs:aP (w.heap.size+2<=·) 1 dc wq (.slice va gl.length vc) gl:=by simpa using jB.l7 (R:=dc) (λx=>x) qC oP (λx _=>rfl)
     have yI:=QI wq _ gl hrs hroom;rw[G3]at yI;have⟨gn,cN⟩:=xq gl.length;rw[<-cN]at yI|-;have oG:=aF yI;have nt:=aF HH.out.1;have jc:=aF HH.out.2.2.1;clear jB oP hrs yI HH hroom hgl cN G3 dQ;go_upto_region 14 with(go_at_call 55;refine aN oG λw6 bV=> ?_;have cY:=aU nt bV;have uv:=bA jc bV)
     have hq:=uv.out;have q0:=hq.k0;have q1:=hq.k1;have p0:=hq.frozen 0;have p1:=hq.frozen 1;have kE:=aF hq;clear hq;go_wp2;refine bodyPost_ret (ET rfl rfl ((kE.set 0 _).set 1 _)) rfl ?_;exact Ca (by first|decide|assumption) cY
end
end Go.Proofs.YtjgbkdbkachciaaGreatDoor
