import Derived.Test.YtjgbkdbkachciaaGreatDoorN6
set_option linter.all false
namespace Go.Proofs.YtjgbkdbkachciaaGreatDoor
set_option maxRecDepth 100000
set_option maxHeartbeats 16000000
section
open Go.RowKit Go.Shelf
attribute [local go_sem] Oper.semAt_some
structure ak7 (f:LF):Prop where
 name:eH f.name
 params:∀x∈f.params,eH x
 locals:∀x∈f.locals,eH x
 body:∀x∈f.body,qs x
structure sP (p:LP):Prop where
 arrays:∀a∈p.arrays,eH a.name
 funcs:∀f∈p.funcs,ak7 f
theorem Yh (x:aK) (h:eH x) (w:World) (g:Nat) (hr:Row w g 9 [S x]):
  CR 77 #[.slice (some (g,0)) 1 1] w (.bool (isName x)):=by
 have hrs:aP (λ_=>True) 1 dc w (.slice (some (g,0)) 1 1) [x]:=⟨_,_,rfl,aH, .inr ⟨g,0,rfl,trivial,λi y hy=>by
  cases i with
  |zero=>
   simp only[af,Option.some.injEq]at hy;subst hy;refine⟨λ_=>S x,λj hj=> ?_,rfl⟩;obtain rfl:j=0:=aG;rw[hr.cell];rfl
  |succ i=>simp at hy⟩⟩
 have:=Q6 [x] (λy hy=>by obtain rfl:=ai hy;exact h) _ w _ hrs;simpa using this
theorem NH (l:List aK) (h:∀x∈l,eH x):Names l↔l.all isName=true:=by
 rw[List.all_eq_true];exact⟨λhn x hx=>(hn x hx).2,λhn x hx=>⟨h x hx,hn x hx⟩⟩
theorem Yz (p:LP) (hap:sP p) (av fv:Value) (w:World) (B:Nat->Prop) (hx:PX B w av fv p):
  CR 43 #[.agg #[av,fv]] w (.bool (bP (kR p))):=by
 have⟨Q,hQ⟩:=xq (bP (kR p));have HQ:=aF hQ;rw[<-hQ];obtain⟨aa,ac,fa,fc,rfl,rfl⟩:=hx.slice;have HX:=aF hx;have HP:=aF hap;have aI:=aF (cm w (.cells #[.slice aa p.arrays.length ac, .slice fa p.funcs.length fc] 27));have bC:=aF (show Row (w.alloc (.cells #[.slice aa p.arrays.length ac, .slice fa p.funcs.length fc] 27)) w 27 [.slice aa p.arrays.length ac, .slice fa p.funcs.length fc]from cj _ _);have jS:=hx.arrays;have o9:=hx.funcs;obtain⟨_,_,_,nJ, -⟩:=jS;obtain⟨_,_,_,hlm, -⟩:=o9;clear hx hap hQ;go_enter Tryz.func43,Tryz.ntmps43;go_upto_region 2 with(fail)
 go_loopg [10] p.arrays.length (λgh i wr=>∃k:Nat,gh+k=p.arrays.length/\i=I k/\Hid (Below w w wr/\Row wr w 27 [.slice aa p.arrays.length ac, .slice fa p.funcs.length fc]/\∀j,(hj:j<p.arrays.length)->j<k->rM p.arrays[j]))
 case atStart=>exact⟨0,rfl,rfl,aF ⟨aI,bC,λj _ h=>absurd h aG⟩⟩
 case round=>
  obtain⟨k,hg,rfl,HH⟩:=hrel;obtain⟨wo,rfl⟩:=xq wr;by_cases hlt:k<p.arrays.length
  ·have bT:(k:Int)<(p.arrays.length:Int):=aG;obtain⟨b,o,C,rfl,_,hC,hrx⟩:=(HX.arrays.below HH.out.1 (λC x h=>h)).at hlt;have hok:=HP.arrays _ (ak hlt);have⟨x,hx⟩:=xq (p.arrays[k]);rw[<-hx]at hrx hok;have lN:=aF (show¬rM x->Q=false from λhn=>by
    rw[HQ.out];exact vY λh=>hn (by rw[hx];exact h.arrays _ (ak hlt)))
   have sX:=aF hx;have Km:=aF hok;obtain⟨h0,h1⟩:=hrx;have e0:=hC 0 aG;have e1:=hC 1 aG;rw[h0]at e0;rw[h1]at e1;simp only[aA]at e0 e1;have⟨nb,hnb⟩:=xq (isName x.name);have HN:=aF (λW g hr=>Yh x.name hok W g hr);rw[<-hnb]at HN;have sW:=aF hnb;clear hC h0 h1 hok hx hnb;go_upto_region 4 with(refine sr 68 (.tmp 4) (.tmp 13) wo aZ hn0 ?_)
   obtain⟨w3,hw3⟩:∃w3,w3=(wo.alloc (.cells aZ 68)).setRow wo #[S x.name,I x.size]:=⟨_,rfl⟩;have hz:=HH.out.1.size;have hb3:Below w w w3:=by rw[hw3];exact(HH.out.1.alloc hz _).grown bJ ct bh
   have hr3:Row w3 w 27 [.slice (some (b,o)) p.arrays.length ac, .slice fa p.funcs.length fc]:=by
    have:=HH.out.2.1.lt;rw[hw3];exact(setRow_other _ _ _ _ aG).trans (ho0 HH.out.2.1)
   have hx3:Row w3 wo 68 [S x.name,I x.size]:=by rw[hw3];exact setRow_heap _ _ _ _ _ _ hn0
   rw[<-hw3];have c0:=hx3.cell 0;simp only[af]at c0;have aW:=aF hb3;have bL:=aF hr3;have bq:=aF hx3;clear hw3 hb3 hr3 hx3 e0 e1;cases nb
   case false=>
    obtain rfl:Q=false:=lN λh=>by have:=h.1.2;rw[<-sW.out]at this;cases this
    go_wp2_with (go_at_call 77;refine aN (HN _ w3.heap.size hn0) λw4 hb4=> ?_;have hbb:=(cm w3 (.cells #[S x.name] 9)).trans (hb4.mono aH);have aR:=aU aW hbb;have bU:=bA bL hbb;have fh:=bq.ext hbb;have c1:=fh.k1;clear hbb fh)
    go_ret;exact⟨rfl,aR⟩
   by_cases hs3:x.size<1
   case pos=>
    obtain rfl:Q=false:=lN λh=>by have:=h.2.1;omega
    go_wp2_with (go_at_call 77;refine aN (HN _ w3.heap.size hn0) λw4 hb4=> ?_;have hbb:=(cm w3 (.cells #[S x.name] 9)).trans (hb4.mono aH);have aR:=aU aW hbb;have bU:=bA bL hbb;have fh:=bq.ext hbb;have c1:=fh.k1;clear hbb fh)
    go_ret;exact⟨rfl,aR⟩
   by_cases hs4:1048576<x.size
   case pos=>
    obtain rfl:Q=false:=lN λh=>by have:=h.2.2;omega
    go_wp2_with (go_at_call 77;refine aN (HN _ w3.heap.size hn0) λw4 hb4=> ?_;have hbb:=(cm w3 (.cells #[S x.name] 9)).trans (hb4.mono aH);have aR:=aU aW hbb;have bU:=bA bL hbb;have fh:=bq.ext hbb;have c1:=fh.k1;clear hbb fh)
    go_ret;exact⟨rfl,aR⟩
   have qP:=aF (show rM x from⟨⟨Km,sW.out.symm⟩,aG,aG⟩);go_wp2_with (go_at_call 77;refine aN (HN _ w3.heap.size hn0) λw4 hb4=> ?_;have hbb:=(cm w3 (.cells #[S x.name] 9)).trans (hb4.mono aH);have aR:=aU aW hbb;have bU:=bA bL hbb;have fh:=bq.ext hbb;have c1:=fh.k1;clear hbb fh)
   go_roundg (p.arrays.length - (k+1))
   case measure=>omega
   case rel=>exact⟨k+1,aG,by go_num,aF ⟨aR,bU,λj hj hjk=>by
    by_cases e:j=k
    ·subst e;rw[<-sX.out];exact qP.out
    ·exact HH.out.2.2 j hj aG⟩⟩
  ·have bT: ¬(k:Int)<(p.arrays.length:Int):=aG;have bW:=aF HH.out.1;have bp:=HH.out.2.1;have mV:=aF (show∀a∈p.arrays,rM a from λa ha=>by
    obtain⟨j,hj,rfl⟩:=List.getElem_of_mem ha;exact HH.out.2.2 j hj aG)
   have c1:=bp.k1;clear HH bp;go_upto_region 8 with(fail)
   go_loopg [33] p.funcs.length (λgh i wr=>∃k:Nat,gh+k=p.funcs.length/\i=I k/\Hid (Below w w wr/\∀j,(hj:j<p.funcs.length)->j<k->okF p.funcs[j]))
   case atStart=>exact⟨0,rfl,rfl,aF ⟨bW,λj _ h=>absurd h aG⟩⟩
   case round=>
    obtain⟨j,hg2,rfl,HH⟩:=hrel;obtain⟨wq,rfl⟩:=xq wr;by_cases qI:j<p.funcs.length
    ·have yO:(j:Int)<(p.funcs.length:Int):=aG;obtain⟨b,o,C,rfl,_,hC,hrx⟩:=(HX.funcs.below HH.out.1 (λC x h=>h.grown (bX HH.out.1 none) aJ)).at qI;have hok:=HP.funcs _ (ak qI);have⟨x,hx⟩:=xq (p.funcs[j]);rw[<-hx]at hrx hok;have lN:=aF (show¬okF x->Q=false from λhn=>by
      rw[HQ.out];exact vY λh=>hn (by rw[hx];exact h.funcs _ (ak qI)))
     have sX:=aF hx;have Km:=aF hok;obtain⟨h0,j5,hloc,hbody⟩:=hrx;have e0:=hC 0 aG;have e1:=hC 1 aG;have e2:=hC 2 aG;have e3:=hC 3 aG;obtain⟨pa,pc,hpv, -⟩:=id j5;obtain⟨la,lc,hlv, -⟩:=id hloc;obtain⟨ba,bc,l_⟩:=hbody.slice;rw[h0]at e0;rw[hpv]at e1 j5;rw[hlv]at e2 hloc;rw[l_]at e3 hbody;simp only[aA]at e0 e1 e2 e3;have⟨nb,hnb⟩:=xq (isName x.name);have⟨np,ve⟩:=xq (x.params.all isName);have⟨nl,hnl⟩:=xq (x.locals.all isName);have⟨bb,hbb⟩:=xq (bP (∀y∈x.body,mC 40 y));have HN:=aF (λW g hr=>Yh x.name hok.name W g hr);have uu:=aF (λW hh=>Q6 x.params hok.params (.slice pa x.params.length pc) W B hh);have gL:=aF (λW hh=>Q6 x.locals hok.locals (.slice la x.locals.length lc) W B hh);have sW:=aF (aaT 40 aG x.body (.slice ba x.body.length bc) B hok.body);rw[<-hnb]at HN;rw[<-ve]at uu;rw[<-hnl]at gL;rw[<-hbb]at sW;have uT:=aF (show okF x↔nb=true/\np=true/\nl=true/\x.params.length<=6/\bb=true from by
      rw[hnb,ve,hnl,hbb,ow,<-NH _ hok.params,<-NH _ hok.locals];exact⟨λh=>⟨h.1.2,h.2⟩,λh=>⟨⟨hok.name,h.1⟩,h.2⟩⟩)
     have o_:=aF j5;have mW:=aF hloc;have iL:=aF hbody;clear hC h0 ve hnl hnb hbb hok j5 hloc hbody hpv hlv l_ hx;go_upto_region 10 with(refine sr 52 (.tmp 6) (.tmp 36) wq CU hn0 ?_)
     obtain⟨w3,hw3⟩:∃w3,w3=(wq.alloc (.cells CU 52)).setRow wq #[S x.name, .slice pa x.params.length pc, .slice la x.locals.length lc, .slice ba x.body.length bc]:=⟨_,rfl⟩;have hz:=HH.out.1.size;have hb3:Below wq wq w3:=by rw[hw3];exact(cm wq _).grown bJ aH bh
     have hx3:Row w3 wq 52 [S x.name, .slice pa x.params.length pc, .slice la x.locals.length lc, .slice ba x.body.length bc]:=by rw[hw3];exact setRow_heap _ _ _ _ _ _ hn0
     rw[<-hw3];have c0:=hx3.cell 0;simp only[af]at c0;have aW:=aF hb3;have bq:=aF hx3;clear hw3 hb3 hx3 e0 e1 e2 e3
     try clear c1
     cases nb
     case false=>
      obtain rfl:Q=false:=lN λh=>by have:=(uT.1 h).1;cases this
      go_wp2_with (go_at_call 77;refine aN (HN _ w3.heap.size hn0) λw4 hb4=> ?_;have hbb:=(cm w3 (.cells #[S x.name] 9)).trans (hb4.mono aH);have aR:=aU aW hbb;have fh:=bq.ext hbb;have cI:=aF fh;have c1:=fh.k1;clear hbb fh)
      go_ret;exact⟨rfl,HH.out.1.trans (aR.mono hz)⟩
     cases np
     case false=>
      obtain rfl:Q=false:=lN λh=>by have:=(uT.1 h).2.1;cases this
      go_wp2_with (first|(go_at_call 77;refine aN (HN _ w3.heap.size hn0) λw4 hb4=> ?_;have hbb:=(cm w3 (.cells #[S x.name] 9)).trans (hb4.mono aH);have aR:=aU aW hbb;have fh:=bq.ext hbb;have cI:=aF fh;have c1:=fh.k1;clear hbb fh)|(go_at_call 77;refine aN (uu _ (o_.grown (aT aR) aJ i20)) λw5 bz=> ?_;have bW:=aU aR bz;have kD:=cI.ext bz;have rV:=aF kD;have c2:=kD.k2;clear kD))
      go_ret;exact⟨rfl,HH.out.1.trans (bW.mono hz)⟩
     cases nl
     case false=>
      obtain rfl:Q=false:=lN λh=>by have:=(uT.1 h).2.2.1;cases this
      go_wp2_with (first|(go_at_call 77;refine aN (HN _ w3.heap.size hn0) λw4 hb4=> ?_;have hbb:=(cm w3 (.cells #[S x.name] 9)).trans (hb4.mono aH);have aR:=aU aW hbb;have fh:=bq.ext hbb;have cI:=aF fh;have c1:=fh.k1;clear hbb fh)|(go_at_call 77;refine aN (uu _ (o_.grown (aT aR) aJ i20)) λw5 bz=> ?_;have bW:=aU aR bz;have kD:=cI.ext bz;have rV:=aF kD;have c2:=kD.k2;clear kD)|(go_at_call 77;refine aN (gL _ (mW.grown (aT bW) aJ i20)) λw6 bV=> ?_;have cY:=aU bW bV;have n9:=rV.ext bV;have rS:=aF n9;have c1:=n9.k1;have c3:=n9.k3;clear n9))
      go_ret;exact⟨rfl,HH.out.1.trans (cY.mono hz)⟩
     by_cases fU:x.params.length<=6
     case neg=>
      have Sh:6<(x.params.length:Int):=aG;obtain rfl:Q=false:=lN λh=>fU (uT.1 h).2.2.2.1;go_wp2_with (first|(go_at_call 77;refine aN (HN _ w3.heap.size hn0) λw4 hb4=> ?_;have hbb:=(cm w3 (.cells #[S x.name] 9)).trans (hb4.mono aH);have aR:=aU aW hbb;have fh:=bq.ext hbb;have cI:=aF fh;have c1:=fh.k1;clear hbb fh)|(go_at_call 77;refine aN (uu _ (o_.grown (aT aR) aJ i20)) λw5 bz=> ?_;have bW:=aU aR bz;have kD:=cI.ext bz;have rV:=aF kD;have c2:=kD.k2;clear kD)|(go_at_call 77;refine aN (gL _ (mW.grown (aT bW) aJ i20)) λw6 bV=> ?_;have cY:=aU bW bV;have n9:=rV.ext bV;have rS:=aF n9;have c1:=n9.k1;have c3:=n9.k3;clear n9))
      go_ret;exact⟨rfl,HH.out.1.trans (cY.mono hz)⟩
     have Sh: ¬6<(x.params.length:Int):=aG;cases bb
     case false=>
      obtain rfl:Q=false:=lN λh=>by have:=(uT.1 h).2.2.2.2;cases this
      go_wp2_with (first|(go_at_call 77;refine aN (HN _ w3.heap.size hn0) λw4 hb4=> ?_;have hbb:=(cm w3 (.cells #[S x.name] 9)).trans (hb4.mono aH);have aR:=aU aW hbb;have fh:=bq.ext hbb;have cI:=aF fh;have c1:=fh.k1;clear hbb fh)|(go_at_call 77;refine aN (uu _ (o_.grown (aT aR) aJ i20)) λw5 bz=> ?_;have bW:=aU aR bz;have kD:=cI.ext bz;have rV:=aF kD;have c2:=kD.k2;clear kD)|(go_at_call 77;refine aN (gL _ (mW.grown (aT bW) aJ i20)) λw6 bV=> ?_;have cY:=aU bW bV;have n9:=rV.ext bV;have rS:=aF n9;have c1:=n9.k1;have c3:=n9.k3;clear n9)|(go_at_call 78;refine aN (sW _ (iL.grown (aT cY) aJ)) λw7 fS=> ?_;have iK:=aU cY fS))
      go_ret;exact⟨rfl,HH.out.1.trans (iK.mono hz)⟩
     have qP:=aF (uT.2 ⟨rfl,rfl,rfl,fU,rfl⟩);go_wp2_with (first|(go_at_call 77;refine aN (HN _ w3.heap.size hn0) λw4 hb4=> ?_;have hbb:=(cm w3 (.cells #[S x.name] 9)).trans (hb4.mono aH);have aR:=aU aW hbb;have fh:=bq.ext hbb;have cI:=aF fh;have c1:=fh.k1;clear hbb fh)|(go_at_call 77;refine aN (uu _ (o_.grown (aT aR) aJ i20)) λw5 bz=> ?_;have bW:=aU aR bz;have kD:=cI.ext bz;have rV:=aF kD;have c2:=kD.k2;clear kD)|(go_at_call 77;refine aN (gL _ (mW.grown (aT bW) aJ i20)) λw6 bV=> ?_;have cY:=aU bW bV;have n9:=rV.ext bV;have rS:=aF n9;have c1:=n9.k1;have c3:=n9.k3;clear n9)|(go_at_call 78;refine aN (sW _ (iL.grown (aT cY) aJ)) λw7 fS=> ?_;have iK:=aU cY fS))
     go_roundg (p.funcs.length - (j+1))
     case measure=>omega
     case rel=>exact⟨j+1,aG,by go_num,aF ⟨HH.out.1.trans (iK.mono hz),λi hi hij=>by
      by_cases e:i=j
      ·subst e;rw[<-sX.out];exact qP.out
      ·exact HH.out.2 i hi aG⟩⟩
    ·have yO: ¬(j:Int)<(p.funcs.length:Int):=aG;have hend:Q=true:=by
      rw[HQ.out];exact t_ ⟨mV,λf hf=>by
       obtain⟨i,hi,rfl⟩:=List.getElem_of_mem hf;exact HH.out.2 i hi aG⟩
     subst hend;go_wp2;go_ret;exact⟨rfl,HH.out.1⟩
def DC (w:World) (e:Ending) (w':World):Prop:=(∃(c x y:Int),e= .returned (.tuple #[I c, .agg #[I x,I y]])/\c≠0)/\Below w.heap.size w w'
theorem Ca {w wo:World} {c x y:Int} (hc:c≠0) (hb:Below w w wo):
  DC w (.returned (.tuple #[I c, .agg #[I x,I y]])) ((wo.setCell (w,1,0) (I x)).setCell (w,1,1) (I y)):=by
 have hg1:=bO wo (w,1) 0 (I x);have hg2:=bO (wo.setCell (w,1,0) (I x)) (w,1) 1 (I y);exact⟨⟨c,x,y,rfl,hc⟩,(hb.grown hg1 hb.size PA).grown hg2 (by have:=hg1.size;have:=hb.size;omega) PA⟩
theorem agM (B:Nat->Prop) (p:LP) (av fv:Value) (w:World) (hx:PX B w av fv p) (hap:sP p) (hok: ¬kR p):
  Calls Tryz.prog 31 #[.agg #[av,fv]] w (DC w):=by
 obtain⟨aa,ac,fa,fc,rfl,rfl⟩:=hx.slice;have⟨an,dI⟩:=xq p.arrays.length;have⟨fn,hfn⟩:=xq p.funcs.length;rw[<-dI,<-hfn]at hx|-;have eT:=aF hfn;obtain⟨w0,hw0⟩:∃w0,w0=(w.alloc (.cells #[.slice aa an ac, .slice fa fn fc] 27)).alloc (.cells #[.int .i64 0, .int .i64 0] 72):=⟨_,rfl⟩;have dO:=hw0.symm;have bg:=aF (show Below w w w0 by rw[hw0];exact nR _ _ _);have hr1:Row w0 w 27 [.slice aa an ac, .slice fa fn fc]:=by rw[hw0];exact dV _ _ hn0
 have bL:=aF (show Row w0 (w,1) 72 [I 0,I 0] by rw[hw0];exact jF aH);have c0:=hr1.k0;have c1:=hr1.k1;have bC:=aF hr1;have HX:=aF hx;have eG:=aF (λW (hb:Below w w W)=>Dy p dX _ _ W B (hx.below hb));have ux:=λW (hb:Below w w W)=>Yz p hap _ _ W B (hx.below hb)
 rw[vY hok]at ux;have qy:=aF ux;clear hx hap hok hw0 hr1 ux hfn dI;go_enter Tryz.func31,Tryz.ntmps31;go_upto_region 3 with(first|(go_at_call 48;refine aN (eG _ bg) λw1 hb1=> ?_;have hb2:=bg.out.trans (hb1.mono bg.size);have hr:=bC.ext hb1;clear c0 c1;have c0:=hr.k0;have c1:=hr.k1;have kj:=aF hb2;have gJ:=aF hr;have bF:=bA bL hb1;clear hb2 hr)|(go_at_call 43;refine aN (qy _ kj) λw2 hb1=> ?_;have hb2:=kj.out.trans (hb1.mono kj.size);have hr:=gJ.ext hb1;clear c0 c1;have c0:=hr.k0;have c1:=hr.k1;have fY:=aF hb2;have kH:=aF hr;have dz:=bA bF hb1;clear hb2 hr))
 have hq:=dz.out;have q0:=hq.k0;have q1:=hq.k1;have p0:=hq.frozen 0;have p1:=hq.frozen 1;have kE:=aF hq;clear hq;go_wp2;refine bodyPost_ret (G8 rfl rfl ((kE.set 0 _).set 1 _)) rfl ?_;exact Ca (by first|decide|assumption) fY
theorem agN (B:Nat->Prop) (p:LP) (av fv:Value) (w:World) (hx:PX B w av fv p) (xV:∀(W:World) (av fv:Value),PX B W av fv p->CR 43 #[.agg #[av,fv]] W (.bool true)) (hok:kR p) (ht:nS (j3 p)=true) (hN:p.arrays.length+p.funcs.length<=1000000000):
  Calls Tryz.prog 31 #[.agg #[av,fv]] w (DC w):=by
 obtain⟨aa,ac,fa,fc,rfl,rfl⟩:=hx.slice;have⟨an,dI⟩:=xq p.arrays.length;have⟨fn,hfn⟩:=xq p.funcs.length;rw[<-dI,<-hfn]at hx|-;have eT:=aF hfn;obtain⟨w0,hw0⟩:∃w0,w0=(w.alloc (.cells #[.slice aa an ac, .slice fa fn fc] 27)).alloc (.cells #[.int .i64 0, .int .i64 0] 72):=⟨_,rfl⟩;have dO:=hw0.symm;have bg:=aF (show Below w w w0 by rw[hw0];exact nR _ _ _);have hr1:Row w0 w 27 [.slice aa an ac, .slice fa fn fc]:=by rw[hw0];exact dV _ _ hn0
 have bL:=aF (show Row w0 (w,1) 72 [I 0,I 0] by rw[hw0];exact jF aH);have c0:=hr1.k0;have c1:=hr1.k1;have bC:=aF hr1;have HX:=aF hx;have eG:=aF (λW (hb:Below w w W)=>Dy p dX _ _ W B (hx.below hb));have qy:=aF (λW (hb:Below w w W)=>xV W _ _ (hx.below hb));have qZ:=aF (λW (hb:Below w w W)=>JC p _ _ W B (hx.below hb) hN);have oP:(j3 p).length<=1000000000:=by rw[j3,ax,aC,aC];exact hN
 have oG:=aF (λW v (B':Nat->Prop) (hv:aP B' 1 dc W v (j3 p))=>JL (j3 p) v W B' hv oP);have Ap:=aF oP;rw[ht]at oG;clear hx hok ht hN hw0 hr1 hfn dI oP;go_enter Tryz.func31,Tryz.ntmps31;go_upto_region 4 with(first|(go_at_call 48;refine aN (eG _ bg) λw1 hb1=> ?_;have hb2:=bg.out.trans (hb1.mono bg.size);have hr:=bC.ext hb1;clear c0 c1;have c0:=hr.k0;have c1:=hr.k1;have kj:=aF hb2;have gJ:=aF hr;have bF:=bA bL hb1;clear hb2 hr)|(go_at_call 43;refine aN (qy _ kj) λw2 hb1=> ?_;have hb2:=kj.out.trans (hb1.mono kj.size);have hr:=gJ.ext hb1;clear c0 c1;have c0:=hr.k0;have c1:=hr.k1;have fY:=aF hb2;have kH:=aF hr;have dz:=bA bF hb1;clear hb2 hr))
 go_upto_region 5 with(first|(go_at_call 50;refine(qZ _ fY).mono ?_;rintro e w3⟨gv,rfl,hgo,hb1⟩;have hb2:=fY.out.trans (hb1.mono fY.size);have hr:=kH.ext hb1;clear c0 c1;have ey:=aF hb2;have fP:=aF hr;have C5:=bA dz hb1;have Aq:=aF hgo;clear hb1 hb2 hr hgo)|(go_at_call 49;refine aN (oG _ gv (w2.heap.size<=·) (by simpa using Aq.l7 (R:=dc) (λx=>x) qC Ap.out (λx _=>rfl))) λw4 hb1=> ?_;have hb2:=ey.out.trans (hb1.mono ey.size);have hr:=fP.ext hb1;have c0:=hr.k0;have c1:=hr.k1;have p_:=aF hb2;have Br:=aF hr;have C6:=bA C5 hb1;clear hb2 hr))
 have hq:=C6.out;have q0:=hq.k0;have q1:=hq.k1;have p0:=hq.frozen 0;have p1:=hq.frozen 1;have kE:=aF hq;clear hq;go_wp2;refine bodyPost_ret (G8 rfl rfl ((kE.set 0 _).set 1 _)) rfl ?_;exact Ca (by first|decide|assumption) p_
theorem agO (B:Nat->Prop) (p:LP) (av fv:Value) (w:World) (hx:PX B w av fv p) (xV:∀(W:World) (av fv:Value),PX B W av fv p->CR 43 #[.agg #[av,fv]] W (.bool true)) (hok:kR p) (ht:nS (j3 p)=false) (hm: ¬∃k:Nat,ji p dX=k/\∃h:k<p.funcs.length,(p.funcs[k]'h).params= []) (hN:p.arrays.length+p.funcs.length<=1000000000):
  Calls Tryz.prog 31 #[.agg #[av,fv]] w (DC w):=by
 obtain⟨aa,ac,fa,fc,rfl,rfl⟩:=hx.slice;have⟨an,dI⟩:=xq p.arrays.length;have⟨fn,hfn⟩:=xq p.funcs.length;rw[<-dI,<-hfn]at hx|-;have eT:=aF hfn;obtain⟨w0,hw0⟩:∃w0,w0=(w.alloc (.cells #[.slice aa an ac, .slice fa fn fc] 27)).alloc (.cells #[.int .i64 0, .int .i64 0] 72):=⟨_,rfl⟩;have dO:=hw0.symm;have bg:=aF (show Below w w w0 by rw[hw0];exact nR _ _ _);have hr1:Row w0 w 27 [.slice aa an ac, .slice fa fn fc]:=by rw[hw0];exact dV _ _ hn0
 have bL:=aF (show Row w0 (w,1) 72 [I 0,I 0] by rw[hw0];exact jF aH);have c0:=hr1.k0;have c1:=hr1.k1;have bC:=aF hr1;have HX:=aF hx;have eG:=aF (λW (hb:Below w w W)=>Dy p dX _ _ W B (hx.below hb));have qy:=aF (λW (hb:Below w w W)=>xV W _ _ (hx.below hb));have qZ:=aF (λW (hb:Below w w W)=>JC p _ _ W B (hx.below hb) hN);have oP:(j3 p).length<=1000000000:=by rw[j3,ax,aC,aC];exact hN
 have oG:=aF (λW v (B':Nat->Prop) (hv:aP B' 1 dc W v (j3 p))=>JL (j3 p) v W B' hv oP);have Ap:=aF oP;rw[ht]at oG;by_cases hpl:ji p dX<0
 ·have⟨m,hmm⟩:=xq (ji p dX);rw[<-hmm]at eG hpl;clear hx hok ht hN hw0 hr1 hfn dI oP hm hmm;go_enter Tryz.func31,Tryz.ntmps31;go_upto_region 4 with(first|(go_at_call 48;refine aN (eG _ bg) λw1 hb1=> ?_;have hb2:=bg.out.trans (hb1.mono bg.size);have hr:=bC.ext hb1;clear c0 c1;have c0:=hr.k0;have c1:=hr.k1;have kj:=aF hb2;have gJ:=aF hr;have bF:=bA bL hb1;clear hb2 hr)|(go_at_call 43;refine aN (qy _ kj) λw2 hb1=> ?_;have hb2:=kj.out.trans (hb1.mono kj.size);have hr:=gJ.ext hb1;clear c0 c1;have c0:=hr.k0;have c1:=hr.k1;have fY:=aF hb2;have kH:=aF hr;have dz:=bA bF hb1;clear hb2 hr))
  go_upto_region 6 with(first|(go_at_call 50;refine(qZ _ fY).mono ?_;rintro e w3⟨gv,rfl,hgo,hb1⟩;have hb2:=fY.out.trans (hb1.mono fY.size);have hr:=kH.ext hb1;clear c0 c1;have ey:=aF hb2;have fP:=aF hr;have C5:=bA dz hb1;have Aq:=aF hgo;clear hb1 hb2 hr hgo)|(go_at_call 49;refine aN (oG _ gv (w2.heap.size<=·) (by simpa using Aq.l7 (R:=dc) (λx=>x) qC Ap.out (λx _=>rfl))) λw4 hb1=> ?_;have hb2:=ey.out.trans (hb1.mono ey.size);have hr:=fP.ext hb1;have c0:=hr.k0;have c1:=hr.k1;have p_:=aF hb2;have Br:=aF hr;have C6:=bA C5 hb1;clear hb2 hr))
  go_upto_region 7 with(fail)
  have hq:=C6.out;have q0:=hq.k0;have q1:=hq.k1;have p0:=hq.frozen 0;have p1:=hq.frozen 1;have kE:=aF hq;clear hq;go_wp2;refine bodyPost_ret (G8 rfl rfl ((kE.set 0 _).set 1 _)) rfl ?_;exact Ca (by first|decide|assumption) p_
 ·obtain⟨m,Ar,pG⟩:=A3 hpl;have Ar:ji p dX=(m:Int):=Ar;rw[Ar]at eG;have hne:(p.funcs[m]'pG).params≠ []:=λe=>hm ⟨m,Ar,pG,e⟩;have zu: ¬(m:Int)<0:=aG;have s9:(m:Int)<(fn:Int):=aG;have⟨pf,Bt⟩:=xq (p.funcs[m]'pG);rw[<-Bt]at hne;have Mr:=aF (show∃h:m<p.funcs.length,pf=p.funcs[m]'h from⟨pG,Bt⟩);have tR:=aF hne;clear hok ht hN hw0 hr1 dI oP hm Ar hpl hne hx hfn Bt pG;go_enter Tryz.func31,Tryz.ntmps31;go_upto_region 4 with(first|(go_at_call 48;refine aN (eG _ bg) λw1 hb1=> ?_;have hb2:=bg.out.trans (hb1.mono bg.size);have hr:=bC.ext hb1;clear c0 c1;have c0:=hr.k0;have c1:=hr.k1;have kj:=aF hb2;have gJ:=aF hr;have bF:=bA bL hb1;clear hb2 hr)|(go_at_call 43;refine aN (qy _ kj) λw2 hb1=> ?_;have hb2:=kj.out.trans (hb1.mono kj.size);have hr:=gJ.ext hb1;clear c0 c1;have c0:=hr.k0;have c1:=hr.k1;have fY:=aF hb2;have kH:=aF hr;have dz:=bA bF hb1;clear hb2 hr))
  go_upto_region 6 with(first|(go_at_call 50;refine(qZ _ fY).mono ?_;rintro e w3⟨gv,rfl,hgo,hb1⟩;have hb2:=fY.out.trans (hb1.mono fY.size);have hr:=kH.ext hb1;clear c0 c1;have ey:=aF hb2;have fP:=aF hr;have C5:=bA dz hb1;have Aq:=aF hgo;clear hb1 hb2 hr hgo)|(go_at_call 49;refine aN (oG _ gv (w2.heap.size<=·) (by simpa using Aq.l7 (R:=dc) (λx=>x) qC Ap.out (λx _=>rfl))) λw4 hb1=> ?_;have hb2:=ey.out.trans (hb1.mono ey.size);have hr:=fP.ext hb1;have c0:=hr.k0;have c1:=hr.k1;have p_:=aF hb2;have Br:=aF hr;have C6:=bA C5 hb1;clear hb2 hr))
  have fh:=HX.below p_;obtain⟨b,o,C,rfl,_,hC,hrx⟩:=(show aP B 4 (RF B) w4 (.slice fa p.funcs.length fc) p.funcs by rw[<-eT.out];exact fh.funcs).at Mr.1;rw[<-Mr.2]at hrx;obtain⟨IL,IM,qx, -⟩:=hrx.2.1;have e1:=hC 1 aG;rw[qx]at e1;have⟨pl,hpl⟩:=xq pf.params.length;rw[<-hpl]at e1;have Ms:0<(pl:Int):=by
   have:=List.length_pos_iff.2 tR.out;omega
  clear hC hrx qx fh hpl;go_upto_region 7 with(fail)
  clear e1;have hq:=C6.out;have q0:=hq.k0;have q1:=hq.k1;have p0:=hq.frozen 0;have p1:=hq.frozen 1;have kE:=aF hq;clear hq;go_wp2;refine bodyPost_ret (G8 rfl rfl ((kE.set 0 _).set 1 _)) rfl ?_;exact Ca (by first|decide|assumption) p_
theorem agP (B:Nat->Prop) (p:LP) (av fv:Value) (w:World) (hx:PX B w av fv p) (xV:∀(W:World) (av fv:Value),PX B W av fv p->CR 43 #[.agg #[av,fv]] W (.bool true)) (hok:kR p) (ht:nS (j3 p)=false) (hmain:∃k:Nat,ji p dX=k/\∃h:k<p.funcs.length,(p.funcs[k]'h).params= []) (hbad:∃f∈p.funcs,ot p f≠0) (hcc:∀f∈p.funcs,J9 f) (hN:p.arrays.length+p.funcs.length<=1000000000)
  (jT:∀f∈p.funcs,f.params.length+f.locals.length<=1000000000):
  Calls Tryz.prog 31 #[.agg #[av,fv]] w (DC w):=by
 obtain⟨aa,ac,fa,fc,rfl,rfl⟩:=hx.slice;have⟨an,dI⟩:=xq p.arrays.length;have⟨fn,hfn⟩:=xq p.funcs.length;rw[<-dI,<-hfn]at hx|-;have eT:=aF hfn;obtain⟨m,Ar,pG,hmp⟩:=hmain;obtain⟨w0,hw0⟩:∃w0,w0=(w.alloc (.cells #[.slice aa an ac, .slice fa fn fc] 27)).alloc (.cells #[.int .i64 0, .int .i64 0] 72):=⟨_,rfl⟩;have dO:=hw0.symm;have hb0:Below w w w0:=by rw[hw0];exact nR _ _ _
 have hr1:Row w0 w 27 [.slice aa an ac, .slice fa fn fc]:=by rw[hw0];exact dV _ _ hn0
 have hr3:Row w0 (w,1) 72 [I 0,I 0]:=by rw[hw0];exact jF aH
 have c0:=hr1.k0;have c1:=hr1.k1;have bg:=aF hb0;have bC:=aF hr1;have bL:=aF hr3;have HX:=aF hx;have eG:=aF (λW (hb:Below w w W)=>Dy p dX _ _ W B (hx.below hb));rw[Ar]at eG;have ajk:=aF hbad;have qy:=aF (λW (hb:Below w w W)=>xV W _ _ (hx.below hb));have qZ:=aF (λW (hb:Below w w W)=>JC p _ _ W B (hx.below hb) hN);have oP:(j3 p).length<=1000000000:=by rw[j3,ax,aC,aC];exact hN
 have oG:=aF (λW v (B':Nat->Prop) (hv:aP B' 1 dc W v (j3 p))=>JL (j3 p) v W B' hv oP);rw[ht]at oG;have Ap:=aF oP;have Ve:=aF (λ(f:LF) (hf:f∈p.funcs) (W:World) (pa la:Option Addr) (pc lc:Nat) (bv:Value) (hb:Below w w W) (hp:aP B 1 dc W (.slice pa f.params.length pc) f.params) (hl:aP B 1 dc W (.slice la f.locals.length lc) f.locals) (ng:SX B W bv f.body)=>
  Xd B p f _ _ _ _ bv W (hx.below hb) (hcc f hf B pa la pc lc) hp hl ng hN (jT f hf))
 have zu: ¬(m:Int)<0:=aG;have s9:(m:Int)<(fn:Int):=aG;have Vf:=aF hmp;have CP:fn<=1000000000:=by rw[hfn];omega
 clear hx hok ht hcc hN jT hbad hw0 hb0 hr1 hr3 Ar hmp hfn dI oP;go_enter Tryz.func31,Tryz.ntmps31;go_upto_region 4 with(first|(go_at_call 48;refine aN (eG _ bg) λw1 hb1=> ?_;have hb2:=bg.out.trans (hb1.mono bg.size);have hr:=bC.ext hb1;clear c0 c1;have c0:=hr.k0;have c1:=hr.k1;have kj:=aF hb2;have gJ:=aF hr;have bF:=bA bL hb1;clear hb2 hr)|(go_at_call 43;refine aN (qy _ kj) λw2 hb1=> ?_;have hb2:=kj.out.trans (hb1.mono kj.size);have hr:=gJ.ext hb1;clear c0 c1;have c0:=hr.k0;have c1:=hr.k1;have fY:=aF hb2;have kH:=aF hr;have dz:=bA bF hb1;clear hb2 hr))
 go_upto_region 6 with(first|(go_at_call 50;refine(qZ _ fY).mono ?_;rintro e w3⟨gv,rfl,hgo,hb1⟩;have hb2:=fY.out.trans (hb1.mono fY.size);have hr:=kH.ext hb1;clear c0 c1;have ey:=aF hb2;have fP:=aF hr;have C5:=bA dz hb1;have Aq:=aF hgo;clear hb1 hb2 hr hgo)|(go_at_call 49;refine aN (oG _ gv (w2.heap.size<=·) (by simpa using Aq.l7 (R:=dc) (λx=>x) qC Ap.out (λx _=>rfl))) λw4 hb1=> ?_;have hb2:=ey.out.trans (hb1.mono ey.size);have hr:=fP.ext hb1;have c0:=hr.k0;have c1:=hr.k1;have p_:=aF hb2;have Br:=aF hr;have C6:=bA C5 hb1;clear hb2 hr))
 have fh:=HX.below p_;have akx:m<fn:=by rw[eT.out];exact pG
 obtain⟨b,o,C,rfl,_,hC,hrx⟩:=(show aP B 4 (RF B) w4 (.slice fa p.funcs.length fc) p.funcs by rw[<-eT.out];exact fh.funcs).at pG;obtain⟨IL,IM,qx, -⟩:=hrx.2.1;have e1:=hC 1 aG;rw[qx,Vf.out,au]at e1;clear hC hrx qx fh;go_upto_region 8 with(fail)
 clear e1 c0;go_upto_region 9 with(fail)
 have hf:aP B 4 (RF B) w (.slice (some (b,o)) fn fc) p.funcs:=HX.funcs;have HF:=aF hf;clear hf c1;go_loopg [38] fn (λgh i wr=>∃k:Nat,gh+k=fn/\i=I k/\Hid (Below w w wr/\Row wr w 27 [.slice aa an ac, .slice (some (b,o)) fn fc]/\Row wr (w,1) 72 [I 0,I 0]/\∀j,(hj:j<p.funcs.length)->j<k->ot p p.funcs[j]=0))
 case atStart=>exact⟨0,rfl,rfl,aF ⟨p_,Br,C6,λj _ h=>absurd h aG⟩⟩
 case round=>
  obtain⟨k,hg,rfl,HH⟩:=hrel;obtain⟨wo,rfl⟩:=xq wr;by_cases hlt:k<fn
  ·have bT:(k:Int)<(fn:Int):=aG;have hlt':k<p.funcs.length:=by rw[<-eT.out];exact hlt
   obtain⟨b',o',C,jz,_,hC,hrx⟩:=(HF.below HH.out.1 (λC x h=>h.grown (bX HH.out.1 none) aJ)).at hlt';obtain⟨rfl,rfl⟩:b=b'/\o=o':=by simpa using jz
   have jb:=aF (ak hlt');have⟨x,hx⟩:=xq (p.funcs[k]);rw[<-hx]at hrx jb;obtain⟨h0,h1,h2,h3⟩:=hrx;obtain⟨pa,pc,hpv, -⟩:=id h1;obtain⟨la,lc,hlv, -⟩:=id h2;obtain⟨ba,bc,l_⟩:=h3.slice;have e0:=hC 0 aG;have e1:=hC 1 aG;have e2:=hC 2 aG;have e3:=hC 3 aG;rw[h0]at e0;rw[hpv]at e1 h1;rw[hlv]at e2 h2;rw[l_]at e3 h3;simp only[aA]at e0 e1 e2 e3;have HP:=aF h1;have HL:=aF h2;have bE:=aF h3;have⟨pn,jx⟩:=xq x.params.length;have⟨ln,nJ⟩:=xq x.locals.length;have⟨bn,uQ⟩:=xq x.body.length;have sx:=aF (λW (hb:Below wo wo W)=>Ve.out x jb W pa la pc lc _ (HH.out.1.trans (hb.mono HH.out.1.size)) (HP.grown (bX hb none) aJ i20) (HL.grown (bX hb none) aJ i20) (bE.grown (bX hb none) aJ));have sX:=aF hx;obtain⟨c,hc⟩:∃c,c=ot p x:=⟨_,rfl⟩;rw[<-hc]at sx;have HC:=aF hc;clear hc;rw[<-jx]at e1 sx;rw[<-nJ]at e2 sx;rw[<-uQ]at e3 sx;clear hC h0 h1 h2 h3 hpv hlv l_ hx jz jx nJ uQ;go_upto_region 11 with(refine sr 52 (.tmp 6) (.tmp 42) wo CU hn0 ?_;rw[World.setRow_alloc_new])
   have⟨w5,bQ⟩:=xq (wo.alloc (.cells #[S x.name, .slice pa pn pc, .slice la ln lc, .slice ba bn bc] 52));have bz:=gI bQ;have bp:=dZ bQ;rw[<-bQ];have cL:=aF (HH.out.2.1.ext bz);have I7:=aF (HH.out.2.2.1.ext bz);have bW:=aF bz;have c0:=cL.k0;have c1:=cL.k1;have d0:=bp.k0;have d1:=bp.k1;have d2:=bp.k2;have d3:=bp.k3;clear bQ bz bp e0 e1 e2 e3;go_upto_region 12 with(go_at_call 51;refine(sx _ bW).mono ?_;rintro e w6⟨⟨n6,rfl⟩,bV⟩;have fS:=bW.out.trans (bV.mono bW.size);have iK:=aF (HH.out.1.trans (fS.mono HH.out.1.size));have rP:=bA cL bV;have xm:=bA I7 bV;clear bV fS c0 c1 d0 d1 d2 d3)
   by_cases hc0:c=0
   ·subst hc0;go_wp2;go_roundg (fn - (k+1))
    case measure=>omega
    case rel=>exact⟨k+1,aG,by go_num,aF ⟨iK,rP,xm,λj hj hjk=>by
     by_cases e:j=k
     ·subst e;rw[<-sX.out];exact HC.out.symm
     ·exact HH.out.2.2.2 j hj aG⟩⟩
   ·have hcb:(c !=0)=true:=by rw[bne_iff_ne];exact hc0
    go_upto_region 13 with(fail)
    have hq:=xm.out;have q0:=hq.k0;have q1:=hq.k1;have p0:=hq.frozen 0;have p1:=hq.frozen 1;have kE:=aF hq;clear hq;go_wp2;refine bodyPost_ret (G8 rfl rfl ((kE.set 0 _).set 1 _)) rfl ?_;exact Ca (by first|decide|assumption) iK
  ·exfalso;obtain⟨f,hf,hne⟩:=ajk.out;obtain⟨j,hj,rfl⟩:=List.getElem_of_mem hf;exact hne (HH.out.2.2.2 j hj (cw eT))
theorem QY (p:LP) (hap:sP p) (h:kR p) (av fv:Value) (w:World) (B:Nat->Prop) (hx:PX B w av fv p):
  CR 43 #[.agg #[av,fv]] w (.bool true):=by
 have h1:=Yz p hap av fv w B hx;rw[t_ h]at h1;exact h1
theorem agE (B:Nat->Prop) (p:LP) (av fv:Value) (w:World) (hx:PX B w av fv p) (hap:sP p) (hcc:∀f∈p.funcs,J9 f) (hN:p.arrays.length+p.funcs.length<=1000000000)
  (jT:∀f∈p.funcs,f.params.length+f.locals.length<=1000000000):
  Calls Tryz.prog 31 #[.agg #[av,fv]] w λe w'=>(∃(c x y:Int),e= .returned (.tuple #[I c, .agg #[I x,I y]])/\(c=0↔kR p/\s6 p))/\Below w w w':=by
 have no: ¬(kR p/\s6 p)->Calls Tryz.prog 31 #[.agg #[av,fv]] w (DC w)->Calls Tryz.prog 31 #[.agg #[av,fv]] w λe w'=>(∃(c x y:Int),e= .returned (.tuple #[I c, .agg #[I x,I y]])/\(c=0↔kR p/\s6 p))/\Below w w w':=λhn hc=>hc.mono λe w' h=>by
  obtain⟨⟨c,x,y,he,hc0⟩,hb⟩:=h;exact⟨⟨c,x,y,he,⟨λh=>absurd h hc0,λh=>absurd h hn⟩⟩,hb⟩
 by_cases h1:kR p
 case neg=>exact no (λh=>h1 h.1) (agM B p av fv w hx hap h1)
 have xV:=λ(W:World) (av fv:Value) (hx:PX B W av fv p)=>QY p hap h1 av fv W B hx
 cases h2:nS (j3 p)
 case true=>exact no (λh=>by have:=h.2.twice;rw[h2]at this;cases this) (agN B p av fv w hx xV h1 h2 hN)
 by_cases h3:∃k:Nat,ji p dX=k/\∃h:k<p.funcs.length,(p.funcs[k]'h).params= []
 case neg=>exact no (λh=>h3 h.2.main) (agO B p av fv w hx xV h1 h2 h3 hN)
 by_cases h4:∃f∈p.funcs,ot p f≠0
 ·exact no (λh=>by
   obtain⟨f,hf,hne⟩:=h4;exact hne (h.2.funcs f hf)) (agP B p av fv w hx xV h1 h2 h3 h4 hcc hN jT)
 ·have hn:s6 p:=⟨h2,h3,λf hf=>Classical.byContradiction λh=>h4 ⟨f,hf,h⟩⟩;exact(Yp B p av fv w hx xV h1 hn hcc hN jT).mono λe w' h=>⟨⟨0,0,0,h.1,⟨λ_=>⟨h1,hn⟩,λ_=>rfl⟩⟩,h.2⟩
end
end Go.Proofs.YtjgbkdbkachciaaGreatDoor
