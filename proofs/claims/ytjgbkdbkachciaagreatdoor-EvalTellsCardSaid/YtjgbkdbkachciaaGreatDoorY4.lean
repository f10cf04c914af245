import Derived.Test.YtjgbkdbkachciaaGreatDoorY0
import Derived.Carry
set_option linter.all false
namespace Go.Proofs.YtjgbkdbkachciaaGreatDoor
set_option maxRecDepth 100000
set_option maxHeartbeats 16000000
section
open Go.RowKit Go.Shelf
attribute [local go_sem] Oper.semAt_some
def J4 (c:cH) (R:Nat) (st:Nat->bM->LS->aV->b6 (Int×bM)):Prop:=
 ∀(F:Nat->Prop) (W:World) (d:Nat) (s:aV) (k:bM) (cb mb:Nat) (l:List LS) (v:Value),kO c F W d k s cb mb->SX c.G W v l->(∀x∈l,YS c.p x)->2*left c.most s+1<=R->
  Calls Tryz.prog 92 #[.pointer (some ⟨cb,0,none⟩),v] W (iQ c F cb mb W d (eO (st d) l k s))
theorem uS.none {w:World} {b:Nat} {cl:Nat} (h:w.heap[b]? =some (.map #[] cl)):uS w b (λ_=>0):=
 ⟨#[],cl,[],h,rfl,rfl,List.nodup_nil,λ_ _=>rfl⟩
def TG:b6 (Int×bM)->b6 Int
 | .stop a b s=> .stop a b s
 | .ok q s=> .ok q.2.value s
theorem YG (st:Nat->bM->LS->aV->b6 (Int×bM)) (d:Nat) (f:LF) (args:List Int) (s:aV):pT st d f args s=TG (eO (st (d+1)) f.body ⟨oN f args,0⟩ s):=by
 unfold pT;cases eO (st (d+1)) f.body ⟨oN f args,0⟩ s<;>rfl
theorem ER.ajn {c:cH} {F:Nat->Prop} {W:World} {d:Nat} {s:aV} (h:ER c F W d s) {b:Nat} (hb:c.G b):b<W.heap.size:=h.b.lt b (h.b.gf b hb)
theorem YC (c:cH) (R:Nat) (st:Nat->bM->LS->aV->b6 (Int×bM)) (hS:J4 c R st):Ry c R st:=by
 intro F W d s f nv pv lv bv av ns h hpv hlv l_ hys hpl cX hR hd
 suffices kN:Calls Tryz.prog 53 #[.pointer (some (c.rb,0)), .agg #[nv,pv,lv,bv],av] W (λen w'=>Hid (kP c F W d (pT st d f ns s) en w'))from kN.mono λ_ _ h=>h.out
 have⟨Q,hQ⟩:=xq (kP c F W d (pT st d f ns s));have HQ:=aF hQ;rw[<-hQ];obtain⟨pa,pc,rfl,jx, -⟩:=id hpv;obtain⟨la,lc,rfl,nJ, -⟩:=id hlv;obtain⟨ba,bc,rfl⟩:=l_.slice;obtain⟨aa,ac,rfl,hnn, -⟩:=id cX;obtain⟨iv,ov,hrun⟩:=h.run;have⟨rb,cy⟩:=xq c.rb;have⟨pn,FJ⟩:=xq f.params.length;have⟨ln,FK⟩:=xq f.locals.length;have⟨bn,FL⟩:=xq f.body.length;rw[<-cy]at hrun|-;rw[<-FJ]at hpv jx hpl|-;rw[<-FK]at hlv nJ|-;rw[<-FL]at l_|-;rw[<-hpl]at cX|-;have HH:=aF h;have HPV:=aF hpv;have CZ:=aF hlv;have I5:=aF l_;have HYS:=aF hys;have sF:=aF cX;have HR:=aF hR;have HD:=aF hd;have HS:=aF hS;have iI:=aF hrun;have bF:=aF cy;have vh:=aF FJ;have tU:=aF FK;have AE:=aF FL;have eG:=aF hpl;have apv:rb<W.heap.size:=hrun.lt;clear h hpv hlv l_ hys cX hR hd hS hQ hrun cy FJ FK FL hpl hnn;have hmm:= @run_makeMap Tryz.prog;go_enter Tryz.func53,Tryz.ntmps53;go_upto_region 2 with(fail)
 clear hmm;obtain⟨w0,hw0⟩:∃w0,w0=((W.alloc (.cells #[nv, .slice pa pn pc, .slice la ln lc, .slice ba bn bc] 52)).alloc (.map #[] 0)).alloc (.cells #[.pointer (some (rb,0)), .map (some (W,1)),I 0] 148):=⟨_,rfl⟩;have bg:=aF (show Below W W w0 by rw[hw0];exact((cm W _).alloc aH _).alloc ct _);have Vv:Row w0 W 52 [nv, .slice pa pn pc, .slice la ln lc, .slice ba bn bc]:=by rw[hw0];exact dV _ _ (ho0 hn0)
 have HM0:Hid (uS w0 (W,1) (λ_=>0)):=uS.none (cl:=0) (by rw[hw0];exact dV _ _ ha0);have cU:=aF (show Row w0 (W.heap.size+1+1) 148 [.pointer (some (rb,0)), .map (some (W,1)),I 0] by rw[hw0];exact jF aH);rw[<-hw0];have f1:=Vv.k1;have Vw:=aF Vv;clear hw0 Vv;obtain⟨g0,hg0⟩:∃g:Vars,g=λ_=>0:=⟨_,rfl⟩;rw[<-hg0]at HM0;have HG0:=aF hg0;clear hg0;go_upto_region 3 with(fail)
 go_loopg [19] pn (λgh i wr=>∃j:Nat,gh+j=pn/\i=I j/\Hid (Below W W wr/\Row wr W 52 [nv, .slice pa pn pc, .slice la ln lc, .slice ba bn bc]/\Row wr (W.heap.size+1+1) 148 [.pointer (some (rb,0)), .map (some (W,1)),I 0]/\uS wr (W,1) (((f.params.zip ns).take j).foldl (λg p=>upd g p.1 p.2) g0)))
 case atStart=>exact⟨0,rfl,rfl,aF ⟨bg,Vw,cU,HM0⟩⟩
 case round=>
  obtain⟨j,hg,rfl,fI⟩:=hrel;obtain⟨wo,rfl⟩:=xq wr;by_cases hlt:j<pn
  ·have bT:(j:Int)<(pn:Int):=aG;have Gy:j<f.params.length:=by rw[<-vh.out];exact hlt
   have hjn:j<ns.length:=by rw[<-eG.out];exact hlt
   have hw1:=fI.out.1;obtain⟨b,o,C,rfl,_,hC,hrx⟩:=(HPV.below hw1 λ_ _ h=>h).at Gy;have e0:=hC 0 aG;rw[show C 0=S f.params[j]from hrx]at e0;simp only[Nat.mul_one,aA]at e0;obtain⟨b',o',C',rfl,_,zw,yQ⟩:=(sF.below hw1 λ_ _ h=>h).at hjn;have e1:=zw 0 aG;rw[show C' 0=I ns[j]from yQ]at e1;simp only[Nat.mul_one,aA]at e1;have⟨x,hx⟩:=xq (f.params[j]);have⟨y,hy⟩:=xq (ns[j]);rw[<-hx]at e0;rw[<-hy]at e1;have htk:(f.params.zip ns).take (j+1)=(f.params.zip ns).take j++ [(x,y)]:=by
    rw[List.take_succ_eq_append_getElem (by rw[List.length_zip];omega),List.getElem_zip,<-hx,<-hy]
   have fL:=aF htk;have pY:=aF e1;clear hC hrx zw yQ hx hy htk e1;go_upto_region 5 with(fail)
   refine cC (λX=>X.cell? (W.heap.size+1+1,1)=some (.map (some (W,1)))/\X.cell? (b',o'+j)=some (I y)) [0,0,0,0,0,0,0,0,0,2] (λwd hh=>⟨aO fI.out.2.2.1 hh 1,eP hh pY⟩) λwd hh hgd hS=> ?_;obtain⟨w2,hrun,hv2,hg2,hsz⟩:=Ro (fI.out.2.2.2.on (w':=wd) (by rw[hh])) x y;have hb2:Below W W w2:=(hw1.grown hgd hw1.size aJ).grown hg2 (by have:=hw1.size;have:=hgd.size;omega) bh;have hf2:=(fI.out.2.1.kept hgd aH).kept hg2 aH;have hc2:=(fI.out.2.2.1.kept hgd aH).kept hg2 aH;have aM:=aF hb2;have Vx:=aF hf2;have eY:=aF hc2;have ko:=aF hv2;clear hh hgd e0 hv2 hg2 hsz hb2 hf2 hc2 hw1 fI;refine Gf ?_;refine nu ?_;go_wp2;refine iG ?_;refine kK ?_;clear hS hrun;go_wp2;go_roundg (pn - (j+1))
   case measure=>omega
   case rel=>exact⟨j+1,aG,by go_num,aF ⟨aM,Vx,eY,by rw[fL.out,List.foldl_append];exact ko.out⟩⟩
  ·have bT: ¬(j:Int)<(pn:Int):=aG;have hv1:=fI.out.2.2.2;rw[List.take_of_length_le (by rw[List.length_zip,<-vh.out];omega)]at hv1;obtain⟨g1,hg1⟩:∃g:Vars,g=(f.params.zip ns).foldl (λg p=>upd g p.1 p.2) g0:=⟨_,rfl⟩;rw[<-hg1]at hv1;have I_:=aF hg1;have aI:=aF fI.out.1;have yz:=fI.out.2.1;have kU:=aF fI.out.2.2.1;have xg:=aF hv1;have f2:=yz.k2;have MC:=aF yz;clear hg1 hv1 yz fI;go_upto_region 8 with(fail)
   go_loopg [37] ln (λgh i wr=>∃j:Nat,gh+j=ln/\i=I j/\Hid (Below W W wr/\Row wr W 52 [nv, .slice pa pn pc, .slice la ln lc, .slice ba bn bc]/\Row wr (W.heap.size+1+1) 148 [.pointer (some (rb,0)), .map (some (W,1)),I 0]/\uS wr (W,1) ((f.locals.take j).foldl (λg x=>upd g x 0) g1)))
   case atStart=>exact⟨0,rfl,rfl,aF ⟨aI,MC,kU,xg⟩⟩
   case round=>
    obtain⟨i,hgi,rfl,cu⟩:=hrel;obtain⟨wq,rfl⟩:=xq wr;by_cases qI:i<ln
    ·have yO:(i:Int)<(ln:Int):=aG;have hip:i<f.locals.length:=by rw[<-tU.out];exact qI
     have hw1:=cu.out.1;obtain⟨b,o,C,rfl,_,hC,hrx⟩:=(CZ.below hw1 λ_ _ h=>h).at hip;have e0:=hC 0 aG;rw[show C 0=S f.locals[i]from hrx]at e0;simp only[Nat.mul_one,aA]at e0;have⟨x,hx⟩:=xq (f.locals[i]);rw[<-hx]at e0;have htk:f.locals.take (i+1)=f.locals.take i++ [x]:=by rw[List.take_succ_eq_append_getElem hip,<-hx]
     have fL:=aF htk;have c1:=cu.out.2.2.1.k1;obtain⟨w2,hrun,hv2,hg2,hsz⟩:=Ro cu.out.2.2.2 x 0;have aM:Hid (Below W W w2):=hw1.grown hg2 hw1.size bh;have Vx:=aF (cu.out.2.1.kept hg2 aH);have eY:=aF (cu.out.2.2.1.kept hg2 aH);have ko:=aF hv2;clear hC hrx hx htk hv2 hg2 hsz hw1 cu;go_wp2;go_roundg (ln - (i+1))
     case measure=>omega
     case rel=>exact⟨i+1,aG,by go_num,aF ⟨aM,Vx,eY,by rw[fL.out,List.foldl_append];exact ko.out⟩⟩
    ·have yO: ¬(i:Int)<(ln:Int):=aG;have hv2:=cu.out.2.2.2;rw[List.take_of_length_le (by rw[<-tU.out];omega)]at hv2;have hvs:oN f ns=f.locals.foldl (λg x=>upd g x 0) g1:=by rw[I_.out,HG0.out];rfl
     rw[<-hvs]at hv2;have hb2:=cu.out.1;have hf2:=cu.out.2.1;have hc2:=cu.out.2.2.1;have f3:=hf2.k3;have dh:=iI.ext hb2;have r4:=dh.k4;have k4:=dh.frozen 4;have jg:=bO wq rb 4 (I (d+1));have iW:ER c (λb=>F b\/(b=W.heap.size+1\/b=W.heap.size+1+1)) wq d s:=HH.more hb2 _ (λb hb=>by have:=hc2.lt;omega);have iM:ER c (λb=>F b\/(b=W.heap.size+1\/b=W.heap.size+1+1)) (wq.setCell (rb,4) (I (d+1))) (d+1) s:=by
      obtain⟨Vy,ov2,k1,k2,k3,k4⟩:=iW.st;rw[bF.out]at jg|-;exact iW.turn jg rfl ⟨iW.small.1,iW.small.2.1,by have:=HD.out;omega⟩ Vy (k1.set 4 (I (d+1))) (jl.rb iW.b jg k2) (bZ.rb jg k1 k3) k4
     have hgl:∀b,c.G b->b<W.heap.size:=λb hb=>HH.ajn hb;have hcs:kO c (λb=>F b\/(b=W.heap.size+1\/b=W.heap.size+1+1)) (wq.setCell (rb,4) (I (d+1))) (d+1) ⟨oN f ns,0⟩ s (W.heap.size+1+1) (W,1):=
      ⟨iM, .inr (.inr rfl), .inr (.inl rfl),λh=>by have:=hgl _ h;omega,λh=>by have:=hgl _ h;omega,aG,by rw[<-bF.out];exact hc2.kept jg ct,hv2.on (jg.block _ (iZ hc2.lt) ct)⟩
     have hblk:=HS _ _ _ _ _ _ _ f.body (.slice ba bn bc) hcs (I5.on λb hb=>(jg.block b (by have:=hgl b hb;have:=hb2.size;omega) (λe=>by cases e;exact HH.b.jJ (bF.out▸HH.b.gf _ hb))).trans (hb2.block b (hgl b hb))) HYS HR;have AG:Hid (KF F W (wq.setCell (rb,4) (I (d+1)))):=(KF.below hb2 HH.b.lt).trans (KF.grown jg (λb hb=>aB (HH.b.lt b hb) hb2.size) (λr e=>by cases e;rw[bF.out];exact HH.b.jJ));have⟨r,hr⟩:=xq (eO (st (d+1)) f.body ⟨oN f ns,0⟩ s);have MD:=aF (show pT st d f ns s=TG r by rw[hr];exact YG st d f ns s);rw[<-hr]at hblk;have iu:=aF hblk;clear hv2 hvs hb2 hf2 hc2 dh jg iW iM hgl hcs hblk hr cu;have hd5:d<=50:=HD.out;cases r with
     |stop a b s'=>
      go_wp2_with (go_at_call 92;refine iu.mono ?_;rintro e' w5⟨cg,rfl,d',dL⟩;have dG:=aF cg;have cZ:=aF dL;clear cg dL)
      refine⟨rfl, ?_⟩;show Hid (Q (.panicked (mz a b)) w5);rw[HQ.out];exact aF (kP.stop MD (AG.out.trans (dG.mono λb hb=>⟨.inl hb,by have:=HH.b.lt b hb;omega,by have:=HH.b.lt b hb;omega⟩)) (cZ.less (λb hb=> .inl hb) HH.b.gf))
     |ok q s'=>
      go_upto_region 14 with(go_at_call 92;refine iu.mono ?_;rintro e' w5⟨cg,rfl,dL⟩;have dG:=aF cg;have cZ:=aF dL;clear cg dL)
      obtain⟨Da,Db,bp⟩:=cZ.er.run;rw[<-bF.out]at bp;have r45:=bp.k4;have k45:=bp.frozen 4;have hcr:=cZ.row;have jg:=bO w5 rb 4 (I d);have zB:ER c (λb=>F b\/(b=W.heap.size+1\/b=W.heap.size+1+1)) (w5.setCell (rb,4) (I d)) d s':=by
       obtain⟨Vy,ov2,k1,k2,k3,k4⟩:=cZ.er.st;rw[bF.out]at jg|-;exact cZ.er.turn jg rfl ⟨cZ.er.small.1,cZ.er.small.2.1,by have:=HD.out;omega⟩ Vy (k1.set 4 (I d)) (jl.rb cZ.er.b jg k2) (bZ.rb jg k1 k3) k4
      have hrl:rb≠W.heap.size+1+1:=aG;have aaE:=hcr.kept jg ct;have v6:=aaE.k2;have ir:Hid (KF F w5 (w5.setCell (rb,4) (I d))):=KF.grown jg (λb hb=>cZ.er.b.lt b (.inl hb)) (λr e=>by cases e;rw[bF.out];exact HH.b.jJ);have uv:=aF zB;clear bp hcr jg zB aaE r4 k4 f3;go_wp2;go_ret;rw[HQ.out];exact aF (kP.ok MD ((AG.out.trans (dG.mono λb hb=>⟨.inl hb,by have:=HH.b.lt b hb;omega,by have:=HH.b.lt b hb;omega⟩)).trans ir.out) (uv.less (λb hb=> .inl hb) HH.b.gf))
def RR (c:cH) (R:Nat) (st:Nat->bM->LS->aV->b6 (Int×bM)):Prop:=
 ∀(F:Nat->Prop) (W:World) (d:Nat) (s:aV) (k:bM) (cb mb:Nat) (x:LS) (av tv ev:Value),kO c F W d k s cb mb->AX c.G W av x.args->SX c.G W tv x.thn->SX c.G W ev x.els->YS c.p x->2*left c.most s+1<=R->
  Calls Tryz.prog 133 #[.pointer (some ⟨cb,0,none⟩),sV x av tv ev] W (iQ c F cb mb W d (st d k x s))
theorem iQ.ok {c:cH} {F:Nat->Prop} {cb mb:Nat} {W w':World} {d:Nat} {r:b6 (Int×bM)} {q:Int×bM} {s':aV} (h:r= .ok q s') (hk:KF (mF F cb mb) W w') (he:kO c F w' d q.2 s' cb mb):iQ c F cb mb W d r (.returned (I q.1)) w':=by
 rw[h];exact⟨hk,rfl,he⟩
theorem iQ.stop {c:cH} {F:Nat->Prop} {cb mb:Nat} {W w':World} {d d':Nat} {r:b6 (Int×bM)} {a b:Int} {s':aV} (h:r= .stop a b s') (hk:KF (mF F cb mb) W w') (he:ER c F w' d' s'):iQ c F cb mb W d r (.panicked (mz a b)) w':=by
 rw[h];exact⟨hk,rfl,d',he⟩
theorem kO.RT {c:cH} {F:Nat->Prop} {W W':World} {d:Nat} {k:bM} {s:aV} {cb mb:Nat} (h:kO c F W d k s cb mb) (hk:KF (Go.Proofs.YtjgbkdbkachciaaGreatDoor.mF F cb mb) W W'):∀b,c.G b->W'.heap[b]? =W.heap[b]? :=
 λb hb=>hk.block b ⟨h.er.b.gf b hb,λe=>h.cG (e▸hb),λe=>h.mG (e▸hb)⟩
theorem kO.quiet {c:cH} {F:Nat->Prop} {W W':World} {d:Nat} {k:bM} {s:aV} {cb mb:Nat} (h:kO c F W d k s cb mb) (hg:W.grownBy W' none):kO c F W' d k s cb mb:=
 h.on (h.er.kf hg aJ) (h.er.quiet hg)
def RU (f:bM->LS->aV->b6 (Int×bM)) (l:List LS):b6 (Int×bM)->b6 (Int×bM)
 | .stop a b s=> .stop a b s
 | .ok q s=>if q.1=0 then eO f l q.2 s else .ok q s
theorem Xw (f:bM->LS->aV->b6 (Int×bM)) (x:LS) (l:List LS) (c:bM) (s:aV):eO f (x::l) c s=RU f l (f c x s):=by
 rw[eO];cases f c x s<;>rfl
theorem YA (c:cH) (R:Nat) (st:Nat->bM->LS->aV->b6 (Int×bM)) (hS:RR c R st) (hu:∀d k x s q s',st d k x s= .ok q s'->mh 1 s s'):J4 c R st:=by
 intro F W d s k cb mb l v h hv hy hR
 suffices kN:Calls Tryz.prog 92 #[.pointer (some (cb,0)),v] W (λen w'=>Hid (iQ c F cb mb W d (eO (st d) l k s) en w'))from kN.mono λ_ _ h=>h.out
 have⟨Q,hQ⟩:=xq (iQ c F cb mb W d (eO (st d) l k s));have HQ:=aF hQ;rw[<-hQ];obtain⟨a0,c0,rfl⟩:=hv.slice;obtain⟨dd,hv⟩:=hv;have hlen:l.length<=1000000000:=by obtain⟨_,_,_,h,_⟩:=hv;exact h
 have⟨N,hN⟩:=xq l.length;rw[<-hN]at hv hlen|-;have HV:=aF hv;have HY:=aF hy;have HN:=aF hN;have HH:=aF h;have HR:=aF hR;have HS:=aF hS;have HU:=aF hu;clear h hv hy hR hQ hN hS hu;go_enter Tryz.func92,Tryz.ntmps92;go_upto_region 2 with(fail)
 go_loopg [10] N (λgh i wr=>∃j:Nat,gh+j=N/\i=I j/\Hid (∃k' s1,eO (st d) l k s=eO (st d) (l.drop j) k' s1/\KF (Go.Proofs.YtjgbkdbkachciaaGreatDoor.mF F cb mb) W wr/\kO c F wr d k' s1 cb mb/\mh 0 s s1))
 case atStart=>exact⟨0,rfl,rfl,aF ⟨k,s,rfl,KF.refl _ _,HH,aG,aG⟩⟩
 case round=>
  obtain⟨j,hg,rfl,HL⟩:=hrel;obtain⟨wo,rfl⟩:=xq wr;obtain⟨k1,s1,ha,hk,he,hup⟩:=HL.out;have HK:=aF hk;have HE:=aF he;have Eh:=aF hup;by_cases hlt:j<N
  ·have bT:(j:Int)<(N:Int):=aG;have hjl:j<l.length:=by rw[<-HN.out];exact hlt
   have q7:=HH.RT hk;have iY:=HV.on q7 (λC x h=>RS.on dd q7 h);obtain⟨b,o,C,rfl,_,hC,hrx⟩:=iY.at hjl;have⟨x,hx⟩:=xq (l[j]);rw[<-hx]at hrx;obtain⟨dx,rfl⟩:∃dx,dd=dx+1:=by
    cases dd with
    |zero=>exact hrx.elim
    |succ dx=>exact⟨dx,rfl⟩
   obtain⟨h0,h1,h2,h3,h4⟩:=hrx;obtain⟨xa,xc,yh⟩:=h2.slice;obtain⟨ta,tc,Bu, -⟩:=id h3;obtain⟨ea,ec,kS, -⟩:=id h4;have e0:=hC 0 aG;have e1:=hC 1 aG;have e2:=hC 2 aG;have e3:=hC 3 aG;have e4:=hC 4 aG;rw[h0]at e0;rw[h1]at e1;rw[yh]at e2 h2;rw[Bu]at e3 h3;rw[kS]at e4 h4;simp only[aA]at e0 e1 e2 e3 e4;have hdr:l.drop j=x::l.drop (j+1):=by rw[hx];exact List.drop_eq_getElem_cons hjl
   rw[hdr]at ha;have HA:=aF ha;have aY:=aF h2;have bq:=aF h3;have cI:=aF h4;have C7:=aF (show YS c.p x by rw[hx];exact HY _ (ak hjl));clear hk he hup ha q7 iY hC h0 h1 h2 h3 h4 yh Bu kS hdr hx HL;go_upto_region 4 with(refine sr 54 (.tmp 6) (.tmp 13) wo sZ hn0 ?_)
   obtain⟨al,hal⟩:∃n,n=(LE.mk 0 0 0 [] x.args).args.length:=⟨_,rfl⟩;have⟨tl,htl⟩:=xq x.thn.length;have⟨el,hel⟩:=xq x.els.length;rw[<-hal]at aY|-;rw[<-htl]at bq|-;rw[<-hel]at cI|-;clear hal htl hel;obtain⟨w3,hw3⟩:∃w3,w3=(wo.alloc (.cells sZ 54)).setRow wo #[I x.kind,S x.name, .slice xa al xc, .slice ta tl tc, .slice ea el ec]:=⟨_,rfl⟩;have hg3:wo.grownBy w3 none:=by rw[hw3,World.setRow_alloc_new];exact cE _ _ _
   have hx3:Row w3 wo 54 [I x.kind,S x.name, .slice xa al xc, .slice ta tl tc, .slice ea el ec]:=by rw[hw3];exact setRow_heap _ _ _ _ _ _ hn0
   rw[<-hw3];have hcs:=HE.quiet hg3;have H_:∀b,c.G b->w3.heap[b]? =wo.heap[b]? :=λb hb=>hg3.block b (HE.er.b.lt b (HE.er.b.gf b hb)) aH;have eA:=aF (HS _ _ _ _ _ _ _ x _ _ _ hcs (aY.on H_) (⟨dx,bq.on H_ (λ_ _ h=>RS.on dx H_ h)⟩:SX c.G w3 _ x.thn) (⟨dx,cI.on H_ (λ_ _ h=>RS.on dx H_ h)⟩:SX c.G w3 _ x.els) C7 (by have:=ua (most:=c.most) Eh;have:=HR.out;omega));have gy:Hid (KF (Go.Proofs.YtjgbkdbkachciaaGreatDoor.mF F cb mb) W w3):=HK.out.trans (KF.grown hg3 (λb hb=>HE.er.b.lt b hb.1) aJ);have c0:=hx3.k0;have c1:=hx3.k1;have c2:=hx3.k2;have c3:=hx3.k3;have c4:=hx3.k4;have⟨r,hr⟩:=xq (st d k1 x s1);have hbl:eO (st d) l k s=RU (st d) (l.drop (j+1)) (st d k1 x s1):=by rw[HA.out,Xw]
   rw[<-hr]at eA hbl;have iu:=aF hbl;have fP:=aF hr;clear hw3 hg3 hx3 hcs H_ hr hbl e0 e1 e2 e3 e4;cases r with
   |stop a b' s2=>
    go_upto_region 5 with(go_at_call 133;refine eA.mono ?_;rintro e' w4⟨hk4,rfl,d',cV⟩;have bR:=aF hk4;have dR:=aF cV;clear hk4 cV)
    refine⟨rfl, ?_⟩;show Hid (Q (.panicked (mz a b')) w4);rw[HQ.out];exact aF (iQ.stop iu (gy.out.trans bR.out) dR)
   |ok q s2=>
    obtain⟨how,k2⟩:=q;go_upto_region 5 with(go_at_call 133;refine eA.mono ?_;rintro e' w4⟨hk4,rfl,cV⟩;have bR:=aF hk4;have dR:=aF cV;clear hk4 cV)
    by_cases hh:how=0
    ·have aM:=aF (iu.out.trans (if_pos hh));subst hh;have apn:=HU _ _ _ _ _ _ fP.out.symm;go_wp2;go_roundg (N - (j+1))
     case measure=>omega
     case rel=>exact⟨j+1,aG,by go_num,aF ⟨k2,s2,aM,gy.out.trans bR.out,dR,by have:=Eh.out;omega,by have:=Eh.out;omega⟩⟩
    ·have aM:=aF (iu.out.trans (if_neg hh));go_wp2;go_ret;rw[HQ.out];exact aF (iQ.ok (q:=(how,k2)) aM (gy.out.trans bR.out) dR)
  ·have bT: ¬(j:Int)<(N:Int):=aG;rw[List.drop_of_length_le (by rw[<-HN.out];omega)]at ha;have HA:=aF ha;clear ha hk he hup HL;go_wp2;go_ret;rw[HQ.out];exact aF (iQ.ok (q:=(0,k1)) HA HK HE)
def J6 (m:j6) (d:Nat) (x:LS) (q:Int×bM) (s:aV):b6 (Int×bM):=
 if q.1=1 then .ok (0,q.2) s else if q.1=3 then .ok (3,q.2) s else m.loop d q.2 x s
def RH (m:j6) (d:Nat) (c:bM) (x:LS) (n:Int) (s:aV):b6 (Int×bM):=
 if n=0 then .ok (0,c) s else(eO (m.stmt d) x.thn c s).bind (J6 m d x)
theorem XB (m:j6) (d:Nat) (c:bM) (x:LS) (s:aV):kz m d c x s=(m.expr d c.vars (x.args.getD 0 (.mk 0 0 0 [] [])) s).bind (RH m d c x):=NW m d c x s
theorem ahy (c:cH) (K:Nat) (hE:∀j,j<=K->H8 c j (cz c.p c.most j).expr) (hB:∀j,j<=K->J4 c j (cz c.p c.most j).stmt)
  (F:Nat->Prop) (W:World) (d:Nat) (s:aV) (k:bM) (cb mb:Nat) (x:LS) (av tv ev:Value) (h:kO c F W d k s cb mb) (cX:AX c.G W av x.args) (gu:SX c.G W tv x.thn) (hev:SX c.G W ev x.els) (hy:YS c.p x) (h4:x.kind=4) (hR:2*left c.most s+1<=K):
  Calls Tryz.prog 187 #[.pointer (some (cb,0)),sV x av tv ev] W (iQ c F cb mb W d (kz (cz c.p c.most K) d k x s)):=by
 suffices kN:Calls Tryz.prog 187 #[.pointer (some (cb,0)),sV x av tv ev] W (λen w'=>Hid (iQ c F cb mb W d (kz (cz c.p c.most K) d k x s) en w'))from kN.mono λ_ _ h=>h.out
 have⟨Q,hQ⟩:=xq (iQ c F cb mb W d (kz (cz c.p c.most K) d k x s));have HQ:=aF hQ;rw[<-hQ];obtain⟨a0,c0,rfl⟩:=cX.slice;obtain⟨t0,tc,rfl⟩:=gu.slice;obtain⟨e0,ec,rfl⟩:=hev.slice;have hown:=hy.own.1 (.inr (.inr (.inl h4)));obtain⟨e,he⟩:=List.length_eq_one_iff.1 hown;have kS:XE c.p e:=hy.own.2.2 e (by rw[he];simp);have heq:x.args.getD 0 (.mk 0 0 0 [] [])=e:=by rw[he];rfl
 obtain⟨da,cX⟩:=cX;replace cX:aP c.G 5 (RE da c.G) W (.slice a0 1 c0) [e]:=by
  have h':aP c.G 5 (RE da c.G) W (.slice a0 x.args.length c0) x.args:=cX;rw[he]at h';exact h'
 rw[show(LE.mk 0 0 0 [] x.args).args.length=1 from hown];have⟨tl,htl⟩:=xq x.thn.length;have⟨el,hel⟩:=xq x.els.length;rw[<-htl]at gu|-;rw[<-hel];have sF:=aF cX;have AJ:=aF gu;have rR:=aF kS;have jc:=aF heq;have VJ:=aF hy.thn;have HH:=aF h;have HR:=aF hR;have HE:=aF hE;have HB:=aF hB;clear h cX gu hev hy h4 hR hE hB hQ hown he kS heq htl hel;go_enter Tryz.func187,Tryz.ntmps187;go_upto_region 1 with(fail)
 have⟨w0,hw0⟩:=xq (W.alloc (.cells #[I x.kind,S x.name, .slice a0 1 c0, .slice t0 tl tc, .slice e0 el ec] 54));have hg0:=jy hw0;have hx0:=dZ hw0;rw[<-hw0];have hc0:=HH.quiet hg0;have cU:Hid (kO c (λb=>F b\/b=W.heap.size) w0 d k s cb mb):=⟨HH.er.add hg0 aJ (λb hb=>⟨aG,by rw[hb];exact hx0.lt⟩), .inl hc0.cF, .inl hc0.mF,hc0.cG,hc0.mG,hc0.ne,hc0.row,hc0.vars⟩;have hcb:cb<W.heap.size:=HH.er.b.lt cb HH.cF;have hmb:mb<W.heap.size:=HH.er.b.lt mb HH.mF;have VK:=aF hx0;have MU:=aF (show KF (Go.Proofs.YtjgbkdbkachciaaGreatDoor.mF F cb mb) W w0 from KF.grown hg0 (λb hb=>HH.er.b.lt b hb.1) aJ);clear hw0 hg0 hx0 hc0;go_loopg [] (left c.most s) (λgh wr=>Hid (∃j k1 s1,gh=left c.most s1/\kz (cz c.p c.most K) d k x s=kz (cz c.p c.most j) d k1 x s1/\2*left c.most s1+1<=j/\j<=K/\KF (Go.Proofs.YtjgbkdbkachciaaGreatDoor.mF (λb=>F b\/b=W.heap.size) cb mb) w0 wr/\kO c (λb=>F b\/b=W.heap.size) wr d k1 s1 cb mb))
 case atStart=>exact aF ⟨K,k,s,rfl,rfl,HR,ay _,KF.refl _ _,cU⟩
 case round=>
  obtain⟨wo,rfl⟩:=xq wr;obtain⟨j,k1,s1,MV,hlo,hj,GF,hk,hc⟩:=hrel.out;have q7:∀b,c.G b->wo.heap[b]? =W.heap[b]? :=λb hb=>(hk.block b ⟨.inl (HH.er.b.gf b hb),λe=>HH.cG (e▸hb),λe=>HH.mG (e▸hb)⟩).trans (MU.block b ⟨HH.er.b.gf b hb,λe=>HH.cG (e▸hb),λe=>HH.mG (e▸hb)⟩);have hx:=hk.row VK ⟨.inr rfl,aG,aG⟩;have iY:=sF.on q7 (λC x h=>RE.on da q7 h);obtain⟨b,o,C,rfl,_,hC,hrx⟩:=iY.at (i:=0) aH;have hrx:RE da c.G wo C e:=hrx;obtain⟨dx,rfl⟩:∃dx,da=dx+1:=by
   cases da with
   |zero=>exact hrx.elim
   |succ dx=>exact⟨dx,rfl⟩
  obtain⟨h0,h1,h2,h3,h4⟩:=hrx;obtain⟨xa,xc,hxv, -⟩:=id h4;have ED:=hC 0 aG;have e1:=hC 1 aG;have e2:=hC 2 aG;have e3:=hC 3 aG;have e4:=hC 4 aG;rw[h0]at ED;rw[h1]at e1;rw[h2]at e2;rw[h3]at e3;rw[hxv]at e4 h4;simp only[Nat.zero_mul,aA]at ED e1 e2 e3 e4;have c2:=hx.k2;have hex:=HE j GF _ wo d s1 k1 cb mb e _ hc (⟨dx,h4⟩:EX c.G wo (.slice xa e.args.length xc) e) rR hj;obtain⟨r,hr⟩:∃r,r=(cz c.p c.most j).expr d k1.vars e s1:=⟨_,rfl⟩;have mW:=aF (show kz (cz c.p c.most K) d k x s=r.bind (RH (cz c.p c.most j) d k1 x) by rw[hlo,XB,jc.out,hr]);rw[<-hr]at hex;have eA:=aF hex;have fP:=aF hr;have HK:=aF hk;have HC:=aF hc;have HX:=aF hx;have VL:=aF MV;have HJ:=aF hj;have MW:=aF GF;have VM:=aF q7;have p7:Hid (∀w',KF (Go.Proofs.YtjgbkdbkachciaaGreatDoor.mF (λb=>F b\/b=W.heap.size) cb mb) wo w'->KF (Go.Proofs.YtjgbkdbkachciaaGreatDoor.mF F cb mb) W w'):=λw' h=>MU.out.trans ((hk.trans h).mono λb hb=>⟨.inl hb.1,hb.2⟩);have oo:Hid (∀w' k' s',kO c (λb=>F b\/b=W.heap.size) w' d k' s' cb mb->kO c F w' d k' s' cb mb):=λw' k' s' h=>⟨h.er.less (λb hb=> .inl hb) HH.er.b.gf,HH.cF,HH.mF,h.cG,h.mG,h.ne,h.row,h.vars⟩;have⟨xn,qA⟩:=xq e.args.length;rw[<-qA]at e4 eA;clear MV hlo hj GF hk hc q7 hx iY hC h0 h1 h2 h3 h4 hxv hex hr hrel qA;cases r with
  |stop a b' s2=>
   go_wp2_with (go_at_call 218;refine eA.mono ?_;rintro e' w4⟨hk4,rfl,d',cV⟩;have bR:=aF hk4;have dR:=aF cV;clear hk4 cV)
   refine⟨rfl, ?_⟩;show Hid (Q (.panicked (mz a b')) w4);rw[HQ.out];exact aF (iQ.stop mW (p7 _ (bR.mF cb mb)) (dR.less (λb hb=> .inl hb) HH.er.b.gf))
  |ok n s2=>
   have hlv:=Q8 fP.out.symm;have hup:=(sK c.p c.most j).expr fP.out.symm;have pz:=aF (Rg (most:=c.most) hup);have yE:=aF (show left c.most s1≠0 by unfold left;omega);clear hlv hup;by_cases hn:n=0
   ·have zm:=aF (mW.out.trans (if_pos hn));subst hn;go_wp2_with (go_at_call 218;refine eA.mono ?_;rintro e' w4⟨hk4,rfl,cV⟩;have bR:=aF hk4;have dR:=aF cV;clear hk4 cV)
    go_ret;rw[HQ.out];exact aF (iQ.ok (q:=(0,k1)) zm (p7 _ (bR.mF cb mb)) (oo _ _ _ (HC.on bR dR)))
   ·have zm:=aF (mW.out.trans (if_neg hn));go_upto_region 2 with(go_at_call 218;refine eA.mono ?_;rintro e' w4⟨hk4,rfl,cV⟩;have bR:=aF hk4;have dR:=aF cV;clear hk4 cV)
    have xw:=HC.on bR dR;have fh:=bR.row HX (.inr rfl);have d3:=fh.k3;have hbl:=HB j MW _ w4 d s2 k1 cb mb x.thn (.slice t0 tl tc) xw (AJ.on λb hb=>(bR.block b (.inl (HH.er.b.gf b hb))).trans (VM b hb)) VJ (by have:=HJ.out;have:=pz.out;have:=yE.out;omega);have⟨r2,hr2⟩:=xq (eO ((cz c.p c.most j).stmt d) x.thn k1 s2);rw[<-hr2]at hbl zm;have iu:=aF hbl;have cB:=aF hr2;clear xw fh hbl hr2 ED e1 e2 e3 e4 c2;cases r2 with
    |stop a b' s3=>
     go_wp2_with (go_at_call 92;refine iu.mono ?_;rintro e' w5⟨cg,rfl,d',dL⟩;have dG:=aF cg;have cZ:=aF dL;clear cg dL)
     refine⟨rfl, ?_⟩;show Hid (Q (.panicked (mz a b')) w5);rw[HQ.out];exact aF (iQ.stop zm (p7 _ ((bR.mF cb mb).trans dG.out)) (cZ.less (λb hb=> .inl hb) HH.er.b.gf))
    |ok q s3=>
     obtain⟨how,k2⟩:=q;have Gt:=aF (ua (most:=c.most) (EZ (λh=>(sK c.p c.most j).stmt h) _ _ _ _ _ cB.out.symm));have FU:kz (cz c.p c.most K) d k x s=J6 (cz c.p c.most j) d x (how,k2) s3:=zm.out;unfold J6 at FU;go_upto_region 3 with(go_at_call 92;refine iu.mono ?_;rintro e' w5⟨cg,rfl,dL⟩;have dG:=aF cg;have cZ:=aF dL;clear cg dL)
     have Iq:=aF FU;clear FU;by_cases h1:how=1
     ·have Ir:=aF (Iq.out.trans (if_pos h1));subst h1;go_wp2;go_ret;rw[HQ.out];exact aF (iQ.ok (q:=(0,k2)) Ir (p7 _ ((bR.mF cb mb).trans dG.out)) (oo _ _ _ cZ))
     ·have Ir:=aF (Iq.out.trans (if_neg h1));by_cases h3:how=3
      ·have FV:=aF (Ir.out.trans (if_pos h3));subst h3;go_wp2;go_ret;rw[HQ.out];exact aF (iQ.ok (q:=(3,k2)) FV (p7 _ ((bR.mF cb mb).trans dG.out)) (oo _ _ _ cZ))
      ·have FV:=aF (Ir.out.trans (if_neg h3));obtain⟨j',rfl⟩:∃j',j=j'+1:=⟨j - 1,by have:=HJ.out;omega⟩;go_wp2;go_roundg (left c.most s3)
       case measure=>have:=VL.out;have:=pz.out;have:=yE.out;have:=Gt.out;omega
       case rel=>exact aF ⟨j',k2,s3,rfl,FV,by have:=HJ.out;have:=pz.out;have:=yE.out;have:=Gt.out;omega,by have:=MW.out;omega,HK.out.trans ((bR.mF cb mb).trans dG.out),cZ⟩
def ZP (c:cH) (R:Nat) (lp:Nat->bM->LS->aV->b6 (Int×bM)):Prop:=
 ∀(F:Nat->Prop) (W:World) (d:Nat) (s:aV) (k:bM) (cb mb:Nat) (x:LS) (av tv ev:Value),kO c F W d k s cb mb->AX c.G W av x.args->SX c.G W tv x.thn->SX c.G W ev x.els->YS c.p x->x.kind=4->2*left c.most s+2<=R->
  Calls Tryz.prog 187 #[.pointer (some ⟨cb,0,none⟩),sV x av tv ev] W (iQ c F cb mb W d (lp d k x s))
theorem ER.Oh {c:cH} {F:Nat->Prop} {W:World} {d:Nat} {s:aV} (h:ER c F W d s):∀x∈c.gz,x.1<W.heap.size:=λx hx=>by
 obtain⟨i,hi,uq⟩:=List.getElem_of_mem hx
 have Gc:i<s.fB.length:=by rw[h.b.len];exact hi
 exact(h.b.arr i x s.fB[i] (by rw[ah hi,uq]) (ah Gc)).1.lt
theorem ER.store {c:cH} {F:Nat->Prop} {W:World} {d:Nat} {s:aV} (h:ER c F W d s) {i ga na at_:Nat} {l:List Int} (hx:c.gz[i]? =some (ga,na)) (hl:s.fB[i]? =some l) (v:Int):
  ER c F (W.setCell (ga,at_) (I v)) d {s with fB:=s.fB.set i (l.set at_ v)}:=by
 have hg:=bO W ga at_ (I v);obtain⟨iv,ov,h1,h2,h3,h4⟩:=h.st;have hmem:=List.mem_of_getElem? hx;have hF: ¬F ga:=(h.b.nK _ hmem).2;have hG:∀r,some ga=some r-> ¬c.G r:=λr e hG=>by cases e;exact hF (h.b.gf _ hG)
 have cy:ga≠c.rb:=(h.b.nK _ hmem).1;refine⟨⟨λb hb=>aB (h.b.lt b hb) hg.size,h.b.gf,h.b.jJ,h.b.px.grown hg hG,h.b.eW.grown hg hG λ_ _ h=>h,h.b.Bl,h.b.nK,by simp [h.b.len],h.b.yg,λj x l' hx' hl'=> ?_⟩,
  h.small,iv,ov,h1.kept hg ct,h2.grown hg hG λ_ _ h=>h,h3.kept hg (λr e e'=>by cases e;exact(h4 _ e').2 _ hmem rfl),h4⟩
 by_cases hj:j=i
 ·subst hj;rw[hx]at hx';obtain rfl:=Option.some.inj hx';have hlt:j<s.fB.length:=(aj hl).1;rw[List.getElem?_set_self hlt]at hl';obtain rfl:=Option.some.inj hl';obtain⟨k1,k2⟩:=h.b.arr j (ga,na) l hx hl;refine⟨?_,by simpa using k2⟩;have:=Row.set k1 at_ (I v);rw[List.map_set];exact this
 ·rw[List.getElem?_set_ne (λe=>hj e.symm)]at hl';obtain⟨k1,k2⟩:=h.b.arr j x l' hx' hl';refine⟨k1.kept hg ?_,k2⟩;intro e;have e:x.1=ga:=by cases e;rfl
  have hn:=h.b.Bl;have hi':i<c.gz.length:=(aj hx).1;have hj':j<c.gz.length:=(aj hx').1;have e1:(c.gz.map (·.1))[i]'(by simpa using hi')=ga:=by
   rw[List.getElem_map];have:=(aj hx).2;rw[this]
  have e2:(c.gz.map (·.1))[j]'(by simpa using hj')=ga:=by
   rw[List.getElem_map];have:=(aj hx').2;rw[this,e]
  exact hj ((List.getElem_inj hn).1 (e2.trans e1.symm))
theorem ER.print {c:cH} {F:Nat->Prop} {W W5:World} {d:Nat} {s:aV} {iv ov v':Value} {n:Int} {g':Nat} (h:ER c F W d s) (h1:Row W c.rb 78 (yS c d iv ov s.steps)) (h2:jl c.G W iv s.inp) (h4:∀g,ov.ownBlock=some g-> ¬F g/\∀x∈c.gz,x.1≠g) (h3:bZ W 0 ov s.out)
  (hg:W.grownBy W5 ov.ownBlock) (hat:ov.ownBlock=some g'\/g'=W.heap.size) (hv:v'.ownBlock=some g') (ho:bZ W5 0 v' (s.out++ [n])) (hs:s.out.length+1<=s.steps):
  ER c F (W5.setCell (c.rb,8) v') d {s with out:=s.out++ [n]}/\KF F W (W5.setCell (c.rb,8) v'):=by
 have bz:=h.b.kept hg (λr e=>h4 r e);have bp:Row W5 c.rb 78 (yS c d iv ov s.steps):=h1.kept hg (λe=>by
  have:=Jy h3 (t:=78) aQ c.rb e.symm;exact this _ _ h1)
 have bG:=bO W5 c.rb 8 v';refine⟨⟨bz.kept bG (λr e=>by cases e;exact⟨h.b.jJ,λx hx=>(h.b.nK x hx).1⟩),⟨h.small.1,by simpa using hs,h.small.2.2.1,h.small.2.2.2⟩,iv,v',bp.set 8 v',jl.rb bz bG (h2.grown hg (λr e hG=>(h4 r e).1 (h.b.gf r hG)) λ_ _ h=>h),bZ.tag ho bG (ld.box 3 bp aQ),λg e=> ?_⟩, ?_⟩
 ·rw[hv]at e;obtain rfl:=Option.some.inj e;rcases hat with hat|rfl
  ·exact h4 _ hat
  ·exact⟨λhF=>by have:=h.b.lt _ hF;omega,λx hx=>by have:=h.Oh x hx;omega⟩
 ·exact(h.kf hg (λr e=>(h4 r e).1)).trans (KF.grown bG (λb hb=>aB (h.b.lt b hb) hg.size) (λr e=>by cases e;exact h.b.jJ))
end
end Go.Proofs.YtjgbkdbkachciaaGreatDoor
