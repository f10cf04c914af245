import Derived.Test.YtjgbkdbkachciaaGreatDoorX9
set_option linter.all false
namespace Go.Proofs.YtjgbkdbkachciaaGreatDoor
set_option maxRecDepth 100000
set_option maxHeartbeats 16000000
section
open Go.RowKit Go.Shelf
attribute [local go_sem] Oper.semAt_some
def pT (st:Nat->bM->LS->aV->b6 (Int×bM)) (d:Nat) (f:LF) (args:List Int) (s:aV):b6 Int:=
 match eO (st (d+1)) f.body ⟨oN f args,0⟩ s with
 | .stop a b s=> .stop a b s
 | .ok q s=> .ok q.2.value s
theorem N4 (p:LP) (st:Nat->bM->LS->aV->b6 (Int×bM)) (d:Nat) (x:aK) (args:List Int) (s:aV):lM p st d x args s=pT st d (funcAt p x) args s:=rfl
def Ry (c:cH) (R:Nat) (st:Nat->bM->LS->aV->b6 (Int×bM)):Prop:=
 ∀(F:Nat->Prop) (W:World) (d:Nat) (s:aV) (f:LF) (nv pv lv bv av:Value) (ns:List Int),ER c F W d s->aP c.G 1 dc W pv f.params->aP c.G 1 dc W lv f.locals->SX c.G W bv f.body->(∀x∈f.body,YS c.p x)->
  f.params.length=ns.length->aP (λb=>b<W.heap.size) 1 RI W av ns->2*left c.most s+1<=R->d<=50->
  Calls Tryz.prog 53 #[.pointer (some ⟨c.rb,0,none⟩), .agg #[nv,pv,lv,bv],av] W (kP c F W d (pT st d f ns s))
theorem bZ.l7 {W:World} {base:Nat} {v:Value} {l:List Int} (h:bZ W base v l) (hl:l.length<=1000000000):aP (λb=>b<W.heap.size) 1 RI W v l:=by
 rcases h.2 with⟨rfl,h0⟩|⟨g,cap,cur,rfl,h1,h2,h3,h4,h5,h6⟩
 ·have:l= []:=List.eq_nil_of_length_eq_zero h0;subst this;exact⟨none,0,rfl,aH, .inl rfl⟩
 ·refine⟨_,_,rfl,hl, .inr ⟨g,0,rfl,(aD h2).1,λi x hx=>⟨λ_=>I x,λj hj=> ?_,rfl⟩⟩⟩;obtain rfl:j=0:=aG;have hil:i<l.length:=(aj hx).1;have:(l.map (Value.int .i64))[i]? =some (I x):=by rw[List.getElem?_map,hx];rfl
  rw[<-h6,List.getElem?_take_of_lt aG,Array.getElem?_toList]at this;rw[show 0+i*1+0=i by omega,cell_of_block h2];exact this
theorem bZ.cell {W:World} {base:Nat} {v:Value} {l:List Int} (h:bZ W base v l) {i:Nat} {x:Int} (hx:l[i]? =some x):∃g cap,v= .slice (some ⟨g,0,none⟩) l.length cap/\W.cell? ⟨g,i,none⟩=some (I x):=by
 have hil:i<l.length:=(aj hx).1;rcases h.2 with⟨_,h0⟩|⟨g,cap,cur,rfl,h1,h2,h3,h4,h5,h6⟩
 ·omega
 ·refine⟨g,cap,rfl, ?_⟩;have:(l.map (Value.int .i64))[i]? =some (I x):=by rw[List.getElem?_map,hx];rfl
  rw[<-h6,List.getElem?_take_of_lt aG,Array.getElem?_toList]at this;rw[cell_of_block h2];exact this
theorem bZ.cell' {W:World} {base g n cap:Nat} {l:List Int} (h:bZ W base (.slice (some (g,0)) n cap) l) {i:Nat} {x:Int} (hx:l[i]? =some x):W.cell? (g,i)=some (I x):=by
 obtain⟨g',cap',e,h'⟩:=h.cell hx;simp only[Value.slice.injEq,Option.some.injEq,Addr.mk.injEq]at e;rw[e.1.1];exact h'
theorem OH {l:List Int} (h:l.length=2):∃a b,l= [a,b]:=by
 match l,h with
 | [a,b],_=>exact⟨a,b,rfl⟩
def aaF (s:aV):Option Int->b6 Int
 |none=> .stop 2 0 s
 |some n=> .ok n s
theorem ahC (s:aV):∃n s',xM s= .ok n s':=by
 unfold xM;split
 ·exact⟨_,_,rfl⟩
 ·exact⟨_,_,rfl⟩
theorem ahw (c:cH) (R:Nat) (m:j6) (hE:H8 c R m.expr) (hB:Ry c R m.stmt) (hu:m.Up) (hp:XP c.p):H8 c (R+1) (iA c.p c.most m):=by
 intro F W d s k cb mb e av h cX kS hR
 suffices kN:Calls Tryz.prog 218 #[.pointer (some (cb,0)),eV e av] W (λen w'=>Hid (kP c F W d (iA c.p c.most m d k.vars e s) en w'))from kN.mono λ_ _ h=>h.out
 have⟨Q,hQ⟩:=xq (kP c F W d (iA c.p c.most m d k.vars e s));have HQ:=aF hQ;rw[<-hQ];obtain⟨a0,c0,rfl⟩:=cX.slice;have⟨ek,lT⟩:=xq e.kind;have⟨eo,mg⟩:=xq e.op;have⟨en,hen⟩:=xq e.n;have⟨nm,cJ⟩:=xq e.name;have⟨al,hal⟩:=xq e.args.length;have⟨rb,cy⟩:=xq c.rb;rw[eV,<-lT,<-mg,<-hen,<-cJ,<-hal];rw[<-hal]at cX;have cM:=aF lT;have yu:=aF mg;have jK:=aF hen;have cv:=aF cJ;have jM:=aF hal;have bF:=aF cy;have sF:=aF cX;have rR:=aF kS;have HR:=aF hR;have HH:=aF h;have HB:=aF hB;have HP:=aF hp;have⟨w1,hw1⟩:=xq (W.alloc (.cells #[I ek,I eo,I en,S nm, .slice a0 al c0] 31));have dO:=hw1.symm;have hx1:=dZ hw1;have hg1:=jy hw1;have hs1:ER c (λb=>F b\/b=W.heap.size) w1 d s:=h.er.add hg1 aJ (λb hb=>⟨aG,by rw[hb];exact hx1.lt⟩);have hk1:KF F W w1:=h.er.kf hg1 aJ;have dh:=hk1.row h.row h.cF;have c10:=dh.cell 0;simp only[af]at c10;rw[<-cy]at c10;have kF:=aF hx1;have fI:=aF hs1;have pI:=aF hk1;clear h hQ lT mg hen cJ hal cy cX kS hR hB hp hw1 hx1 hg1 hs1 hk1 dh;by_cases hst:c.most<=(s.steps:Int)
 ·have kU:=aF (Zl c _ w1 d s fI hst);rw[<-bF.out]at kU;have HST:=aF hst;clear hst hE hu;go_enter Tryz.func218,Tryz.ntmps218;go_upto_region 2 with(go_at_call 186;refine kU.mono ?_;rintro e' w2⟨rfl,iW,hk2⟩;have lS:=aF iW;have jr:=aF hk2;clear iW hk2)
  refine⟨rfl, ?_⟩;show Hid (Q (.panicked (mz 0 0)) w2);rw[HQ.out];exact aF (kP.stop (by unfold iA;rw[if_pos HST.out]) (pI.out.trans (jr.mono λb hb=> .inl hb)) (lS.less (λb hb=> .inl hb) HH.er.b.gf))
 ·have kU:=aF (YY c _ w1 d s fI hst);rw[<-bF.out]at kU;have htl:=Hh hst;have gD:=aF htl;have jc:=aF (JR c.p c.most m d k.vars e s hst);have VB:=aF hE;have HU:=aF hu;clear hst hE hu htl;go_enter Tryz.func218,Tryz.ntmps218;go_upto_region 2 with(go_at_call 186;refine kU.mono ?_;rintro e' w2⟨rfl,iW,hk2⟩;have lS:=aF iW;have jr:=aF hk2;clear iW hk2)
  have hx2:=jr.row kF (.inr rfl);have c4:=hx2.k4;have hk2:KF F W w2:=pI.out.trans (jr.mono λb hb=> .inl hb);have hcs:kO c (λb=>F b\/b=W.heap.size) w2 d k (tick s) cb mb:=
   ⟨lS, .inl HH.cF, .inl HH.mF,HH.cG,HH.mG,HH.ne,hk2.row HH.row HH.cF,HH.vars.on (hk2.block mb HH.mF)⟩
  have hal:=sF.on (λb hb=>hk2.block b (HH.er.b.gf b hb));obtain⟨dd,hal⟩:=hal;have eY:=aF (YU c R m.expr VB (λ_ _ _ _ _ _ h=>HU.expr h) _ w2 d (tick s) k cb mb e.args _ hcs (⟨dd,hal⟩:AX c.G w2 (.slice a0 al c0) e.args) rR.args (by have:=HR.out;have:=gD.out;omega));have aY:=aF hx2;have qq:=aF hk2;have BF:=aF hcs;have⟨r,hr⟩:=xq (dw (m.expr d k.vars) e.args (tick s));rw[<-hr]at eY jc;have fP:=aF hr;clear hx2 hk2 hcs hal hr;cases r with
  |stop a b s2=>
   go_upto_region 3 with(go_at_call 188;refine eY.mono ?_;rintro e' w3⟨hk3,rfl,d',iM⟩;have gy:=aF hk3;have iz:=aF iM;clear hk3 iM)
   refine⟨rfl, ?_⟩;show Hid (Q (.panicked (mz a b)) w3);rw[HQ.out];exact aF (kP.stop jc (qq.out.trans (gy.mono λb hb=> .inl hb)) (iz.less (λb hb=> .inl hb) HH.er.b.gf))
  |ok ns s2=>
   go_upto_region 3 with(go_at_call 188;refine eY.mono ?_;rintro e' w3⟨hk3,ov,rfl,jY,iM⟩;have gy:=aF hk3;have iz:=aF iM;have eU:=aF jY;clear hk3 iM jY)
   have hx3:=gy.row aY (.inr rfl);have hk3:KF F W w3:=qq.out.trans (gy.mono λb hb=> .inl hb);have hnl:=vZ (λh=>HU.expr h) _ _ _ _ fP.out.symm;have tM:kO c F w3 d k s2 cb mb:=HH.on hk3 (iz.less (λb hb=> .inl (.inl hb)) HH.er.b.gf);have gL:=aF hnl;have bq:=aF hx3;have gj:=aF hk3;have bk:=aF tM;have d0:=hx3.k0;have d1:=hx3.k1;have d2:=hx3.k2;have d3:=hx3.k3;have r0:=tM.row.k0;have r1:=tM.row.k1;rw[<-bF.out]at r0;have hown:=rR.own;rw[DU,<-cM.out]at hown;obtain⟨uk,Lv⟩:=hown;have HOW:=aF Lv;clear hx3 hk3 hnl tM c4 c10 Lv;rcases(by omega:ek=1\/ek=2\/ek=3\/ek=4\/ek=5\/ek=6\/ek=7)with rfl|rfl|rfl|rfl|rfl|rfl|rfl
   ·clear uk;go_wp2;go_ret;rw[HQ.out];exact aF (kP.ok (by rw[jc.out];show jV c.p m d k.vars e ns s2=_;unfold jV;rw[if_pos cM.out.symm,<-jK.out]) gj bk.er)
   ·clear uk;go_upto_region 7 with(fail)
    refine cC (λX=>X.cell? (cb,1)=some (.map (some mb))/\X.cell? (W,3)=some (S nm)/\uS X mb k.vars) [0,0,0,0,0,0,0,0] (λwd hh=>⟨aO bk.row hh 1,aO bq.out hh 3,bk.vars.on (by rw[hh])⟩) λwd hh hgd hS=> ?_;have bK:=aF hgd;clear hh hgd d0 d1 d2 d3 r0 r1;refine Gf ?_;refine yJ (v:=I (k.vars nm)) fV (λwS hSw=> ?_) (by assumption) (λ_ _ _ h=>h) ?_
    ·have hl:=ahD hSw.2.2 nm;go_simp
    simp only[Act.put,List.setIfInBounds_toArray,List.set_cons_zero,List.set_cons_succ];refine dP ?_;clear hS;go_wp2;go_ret;rw[HQ.out];exact aF (kP.ok (by rw[jc.out];show jV c.p m d k.vars e ns s2=_;unfold jV;rw[if_neg (cw cM),if_pos cM.out.symm,<-cv.out]) (gj.out.trans (bk.er.kf bK aJ)) (bk.er.quiet bK))
   ·clear uk;obtain⟨n0,rfl⟩:=List.length_eq_one_iff.1 (gL.2.trans (HOW.1 rfl));obtain⟨g,cap,rfl,hc0⟩:=eU.cell (i:=0) (x:=n0) rfl;simp only[aq,au,Nat.zero_add]at*;have cU:=aF hc0;have nk:=aF (λX=>Zj eo n0 X);have⟨vo,iY⟩:=xq (qp eo n0);rw[<-iY]at nk;have VC:=aF iY;clear hc0 iY;go_upto_region 9 with(fail)
    refine cC (λX=>X.cell? (W,1)=some (I eo)/\X.cell? (g,0)=some (I n0)) [0,0,0,0,0,1,0,0,0,0,0] (λwd hh=>⟨aO bq.out hh 1,eP hh cU⟩) λwd hh hgd hS=> ?_;have bK:=aF hgd;have bN:=bI bq hgd;have fK:=aF (aS cU hgd aH);clear hh hgd d0 d1 d2 d3 r0 r1;refine dS ?_;have mM:∃x ok,pW vo= .tuple #[I x, .bool ok]/\vo.getD 0=x:=by
     cases vo with
     |none=>exact⟨0,false,rfl,rfl⟩
     |some x=>exact⟨x,true,rfl,rfl⟩
    obtain⟨x,ok,hret,hx⟩:=mM;rw[hret]at nk;have VD:=aF hx;clear hret hx;go_wp2_with (go_at_call 62;refine aN (nk _) λw4 aR=> ?_;clear hS)
    refine bw ⟨(bN.ext aR).cell 1,aS fK (aT aR) aH⟩ λhS=> ?_;refine dP ?_;clear hS;go_wp2;go_ret;rw[HQ.out];have hg4:=bX aR none;exact aF (kP.ok (by rw[jc.out];show jV c.p m d k.vars e [n0] s2=_;unfold jV;rw[if_neg (cw cM),if_neg (cw cM),if_pos cM.out.symm,<-yu.out,<-VD.out,VC.out];rfl) ((gj.out.trans (bk.er.kf bK aJ)).trans ((bk.er.quiet bK).kf hg4 aJ)) ((bk.er.quiet bK).quiet hg4))
   ·clear uk;obtain⟨n0,n1,rfl⟩:=OH (gL.2.trans (HOW.2.1 rfl));obtain⟨g,cap,rfl,hc0⟩:=eU.cell (i:=0) (x:=n0) rfl;have hc1:=eU.cell' (i:=1) (x:=n1) rfl;simp only[aq,au,Nat.zero_add,Nat.reduceAdd]at*;have cU:=aF hc0;have nW:=aF hc1;have nk:=aF (λX=>Zk eo n0 n1 X);have⟨vo,iY⟩:=xq (fC eo n0 n1);rw[<-iY]at nk;have hres:iA c.p c.most m d k.vars e s=aaF s2 vo:=by
     rw[jc.out,iY,yu.out];show jV c.p m d k.vars e [n0,n1] s2=_;unfold jV;rw[if_neg (cw cM),if_neg (cw cM),if_neg (cw cM),if_pos cM.out.symm];show(match fC e.op n0 n1 with|none=>_|some n=>_:b6 Int)=_;cases fC e.op n0 n1<;>rfl
    have cP:=aF hres;clear hc0 hc1 iY hres;cases vo with
    |none=>
     have gP:pW none= .tuple #[I 0, .bool false]:=rfl;rw[gP]at nk;clear gP;go_upto_region 12 with(fail)
     refine cC (λX=>X.cell? (W,1)=some (I eo)/\X.cell? (g,0)=some (I n0)/\X.cell? (g,1)=some (I n1)) [0,0,0,0,0,0,0,0,1,0,0,0,0,0] (λwd hh=>⟨aO bq.out hh 1,eP hh cU,eP hh nW⟩) λwd hh hgd hS=> ?_;have bK:=aF hgd;have bN:=bI bq hgd;have fK:=aF (aS cU hgd aH);have l9:=aF (aS nW hgd aH);clear hh hgd d0 d1 d2 d3 r0 r1;refine dS ?_;go_wp2_with (go_at_call 63;refine aN (nk _) λw4 aR=> ?_;clear hS)
     refine bw ⟨(bN.ext aR).cell 1,aS fK (aT aR) aH,aS l9 (aT aR) aH⟩ λhS=> ?_;refine dP ?_;clear hS;go_wp2;have hg4:=bX aR none;refine⟨rfl, ?_⟩;show Hid (Q (.panicked (mz 2 0)) w4);rw[HQ.out];exact aF (kP.stop cP ((gj.out.trans (bk.er.kf bK aJ)).trans ((bk.er.quiet bK).kf hg4 aJ)) ((bk.er.quiet bK).quiet hg4))
    |some x=>
     have gP:pW (some x)= .tuple #[I x, .bool true]:=rfl;rw[gP]at nk;clear gP;go_upto_region 12 with(fail)
     refine cC (λX=>X.cell? (W,1)=some (I eo)/\X.cell? (g,0)=some (I n0)/\X.cell? (g,1)=some (I n1)) [0,0,0,0,0,0,0,0,1,0,0,0,0,0] (λwd hh=>⟨aO bq.out hh 1,eP hh cU,eP hh nW⟩) λwd hh hgd hS=> ?_;have bK:=aF hgd;have bN:=bI bq hgd;have fK:=aF (aS cU hgd aH);have l9:=aF (aS nW hgd aH);clear hh hgd d0 d1 d2 d3 r0 r1;refine dS ?_;go_wp2_with (go_at_call 63;refine aN (nk _) λw4 aR=> ?_;clear hS)
     refine bw ⟨(bN.ext aR).cell 1,aS fK (aT aR) aH,aS l9 (aT aR) aH⟩ λhS=> ?_;refine dP ?_;clear hS;go_wp2;go_ret;rw[HQ.out];have hg4:=bX aR none;exact aF (kP.ok cP ((gj.out.trans (bk.er.kf bK aJ)).trans ((bk.er.quiet bK).kf hg4 aJ)) ((bk.er.quiet bK).quiet hg4))
   ·clear uk;have r4:w3.cell? (rb,4)=some (I d):=by
     obtain⟨iv,ov',hrun⟩:=bk.er.run;rw[bF.out,hrun.cell];rfl
    have hres:iA c.p c.most m d k.vars e s=if 50<=d then .stop 4 0 s2 else pT m.stmt d (qJ c.p (ji c.p nm)) ns s2:=by
     rw[jc.out];show jV c.p m d k.vars e ns s2=_;unfold jV;rw[if_neg (cw cM),if_neg (cw cM),if_neg (cw cM),if_neg (cw cM),if_neg (cw cM),if_neg (cw cM),N4,<-cv.out];rfl
    have cP:=aF hres;clear hres;by_cases hd:50<=d
    ·have Gj:(50:Int)<=(d:Int):=aG;go_wp2;refine⟨rfl, ?_⟩;show Hid (Q (.panicked (mz 4 0)) w3);rw[HQ.out];exact aF (kP.stop (by rw[cP.out,if_pos hd]) gj bk.er)
    ·have Gj: ¬(50:Int)<=(d:Int):=aG;have Dc:=aF hd;have oJ:=(HOW.2.2.2 rfl);rw[<-cv.out]at oJ;obtain⟨j,hj,hjl⟩:=A3 (show¬ji c.p nm<0 by omega);have hj:ji c.p nm=(j:Nat):=hj;obtain⟨iv,ov',hrun⟩:=bk.er.run;have hpx:=bk.er.b.px;obtain⟨aa,ac,fa,fc,e1,e2⟩:=hpx.slice;have E1:=aF e1;have E2:=aF e2;have p_:=aF (True.intro);rw[e1,e2]at hpx;simp only[yS,e1,e2]at hrun;obtain⟨b,o,C,rfl,yD,hC,hrx⟩:=hpx.funcs.at hjl;clear p_;have p_:=aF yD;have hfn:qJ c.p (ji c.p nm)=c.p.funcs[j]:=by rw[hj,qJ,Int.toNat_natCast,List.getD_eq_getElem?_getD,ah hjl];rfl
     have⟨f,hf⟩:=xq (c.p.funcs[j]);have ng:∀x∈f.body,YS c.p x:=by rw[hf];exact HP.body _ (ak hjl)
     have hpl:f.params.length=ns.length:=by rw[hf,<-hfn,gL.2];exact oJ.2
     rw[<-hf]at hfn hrx;obtain⟨hn0,gV,eD,jm⟩:=hrx;have Kc:iA c.p c.most m d k.vars e s=pT m.stmt d f ns s2:=by rw[cP.out,if_neg Dc.out,hfn]
     obtain⟨pa,pc,hp1, -⟩:=id gV;obtain⟨la,lc,nY, -⟩:=id eD;obtain⟨ba,bc,hb1⟩:=jm.slice;have e0:=hC 0 aG;have rC:=hC 1 aG;have e2':=hC 2 aG;have e3:=hC 3 aG;rw[hn0]at e0;rw[hp1]at rC gV;rw[nY]at e2' eD;rw[hb1]at e3 jm;simp only[aA]at e0 rC e2' e3;have eG:=aF (λW' (hb:Below w3 w3 W')=>Dy c.p nm _ _ W' c.G (hpx.below hb));rw[hj]at eG;have⟨an,dI⟩:=xq c.p.arrays.length;have⟨fn,hfn'⟩:=xq c.p.funcs.length;rw[<-dI,<-hfn']at hrun eG;rw[<-dI]at E1;rw[<-hfn']at E2;rw[<-hfn']at hjl;have Mi: ¬(j:Int)<0:=aG;have hjn:(j:Int)<(fn:Int):=aG;have hrun':=hrun;rw[<-bF.out]at hrun';have iI:=aF hrun';have cU:=aF e0;have nW:=aF rC;have FM:=aF e2';have FO:=aF e3;have FP:=aF Kc;have vN:=aF gV;have ru:=aF eD;have AH:=aF jm;have bE:=aF ng;have TH:=aF hpl;have hns:ns.length<=1000000000:=by
      rw[<-hpl];obtain⟨_,_,h1,h2,_⟩:=gV;exact h2
     have VE:=aF (eU.l7 hns);obtain⟨oa,oc,rfl⟩:=eU.slice;have vO:=aF bk.row;rw[<-bF.out]at vO;clear hd oJ hj hpx e1 e2 hC hfn hf ng hpl hn0 gV eD jm Kc hp1 nY hb1 dI hfn' hrun hrun' e0 rC e2' e3 hns;go_upto_region 22 with(fail)
     refine yl (λX=>X.cell? (cb,0)=some (.pointer (some (rb,0)))/\X.cell? (rb,0)=some (.slice aa an ac)/\X.cell? (rb,1)=some (.slice (some (b,o)) fn fc)/\X.cell? (W,3)=some (S nm)/\X.cell? (b,o+j*4)=some (S f.name)/\X.cell? (b,o+j*4+1)=some (.slice pa f.params.length pc)/\X.cell? (b,o+j*4+2)=some (.slice la f.locals.length lc)/\X.cell? (b,o+j*4+3)=some (.slice ba f.body.length bc)) [(0,0),(0,1),(0,2),(0,3),(0,4),(0,5),(0,6),(0,7),(0,8),(0,9),(0,10),(0,11),(0,12),(0,13),(0,14),(0,15),(0,16),(0,17),(0,18),(0,19),(0,20),(0,24),(1,21),(0,22),(0,23),(1,25),(0,26)] (λwd hh=>⟨aO vO.out hh 0,aO iI.out hh 0,aO iI.out hh 1,aO bq.out hh 3,eP hh cU,eP hh nW,eP hh FM,eP hh FO⟩) λwd hh hgd hS=> ?_;have bK:=aF hgd;have FQ:=aF (show Below w3 w3 wd from⟨hgd.os,hgd.tape,hgd.output,hgd.size,λk hk=>hgd.block k hk aH⟩);clear hh hgd d0 d1 d2 d3 r0 r1 r4;refine dS ?_;go_wp2_with (go_at_call 48;refine aN (eG _ FQ) λw4 hb4=> ?_;have aR:=aU FQ hb4;clear hS)
     refine bw ⟨(vO.ext aR).cell 0,(iI.ext aR).cell 0,(iI.ext aR).cell 1,(bq.ext aR).cell 3,aS cU (aT aR) aH,aS nW (aT aR) aH,aS FM (aT aR) aH,aS FO (aT aR) aH⟩ λhS=> ?_;refine Ek ?_;have Dd:ER c (λb=>(F b\/b=W.heap.size)\/(Value.slice oa ns.length oc).ownBlock=some b) w4 d s2:=iz.below aR;have hcall:=HB _ w4 d s2 f (S f.name) _ _ _ _ ns Dd (vN.below aR λ_ _ h=>h) (ru.below aR λ_ _ h=>h) (AH.on λb hb=>aR.block b (bk.er.b.lt b (bk.er.b.gf b hb))) bE TH ((VE.below aR λ_ _ h=>h).weak (λb hb=>aB hb aR.size) λ_ _ h=>h) (by have:=HR.out;have:=gD.out;have:=ua (most:=c.most) gL.1;omega) (cw Dc);rw[<-bF.out]at hcall;have⟨r5,bp⟩:=xq (pT m.stmt d f ns s2);rw[<-bp]at hcall FP;have jk:=aF hcall;have dR:=aF Dd;have hk4:KF F W w4:=gj.out.trans (bk.er.kf (aT aR) aJ);have bR:=aF hk4;clear hS Dd hcall bp hk4;refine h_ ?_;cases r5 with
     |stop a b' s5=>
      go_wp2_with (go_at_call 53;refine jk.mono ?_;rintro e' w5⟨cg,rfl,d',dL⟩;have dG:=aF cg;have cZ:=aF dL;clear cg dL)
      refine⟨rfl, ?_⟩;show Hid (Q (.panicked (mz a b')) w5);rw[HQ.out];exact aF (kP.stop FP (bR.out.trans (dG.mono λb hb=> .inl (.inl hb))) (cZ.less (λb hb=> .inl (.inl hb)) HH.er.b.gf))
     |ok n s5=>
      go_wp2_with (go_at_call 53;refine jk.mono ?_;rintro e' w5⟨cg,rfl,dL⟩;have dG:=aF cg;have cZ:=aF dL;clear cg dL)
      obtain⟨Da,Db,bp⟩:=cZ.run;simp only[yS,E1.out,E2.out]at bp;rw[<-bF.out]at bp;have zj:w5.heap[b]? =w4.heap[b]? :=dG.block b (.inl (.inl (HH.er.b.gf b p_)));refine bw ⟨(dG.row (vO.ext aR) (.inl (.inl HH.cF))).cell 0,bp.cell 0,bp.cell 1,(dG.row (bq.ext aR) (.inl (.inr rfl))).cell 3,(A4 zj).trans (aS cU (aT aR) aH),(A4 zj).trans (aS nW (aT aR) aH),(A4 zj).trans (aS FM (aT aR) aH),(A4 zj).trans (aS FO (aT aR) aH)⟩ λhS=> ?_;clear bp zj;refine dP ?_;clear hS;go_wp2;go_ret;rw[HQ.out];exact aF (kP.ok FP (bR.out.trans (dG.mono λb hb=> .inl (.inl hb))) (cZ.less (λb hb=> .inl (.inl hb)) HH.er.b.gf))
   ·clear uk;obtain⟨n0,rfl⟩:=List.length_eq_one_iff.1 (gL.2.trans (HOW.2.2.1 rfl).1);have oJ:=(HOW.2.2.1 rfl).2;obtain⟨g,cap,rfl,hc0⟩:=eU.cell (i:=0) (x:=n0) rfl;simp only[aq,au,Nat.zero_add]at*;rw[<-cv.out]at oJ;obtain⟨i,hi,hil⟩:=A3 (show¬lK c.p nm<0 by omega);have hi:lK c.p nm=(i:Nat):=hi;rw[<-bk.er.b.yg]at hil;obtain⟨x0,hx0⟩:∃x,c.gz[i]? =some x:=⟨_,ah hil⟩;obtain⟨l,hl⟩:∃l,s2.fB[i]? =some l:=⟨_,ah (by rw[bk.er.b.len];exact hil)⟩;obtain⟨hrl,hll⟩:=bk.er.b.arr i x0 l hx0 hl;obtain⟨ga,na⟩:=x0;have hll:l.length=na:=hll;have hrl:Row w3 ga 3 (l.map I):=hrl;have jS:tK c.p s2 nm=l:=by
     unfold tK yN;rw[hi,Int.toNat_natCast,List.getD_eq_getElem?_getD,hl];rfl
    have hres:iA c.p c.most m d k.vars e s=if n0<0\/(na:Int)<=n0 then .stop 3 0 s2 else .ok (l.getD n0.toNat 0) s2:=by
     rw[jc.out];show jV c.p m d k.vars e [n0] s2=_;unfold jV;rw[if_neg (cw cM),if_neg (cw cM),if_neg (cw cM),if_neg (cw cM),if_pos cM.out.symm,<-cv.out,jS,hll];rfl
    have cP:=aF hres;have cU:=aF hc0;have eG:=aF (λ(X:World) (hX:w3.grownBy X none)=>Xi c F X d s2 cb mb k.value nm i ga na n0 (bk.er.quiet hX) (bk.row.kept hX aH) hi hx0);have hcell: ¬(n0<0\/(na:Int)<=n0)->w3.cell? (ga,n0.toNat)=some (I (l.getD n0.toNat 0)):=λh=>by
     have hlt:n0.toNat<l.length:=aG;rw[hrl.cell,List.getElem?_map,ah hlt,List.getD_eq_getElem?_getD,ah hlt];rfl
    have⟨y,hy⟩:=xq (l.getD n0.toNat 0);rw[<-hy]at hcell cP;have oo:=aF hcell;clear hc0 oJ hi hil hx0 hl hrl hll jS hres hcell hy;by_cases hb:n0<0\/(na:Int)<=n0
    ·have hP:∀X,w3.grownBy X none->_:=λX hX=>by have:=eG X hX;rw[if_pos hb]at this;exact this
     have CI:=aF hP;have DY:=aF (cP.out.trans (if_pos hb));clear hb hP eG oo cP;go_upto_region 17 with(fail)
     refine cC (λX=>X.cell? (W,3)=some (S nm)/\X.cell? (g,0)=some (I n0)) [0,0,0,0,0,0,1,0,0,0] (λwd hh=>⟨aO bq.out hh 3,eP hh cU⟩) λwd hh hgd hS=> ?_;have bK:=aF hgd;clear hh hgd d0 d1 d2 d3 r0 r1;refine dS ?_;go_wp2_with (go_at_call 189;refine aN (CI _ bK) λw4 aR=> ?_;clear hS)
     have hg4:=bX aR none;refine⟨rfl, ?_⟩;show Hid (Q (.panicked (mz 3 0)) w4);rw[HQ.out];exact aF (kP.stop DY ((gj.out.trans (bk.er.kf bK aJ)).trans ((bk.er.quiet bK).kf hg4 aJ)) ((bk.er.quiet bK).quiet hg4))
    ·have hP:∀X,w3.grownBy X none->_:=λX hX=>by have:=eG X hX;rw[if_neg hb]at this;exact this
     have CI:=aF hP;have DY:=aF (cP.out.trans (if_neg hb));have Il:=aF (oo hb);clear hb hP eG oo cP;have⟨ME,Lx⟩:=xq n0.toNat;rw[<-Lx]at CI Il;clear Lx;go_upto_region 17 with(fail)
     refine cC (λX=>X.cell? (W,3)=some (S nm)/\X.cell? (g,0)=some (I n0)/\X.cell? (ga,ME)=some (I y)) [0,0,0,0,0,0,1,0,0,0] (λwd hh=>⟨aO bq.out hh 3,eP hh cU,eP hh Il⟩) λwd hh hgd hS=> ?_;have bK:=aF hgd;have bN:=bI bq hgd;have fK:=aF (aS cU hgd aH);have l9:=aF (aS Il hgd aH);clear hh hgd d0 d1 d2 d3 r0 r1;refine dS ?_;go_wp2_with (go_at_call 189;refine aN (CI _ bK) λw4 aR=> ?_;clear hS)
     refine bw ⟨(bN.ext aR).cell 3,aS fK (aT aR) aH,aS l9 (aT aR) aH⟩ λhS=> ?_;refine dP ?_;clear hS;go_wp2;go_ret;rw[HQ.out];have hg4:=bX aR none;exact aF (kP.ok DY ((gj.out.trans (bk.er.kf bK aJ)).trans ((bk.er.quiet bK).kf hg4 aJ)) ((bk.er.quiet bK).quiet hg4))
   ·clear uk;obtain⟨n,s4,dA⟩:=ahC s2;have hce:=ahr c F w3 d s2 bk.er;rw[dA,<-bF.out]at hce;have l9:=aF hce;have dz:=aF dA;clear dA hce;go_wp2_with (go_at_call 234;refine l9.mono ?_;rintro e' w4⟨hk4,rfl,cV⟩;have bR:=aF hk4;have dR:=aF cV;clear hk4 cV)
    go_ret;rw[HQ.out];refine aF (kP.ok (by rw[jc.out];show jV c.p m d k.vars e ns s2=_;unfold jV;rw[if_neg (cw cM),if_neg (cw cM),if_neg (cw cM),if_neg (cw cM),if_neg (cw cM),if_pos cM.out.symm];exact dz.out) (gj.out.trans bR.out) dR)
end
end Go.Proofs.YtjgbkdbkachciaaGreatDoor
