import Derived.Test.YtjgbkdbkachciaaGreatDoorW1
import Derived.Lib.AppendZeros
set_option linter.all false
namespace Go.Proofs.YtjgbkdbkachciaaGreatDoor
set_option maxRecDepth 100000
set_option maxHeartbeats 16000000
section
open Go.RowKit Go.Shelf
attribute [local go_sem] Oper.semAt_some
abbrev dX:aK:= [109,97,105,110]
structure s6 (p:LP):Prop where
 twice:nS (j3 p)=false
 main:∃k:Nat,ji p dX=k/\∃h:k<p.funcs.length,(p.funcs[k]'h).params= []
 funcs:∀f∈p.funcs,ot p f=0
def J9 (f:LF):Prop:=∀(B:Nat->Prop) (pa la:Option Addr) (pc lc:Nat),NR B (.slice pa f.params.length pc) (.slice la f.locals.length lc) f.params f.locals
theorem G8 {tmps:Array Value} {w:World} {b:Nat} {x y z:Value} (h2:tmps.getD 2 undef=x) (h3:tmps.getD 3 undef= .pointer (some (b,0))) (hr:Row w b 72 [y,z]):
  (results Tryz.f31 tmps).run Tryz.prog w= .ok (.tuple #[x, .agg #[y,z]]) w:=by
 have h2':tmps[2]?.getD undef=x:=by simpa using h2
 have h3':tmps[3]?.getD undef= .pointer (some (b,0)):=by simpa using h3
 have c0:=hr.k0;have c1:=hr.k1;simp [results,h2',h3',asAddr,go_sem,c0,c1]
theorem Yp (B:Nat->Prop) (p:LP) (av fv:Value) (w:World) (hx:PX B w av fv p) (xV:∀(W:World) (av fv:Value),PX B W av fv p->CR 43 #[.agg #[av,fv]] W (.bool true)) (hok:kR p) (hn:s6 p) (hcc:∀f∈p.funcs,J9 f) (hN:p.arrays.length+p.funcs.length<=1000000000)
  (jT:∀f∈p.funcs,f.params.length+f.locals.length<=1000000000):
  CR 31 #[.agg #[av,fv]] w (.tuple #[I 0, .agg #[I 0,I 0]]):=by
 obtain⟨aa,ac,fa,fc,rfl,rfl⟩:=hx.slice;have⟨an,dI⟩:=xq p.arrays.length;have⟨fn,hfn⟩:=xq p.funcs.length;rw[<-dI,<-hfn]at hx|-;have eT:=aF hfn;obtain⟨m,Ar,pG,hmp⟩:=hn.main;obtain⟨w0,hw0⟩:∃w0,w0=(w.alloc (.cells #[.slice aa an ac, .slice fa fn fc] 27)).alloc (.cells #[.int .i64 0, .int .i64 0] 72):=⟨_,rfl⟩;have dO:=hw0.symm;have hb0:Below w w w0:=by rw[hw0];exact nR _ _ _
 have hr1:Row w0 w 27 [.slice aa an ac, .slice fa fn fc]:=by rw[hw0];exact dV _ _ hn0
 have hr3:Row w0 (w,1) 72 [I 0,I 0]:=by rw[hw0];exact jF aH
 have c0:=hr1.k0;have c1:=hr1.k1;have bg:=aF hb0;have bC:=aF hr1;have bL:=aF hr3;have HX:=aF hx;have eG:=aF (λW (hb:Below w w W)=>Dy p dX _ _ W B (hx.below hb));rw[Ar]at eG;have qy:=aF (λW (hb:Below w w W)=>xV W _ _ (hx.below hb));have qZ:=aF (λW (hb:Below w w W)=>JC p _ _ W B (hx.below hb) hN);have oP:(j3 p).length<=1000000000:=by rw[j3,ax,aC,aC];exact hN
 have oG:=aF (λW v (B':Nat->Prop) (hv:aP B' 1 dc W v (j3 p))=>JL (j3 p) v W B' hv oP);rw[hn.twice]at oG;have Ap:=aF oP;have Ve:=aF (λ(f:LF) (hf:f∈p.funcs) (W:World) (pa la:Option Addr) (pc lc:Nat) (bv:Value) (hb:Below w w W) (hp:aP B 1 dc W (.slice pa f.params.length pc) f.params) (hl:aP B 1 dc W (.slice la f.locals.length lc) f.locals) (ng:SX B W bv f.body)=>
  Xd B p f _ _ _ _ bv W (hx.below hb) (hcc f hf B pa la pc lc) hp hl ng hN (jT f hf))
 have Vw:=aF hn.funcs;have zu: ¬(m:Int)<0:=aG;have s9:(m:Int)<(fn:Int):=aG;have Vf:=aF hmp;have CP:fn<=1000000000:=by rw[hfn];omega
 clear hx hok hn hcc hN jT hw0 hb0 hr1 hr3 Ar hmp hfn dI oP;go_enter Tryz.func31,Tryz.ntmps31;go_upto_region 4 with(first|(go_at_call 48;refine aN (eG _ bg) λw1 hb1=> ?_;have hb2:=bg.out.trans (hb1.mono bg.size);have hr:=bC.ext hb1;clear c0 c1;have c0:=hr.k0;have c1:=hr.k1;have kj:=aF hb2;have gJ:=aF hr;have bF:=bA bL hb1;clear hb2 hr)|(go_at_call 43;refine aN (qy _ kj) λw2 hb1=> ?_;have hb2:=kj.out.trans (hb1.mono kj.size);have hr:=gJ.ext hb1;clear c0 c1;have c0:=hr.k0;have c1:=hr.k1;have fY:=aF hb2;have kH:=aF hr;have dz:=bA bF hb1;clear hb2 hr))
 go_upto_region 6 with(first|(go_at_call 50;refine(qZ _ fY).mono ?_;rintro e w3⟨gv,rfl,hgo,hb1⟩;have hb2:=fY.out.trans (hb1.mono fY.size);have hr:=kH.ext hb1;clear c0 c1;have ey:=aF hb2;have fP:=aF hr;have C5:=bA dz hb1;have Aq:=aF hgo;clear hb1 hb2 hr hgo)|(go_at_call 49;refine aN (oG _ gv (w2.heap.size<=·) (by simpa using Aq.l7 (R:=dc) (λx=>x) qC Ap.out (λx _=>rfl))) λw4 hb1=> ?_;have hb2:=ey.out.trans (hb1.mono ey.size);have hr:=fP.ext hb1;have c0:=hr.k0;have c1:=hr.k1;have p_:=aF hb2;have Br:=aF hr;have C6:=bA C5 hb1;clear hb2 hr))
 have fh:=HX.below p_;have akx:m<fn:=by rw[eT.out];exact pG
 obtain⟨b,o,C,rfl,_,hC,hrx⟩:=(show aP B 4 (RF B) w4 (.slice fa p.funcs.length fc) p.funcs by rw[<-eT.out];exact fh.funcs).at pG;obtain⟨IL,IM,qx, -⟩:=hrx.2.1;have e1:=hC 1 aG;rw[qx,Vf.out,au]at e1;clear hC hrx qx fh;go_upto_region 8 with(fail)
 clear e1 c0;go_upto_region 9 with(fail)
 have HF:Hid (aP B 4 (RF B) w (.slice (some (b,o)) fn fc) p.funcs):=HX.funcs;clear c1;go_loopg [38] fn (λgh i wr=>∃k:Nat,gh+k=fn/\i=I k/\Hid (Below w w wr/\Row wr w 27 [.slice aa an ac, .slice (some (b,o)) fn fc]/\Row wr (w,1) 72 [I 0,I 0]))
 case atStart=>exact⟨0,rfl,rfl,aF ⟨p_,Br,C6⟩⟩
 case round=>
  obtain⟨k,hg,rfl,HH⟩:=hrel;obtain⟨wo,rfl⟩:=xq wr;by_cases hlt:k<fn
  ·have bT:(k:Int)<(fn:Int):=aG;have hlt':k<p.funcs.length:=by rw[<-eT.out];exact hlt
   obtain⟨b',o',C,jz,_,hC,hrx⟩:=(HF.below HH.out.1 (λC x h=>h.grown (bX HH.out.1 none) aJ)).at hlt';obtain⟨rfl,rfl⟩:b=b'/\o=o':=by simpa using jz
   have jb:=aF (ak hlt');have⟨x,hx⟩:=xq (p.funcs[k]);rw[<-hx]at hrx jb;obtain⟨h0,h1,h2,h3⟩:=hrx;obtain⟨pa,pc,hpv, -⟩:=id h1;obtain⟨la,lc,hlv, -⟩:=id h2;obtain⟨ba,bc,l_⟩:=h3.slice;have e0:=hC 0 aG;have e1:=hC 1 aG;have e2:=hC 2 aG;have e3:=hC 3 aG;rw[h0]at e0;rw[hpv]at e1 h1;rw[hlv]at e2 h2;rw[l_]at e3 h3;simp only[aA]at e0 e1 e2 e3;have HP:=aF h1;have HL:=aF h2;have bE:=aF h3;have⟨pn,jx⟩:=xq x.params.length;have⟨ln,nJ⟩:=xq x.locals.length;have⟨bn,uQ⟩:=xq x.body.length;have sx:=aF (λW (hb:Below wo wo W)=>Ve.out x jb W pa la pc lc _ (HH.out.1.trans (hb.mono HH.out.1.size)) (HP.grown (bX hb none) aJ i20) (HL.grown (bX hb none) aJ i20) (bE.grown (bX hb none) aJ));rw[Vw.out x jb.out]at sx;rw[<-jx]at e1 sx;rw[<-nJ]at e2 sx;rw[<-uQ]at e3 sx;clear hC h0 h1 h2 h3 hpv hlv l_ hx jz jx nJ uQ;go_upto_region 11 with(refine sr 52 (.tmp 6) (.tmp 42) wo CU hn0 ?_;rw[World.setRow_alloc_new])
   have⟨w5,bQ⟩:=xq (wo.alloc (.cells #[S x.name, .slice pa pn pc, .slice la ln lc, .slice ba bn bc] 52));have bz:=gI bQ;have bp:=dZ bQ;rw[<-bQ];have cL:=aF (HH.out.2.1.ext bz);have I7:=aF (HH.out.2.2.ext bz);have bW:=aF bz;have c0:=cL.k0;have c1:=cL.k1;have d0:=bp.k0;have d1:=bp.k1;have d2:=bp.k2;have d3:=bp.k3;clear bQ bz bp e0 e1 e2 e3;go_upto_region 12 with(go_at_call 51;refine(sx _ bW).mono ?_;rintro e w6⟨⟨n6,rfl⟩,bV⟩;have fS:=bW.out.trans (bV.mono bW.size);have iK:=aF (HH.out.1.trans (fS.mono HH.out.1.size));have rP:=bA cL bV;have xm:=bA I7 bV;clear bV fS c0 c1 d0 d1 d2 d3)
   go_wp2;go_roundg (fn - (k+1))
   case measure=>omega
   case rel=>exact⟨k+1,aG,by go_num,aF ⟨iK,rP,xm⟩⟩
  ·have bT: ¬(k:Int)<(fn:Int):=aG;have hq:=HH.out.2.2;have q0:=hq.k0;have q1:=hq.k1;have p0:=hq.frozen 0;have p1:=hq.frozen 1;have HQ:=aF hq;clear hq;go_wp2;refine bodyPost_ret (G8 rfl rfl ((HQ.set 0 _).set 1 _)) rfl ?_;have hg1:=bO wo (w,1) 0 (I 0);have hg2:=bO (wo.setCell (w,1,0) (I 0)) (w,1) 1 (I 0);exact⟨rfl,(HH.out.1.grown hg1 HH.out.1.size PA).grown hg2 (by have:=hg1.size;have:=HH.out.1.size;omega) PA⟩
abbrev Nh:Array Value:= #[.string ⟨#[]⟩, .int .i64 0, .nilFunc, .nilFunc]
def pW (o:Option Int):Value:=match o with
 |some n=> .tuple #[I n, .bool true]
 |none=> .tuple #[I 0, .bool false]
theorem ahQ {op:Int} (h:1<=op/\op<=16):xQ op≠0:=by
 rcases(by omega:op=1\/op=2\/op=3\/op=4\/op=5\/op=6\/op=7\/op=8\/op=9\/op=10\/op=11\/op=12\/op=13\/op=14\/op=15\/op=16)with rfl|rfl|rfl|rfl|rfl|rfl|rfl|rfl|rfl|rfl|rfl|rfl|rfl|rfl|rfl|rfl
 all_goals decide
theorem ahR {op:Int} (h:17<=op/\op<=19):wL op≠0:=by
 rcases(by omega:op=17\/op=18\/op=19)with rfl|rfl|rfl
 all_goals decide
theorem ag_ {op:Int} (h:op<1\/16<op):xQ op=0:=by
 unfold xQ
 repeat rw[if_neg aG]
theorem ag' {op:Int} (h:op<17\/19<op):wL op=0:=by
 unfold wL
 repeat rw[if_neg aG]
theorem agu (op:Int) (h:1<=op/\op<=16):∀args w,(callFunc (xQ op) args).run Tryz.prog w= .ok (.enter (xQ op) args) w:=by
 rcases(by omega:op=1\/op=2\/op=3\/op=4\/op=5\/op=6\/op=7\/op=8\/op=9\/op=10\/op=11\/op=12\/op=13\/op=14\/op=15\/op=16)with rfl|rfl|rfl|rfl|rfl|rfl|rfl|rfl|rfl|rfl|rfl|rfl|rfl|rfl|rfl|rfl
 ·exact enters_of Tryz.func145 aL rfl
 ·exact enters_of Tryz.func146 aL rfl
 ·exact enters_of Tryz.func147 aL rfl
 ·exact enters_of Tryz.func148 aL rfl
 ·exact enters_of Tryz.func149 aL rfl
 ·exact enters_of Tryz.func150 aL rfl
 ·exact enters_of Tryz.func151 aL rfl
 ·exact enters_of Tryz.func152 aL rfl
 ·exact enters_of Tryz.func153 aL rfl
 ·exact enters_of Tryz.func154 aL rfl
 ·exact enters_of Tryz.func155 aL rfl
 ·exact enters_of Tryz.func157 aL rfl
 ·exact enters_of Tryz.func158 aL rfl
 ·exact enters_of Tryz.func159 aL rfl
 ·exact enters_of Tryz.func160 aL rfl
 ·exact enters_of Tryz.func161 aL rfl
theorem agv (op:Int) (h:17<=op/\op<=19):∀args w,(callFunc (wL op) args).run Tryz.prog w= .ok (.enter (wL op) args) w:=by
 rcases(by omega:op=17\/op=18\/op=19)with rfl|rfl|rfl
 ·exact enters_of Tryz.func162 aL rfl
 ·exact enters_of Tryz.func163 aL rfl
 ·exact enters_of Tryz.func164 aL rfl
theorem Y_ (w:World):(binOp BinOp.eql 34 Value.nilFunc Value.nilFunc).run Tryz.prog w= .ok (.bool true) w:=aL
theorem Zv (k:Nat) (w:World):(binOp BinOp.eql 34 (.func (.func k) #[] #[]) Value.nilFunc).run Tryz.prog w= .ok (.bool false) w:=aL
theorem Za (w:World):(binOp BinOp.eql 62 Value.nilFunc Value.nilFunc).run Tryz.prog w= .ok (.bool true) w:=aL
theorem Zw (k:Nat) (w:World):(binOp BinOp.eql 62 (.func (.func k) #[] #[]) Value.nilFunc).run Tryz.prog w= .ok (.bool false) w:=aL
theorem Zk (op a b:Int) (w:World):CR 63 #[I op,I a,I b] w (pW (fC op a b)):=by
 have q1:=Y_;have q2:=Zv;have q3:=Za;have q4:=Zw;have BQ:=aF (NG op w);have⟨sg,d_⟩:=xq (rF op);have⟨lv,hlv⟩:=xq (nT op);have⟨fo,hfo⟩:=xq (rL (wL op));by_cases hop:1<=op/\op<=16
 ·have⟨iJ,Eb⟩:=xq (xQ op);have hall:=aF (show(#[S sg,I lv, .func (.func iJ) #[] #[],fo]:Array Value).all (·.oneCell')=true by rw[hfo];unfold rL;split<;>simp [Value.oneCell']);have gP:wM op= .agg #[S sg,I lv, .func (.func iJ) #[] #[],fo]:=by
   rw[wM,<-d_,<-hlv,<-hfo,rL,if_neg (ahQ hop),<-Eb]
  rw[gP]at BQ;have GW:=aF (aha op hop a b);have hen:=agu op hop;rw[<-Eb]at GW hen;have⟨x,hx⟩:=xq (Uj op a b);rw[<-hx]at GW;by_cases hz:b=0/\(op=4\/op=5)
  ·have hv:pW (fC op a b)= .tuple #[I 0, .bool false]:=by unfold fC;rw[if_neg aG,if_pos hz];rfl
   rw[hv];obtain⟨rfl,h45⟩:=hz;clear hv gP d_ hlv hfo Eb hx;rcases h45 with rfl|rfl
   all_goals
    clear hop;go_enter Tryz.func63,Tryz.ntmps63;go_wp2_with (first|(go_at_call 105;refine aN BQ λw1 aI=> ?_)|(refine sJ 160 (.tmp 8) (.tmp 10) rfl ?_;refine wpList_store_row rfl 160 (.tmp 8) (.tmp 10) rfl w1.heap.size _ rfl rfl 160 Nh hn0 aL fV hall.out ?_;rw[World.setRow_alloc_new]))
    go_ret2;exact⟨rfl,aI.alloc aI.size _⟩
  ·have hv:pW (fC op a b)= .tuple #[I x, .bool true]:=by unfold fC;rw[if_neg aG,if_neg hz,hx];rfl
   rw[hv];have hzz:((b==0)=false)\/((b==0)=true/\(op==4)=false/\(op==5)=false):=by
    by_cases hb:b=0
    ·exact .inr ⟨by rw[hb];rfl,bu (λh=>hz ⟨hb, .inl h⟩),bu (λh=>hz ⟨hb, .inr h⟩)⟩
    ·exact .inl (bu hb)
   clear hv gP d_ hlv hfo Eb hx hz hop;rcases hzz with h1|⟨h0,h1,h2⟩
   all_goals
    go_enter Tryz.func63,Tryz.ntmps63;go_wp2_with (first|(go_at_call 105;refine aN BQ λw1 aI=> ?_)|(refine sJ 160 (.tmp 8) (.tmp 10) rfl ?_;refine wpList_store_row rfl 160 (.tmp 8) (.tmp 10) rfl w1.heap.size _ rfl rfl 160 Nh hn0 aL fV hall.out ?_;rw[World.setRow_alloc_new])|(refine(GW.out _).mono ?_;rintro e w2⟨rfl,rfl⟩))
   all_goals
    go_ret2;exact⟨rfl,aI.alloc aI.size _⟩
 ·have hall:=aF (show(#[S sg,I lv, .nilFunc,fo]:Array Value).all (·.oneCell')=true by rw[hfo];unfold rL;split<;>simp [Value.oneCell']);have gP:wM op= .agg #[S sg,I lv, .nilFunc,fo]:=by
   rw[wM,<-d_,<-hlv,<-hfo,rL,if_pos (ag_ aG)]
  rw[gP]at BQ;have hv:pW (fC op a b)= .tuple #[I 0, .bool false]:=by unfold fC;rw[if_pos aG];rfl
  rw[hv];clear hv gP d_ hlv hfo hop;go_enter Tryz.func63,Tryz.ntmps63;go_wp2_with (first|(go_at_call 105;refine aN BQ λw1 aI=> ?_)|(refine sJ 160 (.tmp 8) (.tmp 10) rfl ?_;refine wpList_store_row rfl 160 (.tmp 8) (.tmp 10) rfl w1.heap.size _ rfl rfl 160 Nh hn0 aL fV hall.out ?_;rw[World.setRow_alloc_new]))
  go_ret2;exact⟨rfl,aI.alloc aI.size _⟩
theorem Zj (op a:Int) (w:World):CR 62 #[I op,I a] w (pW (qp op a)):=by
 have q1:=Y_;have q2:=Zv;have q3:=Za;have q4:=Zw;have BQ:=aF (NG op w);have⟨sg,d_⟩:=xq (rF op);have⟨lv,hlv⟩:=xq (nT op);have⟨fo,hfo⟩:=xq (rL (xQ op));by_cases hop:17<=op/\op<=19
 ·have⟨iJ,Eb⟩:=xq (wL op);have hall:=aF (show(#[S sg,I lv,fo, .func (.func iJ) #[] #[]]:Array Value).all (·.oneCell')=true by rw[hfo];unfold rL;split<;>simp [Value.oneCell']);have gP:wM op= .agg #[S sg,I lv,fo, .func (.func iJ) #[] #[]]:=by
   rw[wM,<-d_,<-hlv,<-hfo,rL,if_neg (ahR hop),<-Eb]
  rw[gP]at BQ;have GW:=aF (ahb op hop a);have hen:=agv op hop;rw[<-Eb]at GW hen;have⟨x,hx⟩:=xq (Uk op a);rw[<-hx]at GW;have hv:pW (qp op a)= .tuple #[I x, .bool true]:=by unfold qp;rw[if_neg aG,hx];rfl
  rw[hv];clear hv gP d_ hlv hfo Eb hx hop;go_enter Tryz.func62,Tryz.ntmps62;go_wp2_with (first|(go_at_call 105;refine aN BQ λw1 aI=> ?_)|(refine sJ 160 (.tmp 6) (.tmp 8) rfl ?_;refine wpList_store_row rfl 160 (.tmp 6) (.tmp 8) rfl w1.heap.size _ rfl rfl 160 Nh hn0 aL fV hall.out ?_;rw[World.setRow_alloc_new])|(refine(GW.out _).mono ?_;rintro e w2⟨rfl,rfl⟩))
  go_ret2;exact⟨rfl,aI.alloc aI.size _⟩
 ·have hall:=aF (show(#[S sg,I lv,fo, .nilFunc]:Array Value).all (·.oneCell')=true by rw[hfo];unfold rL;split<;>simp [Value.oneCell']);have gP:wM op= .agg #[S sg,I lv,fo, .nilFunc]:=by
   rw[wM,<-d_,<-hlv,<-hfo]
   conv=>rhs;rw[show Value.nilFunc=rL (wL op) by rw[rL,if_pos (ag' aG)]]
  rw[gP]at BQ;have hv:pW (qp op a)= .tuple #[I 0, .bool false]:=by unfold qp;rw[if_pos aG];rfl
  rw[hv];clear hv gP d_ hlv hfo hop;go_enter Tryz.func62,Tryz.ntmps62;go_wp2_with (first|(go_at_call 105;refine aN BQ λw1 aI=> ?_)|(refine sJ 160 (.tmp 6) (.tmp 8) rfl ?_;refine wpList_store_row rfl 160 (.tmp 6) (.tmp 8) rfl w1.heap.size _ rfl rfl 160 Nh hn0 aL fV hall.out ?_;rw[World.setRow_alloc_new]))
  go_ret2;exact⟨rfl,aI.alloc aI.size _⟩
end
section
open Go.RowKit Go.Shelf
structure aV where
 inp:List Int
 fB:List (List Int)
 out:List Int
 steps:Nat
inductive b6 (α:Type) where
 |ok (a:α) (s:aV)
 |stop (status code:Int) (s:aV)
abbrev Vars:=aK->Int
structure bM where
 vars:Vars
 value:Int
def upd (f:Vars) (x:aK) (v:Int):Vars:=λy=>if y=x then v else f y
def dw (f:LE->aV->b6 Int):List LE->aV->b6 (List Int)
 | [],s=> .ok [] s
 |e::l,s=>match f e s with
  | .stop a b s=> .stop a b s
  | .ok n s=>match dw f l s with
   | .stop a b s=> .stop a b s
   | .ok ns s=> .ok (n::ns) s
def eO (f:bM->LS->aV->b6 (Int×bM)):List LS->bM->aV->b6 (Int×bM)
 | [],c,s=> .ok (0,c) s
 |x::l,c,s=>match f c x s with
  | .stop a b s=> .stop a b s
  | .ok (how,c) s=>if how=0 then eO f l c s else .ok (how,c) s
def oN (f:LF) (args:List Int):Vars:=f.locals.foldl (λg x=>upd g x 0) ((f.params.zip args).foldl (λg p=>upd g p.1 p.2) λ_=>0)
def yN (p:LP) (x:aK):Nat:=(lK p x).toNat
def funcAt (p:LP) (x:aK):LF:=qJ p (ji p x)
def tK (p:LP) (s:aV) (x:aK):List Int:=s.fB.getD (yN p x) []
def hd (l:List Int):Int:=l.getD 0 0
def hd2 (l:List Int):Int:=l.getD 1 0
structure j6 where
 expr:Nat->Vars->LE->aV->b6 Int
 stmt:Nat->bM->LS->aV->b6 (Int×bM)
 loop:Nat->bM->LS->aV->b6 (Int×bM)
def lM (p:LP) (stmt:Nat->bM->LS->aV->b6 (Int×bM)) (d:Nat) (x:aK) (args:List Int) (s:aV):b6 Int:=
 match eO (stmt (d+1)) (funcAt p x).body ⟨oN (funcAt p x) args,0⟩ s with
 | .stop a b s=> .stop a b s
 | .ok q s=> .ok q.2.value s
def iA (p:LP) (most:Int) (m:j6) (d:Nat) (vs:Vars) (e:LE) (s:aV):b6 Int:=
 if most<=s.steps then .stop 0 0 s else
 match dw (m.expr d vs) e.args {s with steps:=s.steps+1}with
 | .stop a b s=> .stop a b s
 | .ok args s=>
  if e.kind=1 then .ok e.n s
  else if e.kind=2 then .ok (vs e.name) s
  else if e.kind=3 then .ok ((qp e.op (hd args)).getD 0) s
  else if e.kind=4 then match fC e.op (hd args) (hd2 args)with
   |none=> .stop 2 0 s
   |some n=> .ok n s
  else if e.kind=6 then
   if hd args<0\/((tK p s e.name).length:Int)<=hd args then .stop 3 0 s else .ok ((tK p s e.name).getD (hd args).toNat 0) s
  else if e.kind=7 then match s.inp with
   | []=> .ok (-1) s
   |x::l=> .ok x {s with inp:=l}
  else if 50<=d then .stop 4 0 s
  else lM p m.stmt d e.name args s
def jG (p:LP) (most:Int) (m:j6) (d:Nat) (c:bM) (x:LS) (s:aV):b6 (Int×bM):=
 if most<=s.steps then .stop 0 0 s else
 if x.kind=4 then m.loop d c x {s with steps:=s.steps+1}
 else if x.kind=5 then .ok (1,c) {s with steps:=s.steps+1}
 else if x.kind=6 then .ok (2,c) {s with steps:=s.steps+1}
 else match dw (m.expr d c.vars) x.args {s with steps:=s.steps+1}with
 | .stop a b s=> .stop a b s
 | .ok args s=>
  if x.kind=1 then .ok (0,{c with vars:=upd c.vars x.name (hd args)}) s
  else if x.kind=2 then
   if hd args<0\/((tK p s x.name).length:Int)<=hd args then .stop 3 0 s
   else .ok (0,c) {s with fB:=s.fB.set (yN p x.name) ((tK p s x.name).set (hd args).toNat (hd2 args))}
  else if x.kind=3 then eO (m.stmt d) (if hd args=0 then x.els else x.thn) c s
  else if x.kind=7 then .ok (3,{c with value:=hd args}) s
  else if x.kind=8 then .ok (0,c) {s with out:=s.out++ [hd args]}
  else if x.kind=9 then .stop 5 (hd args) s
  else .ok (0,c) s
def kz (m:j6) (d:Nat) (c:bM) (x:LS) (s:aV):b6 (Int×bM):=
 match m.expr d c.vars (x.args.getD 0 (.mk 0 0 0 [] [])) s with
 | .stop a b s=> .stop a b s
 | .ok n s=>if n=0 then .ok (0,c) s else match eO (m.stmt d) x.thn c s with
  | .stop a b s=> .stop a b s
  | .ok (how,c) s=>if how=1 then .ok (0,c) s else if how=3 then .ok (3,c) s else m.loop d c x s
def cz (p:LP) (most:Int):Nat->j6
 |0=>⟨λ_ _ _ s=> .stop 0 0 s,λ_ _ _ s=> .stop 0 0 s,λ_ _ _ s=> .stop 0 0 s⟩
 |k+1=>⟨iA p most (cz p most k),jG p most (cz p most k),kz (cz p most k)⟩
structure LR where
 status:Int
 code:Int
 out:List Int
 steps:Nat
def runM (p:LP) (fuel:Nat) (inp:List Int) (most:Int):LR:=
 match lM p (cz p most fuel).stmt 0 [109,97,105,110] [] ⟨inp,p.arrays.map λa=>List.replicate a.size.toNat 0,[],0⟩with
 | .stop a b s=>⟨a,b,s.out,s.steps⟩
 | .ok n s=>⟨1,n,s.out,s.steps⟩
end
section
open Go.RowKit Go.Shelf
attribute [local go_sem] Oper.semAt_some
theorem agA {α:Type} {B:Nat->Prop} {R:World->(Nat->Value)->α->Prop} (w:World) (v:Value) (l:List α) (hv:aP B 5 R w v l) (hR:∀W W' C x,Below W.heap.size W W'->R W C x->R W' C x) (iJ:Nat) (lg:Array Value) (t:α->Bool) (hp:qE sO R w iJ lg t l):
  CR 143 #[v, .func (.func iJ) #[] lg] w (I (ny t l)):=by
 obtain⟨a0,c0,rfl,hlen, -⟩:=id hv;have Pg:=hp.eg;have HV:=aF hv;have HP:=aF hp;have pX:=aF hR;clear hv hp hR;go_enter Tryz.func143,Tryz.ntmps143;go_wp2;go_loopg [8] l.length (λgh i wr=>∃k:Nat,gh+k=l.length/\i=I k/\Hid (Below w w wr/\∀j,(hj:j<l.length)->j<k->t l[j]=false))
 case atStart=>exact⟨0,rfl,rfl,aF ⟨Below.refl _ _,λj hj h=>absurd h aG⟩⟩
 case round=>
  obtain⟨k,hg,rfl,HH⟩:=hrel;obtain⟨wo,rfl⟩:=xq wr;have HB:=aF HH.out.1;by_cases hlt:k<l.length
  ·have bT:(k:Int)<(l.length:Int):=aG;obtain⟨b,o,C,rfl,_,hC,hrx⟩:=(HV.below HB (λC x h=>pX.out _ _ C x HB h)).at hlt;have e0:=hC 0 aG;have e1:=hC 1 aG;have e2:=hC 2 aG;have e3:=hC 3 aG;have e4:=hC 4 aG;simp only[aA]at e0 e1 e2 e3 e4;have hx:=HP.call l[k] (ak hlt) wo C HB hrx;have⟨tx,htx⟩:=xq (t l[k]);rw[<-htx]at hx;have HX:=aF hx;have HT:=aF htx;clear hx hC hrx htx;cases tx
   ·go_wp2;refine aN HX λw1 hb1=> ?_;have aI:=aU HB hb1;clear e0 e1 e2 e3 e4;go_wp2;go_roundg (l.length - (k+1))
    case measure=>omega
    case rel=>
     refine⟨k+1,aG,by go_num,aF ⟨aI,λj hj hjk=> ?_⟩⟩;by_cases wI:j=k
     ·subst wI;exact HT.out.symm
     ·exact HH.out.2 j hj aG
   ·go_wp2;refine aN HX λw1 hb1=> ?_;have aI:=aU HB hb1;clear e0 e1 e2 e3 e4;go_wp2;go_ret;exact⟨by rw[BX hlt (λj hj=>HH.out.2 j aG hj) HT.out.symm];rfl,aI⟩
  ·have bT: ¬(k:Int)<(l.length:Int):=aG;go_wp2;go_ret;exact⟨by rw[BU (λj hj=>HH.out.2 j hj aG)];rfl,HB⟩
theorem EN {α:Type} {B:Nat->Prop} {R:World->(Nat->Value)->α->Prop} (w:World) (v:Value) (l:List α) (hv:aP B 5 R w v l) (hR:∀W W' C x,Below W.heap.size W W'->R W C x->R W' C x) (iJ:Nat) (lg:Array Value) (t:α->Bool) (hp:qE sO R w iJ lg t l):
  CR 100 #[v, .func (.func iJ) #[] lg] w (.bool (l.any t)):=by
 have HI:=aF (agA w v l hv hR iJ lg t hp);have⟨q,hq⟩:=xq (ny t l);rw[<-hq]at HI;have hz:decide (0<=q)=l.any t:=by
  rw[Bool.eq_iff_iff,decide_eq_true_eq,hq,Jw,List.any_eq_true]
 have HZ:=aF hz;obtain⟨a0,c0,rfl, -⟩:=hv;clear hR hp hq hz;go_enter Tryz.func100,Tryz.ntmps100;go_wp2_with (go_at_call 143;refine aN HI λw1 aI=> ?_)
 go_ret;rw[<-HZ.out];exact⟨rfl,aI⟩
theorem agB {α:Type} {B:Nat->Prop} {R:World->(Nat->Value)->α->Prop} (w:World) (v:Value) (l:List α) (hv:aP B 5 R w v l) (hR:∀W W' C x,Below W.heap.size W W'->R W C x->R W' C x) (iJ:Nat) (lg:Array Value) (t:α->Bool) (hp:qE sO R w iJ lg t l):
  CR 178 #[v, .func (.func iJ) #[] lg] w (I (ny t l)):=by
 obtain⟨a0,c0,rfl,hlen, -⟩:=id hv;have Pg:=hp.eg;have HV:=aF hv;have HP:=aF hp;have pX:=aF hR;clear hv hp hR;go_enter Tryz.func178,Tryz.ntmps178;go_wp2;go_loopg [8] l.length (λgh i wr=>∃k:Nat,gh+k=l.length/\i=I k/\Hid (Below w w wr/\∀j,(hj:j<l.length)->j<k->t l[j]=false))
 case atStart=>exact⟨0,rfl,rfl,aF ⟨Below.refl _ _,λj hj h=>absurd h aG⟩⟩
 case round=>
  obtain⟨k,hg,rfl,HH⟩:=hrel;obtain⟨wo,rfl⟩:=xq wr;have HB:=aF HH.out.1;by_cases hlt:k<l.length
  ·have bT:(k:Int)<(l.length:Int):=aG;obtain⟨b,o,C,rfl,_,hC,hrx⟩:=(HV.below HB (λC x h=>pX.out _ _ C x HB h)).at hlt;have e0:=hC 0 aG;have e1:=hC 1 aG;have e2:=hC 2 aG;have e3:=hC 3 aG;have e4:=hC 4 aG;simp only[aA]at e0 e1 e2 e3 e4;have hx:=HP.call l[k] (ak hlt) wo C HB hrx;have⟨tx,htx⟩:=xq (t l[k]);rw[<-htx]at hx;have HX:=aF hx;have HT:=aF htx;clear hx hC hrx htx;cases tx
   ·go_wp2;refine aN HX λw1 hb1=> ?_;have aI:=aU HB hb1;clear e0 e1 e2 e3 e4;go_wp2;go_roundg (l.length - (k+1))
    case measure=>omega
    case rel=>
     refine⟨k+1,aG,by go_num,aF ⟨aI,λj hj hjk=> ?_⟩⟩;by_cases wI:j=k
     ·subst wI;exact HT.out.symm
     ·exact HH.out.2 j hj aG
   ·go_wp2;refine aN HX λw1 hb1=> ?_;have aI:=aU HB hb1;clear e0 e1 e2 e3 e4;go_wp2;go_ret;exact⟨by rw[BX hlt (λj hj=>HH.out.2 j aG hj) HT.out.symm];rfl,aI⟩
  ·have bT: ¬(k:Int)<(l.length:Int):=aG;go_wp2;go_ret;exact⟨by rw[BU (λj hj=>HH.out.2 j hj aG)];rfl,HB⟩
theorem ae9 {α:Type} {B:Nat->Prop} {R:World->(Nat->Value)->α->Prop} (w:World) (v:Value) (l:List α) (hv:aP B 5 R w v l) (hR:∀W W' C x,Below W.heap.size W W'->R W C x->R W' C x) (iJ:Nat) (lg:Array Value) (t:α->Bool) (hp:qE sO R w iJ lg t l):
  CR 118 #[v, .func (.func iJ) #[] lg] w (.bool (l.any t)):=by
 have HI:=aF (agB w v l hv hR iJ lg t hp);have⟨q,hq⟩:=xq (ny t l);rw[<-hq]at HI;have hz:decide (0<=q)=l.any t:=by
  rw[Bool.eq_iff_iff,decide_eq_true_eq,hq,Jw,List.any_eq_true]
 have HZ:=aF hz;obtain⟨a0,c0,rfl, -⟩:=hv;clear hR hp hq hz;go_enter Tryz.func118,Tryz.ntmps118;go_wp2_with (go_at_call 178;refine aN HI λw1 aI=> ?_)
 go_ret;rw[<-HZ.out];exact⟨rfl,aI⟩
def sM (j:Nat) (b:UInt8):Bool:=oM b.toNat||(decide (0<j)&&mO b.toNat)
theorem Hf (l:aK):isName l=true↔l≠ []/\l.length<=20/\isWord l=false/\∀(j:Nat) (b:UInt8),l[j]? =some b->sM j b=true:=by
 constructor
 ·intro h;obtain⟨h1,h2,h3,h4,h5⟩:=Xn h;refine⟨h1,h2,h3,λj b hb=> ?_⟩;have h6:=h5 j b hb;unfold sM;cases j with
  |zero=>rw[h4 b hb];rfl
  |succ j=>unfold mQ at h6;simpa using h6
 ·rintro⟨h1,h2,h3,h4⟩;unfold isName;simp only[Bool.and_eq_true,Bool.not_eq_true',decide_eq_true_eq,List.all_eq_true];refine⟨⟨⟨⟨by cases l with
   |nil=>exact absurd rfl h1
   |cons x r=>rfl,h2⟩,h3⟩, ?_⟩,λb hb=> ?_⟩
  ·cases l with
   |nil=>exact absurd rfl h1
   |cons x r=>
    have:=h4 0 x rfl;unfold sM at this;rw[<-G_]at this;simpa using this
  ·obtain⟨j,hj⟩:=List.getElem?_of_mem hb;have:=h4 j b hj;unfold sM at this;rw[<-G_,<-Nz]at this;simp only[Bool.or_eq_true,Bool.and_eq_true]at this|-;rcases this with h|⟨-,h⟩
   ·exact .inl h
   ·exact .inr h
theorem NQ {l:aK} {j:Nat} {b:UInt8} (hb:l[j]? =some b) (h:sM j b=false):isName l=false:=by
 cases hn:isName l with
 |false=>rfl
 |true=>
  have:=((Hf l).1 hn).2.2.2 j b hb;rw[h]at this;cases this
theorem E4 (l:aK) (ha:eH l) (w:World):CR 117 #[S l] w (.bool (isName l)):=by
 by_cases h1:l= []
 ·subst h1;exact agd w
 have hnil:(l== [])=false:=bu h1;have⟨r,hr⟩:=xq (isName l);rw[<-hr];have HR:=aF hr;by_cases h2:l.length<=20
 case neg=>
  have hlen:20<(l.length:Int):=aG;have hf:r=false:=by
   rw[hr];cases hn:isName l with
   |false=>rfl
   |true=>exact absurd ((Hf l).1 hn).2.1 h2
  subst hf;clear hr HR ha h1 h2;go_enter Tryz.func117,Tryz.ntmps117;go_wp2;go_ret;exact⟨rfl,Below.refl _ _⟩
 have hlen: ¬20<(l.length:Int):=aG;cases h3:isWord l
 case true=>
  have hf:r=false:=by
   rw[hr];cases hn:isName l with
   |false=>rfl
   |true=>have:=((Hf l).1 hn).2.2.1;rw[h3]at this;cases this
  subst hf;have H3:=aF h3;clear hr HR ha h1 h2 h3;go_enter Tryz.func117,Tryz.ntmps117;go_wp2_with (go_at_call 177;refine(JQ l w).mono ?_;rintro e w1⟨rfl,rfl⟩;rw[H3.out])
  go_ret;exact⟨rfl,Below.refl _ _⟩
 have HA:=aF ha;have H1:=aF h1;have H2:=aF h2;have H3:=aF h3;clear hr ha h1 h2 h3;go_enter Tryz.func117,Tryz.ntmps117;go_wp2_with (go_at_call 177;refine(JQ l w).mono ?_;rintro e w1⟨rfl,rfl⟩;rw[H3.out])
 go_loopg [3] l.length (λgh v wr=>∃pos,gh+pos=l.length/\wr=w.iter ⟨l.toArray⟩ pos/\Hid (∀(j:Nat) (b:UInt8),j<pos->l[j]? =some b->sM j b=true))
 case atStart=>exact⟨0,rfl,rfl,aF (λj b hj=>absurd hj aG)⟩
 case round=>
  obtain⟨pos,hg,rfl,HB⟩:=hrel;by_cases hlt:pos<l.length
  ·have hsz:pos<(⟨l.toArray⟩:ByteArray).size:=hlt;have⟨b,hb⟩:=xq (l[pos]);have hbl:b.toNat<128:=HA b (by rw[hb];exact ak hlt);have hbb:((⟨l.toArray⟩:ByteArray)[pos]'hsz)=b:=by rw[hb];rfl
   have hnx:∀ty,(Instr.next (.pointer (some (w,0))) true ty).run Tryz.prog (w.iter ⟨l.toArray⟩ pos)=_:=λty=>run_next_ascii w ⟨l.toArray⟩ pos ty hsz (by rw[hbb];exact hbl);rw[hbb]at hnx;have jz:l[pos]? =some b:=by rw[hb];exact ah hlt
   have gD:=aF hlt;have iL:=aF jz;have Kk:sM pos b=true->∀(j:Nat) (c:UInt8),j<pos+1->l[j]? =some c->sM j c=true:=λht j c hj hc=>by
    by_cases e:j=pos
    ·subst e;rw[iL.out]at hc;obtain rfl:=Option.some.inj hc;exact ht
    ·exact HB.out j c aG hc
   have qQ:=aF Kk;clear Kk;cases hlet:oM b.toNat
   ·have HL:=aF hlet;rcases Nat.eq_zero_or_pos pos with e|hpos
    ·subst e;have HT:=aF (show isName l=false from NQ jz (by unfold sM;rw[hlet];rfl));clear hb hbb jz hlet;go_wp2_with (go_at_call 170;refine(Dx _ _ aG aG).mono ?_;rintro e w1⟨rfl,rfl⟩;rw[HL.out])
     go_ret;rw[HR.out,HT.out];exact⟨rfl,cm _ _⟩
    ·have Ms:((pos:Int)==0)=false:=bD;cases hdig:mO b.toNat
     ·have HD:=aF hdig;have HT:=aF (show isName l=false from NQ jz (by unfold sM;rw[hlet,hdig];simp));clear hb hbb jz hlet hdig;go_wp2_with (first|(go_at_call 170;refine(Dx _ _ aG aG).mono ?_;rintro e w1⟨rfl,rfl⟩;rw[HL.out])|(go_at_call 172;refine(BZ _ _ aG aG).mono ?_;rintro e w1⟨rfl,rfl⟩;rw[HD.out]))
      go_ret;rw[HR.out,HT.out];exact⟨rfl,cm _ _⟩
     ·have HD:=aF hdig;have HT:=aF (show sM pos b=true by unfold sM;rw[hlet,hdig];simpa using hpos);clear hb hbb jz hlet hdig;go_wp2_with (first|(go_at_call 170;refine(Dx _ _ aG aG).mono ?_;rintro e w1⟨rfl,rfl⟩;rw[HL.out])|(go_at_call 172;refine(BZ _ _ aG aG).mono ?_;rintro e w1⟨rfl,rfl⟩;rw[HD.out]))
      go_roundg (l.length - (pos+1))
      case measure=>have:=gD.out;omega
      case rel=>exact⟨pos+1,by have:=gD.out;omega,rfl,aF (qQ.out HT)⟩
   ·have HL:=aF hlet;have HT:=aF (show sM pos b=true by unfold sM;rw[hlet];rfl);clear hb hbb jz hlet;go_wp2_with (go_at_call 170;refine(Dx _ _ aG aG).mono ?_;rintro e w1⟨rfl,rfl⟩;rw[HL.out])
    go_roundg (l.length - (pos+1))
    case measure=>have:=gD.out;omega
    case rel=>exact⟨pos+1,by have:=gD.out;omega,rfl,aF (qQ.out HT)⟩
  ·have hnx:∀ty,(Instr.next (.pointer (some (w,0))) true ty).run Tryz.prog (w.iter ⟨l.toArray⟩ pos)=_:=λty=>run_next_end w ⟨l.toArray⟩ pos ty hlt;have HT:=aF (show isName l=true from(Hf l).2 ⟨H1,H2,H3,λj b hb=>HB.out j b (iZ ((aj hb).1)) hb⟩);go_wp2;go_ret;rw[HR.out,HT.out];exact⟨rfl,cm _ _⟩
theorem ae6 (l:List aK):l.flatMap fR=l.map S:=by
 induction l with
 |nil=>rfl
 |cons x l ih=>simp [fR,ih]
theorem xI {B:Nat->Prop} {w:World} {ops:Array Oper} {rest:List Oper} {o:Oper} {a:Act} {Q:Exit->Act->World->Prop} (hgd:o.guard=none) (s x:Operand)
  (ho:o.op= .call {callee:= .builtin .append,args:= #[s,x],argTypes:= #[49,49]})
  (base:Nat) (v:Value) (l:List aK) (hs:a.eval s=v) (hown:a_ 1 9 fR w base v l)
  (xv:Value) (ys:List aK) (hx:a.eval x=xv) (hys:aP B 1 dc w xv ys)
  (hl:l.length+ys.length<=1000000000) (hbase:base<=w.heap.size)
  (h:∀v' w',a_ 1 9 fR w' base v' (l++ys)->w.grownBy w' v.ownBlock->wpList Tryz.prog ops Q rest (a.put o.dst v') w'):wpList Tryz.prog ops Q (o::rest) a w:=by
 obtain⟨xa,xc,rfl,hm,td⟩:=hys;rcases Nat.eq_zero_or_pos ys.length with h0|h0
 ·have hn:ys= []:=List.length_eq_zero_iff.1 h0;subst hn;refine JA wu hgd s x ho base v _ _ hs hown xa xc (by simpa using hx) ?_;exact h v w (by simpa using hown) ⟨rfl,rfl,rfl,ay _,λ_ _ _=>rfl⟩
 ·rcases td with rfl|⟨b,of,rfl, -,hc⟩
  ·exact absurd h0 aH
  refine JG wu hgd s x ho base v _ _ hs hown ⟨b,of,none⟩ ys.length xc (ys.map S) hx aH ?_ ?_ h0 aG (by unfold maxLen;omega) hbase ?_
  ·intro j u hu;rw[List.getElem?_map]at hu;cases hj:ys[j]? with
   |none=>rw[hj]at hu;cases hu
   |some y=>
    rw[hj]at hu;obtain⟨C,hC,hR⟩:=hc j y hj;have h1:=hC 0 aQ;rw[show C 0=S y from hR]at h1;rw[Hu];simp only[Nat.mul_one,aA]at h1;rw[h1];exact hu
  ·intro u hu;obtain⟨x,_,rfl⟩:=List.mem_map.1 hu;rfl
  ·intro g' cap w' h1 h2 h3 h4;refine h _ _ ?_ h2;show w'.ownsRow base 9 1 _ (l++ys).length ((l++ys).flatMap fR);rw[ax,List.flatMap_append,ae6 ys];exact h1
theorem afL {w:World} {ops:Array Oper} {rest:List Oper} {o:Oper} {a:Act} {Q:Exit->Act->World->Prop} (hgd:o.guard=none) (s x:Operand)
  (ho:o.op= .call {callee:= .builtin .append,args:= #[s,x],argTypes:= #[49,3]})
  (hs:a.eval s= .slice none 0 0) (n:Nat) (hx:a.eval x=I n) (h0:0<n) (hn:n<=1000000000)
  (h:∀cap w',a_ 1 9 fR w' w (.slice (some (w,0)) 0 cap) []->n<=cap->Below w w w'->wpList Tryz.prog ops Q rest (a.put o.dst (.slice (some (w,0)) n cap)) w'):wpList Tryz.prog ops Q (o::rest) a w:=by
 obtain⟨i,z,hi,hz,hsz,hby,hzs⟩:=wu.hi;have hrun:=Go.Lib.run_append_nil_zeros (P:=Tryz.prog) w 49 3 o.type 9 i z .i64 .i64 wu.ht Tryz.underlying3 hi hz n h0 aG aG (by rw[hby];omega);refine wpList_plain hgd λK hK=> ?_;unfold Oper.wp;simp only[execOp,ho,resolve,invoke,builtin];simp [hs,hx,hrun,Result.andThen];have hge:=grownCap_ge w n 0 9;refine hK _ _ (h _ _ ⟨aH, .inr ⟨w.heap.size,_,_,rfl,ay _,cj w.drew _,Nat.zero_le _,grownCap_le_maxLen _ _ _ _ (by unfold maxLen;omega), ?_,aH⟩⟩ hge ?_)
 ·simp [Builtin.zeroCells,hzs];omega
 ·exact⟨rfl,rfl,rfl,aH,λb hb=>Below.heap_alloc w.drew _ b hb⟩
theorem ahN (n:Nat) (hn:n<=1000000000) (w:World):Calls Tryz.prog 124 #[.slice none 0 0,I n] w λe w'=>∃v,e= .returned v/\a_ 1 9 fR w' w v []/\Below w w w':=by
 rcases Nat.eq_zero_or_pos n with rfl|h0
 ·refine(Zz w).mono ?_;rintro e w'⟨rfl,rfl⟩;exact⟨_,rfl,a_.nil,Below.refl _ _⟩
 ·have hz:(0:Int)<n:=aG;have hz2: ¬(n:Int)<0:=aG;go_enter Tryz.func124,Tryz.ntmps124;go_wp2_with (at_builtin;refine afL rfl _ _ rfl rfl n rfl h0 hn ?_;intro cap w1 mN hc1 hb1;have fk:=aF mN;have aI:=aF hb1;clear mN hb1)
  go_ret;exact⟨_,rfl,fk,aI⟩
theorem X6 (B:Nat->Prop) (pa la:Option Addr) (pc lc:Nat) (ps ls:List aK) (hn:ps.length+ls.length<=1000000000):NR B (.slice pa ps.length pc) (.slice la ls.length lc) ps ls:=by
 intro W g hr hp hl;have HR:=aF hr;have HP:=aF hp;have HL:=aF hl;have HN:=aF hn;have⟨P,hP⟩:=xq ps.length;have⟨L,hL⟩:=xq ls.length;rw[<-hP,<-hL]at HR HN hn;rw[<-hP]at HP;rw[<-hL]at HL;have hPz: ¬(P:Int)<0:=aG;have ap3: ¬(P:Int)+(L:Int)<0:=aG;have c0:=HR.k0;have c1:=HR.k1;have HPE:=aF hP;have HLE:=aF hL;clear hr hp hl hP hL;go_enter Tryz.func86,Tryz.ntmps86;go_upto_region 3 with(fail)
 go_loopg [3,11] 2 (λgh s i wr=>W=wr/\∃k:Nat,gh+k=2/\i=I k/\(k=0/\s=I 0\/k=1/\s=I P\/k=2/\s=I ((P:Int)+L)))
 case atStart=>exact⟨rfl,0,rfl,rfl, .inl ⟨rfl,rfl⟩⟩
 case round=>
  obtain⟨rfl,k,hg,rfl,⟨rfl,rfl⟩|⟨rfl,rfl⟩|⟨rfl,rfl⟩⟩:=hrel
  ·go_wp2;go_roundg 1
   case measure=>omega
   case rel=>exact⟨rfl,1,rfl,rfl, .inr (.inl ⟨rfl,by go_num⟩)⟩
  ·go_wp2;go_roundg 0
   case measure=>omega
   case rel=>exact⟨rfl,2,rfl,rfl, .inr (.inr ⟨rfl,by go_num⟩)⟩
  ·go_upto_region 11 with(go_at_call 124;(have hpl:(P:Int)+(L:Int)=((P+L:Nat):Int):=aG;rw[hpl];refine(ahN (P+L) aG _).mono ?_;rintro e w1⟨v1,rfl,mN,hb1⟩;have fk:=aF mN;have aI:=aF hb1;clear mN hb1 hpl))
   clear c0 c1;go_loopg [6,27] 2 (λgh s i wr=>∃k:Nat,gh+k=2/\i=I k/\∃l:List aK,(k=0/\l= []\/k=1/\l=ps\/k=2/\l=ps++ls)/\Hid (a_ 1 9 fR wr W s l/\Below W W wr))
   case atStart=>exact⟨0,rfl,rfl,[], .inl ⟨rfl,rfl⟩,aF ⟨fk,aI⟩⟩
   case round=>
    obtain⟨k,hg2,rfl,l,td,HH⟩:=hrel;obtain⟨wo,rfl⟩:=xq wr;have c0:=(HR.ext HH.out.2).k0;have c1:=(HR.ext HH.out.2).k1;rcases td with⟨rfl,rfl⟩|⟨rfl,rfl⟩|⟨rfl,rfl⟩
    ·go_wp2_with (at_builtin;refine xI rfl _ _ rfl W.heap.size _ _ rfl HH.out.1 _ ps rfl (aP.below HH.out.2 i20 HP.out) (by have:=HN.out;rw[HPE.out]at this;simp;omega) HH.out.2.size ?_;intro v' w2 jh hg3;have kX:=aF jh;have aM:=aF (HH.out.2.grown hg3 HH.out.2.size (λr e=>(cO HH.out.1 r e).1));clear jh hg3)
     go_roundg 1
     case measure=>omega
     case rel=>exact⟨1,rfl,rfl,ps, .inr (.inl ⟨rfl,rfl⟩),aF ⟨by simpa using kX.out,aM.out⟩⟩
    ·go_wp2_with (at_builtin;refine xI rfl _ _ rfl W.heap.size _ _ rfl HH.out.1 _ ls rfl (aP.below HH.out.2 i20 HL.out) (by have:=HN.out;rw[HPE.out,HLE.out]at this;omega) HH.out.2.size ?_;intro v' w2 jh hg3;have kX:=aF jh;have aM:=aF (HH.out.2.grown hg3 HH.out.2.size (λr e=>(cO HH.out.1 r e).1));clear jh hg3)
     go_roundg 0
     case measure=>omega
     case rel=>exact⟨2,rfl,rfl,_, .inr (.inr ⟨rfl,rfl⟩),aF ⟨kX,aM⟩⟩
    ·go_wp2;go_ret;exact⟨_,rfl,HH.out.1,HH.out.2⟩
theorem EY (b:Bool) (w:World):Calls Tryz.prog 107 #[.bool b] w λe w'=>e= .returned (I (oQ b))/\w'=w:=by
 cases b
 all_goals
  go_enter Tryz.func107,Tryz.ntmps107;go_wp2;go_ret;exact⟨rfl,rfl⟩
theorem ah' (a:Int):wrap64 (a.tdiv (-1))=wrap64 (-a):=by rw[Int.tdiv_neg,Int.tdiv_one]
theorem aia (a:Int):a.tmod (-1)=0:=by rw[Int.tmod_neg,Int.tmod_one]
theorem af9 (a b:Int) (w:World):Calls Tryz.prog 108 #[I a,I b] w λe w'=>e= .returned (I (CF a b))/\w'=w:=by
 unfold CF;by_cases h0:b=0
 ·subst h0;rw[if_pos rfl];go_enter Tryz.func108,Tryz.ntmps108;go_wp2;go_ret;exact⟨rfl,rfl⟩
 rw[if_neg h0];by_cases h1:b= -1
 ·subst h1;rw[ah'];clear h0;go_enter Tryz.func108,Tryz.ntmps108;go_wp2;go_ret;exact⟨rfl,rfl⟩
 ·have b0:(b==0)=false:=bu h0;have b1:(b== -1)=false:=bu h1;go_enter Tryz.func108,Tryz.ntmps108;go_wp2;go_ret;exact⟨rfl,rfl⟩
theorem af_ (a b:Int) (w:World):Calls Tryz.prog 109 #[I a,I b] w λe w'=>e= .returned (I (CG a b))/\w'=w:=by
 unfold CG;by_cases h0:b=0
 ·subst h0;rw[if_pos rfl];go_enter Tryz.func109,Tryz.ntmps109;go_wp2;go_ret;exact⟨rfl,rfl⟩
 rw[if_neg h0];by_cases h1:b= -1
 ·subst h1;rw[aia];clear h0;go_enter Tryz.func109,Tryz.ntmps109;go_wp2;go_ret;exact⟨rfl,rfl⟩
 ·have b0:(b==0)=false:=bu h0;have b1:(b== -1)=false:=bu h1;go_enter Tryz.func109,Tryz.ntmps109;go_wp2;go_ret;exact⟨rfl,rfl⟩
theorem YD (op a:Int) (w:World):Calls Tryz.prog 66 #[I op,I a] w λe w'=>e= .returned (pW (qp op a))/\w'=w:=by
 rcases(by omega:op=17\/op=18\/op=19\/(op<17\/19<op))with rfl|rfl|rfl|hk
 ·go_enter Tryz.func66,Tryz.ntmps66;go_wp2;go_ret2;exact⟨rfl,rfl⟩
 ·have HB:=aF (λW=>EY (a==0) W);go_enter Tryz.func66,Tryz.ntmps66;go_wp2_with (go_at_call 107;refine(HB _).mono ?_;rintro e w1⟨rfl,rfl⟩)
  go_ret2;exact⟨rfl,rfl⟩
 ·go_enter Tryz.func66,Tryz.ntmps66;go_wp2;go_ret2;exact⟨rfl,rfl⟩
 ·have h:qp op a=none:=by unfold qp;rw[if_pos hk]
  rw[h];have k1:(op==17)=false:=bD;have k2:(op==18)=false:=bD;have k3:(op==19)=false:=bD;clear hk h;go_enter Tryz.func66,Tryz.ntmps66;go_wp2;go_ret2;exact⟨rfl,rfl⟩
theorem YE (op a b:Int) (w:World):Calls Tryz.prog 67 #[I op,I a,I b] w λe w'=>e= .returned (pW (fC op a b))/\w'=w:=by
 rcases(by omega:op=1\/op=2\/op=3\/op=4\/op=5\/op=6\/op=7\/op=8\/op=9\/op=10\/op=11\/op=12\/op=13\/op=14\/op=15\/op=16\/(op<1\/16<op))with rfl|rfl|rfl|rfl|rfl|rfl|rfl|rfl|rfl|rfl|rfl|rfl|rfl|rfl|rfl|rfl|hk
 ·have hr:fC 1 a b=some (wrap64 (a+b)):=by unfold fC;rw[if_neg aQ,if_neg (λh=>absurd h.2 aQ)];rfl
  rw[hr];clear hr;go_enter Tryz.func67,Tryz.ntmps67;go_wp2;go_ret2;exact⟨rfl,rfl⟩
 ·have hr:fC 2 a b=some (wrap64 (a - b)):=by unfold fC;rw[if_neg aQ,if_neg (λh=>absurd h.2 aQ)];rfl
  rw[hr];clear hr;go_enter Tryz.func67,Tryz.ntmps67;go_wp2;go_ret2;exact⟨rfl,rfl⟩
 ·have hr:fC 3 a b=some (wrap64 (a*b)):=by unfold fC;rw[if_neg aQ,if_neg (λh=>absurd h.2 aQ)];rfl
  rw[hr];clear hr;go_enter Tryz.func67,Tryz.ntmps67;go_wp2;go_ret2;exact⟨rfl,rfl⟩
 ·by_cases h0:b=0
  ·subst h0;go_enter Tryz.func67,Tryz.ntmps67;go_wp2;go_ret2;exact⟨rfl,rfl⟩
  ·have b0:(b==0)=false:=bu h0;have hr:fC 4 a b=some (CF a b):=by unfold fC;rw[if_neg aQ,if_neg (λh=>h0 h.1)];rfl
   rw[hr];clear hr h0;have HC:=aF (λW=>af9 a b W);go_enter Tryz.func67,Tryz.ntmps67;go_wp2_with (go_at_call 108;refine(HC _).mono ?_;rintro e w1⟨rfl,rfl⟩)
   go_ret2;exact⟨rfl,rfl⟩
 ·by_cases h0:b=0
  ·subst h0;go_enter Tryz.func67,Tryz.ntmps67;go_wp2;go_ret2;exact⟨rfl,rfl⟩
  ·have b0:(b==0)=false:=bu h0;have hr:fC 5 a b=some (CG a b):=by unfold fC;rw[if_neg aQ,if_neg (λh=>h0 h.1)];rfl
   rw[hr];clear hr h0;have HC:=aF (λW=>af_ a b W);go_enter Tryz.func67,Tryz.ntmps67;go_wp2_with (go_at_call 109;refine(HC _).mono ?_;rintro e w1⟨rfl,rfl⟩)
   go_ret2;exact⟨rfl,rfl⟩
 ·have hr:fC 6 a b=some (bits .and .i64 a b):=by unfold fC;rw[if_neg aQ,if_neg (λh=>absurd h.2 aQ)];rfl
  rw[hr];clear hr;go_enter Tryz.func67,Tryz.ntmps67;go_wp2;go_ret2;exact⟨rfl,rfl⟩
 ·have hr:fC 7 a b=some (bits .or .i64 a b):=by unfold fC;rw[if_neg aQ,if_neg (λh=>absurd h.2 aQ)];rfl
  rw[hr];clear hr;go_enter Tryz.func67,Tryz.ntmps67;go_wp2;go_ret2;exact⟨rfl,rfl⟩
 ·have hr:fC 8 a b=some (bits .xor .i64 a b):=by unfold fC;rw[if_neg aQ,if_neg (λh=>absurd h.2 aQ)];rfl
  rw[hr];clear hr;go_enter Tryz.func67,Tryz.ntmps67;go_wp2;go_ret2;exact⟨rfl,rfl⟩
 ·have hr:fC 9 a b=some (wrap64 (a*2^CH b)):=by unfold fC;rw[if_neg aQ,if_neg (λh=>absurd h.2 aQ)];rfl
  rw[hr];clear hr;have hs:=Zn a b;go_enter Tryz.func67,Tryz.ntmps67;go_wp2;go_ret2;exact⟨rfl,rfl⟩
 ·have hr:fC 10 a b=some (a/2^CH b):=by unfold fC;rw[if_neg aQ,if_neg (λh=>absurd h.2 aQ)];rfl
  rw[hr];clear hr;have hs:=Zo a b;go_enter Tryz.func67,Tryz.ntmps67;go_wp2;go_ret2;exact⟨rfl,rfl⟩
 ·have HB:=aF (λW=>EY (decide (a<b)) W);have hr:fC 11 a b=some (oQ (decide (a<b))):=by unfold fC;rw[if_neg aQ,if_neg (λh=>absurd h.2 aQ)];rfl
  rw[hr];clear hr;go_enter Tryz.func67,Tryz.ntmps67;go_wp2_with (go_at_call 107;refine(HB _).mono ?_;rintro e w1⟨rfl,rfl⟩)
  go_ret2;exact⟨rfl,rfl⟩
 ·have HB:=aF (λW=>EY (decide (a<=b)) W);have hr:fC 12 a b=some (oQ (decide (a<=b))):=by unfold fC;rw[if_neg aQ,if_neg (λh=>absurd h.2 aQ)];rfl
  rw[hr];clear hr;go_enter Tryz.func67,Tryz.ntmps67;go_wp2_with (go_at_call 107;refine(HB _).mono ?_;rintro e w1⟨rfl,rfl⟩)
  go_ret2;exact⟨rfl,rfl⟩
 ·have HB:=aF (λW=>EY (decide (b<a)) W);have hr:fC 13 a b=some (oQ (decide (b<a))):=by unfold fC;rw[if_neg aQ,if_neg (λh=>absurd h.2 aQ)];rfl
  rw[hr];clear hr;go_enter Tryz.func67,Tryz.ntmps67;go_wp2_with (go_at_call 107;refine(HB _).mono ?_;rintro e w1⟨rfl,rfl⟩)
  go_ret2;exact⟨rfl,rfl⟩
 ·have HB:=aF (λW=>EY (decide (b<=a)) W);have hr:fC 14 a b=some (oQ (decide (b<=a))):=by unfold fC;rw[if_neg aQ,if_neg (λh=>absurd h.2 aQ)];rfl
  rw[hr];clear hr;go_enter Tryz.func67,Tryz.ntmps67;go_wp2_with (go_at_call 107;refine(HB _).mono ?_;rintro e w1⟨rfl,rfl⟩)
  go_ret2;exact⟨rfl,rfl⟩
 ·have HB:=aF (λW=>EY ((a==b)) W);have hr:fC 15 a b=some (oQ ((a==b))):=by unfold fC;rw[if_neg aQ,if_neg (λh=>absurd h.2 aQ)];rfl
  rw[hr];clear hr;go_enter Tryz.func67,Tryz.ntmps67;go_wp2_with (go_at_call 107;refine(HB _).mono ?_;rintro e w1⟨rfl,rfl⟩)
  go_ret2;exact⟨rfl,rfl⟩
 ·have HB:=aF (λW=>EY ((a !=b)) W);have hr:fC 16 a b=some (oQ ((a !=b))):=by unfold fC;rw[if_neg aQ,if_neg (λh=>absurd h.2 aQ)];rfl
  rw[hr];clear hr;go_enter Tryz.func67,Tryz.ntmps67;go_wp2_with (go_at_call 107;refine(HB _).mono ?_;rintro e w1⟨rfl,rfl⟩)
  go_ret2;exact⟨rfl,rfl⟩
 ·have h:fC op a b=none:=by unfold fC;rw[if_pos hk]
  rw[h];have k1:(op==1)=false:=bD;have k2:(op==2)=false:=bD;have k3:(op==3)=false:=bD;have k4:(op==4)=false:=bD;have k5:(op==5)=false:=bD;have k6:(op==6)=false:=bD;have k7:(op==7)=false:=bD;have k8:(op==8)=false:=bD;have k9:(op==9)=false:=bD;have k10:(op==10)=false:=bD;have k11:(op==11)=false:=bD;have k12:(op==12)=false:=bD;have k13:(op==13)=false:=bD;have k14:(op==14)=false:=bD;have k15:(op==15)=false:=bD;have k16:(op==16)=false:=bD;clear hk h;go_enter Tryz.func67,Tryz.ntmps67;go_wp2;go_ret2;exact⟨rfl,rfl⟩
end
end Go.Proofs.YtjgbkdbkachciaaGreatDoor
