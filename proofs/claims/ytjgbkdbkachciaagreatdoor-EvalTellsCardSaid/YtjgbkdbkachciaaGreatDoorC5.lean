import Derived.Test.YtjgbkdbkachciaaGreatDoorD9
set_option linter.all false
namespace Go.Proofs.YtjgbkdbkachciaaGreatDoor
set_option maxRecDepth 100000
set_option maxHeartbeats 16000000
section
open Go.RowKit Go.Shelf
attribute [local go_sem] Oper.semAt_some
theorem bZ.put {w:World} {g n cap:Nat} {l:List Int} (h:bZ w 0 (.slice (some (g,0)) n cap) l) (i:Nat) (y:Int):bZ (w.setCell (g,i) (I y)) 0 (.slice (some (g,0)) n cap) (l.set i y):=by
 rcases h.2 with⟨h,_⟩|⟨g',cap',cur,e,h1,h2,h3,h4,h5,h6⟩
 ·cases h
 ·simp only[Value.slice.injEq,Option.some.injEq,Addr.mk.injEq,and_true]at e;obtain⟨rfl,e2,rfl⟩:=e;have hr:Row w g 3 cur.toList:=by
   show w.heap[g]? =some (.cells cur.toList.toArray 3 (0,0));rw[Array.toArray_toList];exact h2
  refine⟨aH, .inr ⟨g,cap,(cur.toList.set i (I y)).toArray,by rw[e2,List.length_set],h1,hr.set i (I y),by rw[List.length_set];exact h3,h4,by simpa using h5, ?_⟩⟩;rw[List.length_set,List.map_set];show List.take (l.length*1) (cur.toList.set i (I y))=_;rw[List.take_set,h6]
section
variable {c:cH} {F:Nat->Prop} {W:World} {d:Nat} {how:Int} {k:bM} {s:aV} {st cd:Int} {sp:Bool} {fb vb:Nat} {nv vv:Value} {ns:List aK}
theorem ig.RL (h:ig c F W d how k s st cd sp fb vb nv vv ns) (v:Int):ig c F (W.setCell (fb,2) (I v)) d v k s st cd sp fb vb nv vv ns/\KF (mF F fb vb) W (W.setCell (fb,2) (I v)):=by
 have hg:=bO W fb 2 (I v);have hk:KF (mF F fb vb) W (W.setCell (fb,2) (I v)):=KF.grown hg (λb hb=>h.er.b.lt b hb.1) (λr e hm=>by cases e;exact hm.2.1 rfl);exact⟨⟨h.er.wrote hg h.fF h.fG,h.fF,h.vF,h.fG,h.vG,h.row.set 2 (I v),h.names.on (λb hb=>hk.block b hb) i20,h.vars.kept hg (λr e e'=>by cases e;exact(h.own fb e').2 rfl),h.own,h.nd⟩,hk⟩
theorem ig.val (h:ig c F W d how k s st cd sp fb vb nv vv ns) (v:Int):ig c F (W.setCell (fb,3) (I v)) d how {k with value:=v} s st cd sp fb vb nv vv ns/\KF (mF F fb vb) W (W.setCell (fb,3) (I v)):=by
 have hg:=bO W fb 3 (I v);have hk:KF (mF F fb vb) W (W.setCell (fb,3) (I v)):=KF.grown hg (λb hb=>h.er.b.lt b hb.1) (λr e hm=>by cases e;exact hm.2.1 rfl);exact⟨⟨h.er.wrote hg h.fF h.fG,h.fF,h.vF,h.fG,h.vG,h.row.set 3 (I v),h.names.on (λb hb=>hk.block b hb) i20,h.vars.kept hg (λr e e'=>by cases e;exact(h.own fb e').2 rfl),h.own,h.nd⟩,hk⟩
theorem ig.al7 {g n cap:Nat} (h:ig c F W d how k s st cd sp fb vb nv (.slice (some (g,0)) n cap) ns) {x:aK} (hx:x∈ns) (v:Int):ig c F (W.setCell (g,ns.idxOf x) (I v)) d how {k with vars:=upd k.vars x v} s st cd sp fb vb nv (.slice (some (g,0)) n cap) ns/\KF (mF F fb vb) W (W.setCell (g,ns.idxOf x) (I v)):=by
 obtain⟨GY,Qy⟩:=h.own g rfl;have hg:=bO W g (ns.idxOf x) (I v);have hk:KF (mF F fb vb) W (W.setCell (g,ns.idxOf x) (I v)):=KF.grown hg (λb hb=>h.er.b.lt b hb.1) (λr e hm=>by cases e;exact hm.2.2 GY);have hp:=bZ.put h.vars (ns.idxOf x) v;rw[ahV k.vars v h.nd hx]at hp;exact⟨⟨h.er.wrote hg (GY▸h.vF) (GY▸h.vG),h.fF,h.vF,h.fG,h.vG,h.row.kept hg ct,h.names.on (λb hb=>hk.block b hb) i20,hp,h.own,h.nd⟩,hk⟩
end
theorem agy (c:cH) (R:Nat) (m:j6) (hE:Ib c R m.expr) (hB:J7 c R m.stmt) (hL:aaa c R m.loop) (hu:m.Up):Sa c (R+1) (jG c.p c.most m):=by
 intro F W d s k fb vb nv vv vs x av tv ev h cX gu hev hy hR
 suffices kN:Calls Tryz.prog 98 #[.pointer (some (c.rb,0)), .pointer (some (fb,0)),sV x av tv ev] W (λen w'=>Hid (RunT c F fb vb nv vv vs W d (jG c.p c.most m d k x s) en w'))from kN.mono λ_ _ h=>h.out
 have⟨Q,hQ⟩:=xq (RunT c F fb vb nv vv vs W d (jG c.p c.most m d k x s));have HQ:=aF hQ;rw[<-hQ];obtain⟨a0,c0,rfl⟩:=cX.slice;obtain⟨t0,tc,rfl⟩:=gu.slice;obtain⟨e0,ec,rfl⟩:=hev.slice;have⟨sk,hsk⟩:=xq x.kind;have⟨nm,cJ⟩:=xq x.name;obtain⟨al,hal⟩:∃n,n=(LE.mk 0 0 0 [] x.args).args.length:=⟨_,rfl⟩;have⟨tl,htl⟩:=xq x.thn.length;have⟨el,hel⟩:=xq x.els.length;have⟨rb,cy⟩:=xq c.rb;have MJ:=aF (λ(F:Nat->Prop) (W:World) (d:Nat) (s:aV) (k:bM) (fb vb:Nat) (nv vv:Value) (ns:List aK) av tv ev=>hL F W d s k fb vb nv vv ns x av tv ev);rw[sV,<-hsk,<-cJ,<-hal,<-htl,<-hel,<-cy];rw[<-hal]at cX;rw[<-htl]at gu;rw[<-hel]at hev;have gm:=aF hsk;have cv:=aF cJ;have jM:=aF hal;have HTL:=aF htl;have Mw:=aF hel;have bF:=aF cy;have sF:=aF cX;have AJ:=aF gu;have MK:=aF hev;have HY:=aF hy;have IK:=aF hy.A8;have HR:=aF hR;have HH:=aF h;have HB:=aF hB;have HE:=aF hE;have HU:=aF hu;have⟨w1,hw1⟩:=xq (W.alloc (.cells #[I sk,S nm, .slice a0 al c0, .slice t0 tl tc, .slice e0 el ec] 54));have dO:=hw1.symm;have hx1:=dZ hw1;have hg1:=jy hw1;have hs1:QR c (λb=>F b\/b=W.heap.size) w1 d s 0 0 false:=h.er.add hg1 aJ (λb hb=>⟨aG,by rw[hb];exact hx1.lt⟩);have hk1:KF F W w1:=h.er.kf hg1 aJ;have jd:fb<W.heap.size:=h.er.b.lt fb h.fF;have hvb:vb<W.heap.size:=h.er.b.lt vb h.vF;have kF:=aF hx1;have fI:=aF hs1;have pI:=aF hk1;clear h hQ hsk cJ hal htl hel cy cX gu hev hy hR hB hE hL hu hw1 hx1 hg1 hs1 hk1;by_cases hst:c.most<=(s.steps:Int)
 ·have kU:=aF (Yj c _ w1 d s fI hst);rw[<-bF.out]at kU;have HST:=aF hst;clear hst;go_enter Tryz.func98,Tryz.ntmps98;go_wp2_with (go_at_call 139;refine kU.mono ?_;rintro e' w2⟨rfl,iW,hk2⟩;have lS:=aF iW;have jr:=aF hk2;clear iW hk2)
  go_end0;rw[HQ.out];have hk2:KF F W w2:=pI.out.trans (jr.mono λb hb=> .inl hb);exact aF (RunT.stop (by unfold jG;rw[if_pos HST.out]) rfl (hk2.mF fb vb) (HH.on hk2 (lS.less (λb hb=> .inl hb) HH.er.b.gf)))
 ·have kU:=aF (XI c _ w1 d s fI hst);rw[<-bF.out]at kU;have htl:=Hh hst;have gD:=aF htl;have jc:=aF (JT c.p c.most m d k x s hst);clear hst htl;go_enter Tryz.func98,Tryz.ntmps98;go_upto_region 3 with(go_at_call 139;refine kU.mono ?_;rintro e' w2⟨rfl,iW,hk2⟩;have lS:=aF iW;have jr:=aF hk2;clear iW hk2)
  have hx2:=jr.row kF (.inr rfl);have c20:=hx2.k0;have c21:=hx2.k1;have PY:=hx2.k2;have PZ:=hx2.k3;have P4:=hx2.k4;have hk2:KF F W w2:=pI.out.trans (jr.mono λb hb=> .inl hb);have Im:ig c F w2 d 0 k (tick s) 0 0 false fb vb nv vv vs:=HH.on hk2 (lS.less (λb hb=> .inl hb) HH.er.b.gf);have hcs:ig c (λb=>F b\/b=W.heap.size) w2 d 0 k (tick s) 0 0 false fb vb nv vv vs:=Im.more (λb hb=> .inl hb) lS;have hkg:∀b,c.G b->w2.heap[b]? =W.heap[b]? :=λb hb=>hk2.block b (HH.er.b.gf b hb);have aY:=aF hx2;have qq:=aF hk2;have BF:=aF hcs;have D6:=aF Im;have Dg:=aF hkg;clear hx2 hk2 hcs Im hkg;by_cases h4:sk=4
  ·as_aux_lemma=>
    subst h4;have hlc:=MJ _ w2 d (tick s) k fb vb nv vv vs _ _ _ D6 (sF.on Dg) (AJ.on Dg) (MK.on Dg) HY gm.out.symm (by have:=HR.out;have:=gD.out;omega);rw[sV,<-gm.out,<-cv.out,<-bF.out]at hlc;have heq:jG c.p c.most m d k x s=m.loop d k x (tick s):=by rw[jc.out,if_pos gm.out.symm]
    have⟨r,hr⟩:=xq (m.loop d k x (tick s));rw[<-hr]at hlc heq;have mW:=aF hlc;have zl:=aF heq;clear hlc heq hr;cases r with
    |stop a b s2=>
     go_wp2_with (go_at_call 140;refine mW.mono ?_;rintro e' w4⟨hk4,rfl,Us,k4,cV⟩;have bR:=aF hk4;have dR:=aF cV;clear hk4 cV)
     go_end0;rw[HQ.out];exact aF (RunT.stop zl rfl ((qq.mF fb vb).trans bR.out) dR)
    |ok q s2=>
     go_wp2_with (go_at_call 140;refine mW.mono ?_;rintro e' w4⟨hk4,rfl,cV⟩;have bR:=aF hk4;have dR:=aF cV;clear hk4 cV)
     go_end0;rw[HQ.out];exact aF (RunT.ok zl ((qq.mF fb vb).trans bR.out) dR)
  have UC:=D6.row;have fr2:=UC.k2;have ff2:=UC.frozen 2;clear UC;by_cases h5:sk=5
  ·as_aux_lemma=>
    subst h5;have Nn:=aF (D6.RL 1);go_wp2;go_end0;rw[HQ.out];exact aF (RunT.ok (q:=(1,k)) (by rw[jc.out,if_neg (cw gm),if_pos gm.out.symm]) ((qq.mF fb vb).trans Nn.2) Nn.1)
  by_cases h6:sk=6
  ·as_aux_lemma=>
    subst h6;have Nn:=aF (D6.RL 2);go_wp2;go_end0;rw[HQ.out];exact aF (RunT.ok (q:=(2,k)) (by rw[jc.out,if_neg (cw gm),if_neg (cw gm),if_pos gm.out.symm]) ((qq.mF fb vb).trans Nn.2) Nn.1)
  clear fr2 ff2;have pH:=sF.on Dg;obtain⟨dd,pH⟩:=pH;have hc2:=XH c R m.expr HE (λ_ _ _ _ _ _ h=>HU.expr h) _ w2 d (tick s) k fb vb nv vv vs x.args _ BF (⟨dd,pH⟩:AX c.G w2 (.slice a0 al c0) x.args) HY.args (by have:=HR.out;have:=gD.out;omega);rw[<-bF.out]at hc2;have heq:jG c.p c.most m d k x s=(dw (m.expr d k.vars) x.args (tick s)).bind (xO c.p m d k x):=by
   rw[jc.out,if_neg (by rw[<-gm.out];exact h4),if_neg (by rw[<-gm.out];exact h5),if_neg (by rw[<-gm.out];exact h6)]
  have⟨r,hr⟩:=xq (dw (m.expr d k.vars) x.args (tick s));rw[<-hr]at hc2 heq;have eY:=aF hc2;have zl:=aF heq;have fP:=aF hr;clear pH heq hr hc2;have h4b:(sk==4)=false:=bu h4;have h5b:(sk==5)=false:=bu h5;have h6b:(sk==6)=false:=bu h6;cases r with
  |stop a b s2=>
   as_aux_lemma=>
    go_upto_region 11 with(go_at_call 141;refine eY.mono ?_;rintro e' w3⟨hk3,ov,rfl,⟨xa,xn,xc,rfl⟩,iM⟩;have gy:=aF hk3;have iz:=aF iM;clear hk3 iM)
    have hov:=xK c _ w3 d s2 _ _ _ iz;rw[Hl,<-bF.out]at hov;have js:=aF hov;clear hov c20 c21 PY PZ P4;go_wp2_with (go_at_call 99;refine fX js ?_)
    go_end0;rw[HQ.out];have hk3:KF F W w3:=qq.out.trans (gy.mono λb hb=> .inl hb);exact aF (RunT.stop zl rfl (hk3.mF fb vb) (HH.on hk3 (iz.less (λb hb=> .inl hb) HH.er.b.gf)))
  |ok ns s2=>
   go_upto_region 11 with(go_at_call 141;refine eY.mono ?_;rintro e' w3⟨hk3,ov,rfl,jY,iM⟩;have gy:=aF hk3;have iz:=aF iM;have eU:=aF jY;clear hk3 iM jY)
   have hov:=xK c _ w3 d s2 _ _ _ iz;rw[<-bF.out]at hov;have js:=aF hov;clear hov c20 c21 PY PZ P4 h4b h5b h6b;have hx3:=gy.row aY (.inr rfl);have hk3:KF F W w3:=qq.out.trans (gy.mono λb hb=> .inl hb);have hnl:=vZ (λh=>HU.expr h) _ _ _ _ fP.out.symm;have tM:ig c F w3 d 0 k s2 0 0 false fb vb nv vv vs:=HH.on hk3 (iz.less (λb hb=> .inl (.inl hb)) HH.er.b.gf);have gL:=aF hnl;have bq:=aF hx3;have gj:=aF hk3;have bk:=aF tM;have d0:=hx3.k0;have d1:=hx3.k1;have d3:=hx3.k3;have d4:=hx3.k4;clear hx3 hk3 hnl tM;have hT:jG c.p c.most m d k x s=xO c.p m d k x ns s2:=zl.out;unfold xO at hT;rw[<-gm.out,<-cv.out]at hT;have HT:=aF hT;clear hT;go_upto_region 12 with(go_at_call 99;refine fX js ?_)
   by_cases h1:sk=1
   ·as_aux_lemma=>
     subst h1;obtain⟨n0,rfl⟩:=List.length_eq_one_iff.1 (gL.2.trans (IK.1 (cw gm)));obtain⟨g,cap,rfl,hc0⟩:=eU.cell (i:=0) (x:=n0) rfl;simp only[aq,au,Nat.zero_add]at*;have cU:=aF hc0;have hmem:nm∈vs:=by
      obtain⟨dr,hr⟩:=HY.out;have:=hr.set gm.out.symm;rwa[<-cv.out]at this
     have⟨ix,BM⟩:=xq (vs.idxOf nm);have AY:=Y6 k.vars hmem;rw[<-BM]at AY;obtain⟨gv,cap,rfl,hc1⟩:=bk.vars.cell AY;obtain⟨VN,qa⟩:∃n,n=(vs.map k.vars).length:=⟨_,rfl⟩;rw[<-qa]at bk HQ;have T7:ix<VN:=by rw[qa,BM,aC];exact Cb hmem
     have aly: ¬(ix:Int)<0:=aG;have alz:(ix:Int)<(VN:Int):=aG;have nW:=aF hc1;have M9:=aF (λ(X:World) (hX:w3.grownBy X none)=>XJ X fb nv vs nm ((bk.row.kept hX aH).cell 0) (bk.names.on (λb hb=>hX.block b (bk.er.b.lt b hb.1) aH) i20) hmem);rw[<-BM]at M9;have sQ:=aF hmem;have HIX:=aF BM;have Gx:=aF qa;have fe:=aF (HT.out.trans (if_pos trivial));obtain⟨g3,LX,t3,hfz⟩:∃(x:Nat) (cur:List Value) (t:TypeId),Row w3 x t cur/\x=gv:=by
      rcases bk.vars.2 with⟨h,_⟩|⟨g',cap',cur,e,q1,q2, -⟩
      ·cases h
      ·simp only[Value.slice.injEq,Option.some.injEq,Addr.mk.injEq,and_true]at e;exact⟨g',cur.toList,3,by(show w3.heap[g']? =some (.cells cur.toList.toArray 3 (0,0));rw[Array.toArray_toList];exact q2),e.1.symm⟩
     obtain⟨hfz,rfl⟩:=hfz;have HFZ:=aF hfz;clear hc0 hc1 hmem BM AY qa T7 hfz;go_upto_region 14 with(fail)
     refine yl (λX=>X.cell? (fb,1)=some (.slice (some (g3,0)) VN cap)/\X.cell? (W,1)=some (S nm)/\X.cell? (g,0)=some (I n0)) [(0,0),(0,1),(0,2),(0,3),(0,4),(0,5),(0,6),(0,8),(0,9),(0,10),(1,7),(0,11),(2,12)] (λwd hh=>⟨aO bk.row hh 1,aO bq.out hh 1,eP hh cU⟩) λwd hh hgd hS=> ?_;have bK:=aF hgd;have tW:=bk.quiet hgd;have v5:=aS nW hgd aH;have z5:=(HFZ.kept hgd aH).frozen ix;have hst:=tW.al7 sQ n0;rw[<-HIX.out]at hst;have HST:=aF hst;clear hh hgd d0 d1 d3 d4 hst tW;refine dS ?_;go_wp2_with (go_at_call 142;refine fX (M9 _ bK) ?_)
     refine bw (by assumption) λhS=> ?_;refine Ek ?_;refine nu ?_;go_wp2;refine iG ?_;refine kK ?_;clear hS v5 z5;go_wp2;go_end0;rw[HQ.out];exact aF (RunT.ok (q:=(0,_)) fe (((gj.out.trans (bk.er.kf bK aJ)).mF fb vb).trans HST.2) HST.1)
   by_cases h2:sk=2
   ·as_aux_lemma=>
     subst h2;obtain⟨Fs,oJ⟩:=IK.2.1 gm.out.symm;obtain⟨n0,n1,rfl⟩:=OH (gL.2.trans Fs);obtain⟨g,cap,rfl,hc0⟩:=eU.cell (i:=0) (x:=n0) rfl;have hc1:=eU.cell' (i:=1) (x:=n1) rfl;simp only[aq,au,Nat.zero_add,Nat.reduceAdd]at*;have g_:=HT.out.trans ((if_neg aG).trans (if_pos trivial));simp only[hd,hd2,List.getD_cons_zero,List.getD_cons_succ]at g_;rw[<-cv.out]at oJ;obtain⟨i,hi,hil⟩:=A3 (show¬lK c.p nm<0 by omega);have hi:lK c.p nm=(i:Nat):=hi;rw[<-bk.er.b.yg]at hil;obtain⟨x0,hx0⟩:∃x,c.gz[i]? =some x:=⟨_,ah hil⟩;obtain⟨l,hl⟩:∃l,s2.fB[i]? =some l:=⟨_,ah (by rw[bk.er.b.len];exact hil)⟩;obtain⟨hrl,hll⟩:=bk.er.b.arr i x0 l hx0 hl;obtain⟨ga,na⟩:=x0;have hll:l.length=na:=hll;have hrl:Row w3 ga 3 (l.map I):=hrl;have jS:tK c.p s2 nm=l:=by
      unfold tK yN;rw[hi,Int.toNat_natCast,List.getD_eq_getElem?_getD,hl];rfl
     have hai:yN c.p nm=i:=by unfold yN;rw[hi,Int.toNat_natCast]
     rw[jS,hll,hai]at g_;have cU:=aF hc0;have nW:=aF hc1;have ML:=aF hx0;have qZ:=aF hl;have Jd:=aF hrl;have HLL:=aF hll;obtain⟨iv,ov3,hrun, -⟩:=bk.er.rows;rw[<-bF.out]at hrun;obtain⟨aa,ac,fa,fc,e1,e2⟩:=bk.er.b.px.slice;have eG:=aF (λ(X:World) (hX:w3.grownBy X none)=>Ns c.p nm _ _ X c.G (bk.er.b.px.grown hX aJ));rw[hi,e1,e2]at eG;simp only[qL,e1,e2]at hrun;obtain⟨ra,rc,gP,_,o6⟩:=bk.er.b.eW;rw[gP]at hrun;obtain⟨ab,ao,rfl,_,hat⟩:=o6.resolve_left (by intro e;rw[e]at hil;simp at hil);obtain⟨C,hC,hx⟩:=hat i _ hx0;have hx:C 0= .slice (some (ga,0)) na na:=hx;have e3:=hC 0 aG;rw[hx]at e3;simp only[Nat.mul_one,aA]at e3;have⟨AN,iV⟩:=xq c.p.arrays.length;have⟨FN,nj⟩:=xq c.p.funcs.length;have⟨GN,M_⟩:=xq c.gz.length;rw[<-iV,<-nj]at eG hrun;rw[<-M_]at hrun hil;have oU:=aF hrun;have AK:=aF e3;have hiz: ¬(i:Int)<0:=aG;have hin:(i:Int)<(GN:Int):=aG;clear hc0 hc1 oJ hi hil hx0 hl hrl hll jS hai Fs e1 e2 gP o6 hat hC hx e3 hrun iV nj M_;by_cases hb:n0<0\/(na:Int)<=n0
     ·have fe:=aF (g_.trans (if_pos hb));clear g_;go_upto_region 16 with(fail)
      refine cC (λX=>X.cell? (rb,0)=some (.slice aa AN ac)/\X.cell? (rb,1)=some (.slice fa FN fc)/\X.cell? (rb,4)=some (.slice (some (ab,ao)) GN rc)/\X.cell? (W,1)=some (S nm)/\X.cell? (ab,ao+i)=some (.slice (some (ga,0)) na na)) [0,0,0,0,0,0,0,0,0,0,1,0,0,0] (λwd hh=>⟨aO oU.out hh 0,aO oU.out hh 1,aO oU.out hh 4,aO bq.out hh 1,eP hh AK⟩) λwd hh hgd hS=> ?_;have bK:=aF hgd;clear hh hgd d0 d1 d3 d4;refine dS ?_;go_wp2_with (go_at_call 137;refine aN (eG _ bK) λw4 aR=> ?_;clear hS)
      have hg4:=bX aR none;have AZ:=aS (aS AK bK aH) hg4 aH;have rE:=(oU.kept bK aH).ext aR;refine bw ⟨rE.cell 0,rE.cell 1,rE.cell 4,((bq.kept bK aH).ext aR).cell 1,AZ⟩ λhS=> ?_;refine dP ?_;clear hS AZ rE;have e3:=aS (aS cU bK aH) hg4 aH;have aci:=aF e3;have acj:=aF (aS (aS nW bK aH) hg4 aH);have fM:=aF ((bk.quiet bK).quiet hg4);have bR:Hid (KF F W w4):=(gj.out.trans (bk.er.kf bK aJ)).trans ((bk.er.quiet bK).kf hg4 aJ);have hen:=Hi c F w4 d s2 3 0 fM.er;rw[<-bF.out]at hen;have wQ:=aF hen;clear hen hg4;by_cases h1:n0<0
      ·clear hb;go_wp2_with (go_at_call 36;refine wQ.mono ?_;rintro e' w5⟨rfl,dL,cg⟩;have cZ:=aF dL;have dG:=aF cg;clear dL cg)
       go_end0;rw[HQ.out];exact aF (RunT.stop fe rfl ((bR.out.trans dG.out).mF fb vb) (fM.on dG cZ))
      ·have h2:(na:Int)<=n0:=aG;clear hb;go_wp2_with (go_at_call 36;refine wQ.mono ?_;rintro e' w5⟨rfl,dL,cg⟩;have cZ:=aF dL;have dG:=aF cg;clear dL cg)
       go_end0;rw[HQ.out];exact aF (RunT.stop fe rfl ((bR.out.trans dG.out).mF fb vb) (fM.on dG cZ))
     ·have fe:=aF (g_.trans (if_neg hb));have xW:n0.toNat<na:=aG;obtain⟨a1,ha1⟩:∃n:Nat,n0=n:=⟨n0.toNat,aG⟩;rw[ha1,Int.toNat_natCast]at fe xW;subst ha1;have h1: ¬(a1:Int)<0:=aG;have h2: ¬(na:Int)<=(a1:Int):=aG;have h3:(a1:Int)<(na:Int):=aG;have gP:w3.cell? (ga,a1)=some (I (l.getD a1 0)):=by
       rw[Jd.cell,List.getElem?_map,ah (cw HLL),List.getD_eq_getElem?_getD,ah (cw HLL)];rfl
      have⟨y,hy⟩:=xq (l.getD a1 0);rw[<-hy]at gP;have P6:=aF gP;clear g_ hb xW gP hy;go_upto_region 16 with(fail)
      refine cC (λX=>X.cell? (rb,0)=some (.slice aa AN ac)/\X.cell? (rb,1)=some (.slice fa FN fc)/\X.cell? (rb,4)=some (.slice (some (ab,ao)) GN rc)/\X.cell? (W,1)=some (S nm)/\X.cell? (ab,ao+i)=some (.slice (some (ga,0)) na na)) [0,0,0,0,0,0,0,0,0,0,1,0,0,0] (λwd hh=>⟨aO oU.out hh 0,aO oU.out hh 1,aO oU.out hh 4,aO bq.out hh 1,eP hh AK⟩) λwd hh hgd hS=> ?_;have bK:=aF hgd;clear hh hgd d0 d1 d3 d4;refine dS ?_;go_wp2_with (go_at_call 137;refine aN (eG _ bK) λw4 aR=> ?_;clear hS)
      have hg4:=bX aR none;have AZ:=aS (aS AK bK aH) hg4 aH;have rE:=(oU.kept bK aH).ext aR;refine bw ⟨rE.cell 0,rE.cell 1,rE.cell 4,((bq.kept bK aH).ext aR).cell 1,AZ⟩ λhS=> ?_;refine dP ?_;clear hS AZ rE;have e3:=aS (aS cU bK aH) hg4 aH;have aci:=aF e3;have acj:=aF (aS (aS nW bK aH) hg4 aH);have hf4:=(bk.quiet bK).quiet hg4;have hk4:KF F W w4:=(gj.out.trans (bk.er.kf bK aJ)).trans ((bk.er.quiet bK).kf hg4 aJ);have fM:=aF hf4;have bR:=aF hk4;have v6:=aS (aS P6 bK aH) hg4 aH;have z6:=((Jd.kept bK aH).kept hg4 aH).frozen a1;have Qz:=aF v6;have HZ6:=aF z6;clear hf4 hk4 hg4;go_upto_region 19 with(fail)
      refine cC (λX=>X.cell? (g,0)=some (I a1)/\X.cell? (g,1)=some (I n1)) [0,0,0,0,0,0,0,0,2] (λwz hh=>⟨eP hh aci,eP hh acj⟩) λwz hh tT hS=> ?_;have v7:=aS Qz tT aH;have z7:wz.frozen? (ga,a1)=false:=by rw[<-HZ6.out];unfold World.frozen?;rw[hh]
      have hfz:=fM.quiet tT;have hst:=hfz.er.store (at_:=a1) ML qZ n1;have cD:=bO wz ga a1 (I n1);have Je: ¬F ga:=(bk.er.b.nK _ (List.mem_of_getElem? ML)).2;have cg:KF F wz (wz.setCell (ga,a1) (I n1)):=hfz.er.kf cD λr e=>by cases e;exact Je
      have dM:=aF (hfz.on cg hst);have dG:=aF ((bR.out.trans (fM.er.kf tT aJ)).trans cg);clear hh tT hfz hst cD Je cg v6 z6 e3;refine Gf ?_;refine nu ?_;go_wp2;refine iG ?_;refine kK ?_;clear hS v7 z7;go_wp2;go_end0;rw[HQ.out];exact aF (RunT.ok (q:=(0,k)) fe (dG.mF fb vb) dM)
   by_cases h3:sk=3
   ·as_aux_lemma=>
     subst h3;obtain⟨n0,rfl⟩:=List.length_eq_one_iff.1 (gL.2.trans (IK.1 (cw gm)));obtain⟨g,cap,rfl,hc0⟩:=eU.cell (i:=0) (x:=n0) rfl;simp only[aq,au,Nat.zero_add]at*;have cU:=aF hc0;have g_:=HT.out.trans ((if_neg aG).trans ((if_neg aG).trans (if_pos trivial)));have hkg:∀b,c.G b->w3.heap[b]? =W.heap[b]? :=λb hb=>gj.block b (HH.er.b.gf b hb);have Dh:2*left c.most s2+1<=R:=by have:=HR.out;have:=gD.out;have:=ua (most:=c.most) gL.1;omega
     have rU:=HB _ w3 d s2 k fb vb nv vv vs x.thn (.slice t0 tl tc) bk (AJ.on hkg) HY.thn Dh;have pM:=HB _ w3 d s2 k fb vb nv vv vs x.els (.slice e0 el ec) bk (MK.on hkg) HY.els Dh;rw[<-bF.out]at rU pM;simp only[hd,List.getD_cons_zero]at g_;clear hc0;by_cases hn:n0=0
     ·rw[if_pos hn]at g_;subst hn;have⟨r,hr⟩:=xq (eO (m.stmt d) x.els k s2);rw[<-hr]at g_ pM;have fe:=aF g_;have ey:=aF pM;clear g_ rU pM hkg Dh hr;have GA:=cU.out;cases r with
      |stop a b s4=>
       go_wp2_with (go_at_call 58;refine ey.mono ?_;rintro e' w4⟨hk4,rfl,Us,k4,cV⟩;have bR:=aF hk4;have dR:=aF cV;clear hk4 cV)
       go_end0;rw[HQ.out];exact aF (RunT.stop fe rfl ((gj.mF fb vb).trans bR.out) dR)
      |ok q s4=>
       go_wp2_with (go_at_call 58;refine ey.mono ?_;rintro e' w4⟨hk4,rfl,cV⟩;have bR:=aF hk4;have dR:=aF cV;clear hk4 cV)
       go_end0;rw[HQ.out];exact aF (RunT.ok fe ((gj.mF fb vb).trans bR.out) dR)
     ·rw[if_neg hn]at g_;have hnb:(n0 !=0)=true:=by simpa using hn
      have⟨r,hr⟩:=xq (eO (m.stmt d) x.thn k s2);rw[<-hr]at g_ rU;have fe:=aF g_;have ey:=aF rU;clear g_ rU pM hkg Dh hr;have GA:=cU.out;cases r with
      |stop a b s4=>
       go_wp2_with (go_at_call 58;refine ey.mono ?_;rintro e' w4⟨hk4,rfl,Us,k4,cV⟩;have bR:=aF hk4;have dR:=aF cV;clear hk4 cV)
       go_end0;rw[HQ.out];exact aF (RunT.stop fe rfl ((gj.mF fb vb).trans bR.out) dR)
      |ok q s4=>
       go_wp2_with (go_at_call 58;refine ey.mono ?_;rintro e' w4⟨hk4,rfl,cV⟩;have bR:=aF hk4;have dR:=aF cV;clear hk4 cV)
       go_end0;rw[HQ.out];exact aF (RunT.ok fe ((gj.mF fb vb).trans bR.out) dR)
   by_cases h7:sk=7
   ·as_aux_lemma=>
     subst h7;obtain⟨n0,rfl⟩:=List.length_eq_one_iff.1 (gL.2.trans (IK.1 (cw gm)));obtain⟨g,cap,rfl,hc0⟩:=eU.cell (i:=0) (x:=n0) rfl;simp only[aq,au,Nat.zero_add]at*;have cU:=aF hc0;have fe:=aF (HT.out.trans ((if_neg aG).trans ((if_neg aG).trans ((if_neg aG).trans (if_pos trivial)))));have GA:=cU.out;have r2:=bk.row.k2;have z2:=bk.row.frozen 2;have r3:=bk.row.k3;have z3:=bk.row.frozen 3;have h1:=bk.RL 3;have h2:=h1.1.val n0;have dM:=aF h2.1;have dG:=aF (h1.2.trans h2.2);have Qy:g≠fb:=by
      have hge:=(cO eU g rfl).1;have:=qq.size;omega
     clear hc0 h1 h2;go_wp2;go_end0;rw[HQ.out];exact aF (RunT.ok (q:=(3,_)) fe ((gj.mF fb vb).trans dG.out) dM)
   by_cases h8:sk=8
   ·as_aux_lemma=>
     subst h8;have hsm:s2.out.length+1<=s2.steps:=by have:=gL.1;have:=HH.er.small.2.1;simp only[mh,tick]at*;omega
     have VH:=aF hsm;obtain⟨n0,rfl⟩:=List.length_eq_one_iff.1 (gL.2.trans (IK.1 (cw gm)));obtain⟨g,cap,rfl,hc0⟩:=eU.cell (i:=0) (x:=n0) rfl;simp only[aq,au,Nat.zero_add]at*;have cU:=aF hc0;have fe:=aF (HT.out.trans ((if_neg aG).trans ((if_neg aG).trans ((if_neg aG).trans ((if_neg aG).trans (if_pos trivial))))));obtain⟨iv,ou,hrun,hin,GC,gM⟩:=iz.rows;obtain⟨oa,oc,rfl⟩:=GC.slice;have hol:s2.out.length<=1000000:=by have:=bk.er.small;omega
     have⟨on,Di⟩:=xq s2.out.length;have hrun':=hrun;rw[<-bF.out,<-Di]at hrun';rw[<-Di]at hol;have iI:=aF hrun;have Ke:=aF hrun';have uw:=aF hin;have VI:=aF GC;have mE:=aF gM;have xx:=aF Di;clear hc0 hsm hrun hrun' hin GC gM Di;go_upto_region 28 with(fail)
     refine G5 aL (λX=>X.cell? (rb,3)=some (.slice oa on oc)/\X.cell? (g,0)=some (I n0)) [(0,0),(0,1),(0,2),(0,3),(0,4),(0,5),(0,6),(0,7),(1,8),(1,9),(0,10),(0,11),(2,12)] aL ?Ml ?_
     case Ml=>intro wd hh;exact⟨aO Ke.out hh 3,bY hh cU⟩
     intro wd hh hgd hS;have bK:=aF hgd;have fK:=aF (bk.quiet hgd);have dz:=bI iI hgd;have LG:=bI Ke hgd;have GD:=aF (uw.grown hgd aJ λ_ _ h=>h);have qz:=aF (VI.kept hgd aJ);have tC:=aF (aS cU hgd aH);clear hh hgd d0 d1 d3 d4;refine dS ?_;go_wp2;have kI:=cE wd (.cells #[I n0] 3) none;have jC:=aF kI;refine bw ⟨(LG.kept kI aH).cell 3,aS tC kI aH⟩ λhS=> ?_
     clear kI;have xX:=qz.kept jC aJ;rw[<-xx.out]at xX;have hcn:(wd.alloc (.cells #[I n0] 3)).cell? (wd,0)=some (.int .i64 n0):=by rw[cell_of_block (cj wd (.cells #[I n0] 3))];rfl
     have BJ:s2.out.length<=10000000000000:=by rw[<-xx.out];omega
     have TI:=aF xX;have Au:=aF hcn;have Dj:=aF BJ;clear xX hcn BJ;refine h_ ?_;go_wp2_with (at_builtin;go_loud (refine ES rfl _ _ rfl 0 (.slice oa on oc) s2.out rfl TI.out wd.heap.size n0 rfl Au.out Dj.out (Nat.zero_le _) ?_);intro g' cap' w6 dY bG fy lZ;have gK:=aF dY;have di:=aF bG;have gN:=aF fy;clear dY bG fy hS)
     have Io:∀r,(Value.slice oa on oc).ownBlock=some r-> ¬((F r\/r=W.heap.size)\/(Value.slice (some (g,0)) 1 cap).ownBlock=some r):=λr e=>(mE r (by rw[<-xx.out];exact e)).1;have bG:some g≠(Value.slice oa on oc).ownBlock:=λe=>Io g e.symm (.inr rfl);have FR:=qz.kept jC aJ;have FT:=dz.kept jC aH;have LH:some rb≠(Value.slice oa on oc).ownBlock:=λe=>by
      have:=Jy FR (t:=81) aQ rb (by rw[<-xx.out];exact e.symm);rw[bF.out]at this;exact this _ _ FT
     have dU:=(LG.kept jC aH).kept di LH;have v8:=dU.k3;have z8:=dU.frozen 3;refine bw ⟨v8,aS (aS tC jC aH) di bG⟩ λhS=> ?_;have hfin:=QR.print (W5:=w6) (v':= .slice (some (g',0)) (s2.out.length+1) cap') (n:=n0) (g':=g') (fK.er.quiet jC) FT (GD.grown jC aJ λ_ _ h=>h) (λr e=>⟨λhF=>(mE.out r e).1 (.inl (.inl hF)),(mE.out r e).2⟩) FR (by rw[<-xx.out];exact di.out) (by rw[<-xx.out];exact gN.out) rfl gK.out VH;obtain⟨yz,hf2⟩:=hfin;rw[<-bF.out]at yz hf2;have kC:KF F W (w6.setCell (rb,3) (.slice (some (g',0)) (s2.out.length+1) cap')):=((gj.out.trans (bk.er.kf bK aJ)).trans (fK.er.kf jC aJ)).trans hf2;have MN:=(fK.quiet jC).on hf2 yz;have nI:=aF kC;have Jf:=aF MN;clear Io bG FR FT LH dU yz hf2 kC MN;refine Ek ?_;refine nu ?_;go_wp2;refine iG ?_;refine kK ?_;clear hS v8 z8;go_wp2;go_end0;rw[HQ.out];exact aF (RunT.ok (q:=(0,k)) fe (nI.mF fb vb) Jf)
   by_cases h9:sk=9
   ·as_aux_lemma=>
     subst h9;obtain⟨n0,rfl⟩:=List.length_eq_one_iff.1 (gL.2.trans (IK.1 (cw gm)));obtain⟨g,cap,rfl,hc0⟩:=eU.cell (i:=0) (x:=n0) rfl;simp only[aq,au,Nat.zero_add]at*;have cU:=aF hc0;have fe:=aF (HT.out.trans ((if_neg aG).trans ((if_neg aG).trans ((if_neg aG).trans ((if_neg aG).trans ((if_neg aG).trans (if_pos trivial)))))));have GA:=cU.out;have hen:=Hi c F w3 d s2 5 n0 bk.er;rw[<-bF.out]at hen;have wQ:=aF hen;clear hc0 hen;go_wp2_with (go_at_call 36;refine wQ.mono ?_;rintro e' w5⟨rfl,dL,cg⟩;have cZ:=aF dL;have dG:=aF cg;clear dL cg)
     go_end0;rw[HQ.out];exact aF (RunT.stop fe rfl ((gj.out.trans dG.out).mF fb vb) (bk.on dG cZ))
   have g_:=HT.out;rw[if_neg h1,if_neg h2,if_neg h3,if_neg h7,if_neg h8,if_neg h9]at g_;have fe:=aF g_;clear g_;have b1:(sk==1)=false:=bu h1;have b2:(sk==2)=false:=bu h2;have b3:(sk==3)=false:=bu h3;have b7:(sk==7)=false:=bu h7;have b8:(sk==8)=false:=bu h8;have b9:(sk==9)=false:=bu h9;go_wp2;go_end0;rw[HQ.out];exact aF (RunT.ok (q:=(0,k)) fe (gj.mF fb vb) bk)
end
end Go.Proofs.YtjgbkdbkachciaaGreatDoor
