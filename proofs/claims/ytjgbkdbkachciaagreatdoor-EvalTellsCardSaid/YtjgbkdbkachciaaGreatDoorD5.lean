import Derived.Test.YtjgbkdbkachciaaGreatDoorD2
set_option linter.all false
namespace Go.Proofs.YtjgbkdbkachciaaGreatDoor
set_option maxRecDepth 100000
set_option maxHeartbeats 16000000
section
open Go.RowKit Go.Shelf
attribute [local go_sem] Oper.semAt_some
theorem XI (c:cH) (F:Nat->Prop) (W:World) (d:Nat) (s:aV) (h:QR c F W d s 0 0 false) (hs: ¬c.most<=(s.steps:Int)):
  Calls Tryz.prog 139 #[.pointer (some (c.rb,0))] W λe w'=>e= .returned (.bool true)/\QR c F w' d (tick s) 0 0 false/\KF F W w':=by
 obtain⟨iv,ov,hrow, -⟩:=h.rows;have c5:=hrow.k5;have c6:=hrow.k6;have f6:=hrow.frozen 6;have hn6:s.steps<=1000000:=h.small.1;have hm: ¬c.most<=(s.steps:Int):=hs;have⟨mo,hmo⟩:=xq c.most;have⟨rb,cy⟩:=xq c.rb;have⟨n,hn⟩:=xq s.steps;rw[<-hmo]at c5 hm;rw[<-cy]at c5 c6 f6|-;rw[<-hn]at c6 hm hn6;have Bi:(decide (mo<=(n:Int)))=false:=by simpa using hm
 have HH:=aF h;have Gs:=aF hmo;have bF:=aF cy;have oI:=aF hn;clear h hs hrow hmo cy hn;go_enter Tryz.func139,Tryz.ntmps139;go_upto_region 1 with(fail)
 refine cC (λX=>X.cell? (rb,5)=some (I mo)/\X.cell? (rb,6)=some (I n)) [0,0,0,0,0,0,0,0,0] (λwd hh=>⟨bY hh c5,bY hh c6⟩) λwd hh hgd hS=> ?_;have c6':=hS.2;have f6':wd.frozen? (rb,6)=false:=by rw[<-f6];unfold World.frozen?;rw[hh]
 have bK:=aF hgd;clear hh hgd c5 c6 f6;refine Bg ?_;refine dP ?_;clear hS;go_wp2;go_ret;have hg0:=bK.out;have hg1:=bO wd rb 6 (I (n+1));rw[bF.out]at hg1|-;have hq0:=HH.quiet hg0;refine⟨rfl,hq0.put (s':=tick s) hg1 ⟨by show s.steps+1<=1000000;have:=HH.small.2.2.2;rw[<-Gs.out]at this;rw[<-oI.out];omega,Nat.le_succ_of_le HH.small.2.1,HH.small.2.2.1⟩ rfl rfl rfl (λiv ov hr=> ?_), ?_⟩
 ·have:=hr.set 6 (I (n+1));rw[oI.out]at this|-;exact this
 ·exact(HH.kf hg0 aJ).trans (hq0.kf hg1 (λr e=>by cases e;exact HH.b.jJ))
theorem Yj (c:cH) (F:Nat->Prop) (W:World) (d:Nat) (s:aV) (h:QR c F W d s 0 0 false) (hs:c.most<=(s.steps:Int)):
  Calls Tryz.prog 139 #[.pointer (some (c.rb,0))] W λe w'=>e= .returned (.bool false)/\QR c F w' d s 0 0 true/\KF F W w':=by
 obtain⟨iv,ov,hrow, -⟩:=h.rows;have c5:=hrow.k5;have c6:=hrow.k6;have cA:=hrow.k10;have fA:=hrow.frozen 10;have hm:c.most<=(s.steps:Int):=hs;have⟨mo,hmo⟩:=xq c.most;have⟨rb,cy⟩:=xq c.rb;have⟨n,hn⟩:=xq s.steps;rw[<-hmo]at c5 hm;rw[<-cy]at c5 c6 cA fA|-;rw[<-hn]at c6 hm;have Bi:(decide (mo<=(n:Int)))=true:=by simpa using hm
 have HH:=aF h;have bF:=aF cy;clear h hs hrow hmo cy hn;go_enter Tryz.func139,Tryz.ntmps139;go_upto_region 1 with(fail)
 refine cC (λX=>X.cell? (rb,5)=some (I mo)/\X.cell? (rb,6)=some (I n)) [0,0,0,0,0,0,0,0,0] (λwd hh=>⟨bY hh c5,bY hh c6⟩) λwd hh hgd hS=> ?_;have cA':=bY hh cA;have fA':wd.frozen? (rb,10)=false:=by rw[<-fA];unfold World.frozen?;rw[hh]
 have bK:=aF hgd;clear hh hgd c5 c6 cA fA;refine Bg ?_;refine dP ?_;clear hS;go_wp2;go_ret;have hg0:=bK.out;have hg1:=bO wd rb 10 (.bool true);rw[bF.out]at hg1|-;have hq0:=HH.quiet hg0;refine⟨rfl,hq0.put (s':=s) hg1 ⟨HH.small.1,HH.small.2.1,HH.small.2.2.1⟩ rfl rfl rfl (λiv ov hr=>hr.set 10 (.bool true)), ?_⟩;exact(HH.kf hg0 aJ).trans (hq0.kf hg1 (λr e=>by cases e;exact HH.b.jJ))
theorem Hi (c:cH) (F:Nat->Prop) (W:World) (d:Nat) (s:aV) (a b:Int) (h:QR c F W d s 0 0 false):
  Calls Tryz.prog 36 #[.pointer (some (c.rb,0)),I a,I b] W λe w'=>e= .returned (.tuple #[])/\QR c F w' d s a b false/\KF F W w':=by
 obtain⟨iv,ov,hrow, -⟩:=h.rows;have c8:=hrow.k8;have f8:=hrow.frozen 8;have c9:=hrow.k9;have f9:=hrow.frozen 9;have⟨rb,cy⟩:=xq c.rb;rw[<-cy]at c8 f8 c9 f9|-;have HH:=aF h;have bF:=aF cy;clear h hrow cy;go_enter Tryz.func36,Tryz.ntmps36;go_wp2;go_end0;have hg1:=bO W rb 8 (I a);have hg2:=bO (W.setCell (rb,8) (I a)) rb 9 (I b);rw[bF.out]at hg1 hg2|-;have hq1:QR c F _ d s a 0 false:=HH.put (s':=s) hg1 ⟨HH.small.1,HH.small.2.1,HH.small.2.2.1⟩ rfl rfl rfl (λiv ov hr=>hr.set 8 (I a));refine⟨rfl,hq1.put (s':=s) hg2 ⟨HH.small.1,HH.small.2.1,HH.small.2.2.1⟩ rfl rfl rfl (λiv ov hr=>hr.set 9 (I b)), ?_⟩;exact(HH.kf hg1 (λr e=>by cases e;exact HH.b.jJ)).trans (hq1.kf hg2 (λr e=>by cases e;exact HH.b.jJ))
theorem xK (c:cH) (F:Nat->Prop) (W:World) (d:Nat) (s:aV) (st cd:Int) (sp:Bool) (h:QR c F W d s st cd sp):
  Calls Tryz.prog 99 #[.pointer (some (c.rb,0))] W λe w'=>e= .returned (.bool (sp||st !=0))/\w'=W:=by
 obtain⟨iv,ov,hrow, -⟩:=h.rows;have c8:=hrow.k8;have c10:=hrow.k10;exact agc W c.rb sp st c10 c8
theorem Hl (a:Int):((a==0)||a !=0)=true:=by
 by_cases h:a=0<;>simp [h]
theorem XV {x:aK}:∀(l:List aK) (k:Nat) (hk:k<l.length),l[k]=x->l.idxOf x<=k
 | [],k,hk,_=>by simp at hk
 |y::l,0,_,h=>by
  have h:y=x:=h
  subst h
  rw[List.idxOf_cons_self]
  exact ay _
 |y::l,k+1,hk,h=>by
  rw[List.idxOf_cons]
  by_cases hyx:(y==x)=true
  ·rw[hyx];exact Nat.zero_le _
  ·have:=XV l k (by simpa using hk) (by simpa using h)
   simp only[Bool.not_eq_true]at hyx
   rw[hyx]
   exact Nat.succ_le_succ this
theorem XJ {B:Nat->Prop} (w:World) (fb:Nat) (nv:Value) (ns:List aK) (x:aK) (hc:w.cell? (fb,0)=some nv) (hv:aP B 1 dc w nv ns) (hx:x∈ns):
  Calls Tryz.prog 142 #[.pointer (some (fb,0)),S x] w λe w'=>e= .returned (I (ns.idxOf x))/\w'=w:=by
 have⟨Q,hQ⟩:=xq (ns.idxOf x);rw[<-hQ];have HQ:=aF hQ;obtain⟨a0,c0,rfl,hlen, -⟩:=id hv;have⟨N,hN⟩:=xq ns.length;rw[<-hN]at hc hv;have HN:=aF hN;have hN9:N<=1000000000:=aG;have HV:=aF hv;have HX:=aF hx;clear hv hQ hx hlen hN;go_enter Tryz.func142,Tryz.ntmps142;go_wp2;go_loopg [5] N (λgh i wr=>∃k:Nat,gh+k=N/\i=I k/\wr=w/\Hid (∀j,(hj:j<ns.length)->j<k->ns[j]≠x))
 case atStart=>exact⟨0,aG,rfl,rfl,aF (λj hj h=>absurd h aG)⟩
 case round=>
  obtain⟨k,hg,rfl,hwr,HH⟩:=hrel;obtain rfl:=hwr.symm;by_cases hlt:k<N
  ·have bT:(k:Int)<(N:Int):=aG;have hlt':k<ns.length:=by rw[<-HN.out];exact hlt
   obtain⟨b,o,C,rfl,_,hC,hrx⟩:=HV.at hlt';have e0:=hC 0 aG;rw[show C 0=S ns[k]from hrx]at e0;simp only[aA,Nat.mul_one]at e0;have⟨y,hy⟩:=xq (ns[k]);rw[<-hy]at e0;have HY:=aF hy;clear hC hrx hy;by_cases hyx:y=x
   ·have hend:Q=k:=by
     rw[HQ.out];rcases Nat.lt_trichotomy (ns.idxOf x) k with h|h|h
     ·exact absurd (List.getElem_idxOf (Cb HX)) (HH.out _ (Cb HX) h)
     ·exact h
     ·have:=XV (x:=x) ns k hlt' (HY.out.symm.trans hyx);omega
    subst hend;subst hyx;go_wp2;go_ret;exact⟨rfl,rfl⟩
   ·have hb:(y==x)=false:=bu hyx;have C7:=aF hyx;clear hyx;go_wp2;go_roundg (N - (k+1))
    case measure=>omega
    case rel=>exact⟨k+1,aG,by go_num,rfl,aF (λj hj hjk=>by
     by_cases e:j=k
     ·subst e;rw[<-HY.out];exact C7.out
     ·exact HH.out j hj aG)⟩
  ·exact absurd (List.getElem_idxOf (Cb HX)) (HH.out _ (Cb HX) (by have:=Cb HX;have:=HN.out;omega))
def Ib (c:cH) (R:Nat) (m:Nat->Vars->LE->aV->b6 Int):Prop:=
 ∀(F:Nat->Prop) (W:World) (d:Nat) (s:aV) (k:bM) (fb vb:Nat) (nv vv:Value) (ns:List aK) (e:LE) (av:Value),ig c F W d 0 k s 0 0 false fb vb nv vv ns->EX c.G W av e->nD c.p ns e->2*left c.most s+1<=R->
  Calls Tryz.prog 190 #[.pointer (some ⟨c.rb,0,none⟩), .pointer (some ⟨fb,0,none⟩),eV e av] W (l8 c F W d (m d k.vars e s))
def Cc (c:cH) (F:Nat->Prop) (W:World) (d:Nat) (r:b6 (List Int)) (en:Ending) (w':World):Prop:=
 KF F W w'/\∃ov,en= .returned ov/\match r with
 | .ok ns s'=>bZ w' W.heap.size ov ns/\QR c (λb=>F b\/ov.ownBlock=some b) w' d s' 0 0 false
 | .stop a b s'=>(∃x n y,ov= .slice x n y)/\QR c F w' d s' a b (a==0)
theorem Cc.ok {c:cH} {F:Nat->Prop} {W w':World} {d:Nat} {r:b6 (List Int)} {ns:List Int} {s':aV} {ov:Value} (h:r= .ok ns s') (hk:KF F W w') (ho:bZ w' W ov ns) (he:QR c (λb=>F b\/ov.ownBlock=some b) w' d s' 0 0 false):Cc c F W d r (.returned ov) w':=by
 rw[h];exact⟨hk,ov,rfl,ho,he⟩
theorem Cc.stop {c:cH} {F:Nat->Prop} {W w':World} {d:Nat} {r:b6 (List Int)} {a b:Int} {s':aV} (h:r= .stop a b s') (hk:KF F W w') (he:QR c F w' d s' a b (a==0)):Cc c F W d r (.returned (.slice none 0 0)) w':=by
 rw[h];exact⟨hk,_,rfl,⟨_,_,_,rfl⟩,he⟩
theorem XH (c:cH) (R:Nat) (m:Nat->Vars->LE->aV->b6 Int) (hE:Ib c R m) (hu:∀d vs e s n s',m d vs e s= .ok n s'->mh 1 s s') (F:Nat->Prop) (W:World) (d:Nat) (s:aV) (k:bM) (fb vb:Nat) (nv vv:Value) (vs:List aK) (l:List LE) (v:Value)
  (h:ig c F W d 0 k s 0 0 false fb vb nv vv vs) (hv:AX c.G W v l) (hx:∀x∈l,nD c.p vs x) (hR:2*left c.most s+1<=R):
  Calls Tryz.prog 141 #[.pointer (some (c.rb,0)), .pointer (some (fb,0)),v] W (Cc c F W d (dw (m d k.vars) l s)):=by
 suffices kN:Calls Tryz.prog 141 #[.pointer (some (c.rb,0)), .pointer (some (fb,0)),v] W (λe w'=>Hid (Cc c F W d (dw (m d k.vars) l s) e w'))from kN.mono λ_ _ h=>h.out
 have⟨Q,hQ⟩:=xq (Cc c F W d (dw (m d k.vars) l s));have HQ:=aF hQ;rw[<-hQ];obtain⟨a0,c0,rfl⟩:=hv.slice;obtain⟨dd,hv⟩:=hv;have hlen:l.length<=1000000000:=by obtain⟨_,_,_,h,_⟩:=hv;exact h
 have⟨N,hN⟩:=xq l.length;have⟨rb,cy⟩:=xq c.rb;have hv:aP c.G 5 (RE dd c.G) W (.slice a0 N c0) l:=by rw[hN];exact hv
 rw[show((LE.mk 0 0 0 [] l).args.length)=N from hN.symm,<-cy];have HV:=aF hv;have HX:=aF hx;have HN:=aF hN;have HH:=aF h;have HR:=aF hR;have HE:=aF hE;have HU:=aF hu;have bF:=aF cy;have hN9:N<=1000000000:=by rw[hN];exact hlen
 clear h hv hx hR hQ hN hlen hE hu cy;go_enter Tryz.func141,Tryz.ntmps141;go_wp2;go_loopg [7,8] N (λgh v i wr=>∃j:Nat,gh+j=N/\i=I j/\Hid (∃ns s1,dw (m d k.vars) (l.take j) s= .ok ns s1/\KF F W wr/\bZ wr W v ns/\QR c (λb=>F b\/v.ownBlock=some b) wr d s1 0 0 false))
 case atStart=>
  refine⟨0,aG,rfl,aF ⟨[],s,rfl,KF.refl _ _,⟨rfl, .inl ⟨rfl,rfl⟩⟩,HH.er.add (row:=none) ⟨rfl,rfl,rfl,ay _,λ_ _ _=>rfl⟩ aJ aJ⟩⟩
 case round=>
  obtain⟨j,hg,rfl,HS⟩:=hrel;obtain⟨wo,rfl⟩:=xq wr;by_cases hlt:j<N
  ·have bT:(j:Int)<(N:Int):=aG;obtain⟨ns,s1,ha,hk,ho,he⟩:=HS.out;have hjl:j<l.length:=by rw[<-HN.out];exact hlt
   have iY:=HV.on (λb hb=>hk.block b (HH.er.b.gf b hb)) (λC x h=>RE.on dd (λb hb=>hk.block b (HH.er.b.gf b hb)) h);obtain⟨b,o,C,rfl,_,hC,hrx⟩:=iY.at hjl;have⟨x,hx⟩:=xq (l[j]);rw[<-hx]at hrx;obtain⟨dx,rfl⟩:∃dx,dd=dx+1:=by
    cases dd with
    |zero=>exact hrx.elim
    |succ dx=>exact⟨dx,rfl⟩
   obtain⟨h0,h1,h2,h3,h4⟩:=hrx;obtain⟨xa,xc,hxv, -⟩:=id h4;have e0:=hC 0 aG;have e1:=hC 1 aG;have e2:=hC 2 aG;have e3:=hC 3 aG;have e4:=hC 4 aG;rw[h0]at e0;rw[h1]at e1;rw[h2]at e2;rw[h3]at e3;rw[hxv]at e4 h4;simp only[aA]at e0 e1 e2 e3 e4;have htk:l.take (j+1)=l.take j++ [x]:=by rw[List.take_succ_eq_append_getElem hjl,hx]
   have dN:=QO (x:=x) _ _ _ _ ha;rw[<-htk]at dN;have hst:∀a b s2,dw (m d k.vars) (l.take (j+1)) s= .stop a b s2->dw (m d k.vars) l s= .stop a b s2:=λa b s2 h=>by
    have:=QS _ (l.drop (j+1)) _ h;rwa[List.take_append_drop]at this
   have kS:nD c.p vs x:=by rw[hx];exact HX _ (ak hjl)
   have hup:=(vZ (λh=>HU.out _ _ _ _ _ _ h) _ _ _ _ ha).1;have hns:ns.length<=1000000000:=by rw[(vZ (λh=>HU.out _ _ _ _ _ _ h) _ _ _ _ ha).2,List.length_take];omega
   have hbase:W.heap.size<=wo.heap.size:=hk.size;have hcs:ig c (λb=>F b\/u7.ownBlock=some b) wo d 0 k s1 0 0 false fb vb nv vv vs:=(HH.on hk (he.less (λb hb=> .inl hb) HH.er.b.gf)).more (λb hb=> .inl hb) he;have hex:=HE _ _ _ _ _ _ _ _ _ _ x (.slice xa x.args.length xc) hcs ⟨dx,h4⟩ kS (az (iZ (ua (most:=c.most) hup)) HR);rw[<-bF.out]at hex;have⟨r,hr⟩:=xq (m d k.vars x s1);rw[<-hr]at hex dN;have HA:=aF ha;have HK:=aF hk;have HO:=aF ho;have IW:=aF dN;have HST:=aF hst;have eA:=aF hex;have⟨XL,Gl⟩:=xq x.args.length;rw[<-Gl]at e4 eA;clear ha hk ho he dN hst h4 kS hup h0 h1 h2 h3 hC hxv hx htk HS iY hcs hex hr Gl;cases r with
   |stop a b' s2=>
    go_upto_region 6 with(go_at_call 190;refine eA.mono ?_;rintro e' w4⟨hk4,n4,rfl,cV⟩;have bR:=aF hk4;have dR:=aF cV;clear hk4 cV)
    have hov:=xK c _ w4 d s2 _ _ _ dR;rw[Hl,<-bF.out]at hov;have js:=aF hov;clear hov;go_wp2_with (go_at_call 99;refine fX js ?_)
    go_ret;rw[HQ.out];exact aF (Cc.stop (HST _ _ _ IW) (HK.out.trans (bR.mono λb hb=> .inl hb)) (dR.less (λb hb=> .inl hb) HH.er.b.gf))
   |ok n s2=>
    go_upto_region 6 with(go_at_call 190;refine eA.mono ?_;rintro e' w4⟨hk4,n4,rfl,rfl,cV⟩;have bR:=aF hk4;have dR:=aF cV;have mH:=aF (HO.on λg hg=>hk4.block g (.inr hg));have hb4:W.heap.size<=w4.heap.size:=az hbase hk4.size;clear hk4 cV)
    have hov:=xK c _ w4 d s2 _ _ _ dR;rw[<-bF.out]at hov;have js:=aF hov;clear hov;go_wp2_with (first|(go_at_call 99;refine fX js ?_)|(at_builtin;refine ES rfl _ _ rfl W.heap.size u7 ns rfl (mH.kept (cE _ (.cells #[I n4] 3) none) aJ) w4.heap.size n4 rfl (by rw[cell_of_block (cj w4 (.cells #[I n4] 3))];rfl) aG ct ?_;intro g' cap w6 dY bG fy lZ;have gK:=aF dY;have di:=aF bG;have gN:=aF fy;clear dY bG fy))
    have hown:∀r,u7.ownBlock=some r->W.heap.size<=r/\r<w4.heap.size:=λr e=>cO mH r e;have mX:KF F W w6:=((HK.out.trans (bR.mono λb hb=> .inl hb)).trans (KF.grown (cE w4 (.cells #[I n4] 3) none) (λb hb=>dR.b.lt b (.inl hb)) aJ)).trans (KF.grown di (λb hb=>by have:=dR.b.lt b (.inl hb);simp;omega) (λr e hF=>by have:=(hown r e).1;have:=HH.er.b.lt r hF;omega));have zB:QR c (λb=>F b\/some g'=some b) w6 d s2 0 0 false:=by
     refine((dR.quiet (cE w4 (.cells #[I n4] 3) none)).add (Q:=λb=>b=g'/\(w4.alloc (.cells #[I n4] 3)).heap.size<=b) di (λr e=>⟨.inr e,λhG=> ?_⟩) (λb hb=>⟨hb.2,by rw[hb.1];exact lZ⟩)).less ?_ (λb hb=> .inl (HH.er.b.gf b hb))
     ·have:=(hown r e).1;have:=HH.er.b.lt r (HH.er.b.gf r hG);omega
     ·rintro b (hb|hb)
      ·exact .inl (.inl hb)
      ·have hb':=Option.some.inj hb;rcases gN.out with h|h
       ·exact .inl (.inr (by rw[<-hb'];exact h))
       ·exact .inr ⟨hb'.symm,by rw[<-hb',h];exact ay _⟩
    have ir:=aF mX;have uv:=aF zB;clear mX zB hown;go_roundg (N - (j+1))
    case measure=>omega
    case rel=>exact⟨j+1,aG,by go_num,aF ⟨ns++ [n4],s2,IW,ir,gK,uv⟩⟩
  ·have bT: ¬(j:Int)<(N:Int):=aG;obtain⟨ns,s1,ha,hk,ho,he⟩:=HS.out;rw[List.take_of_length_le (by rw[<-HN.out];omega)]at ha;have HA:=aF ha;have HK:=aF hk;have HO:=aF ho;have CX:=aF he;clear ha hk ho he HS;go_wp2;go_ret;rw[HQ.out];exact aF (Cc.ok HA HK HO CX)
def R7 (c:cH) (R:Nat) (st:Nat->bM->LS->aV->b6 (Int×bM)):Prop:=
 ∀(F:Nat->Prop) (W:World) (d:Nat) (s:aV) (j:Nat) (f:LF) (av:Value) (ns:List Int),QR c F W d s 0 0 false->c.p.funcs[j]? =some f->
  f.params.length=ns.length->aP (λb=>b<W.heap.size) 1 RI W av ns->2*left c.most s+1<=R->d<=50->
  Calls Tryz.prog 34 #[.pointer (some ⟨c.rb,0,none⟩),I j,av] W (l8 c F W d (pT st d f ns s))
theorem QR.read {c:cH} {F:Nat->Prop} {W:World} {d:Nat} {s:aV} (h:QR c F W d s 0 0 false) {iv ov:Value} (hrow:Row W c.rb 81 (qL c d iv ov s.steps 0 0 false)) (hin:jl c.G W iv s.inp) (ho:bZ W 0 ov s.out)
  (gM:∀g,ov.ownBlock=some g-> ¬F g/\∀x∈c.gz,x.1≠g) {b o m ic:Nat} {x:Int} {l:List Int} (rK:iv= .slice (some (b,o)) (m+1) ic) (hs:s.inp=x::l) (a:Addr) (ha:ic=1/\m=0\/a=(b,o+1)):
  QR c F (W.setCell (c.rb,2) (.slice (some a) m (ic - 1))) d {s with inp:=l} 0 0 false/\KF F W (W.setCell (c.rb,2) (.slice (some a) m (ic - 1))):=by
 obtain⟨ia,ik,e1,e2⟩:=hin.room;obtain⟨ia',ik',rC,e2',e3'⟩:=hin.sl;rw[rK]at e1 rC;simp only[Value.slice.injEq]at e1 rC;obtain⟨rfl,hm,rfl⟩:=e1;obtain⟨rfl, -, -⟩:=rC;obtain⟨b',o',jz,hG,hat⟩:=e3'.resolve_left (by rw[hs];simp);simp only[Option.some.injEq,Addr.mk.injEq,and_true]at jz;obtain⟨rfl,rfl⟩:=jz;have pG:m=l.length:=by rw[hs]at hm;simpa using hm
 have hg:=bO W c.rb 2 (.slice (some a) m (ic - 1));refine⟨h.turn hg rfl ⟨h.small.1,h.small.2.1,h.small.2.2.1⟩ (.slice (some a) m (ic - 1)) (hrow.set 2 _) ?_ (bZ.qb hg hrow ho) gM,h.kf hg (λr e=>by cases e;exact h.b.jJ)⟩;refine⟨⟨some a,ic - 1,by rw[pG],by show l.length<=_;rw[hs]at e2';simp at e2';omega, ?_⟩,some a,ic - 1,by rw[pG],by show l.length<=_;rw[hs]at e2;simp at e2;omega⟩;rcases ha with⟨_,ha⟩|rfl
 ·exact .inl (show l= []from List.eq_nil_of_length_eq_zero aG)
 ·refine .inr ⟨b,o+1,rfl,hG,λi y hy=> ?_⟩;obtain⟨C',zw,hy'⟩:=hat (i+1) y (by rw[hs];simpa using hy);refine⟨C',λj hj=> ?_,hy'⟩;have:=zw j hj;rw[show o+(i+1)*1+j=o+1+i*1+j by omega]at this;rw[<-this];exact World.cell?_of_block (w:=W) (by rw[hg.block b (World.block_lt_of_cell? W _ this)];intro e;cases e;exact h.b.jJ (h.b.gf _ hG))
theorem afG (c:cH) (R:Nat) (m:j6) (hE:Ib c R m.expr) (hB:R7 c R m.stmt) (hu:m.Up):Ib c (R+1) (iA c.p c.most m):=by
 intro F W d s k fb vb nv vv vs e av h cX kS hR
 suffices kN:Calls Tryz.prog 190 #[.pointer (some (c.rb,0)), .pointer (some (fb,0)),eV e av] W (λen w'=>Hid (l8 c F W d (iA c.p c.most m d k.vars e s) en w'))from kN.mono λ_ _ h=>h.out
 have⟨Q,hQ⟩:=xq (l8 c F W d (iA c.p c.most m d k.vars e s));have HQ:=aF hQ;rw[<-hQ];obtain⟨a0,c0,rfl⟩:=cX.slice;have⟨ek,lT⟩:=xq e.kind;have⟨eo,mg⟩:=xq e.op;have⟨en,hen⟩:=xq e.n;have⟨nm,cJ⟩:=xq e.name;have⟨al,hal⟩:=xq e.args.length;have⟨rb,cy⟩:=xq c.rb;rw[eV,<-lT,<-mg,<-hen,<-cJ,<-hal,<-cy];rw[<-hal]at cX;have cM:=aF lT;have yu:=aF mg;have jK:=aF hen;have cv:=aF cJ;have jM:=aF hal;have bF:=aF cy;have sF:=aF cX;have rR:=aF kS;have HR:=aF hR;have HH:=aF h;have HB:=aF hB;have⟨w1,hw1⟩:=xq (W.alloc (.cells #[I ek,I eo,I en,S nm, .slice a0 al c0] 31));have dO:=hw1.symm;have hx1:=dZ hw1;have hg1:=jy hw1;have hs1:QR c (λb=>F b\/b=W.heap.size) w1 d s 0 0 false:=h.er.add hg1 aJ (λb hb=>⟨aG,by rw[hb];exact hx1.lt⟩);have hk1:KF F W w1:=h.er.kf hg1 aJ;have kF:=aF hx1;have fI:=aF hs1;have pI:=aF hk1;clear h hQ lT mg hen cJ hal cy cX kS hR hB hw1 hx1 hg1 hs1 hk1;by_cases hst:c.most<=(s.steps:Int)
 ·have kU:=aF (Yj c _ w1 d s fI hst);rw[<-bF.out]at kU;have HST:=aF hst;clear hst hE hu;go_enter Tryz.func190,Tryz.ntmps190;go_wp2_with (go_at_call 139;refine kU.mono ?_;rintro e' w2⟨rfl,iW,hk2⟩;have lS:=aF iW;have jr:=aF hk2;clear iW hk2)
  go_ret;rw[HQ.out];exact aF (l8.stop (by unfold iA;rw[if_pos HST.out]) rfl (pI.out.trans (jr.mono λb hb=> .inl hb)) (lS.less (λb hb=> .inl hb) HH.er.b.gf))
 ·have kU:=aF (XI c _ w1 d s fI hst);rw[<-bF.out]at kU;have htl:=Hh hst;have gD:=aF htl;have jc:=aF (JR c.p c.most m d k.vars e s hst);have VB:=aF hE;have HU:=aF hu;clear hst hE hu htl;go_enter Tryz.func190,Tryz.ntmps190;go_upto_region 4 with(go_at_call 139;refine kU.mono ?_;rintro e' w2⟨rfl,iW,hk2⟩;have lS:=aF iW;have jr:=aF hk2;clear iW hk2)
  have hx2:=jr.row kF (.inr rfl);have c4:=hx2.k4;have hk2:KF F W w2:=pI.out.trans (jr.mono λb hb=> .inl hb);have hcs:ig c (λb=>F b\/b=W.heap.size) w2 d 0 k (tick s) 0 0 false fb vb nv vv vs:=(HH.on hk2 (lS.less (λb hb=> .inl hb) HH.er.b.gf)).more (λb hb=> .inl hb) lS;have hal:=sF.on (λb hb=>hk2.block b (HH.er.b.gf b hb));obtain⟨dd,hal⟩:=hal;have hc2:=XH c R m.expr VB (λ_ _ _ _ _ _ h=>HU.expr h) _ w2 d (tick s) k fb vb nv vv vs e.args _ hcs (⟨dd,hal⟩:AX c.G w2 (.slice a0 al c0) e.args) rR.args (by have:=HR.out;have:=gD.out;omega);rw[<-bF.out]at hc2;have aY:=aF hx2;have qq:=aF hk2;have⟨r,hr⟩:=xq (dw (m.expr d k.vars) e.args (tick s));rw[<-hr]at hc2 jc;have eY:=aF hc2;have fP:=aF hr;clear hx2 hk2 hcs hal hr hc2;cases r with
  |stop a b s2=>
   go_upto_region 5 with(go_at_call 141;refine eY.mono ?_;rintro e' w3⟨hk3,ov,rfl,⟨xa,xn,xc,rfl⟩,iM⟩;have gy:=aF hk3;have iz:=aF iM;clear hk3 iM)
   have hov:=xK c _ w3 d s2 _ _ _ iz;rw[Hl,<-bF.out]at hov;have js:=aF hov;clear hov c4;go_wp2_with (go_at_call 99;refine fX js ?_)
   go_ret;rw[HQ.out];exact aF (l8.stop jc rfl (qq.out.trans (gy.mono λb hb=> .inl hb)) (iz.less (λb hb=> .inl hb) HH.er.b.gf))
  |ok ns s2=>
   go_upto_region 5 with(go_at_call 141;refine eY.mono ?_;rintro e' w3⟨hk3,ov,rfl,jY,iM⟩;have gy:=aF hk3;have iz:=aF iM;have eU:=aF jY;clear hk3 iM jY)
   have hov:=xK c _ w3 d s2 _ _ _ iz;rw[<-bF.out]at hov;have js:=aF hov;clear hov c4;have hx3:=gy.row aY (.inr rfl);have hk3:KF F W w3:=qq.out.trans (gy.mono λb hb=> .inl hb);have hnl:=vZ (λh=>HU.expr h) _ _ _ _ fP.out.symm;have tM:ig c F w3 d 0 k s2 0 0 false fb vb nv vv vs:=HH.on hk3 (iz.less (λb hb=> .inl (.inl hb)) HH.er.b.gf);have gL:=aF hnl;have bq:=aF hx3;have gj:=aF hk3;have bk:=aF tM;have d0:=hx3.k0;have d1:=hx3.k1;have d2:=hx3.k2;have d3:=hx3.k3;have hown:=rR.DU;rw[DU,<-cM.out]at hown;obtain⟨uk,Lv⟩:=hown;have HOW:=aF Lv;obtain⟨iv,ov3,hrun,abv,jY,abw⟩:=bk.er.rows;rw[<-bF.out]at hrun;have iI:=aF hrun;have T6:=aF abv;have alv:=aF jY;have alx:=aF abw;clear hx3 hk3 hnl tM Lv hrun abv jY abw;go_upto_region 9 with(go_at_call 99;refine fX js ?_)
   rcases(by omega:ek=1\/ek=2\/ek=3\/ek=4\/ek=5\/ek=6\/ek=7)with rfl|rfl|rfl|rfl|rfl|rfl|rfl
   ·clear uk;go_wp2;go_ret;rw[HQ.out];exact aF (l8.ok (by rw[jc.out];show jV c.p m d k.vars e ns s2=_;unfold jV;rw[if_pos cM.out.symm,<-jK.out]) gj bk.er)
   ·clear uk;have hmem:=rR.var cM.out.symm;rw[<-cv.out]at hmem;have⟨ix,BM⟩:=xq (vs.idxOf nm);have AY:=Y6 k.vars hmem;rw[<-BM]at AY;obtain⟨g,cap,hvv,hc0⟩:=bk.vars.cell AY;obtain⟨VN,qa⟩:∃n,n=(vs.map k.vars).length:=⟨_,rfl⟩;rw[<-qa]at hvv;have T7:ix<VN:=by rw[qa,BM,aC];exact Cb hmem
    have aly: ¬(ix:Int)<0:=aG;have alz:(ix:Int)<(VN:Int):=aG;have gW:=bk.row;rw[hvv]at gW;have ki:=aF gW;have cU:=aF hc0;have M9:=aF (λ(X:World) (hX:w3.grownBy X none)=>XJ X fb nv vs nm ((bk.row.kept hX aH).cell 0) (bk.names.on (λb hb=>hX.block b (bk.er.b.lt b hb.1) aH) i20) hmem);rw[<-BM]at M9;clear hmem BM AY qa hvv gW hc0 T7;go_upto_region 13 with(fail)
    refine cC (λX=>X.cell? (fb,1)=some (.slice (some (g,0)) VN cap)/\X.cell? (W,3)=some (S nm)/\X.cell? (g,ix)=some (I (k.vars nm))) [0,0,0,0,0,0,0,1,0,0,0] (λwd hh=>⟨aO ki.out hh 1,aO bq.out hh 3,eP hh cU⟩) λwd hh hgd hS=> ?_;have bK:=aF hgd;clear hh hgd d0 d1 d2 d3;refine dS ?_;go_wp2_with (go_at_call 142;refine fX (M9 _ bK) ?_)
    refine bw (by assumption) λhS=> ?_;refine dP ?_;clear hS;go_wp2;go_ret;rw[HQ.out];exact aF (l8.ok (by rw[jc.out];show jV c.p m d k.vars e ns s2=_;unfold jV;rw[if_neg (cw cM),if_pos cM.out.symm,<-cv.out]) (gj.out.trans (bk.er.kf bK aJ)) (bk.er.quiet bK))
   ·clear uk;obtain⟨n0,rfl⟩:=List.length_eq_one_iff.1 (gL.2.trans (HOW.1 rfl));obtain⟨g,cap,rfl,hc0⟩:=eU.cell (i:=0) (x:=n0) rfl;simp only[aq,au,Nat.zero_add]at*;have cU:=aF hc0;have nk:=aF (λX=>YD eo n0 X);have⟨vo,iY⟩:=xq (qp eo n0);rw[<-iY]at nk;have VC:=aF iY;clear hc0 iY;go_upto_region 15 with(fail)
    refine cC (λX=>X.cell? (W,1)=some (I eo)/\X.cell? (g,0)=some (I n0)) [0,0,0,0,0,1,0,0,0,0] (λwd hh=>⟨aO bq.out hh 1,eP hh cU⟩) λwd hh hgd hS=> ?_;have bK:=aF hgd;clear hh hgd d0 d1 d2 d3;refine dS ?_;have mM:∃x ok,pW vo= .tuple #[I x, .bool ok]/\vo.getD 0=x:=by
     cases vo with
     |none=>exact⟨0,false,rfl,rfl⟩
     |some x=>exact⟨x,true,rfl,rfl⟩
    obtain⟨x,ok,hret,hx⟩:=mM;rw[hret]at nk;have VD:=aF hx;clear hret hx;go_wp2_with (go_at_call 66;refine fX (nk _) ?_)
    refine bw (by assumption) λhS=> ?_;refine dP ?_;clear hS;go_wp2;go_ret;rw[HQ.out];exact aF (l8.ok (by rw[jc.out];show jV c.p m d k.vars e [n0] s2=_;unfold jV;rw[if_neg (cw cM),if_neg (cw cM),if_pos cM.out.symm,<-yu.out,<-VD.out,VC.out];rfl) (gj.out.trans (bk.er.kf bK aJ)) (bk.er.quiet bK))
   ·clear uk;obtain⟨n0,n1,rfl⟩:=OH (gL.2.trans (HOW.2.1 rfl));obtain⟨g,cap,rfl,hc0⟩:=eU.cell (i:=0) (x:=n0) rfl;have hc1:=eU.cell' (i:=1) (x:=n1) rfl;simp only[aq,au,Nat.zero_add,Nat.reduceAdd]at*;have cU:=aF hc0;have nW:=aF hc1;have nk:=aF (λX=>YE eo n0 n1 X);have⟨vo,iY⟩:=xq (fC eo n0 n1);rw[<-iY]at nk;have hres:iA c.p c.most m d k.vars e s=aaF s2 vo:=by
     rw[jc.out,iY,yu.out];show jV c.p m d k.vars e [n0,n1] s2=_;unfold jV;rw[if_neg (cw cM),if_neg (cw cM),if_neg (cw cM),if_pos cM.out.symm];show(match fC e.op n0 n1 with|none=>_|some n=>_:b6 Int)=_;cases fC e.op n0 n1<;>rfl
    have cP:=aF hres;clear hc0 hc1 iY hres;cases vo with
    |none=>
     have gP:pW none= .tuple #[I 0, .bool false]:=rfl;rw[gP]at nk;clear gP;go_upto_region 17 with(fail)
     refine cC (λX=>X.cell? (W,1)=some (I eo)/\X.cell? (g,0)=some (I n0)/\X.cell? (g,1)=some (I n1)) [0,0,0,0,0,0,0,0,1,0,0,0,0,0] (λwd hh=>⟨aO bq.out hh 1,eP hh cU,eP hh nW⟩) λwd hh hgd hS=> ?_;have bK:=aF hgd;clear hh hgd d0 d1 d2 d3;refine dS ?_;go_wp2_with (go_at_call 67;refine fX (nk _) ?_)
     refine bw (by assumption) λhS=> ?_;refine dP ?_;clear hS;have hen:=Hi c F wd d s2 2 0 (bk.er.quiet bK);rw[<-bF.out]at hen;have wQ:=aF hen;clear hen;go_wp2_with (go_at_call 36;refine wQ.mono ?_;rintro e' w5⟨rfl,dL,cg⟩;have cZ:=aF dL;have dG:=aF cg;clear dL cg)
     go_ret;rw[HQ.out];exact aF (l8.stop cP rfl ((gj.out.trans (bk.er.kf bK aJ)).trans dG.out) cZ)
    |some x=>
     have gP:pW (some x)= .tuple #[I x, .bool true]:=rfl;rw[gP]at nk;clear gP;go_upto_region 17 with(fail)
     refine cC (λX=>X.cell? (W,1)=some (I eo)/\X.cell? (g,0)=some (I n0)/\X.cell? (g,1)=some (I n1)) [0,0,0,0,0,0,0,0,1,0,0,0,0,0] (λwd hh=>⟨aO bq.out hh 1,eP hh cU,eP hh nW⟩) λwd hh hgd hS=> ?_;have bK:=aF hgd;clear hh hgd d0 d1 d2 d3;refine dS ?_;go_wp2_with (go_at_call 67;refine fX (nk _) ?_)
     refine bw (by assumption) λhS=> ?_;refine dP ?_;clear hS;go_wp2;go_ret;rw[HQ.out];exact aF (l8.ok cP (gj.out.trans (bk.er.kf bK aJ)) (bk.er.quiet bK))
   ·clear uk;obtain⟨aa,ac,fa,fc,e1,e2⟩:=bk.er.b.px.slice;have hres:iA c.p c.most m d k.vars e s=if 50<=d then .stop 4 0 s2 else pT m.stmt d (qJ c.p (ji c.p nm)) ns s2:=by
     rw[jc.out];show jV c.p m d k.vars e ns s2=_;unfold jV;rw[if_neg (cw cM),if_neg (cw cM),if_neg (cw cM),if_neg (cw cM),if_neg (cw cM),if_neg (cw cM),N4,<-cv.out];rfl
    have cP:=aF hres;clear hres;have r7:=iI.k7;by_cases hd:50<=d
    ·have Gj:(50:Int)<=(d:Int):=aG;have hen:=Hi c F w3 d s2 4 0 bk.er;rw[<-bF.out]at hen;have wQ:=aF hen;clear hen e1 e2;go_wp2_with (go_at_call 36;refine wQ.mono ?_;rintro e' w5⟨rfl,dL,cg⟩;have cZ:=aF dL;have dG:=aF cg;clear dL cg)
     go_ret;rw[HQ.out];exact aF (l8.stop (by rw[cP.out,if_pos hd]) rfl (gj.out.trans dG.out) cZ)
    ·have Gj: ¬(50:Int)<=(d:Int):=aG;have Dc:=aF hd;have oJ:=(HOW.2.2.2 rfl);rw[<-cv.out]at oJ;obtain⟨j,hj,hjl⟩:=A3 (show¬ji c.p nm<0 by omega);have hj:ji c.p nm=(j:Nat):=hj;have hfn:qJ c.p (ji c.p nm)=c.p.funcs[j]:=by rw[hj,qJ,Int.toNat_natCast,List.getD_eq_getElem?_getD,ah hjl];rfl
     have⟨f,hf⟩:=xq (c.p.funcs[j]);have qc:c.p.funcs[j]? =some f:=by rw[ah hjl,hf]
     rw[<-hf]at hfn;have hpl:f.params.length=ns.length:=by rw[<-hfn,gL.2];exact oJ.2
     have eG:=aF (λ(X:World) (hX:w3.grownBy X none)=>Nt c.p nm _ _ X c.G (bk.er.b.px.grown hX aJ));rw[hj,e1,e2]at eG;have hrun:=iI.out;simp only[qL,e1,e2]at hrun;have⟨AN,iV⟩:=xq c.p.arrays.length;have⟨FN,nj⟩:=xq c.p.funcs.length;rw[<-iV,<-nj]at eG hrun;rw[<-iV]at e1;rw[<-nj]at e2;have E1:=aF e1;have E2:=aF e2;have oU:=aF hrun;have Kc:iA c.p c.most m d k.vars e s=pT m.stmt d f ns s2:=by rw[cP.out,if_neg Dc.out,hfn]
     have FP:=aF Kc;have Jo:=aF qc;have TH:=aF hpl;have hns:ns.length<=1000000000:=by
      have:=gL.2;obtain⟨_,_,_,_,h, -⟩:=sF.out;omega
     have VE:=aF (eU.l7 hns);obtain⟨oa,oc,rfl⟩:=eU.slice;clear hd oJ hj hfn hf hpl Kc iV nj hrun hns hjl qc e1 e2;go_upto_region 35 with(fail)
     refine yl (λX=>X.cell? (rb,0)=some (.slice aa AN ac)/\X.cell? (rb,1)=some (.slice fa FN fc)/\X.cell? (W,3)=some (S nm)) [(0,0),(0,1),(0,2),(0,3),(0,4),(0,5),(0,6),(0,8),(1,7),(1,9),(0,10)] (λwd hh=>⟨aO oU.out hh 0,aO oU.out hh 1,aO bq.out hh 3⟩) λwd hh hgd hS=> ?_;have bK:=aF hgd;clear hh hgd d0 d1 d2 d3 r7;refine dS ?_;go_wp2_with (go_at_call 35;refine aN (eG _ bK) λw4 aR=> ?_;clear hS)
     have hg4:=bX aR none;refine bw ⟨((oU.kept bK aH).ext aR).cell 0,((oU.kept bK aH).ext aR).cell 1,((bq.kept bK aH).ext aR).cell 3⟩ λhS=> ?_;refine Ek ?_;have Dd:QR c (λb=>(F b\/b=W.heap.size)\/(Value.slice oa ns.length oc).ownBlock=some b) w4 d s2 0 0 false:=(iz.quiet bK).quiet hg4;have hcall:=HB _ w4 d s2 j f _ ns Dd Jo TH (((VE.grown bK aJ λ_ _ h=>h).grown hg4 aJ λ_ _ h=>h).weak (λb hb=>aB (aB hb bK.size) aR.size) λ_ _ h=>h) (by have:=HR.out;have:=gD.out;have:=ua (most:=c.most) gL.1;omega) (cw Dc);rw[<-bF.out]at hcall;have⟨r5,bp⟩:=xq (pT m.stmt d f ns s2);rw[<-bp]at hcall FP;have jk:=aF hcall;have hk4:KF F W w4:=(gj.out.trans (bk.er.kf bK aJ)).trans ((bk.er.quiet bK).kf hg4 aJ);have bR:=aF hk4;have cI:=aF ((bq.kept bK aH).ext aR);clear hS Dd hcall bp hk4 hg4;refine h_ ?_;cases r5 with
     |stop a b' s5=>
      go_wp2_with (go_at_call 34;refine jk.mono ?_;rintro e' w5⟨cg,n5,rfl,dL⟩;have dG:=aF cg;have cZ:=aF dL;clear cg dL)
      obtain⟨Da,Db,bp, -⟩:=cZ.rows;simp only[qL,E1.out,E2.out]at bp;rw[<-bF.out]at bp;refine bw ⟨bp.cell 0,bp.cell 1,(dG.row cI (.inl (.inr rfl))).cell 3⟩ λhS=> ?_;clear bp;refine dP ?_;clear hS;go_wp2;go_ret;rw[HQ.out];exact aF (l8.stop FP rfl (bR.out.trans (dG.mono λb hb=> .inl (.inl hb))) (cZ.less (λb hb=> .inl (.inl hb)) HH.er.b.gf))
     |ok n s5=>
      go_wp2_with (go_at_call 34;refine jk.mono ?_;rintro e' w5⟨cg,n5,rfl,rz,dL⟩;have dG:=aF cg;have cZ:=aF dL;have jX:=aF rz;clear cg dL rz)
      obtain⟨Da,Db,bp, -⟩:=cZ.rows;simp only[qL,E1.out,E2.out]at bp;rw[<-bF.out]at bp;refine bw ⟨bp.cell 0,bp.cell 1,(dG.row cI (.inl (.inr rfl))).cell 3⟩ λhS=> ?_;clear bp;refine dP ?_;clear hS;go_wp2;go_ret;rw[HQ.out];exact aF (l8.ok (by rw[FP.out,jX.out]) (bR.out.trans (dG.mono λb hb=> .inl (.inl hb))) (cZ.less (λb hb=> .inl (.inl hb)) HH.er.b.gf))
   ·clear uk;obtain⟨n0,rfl⟩:=List.length_eq_one_iff.1 (gL.2.trans (HOW.2.2.1 rfl).1);have oJ:=(HOW.2.2.1 rfl).2;obtain⟨g,cap,rfl,hc0⟩:=eU.cell (i:=0) (x:=n0) rfl;simp only[aq,au,Nat.zero_add]at*;rw[<-cv.out]at oJ;obtain⟨i,hi,hil⟩:=A3 (show¬lK c.p nm<0 by omega);have hi:lK c.p nm=(i:Nat):=hi;rw[<-bk.er.b.yg]at hil;obtain⟨x0,hx0⟩:∃x,c.gz[i]? =some x:=⟨_,ah hil⟩;obtain⟨l,hl⟩:∃l,s2.fB[i]? =some l:=⟨_,ah (by rw[bk.er.b.len];exact hil)⟩;obtain⟨hrl,hll⟩:=bk.er.b.arr i x0 l hx0 hl;obtain⟨ga,na⟩:=x0;have hll:l.length=na:=hll;have hrl:Row w3 ga 3 (l.map I):=hrl;have jS:tK c.p s2 nm=l:=by
     unfold tK yN;rw[hi,Int.toNat_natCast,List.getD_eq_getElem?_getD,hl];rfl
    have hres:iA c.p c.most m d k.vars e s=if n0<0\/(na:Int)<=n0 then .stop 3 0 s2 else .ok (l.getD n0.toNat 0) s2:=by
     rw[jc.out];show jV c.p m d k.vars e [n0] s2=_;unfold jV;rw[if_neg (cw cM),if_neg (cw cM),if_neg (cw cM),if_neg (cw cM),if_pos cM.out.symm,<-cv.out,jS,hll];rfl
    have cP:=aF hres;have cU:=aF hc0;obtain⟨aa,ac,fa,fc,e1,e2⟩:=bk.er.b.px.slice;have eG:=aF (λ(X:World) (hX:w3.grownBy X none)=>Ns c.p nm _ _ X c.G (bk.er.b.px.grown hX aJ));rw[hi,e1,e2]at eG;have hrun:=iI.out;simp only[qL,e1,e2]at hrun;obtain⟨ra,rc,gP,_,o6⟩:=bk.er.b.eW;rw[gP]at hrun;obtain⟨ab,ao,rfl,_,hat⟩:=o6.resolve_left (by intro e;rw[e]at hil;simp at hil);obtain⟨C,hC,hx⟩:=hat i _ hx0;have hx:C 0= .slice (some (ga,0)) na na:=hx;have e3:=hC 0 aG;rw[hx]at e3;simp only[Nat.mul_one,aA]at e3;have⟨AN,iV⟩:=xq c.p.arrays.length;have⟨FN,nj⟩:=xq c.p.funcs.length;have⟨GN,M_⟩:=xq c.gz.length;rw[<-iV,<-nj]at eG hrun;rw[<-M_]at hrun hil;have oU:=aF hrun;have AK:=aF e3;have hiz: ¬(i:Int)<0:=aG;have hin:(i:Int)<(GN:Int):=aG;have hcell: ¬(n0<0\/(na:Int)<=n0)->w3.cell? (ga,n0.toNat)=some (I (l.getD n0.toNat 0)):=λh=>by
     have hlt:n0.toNat<l.length:=aG;rw[hrl.cell,List.getElem?_map,ah hlt,List.getD_eq_getElem?_getD,ah hlt];rfl
    have⟨y,hy⟩:=xq (l.getD n0.toNat 0);rw[<-hy]at hcell cP;have oo:=aF hcell;clear hc0 oJ hi hil hx0 hl hrl hll jS hres hcell hy e1 e2 gP o6 hat hC hx e3 hrun iV nj M_;by_cases hb:n0<0\/(na:Int)<=n0
    ·have DY:=aF (cP.out.trans (if_pos hb));clear oo cP;go_upto_region 21 with(fail)
     refine cC (λX=>X.cell? (rb,0)=some (.slice aa AN ac)/\X.cell? (rb,1)=some (.slice fa FN fc)/\X.cell? (rb,4)=some (.slice (some (ab,ao)) GN rc)/\X.cell? (W,3)=some (S nm)/\X.cell? (ab,ao+i)=some (.slice (some (ga,0)) na na)) [0,0,0,0,0,0,0,0,0,0,1,0,0,0] (λwd hh=>⟨aO oU.out hh 0,aO oU.out hh 1,aO oU.out hh 4,aO bq.out hh 3,eP hh AK⟩) λwd hh hgd hS=> ?_;have bK:=aF hgd;clear hh hgd d0 d1 d2 d3;refine dS ?_;go_wp2_with (go_at_call 137;refine aN (eG _ bK) λw4 aR=> ?_;clear hS)
     have hg4:=bX aR none;have AZ:=aS (aS AK bK aH) hg4 aH;have rE:=(oU.kept bK aH).ext aR;refine bw ⟨rE.cell 0,rE.cell 1,rE.cell 4,((bq.kept bK aH).ext aR).cell 3,AZ⟩ λhS=> ?_;refine dP ?_;clear hS AZ rE;have e3:=aS (aS cU bK aH) hg4 aH;have Wj:=aF ((bk.er.quiet bK).quiet hg4);have bR:Hid (KF F W w4):=(gj.out.trans (bk.er.kf bK aJ)).trans ((bk.er.quiet bK).kf hg4 aJ);have hen:=Hi c F w4 d s2 3 0 Wj;rw[<-bF.out]at hen;have wQ:=aF hen;clear hen hg4;by_cases h1:n0<0
     ·clear hb;go_wp2_with (go_at_call 36;refine wQ.mono ?_;rintro e' w5⟨rfl,dL,cg⟩;have cZ:=aF dL;have dG:=aF cg;clear dL cg)
      go_ret;rw[HQ.out];exact aF (l8.stop DY rfl (bR.out.trans dG.out) cZ)
     ·have h2:(na:Int)<=n0:=aG;clear hb;go_wp2_with (go_at_call 36;refine wQ.mono ?_;rintro e' w5⟨rfl,dL,cg⟩;have cZ:=aF dL;have dG:=aF cg;clear dL cg)
      go_ret;rw[HQ.out];exact aF (l8.stop DY rfl (bR.out.trans dG.out) cZ)
    ·have DY:=aF (cP.out.trans (if_neg hb));have Il:=aF (oo hb);obtain⟨ME,Lx⟩:∃n:Nat,n0=n:=⟨n0.toNat,aG⟩;rw[Lx,Int.toNat_natCast]at Il;subst Lx;have h1: ¬(ME:Int)<0:=aG;have h2: ¬(na:Int)<=(ME:Int):=aG;have h3:(ME:Int)<(na:Int):=aG;clear oo cP hb;go_upto_region 21 with(fail)
     refine cC (λX=>X.cell? (rb,0)=some (.slice aa AN ac)/\X.cell? (rb,1)=some (.slice fa FN fc)/\X.cell? (rb,4)=some (.slice (some (ab,ao)) GN rc)/\X.cell? (W,3)=some (S nm)/\X.cell? (ab,ao+i)=some (.slice (some (ga,0)) na na)) [0,0,0,0,0,0,0,0,0,0,1,0,0,0] (λwd hh=>⟨aO oU.out hh 0,aO oU.out hh 1,aO oU.out hh 4,aO bq.out hh 3,eP hh AK⟩) λwd hh hgd hS=> ?_;have bK:=aF hgd;clear hh hgd d0 d1 d2 d3;refine dS ?_;go_wp2_with (go_at_call 137;refine aN (eG _ bK) λw4 aR=> ?_;clear hS)
     have hg4:=bX aR none;have AZ:=aS (aS AK bK aH) hg4 aH;have rE:=(oU.kept bK aH).ext aR;refine bw ⟨rE.cell 0,rE.cell 1,rE.cell 4,((bq.kept bK aH).ext aR).cell 3,AZ⟩ λhS=> ?_;refine dP ?_;clear hS AZ rE;have e3:=aS (aS cU bK aH) hg4 aH;have hq4:=(bk.er.quiet bK).quiet hg4;have hk4:KF F W w4:=(gj.out.trans (bk.er.kf bK aJ)).trans ((bk.er.quiet bK).kf hg4 aJ);have Wj:=aF hq4;have bR:=aF hk4;have e4:=aS (aS Il bK aH) hg4 aH;clear hq4 hk4 hg4;go_wp2;go_ret;rw[HQ.out];exact aF (l8.ok DY bR Wj)
   ·clear uk;have hres:iA c.p c.most m d k.vars e s=xM s2:=by
     rw[jc.out];show jV c.p m d k.vars e ns s2=_;unfold jV;rw[if_neg (cw cM),if_neg (cw cM),if_neg (cw cM),if_neg (cw cM),if_neg (cw cM),if_pos cM.out.symm];rfl
    have cP:=aF hres;obtain⟨ia,ik,rK,hil⟩:=T6.room;have⟨n,hn⟩:=xq s2.inp.length;rw[<-hn]at rK hil;have hrun:=iI.out;simp only[qL,rK]at hrun;have r2:=hrun.k2;have f2:=hrun.frozen 2;have HN:=aF hn;have Ph:=aF rK;clear hres hn hrun rK;by_cases h0:n=0
    ·subst h0;go_wp2;go_ret;rw[HQ.out];have hs:s2.inp= []:=List.eq_nil_of_length_eq_zero HN.out.symm;exact aF (l8.ok (by rw[cP.out];unfold xM;rw[hs]) gj bk.er)
    ·obtain⟨x,l,hs⟩:∃x l,s2.inp=x::l:=by
      cases hs:s2.inp with
      |nil=>exact absurd (by rw[HN.out,hs];rfl) h0
      |cons x l=>exact⟨x,l,rfl⟩
     obtain⟨q,rfl⟩:∃q,n=q+1:=⟨n - 1,aG⟩;obtain⟨ia',ik',abx, -,Mk⟩:=T6.sl;obtain⟨b,o,jz,hG,hat⟩:=Mk.resolve_left (by rw[hs];simp);have alA:ia=some ⟨b,o,none⟩:=by
      have:=Ph.out.symm.trans abx;simp only[Value.slice.injEq]at this;rw[this.1,jz]
     subst alA;obtain⟨C,hC,hx⟩:=hat 0 x (by rw[hs];rfl);have e0:=hC 0 aG;rw[show C 0=I x from hx]at e0;simp only[Nat.zero_mul,aA]at e0;have HS:=aF hs;have hend:=λ(a:Addr) (ha:ik=1/\q=0\/a=(b,o+1))=>bk.er.read (bF.out▸iI.out) T6 alv alx Ph hs a ha
     rw[<-bF.out]at hend;have yT:=aF hend;clear hs abx Mk jz hat hC hx hend h0;have UX:(0:Int)<((q+1:Nat):Int):=aG
     by_cases hc1:ik=1
     ·subst hc1;obtain rfl:q=0:=aG;go_wp2;go_ret;rw[HQ.out];obtain⟨h1,h2⟩:=yT (b,o) aH;exact aF (l8.ok (by rw[cP.out];unfold xM;rw[HS.out]) (gj.out.trans h2) h1)
     ·go_wp2;go_ret;rw[HQ.out];obtain⟨h1,h2⟩:=yT _ (.inr rfl);exact aF (l8.ok (by rw[cP.out];unfold xM;rw[HS.out]) (gj.out.trans h2) h1)
end
end Go.Proofs.YtjgbkdbkachciaaGreatDoor
