import Derived.Test.YtjgbkdbkachciaaGreatDoorC7
import Derived.Test.YtjgbkdbkachciaaGreatDoorE2
import Derived.Test.YtjgbkdbkachciaaGreatDoorO4
import Derived.Test.YtjgbkdbkachciaaGreatDoorP7
set_option linter.all false
namespace Go.Proofs.YtjgbkdbkachciaaGreatDoor
set_option maxRecDepth 100000
set_option maxHeartbeats 16000000
section
open Go.RowKit Go.Shelf
attribute [local go_sem] Oper.semAt_some
def Be (p:LP) (w:World) (e:Ending) (w':World):Prop:=(∃(c x y:Int),e= .returned (.tuple #[I c, .agg #[I x,I y]])/\(c=0↔s6 p)/\(c=0->x=0/\y=0))/\Below w.heap.size w w'
theorem Be.no {p:LP} {w wo:World} {c x y:Int} (hc:c≠0) (hn: ¬s6 p) (hb:Below w w wo):
  Be p w (.returned (.tuple #[I c, .agg #[I x,I y]])) ((wo.setCell (w,1,0) (I x)).setCell (w,1,1) (I y)):=
 ⟨⟨c,x,y,rfl,⟨λh=>absurd h hc,λh=>absurd h hn⟩,λh=>absurd h hc⟩,(Ca (c:=1) aQ hb).2⟩
theorem Be.yes {p:LP} {w wo:World} (hn:s6 p) (hb:Below w w wo):
  Be p w (.returned (.tuple #[I 0, .agg #[I 0,I 0]])) ((wo.setCell (w,1,0) (I 0)).setCell (w,1,1) (I 0)):=
 ⟨⟨0,0,0,rfl,⟨λ_=>hn,λ_=>rfl⟩,λ_=>⟨rfl,rfl⟩⟩,(Ca (c:=1) aQ hb).2⟩
theorem afg (B:Nat->Prop) (p:LP) (av fv:Value) (w:World) (hx:PX B w av fv p) (hap:sP p) (hsp:DA p) (hok:kR p) (ht:nS (j3 p)=false) (hN:p.arrays.length+p.funcs.length<=1000000000) (jT:∀f∈p.funcs,f.params.length+f.locals.length<=1000000000):
  Calls Tryz.prog 33 #[.agg #[av,fv]] w (Be p w):=by
 obtain⟨aa,ac,fa,fc,rfl,rfl⟩:=hx.slice;have⟨an,dI⟩:=xq p.arrays.length;have⟨fn,hfn⟩:=xq p.funcs.length;rw[<-dI,<-hfn]at hx|-;have eT:=aF hfn;have mD:=aF dI;obtain⟨w0,hw0⟩:∃w0,w0=(w.alloc (.cells #[.slice aa an ac, .slice fa fn fc] 27)).alloc (.cells #[.int .i64 0, .int .i64 0] 72):=⟨_,rfl⟩;have dO:=hw0.symm;have bg:=aF (show Below w w w0 by rw[hw0];exact nR _ _ _);have hr1:Row w0 w 27 [.slice aa an ac, .slice fa fn fc]:=by rw[hw0];exact dV _ _ hn0
 have hr3:Row w0 (w,1) 72 [I 0,I 0]:=by rw[hw0];exact jF aH
 have c0:=hr1.k0;have c1:=hr1.k1;have bC:=aF hr1;have bL:=aF hr3;have HX:=aF hx;have ux:=λW (hb:Below w w W)=>QF p hap hsp _ _ W B (hx.below hb)
 rw[t_ hok]at ux;have qy:=aF ux;have⟨al,hal⟩:=xq (p.arrays.map (·.name));have⟨fl,hfl⟩:=xq (p.funcs.map (·.name));have hgl:j3 p=al++fl:=by rw[hal,hfl];rfl
 have HGT:=aF ht;rw[hgl]at ht;have qZ:=aF hgl;have ru:=aF jT;have GV:=aF ht;have jM:=aF hal;have rQ:=aF hfl;have oI:=aF hN;clear hx hap hsp hok hw0 hr1 hr3 ux hfn dI hal hfl hgl ht hN jT;go_enter Tryz.func33,Tryz.ntmps33;go_upto_region 4 with(go_at_call 54;refine aN (qy _ bg) λw2 hb1=> ?_;have hb2:=bg.out.trans (hb1.mono bg.size);have hr:=bC.ext hb1;clear c0 c1;have c0:=hr.k0;have c1:=hr.k1;have fY:=aF hb2;have kH:=aF hr;have dz:=bA bL hb1;clear hb2 hr)
 go_upto_region 6 with(fail)
 go_loopg [5,6] an (λgh v i wr=>∃k:Nat,gh+k=an/\i=I k/\wr.cell? (w,0)=some (.slice aa an ac)/\wr.cell? (w,1)=some (.slice fa fn fc)/\Hid (Below w w wr/\Row wr w 27 [.slice aa an ac, .slice fa fn fc]/\Row wr (w,1) 72 [I 0,I 0]/\a_ 1 9 fR wr (w,2) v (al.take k)))
 case atStart=>exact⟨0,rfl,rfl,c0,c1,aF ⟨fY,kH,dz,a_.nil⟩⟩
 case round=>
  obtain⟨k,hg,rfl,d0,d1,HH⟩:=hrel;clear c0 c1;obtain⟨wo,rfl⟩:=xq wr;by_cases hlt:k<an
  ·have bT:(k:Int)<(an:Int):=aG;have hbig:an<=1000000000:=by have:=oI.out;have:=mD.out;omega
   obtain⟨b,o,C,rfl,_,hC,hrx⟩:=(HX.arrays.below HH.out.1 (λC x h=>h)).at (show k<p.arrays.length by rw[<-mD.out];exact hlt);have wU:k<p.arrays.length:=by rw[<-mD.out];exact hlt
   have⟨x,hx⟩:=xq (p.arrays[k]);rw[<-hx]at hrx;obtain⟨h0,h1⟩:=hrx;have e0:=hC 0 aG;rw[h0]at e0;simp only[aA]at e0;have htk:al.take (k+1)=al.take k++ [x.name]:=by
    rw[jM.out,List.take_succ_eq_append_getElem (by simpa using wU)];simp [hx]
   have⟨tl,htl⟩:=xq (al.take k);rw[<-htl]at htk;have hlk:tl.length<=1000000000:=by have:=oI.out;rw[htl,jM.out,List.length_take,aC];omega
   have ho0:=HH.out.2.2.2;rw[<-htl]at ho0;have fL:=aF htk;have oL:=aF ho0;have hz3:w.heap.size+2<=wo.heap.size:=HH.out.2.2.1.lt;clear hC h0 h1 hx htk htl ho0 wU;obtain⟨va,vc,rfl⟩:=oL.slice;go_wp2_with (at_builtin;refine lX wu rfl _ _ rfl qC Ho (w.heap.size+2) _ tl rfl (a_.tag oL.out iD eF) wo.heap.size x.name rfl (λj hj=>(cell_of_block (cj wo (.cells #[S x.name] 9)) j).trans (by simp [fR])) hlk aG ct ?_;intro g2 cap2 w5 fT cD qu uX;have dQ:=aF fT;have cL:=aF ((HH.out.2.1.kept (cE _ (.cells #[S x.name] 9) none) aH).kept cD (λe=>by have:=(cO (a_.tag oL (cE _ (.cells #[S x.name] 9) none) eF) _ e.symm).1;omega));have cZ:=aF ((HH.out.2.2.1.kept (cE _ (.cells #[S x.name] 9) none) aH).kept cD (λe=>by have:=(cO (a_.tag oL (cE _ (.cells #[S x.name] 9) none) eF) _ e.symm).1;omega));have bW:=aF ((HH.out.1.alloc HH.out.1.size (.cells #[S x.name] 9)).grown cD (by have:=HH.out.1.size;simp;omega) (λr e=>by have:=(cO (a_.tag oL (cE _ (.cells #[S x.name] 9) none) eF) _ e).1;omega));clear fT cD qu)
   have bp:=cL.out;have f0:=bp.k0;have f1:=bp.k1;go_roundg (an - (k+1))
   case measure=>omega
   case rel=>exact⟨k+1,aG,by go_num,f0,f1,aF ⟨bW,cL,cZ,by rw[fL.out];simpa using dQ.out⟩⟩
  ·have bT: ¬(k:Int)<(an:Int):=aG;have dQ:=aF (show a_ 1 9 fR wo (w,2) _ al by have:=HH.out.2.2.2;rwa[List.take_of_length_le (by rw[jM.out];have:=mD.out;simp;omega)]at this);go_upto_region 10 with(fail)
   go_loopg [5,7] fn (λgh v i wr=>∃k:Nat,gh+k=fn/\i=I k/\wr.cell? (w,0)=some (.slice aa an ac)/\wr.cell? (w,1)=some (.slice fa fn fc)/\Hid (Below w w wr/\Row wr w 27 [.slice aa an ac, .slice fa fn fc]/\Row wr (w,1) 72 [I 0,I 0]/\a_ 1 9 fR wr (w,2) v (al++fl.take k)))
   case atStart=>exact⟨0,rfl,rfl,d0,d1,aF ⟨HH.out.1,HH.out.2.1,HH.out.2.2.1,by simpa using dQ.out⟩⟩
   case round=>
    clear HH;obtain⟨j,hg2,rfl,c0,c1,HH⟩:=hrel;clear d0 d1;obtain⟨wq,rfl⟩:=xq wr;by_cases qI:j<fn
    ·have yO:(j:Int)<(fn:Int):=aG;have hbig:fn<=1000000000:=by have:=oI.out;have:=eT.out;omega
     have wU:j<p.funcs.length:=by rw[<-eT.out];exact qI
     obtain⟨b,o,C,rfl,_,hC,hrx⟩:=(HX.funcs.below HH.out.1 (λC x h=>h.grown (bX HH.out.1 none) aJ)).at wU;have⟨x,hx⟩:=xq (p.funcs[j]);rw[<-hx]at hrx;obtain⟨h0, -⟩:=hrx;have e0:=hC 0 aG;rw[h0]at e0;simp only[aA]at e0;have htk:al++fl.take (j+1)=al++fl.take j++ [x.name]:=by
      rw[rQ.out,List.take_succ_eq_append_getElem (by simpa using wU),List.append_assoc];simp [hx]
     have⟨tl,htl⟩:=xq (al++fl.take j);rw[<-htl]at htk;have hlk:tl.length<=1000000000:=by have:=oI.out;rw[htl,jM.out,rQ.out,ax,List.length_take,aC,aC];omega
     have ho0:=HH.out.2.2.2;rw[<-htl]at ho0;have fL:=aF htk;have oL:=aF ho0;have hz3:w.heap.size+2<=wq.heap.size:=HH.out.2.2.1.lt;clear hC h0 hx htk htl ho0 wU;obtain⟨va,vc,rfl⟩:=oL.slice;go_wp2_with (at_builtin;refine lX wu rfl _ _ rfl qC Ho (w.heap.size+2) _ tl rfl (a_.tag oL.out iD eF) wq.heap.size x.name rfl (λj hj=>(cell_of_block (cj wq (.cells #[S x.name] 9)) j).trans (by simp [fR])) hlk aG ct ?_;intro g2 cap2 w5 fT cD qu uX;have dQ:=aF fT;have cL:=aF ((HH.out.2.1.kept (cE _ (.cells #[S x.name] 9) none) aH).kept cD (λe=>by have:=(cO (a_.tag oL (cE _ (.cells #[S x.name] 9) none) eF) _ e.symm).1;omega));have cZ:=aF ((HH.out.2.2.1.kept (cE _ (.cells #[S x.name] 9) none) aH).kept cD (λe=>by have:=(cO (a_.tag oL (cE _ (.cells #[S x.name] 9) none) eF) _ e.symm).1;omega));have bW:=aF ((HH.out.1.alloc HH.out.1.size (.cells #[S x.name] 9)).grown cD (by have:=HH.out.1.size;simp;omega) (λr e=>by have:=(cO (a_.tag oL (cE _ (.cells #[S x.name] 9) none) eF) _ e).1;omega));clear fT cD qu)
     have bp:=cL.out;have f0:=bp.k0;have f1:=bp.k1;go_roundg (fn - (j+1))
     case measure=>omega
     case rel=>exact⟨j+1,aG,by go_num,f0,f1,aF ⟨bW,cL,cZ,by rw[fL.out];simpa using dQ.out⟩⟩
    ·have yO: ¬(j:Int)<(fn:Int):=aG;have jB:=HH.out.2.2.2;rw[List.take_of_length_le (by rw[rQ.out];have:=eT.out;simp;omega)]at jB;have G3:=GV.out;have⟨gl,hgl⟩:=xq (al++fl);rw[<-hgl]at jB G3;have oP:gl.length<=1000000000:=by have:=oI.out;rw[hgl,ax,jM.out,rQ.out,aC,aC];exact this
     have hroom:=jB.room;obtain⟨va,vc,rfl⟩:=jB.slice;have hrs:aP (w.heap.size+2<=·) 1 dc wq (.slice va gl.length vc) gl:=by simpa using jB.l7 (R:=dc) (λx=>x) qC oP (λx _=>rfl)
     have yI:=QI wq _ gl hrs hroom;rw[G3]at yI;have⟨gn,cN⟩:=xq gl.length;rw[<-cN]at yI hrs|-;have oG:=aF yI;have cP:=aF hrs;have nt:=aF HH.out.1;have HPQ:=aF HH.out.2.1;have jc:=aF HH.out.2.2.1;have EI:=aF (qZ.out.trans hgl.symm);clear jB oP hrs yI HH hroom hgl cN G3 dQ;go_upto_region 15 with(go_at_call 55;refine aN oG λw6 bV=> ?_;have cY:=aU nt bV;have uv:=bA jc bV;have fD:=bA HPQ bV;have C9:=aF (cP.below bV λ_ _ h=>h))
     clear c0 c1;have p60:=fD.k0;have p61:=fD.k1;have hpl:=Nt p dX _ _ w6 B (HX.below cY);have⟨Z,hZ⟩:=xq (ji p dX);rw[<-hZ]at hpl;have eG:=aF hpl;have HZ:=aF hZ;clear hpl hZ;go_upto_region 16 with(go_at_call 35;refine aN eG λw7 fS=> ?_;have iK:=aU cY fS;have oK:=bA uv fS;have sY:=bA fD fS;have HA7:=aF (C9.below fS λ_ _ h=>h))
     clear p60 p61;have WG:=sY.k1;by_cases hz:Z<0
     ·clear WG;have hq:=oK.out;have q0:=hq.k0;have q1:=hq.k1;have p0:=hq.frozen 0;have p1:=hq.frozen 1;have kE:=aF hq;clear hq;go_wp2;refine bodyPost_ret (ET rfl rfl ((kE.set 0 _).set 1 _)) rfl ?_;exact Be.no aQ (λh=>by obtain⟨k',hk',_⟩:=h.main;rw[<-HZ.out]at hk';omega) iK
     obtain⟨m,hm,pG⟩:=A3 (show¬ji p dX<0 by rw[<-HZ.out];exact hz);have hm:Z=(m:Nat):=HZ.out.trans hm;subst hm;obtain⟨b,o,C,rfl,_,hC,hrx⟩:=(HX.below iK).funcs.at pG;obtain⟨hn0,gV,eD,jm⟩:=hrx;obtain⟨pa,pc,hp1, -, -⟩:=id gV;have e1:=hC 1 aG;rw[hp1]at e1;have⟨pn,jx⟩:=xq (p.funcs[m].params.length);rw[<-jx]at e1;have vh:=aF jx;have zu: ¬(m:Int)<0:=aG;have G0:(m:Int)<(fn:Int):=by have:=eT.out;omega
     have HML:=aF pG;clear hC hn0 gV eD jm hp1 jx hz;by_cases hp0:0<pn
     ·have Ms:(0:Int)<(pn:Int):=aG;have hq:=oK.out;have q0:=hq.k0;have q1:=hq.k1;have p0:=hq.frozen 0;have p1:=hq.frozen 1;have kE:=aF hq;clear hq;go_wp2;refine bodyPost_ret (ET rfl rfl ((kE.set 0 _).set 1 _)) rfl ?_;exact Be.no aQ (λh=>by
       obtain⟨k',hk',hk2,hk3⟩:=h.main;have:=HZ.out.trans hk';obtain rfl:m=k':=aG;have h0:=vh.out;rw[hk3]at h0;simp at h0;omega) iK
     have Ms: ¬(0:Int)<(pn:Int):=aG;go_wp2;clear e1 zu G0 Ms;go_loopg [9] fn (λgh i wr=>∃q:Nat,gh+q=fn/\i=I q/\wr.cell? (w,1)=some (.slice (some (b,o)) fn fc)/\Hid (Below w7 w7 wr/\∀(i:Nat) (hi:i<p.funcs.length),i<q->ot p p.funcs[i]=0))
     case atStart=>exact⟨0,aG,rfl,WG,aF ⟨Below.refl _ _,λi hi h=>absurd h aG⟩⟩
     case round=>
      clear WG;obtain⟨q,hgq,rfl,De,HL⟩:=hrel;obtain⟨wx,rfl⟩:=xq wr;have vJ:=aF HL.out.1;have sx:=aF HL.out.2;have yf:=aF (iK.out.trans (HL.out.1.mono iK.size));have Jr:=aF (oK.ext HL.out.1);have qR:=aF (sY.ext HL.out.1);have HA8:=aF (HA7.below HL.out.1 λ_ _ h=>h);clear HL;by_cases hqf:q<fn
      ·have UX:(q:Int)<(fn:Int):=aG;have hqn: ¬(q:Int)<0:=aG;have hq9:q<=1000000000:=by have:=oI.out;have:=eT.out;omega
       have WH:q<p.funcs.length:=by rw[<-eT.out];exact hqf
       obtain⟨b',o',C,jz,_,hC,hrx⟩:=(HX.below yf).funcs.at WH;simp only[Option.some.injEq,Addr.mk.injEq,and_true]at jz;obtain⟨rfl,rfl⟩:=jz;obtain⟨hn0,gV,eD,jm⟩:=hrx;have⟨f,hf⟩:=xq (p.funcs[q]);rw[<-hf]at hn0 gV eD jm;have zk:=ru f (hf▸ak WH);obtain⟨dd,jm⟩:=jm;obtain⟨pa,pc,hp1, -, -⟩:=id gV;obtain⟨la,lc,nY, -, -⟩:=id eD;obtain⟨ba,bc,hb1, -, -⟩:=id jm;have e1:=hC 1 aG;have e2:=hC 2 aG;have e3:=hC 3 aG;rw[hp1]at e1 gV;rw[nY]at e2 eD;rw[hb1]at e3 jm;have⟨pn,jx⟩:=xq f.params.length;have⟨ln,nJ⟩:=xq f.locals.length;have⟨bn,uQ⟩:=xq f.body.length;rw[<-jx]at e1 gV zk;rw[<-nJ]at e2 eD zk;rw[<-uQ]at e3 jm;have HF:=aF hf;have vN:=aF gV;have gL:=aF eD;have AH:=aF jm;have pY:=aF e1;have lS:=aF e2;have iz:=aF e3;have x_:=aF zk;have UD:=aF jx;have tU:=aF nJ;have HQL:=aF WH;clear hC hn0 gV eD jm hp1 nY hb1 jx nJ uQ hf e1 e2 e3 zk;go_upto_region 21 with(fail)
       refine yl (λX=>X.cell? (w,1)=some (.slice (some (b,o)) fn fc)/\X.cell? (b,o+q*4+1)=some (.slice pa pn pc)/\X.cell? (b,o+q*4+2)=some (.slice la ln lc)) [(0,0),(0,1),(0,2),(0,3),(0,4),(0,5),(0,7),(0,8),(0,9),(0,10),(0,11),(0,12),(1,6),(1,13),(0,14)] (λwd hh=>⟨aO qR.out hh 1,eP hh pY,eP hh lS⟩) λwd hh hgd hS=> ?_;have bE:=aF (show Below wx wx wd from⟨hgd.os,hgd.tape,hgd.output,hgd.size,λk hk=>hgd.block k hk aH⟩);have⟨B1,Jq⟩:=xq wx.heap.size;have Wp:B1<=wd.heap.size:=by rw[Jq];exact hgd.size
       have uf:=aF Jq;clear hh hgd De Jq;refine dS ?_;go_wp2_with (at_builtin;refine xI rfl _ _ rfl B1 _ _ rfl a_.nil _ f.params rfl (vN.below bE.out λ_ _ h=>h) (by have:=x_.out;have:=UD.out;simp;omega) aG ?_;intro v1 w1 mN hg1;have hg1:wd.grownBy w1 none:=hg1;have fk:=aF mN;have ey:=dF bE hg1;have O1:B1<=w1.heap.size:=az Wp hg1.size;clear mN hg1 hS)
       refine bw ⟨(qR.ext ey).cell 1,aS pY (aT ey) aH,aS lS (aT ey) aH⟩ λhS=> ?_;refine h_ ?_;go_wp2_with (at_builtin;refine xI rfl _ _ rfl B1 v1 _ rfl fk.out _ f.locals rfl (gL.below ey.out λ_ _ h=>h) (by have:=x_.out;have:=UD.out;have:=tU.out;simp;omega) aG ?_;intro v2 w2 jh hg2;have kX:=aF jh;have xe:=aF (Q9 ey hg2 fk (Nat.le_of_eq uf.out.symm));have abF:B1<=w2.heap.size:=az O1 hg2.size;clear jh hg2 hS)
       refine bw ⟨(qR.ext xe).cell 1,aS pY (aT xe) aH,aS lS (aT xe) aH⟩ λhS=> ?_;refine dP ?_;clear hS;have⟨vs,hvs⟩:=xq (f.params++f.locals);have jh:a_ 1 9 fR w2 B1 v2 vs:=by
        have:=kX.out;rw[List.nil_append,<-hvs]at this;exact this
       have hvl:vs.length<=1000000000:=by have:=x_.out;have:=UD.out;have:=tU.out;rw[hvs,ax];omega
       obtain⟨x2,y2,rfl⟩:=jh.slice;have hroom:=jh.room;have gP:aP (B1<=·) 1 dc w2 (.slice x2 vs.length y2) vs:=by simpa using jh.l7 (R:=dc) (λx=>x) qC hvl (λx _=>rfl)
       have gu:=QI w2 _ vs gP hroom;have⟨tb,kr⟩:=xq (nS vs);have⟨vn,En⟩:=xq vs.length;rw[<-kr,<-En]at gu;rw[<-En]at gP|-;have AJ:=aF gu;have HRV:=aF gP;have Gx:=aF En;have HTB:=aF kr;have nO:=aF hvs;have aqk:vn<=1000000000:=by rw[En];exact hvl
       clear jh hroom gP gu kr En hvs hvl kX;go_upto_region 23 with(go_at_call 55;refine aN AJ λw3 hb3=> ?_;have vk:=aF ((xe.out.trans (hb3.mono xe.size)));have acm:=aF (HRV.below hb3 λ_ _ h=>h))
       go_wp2;go_loopg [11,12] vn (λgh bd i wr=>∃j:Nat,gh+j=vn/\i=I j/\bd= .bool (tb||(vs.take j).any (λs=>decide (s∈gl)))/\wr=w3)
       case atStart=>exact⟨0,aG,rfl,aH,rfl⟩
       case round=>
        obtain⟨j,hgj,rfl,ng,hwr⟩:=hrel;obtain rfl:=hwr.symm;obtain⟨bd,UE⟩:∃bd,bd=(tb||(vs.take j).any (λs=>decide (s∈gl))):=⟨_,rfl⟩;rw[<-UE]at ng;subst ng;have FQ:=aF UE;clear UE;by_cases hjv:j<vn
        ·have Mi:(j:Int)<(vn:Int):=aG;have hjn: ¬(j:Int)<0:=aG;have hjl:j<vs.length:=by rw[<-Gx.out];exact hjv
         obtain⟨b3,o3,C3,al8,_,hC3,hr3⟩:=(show aP (B1<=·) 1 dc w3 (.slice x2 vs.length y2) vs by rw[<-Gx.out];exact acm.out).at hjl;subst al8;have e4:=hC3 0 aG;rw[show C3 0=S vs[j]from hr3]at e4;simp only[aA,Nat.mul_one]at e4;have⟨y,hy⟩:=xq (vs[j]);rw[<-hy]at e4;have WI:=NJ w3 _ gl y (HA8.below vk λ_ _ h=>h);have⟨hb,Qv⟩:=xq (decide (y∈gl));rw[<-Qv]at WI;have Kk:(tb||(vs.take (j+1)).any (λs=>decide (s∈gl)))=(bd||hb):=by
          rw[List.take_succ_eq_append_getElem hjl,List.any_append,<-Bool.or_assoc,<-FQ.out,Qv,hy];simp
         have Bv:=aF WI;have qQ:=aF Kk;clear hC3 hr3 hy WI Qv Kk hjl;cases bd
         ·go_wp2_with (go_at_call 56;refine fX Bv ?_)
          go_roundg (vn - (j+1))
          case measure=>omega
          case rel=>exact⟨j+1,aG,by go_num,by rw[qQ.out];simp,rfl⟩
         ·go_wp2;go_roundg (vn - (j+1))
          case measure=>omega
          case rel=>exact⟨j+1,aG,by go_num,by rw[qQ.out];simp,rfl⟩
        ·have Mi: ¬(j:Int)<(vn:Int):=aG;have pM:bd=(nS (f.params++f.locals)||(f.params++f.locals).any (λs=>decide (s∈j3 p))):=by
          rw[FQ.out,List.take_of_length_le (by rw[<-Gx.out];omega),HTB,nO,EI.out]
         have acn:=aF pM;have HE9:=bA Jr vk;have bB:=aU yf vk;clear pM;cases bd
         ·have Dt:=qR.ext vk;have p90:=Dt.k0;have p91:=Dt.k1;have qc:ot p f=jt (fJ p vs) (ez false f.body):=by
           unfold ot;rw[<-acn.out,nO.out];rfl
          have⟨cx,hcx⟩:=xq (jt (fJ p vs) (ez false f.body));have hst:=λ(X:World) (hX:w3.grownBy X none)=>XC dd p vs f.body false (λb=>B b\/B1<=b) X (.slice aa an ac) (.slice (some (b,o)) fn fc) (.slice x2 vn y2) (.slice ba bn bc) (by
           have:=(HX.below bB);exact(this.grown hX aJ).weak (λb hb=> .inl hb)) ((acm.grown hX aJ λ_ _ h=>h).weak (λb hb=> .inr hb) i20) (((AH.below vk λC x h=>RS.below vk h).grown hX aJ λC x h=>RS.grown dd hX aJ h).weak (λb hb=> .inl hb) λC x h=>RS.weak dd (λb hb=> .inl hb) h)
          rw[<-hcx]at hst qc;have HST:=aF hst;have Jo:=aF qc;have tS:=aF Dt;clear hcx hst qc Dt p90 p91;go_upto_region 29 with(fail)
          refine cC (λX=>X.cell? (w,0)=some (.slice aa an ac)/\X.cell? (w,1)=some (.slice (some (b,o)) fn fc)/\X.cell? (b,o+q*4+3)=some (.slice ba bn bc)) [0,0,0,0,0,0,0,0,1,0,0,0,0,0] (λwd hh=>⟨aO tS.out hh 0,aO tS.out hh 1,bY hh (aS iz (aT vk) aH)⟩) λwz hh tT hS=> ?_;have Jv:=aF tT;clear hh tT;refine dS ?_;go_wp2_with (go_at_call 57;refine(HST _ Jv).mono ?_;rintro e w8⟨⟨nn,rfl⟩,mY⟩;have kj:=aF mY;clear mY hS)
          have pF:=bX kj none;have hbz:Below w3 w3 wz:=⟨Jv.os,Jv.tape,Jv.output,Jv.size,λk hk=>Jv.block k hk aH⟩;have AE:=aF (hbz.trans (kj.mono hbz.size));refine bw ⟨(tS.ext AE).cell 0,(tS.ext AE).cell 1,aS (aS iz (aT vk) aH) (aT AE) aH⟩ λhS=> ?_;refine dP ?_;clear hS pF hbz;have HEZ:=bA HE9 AE;have WD:=aU bB AE;by_cases hc0:cx=0
          ·subst hc0;have s81:=(tS.ext AE).k1;go_wp2;go_roundg (fn - (q+1))
           case measure=>omega
           case rel=>exact⟨q+1,aG,by go_num,s81,aF ⟨(vJ.out.trans (vk.mono vJ.size)).trans (AE.mono (vJ.out.trans (vk.mono vJ.size)).size),λi hi h=>by
            by_cases e:i=q
            ·subst e;rw[<-HF.out];exact Jo.out
            ·exact sx i hi aG⟩⟩
          ·have hcb:(cx !=0)=true:=by rw[bne_iff_ne];exact hc0
           have hq:=HEZ.out;have q0:=hq.k0;have q1:=hq.k1;have p0:=hq.frozen 0;have p1:=hq.frozen 1;have kE:=aF hq;clear hq;go_wp2;refine bodyPost_ret (ET rfl rfl ((kE.set 0 _).set 1 _)) rfl ?_;exact Be.no hc0 (λh=>hc0 (Jo.out.symm.trans (h.funcs f (HF.out▸ak HQL)))) WD
         ·have qc:ot p f=50:=by
           unfold ot;rw[<-acn.out];rfl
          have Jo:=aF qc;clear qc;have hq:=HE9.out;have q0:=hq.k0;have q1:=hq.k1;have p0:=hq.frozen 0;have p1:=hq.frozen 1;have kE:=aF hq;clear hq;go_wp2;refine bodyPost_ret (ET rfl rfl ((kE.set 0 _).set 1 _)) rfl ?_;exact Be.no aQ (λh=>by have:=h.funcs f (HF.out▸ak HQL);rw[Jo.out]at this;cases this) bB
      ·have UX: ¬(q:Int)<(fn:Int):=aG;have hq:=Jr.out;have q0:=hq.k0;have q1:=hq.k1;have p0:=hq.frozen 0;have p1:=hq.frozen 1;have kE:=aF hq;clear hq;go_wp2;refine bodyPost_ret (ET rfl rfl ((kE.set 0 _).set 1 _)) rfl ?_;refine Be.yes ⟨HGT,⟨m,HZ.out.symm,HML,List.eq_nil_of_length_eq_zero (cw vh)⟩,λf hf=> ?_⟩ yf;obtain⟨i,hi,rfl⟩:=List.getElem_of_mem hf;exact sx i hi (cw eT)
theorem XA (B:Nat->Prop) (p:LP) (av fv:Value) (w:World) (hx:PX B w av fv p) (hap:sP p) (hsp:DA p) (hN:p.arrays.length+p.funcs.length<=1000000000) (jT:∀f∈p.funcs,f.params.length+f.locals.length<=1000000000):
  Calls Tryz.prog 33 #[.agg #[av,fv]] w λe w'=>(∃(c x y:Int),e= .returned (.tuple #[I c, .agg #[I x,I y]])/\(c=0↔kR p/\s6 p)/\(c=0->x=0/\y=0))/\Below w w w':=by
 by_cases hok:kR p
 ·cases ht:nS (j3 p)with
  |true=>
   refine(afD B p av fv w hx hap hsp hok ht hN).mono ?_;rintro e w'⟨⟨c,x,y,rfl,hc⟩,hb⟩;exact⟨⟨c,x,y,rfl,⟨λh=>absurd h hc,λh=>by rw[h.2.twice]at ht;cases ht⟩,λh=>absurd h hc⟩,hb⟩
  |false=>
   refine(afg B p av fv w hx hap hsp hok ht hN jT).mono ?_;rintro e w'⟨⟨c,x,y,rfl,hc,hxy⟩,hb⟩;exact⟨⟨c,x,y,rfl,⟨λh=>⟨hok,hc.1 h⟩,λh=>hc.2 h.2⟩,hxy⟩,hb⟩
 ·refine(afs B p av fv w hx hap hsp hok).mono ?_;rintro e w'⟨⟨c,x,y,rfl,hc⟩,hb⟩;exact⟨⟨c,x,y,rfl,⟨λh=>absurd h hc,λh=>absurd h.1 hok⟩,λh=>absurd h hc⟩,hb⟩
theorem ahF (p:LP) (hno: ¬(kR p/\s6 p)) (hap:sP p) (hsp:DA p) (hN:p.arrays.length+p.funcs.length<=1000000000) (jT:∀f∈p.funcs,f.params.length+f.locals.length<=1000000000) (av fv iv:Value) (most:Int) (W:World) (hx:PX (·<W.heap.size) W av fv p) (hi:∃a n c,iv= .slice a n c):
  CR 18 #[.agg #[av,fv],iv,I most] W (.agg #[I 0,I 0, .slice none 0 0,I 0]):=by
 obtain⟨aa,ac,fa,fc,rfl,rfl⟩:=hx.slice;obtain⟨ia,il,ik,rfl⟩:=hi;have⟨fn,hfn⟩:=xq p.funcs.length;have⟨AN,iV⟩:=xq p.arrays.length;rw[<-iV,<-hfn]at hx|-;have yb:=aF (λ(w:World) (hb:Below W W w)=>XA (·<W.heap.size) p _ _ w (hx.below hb) hap hsp hN jT);have IX:=aF hno;clear hx hap hsp hN jT hno hfn iV;obtain⟨w0,hw0⟩:∃w0,w0=(W.alloc (.cells #[.slice aa AN ac, .slice fa fn fc] 27)).alloc (.cells wK 37):=⟨_,rfl⟩;have dO:=hw0.symm;have bg:=aF (show Below W W w0 by rw[hw0];exact nR _ _ _);have hp0:Row w0 W 27 [.slice aa AN ac, .slice fa fn fc]:=by rw[hw0];exact dV _ _ hn0
 have zx:=aF (show Row w0 (W,1) 37 [I 0,I 0, .slice none 0 0,I 0] by rw[hw0];exact jF aH);have p0:=hp0.k0;have p1:=hp0.k1;clear hw0 hp0;go_enter Tryz.func18,Tryz.ntmps18;go_upto_region 2 with(first|(go_at_call 33;refine(yb _ bg).mono ?_;rintro e' w1⟨⟨c,x,y,rfl,hc,hxy⟩,hb1⟩;have HC:=aF hc;have aI:=aU bg hb1;have uf:=aF hb1;clear hb1 hc hxy)|(refine sr 72 (.tmp 8) (.tmp 16) w1 #[.int .i64 0, .int .i64 0] hn0 ?_;rw[World.setRow_alloc_new]))
 have hcb:(c !=0)=true:=by
  rw[bne_iff_ne];exact λh=>IX.out (HC.1 h)
 have⟨w2,hw2⟩:=xq (w1.alloc (.cells #[I x,I y] 72));have hb2:Below W W w2:=by rw[hw2];exact aI.alloc aI.size _
 have hs2:Row w2 (W,1) 37 [I 0,I 0, .slice none 0 0,I 0]:=by rw[hw2];exact dV _ _ (zx.ext uf.out)
 first|rw[<-hw2]|(change Code.wp _ _ _ _ (w1.alloc (.cells #[I x,I y] 72));rw[<-hw2])
 have aM:=aF hb2;have cu:=aF hs2;clear hw2 hb2 hs2 p0 p1;go_wp2_with (refine sr 37 (.tmp 6) (.tmp 19) (W.heap.size+1) wK cu.out ?_)
 refine bodyPost_ret (Nu rfl (setRow_heap _ _ _ _ _ _ cu.out)) rfl ?_;exact⟨rfl,aM.grown bJ aM.size bh⟩
theorem agZ (p:LP) (hap:sP p) (hsp:DA p) (hN:p.arrays.length+p.funcs.length<=1000000000) (jT:∀f∈p.funcs,f.params.length+f.locals.length<=1000000000) (av fv iv:Value) (inp:List Int) (most:Int) (W:World) (hx:PX (·<W.heap.size) W av fv p) (hi:jl (·<W.heap.size) W iv inp) (hm:most<=1000000) (K:Nat) (hK:2*most.toNat+1<=K):
  Calls Tryz.prog 18 #[.agg #[av,fv],iv,I most] W λe w'=>∃ov,e= .returned (.agg #[I (pV p K inp most).status,I (pV p K inp most).code,ov,I (pV p K inp most).steps])/\bZ w' 0 ov (pV p K inp most).out/\Below W W w':=by
 by_cases h:kR p/\s6 p
 ·have hf:pV p K inp most=runM p K inp most:=by unfold pV;rw[if_pos (t_ h)]
  rw[hf];refine agV p (QP.RN h.1 h.2 jT) h.1 aG av fv iv inp most W hx hi hm K hK λw hb=> ?_;refine(XA (·<W.heap.size) p av fv w (hx.below hb) hap hsp hN jT).mono ?_;rintro e w'⟨⟨c,x,y,rfl,hc,hxy⟩,hb'⟩;have h0:=hc.2 h;obtain⟨rfl,rfl⟩:=hxy h0;subst h0;exact⟨rfl,hb'⟩
 ·have hf:pV p K inp most=⟨0,0,[],0⟩:=by unfold pV;rw[if_neg (by rw[vY h];decide)]
  rw[hf];obtain⟨ia,ik,rK,hil⟩:=hi.room;exact(ahF p h hap hsp hN jT av fv iv most W hx ⟨ia,_,ik,rK⟩).mono λe w' h=>⟨_,h.1,bZ.nil _ _,h.2⟩
theorem fH.nil:fH []:=⟨aJ,aH⟩
def lH (e:LE):Prop:=kA e/\xL e
theorem lH.of {e:LE} (h1:fH e.name) (h2:∀x∈e.args,lH x):lH e:=by
 refine⟨λd=> ?_,λd=> ?_⟩
 ·cases d with
  |zero=>trivial
  |succ d=>exact⟨h1.1,λx hx=>(h2 x hx).1 d⟩
 ·cases d with
  |zero=>trivial
  |succ d=>exact⟨by have:=h1.2;omega,λx hx=>(h2 x hx).2 d⟩
theorem lH.args {e:LE} (h:lH e):∀x∈e.args,lH x:=λx hx=>⟨h.1.args x hx,h.2.args x hx⟩
def vV (s:LS):Prop:=qs s/\wh s
theorem vV.of {s:LS} (h1:fH s.name) (h2:∀x∈s.args,lH x) (h3:∀x∈s.thn,vV x) (h4:∀x∈s.els,vV x):vV s:=by
 refine⟨λd=> ?_,λd=> ?_⟩
 ·cases d with
  |zero=>trivial
  |succ d=>exact⟨h1.1,λx hx=>(h2 x hx).1,λx hx=>(h3 x hx).1 d,λx hx=>(h4 x hx).1 d⟩
 ·cases d with
  |zero=>trivial
  |succ d=>exact⟨by have:=h1.2;omega,λx hx=>(h2 x hx).2,λx hx=>(h3 x hx).2 d,λx hx=>(h4 x hx).2 d⟩
theorem iP.od {free:Bool}:∀(d:Nat) (e:LE),iP (cW free) d e->lH e
 |0,_,h=>h.elim
 |d+1,e,h=>by
  refine lH.of ?_ λx hx=>iP.od d x (h.2 x hx)
  rcases h.1 with h|h|h|h|h|h|h
  ·rw[h.2.2.2.1];exact fH.nil
  ·exact h.2.1
  ·rw[h.2.2.2.1];exact fH.nil
  ·rw[h.2.2.2.1];exact fH.nil
  ·exact h.2.1.1
  ·exact h.2.1
  ·rw[h.2.2.2.1];exact fH.nil
theorem ry.od {free:Bool}:∀(d:Nat) (loop:Bool) (s:LS),ry (cW free) d loop s->vV s
 |0,_,_,h=>h.elim
 |d+1,loop,s,h=>by
  refine vV.of ?_ (λx hx=>iP.od 4 x (h.2.1 x hx)) (λx hx=>ry.od d _ x (h.2.2.1 x hx)) (λx hx=>ry.od d _ x (h.2.2.2 x hx))
  rcases h.1 with h|h|h|h|h|h|h
  ·exact h.2.1
  ·exact h.2.1
  ·rw[h.2.1];exact fH.nil
  ·rw[h.2.1];exact fH.nil
  ·rw[h.2.2.1];exact fH.nil
  ·rw[h.2.1];exact fH.nil
  ·rw[h.2.1];exact fH.nil
structure Js (f:LF):Prop where
 name:fH f.name
 params:∀x∈f.params,fH x
 locals:∀x∈f.locals,fH x
 body:∀x∈f.body,vV x
 few:f.params.length+f.locals.length<=1000
structure xG (p:LP):Prop where
 arrays:∀a∈p.arrays,fH a.name
 funcs:∀f∈p.funcs,Js f
 few:p.arrays.length+p.funcs.length<=1000
theorem xG.asc {p:LP} (h:xG p):sP p:=⟨λa ha=>(h.arrays a ha).1,λf hf=>⟨(h.funcs f hf).name.1,λx hx=>((h.funcs f hf).params x hx).1,λx hx=>((h.funcs f hf).locals x hx).1,λx hx=>((h.funcs f hf).body x hx).1⟩⟩
theorem xG.short {p:LP} (h:xG p):DA p:=⟨λa ha=>by have:=(h.arrays a ha).2;omega,λf hf=>⟨by have:=(h.funcs f hf).name.2;omega,λx hx=>by have:=((h.funcs f hf).params x hx).2;omega,λx hx=>by have:=((h.funcs f hf).locals x hx).2;omega,λx hx=>((h.funcs f hf).body x hx).2⟩⟩
theorem Bd.fd {free:Bool} {aX:List LA} {fs:List PQ} (h:Bd free aX fs) {q:PQ} (hq:q∈fs):Js q.f:=by
 obtain⟨h1,h2,h3, -,h4⟩:=h.fn q hq;refine⟨h1,λx hx=>Fa x (List.mem_append_left _ (List.mem_append_left _ (List.mem_of_mem_take hx))),λx hx=>Fa x (List.mem_append_left _ (List.mem_append_right _ (List.mem_of_mem_take hx))),λx hx=>(h4 x hx).od, ?_⟩;show(pq.take q.np).length+(tP.take q.nl).length<=1000;rw[List.length_take,List.length_take];omega
theorem Bd.od {free:Bool} {aX:List LA} {fs:List PQ} (h:Bd free aX fs):xG (TM aX fs):=by
 refine⟨h.arr,λf hf=> ?_, ?_⟩
 ·obtain⟨q,hq,rfl⟩:=List.mem_map.1 hf;exact h.fd hq
 ·show aX.length+(fs.map PQ.f).length<=1000;rw[aC];have:=h.fB;have:=h.fns;omega
theorem JB {α:Type} {t e k bytes:Nat} (S:oZ t e k bytes) {B:Nat->Prop} {R:World->(Nat->Value)->α->Prop} {w:World} {ops:Array Oper} {rest:List Oper} {o:Oper} {a:Act} {Q:Exit->Act->World->Prop} (hgd:o.guard=none) (s x:Operand)
  (ho:o.op= .call {callee:= .builtin .append,args:= #[s,x],argTypes:= #[t,t]})
  (base:Nat) (v:Value) (n:Nat) (xs:List Value) (hs:a.eval s=v) (hown:w.ownsRow base e k v n xs)
  (xv:Value) (ys:List α) (hx:a.eval x=xv) (hys:aP B k R w xv ys) (hR:∀C y,R w C y->∀j,j<k->(C j).oneCell'=true)
  (hl:n+ys.length<=1000000000) (hby:bytes<=1000) (hbase:base<=w.heap.size)
  (h:∀v' w' news,w'.ownsRow base e k v' (n+ys.length) (xs++news)->news.length=ys.length*k->(∀i y,ys[i]? =some y->∃C:Nat->Value,R w C y/\∀j,j<k->news[i*k+j]? =some (C j))->w.grownBy w' v.ownBlock->
   (∀g,v'.ownBlock=some g->v.ownBlock=some g\/g=w.heap.size)->wpList Tryz.prog ops Q rest (a.put o.dst v') w'):wpList Tryz.prog ops Q (o::rest) a w:=by
 obtain⟨xa,xc,rfl,hm,td⟩:=hys;have hk:=S.pos;rcases Nat.eq_zero_or_pos ys.length with h0|h0
 ·have hn:ys= []:=List.length_eq_zero_iff.1 h0;subst hn;refine JA S hgd s x ho base v n xs hs hown xa xc (by simpa using hx) ?_;exact h v w [] (by simpa using hown) aH (λi y hy=>by simp at hy) ⟨rfl,rfl,rfl,ay _,λ_ _ _=>rfl⟩ (λg hg=> .inl hg)
 ·rcases td with rfl|⟨b,of,rfl, -,hc⟩
  ·exact absurd h0 aH
  have hch:∀i (hi:i<ys.length),∃C:Nat->Value,(∀j,j<k->w.cell? (b,of+i*k+j)=some (C j))/\R w C ys[i]:=λi hi=>hc i ys[i] (ah hi)
  let F:Nat->Nat->Value:=λi=>if hi:i<ys.length then Classical.choose (hch i hi)else λ_=>undef
  have hF:∀i (hi:i<ys.length),(∀j,j<k->w.cell? (b,of+i*k+j)=some (F i j))/\R w (F i) ys[i]:=λi hi=>by
   have:F i=Classical.choose (hch i hi):=dif_pos hi;rw[this];exact Classical.choose_spec (hch i hi)
  let news:List Value:=(List.range (ys.length*k)).map λq=>F (q/k) (q%k)
  have hnl:news.length=ys.length*k:=by simp [news]
  have hdiv:∀q,q<ys.length*k->q/k<ys.length:=λq hq=>(Nat.div_lt_iff_lt_mul hk).2 hq;have V_:∀q u,news[q]? =some u->q<ys.length*k/\u=F (q/k) (q%k):=λq u hu=>by
   have hq:q<news.length:=(aj hu).1;have he:=(aj hu).2;refine⟨by rw[<-hnl];exact hq, ?_⟩;rw[<-he];simp [news]
  refine JG S hgd s x ho base v n xs hs hown ⟨b,of,none⟩ ys.length xc news hx hnl ?_ ?_ h0 ?_ (by unfold maxLen;omega) hbase ?_
  ·intro q u hu;obtain⟨hq,rfl⟩:=V_ q u hu;have h1:=(hF (q/k) (hdiv q hq)).1 (q%k) (Nat.mod_lt _ hk);rw[Hu,<-h1];have:of+q/k*k+q%k=of+q:=by have:=Nat.div_add_mod q k;rw[Nat.mul_comm]at this;omega
   rw[this]
  ·intro u hu;obtain⟨q,hq,rfl⟩:=List.mem_iff_getElem.1 hu;obtain⟨hq2,he⟩:=V_ q _ (ah hq);rw[he];exact hR _ _ (hF (q/k) (hdiv q hq2)).2 _ (Nat.mod_lt _ hk)
  ·have:(n+ys.length)*bytes<=1000000000*1000:=Nat.mul_le_mul hl hby;omega
  ·intro g cap w' h1 h2 h3 h4;refine h _ w' news h1 hnl (λi y hy=> ?_) h2 (λg' hg'=>by cases hg';exact h3);obtain⟨hi,rfl⟩:=aj hy;refine⟨F i,(hF i hi).2,λj hj=> ?_⟩;have hlt:i*k+j<ys.length*k:=by
    have:(i+1)*k<=ys.length*k:=Nat.mul_le_mul_right _ hi;rw[Nat.add_mul]at this;omega
   rw[ah (by rw[hnl];exact hlt)];have h5:(i*k+j)/k=i:=by rw[Nat.mul_comm,Nat.mul_add_div hk,Nat.div_eq_of_lt hj];rfl
   have h6:(i*k+j)%k=j:=by rw[Nat.mul_comm,Nat.mul_add_mod,Nat.mod_eq_of_lt hj]
   simp [news,h5,h6]
theorem Xc {α:Type} {base:Nat} {e:TypeId} {k:Nat} {w:World} {v:Value} {xs:List Value} {R:World->(Nat->Value)->α->Prop} {l:List α} (h:w.ownsRow base e k v l.length xs) (Ge:l.length<=1000000000)
  (hx:∀i y,l[i]? =some y->∃C:Nat->Value,R w C y/\∀j,j<k->xs[i*k+j]? =some (C j)):aP (λb=>v.ownBlock=some b) k R w v l:=by
 rcases h.2 with⟨rfl,h0⟩|⟨g,cap,cur,rfl,h1,h2,h3,h4,h5,h6⟩
 ·have:l= []:=List.length_eq_zero_iff.1 h0;subst this;exact⟨none,0,rfl,aH, .inl rfl⟩
 ·refine⟨_,_,rfl,Ge, .inr ⟨g,0,rfl,rfl,λi y hy=> ?_⟩⟩;obtain⟨C,hR,hC⟩:=hx i y hy;refine⟨C,λj hj=> ?_,hR⟩;have h7:=hC j hj;have h8:i*k+j<xs.length:=(aj h7).1;rw[h.1]at h8;rw[<-h6,List.getElem?_take_of_lt h8,Array.getElem?_toList]at h7;rw[cell_of_block h2,Nat.zero_add];exact h7
def Ma:List aK:= [[],[120],[109,97,105,110],[102],[97],[105,102],[49,97],[112],[121],[103]]
theorem aip:∀x∈Ma,fH x:=by
 have h:Ma.all (λx=>x.all (λb=>decide (b.toNat<128))&&decide (x.length<=100))=true:=aQ;intro x hx;have:=List.all_eq_true.1 h x hx;simp only[Bool.and_eq_true,decide_eq_true_eq]at this;exact⟨N7 this.1,this.2⟩
theorem E3 (sb:Nat) (W:World) (hs:Src sb W):
  Calls Tryz.prog 26 #[.pointer (some (sb,0))] W λe w'=>(∃x:aK,e= .returned (S x)/\fH x)/\SG sb W w':=by
 have⟨w1,hw1⟩:=xq (W.alloc (.cells (Ma.map S).toArray 9));have hr1:=dZ hw1;have mK:=aF (show SG sb W w1 by rw[hw1];exact SG.start hs jI);have hsl:=hs.lt;have bC:=aF hr1;have dO:W.alloc (.cells #[.string ⟨#[]⟩, .string ⟨#[120]⟩, .string ⟨#[109,97,105,110]⟩, .string ⟨#[102]⟩, .string ⟨#[97]⟩, .string ⟨#[105,102]⟩, .string ⟨#[49,97]⟩, .string ⟨#[112]⟩, .string ⟨#[121]⟩, .string ⟨#[103]⟩] 9)=w1:=by rw[hw1];rfl
 clear hw1 hr1 hs;go_enter Tryz.func26,Tryz.ntmps26;go_wp2_with (go_at_call 25;refine(gY sb 10 w1 mK.2 aG aG).mono ?_;rintro e w2⟨⟨r,rfl,b_,hr1⟩,hs2⟩;obtain⟨k,rfl⟩:=j4 b_;have cu:=aF (mK.out.trans hs2);obtain⟨x,hx⟩:∃x,Ma[k]? =some x:=⟨_,ah (show k<Ma.length from(by omega:k<10))⟩;have BG:w2.cell? (W,k)=some (S x):=(by rw[(hs2.row bC.out aG).cell k,List.getElem?_map,hx];rfl);have HX:=aF (aip x (List.mem_of_getElem? hx));clear hs2 hx b_)
 go_ret;exact⟨⟨x,rfl,HX⟩,cu⟩
end
end Go.Proofs.YtjgbkdbkachciaaGreatDoor
