import Derived.Test.YtjgbkdbkachciaaGreatDoorQ8
set_option linter.all false
namespace Go.Proofs.YtjgbkdbkachciaaGreatDoor
set_option maxRecDepth 100000
set_option maxHeartbeats 16000000
section
open Go.RowKit Go.Shelf
attribute [local go_sem] Oper.semAt_some
def aje (d:Nat):Prop:=∀(e:LE) (av:Value) (W:World) (B:Nat->Prop),ij d e->EX B W av e->
 CR 40 #[eV e av] W (.tuple #[I ((gG d e).getD 0), .bool (gG d e).isSome])
theorem Xy:∀d,aje d
 |0=>λ_ _ _ _ h=>h.elim
 |d+1=>by
  have ih:=Xy d
  intro e av W B hn hx
  obtain⟨a0,c0,rfl⟩:=hx.slice
  obtain⟨dd,hx⟩:=hx
  have⟨ek,lT⟩:=xq e.kind
  have⟨eo,mg⟩:=xq e.op
  have⟨en,hen⟩:=xq e.n
  have⟨nm,cJ⟩:=xq e.name
  have⟨al,hal⟩:=xq e.args.length
  have⟨vr,mM⟩:=xq (gG (d+1) e)
  rw[eV,<-lT,<-mg,<-hen,<-cJ,<-hal,<-mM]
  rw[<-hal]at hx
  have Fs:al<=6:=by
   rw[hal];rcases hn.1 with h|h|h|h|h|h|h
   ·have:=h.2.2.2.2;omega
   ·have:=h.2.2.2.2;omega
   ·have:=h.2.2.2.2;omega
   ·have:=h.2.2.2.2;omega
   ·have:=h.2.2.2.2;omega
   ·have:=h.2.2.2.2;omega
   ·have:=h.2.2.2.2;omega
  have HX:=aF hx;have HN:=aF hn;have cM:=aF lT;have yu:=aF mg;have jK:=aF hen;have jM:=aF hal;have Et:=aF mM;have HI:=aF ih;have⟨w0,hw0⟩:=xq (W.alloc (.cells #[I ek,I eo,I en,S nm, .slice a0 al c0] 31));have dO:=hw0.symm;have hb0:=gI hw0;have hp0:=dZ hw0;have bg:=aF hb0;have gT:=aF hp0;clear hx hn lT mg hen cJ hal mM hw0 hb0 hp0 ih;have mN:bZ w0 (W.heap.size+1) (.slice none 0 0) []:=bZ.nil _ _;have fk:=aF mN;clear mN;have p4:=gT.k4;go_enter Tryz.func40,Tryz.ntmps40;go_upto_region 3 with(fail)
  go_loopg [4,5] al (λgh v i wr=>∃j:Nat,gh+j=al/\i=I j/\wr.cell? (W,4)=some (.slice a0 al c0)/\Hid (true=(e.args.take j).all (λx=>(gG d x).isSome)/\Below W W wr/\Row wr W 31 [I ek,I eo,I en,S nm, .slice a0 al c0]/\bZ wr (W.heap.size+1) v ((e.args.take j).map λx=>(gG d x).getD 0)))
  case atStart=>exact⟨0,rfl,rfl,p4,aF ⟨rfl,bg,gT,fk⟩⟩
  case round=>
   obtain⟨j,hg,rfl,p4',HH⟩:=hrel;clear p4;obtain⟨wo,rfl⟩:=xq wr
   by_cases hlt:j<al
   ·have bT:(j:Int)<(al:Int):=aG;have hjl:j<e.args.length:=by rw[<-jM.out];exact hlt
    have iY:=aP.below HH.out.2.1 (λC x h=>RE.grown dd (bX HH.out.2.1 none) aJ h) HX;obtain⟨b,o,C,rfl,hBb,hC,hrx⟩:=iY.at hjl;have⟨x,hx⟩:=xq (e.args[j]);rw[<-hx]at hrx;obtain⟨dx,rfl⟩:∃dx,dd=dx+1:=by
     cases dd with
     |zero=>exact hrx.elim
     |succ dx=>exact⟨dx,rfl⟩
    obtain⟨h0,h1,h2,h3,h4⟩:=hrx;obtain⟨xa,xc,hxv, -⟩:=id h4;have e0:=hC 0 aG;have e1:=hC 1 aG;have e2:=hC 2 aG;have e3:=hC 3 aG;have e4:=hC 4 aG;rw[h0]at e0;rw[h1]at e1;rw[h2]at e2;rw[h3]at e3;rw[hxv]at e4 h4;simp only[aA]at e0 e1 e2 e3 e4;have htk:e.args.take (j+1)=e.args.take j++ [x]:=by rw[List.take_succ_eq_append_getElem hjl,<-hx]
    obtain⟨ls,hls⟩:∃l,l=(e.args.take j).map λx=>(gG d x).getD 0:=⟨_,rfl⟩;have hll:ls.length<=6:=by rw[hls,aC,List.length_take];omega
    have ho:=HH.out.2.2.2;rw[<-hls]at ho;have HO:=aF ho;have oH:=aF HH.out.1;have iL:=aF HH.out.2.1;have tD:=aF HH.out.2.2.1;have fL:=aF htk;have Bw:=aF hls;have cI:=aF h4;have hnx:ij d x:=by rw[hx];exact HN.2 _ (ak hjl)
    have qQ:=aF hnx;have⟨xn,qA⟩:=xq x.args.length;rw[<-qA]at e4 cI;have Mu:=aF qA;clear iY hBb hC h0 h1 h2 h3 h4 hxv hx htk hls ho HH hnx qA;have hcall:=HI x (.slice xa xn xc) wo B qQ (⟨dx,cI⟩:EX B wo (.slice xa xn xc) x);rw[eV]at hcall;have⟨vx,Bz⟩:=xq (gG d x);rw[<-Bz]at hcall;have⟨nx,hnx⟩:=xq (vx.getD 0);have⟨bx,rq⟩:=xq vx.isSome;rw[<-hnx,<-rq]at hcall;have jk:=aF hcall;have Gp:=aF Bz;have OB:=aF hnx;have vJ:=aF rq;clear hcall Bz hnx rq;go_upto_region 6 with(go_at_call 40;refine aN jk λw4 hb4=> ?_;have aR:=aU iL hb4;have bH:=bA tD hb4;have mH:=aF (HO.tag (bX hb4 none) eF))
    have jd:(e.args.take (j+1)).all (λx=>(gG d x).isSome)=bx:=by
     rw[fL.out,List.all_append,<-oH.out,vJ.out,Gp.out];simp
    cases bx with
    |false=>
     have hv:vr=none:=by
      have hall: ¬(e.args.all λx=>(gG d x).isSome)=true:=λh=>by
       have h2:(e.args.take (j+1)).all (λx=>(gG d x).isSome)=true:=by
        rw[List.all_eq_true]at h|-;exact λy hy=>h y (List.mem_of_mem_take hy)
       rw[h2]at jd;cases jd
      rw[Et.out,gG,if_neg hall]
     have HV:=aF hv;clear hv jd e0 e1 e2 e3 e4;go_wp2
     go_ret2;exact⟨by rw[HV.out];rfl,aR⟩
    |true=>
     have Kv:=aF jd;have hcn:(w4.alloc (.cells #[I nx] 3)).cell? (w4,0)=some (.int .i64 nx):=by rw[cell_of_block (cj w4 (.cells #[I nx] 3))];rfl
     have Au:=aF hcn;have vK:=aF (mH.kept (cE w4 (.cells #[I nx] 3) none) aJ);have hbs:W.heap.size+1<=(w4.alloc (.cells #[I nx] 3)).heap.size:=by have:=bH.lt;simp;omega
     have PC:=aF hbs;clear hcn hbs jd e0 e1 e2 e3 e4;go_upto_region 4 with(at_builtin;refine ES rfl _ _ rfl (W.heap.size+1) u4 ls rfl vK.out w4.heap.size nx rfl Au.out aG PC.out ?_;intro g' cap' w6 dY bG fy lZ;have gK:=aF dY;have di:=aF bG;clear dY bG fy)
     have hown:∀r,u4.ownBlock=some r->W.heap.size+1<=r:=λr e=>(cO mH r e).1;have bV:Below W W w6:=(aR.alloc aR.size _).grown di (by have:=aR.size;simp;omega) (λr e=>by have:=hown r e;omega);have fU:=(bH.kept (cE w4 (.cells #[I nx] 3) none) aH).kept di (λe=>by have:=hown _ e.symm;omega);have hls:(e.args.take (j+1)).map (λx=>(gG d x).getD 0)=ls++ [nx]:=by
      rw[fL.out,List.map_append,<-Bw.out,OB.out,Gp.out];rfl
     have p46:=fU.k4;have cY:=aF bV;have fD:=aF fU;have Kw:=aF hls;clear hown bV fU hls;go_wp2
     go_roundg (al - (j+1))
     case measure=>omega
     case rel=>exact⟨j+1,aG,by go_num,p46,aF ⟨Kv.out.symm,cY,fD,by rw[Kw.out];exact gK.out⟩⟩
   ·have bT: ¬(j:Int)<(al:Int):=aG;have jd:=HH.out.1;have ho:=HH.out.2.2.2;have hp:=HH.out.2.2.1;rw[List.take_of_length_le (by rw[<-jM.out];omega)]at jd ho;have p0:=hp.k0;have p1:=hp.k1;have p2:=hp.k2;have iL:=aF HH.out.2.1;have tD:=aF hp;have oH:=aF jd;have HO:=aF ho;clear HH jd ho hp;have mM:vr=if ek=1 then some en else if ek=3 then qp eo ((e.args.map λx=>(gG d x).getD 0).getD 0 0)else if ek=4 then fC eo ((e.args.map λx=>(gG d x).getD 0).getD 0 0) ((e.args.map λx=>(gG d x).getD 0).getD 1 0)else none:=by
     rw[Et.out,gG,if_pos oH.out.symm,cM.out,jK.out,yu.out]
    have CD:=aF mM;clear mM;rcases(by omega:ek=1\/ek=3\/ek=4\/(ek≠1/\ek≠3/\ek≠4))with rfl|rfl|rfl|⟨n1,n3,n4⟩
    ·have hv:vr=some en:=by rw[CD.out,if_pos rfl]
     have HV:=aF hv;clear hv;go_wp2
     go_ret2;exact⟨by rw[HV.out];rfl,iL⟩
    ·obtain⟨a,jS⟩:∃a,e.args= [a]:=by
      rcases HN.1 with h|h|h|h|h|h|h
      ·have:=h.1;have:=cM.out;omega
      ·have:=h.1;have:=cM.out;omega
      ·exact List.length_eq_one_iff.1 h.2.2.2.2
      ·have:=h.1;have:=cM.out;omega
      ·have:=h.1;have:=cM.out;omega
      ·have:=h.1;have:=cM.out;omega
      ·have:=h.1;have:=cM.out;omega
     obtain⟨x,hx⟩:∃x,x=(gG d a).getD 0:=⟨_,rfl⟩;have gU:=HO.out;have hv:vr=qp eo x:=by rw[CD.out,if_neg aQ,if_pos rfl,jS,hx];rfl
     rw[jS]at gU;simp only[List.map_cons,List.map_nil,<-hx]at gU;clear hx;obtain⟨g,cap,Gq,hc0⟩:=gU.cell (i:=0) (x:=x) rfl;subst Gq;have hone:=λX=>((YD eo x X).mono λe w h=>⟨h.1,h.2▸Below.refl X X⟩:CR 66 #[I eo,I x] X (pW (qp eo x)));rw[<-hv]at hone;obtain⟨n2,b2,hrt,eD,hb2⟩:∃n b,pW vr= .tuple #[I n, .bool b]/\vr.getD 0=n/\vr.isSome=b:=by
      cases vr with
      |none=>exact⟨0,false,rfl,rfl,rfl⟩
      |some z=>exact⟨z,true,rfl,rfl,rfl⟩
     rw[hrt]at hone;have Ik:=aF hone;have ru:=aF eD;have aM:=aF hb2;have cU:=aF hc0;clear jS gU hc0 hv hone hrt eD hb2;simp only[aq,au,Nat.zero_add]at*;go_upto_region 13 with(fail)
     refine cC (λX=>X.cell? (W,1)=some (I eo)/\X.cell? (g,0)=some (I x)) [0,0,0,0,0,1,0,0,0,0] (λwd hh=>⟨aO tD.out hh 1,eP hh cU⟩) λwd hh hgd hS=> ?_;have bE:=dF iL hgd;have BA:=bI tD hgd;have fK:=aF (aS cU hgd aH);clear hh hgd p0 p1 p2;refine dS ?_;go_wp2_with (go_at_call 66;refine aN (Ik _) λw6 cY=> ?_;clear hS)
     refine bw ⟨(BA.ext cY).cell 1,aS fK (aT cY) aH⟩ λhS=> ?_;refine dP ?_;clear hS;go_wp2
     go_ret2;exact⟨by rw[ru.out,aM.out];rfl,bE.out.trans (cY.mono bE.size)⟩
    ·obtain⟨a,b,jS⟩:∃a b,e.args= [a,b]:=by
      rcases HN.1 with h|h|h|h|h|h|h
      ·have:=h.1;have:=cM.out;omega
      ·have:=h.1;have:=cM.out;omega
      ·have:=h.1;have:=cM.out;omega
      ·have hl:=h.2.2.2.2
       match hm:e.args,hl with
       | [a,b],_=>exact⟨a,b,rfl⟩
      ·have:=h.1;have:=cM.out;omega
      ·have:=h.1;have:=cM.out;omega
      ·have:=h.1;have:=cM.out;omega
     obtain⟨x,hx⟩:∃x,x=(gG d a).getD 0:=⟨_,rfl⟩;obtain⟨y,hy⟩:∃y,y=(gG d b).getD 0:=⟨_,rfl⟩;have gU:=HO.out;have hv:vr=fC eo x y:=by rw[CD.out,if_neg aQ,if_neg aQ,if_pos rfl,jS,hx,hy];rfl
     rw[jS]at gU;simp only[List.map_cons,List.map_nil,<-hx,<-hy]at gU;clear hx hy;obtain⟨g,cap,Gq,hc0⟩:=gU.cell (i:=0) (x:=x) rfl;subst Gq;have hc1:=gU.cell' (i:=1) (x:=y) rfl;have CE:=λX=>((YE eo x y X).mono λe w h=>⟨h.1,h.2▸Below.refl X X⟩:CR 67 #[I eo,I x,I y] X (pW (fC eo x y)));rw[<-hv]at CE;obtain⟨n2,b2,hrt,eD,hb2⟩:∃n b,pW vr= .tuple #[I n, .bool b]/\vr.getD 0=n/\vr.isSome=b:=by
      cases vr with
      |none=>exact⟨0,false,rfl,rfl,rfl⟩
      |some z=>exact⟨z,true,rfl,rfl,rfl⟩
     rw[hrt]at CE;have Sw:=aF CE;have ru:=aF eD;have aM:=aF hb2;have cU:=aF hc0;have kU:=aF hc1;clear jS gU hc0 hc1 hv CE hrt eD hb2;simp only[aq,au,Nat.zero_add,Nat.reduceAdd]at*;go_upto_region 15 with(fail)
     refine cC (λX=>X.cell? (W,1)=some (I eo)/\X.cell? (g,0)=some (I x)/\X.cell? (g,1)=some (I y)) [0,0,0,0,0,0,0,0,1,0,0,0,0] (λwd hh=>⟨aO tD.out hh 1,eP hh cU,eP hh kU⟩) λwd hh hgd hS=> ?_;have bE:=dF iL hgd;have BA:=bI tD hgd;have fK:=aF (aS cU hgd aH);have l9:=aF (aS kU hgd aH);clear hh hgd p0 p1 p2;refine dS ?_;go_wp2_with (go_at_call 67;refine aN (Sw _) λw6 cY=> ?_;clear hS)
     refine bw ⟨(BA.ext cY).cell 1,aS fK (aT cY) aH,aS l9 (aT cY) aH⟩ λhS=> ?_;refine dP ?_;clear hS;go_wp2
     go_ret2;exact⟨by rw[ru.out,aM.out];rfl,bE.out.trans (cY.mono bE.size)⟩
    ·have hv:vr=none:=by rw[CD.out,if_neg n1,if_neg n3,if_neg n4]
     have HV:=aF hv;clear hv;have b1:(ek==1)=false:=bu n1;have b3:(ek==3)=false:=bu n3;have b4:(ek==4)=false:=bu n4;go_wp2
     go_ret2;exact⟨by rw[HV.out];rfl,iL⟩
theorem afx (e:LE) (ha:kA e) (hs:xL e) (av:Value) (W:World) (B:Nat->Prop) (hx:EX B W av e):
  CR 21 #[eV e av] W (.tuple #[I ((tL e).getD 0), .bool (tL e).isSome]):=by
 obtain⟨a0,c0,rfl⟩:=hx.slice;have fP:=aF (λX (hb:Below W W X)=>WN e ha hs (.slice a0 e.args.length c0) X B (hx.grown (bX hb none) aJ));by_cases ho:ij 40 e
 case neg=>
  have hv:tL e=none:=by rw[tL,if_neg];rw[ow];exact ho
  rw[hv];rw[vY ho]at fP;have⟨al,hal⟩:=xq e.args.length;rw[eV,<-hal]at fP|-;have⟨w0,hw0⟩:=xq (W.alloc (.cells #[I e.kind,I e.op,I e.n,S e.name, .slice a0 al c0] 31));have dO:=hw0.symm;have hb0:=gI hw0;have hp0:=dZ hw0;have c0':=hp0.k0;have c1:=hp0.k1;have c2:=hp0.k2;have c3:=hp0.k3;have c4:=hp0.k4;have bg:=aF hb0;have gT:=aF hp0;clear hx ha hs hw0 hb0 hp0 hal;go_enter Tryz.func21,Tryz.ntmps21;go_wp2_with (go_at_call 39;refine aN (fP _ bg) λw1 hb1=> ?_;have aI:=aU bg hb1;have hp1:=gT.ext hb1;have d0:=hp1.k0;have d1:=hp1.k1;have d2:=hp1.k2;have d3:=hp1.k3;have d4:=hp1.k4;clear hp1 c0' c1 c2 c3 c4)
  go_ret2;exact⟨rfl,aI⟩
 have hv:tL e=gG 40 e:=by rw[tL,if_pos];rw[ow];exact ho
 rw[hv];rw[t_ ho]at fP;have yt:=aF (λX (hb:Below W W X)=>Xy 40 e (.slice a0 e.args.length c0) X B ho (hx.grown (bX hb none) aJ));have⟨vr,mM⟩:=xq (gG 40 e);rw[<-mM]at yt|-;have⟨nx,hnx⟩:=xq (vr.getD 0);have⟨bx,rq⟩:=xq vr.isSome;rw[<-hnx,<-rq]at yt|-;clear hv mM hnx rq ho;have⟨al,hal⟩:=xq e.args.length;rw[eV,<-hal]at fP yt|-;have⟨w0,hw0⟩:=xq (W.alloc (.cells #[I e.kind,I e.op,I e.n,S e.name, .slice a0 al c0] 31));have dO:=hw0.symm;have bg:=aF (gI hw0);have hp0:=dZ hw0;have c0':=hp0.k0;have c1:=hp0.k1;have c2:=hp0.k2;have c3:=hp0.k3;have c4:=hp0.k4;have gT:=aF hp0;clear hx ha hs hw0 hp0 hal;go_enter Tryz.func21,Tryz.ntmps21;go_upto_region 4 with(go_at_call 39;refine aN (fP _ bg) λw1 hb1=> ?_;have aI:=aU bg hb1;have hp1:=gT.ext hb1;have d0:=hp1.k0;have d1:=hp1.k1;have d2:=hp1.k2;have d3:=hp1.k3;have d4:=hp1.k4;clear hp1 c0' c1 c2 c3 c4)
 go_wp2_with (go_at_call 40;refine aN (yt _ aI) λw2 hb2=> ?_;have aM:=aU aI hb2)
 go_ret2;exact⟨rfl,aM⟩
theorem agc (w:World) (R:Nat) (sp:Bool) (st:Int) (h9:w.cell? (R,10)=some (.bool sp)) (h7:w.cell? (R,8)=some (I st)):
  Calls Tryz.prog 99 #[.pointer (some (R,0))] w λe w'=>e= .returned (.bool (sp||st !=0))/\w'=w:=by
 cases sp
 ·by_cases hs:st=0
  ·subst hs;go_enter Tryz.func99,Tryz.ntmps99;go_wp2;go_ret;exact⟨rfl,rfl⟩
  ·have eu:(st !=0)=true:=by rw[bne_iff_ne];exact hs
   rw[eu];go_enter Tryz.func99,Tryz.ntmps99;go_wp2;go_ret;exact⟨rfl,rfl⟩
 ·go_enter Tryz.func99,Tryz.ntmps99;go_wp2;go_ret;exact⟨rfl,rfl⟩
abbrev qL (c:cH) (d:Nat) (iv ov:Value) (n:Nat) (st cd:Int) (sp:Bool):List Value:= [c.av,c.fv,iv,ov,c.eW,I c.most,I n,I d,I st,I cd, .bool sp]
structure QR (c:cH) (F:Nat->Prop) (W:World) (d:Nat) (s:aV) (st cd:Int) (sp:Bool):Prop where
 b:C8 c F W s.fB
 small:s.steps<=1000000/\s.out.length<=s.steps/\d<=100/\c.most<=1000000
 rows:∃iv ov,Row W c.rb 81 (qL c d iv ov s.steps st cd sp)/\jl c.G W iv s.inp/\bZ W 0 ov s.out/\∀g,ov.ownBlock=some g-> ¬F g/\∀x∈c.gz,x.1≠g
section
variable {c:cH} {F F' Q:Nat->Prop} {W W' W0:World} {d d':Nat} {s s':aV} {st cd st' AW:Int} {sp sp':Bool} {row:Option Nat}
theorem QR.quiet (h:QR c F W d s st cd sp) (hg:W.grownBy W' none):QR c F W' d s st cd sp:=by
 obtain⟨iv,ov,h1,h2,h3,h4⟩:=h.rows;exact⟨h.b.kept hg aJ,h.small,iv,ov,h1.kept hg aH,h2.grown hg aJ λ_ _ h=>h,bZ.tag h3 hg eF,h4⟩
theorem QR.below (h:QR c F W d s st cd sp) (hb:Below W W W'):QR c F W' d s st cd sp:=h.quiet (bX hb none)
theorem QR.kf (h:QR c F W d s st cd sp) (hg:W.grownBy W' row) (hr:∀r,row=some r-> ¬F r):KF F W W':=KF.grown hg h.b.lt hr
theorem QR.less (h:QR c F' W d s st cd sp) (hF:∀b,F b->F' b) (hG:∀b,c.G b->F b):QR c F W d s st cd sp:=by
 obtain⟨iv,ov,h1,h2,h3,h4⟩:=h.rows;exact⟨h.b.less hF hG,h.small,iv,ov,h1,h2,h3,λg hg=>⟨λhb=>(h4 g hg).1 (hF _ hb),(h4 g hg).2⟩⟩
theorem QR.Oh (h:QR c F W d s st cd sp):∀x∈c.gz,x.1<W.heap.size:=λx hx=>by
 obtain⟨i,hi,uq⟩:=List.getElem_of_mem hx
 have Gc:i<s.fB.length:=by rw[h.b.len];exact hi
 exact(h.b.arr i x s.fB[i] (by rw[ah hi,uq]) (ah Gc)).1.lt
theorem QR.ajI (h:QR c F W d s st cd sp) {b:Nat} (hb:c.G b):b<W.heap.size:=h.b.lt b (h.b.gf b hb)
theorem QR.add (h:QR c F W d s st cd sp) (hg:W.grownBy W' row) (hr:∀r,row=some r->F r/\ ¬c.G r) (hQ:∀b,Q b->W.heap.size<=b/\b<W'.heap.size):QR c (λb=>F b\/Q b) W' d s st cd sp:=by
 obtain⟨iv,ov,h1,h2,h3,h4⟩:=h.rows;have hG:∀r',row=some r'-> ¬c.G r':=λr' e=>(hr r' e).2;have cy:c.rb<W.heap.size:=h1.lt;have tT:=h.Oh;refine⟨⟨?_,λb hb=> .inl (h.b.gf b hb), ?_,h.b.px.grown hg hG,h.b.eW.grown hg hG λ_ _ h=>h,h.b.Bl,λx hx=>⟨(h.b.nK x hx).1, ?_⟩,h.b.len,h.b.yg,λi x l hx hl=> ?_⟩,
  h.small,iv,ov,h1.kept hg (λe=>h.b.jJ (hr _ e.symm).1),h2.grown hg hG λ_ _ h=>h,h3.kept hg (λr' e e'=>(h4 r' e').1 (hr r' e).1),λg hg'=>⟨?_,(h4 g hg').2⟩⟩
 ·rintro b (hb|hb)
  ·exact aB (h.b.lt b hb) hg.size
  ·exact(hQ b hb).2
 ·rintro(hb|hb)
  ·exact h.b.jJ hb
  ·have:=(hQ _ hb).1;omega
 ·rintro(hb|hb)
  ·exact(h.b.nK x hx).2 hb
  ·have:=(hQ _ hb).1;have:=tT x hx;omega
 ·obtain⟨k1,k2⟩:=h.b.arr i x l hx hl;exact⟨k1.kept hg λe=>(h.b.nK x (List.mem_of_getElem? hx)).2 (hr _ e.symm).1,k2⟩
 ·rintro(hb|hb)
  ·exact(h4 g hg').1 hb
  ·have:=(cO h3 g hg').2;have:=(hQ _ hb).1;omega
theorem QR.wrote {r:Nat} (h:QR c F W d s st cd sp) (hg:W.grownBy W' (some r)) (hF:F r) (hG: ¬c.G r):QR c F W' d s st cd sp:=
 (h.add (Q:=λ_=>False) hg (λr' e=>by cases e;exact⟨hF,hG⟩) (λb hb=>hb.elim)).less (λb hb=> .inl hb) h.b.gf
theorem QR.turn (h:QR c F W d s st cd sp) (hg:W.grownBy W' (some c.rb)) (ha:s'.fB=s.fB) (hs:s'.steps<=1000000/\s'.out.length<=s'.steps/\d'<=100)
  (Gr:Value) {ov:Value} (hrow:Row W' c.rb 81 (qL c d' Gr ov s'.steps st' AW sp')) (hin:jl c.G W' Gr s'.inp) (ho:bZ W' 0 ov s'.out) (gM:∀g,ov.ownBlock=some g-> ¬F g/\∀x∈c.gz,x.1≠g):QR c F W' d' s' st' AW sp':=
 ⟨by rw[ha];exact h.b.kept hg λr e=>by cases e;exact⟨h.b.jJ,λx hx=>(h.b.nK x hx).1⟩,⟨hs.1,hs.2.1,hs.2.2,h.small.2.2.2⟩,Gr,ov,hrow,hin,ho,gM⟩
theorem bZ.qb {iv:Value} {n:Nat} {ov:Value} {l:List Int} (hg:W.grownBy W' (some c.rb)) (hrow:Row W c.rb 81 (qL c d iv ov n st cd sp)) (ho:bZ W 0 ov l):bZ W' 0 ov l:=
 bZ.tag ho hg (ld.box 3 hrow aQ)
theorem QR.put (h:QR c F W d s st cd sp) (hg:W.grownBy W' (some c.rb)) (hs:s'.steps<=1000000/\s'.out.length<=s'.steps/\d'<=100) (ha:s'.fB=s.fB) (hi:s'.inp=s.inp) (ho:s'.out=s.out)
  (hrow:∀iv ov,Row W c.rb 81 (qL c d iv ov s.steps st cd sp)->Row W' c.rb 81 (qL c d' iv ov s'.steps st' AW sp')):QR c F W' d' s' st' AW sp':=by
 obtain⟨iv,ov,h1,h2,h3,h4⟩:=h.rows;exact h.turn hg ha hs iv (hrow _ _ h1) (by rw[hi];exact jl.rb h.b hg h2) (by rw[ho];exact bZ.qb hg h1 h3) h4
theorem QR.store (h:QR c F W d s st cd sp) {i ga na at_:Nat} {l:List Int} (hx:c.gz[i]? =some (ga,na)) (hl:s.fB[i]? =some l) (v:Int):
  QR c F (W.setCell (ga,at_) (I v)) d {s with fB:=s.fB.set i (l.set at_ v)} st cd sp:=by
 have hg:=bO W ga at_ (I v);obtain⟨iv,ov,h1,h2,h3,h4⟩:=h.rows;have hmem:=List.mem_of_getElem? hx;have hF: ¬F ga:=(h.b.nK _ hmem).2;have hG:∀r,some ga=some r-> ¬c.G r:=λr e hG=>by cases e;exact hF (h.b.gf _ hG)
 have cy:ga≠c.rb:=(h.b.nK _ hmem).1;refine⟨⟨λb hb=>aB (h.b.lt b hb) hg.size,h.b.gf,h.b.jJ,h.b.px.grown hg hG,h.b.eW.grown hg hG λ_ _ h=>h,h.b.Bl,h.b.nK,by simp [h.b.len],h.b.yg,λj x l' hx' hl'=> ?_⟩,
  h.small,iv,ov,h1.kept hg ct,h2.grown hg hG λ_ _ h=>h,h3.kept hg (λr e e'=>by cases e;exact(h4 _ e').2 _ hmem rfl),h4⟩
 by_cases hj:j=i
 ·subst hj;rw[hx]at hx';obtain rfl:=Option.some.inj hx';have hlt:j<s.fB.length:=(aj hl).1;rw[List.getElem?_set_self hlt]at hl';obtain rfl:=Option.some.inj hl';obtain⟨k1,k2⟩:=h.b.arr j (ga,na) l hx hl;refine⟨?_,by simpa using k2⟩;have:=Row.set k1 at_ (I v);rw[List.map_set];exact this
 ·rw[List.getElem?_set_ne (λe=>hj e.symm)]at hl';obtain⟨k1,k2⟩:=h.b.arr j x l' hx' hl';refine⟨k1.kept hg ?_,k2⟩;intro e;have e:x.1=ga:=by cases e;rfl
  have hn:=h.b.Bl;have hi':i<c.gz.length:=(aj hx).1;have hj':j<c.gz.length:=(aj hx').1;have e1:(c.gz.map (·.1))[i]'(by simpa using hi')=ga:=by
   rw[List.getElem_map];have:=(aj hx).2;rw[this]
  have e2:(c.gz.map (·.1))[j]'(by simpa using hj')=ga:=by
   rw[List.getElem_map];have:=(aj hx').2;rw[this,e]
  exact hj ((List.getElem_inj hn).1 (e2.trans e1.symm))
theorem QR.print {W5:World} {iv ov v':Value} {n:Int} {g':Nat} (h:QR c F W d s st cd sp) (h1:Row W c.rb 81 (qL c d iv ov s.steps st cd sp)) (h2:jl c.G W iv s.inp) (h4:∀g,ov.ownBlock=some g-> ¬F g/\∀x∈c.gz,x.1≠g) (h3:bZ W 0 ov s.out)
  (hg:W.grownBy W5 ov.ownBlock) (hat:ov.ownBlock=some g'\/g'=W.heap.size) (hv:v'.ownBlock=some g') (ho:bZ W5 0 v' (s.out++ [n])) (hs:s.out.length+1<=s.steps):
  QR c F (W5.setCell (c.rb,3) v') d {s with out:=s.out++ [n]} st cd sp/\KF F W (W5.setCell (c.rb,3) v'):=by
 have bz:=h.b.kept hg (λr e=>h4 r e);have bp:Row W5 c.rb 81 (qL c d iv ov s.steps st cd sp):=h1.kept hg (λe=>by
  have:=Jy h3 (t:=81) aQ c.rb e.symm;exact this _ _ h1)
 have bG:=bO W5 c.rb 3 v';refine⟨⟨bz.kept bG (λr e=>by cases e;exact⟨h.b.jJ,λx hx=>(h.b.nK x hx).1⟩),⟨h.small.1,by simpa using hs,h.small.2.2.1,h.small.2.2.2⟩,iv,v',bp.set 3 v',jl.rb bz bG (h2.grown hg (λr e hG=>(h4 r e).1 (h.b.gf r hG)) λ_ _ h=>h),bZ.tag ho bG (ld.box 3 bp aQ),λg e=> ?_⟩, ?_⟩
 ·rw[hv]at e;obtain rfl:=Option.some.inj e;rcases hat with hat|rfl
  ·exact h4 _ hat
  ·exact⟨λhF=>by have:=h.b.lt _ hF;omega,λx hx=>by have:=h.Oh x hx;omega⟩
 ·exact(h.kf hg (λr e=>(h4 r e).1)).trans (KF.grown bG (λb hb=>aB (h.b.lt b hb) hg.size) (λr e=>by cases e;exact h.b.jJ))
end
theorem QX (x:aK):∀(l:List aK) (g:Vars),(l.foldl (λg x=>upd g x 0) g) x=if x∈l then 0 else g x
 | [],g=>by simp
 |y::l,g=>by
  rw[List.foldl_cons,QX x l]
  unfold upd
  by_cases h1:x∈l
  ·simp [h1]
  ·by_cases h2:x=y<;>simp [h1,h2]
theorem Xr (x:aK):∀(ps:List aK) (ys:List Int) (g:Vars),x∉ps->((ps.zip ys).foldl (λg p=>upd g p.1 p.2) g) x=g x
 | [],_,g,_=>by simp
 |p::ps,[],g,_=>by simp
 |p::ps,a::ys,g,h=>by
  rw[List.zip_cons_cons,List.foldl_cons,Xr x ps ys _ (λhx=>h (List.mem_cons_of_mem _ hx))]
  unfold upd
  exact if_neg (λe=>h (by rw[show x=p from e];exact List.mem_cons_self))
theorem QD:∀(ps:List aK) (ys:List Int) (g:Vars),ps.Nodup->ps.length=ys.length->ps.map ((ps.zip ys).foldl (λg p=>upd g p.1 p.2) g)=ys
 | [],[],g,_,_=>rfl
 | [],_::_,_,_,h=>by cases h
 |_::_,[],_,_,h=>by cases h
 |p::ps,a::ys,g,hn,hl=>by
  rw[List.zip_cons_cons,List.foldl_cons,List.map_cons]
  have hn':=List.nodup_cons.1 hn
  rw[Xr p ps ys _ hn'.1,QD ps ys _ hn'.2 (by simpa using hl)]
  unfold upd
  simp
theorem agr {f:LF} {args:List Int} (hn:(f.params++f.locals).Nodup) (hl:f.params.length=args.length):(f.params++f.locals).map (oN f args)=args++List.replicate f.locals.length 0:=by
 rw[List.map_append];obtain⟨h1,h2,h3⟩:=List.nodup_append.1 hn
 congr 1
 ·rw[<-QD f.params args (λ_=>0) h1 hl];refine List.map_congr_left λx hx=> ?_;unfold oN;rw[QX,if_neg (λh=>h3 x hx x h rfl),QD f.params args (λ_=>0) h1 hl]
 ·rw[List.eq_replicate_iff];refine⟨aH,λb hb=> ?_⟩;obtain⟨x,hx,rfl⟩:=List.mem_map.1 hb;unfold oN;rw[QX,if_pos hx]
theorem Cb {ns:List aK} {x:aK} (hx:x∈ns):ns.idxOf x<ns.length:=List.idxOf_lt_length_iff.2 hx
theorem Y6 {ns:List aK} {x:aK} (f:Vars) (hx:x∈ns):(ns.map f)[ns.idxOf x]? =some (f x):=by
 rw[List.getElem?_map,ah (Cb hx),List.getElem_idxOf];rfl
theorem ahV {ns:List aK} {x:aK} (f:Vars) (v:Int) (hn:ns.Nodup) (hx:x∈ns):(ns.map f).set (ns.idxOf x) v=ns.map (upd f x v):=by
 refine List.ext_getElem aH λi h1 h2=> ?_;simp only[List.length_set,aC]at h1 h2;rw[List.getElem_set,List.getElem_map,List.getElem_map];unfold upd;by_cases h:ns.idxOf x=i
 ·subst h;rw[if_pos rfl,if_pos (List.getElem_idxOf _)]
 ·rw[if_neg h,if_neg (λe=>h ?_)];refine(List.getElem_inj (h₀:=Cb hx) (h₁:=h1) hn).1 ?_;rw[List.getElem_idxOf,e]
structure ig (c:cH) (F:Nat->Prop) (W:World) (d:Nat) (how:Int) (k:bM) (s:aV) (st cd:Int) (sp:Bool) (fb vb:Nat) (nv vv:Value) (ns:List aK):Prop where
 er:QR c F W d s st cd sp
 fF:F fb
 vF:F vb
 fG: ¬c.G fb
 vG: ¬c.G vb
 row:Row W fb 104 [nv,vv,I how,I k.value]
 names:aP (λb=>F b/\b≠fb/\b≠vb) 1 dc W nv ns
 vars:bZ W 0 vv (ns.map k.vars)
 own:∀g,vv.ownBlock=some g->g=vb/\g≠fb
 nd:ns.Nodup
section
variable {c:cH} {F F' Q:Nat->Prop} {W W':World} {d d':Nat} {how aqn:Int} {k k':bM} {s s':aV} {st cd st' AW:Int} {sp sp':Bool} {fb vb:Nat} {nv vv:Value} {ns:List aK} {row:Option Nat}
theorem ig.on (h:ig c F W d how k s st cd sp fb vb nv vv ns) (hk:KF F W W') (he:QR c F W' d' s' st' AW sp'):ig c F W' d' how k s' st' AW sp' fb vb nv vv ns:=
 ⟨he,h.fF,h.vF,h.fG,h.vG,hk.row h.row h.fF,h.names.on (λb hb=>hk.block b hb.1) i20,h.vars.on (λg hg=>by rw[(h.own g hg).1];exact hk.block vb h.vF),h.own,h.nd⟩
theorem ig.quiet (h:ig c F W d how k s st cd sp fb vb nv vv ns) (hg:W.grownBy W' none):ig c F W' d how k s st cd sp fb vb nv vv ns:=
 h.on (h.er.kf hg aJ) (h.er.quiet hg)
theorem ig.more (h:ig c F W d how k s st cd sp fb vb nv vv ns) (hF:∀b,F b->F' b) (he:QR c F' W d s st cd sp):ig c F' W d how k s st cd sp fb vb nv vv ns:=
 ⟨he,hF _ h.fF,hF _ h.vF,h.fG,h.vG,h.row,h.names.weak (λb hb=>⟨hF _ hb.1,hb.2⟩) i20,h.vars,h.own,h.nd⟩
end
def l8 (c:cH) (F:Nat->Prop) (W:World) (d:Nat) (r:b6 Int) (en:Ending) (w':World):Prop:=
 KF F W w'/\∃n:Int,en= .returned (I n)/\match r with
 | .ok m s'=>n=m/\QR c F w' d s' 0 0 false
 | .stop a b s'=>QR c F w' d s' a b (a==0)
def RunT (c:cH) (F:Nat->Prop) (fb vb:Nat) (nv vv:Value) (ns:List aK) (W:World) (d:Nat) (r:b6 (Int×bM)) (en:Ending) (w':World):Prop:=
 KF (mF F fb vb) W w'/\en= .returned (.tuple #[])/\match r with
 | .ok q s'=>ig c F w' d q.1 q.2 s' 0 0 false fb vb nv vv ns
 | .stop a b s'=>∃how k,ig c F w' d how k s' a b (a==0) fb vb nv vv ns
theorem l8.ok {c:cH} {F:Nat->Prop} {W w':World} {d:Nat} {r:b6 Int} {n:Int} {s':aV} (h:r= .ok n s') (hk:KF F W w') (he:QR c F w' d s' 0 0 false):l8 c F W d r (.returned (I n)) w':=by
 rw[h];exact⟨hk,n,rfl,rfl,he⟩
theorem l8.stop {c:cH} {F:Nat->Prop} {W w':World} {d:Nat} {r:b6 Int} {a b n:Int} {sp:Bool} {s':aV} (h:r= .stop a b s') (hsp:sp=(a==0)) (hk:KF F W w') (he:QR c F w' d s' a b sp):l8 c F W d r (.returned (I n)) w':=by
 rw[h];subst hsp;exact⟨hk,n,rfl,he⟩
theorem RunT.ok {c:cH} {F:Nat->Prop} {fb vb:Nat} {nv vv:Value} {ns:List aK} {W w':World} {d:Nat} {r:b6 (Int×bM)} {q:Int×bM} {s':aV} (h:r= .ok q s') (hk:KF (mF F fb vb) W w') (he:ig c F w' d q.1 q.2 s' 0 0 false fb vb nv vv ns):RunT c F fb vb nv vv ns W d r (.returned (.tuple #[])) w':=by
 rw[h];exact⟨hk,rfl,he⟩
theorem RunT.stop {c:cH} {F:Nat->Prop} {fb vb:Nat} {nv vv:Value} {ns:List aK} {W w':World} {d:Nat} {r:b6 (Int×bM)} {a b how:Int} {sp:Bool} {k:bM} {s':aV} (h:r= .stop a b s') (hsp:sp=(a==0)) (hk:KF (mF F fb vb) W w') (he:ig c F w' d how k s' a b sp fb vb nv vv ns):RunT c F fb vb nv vv ns W d r (.returned (.tuple #[])) w':=by
 rw[h];subst hsp;exact⟨hk,rfl,how,k,he⟩
end
end Go.Proofs.YtjgbkdbkachciaaGreatDoor
