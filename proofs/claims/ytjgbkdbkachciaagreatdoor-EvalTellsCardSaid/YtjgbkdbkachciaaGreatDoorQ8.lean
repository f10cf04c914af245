import Derived.Test.YtjgbkdbkachciaaGreatDoorQ6
set_option linter.all false
namespace Go.Proofs.YtjgbkdbkachciaaGreatDoor
set_option maxRecDepth 100000
set_option maxHeartbeats 16000000
section
open Go.RowKit Go.Shelf
attribute [local go_sem] Oper.semAt_some
def ZA:Nat->LE->Prop
 |0,_=>True
 |d+1,e=>e.name.length<=1000000/\∀x∈e.args,ZA d x
def xL (e:LE):Prop:=∀d,ZA d e
theorem xL.name {e:LE} (h:xL e):e.name.length<=1000000:=(h 1).1
theorem xL.args {e:LE} (h:xL e):∀x∈e.args,xL x:=λx hx d=>(h (d+1)).2 x hx
def yL (ek eo en:Int) (nm:aK) (al:Nat) (nb:Bool):Bool:=
 if ek=1 then rG eo en nm al false true false 0&&decide (0<=en)else
 if ek=2 then rG eo en nm al false false true 0&&nb else
 if ek=3 then rG eo en nm al true false false 1&&(decide (17<=eo)&&decide (eo<=19))else
 if ek=4 then rG eo en nm al true false false 2&&(decide (1<=eo)&&decide (eo<=16))else
 if ek=5 then rG eo en nm al false false true (al:Int)&&(nb&&decide (al<=6))else
 if ek=6 then rG eo en nm al false false true 1&&nb else
 if ek=7 then rG eo en nm al false false false 0&&true else
 false
theorem afW (e:LE) (ha:eH e.name):yL e.kind e.op e.n e.name e.args.length (isName e.name)=true↔DJ e:=by
 obtain⟨k,op,n,nm,l⟩:=e;simp only[LE.name]at ha;simp only[DJ,yL,rG,LE.kind,LE.op,LE.n,LE.name,LE.args];rcases(by omega:k=1\/k=2\/k=3\/k=4\/k=5\/k=6\/k=7\/(k≠1/\k≠2/\k≠3/\k≠4/\k≠5/\k≠6/\k≠7))with rfl|rfl|rfl|rfl|rfl|rfl|rfl|⟨h1,h2,h3,h4,h5,h6,h7⟩
 all_goals simp_all
 all_goals (first|omega|grind)
def Zg (d:Nat):Prop:=∀(x:LE) (B:Nat->Prop) (W:World) (C:Nat->Value),kA x->xL x->RE d B W C x->CR 65 #[eV x (C 4)] W (.bool (bP (nU x)))
theorem W_ {d:Nat} (ih:Zg d) (e:LE) (ha:kA e) (hsh:xL e) (av:Value) (w:World) (B:Nat->Prop) (hx:aP B 5 (RE d B) w av e.args):CR 65 #[eV e av] w (.bool (bP (nU e))):=by
 have⟨Q,hQ⟩:=xq (bP (nU e));rw[<-hQ];have HQ:=aF hQ;obtain⟨aa,ac,rfl,hlen, -⟩:=id hx;have⟨N,hN⟩:=xq e.args.length;have hNb:N<=1000000000:=aG;have⟨ek,lT⟩:=xq e.kind;have⟨eo,mg⟩:=xq e.op;have⟨en,hen⟩:=xq e.n;have⟨nm,cJ⟩:=xq e.name;have⟨nb,hnb⟩:=xq (isName e.name);have hval:eV e (.slice aa e.args.length ac)= .agg #[I ek,I eo,I en,S nm, .slice aa N ac]:=by rw[eV,lT,mg,hen,cJ,hN]
 rw[hval];have Si:=λW=>JE e.name ha.name hsh.name W;rw[<-hnb,<-cJ]at Si;have hfin:(∀x∈e.args,nU x)->Q=yL ek eo en nm N nb:=λh=>by
  rw[HQ.out,Bool.eq_iff_iff,ow,Hg,lT,mg,hen,cJ,hN,hnb,afW e ha.name];exact⟨λh=>h.1,λh'=>⟨h',h⟩⟩
 have lN:=aF (show∀x∈e.args,bP (nU x)=false->Q=false from λx hx h=>by
  rw[HQ.out];refine vY λhw=> ?_;rw[t_ (((Hg e).1 hw).2 x hx)]at h;cases h)
 have⟨w0,hw0⟩:=xq (w.alloc (.cells #[I ek,I eo,I en,S nm, .slice aa N ac] 31));have dO:=hw0.symm;have bg:=aF (gI hw0);have oC:=aF (dZ hw0);have HX:=aF hx;have HN:=aF hN;have HI:=aF ih;have HA:=aF ha;have Pj:=aF hsh;have aj5:=aF Si;have gi:=aF hfin;clear hx hQ hN lT mg hen cJ hnb hval hw0 ih ha hsh Si hfin hlen;go_enter Tryz.func65,Tryz.ntmps65;go_wp2;clear dO;go_loopg [3] N (λgh i wr=>∃k:Nat,gh+k=N/\i=I k/\Hid (Below w0 w0 wr/\∀j,(hj:j<e.args.length)->j<k->nU e.args[j]))
 case atStart=>exact⟨0,aG,rfl,aF ⟨Below.refl _ _,λj _ h=>absurd h aG⟩⟩
 case round=>
  obtain⟨k,hg,rfl,HH⟩:=hrel;obtain⟨wo,rfl⟩:=xq wr;have hr1:=oC.ext HH.out.1;have b4:=hr1.k4;have bB:=aF (bg.out.trans (HH.out.1.mono bg.size));have bC:=aF hr1;clear hr1;by_cases hlt:k<N
  ·have bT:(k:Int)<(N:Int):=aG;have hlt':k<e.args.length:=by rw[<-HN.out];exact hlt
   obtain⟨b,o,C,rfl,_,hC,hrx⟩:=(show aP B 5 (RE d B) wo (.slice aa e.args.length ac) e.args from HX.below bB (λC x h=>RE.below bB h)).at hlt';have e0:=hC 0 aG;have e1:=hC 1 aG;have e2:=hC 2 aG;have e3:=hC 3 aG;have e4:=hC 4 aG;simp only[aA]at e0 e1 e2 e3 e4;obtain⟨hev, -⟩:=hrx.ev;have⟨x,hxk⟩:=xq (e.args[k]);have sQ:=aF (show x∈e.args by rw[hxk];exact ak hlt');rw[<-hxk]at hev hrx;have hc:=HI x B wo C (HA.args x sQ) (Pj.args x sQ) hrx;rw[<-hev]at hc;have⟨q,hq⟩:=xq (bP (nU x));rw[<-hq]at hc;have HC:=aF hc;have sX:=aF hxk;have kE:=aF hq;clear hC hrx hev hc hxk hq;cases q
   ·obtain rfl:Q=false:=lN x sQ kE.out.symm;go_wp2_with (go_at_call 65;refine aN HC λw1 aI=> ?_)
    go_ret;exact⟨rfl,bB.out.trans (aI.mono bB.size)⟩
   ·go_wp2_with (go_at_call 65;refine aN HC λw1 aI=> ?_)
    go_roundg (N - (k+1))
    case measure=>omega
    case rel=>exact⟨k+1,aG,by go_num,aF ⟨HH.out.1.trans (aI.mono HH.out.1.size),λj hj hjk=>by
     by_cases e:j=k
     ·subst e;rw[<-sX.out];exact ow.1 kE.out.symm
     ·exact HH.out.2 j hj aG⟩⟩
  ·have bT: ¬(k:Int)<(N:Int):=aG;have hfin:=gi (λx hx=>by
    obtain⟨j,hj,rfl⟩:=List.getElem_of_mem hx;exact HH.out.2 j hj (cw HN))
   have b0:=bC.k0;have b1:=bC.k1;have b2:=bC.k2;have b3:=bC.k3;have HF:=aF hfin;have rN:=aF (λ(o n m:Bool) (k:Int) W=>afn ek eo en nm aa N ac o n m k W);clear hfin gi lN HI HH;go_upto_region 8 with(go_at_call 93;refine(aj5 _).mono ?_;rintro e' w1⟨rfl,rfl⟩)
   rcases(by omega:ek=1\/ek=2\/ek=3\/ek=4\/ek=5\/ek=6\/ek=7\/(ek≠1/\ek≠2/\ek≠3/\ek≠4/\ek≠5/\ek≠6/\ek≠7))with rfl|rfl|rfl|rfl|rfl|rfl|rfl|⟨h1,h2,h3,h4,h5,h6,h7⟩
   ·have⟨bb,hbb⟩:=xq (rG eo en nm N false true false 0);have hq:=HF.out;simp only[yL,<-hbb,if_true,Int.reduceEq,if_false]at hq;have mI:=aF (λW=>(show Calls Tryz.prog 106 #[.agg #[I 1,I eo,I en,S nm, .slice aa N ac], .bool false, .bool true, .bool false,I 0] W λe w'=>e= .returned (.bool bb)/\Below W W w' by rw[hbb];exact rN false true false 0 W));clear hbb;cases bb
    ·obtain rfl:Q=false:=by rw[hq];simp
     clear hq;go_wp2_with (go_at_call 106;refine aN (mI _) λw2 hb2=> ?_;have aM:=aU bB hb2;have hr2:=bC.ext hb2;clear b0 b1 b2 b3 b4;have b0:=hr2.k0;have b1:=hr2.k1;have b2:=hr2.k2;have b3:=hr2.k3;have b4:=hr2.k4;clear hr2)
     go_ret;exact⟨rfl,aM⟩
    by_cases hc0:0<=en
    case neg=>
     have hd0:decide (0<=en)=false:=decide_eq_false hc0;obtain rfl:Q=false:=by rw[hq];simp only[Bool.true_and];first|exact hd0|(rw[hd0];simp)
     clear hq;go_wp2_with (go_at_call 106;refine aN (mI _) λw2 hb2=> ?_;have aM:=aU bB hb2;have hr2:=bC.ext hb2;clear b0 b1 b2 b3 b4;have b0:=hr2.k0;have b1:=hr2.k1;have b2:=hr2.k2;have b3:=hr2.k3;have b4:=hr2.k4;clear hr2)
     go_ret;exact⟨rfl,aM⟩
    obtain rfl:Q=true:=by rw[hq];simp [hc0]
    clear hq;go_wp2_with (go_at_call 106;refine aN (mI _) λw2 hb2=> ?_;have aM:=aU bB hb2;have hr2:=bC.ext hb2;clear b0 b1 b2 b3 b4;have b0:=hr2.k0;have b1:=hr2.k1;have b2:=hr2.k2;have b3:=hr2.k3;have b4:=hr2.k4;clear hr2)
    go_ret;exact⟨rfl,aM⟩
   ·have⟨bb,hbb⟩:=xq (rG eo en nm N false false true 0);have hq:=HF.out;simp only[yL,<-hbb,if_true,Int.reduceEq,if_false]at hq;have mI:=aF (λW=>(show Calls Tryz.prog 106 #[.agg #[I 2,I eo,I en,S nm, .slice aa N ac], .bool false, .bool false, .bool true,I 0] W λe w'=>e= .returned (.bool bb)/\Below W W w' by rw[hbb];exact rN false false true 0 W));clear hbb;cases bb
    ·obtain rfl:Q=false:=by rw[hq];simp
     clear hq;go_wp2_with (go_at_call 106;refine aN (mI _) λw2 hb2=> ?_;have aM:=aU bB hb2;have hr2:=bC.ext hb2;clear b0 b1 b2 b3 b4;have b0:=hr2.k0;have b1:=hr2.k1;have b2:=hr2.k2;have b3:=hr2.k3;have b4:=hr2.k4;clear hr2)
     go_ret;exact⟨rfl,aM⟩
    obtain rfl:Q=nb:=by rw[hq];simp
    clear hq;go_wp2_with (go_at_call 106;refine aN (mI _) λw2 hb2=> ?_;have aM:=aU bB hb2;have hr2:=bC.ext hb2;clear b0 b1 b2 b3 b4;have b0:=hr2.k0;have b1:=hr2.k1;have b2:=hr2.k2;have b3:=hr2.k3;have b4:=hr2.k4;clear hr2)
    go_ret;exact⟨rfl,aM⟩
   ·have⟨bb,hbb⟩:=xq (rG eo en nm N true false false 1);have hq:=HF.out;simp only[yL,<-hbb,if_true,Int.reduceEq,if_false]at hq;have mI:=aF (λW=>(show Calls Tryz.prog 106 #[.agg #[I 3,I eo,I en,S nm, .slice aa N ac], .bool true, .bool false, .bool false,I 1] W λe w'=>e= .returned (.bool bb)/\Below W W w' by rw[hbb];exact rN true false false 1 W));clear hbb;cases bb
    ·obtain rfl:Q=false:=by rw[hq];simp
     clear hq;go_wp2_with (go_at_call 106;refine aN (mI _) λw2 hb2=> ?_;have aM:=aU bB hb2;have hr2:=bC.ext hb2;clear b0 b1 b2 b3 b4;have b0:=hr2.k0;have b1:=hr2.k1;have b2:=hr2.k2;have b3:=hr2.k3;have b4:=hr2.k4;clear hr2)
     go_ret;exact⟨rfl,aM⟩
    by_cases hc0:17<=eo
    case neg=>
     have hd0:decide (17<=eo)=false:=decide_eq_false hc0;obtain rfl:Q=false:=by rw[hq];simp only[Bool.true_and];first|exact hd0|(rw[hd0];simp)
     clear hq;go_wp2_with (go_at_call 106;refine aN (mI _) λw2 hb2=> ?_;have aM:=aU bB hb2;have hr2:=bC.ext hb2;clear b0 b1 b2 b3 b4;have b0:=hr2.k0;have b1:=hr2.k1;have b2:=hr2.k2;have b3:=hr2.k3;have b4:=hr2.k4;clear hr2)
     go_ret;exact⟨rfl,aM⟩
    by_cases hc1:eo<=19
    case neg=>
     have hd1:decide (eo<=19)=false:=decide_eq_false hc1;obtain rfl:Q=false:=by rw[hq];simp only[Bool.true_and];first|exact hd1|(rw[hd1];simp)
     clear hq;go_wp2_with (go_at_call 106;refine aN (mI _) λw2 hb2=> ?_;have aM:=aU bB hb2;have hr2:=bC.ext hb2;clear b0 b1 b2 b3 b4;have b0:=hr2.k0;have b1:=hr2.k1;have b2:=hr2.k2;have b3:=hr2.k3;have b4:=hr2.k4;clear hr2)
     go_ret;exact⟨rfl,aM⟩
    obtain rfl:Q=true:=by rw[hq];simp [hc0,hc1]
    clear hq;go_wp2_with (go_at_call 106;refine aN (mI _) λw2 hb2=> ?_;have aM:=aU bB hb2;have hr2:=bC.ext hb2;clear b0 b1 b2 b3 b4;have b0:=hr2.k0;have b1:=hr2.k1;have b2:=hr2.k2;have b3:=hr2.k3;have b4:=hr2.k4;clear hr2)
    go_ret;exact⟨rfl,aM⟩
   ·have⟨bb,hbb⟩:=xq (rG eo en nm N true false false 2);have hq:=HF.out;simp only[yL,<-hbb,if_true,Int.reduceEq,if_false]at hq;have mI:=aF (λW=>(show Calls Tryz.prog 106 #[.agg #[I 4,I eo,I en,S nm, .slice aa N ac], .bool true, .bool false, .bool false,I 2] W λe w'=>e= .returned (.bool bb)/\Below W W w' by rw[hbb];exact rN true false false 2 W));clear hbb;cases bb
    ·obtain rfl:Q=false:=by rw[hq];simp
     clear hq;go_wp2_with (go_at_call 106;refine aN (mI _) λw2 hb2=> ?_;have aM:=aU bB hb2;have hr2:=bC.ext hb2;clear b0 b1 b2 b3 b4;have b0:=hr2.k0;have b1:=hr2.k1;have b2:=hr2.k2;have b3:=hr2.k3;have b4:=hr2.k4;clear hr2)
     go_ret;exact⟨rfl,aM⟩
    by_cases hc0:1<=eo
    case neg=>
     have hd0:decide (1<=eo)=false:=decide_eq_false hc0;obtain rfl:Q=false:=by rw[hq];simp only[Bool.true_and];first|exact hd0|(rw[hd0];simp)
     clear hq;go_wp2_with (go_at_call 106;refine aN (mI _) λw2 hb2=> ?_;have aM:=aU bB hb2;have hr2:=bC.ext hb2;clear b0 b1 b2 b3 b4;have b0:=hr2.k0;have b1:=hr2.k1;have b2:=hr2.k2;have b3:=hr2.k3;have b4:=hr2.k4;clear hr2)
     go_ret;exact⟨rfl,aM⟩
    by_cases hc1:eo<=16
    case neg=>
     have hd1:decide (eo<=16)=false:=decide_eq_false hc1;obtain rfl:Q=false:=by rw[hq];simp only[Bool.true_and];first|exact hd1|(rw[hd1];simp)
     clear hq;go_wp2_with (go_at_call 106;refine aN (mI _) λw2 hb2=> ?_;have aM:=aU bB hb2;have hr2:=bC.ext hb2;clear b0 b1 b2 b3 b4;have b0:=hr2.k0;have b1:=hr2.k1;have b2:=hr2.k2;have b3:=hr2.k3;have b4:=hr2.k4;clear hr2)
     go_ret;exact⟨rfl,aM⟩
    obtain rfl:Q=true:=by rw[hq];simp [hc0,hc1]
    clear hq;go_wp2_with (go_at_call 106;refine aN (mI _) λw2 hb2=> ?_;have aM:=aU bB hb2;have hr2:=bC.ext hb2;clear b0 b1 b2 b3 b4;have b0:=hr2.k0;have b1:=hr2.k1;have b2:=hr2.k2;have b3:=hr2.k3;have b4:=hr2.k4;clear hr2)
    go_ret;exact⟨rfl,aM⟩
   ·have⟨bb,hbb⟩:=xq (rG eo en nm N false false true (N:Int));have hq:=HF.out;simp only[yL,<-hbb,if_true,Int.reduceEq,if_false]at hq;have mI:=aF (λW=>(show Calls Tryz.prog 106 #[.agg #[I 5,I eo,I en,S nm, .slice aa N ac], .bool false, .bool false, .bool true,I (N:Int)] W λe w'=>e= .returned (.bool bb)/\Below W W w' by rw[hbb];exact rN false false true (N:Int) W));clear hbb;cases bb
    ·obtain rfl:Q=false:=by rw[hq];simp
     clear hq;go_wp2_with (go_at_call 106;refine aN (mI _) λw2 hb2=> ?_;have aM:=aU bB hb2;have hr2:=bC.ext hb2;clear b0 b1 b2 b3 b4;have b0:=hr2.k0;have b1:=hr2.k1;have b2:=hr2.k2;have b3:=hr2.k3;have b4:=hr2.k4;clear hr2)
     go_ret;exact⟨rfl,aM⟩
    cases nb
    ·obtain rfl:Q=false:=by rw[hq];simp
     clear hq;go_wp2_with (go_at_call 106;refine aN (mI _) λw2 hb2=> ?_;have aM:=aU bB hb2;have hr2:=bC.ext hb2;clear b0 b1 b2 b3 b4;have b0:=hr2.k0;have b1:=hr2.k1;have b2:=hr2.k2;have b3:=hr2.k3;have b4:=hr2.k4;clear hr2)
     go_ret;exact⟨rfl,aM⟩
    by_cases hc0:N<=6
    case neg=>
     have hd0:decide ((N:Int)<=6)=false:=ct;obtain rfl:Q=false:=by rw[hq];simp [hc0]
     clear hq;go_wp2_with (go_at_call 106;refine aN (mI _) λw2 hb2=> ?_;have aM:=aU bB hb2;have hr2:=bC.ext hb2;clear b0 b1 b2 b3 b4;have b0:=hr2.k0;have b1:=hr2.k1;have b2:=hr2.k2;have b3:=hr2.k3;have b4:=hr2.k4;clear hr2)
     go_ret;exact⟨rfl,aM⟩
    have hd0:(N:Int)<=6:=aG;obtain rfl:Q=true:=by rw[hq];simp [hc0]
    clear hq;go_wp2_with (go_at_call 106;refine aN (mI _) λw2 hb2=> ?_;have aM:=aU bB hb2;have hr2:=bC.ext hb2;clear b0 b1 b2 b3 b4;have b0:=hr2.k0;have b1:=hr2.k1;have b2:=hr2.k2;have b3:=hr2.k3;have b4:=hr2.k4;clear hr2)
    go_ret;exact⟨rfl,aM⟩
   ·have⟨bb,hbb⟩:=xq (rG eo en nm N false false true 1);have hq:=HF.out;simp only[yL,<-hbb,if_true,Int.reduceEq,if_false]at hq;have mI:=aF (λW=>(show Calls Tryz.prog 106 #[.agg #[I 6,I eo,I en,S nm, .slice aa N ac], .bool false, .bool false, .bool true,I 1] W λe w'=>e= .returned (.bool bb)/\Below W W w' by rw[hbb];exact rN false false true 1 W));clear hbb;cases bb
    ·obtain rfl:Q=false:=by rw[hq];simp
     clear hq;go_wp2_with (go_at_call 106;refine aN (mI _) λw2 hb2=> ?_;have aM:=aU bB hb2;have hr2:=bC.ext hb2;clear b0 b1 b2 b3 b4;have b0:=hr2.k0;have b1:=hr2.k1;have b2:=hr2.k2;have b3:=hr2.k3;have b4:=hr2.k4;clear hr2)
     go_ret;exact⟨rfl,aM⟩
    obtain rfl:Q=nb:=by rw[hq];simp
    clear hq;go_wp2_with (go_at_call 106;refine aN (mI _) λw2 hb2=> ?_;have aM:=aU bB hb2;have hr2:=bC.ext hb2;clear b0 b1 b2 b3 b4;have b0:=hr2.k0;have b1:=hr2.k1;have b2:=hr2.k2;have b3:=hr2.k3;have b4:=hr2.k4;clear hr2)
    go_ret;exact⟨rfl,aM⟩
   ·have⟨bb,hbb⟩:=xq (rG eo en nm N false false false 0);have hq:=HF.out;simp only[yL,<-hbb,if_true,Int.reduceEq,if_false]at hq;have mI:=aF (λW=>(show Calls Tryz.prog 106 #[.agg #[I 7,I eo,I en,S nm, .slice aa N ac], .bool false, .bool false, .bool false,I 0] W λe w'=>e= .returned (.bool bb)/\Below W W w' by rw[hbb];exact rN false false false 0 W));clear hbb;cases bb
    ·obtain rfl:Q=false:=by rw[hq];simp
     clear hq;go_wp2_with (go_at_call 106;refine aN (mI _) λw2 hb2=> ?_;have aM:=aU bB hb2;have hr2:=bC.ext hb2;clear b0 b1 b2 b3 b4;have b0:=hr2.k0;have b1:=hr2.k1;have b2:=hr2.k2;have b3:=hr2.k3;have b4:=hr2.k4;clear hr2)
     go_ret;exact⟨rfl,aM⟩
    obtain rfl:Q=true:=by rw[hq];simp
    clear hq;go_wp2_with (go_at_call 106;refine aN (mI _) λw2 hb2=> ?_;have aM:=aU bB hb2;have hr2:=bC.ext hb2;clear b0 b1 b2 b3 b4;have b0:=hr2.k0;have b1:=hr2.k1;have b2:=hr2.k2;have b3:=hr2.k3;have b4:=hr2.k4;clear hr2)
    go_ret;exact⟨rfl,aM⟩
   ·have hq:=HF.out;simp only[yL,h1,h2,h3,h4,h5,h6,h7,if_false]at hq;have k1:(ek==1)=false:=bu h1;have k2:(ek==2)=false:=bu h2;have k3:(ek==3)=false:=bu h3;have k4:(ek==4)=false:=bu h4;have k5:(ek==5)=false:=bu h5;have k6:(ek==6)=false:=bu h6;have k7:(ek==7)=false:=bu h7;obtain rfl:Q=false:=hq;clear h1 h2 h3 h4 h5 h6 h7;go_wp2;go_ret;exact⟨rfl,bB⟩
theorem XY:∀d,Zg d
 |0=>λx B W C ha hs hr=>hr.elim
 |d+1=>λx B W C ha hs hr=>W_ (XY d) x ha hs (C 4) W B hr.2.2.2.2
theorem WN (e:LE) (ha:kA e) (hs:xL e) (av:Value) (w:World) (B:Nat->Prop) (hx:EX B w av e):CR 39 #[eV e av] w (.bool (bP (ij 40 e))):=by
 have hx1:=hx.alloc (o:= .cells (eB e av) 31);have HR:=aF (show Row (w.alloc (.cells (eB e av) 31)) w 31 (l6 e av)from cj _ _);have aI:=aF (cm w (.cells (eB e av) 31));have kF:=aF hx1;have hd:=XZ 41 aG e av _ B hx1;have hw:=λW (hh:EX B W av e)=>(show Calls Tryz.prog 65 #[eV e av] W λe' w'=>e'= .returned (.bool (bP (nU e)))/\Below W W w' by
  obtain⟨d,hd⟩:=hh;exact W_ (XY d) e ha hs av W B hd)
 have⟨p,hp⟩:=xq (wj 41 e);have⟨q,hq⟩:=xq (bP (nU e));have hfin:bP (ij 40 e)=(decide (p<=40)&&q):=by
  rw[Bool.eq_iff_iff,ow,NY,hp,hq,Bool.and_eq_true,ow,decide_eq_true_eq,QL]
 have hpb:p<=1000:=by rw[hp];have:=QZ 41 e;omega
 rw[hfin];rw[<-hp]at hd;rw[<-hq]at hw;have HD:=aF hd;have HW:=aF hw;clear hx hx1 ha hs hd hw hp hq hfin;by_cases Pk:p<=40
 case neg=>
  have hz: ¬(p:Int)<=40:=aG;rw[decide_eq_false Pk];go_enter Tryz.func39,Tryz.ntmps39;go_wp2_with (go_at_call 64;refine aN HD λw1 hb1=> ?_;have aM:=aF (aI.out.trans (hb1.mono aH)))
  go_ret;exact⟨rfl,aM⟩
 ·have hz:(p:Int)<=40:=aG;rw[decide_eq_true Pk];go_enter Tryz.func39,Tryz.ntmps39;go_wp2_with (first|(go_at_call 64;refine aN HD λw1 hb1=> ?_;have aM:=aF (aI.out.trans (hb1.mono aH));have aY:=aF (kF.below hb1);have hr2:=HR.ext hb1;have c0:=hr2.cell 0;have c1:=hr2.cell 1;have c2:=hr2.cell 2;have c3:=hr2.cell 3;have c4:=hr2.cell 4;simp only[l6,ag,af]at c0 c1 c2 c3 c4;clear hr2)|(go_at_call 65;refine aN (HW _ aY) λw2 hb2=> ?_;have aW:=aU aM hb2))
  go_ret;exact⟨rfl,aW⟩
def ql:Nat->List LS->Nat
 |0,_=>0
 |m+1,l=>l.foldl (λn s=>max n (max (1+ql m s.thn) (1+ql m s.els))) 0
def Oc:Nat->LS->Prop
 |0,_=>False
 |d+1,s=>(∀x∈s.thn,Oc d x)/\∀x∈s.els,Oc d x
theorem JP:∀(m:Nat) (l:List LS),ql (m+2) l<=m↔∀x∈l,Oc m x
 |0,l=>by
  rw[ql,EU]
  constructor
  ·intro h x hx
   have:=h.2 x hx
   omega
  ·intro h
   exact⟨ay _,λx hx=>(h x hx).elim⟩
 |m+1,l=>by
  rw[ql,EU]
  constructor
  ·intro h x hx
   have h1:=h.2 x hx
   exact⟨(JP m x.thn).1 aG,(JP m x.els).1 aG⟩
  ·intro h
   refine⟨aG,λx hx=> ?_⟩
   have h1:=(JP m x.thn).2 (h x hx).1
   have h2:=(JP m x.els).2 (h x hx).2
   omega
theorem N1:∀(m:Nat) (l:List LS),ql m l<=m
 |0,l=>ay _
 |m+1,l=>by
  rw[ql,EU]
  refine⟨aG,λx hx=> ?_⟩
  have h1:=N1 m x.thn
  have h2:=N1 m x.els
  omega
theorem Hs:∀{d d':Nat} (_:d<=d') {s:LS},mC d s->mC d' s
 |0,_,_,_,h=>h.elim
 |d+1,0,hl,_,_=>absurd hl aG
 |d+1,d'+1,hl,_,h=>⟨h.1,h.2.1,h.2.2.1,h.2.2.2.1,h.2.2.2.2.1,h.2.2.2.2.2.1,h.2.2.2.2.2.2.1,λx hx=>Hs aG (h.2.2.2.2.2.2.2.1 x hx),λx hx=>Hs aG (h.2.2.2.2.2.2.2.2 x hx)⟩
def tI (s:LS):Prop:=∃d,mC d s
def Ss (s:LS):Prop:=((1<=s.kind/\s.kind<=10)/\(s.kind=10->∀a∈s.args,a.kind=5))/\s.args.length=(cR s.kind).args/\((cR s.kind).thn=false->s.thn= [])/\((cR s.kind).more=false->s.els= [])/\
  ((cR s.kind).named=true->eH s.name/\isName s.name=true)/\((cR s.kind).named=false->s.name= [])/\(∀x∈s.args,ij 40 x)
theorem YB (s:LS):tI s↔Ss s/\(∀x∈s.thn,tI x)/\∀x∈s.els,tI x:=by
 constructor
 ·rintro⟨d,h⟩;cases d with
  |zero=>exact h.elim
  |succ d=>exact⟨⟨h.1,h.2.1,h.2.2.1,h.2.2.2.1,h.2.2.2.2.1,h.2.2.2.2.2.1,h.2.2.2.2.2.2.1⟩,λx hx=>⟨d,h.2.2.2.2.2.2.2.1 x hx⟩,λx hx=>⟨d,h.2.2.2.2.2.2.2.2 x hx⟩⟩
 ·rintro⟨h1,h2,h3⟩;obtain⟨d1,hd1⟩:=Ny (P:=mC) (λ{a b} hab {x} h=>Hs hab h) s.thn h2;obtain⟨d2,hd2⟩:=Ny (P:=mC) (λ{a b} hab {x} h=>Hs hab h) s.els h3;exact⟨max d1 d2+1,h1.1,h1.2.1,h1.2.2.1,h1.2.2.2.1,h1.2.2.2.2.1,h1.2.2.2.2.2.1,h1.2.2.2.2.2.2,λx hx=>Hs (Nat.le_max_left _ _) (hd1 x hx),λx hx=>Hs (Nat.le_max_right _ _) (hd2 x hx)⟩
theorem Hv:∀(d:Nat) (s:LS),mC d s↔Oc d s/\tI s
 |0,s=>⟨λh=>h.elim,λh=>h.1.elim⟩
 |d+1,s=>by
  constructor
  ·intro h
   exact⟨⟨λx hx=>((Hv d x).1 (h.2.2.2.2.2.2.2.1 x hx)).1,λx hx=>((Hv d x).1 (h.2.2.2.2.2.2.2.2 x hx)).1⟩,d+1,h⟩
  ·rintro⟨⟨h1,h2⟩,h3⟩
   obtain⟨k1,k2,k3⟩:=(YB s).1 h3
   exact⟨k1.1,k1.2.1,k1.2.2.1,k1.2.2.2.1,k1.2.2.2.2.1,k1.2.2.2.2.2.1,k1.2.2.2.2.2.2,λx hx=>(Hv d x).2 ⟨h1 x hx,k2 x hx⟩,λx hx=>(Hv d x).2 ⟨h2 x hx,k3 x hx⟩⟩
theorem ahh (l:List LS):(∀x∈l,mC 40 x)↔ql 42 l<=40/\∀x∈l,tI x:=by
 rw[show ql 42 l=ql (40+2) l from rfl,JP];exact⟨λh=>⟨λx hx=>((Hv 40 x).1 (h x hx)).1,λx hx=>⟨40,h x hx⟩⟩,λh x hx=>(Hv 40 x).2 ⟨h.1 x hx,h.2 x hx⟩⟩
def Su (m:Nat):Prop:=∀(l:List LS) (v:Value) (w:World) (B:Nat->Prop),SX B w v l->CR 95 #[v,I (m:Int)] w (I (ql m l))
theorem Yb (m:Nat) (hm:m<=1000) (ih:∀j,m=j+1->Su j):Su m:=by
 intro l v w B hx;obtain⟨Q,hQ⟩:∃Q:Nat,Q=ql m l:=⟨_,rfl⟩;rw[<-hQ];have HQ:=aF hQ;obtain⟨aa,ac,rfl⟩:=hx.slice;obtain⟨d,hx⟩:=hx;have⟨N,hN⟩:=xq l.length;have hNb:N<=1000000000:=by
  obtain⟨_,_,_,h, -⟩:=id hx;omega
 rw[<-hN];have HX:=aF hx;have HN:=aF hN;have HI:=aF ih;clear hx hQ hN ih;go_enter Tryz.func95,Tryz.ntmps95;go_wp2;go_loopg [5,6] N (λgh n i wr=>∃(k q:Nat),gh+k=N/\i=I k/\n=I q/\q<=1001/\Hid (Below w w wr/\(m=0->k=0)/\q=(l.take k).foldl (λn s=>max n (max (1+ql (m - 1) s.thn) (1+ql (m - 1) s.els))) 0))
 case atStart=>exact⟨0,0,aG,rfl,rfl,aG,aF ⟨Below.refl _ _,λ_=>rfl,rfl⟩⟩
 case round=>
  obtain⟨k,q,hg,rfl,rfl,Ep,HH⟩:=hrel;obtain⟨wo,rfl⟩:=xq wr;by_cases hgo:k<N/\0<m
  ·obtain⟨hlt,hm0⟩:=hgo;have bT:(k:Int)<(N:Int):=aG;have aky:0<(m:Int):=aG;have hlt':k<l.length:=by rw[<-HN.out];exact hlt
   obtain⟨j,Er⟩:∃j,m=j+1:=⟨m - 1,aG⟩;obtain⟨b,o,C,rfl,_,hC,hrx⟩:=(show aP B 5 (RS d B) wo (.slice aa l.length ac) l from HX.below HH.out.1 (λC x h=>RS.below HH.out.1 h)).at hlt';have e3:=hC 3 aG;have e4:=hC 4 aG;obtain⟨-, -,ht,he⟩:=hrx.ev;have⟨x,hxk⟩:=xq (l[k]);rw[<-hxk]at ht he;obtain⟨ta,tc,I9⟩:=ht.slice;obtain⟨ea,ec,hea⟩:=he.slice;rw[I9]at e3 ht;rw[hea]at e4 he;have hct:=λW (hh:SX B W (.slice ta x.thn.length tc) x.thn)=>HI.out j Er x.thn _ W B hh
   have hce:=λW (hh:SX B W (.slice ea x.els.length ec) x.els)=>HI.out j Er x.els _ W B hh
   have⟨tn,htn⟩:=xq x.thn.length;have⟨en,hen⟩:=xq x.els.length;have⟨tq,Vj⟩:=xq (ql j x.thn);have⟨eq,heq⟩:=xq (ql j x.els);rw[<-htn]at hct ht e3;rw[<-hen]at hce he e4;rw[<-Vj,show(j:Int)=(m:Int) - 1 by omega]at hct;rw[<-heq,show(j:Int)=(m:Int) - 1 by omega]at hce;have kr:tq<=1000:=by have:=N1 j x.thn;omega
   have mL:eq<=1000:=by have:=N1 j x.els;omega
   have gw:=aF hct;have l9:=aF hce;have HT:=aF ht;have HE:=aF he;have sX:=aF hxk;have HTQ:=aF Vj;have jc:=aF heq;have Vh:=aF Er;have iz:=aF e3;have dR:=aF e4;clear hC hrx ht he hct hce hxk Vj heq Er I9 hea htn hen;clear e3 e4;have hw1:IntKind.i64.wrap (1+(tq:Int))=1+tq:=wrap_small _ aG aG;have hw2:IntKind.i64.wrap (1+(eq:Int))=1+eq:=wrap_small _ aG aG;go_upto_region 5 with(fail)
   refine yl (λW=>W.cell? (b,o+k*5+3)=some (.slice ta tn tc)/\W.cell? (b,o+k*5+4)=some (.slice ea en ec)) [(0,0),(0,1),(0,2),(0,3),(0,4),(0,5),(0,6),(0,7),(0,10),(0,11),(0,12),(0,13),(0,14),(0,15),(0,16),(1,8),(0,9),(1,17),(0,18),(0,19),(0,20)] (λwd hh=>⟨eP hh iz,eP hh dR⟩) λwd hh hgd hS=> ?_;have bE:=aF (show Below wo wo wd from(Below.refl _ _).grown hgd fQ aJ);clear hh hgd;refine nE ?_;go_wp2_with (go_at_call 95;refine aN (gw _ (HT.below bE)) λw1 hb1=> ?_;have aI:=aU bE hb1)
   clear hS;refine bw ⟨aS iz (aT aI) aH,aS dR (aT aI) aH⟩ λhS=> ?_;refine wV ?_;refine h_ ?_;go_wp2_with (go_at_call 95;refine aN (l9 _ (HE.below aI)) λw2 hb2=> ?_;have aM:=aU aI hb2)
   clear hS;refine bw ⟨aS iz (aT aM) aH,aS dR (aT aM) aH⟩ λhS=> ?_;refine wY ?_;clear hS;go_wp2
   all_goals
    go_roundg (N - (k+1))
    case measure=>omega
    case rel=>
     refine⟨k+1,max q (max (1+tq) (1+eq)),aG,by go_num,congrArg (λn:Int=>Value.int .i64 n) ?_,aG,aF ⟨HH.out.1.trans (aM.mono HH.out.1.size),λh=>by omega, ?_⟩⟩
     ·(try rw[hw1]at*)
      (try rw[hw2]at*)
      omega
     ·rw[List.take_succ_eq_append_getElem hlt',List.foldl_append,<-HH.out.2.2];show max q (max (1+tq) (1+eq))=max q (max (1+ql (m - 1) l[k].thn) (1+ql (m - 1) l[k].els));rw[<-sX.out,HTQ.out,jc.out,show m - 1=j by have:=Vh.out;omega]
  ·have hend:Q=q:=by
    rw[HQ.out];cases m with
    |zero=>
     obtain rfl:=HH.out.2.1 rfl;rw[HH.out.2.2];rfl
    |succ j=>
     have hk:N<=k:=aG;rw[HH.out.2.2,ql,List.take_of_length_le (cw HN)];rfl
   obtain rfl:Q=q:=hend;by_cases hlt:k<N
   ·have bT:(k:Int)<(N:Int):=aG;have hm0: ¬0<(m:Int):=aG;go_wp2;go_ret;exact⟨rfl,HH.out.1⟩
   ·have bT: ¬(k:Int)<(N:Int):=aG;go_wp2;go_ret;exact⟨rfl,HH.out.1⟩
theorem Yq:∀(m:Nat),m<=1000->Su m
 |0,h=>Yb 0 h aJ
 |m+1,h=>Yb (m+1) h (λj e=>by
   obtain rfl:j=m:=aG
   exact Yq j aG)
end
end Go.Proofs.YtjgbkdbkachciaaGreatDoor
