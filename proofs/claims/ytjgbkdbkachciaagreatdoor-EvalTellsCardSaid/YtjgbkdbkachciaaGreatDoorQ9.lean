import Derived.Test.YtjgbkdbkachciaaGreatDoorQ8
set_option linter.all false
namespace Go.Proofs.YtjgbkdbkachciaaGreatDoor
set_option maxRecDepth 100000
set_option maxHeartbeats 16000000
section
open Go.RowKit Go.Shelf
attribute [local go_sem] Oper.semAt_some
def Rq:Nat->LS->Prop
 |0,_=>True
 |d+1,s=>s.name.length<=1000000/\(∀x∈s.args,xL x)/\(∀x∈s.thn,Rq d x)/\∀x∈s.els,Rq d x
def wh (s:LS):Prop:=∀d,Rq d s
theorem wh.name {s:LS} (h:wh s):s.name.length<=1000000:=(h 1).1
theorem wh.args {s:LS} (h:wh s):∀x∈s.args,xL x:=(h 1).2.1
theorem wh.thn {s:LS} (h:wh s):∀x∈s.thn,wh x:=λx hx d=>(h (d+1)).2.2.1 x hx
theorem wh.els {s:LS} (h:wh s):∀x∈s.els,wh x:=λx hx d=>(h (d+1)).2.2.2 x hx
def dK (k:Int) (nm:aK) (nb:Bool) (an tn en:Nat) (k5:Bool):Bool:=
 if k=1\/k=2 then nb&&decide (tn=0)&&decide (en=0)else if k=3 then decide (nm= [])else if k=4 then decide (nm= [])&&decide (en=0)
 else if k=10 then decide (nm= [])&&(decide (tn=0)&&decide (en=0))&&decide (an=1)&&k5 else if 5<=k/\k<=9 then decide (nm= [])&&(decide (tn=0)&&decide (en=0))else false
def manyN (k:Int):Nat:=if k=2 then 2 else if k=5\/k=6 then 0 else 1
theorem ahS (s:LS) (ha:eH s.name):Ss s↔(∀x∈s.args,ij 40 x)/\dK s.kind s.name (isName s.name) s.args.length s.thn.length s.els.length (s.args.all λa=>decide (a.kind=5))=true/\s.args.length=manyN s.kind:=by
 obtain⟨k,n,a,t,e⟩:=s;simp only[LS.name]at ha;simp only[Ss,dK,manyN,LS.kind,LS.name,LS.args,LS.thn,LS.els];have t0:t.length=0↔t= []:=List.length_eq_zero_iff;have e0:e.length=0↔e= []:=List.length_eq_zero_iff;rcases(by omega:k=1\/k=2\/k=3\/k=4\/k=5\/k=6\/k=7\/k=8\/k=9\/k=10\/(k<1\/10<k))with rfl|rfl|rfl|rfl|rfl|rfl|rfl|rfl|rfl|rfl|hk
 case inr.inr.inr.inr.inr.inr.inr.inr.inr.inr=>
  have h1: ¬(k=1\/k=2):=aG;have h2: ¬k=3:=aG;have h3: ¬k=4:=aG;have h4: ¬k=10:=aG;have h5: ¬(5<=k/\k<=9):=aG;simp only[h1,h2,h3,h4,h5,if_false];constructor
  ·rintro⟨⟨h, -⟩, -⟩;omega
  ·rintro⟨-,h, -⟩;cases h
 all_goals
  simp [cR,t0,e0,ha]
  try grind
def R_ (d:Nat):Prop:=∀(l:List LS) (v:Value) (w:World) (B:Nat->Prop),(∀x∈l,qs x)->(∀x∈l,wh x)->aP B 5 (RS d B) w v l->CR 96 #[v] w (.bool (bP (∀x∈l,tI x)))
abbrev sZ5:Array Value:= #[.int .i64 0, .string ⟨#[]⟩, .slice none 0 0, .slice none 0 0, .slice none 0 0]
theorem Xp (d:Nat) (ih:∀j,d=j+1->R_ j):R_ d:=by
 intro l v w B ha hs hx;have⟨Q,hQ⟩:=xq (bP (∀x∈l,tI x));rw[<-hQ];have HQ:=aF hQ;obtain⟨aa,ac,rfl,hlen, -⟩:=id hx;have⟨N,hN⟩:=xq l.length;have hNb:N<=1000000000:=aG;rw[<-hN];have HX:=aF hx;have HN:=aF hN;have HI:=aF ih;have HA:=aF ha;have HS:=aF hs;have lN:=aF (show∀x∈l,¬tI x->Q=false from λx hx h=>by
  rw[HQ.out];exact vY λh'=>h (h' x hx))
 clear hx hQ hN ih ha hs hlen;go_enter Tryz.func96,Tryz.ntmps96;go_wp2;go_loopg [3] N (λgh i wr=>∃k:Nat,gh+k=N/\i=I k/\Hid (Below w w wr/\∀j,(hj:j<l.length)->j<k->tI l[j]))
 case atStart=>exact⟨0,aG,rfl,aF ⟨Below.refl _ _,λj _ h=>absurd h aG⟩⟩
 case round=>
  obtain⟨k,hg,rfl,HH⟩:=hrel;obtain⟨wo,rfl⟩:=xq wr;by_cases hlt:k<N
  case neg=>
   have bT: ¬(k:Int)<(N:Int):=aG;have hend:Q=true:=by
    rw[HQ.out];exact t_ λx hx=>by
     obtain⟨j,hj,rfl⟩:=List.getElem_of_mem hx;exact HH.out.2 j hj (cw HN)
   subst hend;go_wp2;go_ret;exact⟨rfl,HH.out.1⟩
  have bT:(k:Int)<(N:Int):=aG;have hlt':k<l.length:=by rw[<-HN.out];exact hlt
  obtain⟨b,o,C,rfl,_,hC,hrx⟩:=(show aP B 5 (RS d B) wo (.slice aa l.length ac) l from HX.below HH.out.1 (λC x h=>RS.below HH.out.1 h)).at hlt';have e0:=hC 0 aG;have e1:=hC 1 aG;have e2:=hC 2 aG;have e3:=hC 3 aG;have e4:=hC 4 aG;simp only[aA]at e0;have⟨x,hxk⟩:=xq (l[k]);have hmem:x∈l:=by rw[hxk];exact ak hlt'
  rw[<-hxk]at hrx;obtain⟨j,rfl⟩:∃j,d=j+1:=by
   cases d with
   |zero=>exact hrx.elim
   |succ j=>exact⟨j,rfl⟩
  obtain⟨h0,h1,pH,htx,hex⟩:=hrx;have ih:=HI j rfl;obtain⟨xa,xc,cX⟩:=pH.slice;obtain⟨ta,tc,gu, -⟩:=id htx;obtain⟨ea,ec,hev, -⟩:=id hex;have⟨an,dI⟩:=xq x.args.length;rw[show(LE.mk 0 0 0 [] x.args).args.length=an from dI.symm]at cX;have⟨tn,htn⟩:=xq x.thn.length;have⟨en,hen⟩:=xq x.els.length;rw[<-htn]at gu;rw[<-hen]at hev;have⟨sn,dN⟩:=xq x.name;have⟨sk,hsk⟩:=xq x.kind;have⟨nb,hnb⟩:=xq (isName x.name);have⟨k5,cg⟩:=xq (x.args.all (λa=>decide (a.kind=5)));have⟨bt,rU⟩:=xq (bP (∀y∈x.thn,tI y));have⟨be,pM⟩:=xq (bP (∀y∈x.els,tI y));rw[h0,<-hsk]at e0;rw[h1,<-dN]at e1;rw[cX]at e2 pH;rw[gu]at e3 htx;rw[hev]at e4 hex;have Z8:tI x↔((∀y∈x.args,ij 40 y)/\dK sk sn nb an tn en k5=true/\an=manyN sk)/\bt=true/\be=true:=by
   rw[YB,ahS x (HA.out x hmem).name,rU,pM,ow,ow,dI,htn,hen,dN,hsk,hnb,cg]
  have hct:=λW (hh:aP B 5 (RS j B) W (.slice ta tn tc) x.thn)=>ih x.thn _ W B (HA x hmem).thn (HS x hmem).thn hh
  have hce:=λW (hh:aP B 5 (RS j B) W (.slice ea en ec) x.els)=>ih x.els _ W B (HA x hmem).els (HS x hmem).els hh
  rw[<-rU]at hct;rw[<-pM]at hce;have cJ:=λW=>JE x.name (HA x hmem).name (HS x hmem).name W;rw[<-hnb,<-dN]at cJ;have cD:an=1->∃(g o:Nat) (q:Int),xa=some ⟨g,o,none⟩/\g<wo.heap.size/\wo.cell? (g,o)=some (I q)/\k5=decide (q=5):=λh1=>by
   obtain⟨a,hsa⟩:∃a,x.args= [a]:=List.length_eq_one_iff.1 aG;obtain⟨d',a',c',hv, -,td⟩:=pH;obtain⟨rfl, -,rfl⟩:xa=a'/\an=(LE.mk 0 0 0 [] x.args).args.length/\xc=c':=by simpa using hv
   rcases td with td|⟨g,o,rfl, -,hel⟩
   ·rw[show(LE.mk 0 0 0 [] x.args).args= [a]from hsa]at td;cases td
   ·obtain⟨C,hC,hR⟩:=hel 0 a (by rw[show(LE.mk 0 0 0 [] x.args).args= [a]from hsa];rfl);obtain⟨hev, -⟩:=hR.ev;have h0:=hC 0 aQ;rw[Nat.zero_mul,aA]at h0;have hev:Value.agg #[C 0,C 1,C 2,C 3,C 4]=Value.agg #[I a.kind,I a.op,I a.n,S a.name,C 4]:=hev;have h5:C 0=I a.kind/\C 1=I a.op/\C 2=I a.n/\C 3=S a.name:=by simpa using Value.agg.inj hev
    rw[h5.1]at h0;refine⟨g,o,a.kind,rfl, ?_,h0,by rw[cg,hsa];simp⟩;rcases Nat.lt_or_ge g wo with h|h
    ·exact h
    ·simp [World.cell?,Array.getElem?_eq_none h]at h0
  have ap_:an<=1000000000:=by
   obtain⟨_,_,_,_,h, -⟩:=id pH;rw[dI];exact h
  have ap':tn<=1000000000:=by
   obtain⟨_,_,_,h, -⟩:=id htx;omega
  have aqa:en<=1000000000:=by
   obtain⟨_,_,_,h, -⟩:=id hex;omega
  have HW:=aF Z8;have gw:=aF hct;have l9:=aF hce;have cv:=aF cJ;have xh:=aF cD;have uZ:=aF pH;have sS:=aF htx;have eA:=aF hex;have sQ:=aF hmem;have sX:=aF hxk;have mD:=aF dI;clear hC h0 h1 pH htx hex ih cX gu hev dI htn hen dN hsk hnb cg rU pM Z8 hct hce cJ cD hxk hmem;go_upto_region 5 with(refine sr 54 (.tmp 4) (.tmp 22) wo sZ5 hn0 ?_;rw[World.setRow_alloc_new])
  have⟨w1,hw1⟩:=xq (wo.alloc (.cells #[I sk,S sn, .slice xa an xc, .slice ta tn tc, .slice ea en ec] 54));have aI:=aF (gI hw1);have bC:=aF (dZ hw1);rw[<-hw1];have⟨rb,cy⟩:=xq wo.heap.size;have bF:=aF cy;rw[<-cy]at bC|-;clear hw1 e0 e1 e2 e3 e4 cy;go_upto_region 6 with(fail)
  go_loopg [5] an (λgh i wr=>∃q:Nat,gh+q=an/\i=I q/\Hid (Below w1 w1 wr/\∀j,(hj:j<x.args.length)->j<q->ij 40 x.args[j]))
  case atStart=>exact⟨0,aG,rfl,aF ⟨Below.refl _ _,λj _ h=>absurd h aG⟩⟩
  case round=>
   obtain⟨q,hgq,rfl,HJ⟩:=hrel;obtain⟨wp,rfl⟩:=xq wr;have eN:=bC.ext HJ.out.1;have b2:=eN.k2;have BR:=aF (aI.out.trans (HJ.out.1.mono aI.size));clear eN;by_cases hlq:q<an
   case pos=>
    have alM:(q:Int)<(an:Int):=aG;have abP:q<x.args.length:=by rw[<-mD.out];exact hlq
    obtain⟨dx,hdx⟩:=uZ.grown (aT BR) aJ;obtain⟨gb,go,D,rfl,_,hD,dA⟩:=(show aP B 5 (RE dx B) wp (.slice xa (LE.mk 0 0 0 [] x.args).args.length xc) x.args by rw[show(LE.mk 0 0 0 [] x.args).args.length=an from mD.out.symm];exact hdx).at abP;have e0:=hD 0 aG;have e1:=hD 1 aG;have e2:=hD 2 aG;have e3:=hD 3 aG;have e4:=hD 4 aG;simp only[aA]at e0;obtain⟨Ul,Um⟩:=dA.ev;have⟨y,hyk⟩:=xq (x.args[q]);have Oi:y∈x.args:=by rw[hyk];exact ak abP
    rw[<-hyk]at Ul Um;have hce:=WN y ((HA x sQ).args y Oi) ((HS x sQ).args y Oi) (D 4) wp B Um;rw[<-Ul]at hce;have⟨qb,Ep⟩:=xq (bP (ij 40 y));rw[<-Ep]at hce;have EL:=aF hce;have jA:=aF hyk;have HQB:=aF Ep;have HYM:=aF Oi;clear hdx hD dA Ul Um hyk Oi hce Ep;cases qb
    ·obtain rfl:Q=false:=lN x sQ λhw=>by
      have Pk:=(HW.1 hw).1.1 y HYM;have:=HQB.out;rw[t_ Pk]at this;cases this
     go_wp2_with (go_at_call 39;refine aN EL λw2 aM=> ?_)
     go_ret;exact⟨rfl,HH.out.1.trans ((BR.out.trans (aM.mono BR.size)).mono HH.out.1.size)⟩
    ·go_wp2_with (go_at_call 39;refine aN EL λw2 aM=> ?_)
     go_roundg (an - (q+1))
     case measure=>omega
     case rel=>exact⟨q+1,aG,by go_num,aF ⟨HJ.out.1.trans (aM.mono HJ.out.1.size),λj hj hjk=>by
      by_cases e:j=q
      ·subst e;rw[<-jA.out];exact ow.1 HQB.out.symm
      ·exact HJ.out.2 j hj aG⟩⟩
   have alM: ¬(q:Int)<(an:Int):=aG;have OZ:=aF (show∀y∈x.args,ij 40 y from λy hy=>by
    obtain⟨j,hj,rfl⟩:=List.getElem_of_mem hy;exact HJ.out.2 j hj (cw mD))
   have eN:=bC.ext HJ.out.1;clear b2;have b0:=eN.k0;have b1:=eN.k1;have b2:=eN.k2;have b3:=eN.k3;have b4:=eN.k4;have Wv:=aF eN;clear eN;have HTP:Hid (aP B 5 (RS j B) wp (.slice ta tn tc) x.thn):=sS.below BR (λC x h=>RS.below BR h);have HEP:=aF (show aP B 5 (RS j B) wp (.slice ea en ec) x.els from eA.below BR (λC x h=>RS.below BR h));go_upto_region 12 with(go_at_call 96;refine aN (gw _ HTP) λw2 aM=> ?_;have eN:=Wv.ext aM;clear b0 b1 b2 b3 b4;have b0:=eN.k0;have b1:=eN.k1;have b2:=eN.k2;have b3:=eN.k3;have b4:=eN.k4;clear eN)
   go_upto_region 13 with(go_at_call 96;refine aN (l9 _ (HEP.below aM (λC x h=>RS.below aM h))) λw3 hb3=> ?_;have aW:=aU aM hb3;have eN:=Wv.ext aW;clear b0 b1 b2 b3 b4;have b0:=eN.k0;have b1:=eN.k1;have b2:=eN.k2;have b3:=eN.k3;have b4:=eN.k4;have bL:=aF eN;clear eN)
   have bB:=aF (HH.out.1.trans ((BR.out.trans (aW.mono BR.size)).mono HH.out.1.size));have iL:=aU BR aW;clear HI HA HS HX gw l9 uZ sS eA HTP HEP aI bC Wv aM;cases bt
   case false=>
    obtain rfl:Q=false:=lN x sQ λhw=>by have:=(HW.1 hw).2.1;cases this
    go_wp2;go_ret;exact⟨rfl,bB⟩
   cases be
   case false=>
    obtain rfl:Q=false:=lN x sQ λhw=>by have:=(HW.1 hw).2.2;cases this
    go_wp2;go_ret;exact⟨rfl,bB⟩
   have gi:=aF (show dK sk sn nb an tn en k5=true->an=manyN sk->tI x from λh1 h2=>HW.2 ⟨⟨OZ,h1,h2⟩,rfl,rfl⟩);have ei:=aF (show¬(dK sk sn nb an tn en k5=true/\an=manyN sk)->Q=false from λh=>lN.out x sQ λhw=>h (HW.1 hw).1.2);have wT:=aF (show tI x->∀j,(hj:j<l.length)->j<k+1->tI l[j]from λh j hj hjk=>by
    by_cases e:j=k
    ·subst e;rw[<-sX.out];exact h
    ·exact HH.out.2 j hj aG)
   clear HW lN OZ HJ HQ;go_upto_region 17 with(go_at_call 93;refine(cv _).mono ?_;rintro e' w4⟨rfl,rfl⟩)
   rcases(by omega:sk=1\/sk=2\/sk=3\/sk=4\/sk=5\/sk=6\/sk=7\/sk=8\/sk=9\/sk=10\/(sk<1\/10<sk))with rfl|rfl|rfl|rfl|rfl|rfl|rfl|rfl|rfl|rfl|hk
   ·
    as_aux_lemma=>
    cases nb
    case false=>
     by_cases ht:tn=0
     case neg=>
      have kr:((tn:Int)==0)=false:=bD;obtain rfl:Q=false:=ei (λh=>by
       have:=h.1;simp [dK]at this)
      go_wp2;go_ret;exact⟨rfl,bB⟩
     subst ht;by_cases he:en=0
     case neg=>
      have mL:((en:Int)==0)=false:=bD;obtain rfl:Q=false:=ei (λh=>by
       have:=h.1;simp [dK]at this)
      go_wp2;go_ret;exact⟨rfl,bB⟩
     subst he;obtain rfl:Q=false:=ei (λh=>by
      have:=h.1;simp [dK]at this)
     go_wp2;go_ret;exact⟨rfl,bB⟩
    by_cases ht:tn=0
    case neg=>
     have kr:((tn:Int)==0)=false:=bD;obtain rfl:Q=false:=ei (λh=>by
      have:=h.1;simp [dK,ht]at this)
     go_wp2;go_ret;exact⟨rfl,bB⟩
    subst ht;by_cases he:en=0
    case neg=>
     have mL:((en:Int)==0)=false:=bD;obtain rfl:Q=false:=ei (λh=>by
      have:=h.1;simp [dK,he]at this)
     go_wp2;go_ret;exact⟨rfl,bB⟩
    subst he;by_cases hm:an=1
    case neg=>
     have hmb:((an:Int)==1)=false:=bD;have A1:((an:Int) !=1)=true:=by rw[bne,hmb];rfl
     obtain rfl:Q=false:=ei (λh=>by
      have:=h.2;simp [manyN]at this;omega)
     clear hm;go_wp2;go_ret;exact⟨rfl,bB⟩
    subst hm;have nQ:=aF (gi (by simp [dK]) (by simp [manyN]));go_wp2;go_roundg (N - (k+1))
    case measure=>omega
    case rel=>exact⟨k+1,aG,by go_num,aF ⟨bB,wT nQ⟩⟩
   ·
    as_aux_lemma=>
    cases nb
    case false=>
     by_cases ht:tn=0
     case neg=>
      have kr:((tn:Int)==0)=false:=bD;obtain rfl:Q=false:=ei (λh=>by
       have:=h.1;simp [dK]at this)
      go_wp2;go_ret;exact⟨rfl,bB⟩
     subst ht;by_cases he:en=0
     case neg=>
      have mL:((en:Int)==0)=false:=bD;obtain rfl:Q=false:=ei (λh=>by
       have:=h.1;simp [dK]at this)
      go_wp2;go_ret;exact⟨rfl,bB⟩
     subst he;obtain rfl:Q=false:=ei (λh=>by
      have:=h.1;simp [dK]at this)
     go_wp2;go_ret;exact⟨rfl,bB⟩
    by_cases ht:tn=0
    case neg=>
     have kr:((tn:Int)==0)=false:=bD;obtain rfl:Q=false:=ei (λh=>by
      have:=h.1;simp [dK,ht]at this)
     go_wp2;go_ret;exact⟨rfl,bB⟩
    subst ht;by_cases he:en=0
    case neg=>
     have mL:((en:Int)==0)=false:=bD;obtain rfl:Q=false:=ei (λh=>by
      have:=h.1;simp [dK,he]at this)
     go_wp2;go_ret;exact⟨rfl,bB⟩
    subst he;by_cases hm:an=2
    case neg=>
     have hmb:((an:Int)==2)=false:=bD;have A1:((an:Int) !=2)=true:=by rw[bne,hmb];rfl
     obtain rfl:Q=false:=ei (λh=>by
      have:=h.2;simp [manyN]at this;omega)
     clear hm;go_wp2;go_ret;exact⟨rfl,bB⟩
    subst hm;have nQ:=aF (gi (by simp [dK]) (by simp [manyN]));go_wp2;go_roundg (N - (k+1))
    case measure=>omega
    case rel=>exact⟨k+1,aG,by go_num,aF ⟨bB,wT nQ⟩⟩
   ·
    as_aux_lemma=>
    by_cases ht:tn=0
    case neg=>
     have kr:((tn:Int)==0)=false:=bD;by_cases hs:sn= []
     case neg=>
      have eu:(sn== [])=false:=bu hs;obtain rfl:Q=false:=ei (λh=>by
       have:=h.1;simp [dK,hs]at this)
      go_wp2;go_ret;exact⟨rfl,bB⟩
     subst hs;by_cases hm:an=1
     case neg=>
      have hmb:((an:Int)==1)=false:=bD;have A1:((an:Int) !=1)=true:=by rw[bne,hmb];rfl
      obtain rfl:Q=false:=ei (λh=>by
       have:=h.2;simp [manyN]at this;omega)
      clear hm;go_wp2;go_ret;exact⟨rfl,bB⟩
     subst hm;have nQ:=aF (gi (by simp [dK]) (by simp [manyN]));go_wp2;go_roundg (N - (k+1))
     case measure=>omega
     case rel=>exact⟨k+1,aG,by go_num,aF ⟨bB,wT nQ⟩⟩
    subst ht;by_cases he:en=0
    case neg=>
     have mL:((en:Int)==0)=false:=bD;by_cases hs:sn= []
     case neg=>
      have eu:(sn== [])=false:=bu hs;obtain rfl:Q=false:=ei (λh=>by
       have:=h.1;simp [dK,hs]at this)
      go_wp2;go_ret;exact⟨rfl,bB⟩
     subst hs;by_cases hm:an=1
     case neg=>
      have hmb:((an:Int)==1)=false:=bD;have A1:((an:Int) !=1)=true:=by rw[bne,hmb];rfl
      obtain rfl:Q=false:=ei (λh=>by
       have:=h.2;simp [manyN]at this;omega)
      clear hm;go_wp2;go_ret;exact⟨rfl,bB⟩
     subst hm;have nQ:=aF (gi (by simp [dK]) (by simp [manyN]));go_wp2;go_roundg (N - (k+1))
     case measure=>omega
     case rel=>exact⟨k+1,aG,by go_num,aF ⟨bB,wT nQ⟩⟩
    subst he;by_cases hs:sn= []
    case neg=>
     have eu:(sn== [])=false:=bu hs;obtain rfl:Q=false:=ei (λh=>by
      have:=h.1;simp [dK,hs]at this)
     go_wp2;go_ret;exact⟨rfl,bB⟩
    subst hs;by_cases hm:an=1
    case neg=>
     have hmb:((an:Int)==1)=false:=bD;have A1:((an:Int) !=1)=true:=by rw[bne,hmb];rfl
     obtain rfl:Q=false:=ei (λh=>by
      have:=h.2;simp [manyN]at this;omega)
     clear hm;go_wp2;go_ret;exact⟨rfl,bB⟩
    subst hm;have nQ:=aF (gi (by simp [dK]) (by simp [manyN]));go_wp2;go_roundg (N - (k+1))
    case measure=>omega
    case rel=>exact⟨k+1,aG,by go_num,aF ⟨bB,wT nQ⟩⟩
   ·
    as_aux_lemma=>
    by_cases ht:tn=0
    case neg=>
     have kr:((tn:Int)==0)=false:=bD;by_cases he:en=0
     case neg=>
      have mL:((en:Int)==0)=false:=bD;by_cases hs:sn= []
      case neg=>
       have eu:(sn== [])=false:=bu hs;obtain rfl:Q=false:=ei (λh=>by
        have:=h.1;simp [dK,hs]at this)
       go_wp2;go_ret;exact⟨rfl,bB⟩
      subst hs;obtain rfl:Q=false:=ei (λh=>by
       have:=h.1;simp [dK,he]at this)
      go_wp2;go_ret;exact⟨rfl,bB⟩
     subst he;by_cases hs:sn= []
     case neg=>
      have eu:(sn== [])=false:=bu hs;obtain rfl:Q=false:=ei (λh=>by
       have:=h.1;simp [dK,hs]at this)
      go_wp2;go_ret;exact⟨rfl,bB⟩
     subst hs;by_cases hm:an=1
     case neg=>
      have hmb:((an:Int)==1)=false:=bD;have A1:((an:Int) !=1)=true:=by rw[bne,hmb];rfl
      obtain rfl:Q=false:=ei (λh=>by
       have:=h.2;simp [manyN]at this;omega)
      clear hm;go_wp2;go_ret;exact⟨rfl,bB⟩
     subst hm;have nQ:=aF (gi (by simp [dK]) (by simp [manyN]));go_wp2;go_roundg (N - (k+1))
     case measure=>omega
     case rel=>exact⟨k+1,aG,by go_num,aF ⟨bB,wT nQ⟩⟩
    subst ht;by_cases he:en=0
    case neg=>
     have mL:((en:Int)==0)=false:=bD;by_cases hs:sn= []
     case neg=>
      have eu:(sn== [])=false:=bu hs;obtain rfl:Q=false:=ei (λh=>by
       have:=h.1;simp [dK,hs]at this)
      go_wp2;go_ret;exact⟨rfl,bB⟩
     subst hs;obtain rfl:Q=false:=ei (λh=>by
      have:=h.1;simp [dK,he]at this)
     go_wp2;go_ret;exact⟨rfl,bB⟩
    subst he;by_cases hs:sn= []
    case neg=>
     have eu:(sn== [])=false:=bu hs;obtain rfl:Q=false:=ei (λh=>by
      have:=h.1;simp [dK,hs]at this)
     go_wp2;go_ret;exact⟨rfl,bB⟩
    subst hs;by_cases hm:an=1
    case neg=>
     have hmb:((an:Int)==1)=false:=bD;have A1:((an:Int) !=1)=true:=by rw[bne,hmb];rfl
     obtain rfl:Q=false:=ei (λh=>by
      have:=h.2;simp [manyN]at this;omega)
     clear hm;go_wp2;go_ret;exact⟨rfl,bB⟩
    subst hm;have nQ:=aF (gi (by simp [dK]) (by simp [manyN]));go_wp2;go_roundg (N - (k+1))
    case measure=>omega
    case rel=>exact⟨k+1,aG,by go_num,aF ⟨bB,wT nQ⟩⟩
   ·
    as_aux_lemma=>
    by_cases ht:tn=0
    case neg=>
     have kr:((tn:Int)==0)=false:=bD;by_cases hs:sn= []
     case neg=>
      have eu:(sn== [])=false:=bu hs;obtain rfl:Q=false:=ei (λh=>by
       have:=h.1;simp [dK,hs]at this)
      go_wp2;go_ret;exact⟨rfl,bB⟩
     subst hs;obtain rfl:Q=false:=ei (λh=>by
      have:=h.1;simp [dK,ht]at this)
     go_wp2;go_ret;exact⟨rfl,bB⟩
    subst ht;by_cases he:en=0
    case neg=>
     have mL:((en:Int)==0)=false:=bD;by_cases hs:sn= []
     case neg=>
      have eu:(sn== [])=false:=bu hs;obtain rfl:Q=false:=ei (λh=>by
       have:=h.1;simp [dK,hs]at this)
      go_wp2;go_ret;exact⟨rfl,bB⟩
     subst hs;obtain rfl:Q=false:=ei (λh=>by
      have:=h.1;simp [dK,he]at this)
     go_wp2;go_ret;exact⟨rfl,bB⟩
    subst he;by_cases hs:sn= []
    case neg=>
     have eu:(sn== [])=false:=bu hs;obtain rfl:Q=false:=ei (λh=>by
      have:=h.1;simp [dK,hs]at this)
     go_wp2;go_ret;exact⟨rfl,bB⟩
    subst hs;by_cases hm:an=0
    case neg=>
     have hmb:((an:Int)==0)=false:=bD;have A1:((an:Int) !=0)=true:=by rw[bne,hmb];rfl
     obtain rfl:Q=false:=ei (λh=>by
      have:=h.2;simp [manyN]at this;omega)
     clear hm;go_wp2;go_ret;exact⟨rfl,bB⟩
    subst hm;have nQ:=aF (gi (by simp [dK]) (by simp [manyN]));go_wp2;go_roundg (N - (k+1))
    case measure=>omega
    case rel=>exact⟨k+1,aG,by go_num,aF ⟨bB,wT nQ⟩⟩
   ·
    as_aux_lemma=>
    by_cases ht:tn=0
    case neg=>
     have kr:((tn:Int)==0)=false:=bD;by_cases hs:sn= []
     case neg=>
      have eu:(sn== [])=false:=bu hs;obtain rfl:Q=false:=ei (λh=>by
       have:=h.1;simp [dK,hs]at this)
      go_wp2;go_ret;exact⟨rfl,bB⟩
     subst hs;obtain rfl:Q=false:=ei (λh=>by
      have:=h.1;simp [dK,ht]at this)
     go_wp2;go_ret;exact⟨rfl,bB⟩
    subst ht;by_cases he:en=0
    case neg=>
     have mL:((en:Int)==0)=false:=bD;by_cases hs:sn= []
     case neg=>
      have eu:(sn== [])=false:=bu hs;obtain rfl:Q=false:=ei (λh=>by
       have:=h.1;simp [dK,hs]at this)
      go_wp2;go_ret;exact⟨rfl,bB⟩
     subst hs;obtain rfl:Q=false:=ei (λh=>by
      have:=h.1;simp [dK,he]at this)
     go_wp2;go_ret;exact⟨rfl,bB⟩
    subst he;by_cases hs:sn= []
    case neg=>
     have eu:(sn== [])=false:=bu hs;obtain rfl:Q=false:=ei (λh=>by
      have:=h.1;simp [dK,hs]at this)
     go_wp2;go_ret;exact⟨rfl,bB⟩
    subst hs;by_cases hm:an=0
    case neg=>
     have hmb:((an:Int)==0)=false:=bD;have A1:((an:Int) !=0)=true:=by rw[bne,hmb];rfl
     obtain rfl:Q=false:=ei (λh=>by
      have:=h.2;simp [manyN]at this;omega)
     clear hm;go_wp2;go_ret;exact⟨rfl,bB⟩
    subst hm;have nQ:=aF (gi (by simp [dK]) (by simp [manyN]));go_wp2;go_roundg (N - (k+1))
    case measure=>omega
    case rel=>exact⟨k+1,aG,by go_num,aF ⟨bB,wT nQ⟩⟩
   ·
    as_aux_lemma=>
    by_cases ht:tn=0
    case neg=>
     have kr:((tn:Int)==0)=false:=bD;by_cases hs:sn= []
     case neg=>
      have eu:(sn== [])=false:=bu hs;obtain rfl:Q=false:=ei (λh=>by
       have:=h.1;simp [dK,hs]at this)
      go_wp2;go_ret;exact⟨rfl,bB⟩
     subst hs;obtain rfl:Q=false:=ei (λh=>by
      have:=h.1;simp [dK,ht]at this)
     go_wp2;go_ret;exact⟨rfl,bB⟩
    subst ht;by_cases he:en=0
    case neg=>
     have mL:((en:Int)==0)=false:=bD;by_cases hs:sn= []
     case neg=>
      have eu:(sn== [])=false:=bu hs;obtain rfl:Q=false:=ei (λh=>by
       have:=h.1;simp [dK,hs]at this)
      go_wp2;go_ret;exact⟨rfl,bB⟩
     subst hs;obtain rfl:Q=false:=ei (λh=>by
      have:=h.1;simp [dK,he]at this)
     go_wp2;go_ret;exact⟨rfl,bB⟩
    subst he;by_cases hs:sn= []
    case neg=>
     have eu:(sn== [])=false:=bu hs;obtain rfl:Q=false:=ei (λh=>by
      have:=h.1;simp [dK,hs]at this)
     go_wp2;go_ret;exact⟨rfl,bB⟩
    subst hs;by_cases hm:an=1
    case neg=>
     have hmb:((an:Int)==1)=false:=bD;have A1:((an:Int) !=1)=true:=by rw[bne,hmb];rfl
     obtain rfl:Q=false:=ei (λh=>by
      have:=h.2;simp [manyN]at this;omega)
     clear hm;go_wp2;go_ret;exact⟨rfl,bB⟩
    subst hm;have nQ:=aF (gi (by simp [dK]) (by simp [manyN]));go_wp2;go_roundg (N - (k+1))
    case measure=>omega
    case rel=>exact⟨k+1,aG,by go_num,aF ⟨bB,wT nQ⟩⟩
   ·
    as_aux_lemma=>
    by_cases ht:tn=0
    case neg=>
     have kr:((tn:Int)==0)=false:=bD;by_cases hs:sn= []
     case neg=>
      have eu:(sn== [])=false:=bu hs;obtain rfl:Q=false:=ei (λh=>by
       have:=h.1;simp [dK,hs]at this)
      go_wp2;go_ret;exact⟨rfl,bB⟩
     subst hs;obtain rfl:Q=false:=ei (λh=>by
      have:=h.1;simp [dK,ht]at this)
     go_wp2;go_ret;exact⟨rfl,bB⟩
    subst ht;by_cases he:en=0
    case neg=>
     have mL:((en:Int)==0)=false:=bD;by_cases hs:sn= []
     case neg=>
      have eu:(sn== [])=false:=bu hs;obtain rfl:Q=false:=ei (λh=>by
       have:=h.1;simp [dK,hs]at this)
      go_wp2;go_ret;exact⟨rfl,bB⟩
     subst hs;obtain rfl:Q=false:=ei (λh=>by
      have:=h.1;simp [dK,he]at this)
     go_wp2;go_ret;exact⟨rfl,bB⟩
    subst he;by_cases hs:sn= []
    case neg=>
     have eu:(sn== [])=false:=bu hs;obtain rfl:Q=false:=ei (λh=>by
      have:=h.1;simp [dK,hs]at this)
     go_wp2;go_ret;exact⟨rfl,bB⟩
    subst hs;by_cases hm:an=1
    case neg=>
     have hmb:((an:Int)==1)=false:=bD;have A1:((an:Int) !=1)=true:=by rw[bne,hmb];rfl
     obtain rfl:Q=false:=ei (λh=>by
      have:=h.2;simp [manyN]at this;omega)
     clear hm;go_wp2;go_ret;exact⟨rfl,bB⟩
    subst hm;have nQ:=aF (gi (by simp [dK]) (by simp [manyN]));go_wp2;go_roundg (N - (k+1))
    case measure=>omega
    case rel=>exact⟨k+1,aG,by go_num,aF ⟨bB,wT nQ⟩⟩
   ·
    as_aux_lemma=>
    by_cases ht:tn=0
    case neg=>
     have kr:((tn:Int)==0)=false:=bD;by_cases hs:sn= []
     case neg=>
      have eu:(sn== [])=false:=bu hs;obtain rfl:Q=false:=ei (λh=>by
       have:=h.1;simp [dK,hs]at this)
      go_wp2;go_ret;exact⟨rfl,bB⟩
     subst hs;obtain rfl:Q=false:=ei (λh=>by
      have:=h.1;simp [dK,ht]at this)
     go_wp2;go_ret;exact⟨rfl,bB⟩
    subst ht;by_cases he:en=0
    case neg=>
     have mL:((en:Int)==0)=false:=bD;by_cases hs:sn= []
     case neg=>
      have eu:(sn== [])=false:=bu hs;obtain rfl:Q=false:=ei (λh=>by
       have:=h.1;simp [dK,hs]at this)
      go_wp2;go_ret;exact⟨rfl,bB⟩
     subst hs;obtain rfl:Q=false:=ei (λh=>by
      have:=h.1;simp [dK,he]at this)
     go_wp2;go_ret;exact⟨rfl,bB⟩
    subst he;by_cases hs:sn= []
    case neg=>
     have eu:(sn== [])=false:=bu hs;obtain rfl:Q=false:=ei (λh=>by
      have:=h.1;simp [dK,hs]at this)
     go_wp2;go_ret;exact⟨rfl,bB⟩
    subst hs;by_cases hm:an=1
    case neg=>
     have hmb:((an:Int)==1)=false:=bD;have A1:((an:Int) !=1)=true:=by rw[bne,hmb];rfl
     obtain rfl:Q=false:=ei (λh=>by
      have:=h.2;simp [manyN]at this;omega)
     clear hm;go_wp2;go_ret;exact⟨rfl,bB⟩
    subst hm;have nQ:=aF (gi (by simp [dK]) (by simp [manyN]));go_wp2;go_roundg (N - (k+1))
    case measure=>omega
    case rel=>exact⟨k+1,aG,by go_num,aF ⟨bB,wT nQ⟩⟩
   ·
    as_aux_lemma=>
    by_cases ht:tn=0
    case neg=>
     have kr:((tn:Int)==0)=false:=bD;by_cases hs:sn= []
     case neg=>
      have eu:(sn== [])=false:=bu hs;obtain rfl:Q=false:=ei (λh=>by
       have:=h.1;simp [dK,hs]at this)
      go_wp2;go_ret;exact⟨rfl,bB⟩
     subst hs;obtain rfl:Q=false:=ei (λh=>by
      have:=h.1;simp [dK,ht]at this)
     go_wp2;go_ret;exact⟨rfl,bB⟩
    subst ht;by_cases he:en=0
    case neg=>
     have mL:((en:Int)==0)=false:=bD;by_cases hs:sn= []
     case neg=>
      have eu:(sn== [])=false:=bu hs;obtain rfl:Q=false:=ei (λh=>by
       have:=h.1;simp [dK,hs]at this)
      go_wp2;go_ret;exact⟨rfl,bB⟩
     subst hs;obtain rfl:Q=false:=ei (λh=>by
      have:=h.1;simp [dK,he]at this)
     go_wp2;go_ret;exact⟨rfl,bB⟩
    subst he;by_cases hs:sn= []
    case neg=>
     have eu:(sn== [])=false:=bu hs;obtain rfl:Q=false:=ei (λh=>by
      have:=h.1;simp [dK,hs]at this)
     go_wp2;go_ret;exact⟨rfl,bB⟩
    subst hs;by_cases hm:an=1
    case neg=>
     have hmb:((an:Int)==1)=false:=bD;obtain rfl:Q=false:=ei (λh=>by
      have:=h.1;simp [dK,hm]at this)
     go_wp2;go_ret;exact⟨rfl,bB⟩
    obtain⟨g,go5,q5,rfl,hgl,cD,Gk⟩:=xh hm;subst hm;have VV:=(show World.cell? _ (g,go5)=some (I q5)from(A4 (iL.block g hgl)).trans cD);clear cD hgl;by_cases hq:q5=5
    case neg=>
     have Ep:(q5==5)=false:=bu hq;have dG:=aF (show k5=false by rw[Gk];simp [hq]);clear Gk hq;obtain rfl:Q=false:=ei (λh=>by
      have:=h.1;simp [dK,dG.out]at this)
     go_wp2;go_ret;exact⟨rfl,bB⟩
    subst hq;have dG:=aF (show k5=true by rw[Gk];rfl);clear Gk;have nQ:=aF (gi (by simp [dK,dG.out]) (by simp [manyN]));go_wp2;go_roundg (N - (k+1))
    case measure=>omega
    case rel=>exact⟨k+1,aG,by go_num,aF ⟨bB,wT nQ⟩⟩
   ·have kk1:(sk==1)=false:=bD;have kk2:(sk==2)=false:=bD;have kk3:(sk==3)=false:=bD;have kk4:(sk==4)=false:=bD;have kk5:(sk==5)=false:=bD;have kk6:(sk==6)=false:=bD;have kk7:(sk==7)=false:=bD;have kk8:(sk==8)=false:=bD;have kk9:(sk==9)=false:=bD;have aqb:(sk==10)=false:=bD;have hf:dK sk sn nb an tn en k5=false:=by
     unfold dK;rw[if_neg aG,if_neg aG,if_neg aG,if_neg aG,if_neg aG]
    obtain rfl:Q=false:=ei (λh=>by rw[hf]at h;exact absurd h.1 aQ);clear hf hk;by_cases ht:tn=0
    case neg=>
     have kr:((tn:Int)==0)=false:=bD;go_wp2;go_ret;exact⟨rfl,bB⟩
    subst ht;by_cases he:en=0
    case neg=>
     have mL:((en:Int)==0)=false:=bD;go_wp2;go_ret;exact⟨rfl,bB⟩
    subst he;go_wp2;go_ret;exact⟨rfl,bB⟩
theorem Yr:∀d,R_ d
 |0=>Xp 0 aJ
 |d+1=>Xp (d+1) (λj e=>by
   obtain rfl:j=d:=aG
   exact Yr j)
end
end Go.Proofs.YtjgbkdbkachciaaGreatDoor
