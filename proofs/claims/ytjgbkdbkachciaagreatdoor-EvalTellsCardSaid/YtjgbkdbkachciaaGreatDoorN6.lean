import Derived.Test.YtjgbkdbkachciaaGreatDoorM8
set_option linter.all false
namespace Go.Proofs.YtjgbkdbkachciaaGreatDoor
set_option maxRecDepth 100000
set_option maxHeartbeats 16000000
section
open Go.RowKit Go.Shelf
attribute [local go_sem] Oper.semAt_some
theorem ahf (s:LS) (hk:s.kind=1\/s.kind=2) (most:Int) (hm:0<=most/\most<=1000) (av tv ev:Value) (w:World) (B:Nat->Prop) (ha:AX B w av s.args) (ht:SX B w tv s.thn) (he:SX B w ev s.els)
  (hn:eH s.name) (uY:∀x∈s.args,kA x) (bt be:Bool) (it:1<=most->wJ s.thn (most - 1) tv B bt) (ie:1<=most->wJ s.els (most - 1) ev B be):
  CR 120 #[sV s av tv ev,I most] w (.bool (decide (most≠0)&&decide (s.args.length=(cR s.kind).args)&&decide (s.thn.length=0)&&decide (s.els.length=0)&&isName s.name&&sN s.args&&bt&&be)):=by
 have qw:Hid (∀W:World,CR 179 #[I s.kind] W (.tuple #[.agg #[.bool true,I (cR s.kind).args, .bool false, .bool false], .bool true])):=aF (λW=>by
  have h:=JD s.kind aG W;have h1:(cR s.kind).named=true:=by unfold cR;(repeat' split)<;>first|rfl|(exfalso;omega)
  have h2:(cR s.kind).thn=false:=by unfold cR;(repeat' split)<;>first|rfl|(exfalso;omega)
  have h3:(cR s.kind).more=false:=by unfold cR;(repeat' split)<;>first|rfl|(exfalso;omega)
  rw[h1,h2,h3]at h;exact h)
 obtain⟨fa,jQ⟩:∃n,n=(cR s.kind).args:=⟨_,rfl⟩;have⟨an,dI⟩:=xq s.args.length;have⟨tn,htn⟩:=xq s.thn.length;have⟨en,hen⟩:=xq s.els.length;obtain⟨aa,ac,cX⟩:=ha.slice;rw[show(LE.mk 0 0 0 [] s.args).args.length=an from dI.symm]at cX;obtain⟨ta,tc,gu⟩:=ht.slice;rw[<-htn]at gu;obtain⟨ea,ec,hev⟩:=he.slice;rw[<-hen]at hev;subst cX;subst gu;subst hev;have⟨sn,dN⟩:=xq s.name;have⟨nb,hnb⟩:=xq (isName s.name);have⟨sk,hsk⟩:=xq s.kind;have⟨al,hal⟩:=xq (sN s.args);have cv:=aF (λW=>E4 s.name hn W);have mR:∀W d',qE sO (RE d' B) W 180 #[] (λx=> !(bP (ij 40 x))) s.args:=λW d'=>⟨enters_of Tryz.func180 aL rfl,λx hx W' C hb hr=>by
  obtain⟨he,hex⟩:=hr.ev;rw[he];exact JI x (uY x hx) (C 4) W' B hex⟩
 have uZ:=aF ha;have l9:Hid (∀W,Below w w W->CR 100 #[.slice aa an ac, .func (.func 180) #[] #[]] W (.bool !al)):=aF (λW hb=>by
  obtain⟨d',hd'⟩:=uZ.grown (bX hb none) aJ;have h:=EN W _ s.args hd' (λW W' C x hb h=>h.below hb) 180 #[] _ (mR W d');have hb:(!al)=(s.args.any λx=> !(bP (ij 40 x))):=by rw[hal];unfold sN;rw[Bool.not_not]
  rw[hb];exact h)
 have sS:=aF ht;have eA:=aF he;have HIT:=aF it;have CO:=aF ie;obtain⟨Q,hQ⟩:∃Q,Q=(decide (most≠0)&&decide (an=fa)&&decide (tn=0)&&decide (en=0)&&nb&&al&&bt&&be):=⟨_,rfl⟩;rw[<-dI,<-jQ,<-htn,<-hen,<-hnb,<-hal];rw[<-hQ];have hval:sV s (.slice aa an ac) (.slice ta tn tc) (.slice ea en ec)= .agg #[I sk,S sn, .slice aa an ac, .slice ta tn tc, .slice ea en ec]:=by rw[sV,hsk,dN]
 rw[hval];clear hval;rw[<-jQ,<-hsk]at qw;rw[<-dN]at cv;rw[<-hnb.trans (congrArg isName dN).symm]at cv;have HQ:=aF hQ;obtain⟨hm0,sU⟩:=hm;have⟨w1,hw1⟩:=xq (w.alloc (.cells #[I sk,S sn, .slice aa an ac, .slice ta tn tc, .slice ea en ec] 54));have aI:=aF (gI hw1);have qN:=dZ hw1;have bC:=aF qN;have b0:=qN.k0;have dO:w.alloc (.cells #[I sk,S sn, .slice aa an ac, .slice ta tn tc, .slice ea en ec] 54)=w1:=hw1.symm;have gm:=aF (hsk▸hk:sk=1\/sk=2);have jR:=aF (True.intro);clear ha ht he it ie hn uY mR jQ dI htn hen dN hnb hsk hal hQ hw1 qN hk;go_enter Tryz.func120,Tryz.ntmps120;go_upto_region 2 with(first|(go_at_call 179;refine aN (qw _) λw2 hb2=> ?_;have cB:=bA bC hb2;have aM:=aU aI hb2)|(refine sr 197 (.tmp 5) (.tmp 11) w2 qO hn0 ?_))
 have hzb:=aM.size;have hlb:=cB.lt;obtain⟨w3,hw3⟩:∃w3,w3=(w2.alloc (.cells qO 197)).setRow w2 #[.bool true,I fa, .bool false, .bool false]:=⟨_,rfl⟩;have gS:Row w3 w 54 [I sk,S sn, .slice aa an ac, .slice ta tn tc, .slice ea en ec]:=by rw[hw3];exact(setRow_other _ _ _ _ aG).trans (ho0 cB.out)
 have iT:Row w3 w2 197 [.bool true,I fa, .bool false, .bool false]:=by rw[hw3];exact setRow_heap _ _ _ _ _ _ hn0
 have aW:=aF (show Below w w w3 by rw[hw3];exact(aM.alloc hzb _).grown bJ ct bh);rw[<-hw3];have bL:=aF gS;have bq:=aF iT;have c0:=gS.k0;have c1:=gS.k1;have c2:=gS.k2;have c3:=gS.k3;have c4:=gS.k4;have x0:=iT.k0;have x1:=iT.k1;have x2:=iT.k2;have x3:=iT.k3;clear hw3 gS iT b0;by_cases h0:most=0
 case pos=>
  have hq:=HQ.out;subst h0;obtain rfl:Q=false:=by rw[hq];simp
  clear hq;go_wp2;go_ret;exact⟨rfl,aW⟩
 have zu:(most==0)=false:=bu h0;by_cases h1:an=fa
 case neg=>
  have hq:=HQ.out;have hne:((an:Int)==(fa:Int))=false:=bD;have jO:((an:Int) !=(fa:Int))=true:=by rw[bne,hne];rfl
  obtain rfl:Q=false:=by rw[hq];simp [h1]
  clear hq h1;go_wp2;go_ret;exact⟨rfl,aW⟩
 subst h1;by_cases htn:tn=0
 case neg=>
  have hq:=HQ.out;have hpos:0<(tn:Int):=aG;obtain rfl:Q=false:=by rw[hq];simp [htn]
  clear hq htn;go_wp2;go_ret;exact⟨rfl,aW⟩
 subst htn;by_cases hen:en=0
 case neg=>
  have hq:=HQ.out;have hpos:0<(en:Int):=aG;obtain rfl:Q=false:=by rw[hq];simp [hen]
  clear hq hen;go_wp2;go_ret;exact⟨rfl,aW⟩
 subst hen;have hq:=HQ.out;simp only[ne_eq,h0,not_false_eq_true,decide_true,Bool.true_and]at hq;have iU:=aF hq;clear hq HQ;go_upto_region 4 with(fail)
 have Sb:(sk==10)=false:=bu (cw gm);cases nb
 ·obtain rfl:Q=false:=by rw[iU.out];simp
  refine cC (λW=>W.cell? (w,0)=some (I sk)/\W.cell? (w,1)=some (S sn)/\W.cell? (w2,0)=some (.bool true)) [0,0,0,0,1,0,0,0,0,0,0,0,0,0,0,0,0,0,0,0,0,0,0,0,0,0,0,0,0] ?hS ?_
  case hS=>intro wd hh;have h9:=aO bq.out hh 0;exact⟨aO bL.out hh 0,aO bL.out hh 1,h9⟩
  intro wd hh hgd hS;have dz:=bI bL hgd;have bN:=bI bq hgd;have bE:=dF aW hgd;clear hh hgd c0 c1 c2 x0 x1
  try clear c3
  try clear c4
  try clear x2
  try clear x3
  refine dS ?_;go_wp2_with (go_at_call 117;refine aN (cv _) λw4 hb4=> ?_;have bU:=bA dz hb4;have cI:=bA bN hb4;have aR:=aU bE hb4;clear hS)
  refine bw ⟨bU.cell 0,bU.cell 1,cI.cell 0⟩ λhS=> ?_;refine dP ?_;clear hS;go_wp2;go_ret;exact⟨rfl,aR⟩
 ·have rJ:=aF (iU.out);refine cC (λW=>W.cell? (w,0)=some (I sk)/\W.cell? (w,1)=some (S sn)/\W.cell? (w2,0)=some (.bool true)) [0,0,0,0,1,0,0,0,0,0,0,0,0,0,0,0,0,0,0,0,0,0,0,0,0,0,0,0,0] ?hS ?_
  case hS=>intro wd hh;have h9:=aO bq.out hh 0;exact⟨aO bL.out hh 0,aO bL.out hh 1,h9⟩
  intro wd hh hgd hS;have dz:=bI bL hgd;have bN:=bI bq hgd;have bE:=dF aW hgd;clear hh hgd c0 c1 c2 x0 x1
  try clear c3
  try clear c4
  try clear x2
  try clear x3
  refine dS ?_;go_wp2_with (go_at_call 117;refine aN (cv _) λw4 hb4=> ?_;have bU:=bA dz hb4;have cI:=bA bN hb4;have aR:=aU bE hb4;clear hS)
  refine bw ⟨bU.cell 0,bU.cell 1,cI.cell 0⟩ λhS=> ?_;refine dP ?_;have hr4:=bU.out;have c2:=hr4.k2;have gw:=aF (l9 w4 aR);clear hr4 hS;have hq:=rJ.out;cases al
  ·obtain rfl:Q=false:=by rw[hq];simp
   clear hq;go_wp2_with (go_at_call 100;refine aN gw λw5 bz=> ?_;have bW:=aU aR bz)
   go_ret;exact⟨rfl,bW⟩
  cases bt
  ·obtain rfl:Q=false:=by rw[hq];simp
   clear hq;go_wp2_with (first|(go_at_call 100;refine aN gw λw5 bz=> ?_;have bp:=bU.ext bz;have cL:=aF bp;have bW:=aU aR bz;have c3:=bp.k3;clear bp)|(go_at_call 78;refine aN (HIT aG w5 (sS.grown (aT bW) aJ)) λw6 bV=> ?_;have cY:=aU bW bV))
   go_ret;exact⟨rfl,cY⟩
  obtain rfl:Q=be:=by rw[hq];simp
  clear hq rJ;go_wp2_with (first|(go_at_call 100;refine aN gw λw5 bz=> ?_;have bp:=bU.ext bz;have cL:=aF bp;have bW:=aU aR bz;have c3:=bp.k3;clear bp)|(go_at_call 78;(first|(refine aN (HIT aG w5 (sS.grown (aT bW) aJ)) λw6 bV=> ?_;have dU:=cL.ext bV;have dJ:=aF dU;have cY:=aU bW bV;have c4:=dU.k4;clear dU)|(refine aN (CO aG w6 (eA.grown (aT cY) aJ)) λw7 fS=> ?_;have iK:=aU cY fS))))
  go_ret;exact⟨rfl,iK⟩
theorem aid (s:LS) (hk:s.kind=4) (most:Int) (hm:0<=most/\most<=1000) (av tv ev:Value) (w:World) (B:Nat->Prop) (ha:AX B w av s.args) (ht:SX B w tv s.thn) (he:SX B w ev s.els)
  (hn:eH s.name) (uY:∀x∈s.args,kA x) (bt be:Bool) (it:1<=most->wJ s.thn (most - 1) tv B bt) (ie:1<=most->wJ s.els (most - 1) ev B be):
  CR 120 #[sV s av tv ev,I most] w (.bool (decide (most≠0)&&decide (s.args.length=(cR s.kind).args)&&decide (s.els.length=0)&& !(isName s.name)&&decide (s.name= [])&&sN s.args&&bt&&be)):=by
 have qw:Hid (∀W:World,CR 179 #[I s.kind] W (.tuple #[.agg #[.bool false,I (cR s.kind).args, .bool true, .bool false], .bool true])):=aF (λW=>by
  have h:=JD s.kind aG W;have h1:(cR s.kind).named=false:=by unfold cR;(repeat' split)<;>first|rfl|(exfalso;omega)
  have h2:(cR s.kind).thn=true:=by unfold cR;(repeat' split)<;>first|rfl|(exfalso;omega)
  have h3:(cR s.kind).more=false:=by unfold cR;(repeat' split)<;>first|rfl|(exfalso;omega)
  rw[h1,h2,h3]at h;exact h)
 obtain⟨fa,jQ⟩:∃n,n=(cR s.kind).args:=⟨_,rfl⟩;have⟨an,dI⟩:=xq s.args.length;have⟨tn,htn⟩:=xq s.thn.length;have⟨en,hen⟩:=xq s.els.length;obtain⟨aa,ac,cX⟩:=ha.slice;rw[show(LE.mk 0 0 0 [] s.args).args.length=an from dI.symm]at cX;obtain⟨ta,tc,gu⟩:=ht.slice;rw[<-htn]at gu;obtain⟨ea,ec,hev⟩:=he.slice;rw[<-hen]at hev;subst cX;subst gu;subst hev;have⟨sn,dN⟩:=xq s.name;have⟨nb,hnb⟩:=xq (isName s.name);have⟨sk,hsk⟩:=xq s.kind;have⟨al,hal⟩:=xq (sN s.args);have cv:=aF (λW=>E4 s.name hn W);have mR:∀W d',qE sO (RE d' B) W 180 #[] (λx=> !(bP (ij 40 x))) s.args:=λW d'=>⟨enters_of Tryz.func180 aL rfl,λx hx W' C hb hr=>by
  obtain⟨he,hex⟩:=hr.ev;rw[he];exact JI x (uY x hx) (C 4) W' B hex⟩
 have uZ:=aF ha;have l9:Hid (∀W,Below w w W->CR 100 #[.slice aa an ac, .func (.func 180) #[] #[]] W (.bool !al)):=aF (λW hb=>by
  obtain⟨d',hd'⟩:=uZ.grown (bX hb none) aJ;have h:=EN W _ s.args hd' (λW W' C x hb h=>h.below hb) 180 #[] _ (mR W d');have hb:(!al)=(s.args.any λx=> !(bP (ij 40 x))):=by rw[hal];unfold sN;rw[Bool.not_not]
  rw[hb];exact h)
 have sS:=aF ht;have eA:=aF he;have HIT:=aF it;have CO:=aF ie;obtain⟨Q,hQ⟩:∃Q,Q=(decide (most≠0)&&decide (an=fa)&&decide (en=0)&& !nb&&decide (sn= [])&&al&&bt&&be):=⟨_,rfl⟩;rw[<-dI,<-jQ,<-hen,<-hnb,<-dN,<-hal];rw[<-hQ];have hval:sV s (.slice aa an ac) (.slice ta tn tc) (.slice ea en ec)= .agg #[I sk,S sn, .slice aa an ac, .slice ta tn tc, .slice ea en ec]:=by rw[sV,hsk,dN]
 rw[hval];clear hval;rw[<-jQ,<-hsk]at qw;rw[<-dN]at cv;rw[<-hnb.trans (congrArg isName dN).symm]at cv;have HQ:=aF hQ;obtain⟨hm0,sU⟩:=hm;have⟨w1,hw1⟩:=xq (w.alloc (.cells #[I sk,S sn, .slice aa an ac, .slice ta tn tc, .slice ea en ec] 54));have aI:=aF (gI hw1);have qN:=dZ hw1;have bC:=aF qN;have b0:=qN.k0;have dO:w.alloc (.cells #[I sk,S sn, .slice aa an ac, .slice ta tn tc, .slice ea en ec] 54)=w1:=hw1.symm;have gm:=aF (hsk▸hk:sk=4);have jR:=aF (True.intro);clear ha ht he it ie hn uY mR jQ dI htn hen dN hnb hsk hal hQ hw1 qN hk;go_enter Tryz.func120,Tryz.ntmps120;go_upto_region 2 with(first|(go_at_call 179;refine aN (qw _) λw2 hb2=> ?_;have cB:=bA bC hb2;have aM:=aU aI hb2)|(refine sr 197 (.tmp 5) (.tmp 11) w2 qO hn0 ?_))
 have hzb:=aM.size;have hlb:=cB.lt;obtain⟨w3,hw3⟩:∃w3,w3=(w2.alloc (.cells qO 197)).setRow w2 #[.bool false,I fa, .bool true, .bool false]:=⟨_,rfl⟩;have gS:Row w3 w 54 [I sk,S sn, .slice aa an ac, .slice ta tn tc, .slice ea en ec]:=by rw[hw3];exact(setRow_other _ _ _ _ aG).trans (ho0 cB.out)
 have iT:Row w3 w2 197 [.bool false,I fa, .bool true, .bool false]:=by rw[hw3];exact setRow_heap _ _ _ _ _ _ hn0
 have aW:=aF (show Below w w w3 by rw[hw3];exact(aM.alloc hzb _).grown bJ ct bh);rw[<-hw3];have bL:=aF gS;have bq:=aF iT;have c0:=gS.k0;have c1:=gS.k1;have c2:=gS.k2;have c3:=gS.k3;have c4:=gS.k4;have x0:=iT.k0;have x1:=iT.k1;have x2:=iT.k2;have x3:=iT.k3;clear hw3 gS iT b0;by_cases h0:most=0
 case pos=>
  have hq:=HQ.out;subst h0;obtain rfl:Q=false:=by rw[hq];simp
  clear hq;go_wp2;go_ret;exact⟨rfl,aW⟩
 have zu:(most==0)=false:=bu h0;by_cases h1:an=fa
 case neg=>
  have hq:=HQ.out;have hne:((an:Int)==(fa:Int))=false:=bD;have jO:((an:Int) !=(fa:Int))=true:=by rw[bne,hne];rfl
  obtain rfl:Q=false:=by rw[hq];simp [h1]
  clear hq h1;go_wp2;go_ret;exact⟨rfl,aW⟩
 subst h1;by_cases hen:en=0
 case neg=>
  have hq:=HQ.out;have hpos:0<(en:Int):=aG;obtain rfl:Q=false:=by rw[hq];simp [hen]
  clear hq hen;go_wp2;go_ret;exact⟨rfl,aW⟩
 subst hen;have hq:=HQ.out;simp only[ne_eq,h0,not_false_eq_true,decide_true,Bool.true_and]at hq;have iU:=aF hq;clear hq HQ;go_upto_region 4 with(fail)
 have Sb:(sk==10)=false:=bu (cw gm);cases nb
 case true=>
  obtain rfl:Q=false:=by rw[iU.out];simp
  refine cC (λW=>W.cell? (w,0)=some (I sk)/\W.cell? (w,1)=some (S sn)/\W.cell? (w2,0)=some (.bool false)) [0,0,0,0,1,0,0,0,0,0,0,0,0,0,0,0,0,0,0,0,0,0,0,0,0,0,0,0,0] ?hS ?_
  case hS=>intro wd hh;have h9:=aO bq.out hh 0;exact⟨aO bL.out hh 0,aO bL.out hh 1,h9⟩
  intro wd hh hgd hS;have dz:=bI bL hgd;have bN:=bI bq hgd;have bE:=dF aW hgd;clear hh hgd c0 c1 c2 x0 x1
  try clear c3
  try clear c4
  try clear x2
  try clear x3
  refine dS ?_;go_wp2_with (go_at_call 117;refine aN (cv _) λw4 hb4=> ?_;have bU:=bA dz hb4;have cI:=bA bN hb4;have aR:=aU bE hb4;clear hS)
  refine bw ⟨bU.cell 0,bU.cell 1,cI.cell 0⟩ λhS=> ?_;refine dP ?_;clear hS;go_wp2;go_ret;exact⟨rfl,aR⟩
 by_cases hs:sn= []
 case neg=>
  have eu:(sn== [])=false:=bu hs;have Sn:(sn != [])=true:=by rw[bne,eu];rfl
  obtain rfl:Q=false:=by rw[iU.out];simp [hs]
  clear hs;refine cC (λW=>W.cell? (w,0)=some (I sk)/\W.cell? (w,1)=some (S sn)/\W.cell? (w2,0)=some (.bool false)) [0,0,0,0,1,0,0,0,0,0,0,0,0,0,0,0,0,0,0,0,0,0,0,0,0,0,0,0,0] ?hS ?_
  case hS=>intro wd hh;have h9:=aO bq.out hh 0;exact⟨aO bL.out hh 0,aO bL.out hh 1,h9⟩
  intro wd hh hgd hS;have dz:=bI bL hgd;have bN:=bI bq hgd;have bE:=dF aW hgd;clear hh hgd c0 c1 c2 x0 x1
  try clear c3
  try clear c4
  try clear x2
  try clear x3
  refine dS ?_;go_wp2_with (go_at_call 117;refine aN (cv _) λw4 hb4=> ?_;have bU:=bA dz hb4;have cI:=bA bN hb4;have aR:=aU bE hb4;clear hS)
  refine bw ⟨bU.cell 0,bU.cell 1,cI.cell 0⟩ λhS=> ?_;refine dP ?_;clear hS;go_wp2;go_ret;exact⟨rfl,aR⟩
 subst hs;have rJ:=aF (iU.out);refine cC (λW=>W.cell? (w,0)=some (I sk)/\W.cell? (w,1)=some (S [])/\W.cell? (w2,0)=some (.bool false)) [0,0,0,0,1,0,0,0,0,0,0,0,0,0,0,0,0,0,0,0,0,0,0,0,0,0,0,0,0] ?hS ?_
 case hS=>intro wd hh;have h9:=aO bq.out hh 0;exact⟨aO bL.out hh 0,aO bL.out hh 1,h9⟩
 intro wd hh hgd hS;have dz:=bI bL hgd;have bN:=bI bq hgd;have bE:=dF aW hgd;clear hh hgd c0 c1 c2 x0 x1
 try clear c3
 try clear c4
 try clear x2
 try clear x3
 refine dS ?_;go_wp2_with (go_at_call 117;refine aN (cv _) λw4 hb4=> ?_;have bU:=bA dz hb4;have cI:=bA bN hb4;have aR:=aU bE hb4;clear hS)
 refine bw ⟨bU.cell 0,bU.cell 1,cI.cell 0⟩ λhS=> ?_;refine dP ?_;have hr4:=bU.out;have c2:=hr4.k2;have gw:=aF (l9 w4 aR);clear hr4 hS;have hq:=rJ.out;cases al
 ·obtain rfl:Q=false:=by rw[hq];simp
  clear hq;go_wp2_with (go_at_call 100;refine aN gw λw5 bz=> ?_;have bW:=aU aR bz)
  go_ret;exact⟨rfl,bW⟩
 cases bt
 ·obtain rfl:Q=false:=by rw[hq];simp
  clear hq;go_wp2_with (first|(go_at_call 100;refine aN gw λw5 bz=> ?_;have bp:=bU.ext bz;have cL:=aF bp;have bW:=aU aR bz;have c3:=bp.k3;clear bp)|(go_at_call 78;refine aN (HIT aG w5 (sS.grown (aT bW) aJ)) λw6 bV=> ?_;have cY:=aU bW bV))
  go_ret;exact⟨rfl,cY⟩
 obtain rfl:Q=be:=by rw[hq];simp
 clear hq rJ;go_wp2_with (first|(go_at_call 100;refine aN gw λw5 bz=> ?_;have bp:=bU.ext bz;have cL:=aF bp;have bW:=aU aR bz;have c3:=bp.k3;clear bp)|(go_at_call 78;(first|(refine aN (HIT aG w5 (sS.grown (aT bW) aJ)) λw6 bV=> ?_;have dU:=cL.ext bV;have dJ:=aF dU;have cY:=aU bW bV;have c4:=dU.k4;clear dU)|(refine aN (CO aG w6 (eA.grown (aT cY) aJ)) λw7 fS=> ?_;have iK:=aU cY fS))))
 go_ret;exact⟨rfl,iK⟩
theorem aht (s:LS) (hk:s.kind=10) (most:Int) (hm:0<=most/\most<=1000) (av tv ev:Value) (w:World) (B:Nat->Prop) (ha:AX B w av s.args) (ht:SX B w tv s.thn) (he:SX B w ev s.els)
  (hn:eH s.name) (uY:∀x∈s.args,kA x) (bt be:Bool) (it:1<=most->wJ s.thn (most - 1) tv B bt) (ie:1<=most->wJ s.els (most - 1) ev B be):
  CR 120 #[sV s av tv ev,I most] w (.bool (decide (most≠0)&&decide (s.args.length=(cR s.kind).args)&&decide (s.thn.length=0)&&decide (s.els.length=0)&& !(isName s.name)&&decide (s.name= [])&&s.args.all (λa=>decide (a.kind=5))&&sN s.args&&bt&&be)):=by
 have qw:Hid (∀W:World,CR 179 #[I s.kind] W (.tuple #[.agg #[.bool false,I (cR s.kind).args, .bool false, .bool false], .bool true])):=aF (λW=>by
  have h:=JD s.kind aG W;have h1:(cR s.kind).named=false:=by unfold cR;(repeat' split)<;>first|rfl|(exfalso;omega)
  have h2:(cR s.kind).thn=false:=by unfold cR;(repeat' split)<;>first|rfl|(exfalso;omega)
  have h3:(cR s.kind).more=false:=by unfold cR;(repeat' split)<;>first|rfl|(exfalso;omega)
  rw[h1,h2,h3]at h;exact h)
 have ZO:(cR s.kind).args=1:=by rw[hk];rfl
 obtain⟨fa,jQ⟩:∃n,n=(cR s.kind).args:=⟨_,rfl⟩;have⟨an,dI⟩:=xq s.args.length;have⟨tn,htn⟩:=xq s.thn.length;have⟨en,hen⟩:=xq s.els.length;obtain⟨aa,ac,cX⟩:=ha.slice;rw[show(LE.mk 0 0 0 [] s.args).args.length=an from dI.symm]at cX;obtain⟨ta,tc,gu⟩:=ht.slice;rw[<-htn]at gu;obtain⟨ea,ec,hev⟩:=he.slice;rw[<-hen]at hev;subst cX;subst gu;subst hev;have⟨sn,dN⟩:=xq s.name;have⟨nb,hnb⟩:=xq (isName s.name);have⟨sk,hsk⟩:=xq s.kind;have⟨al,hal⟩:=xq (sN s.args);have⟨k5,cg⟩:=xq (s.args.all (λa=>decide (a.kind=5)));have cv:=aF (λW=>E4 s.name hn W);have mR:∀W d',qE sO (RE d' B) W 180 #[] (λx=> !(bP (ij 40 x))) s.args:=λW d'=>⟨enters_of Tryz.func180 aL rfl,λx hx W' C hb hr=>by
  obtain⟨he,hex⟩:=hr.ev;rw[he];exact JI x (uY x hx) (C 4) W' B hex⟩
 have uZ:=aF ha;have l9:Hid (∀W,Below w w W->CR 100 #[.slice aa an ac, .func (.func 180) #[] #[]] W (.bool !al)):=aF (λW hb=>by
  obtain⟨d',hd'⟩:=uZ.grown (bX hb none) aJ;have h:=EN W _ s.args hd' (λW W' C x hb h=>h.below hb) 180 #[] _ (mR W d');have hb:(!al)=(s.args.any λx=> !(bP (ij 40 x))):=by rw[hal];unfold sN;rw[Bool.not_not]
  rw[hb];exact h)
 have xh:Hid (an=1->∃(g o:Nat) (q:Int),aa=some ⟨g,o,none⟩/\g<w.heap.size/\w.cell? (g,o)=some (I q)/\(k5=decide (q=5))):=aF (λh1=>by
  obtain⟨a,hsa⟩:∃a,s.args= [a]:=List.length_eq_one_iff.1 aG;obtain⟨d',a',c',hv, -,td⟩:=ha;obtain⟨rfl, -,rfl⟩:aa=a'/\an=(LE.mk 0 0 0 [] s.args).args.length/\ac=c':=by simpa using hv
  rcases td with td|⟨g,o,rfl, -,hel⟩
  ·rw[show(LE.mk 0 0 0 [] s.args).args= [a]from hsa]at td;cases td
  ·obtain⟨C,hC,hR⟩:=hel 0 a (by rw[show(LE.mk 0 0 0 [] s.args).args= [a]from hsa];rfl);obtain⟨hev, -⟩:=hR.ev;have h0:=hC 0 aQ;rw[Nat.zero_mul,aA]at h0;have hev:Value.agg #[C 0,C 1,C 2,C 3,C 4]=Value.agg #[I a.kind,I a.op,I a.n,S a.name,C 4]:=hev;have h5:C 0=I a.kind/\C 1=I a.op/\C 2=I a.n/\C 3=S a.name:=by simpa using Value.agg.inj hev
   rw[h5.1]at h0;refine⟨g,o,a.kind,rfl, ?_,h0,by rw[cg,hsa];simp⟩;rcases Nat.lt_or_ge g w with h|h
   ·exact h
   ·simp [World.cell?,Array.getElem?_eq_none h]at h0)
 have sS:=aF ht;have eA:=aF he;have HIT:=aF it;have CO:=aF ie;obtain⟨Q,hQ⟩:∃Q,Q=(decide (most≠0)&&decide (an=fa)&&decide (tn=0)&&decide (en=0)&& !nb&&decide (sn= [])&&k5&&al&&bt&&be):=⟨_,rfl⟩;rw[<-dI,<-jQ,<-htn,<-hen,<-hnb,<-dN,<-cg,<-hal];rw[<-hQ];have hval:sV s (.slice aa an ac) (.slice ta tn tc) (.slice ea en ec)= .agg #[I sk,S sn, .slice aa an ac, .slice ta tn tc, .slice ea en ec]:=by rw[sV,hsk,dN]
 rw[hval];clear hval;rw[<-jQ,<-hsk]at qw;rw[<-dN]at cv;rw[<-hnb.trans (congrArg isName dN).symm]at cv;have HQ:=aF hQ;obtain⟨hm0,sU⟩:=hm;have⟨w1,hw1⟩:=xq (w.alloc (.cells #[I sk,S sn, .slice aa an ac, .slice ta tn tc, .slice ea en ec] 54));have aI:=aF (gI hw1);have qN:=dZ hw1;have bC:=aF qN;have b0:=qN.k0;have dO:w.alloc (.cells #[I sk,S sn, .slice aa an ac, .slice ta tn tc, .slice ea en ec] 54)=w1:=hw1.symm;have gm:=aF (hsk▸hk:sk=10);have jR:=aF (jQ.trans ZO);clear ha ht he it ie hn uY mR jQ dI htn hen dN hnb hsk hal hQ hw1 qN hk ZO cg;go_enter Tryz.func120,Tryz.ntmps120;go_upto_region 2 with(first|(go_at_call 179;refine aN (qw _) λw2 hb2=> ?_;have cB:=bA bC hb2;have aM:=aU aI hb2)|(refine sr 197 (.tmp 5) (.tmp 11) w2 qO hn0 ?_))
 have hzb:=aM.size;have hlb:=cB.lt;obtain⟨w3,hw3⟩:∃w3,w3=(w2.alloc (.cells qO 197)).setRow w2 #[.bool false,I fa, .bool false, .bool false]:=⟨_,rfl⟩;have gS:Row w3 w 54 [I sk,S sn, .slice aa an ac, .slice ta tn tc, .slice ea en ec]:=by rw[hw3];exact(setRow_other _ _ _ _ aG).trans (ho0 cB.out)
 have iT:Row w3 w2 197 [.bool false,I fa, .bool false, .bool false]:=by rw[hw3];exact setRow_heap _ _ _ _ _ _ hn0
 have aW:=aF (show Below w w w3 by rw[hw3];exact(aM.alloc hzb _).grown bJ ct bh);rw[<-hw3];have bL:=aF gS;have bq:=aF iT;have c0:=gS.k0;have c1:=gS.k1;have c2:=gS.k2;have c3:=gS.k3;have c4:=gS.k4;have x0:=iT.k0;have x1:=iT.k1;have x2:=iT.k2;have x3:=iT.k3;clear hw3 gS iT b0;by_cases h0:most=0
 case pos=>
  have hq:=HQ.out;subst h0;obtain rfl:Q=false:=by rw[hq];simp
  clear hq;go_wp2;go_ret;exact⟨rfl,aW⟩
 have zu:(most==0)=false:=bu h0;by_cases h1:an=fa
 case neg=>
  have hq:=HQ.out;have hne:((an:Int)==(fa:Int))=false:=bD;have jO:((an:Int) !=(fa:Int))=true:=by rw[bne,hne];rfl
  obtain rfl:Q=false:=by rw[hq];simp [h1]
  clear hq h1;go_wp2;go_ret;exact⟨rfl,aW⟩
 subst h1;by_cases htn:tn=0
 case neg=>
  have hq:=HQ.out;have hpos:0<(tn:Int):=aG;obtain rfl:Q=false:=by rw[hq];simp [htn]
  clear hq htn;go_wp2;go_ret;exact⟨rfl,aW⟩
 subst htn;by_cases hen:en=0
 case neg=>
  have hq:=HQ.out;have hpos:0<(en:Int):=aG;obtain rfl:Q=false:=by rw[hq];simp [hen]
  clear hq hen;go_wp2;go_ret;exact⟨rfl,aW⟩
 subst hen;have hq:=HQ.out;simp only[ne_eq,h0,not_false_eq_true,decide_true,Bool.true_and]at hq;have iU:=aF hq;clear hq HQ;go_upto_region 4 with(fail)
 obtain⟨g,o,q,rfl,hgl,cD,Gk⟩:=xh jR;obtain rfl:sk=10:=gm.out;have tC:=aF (show∀W:World,Below w w W->W.cell? (g,o)=some (I q)from λW hb=>by
  have:=hb.block g hgl;unfold World.cell? at cD|-;rw[this];exact cD)
 have aki:=jR.out;subst aki;have I7:=aF Gk;clear cD hgl xh gm jR Gk;cases nb
 case true=>
  obtain rfl:Q=false:=by rw[iU.out];simp
  refine cC (λW=>W.cell? (w,0)=some (I 10)/\W.cell? (w,1)=some (S sn)/\W.cell? (w2,0)=some (.bool false)/\W.cell? (w,2)=some (.slice (some (g,o)) 1 ac)/\W.cell? (g,o)=some (I q)) [0,0,0,0,1,0,0,0,0,0,0,0,0,0,0,0,0,0,0,0,0,0,0,0,0,0,0,0,0] ?hS ?_
  case hS=>intro wd hh;have h9:=aO bq.out hh 0;exact⟨aO bL.out hh 0,aO bL.out hh 1,h9,aO bL.out hh 2,by have h:=tC w3 aW;unfold World.cell? at h|-;rw[hh];exact h⟩
  intro wd hh hgd hS;have dz:=bI bL hgd;have bN:=bI bq hgd;have bE:=dF aW hgd;clear hh hgd c0 c1 c2 x0 x1
  try clear c3
  try clear c4
  try clear x2
  try clear x3
  refine dS ?_;go_wp2_with (go_at_call 117;refine aN (cv _) λw4 hb4=> ?_;have bU:=bA dz hb4;have cI:=bA bN hb4;have aR:=aU bE hb4;clear hS)
  refine bw ⟨bU.cell 0,bU.cell 1,cI.cell 0,bU.cell 2,tC w4 aR⟩ λhS=> ?_;refine dP ?_;clear hS;go_wp2;go_ret;exact⟨rfl,aR⟩
 by_cases hs:sn= []
 case neg=>
  have eu:(sn== [])=false:=bu hs;have Sn:(sn != [])=true:=by rw[bne,eu];rfl
  obtain rfl:Q=false:=by rw[iU.out];simp [hs]
  clear hs;refine cC (λW=>W.cell? (w,0)=some (I 10)/\W.cell? (w,1)=some (S sn)/\W.cell? (w2,0)=some (.bool false)/\W.cell? (w,2)=some (.slice (some (g,o)) 1 ac)/\W.cell? (g,o)=some (I q)) [0,0,0,0,1,0,0,0,0,0,0,0,0,0,0,0,0,0,0,0,0,0,0,0,0,0,0,0,0] ?hS ?_
  case hS=>intro wd hh;have h9:=aO bq.out hh 0;exact⟨aO bL.out hh 0,aO bL.out hh 1,h9,aO bL.out hh 2,by have h:=tC w3 aW;unfold World.cell? at h|-;rw[hh];exact h⟩
  intro wd hh hgd hS;have dz:=bI bL hgd;have bN:=bI bq hgd;have bE:=dF aW hgd;clear hh hgd c0 c1 c2 x0 x1
  try clear c3
  try clear c4
  try clear x2
  try clear x3
  refine dS ?_;go_wp2_with (go_at_call 117;refine aN (cv _) λw4 hb4=> ?_;have bU:=bA dz hb4;have cI:=bA bN hb4;have aR:=aU bE hb4;clear hS)
  refine bw ⟨bU.cell 0,bU.cell 1,cI.cell 0,bU.cell 2,tC w4 aR⟩ λhS=> ?_;refine dP ?_;clear hS;go_wp2;go_ret;exact⟨rfl,aR⟩
 subst hs;by_cases hq:q=5
 case neg=>
  have Ep:(q==5)=false:=bu hq;have apl:(q !=5)=true:=by rw[bne,Ep];rfl
  obtain rfl:Q=false:=by rw[iU.out,I7.out];simp [hq]
  clear hq;refine cC (λW=>W.cell? (w,0)=some (I 10)/\W.cell? (w,1)=some (S [])/\W.cell? (w2,0)=some (.bool false)/\W.cell? (w,2)=some (.slice (some (g,o)) 1 ac)/\W.cell? (g,o)=some (I q)) [0,0,0,0,1,0,0,0,0,0,0,0,0,0,0,0,0,0,0,0,0,0,0,0,0,0,0,0,0] ?hS ?_
  case hS=>intro wd hh;have h9:=aO bq.out hh 0;exact⟨aO bL.out hh 0,aO bL.out hh 1,h9,aO bL.out hh 2,by have h:=tC w3 aW;unfold World.cell? at h|-;rw[hh];exact h⟩
  intro wd hh hgd hS;have dz:=bI bL hgd;have bN:=bI bq hgd;have bE:=dF aW hgd;clear hh hgd c0 c1 c2 x0 x1
  try clear c3
  try clear c4
  try clear x2
  try clear x3
  refine dS ?_;go_wp2_with (go_at_call 117;refine aN (cv _) λw4 hb4=> ?_;have bU:=bA dz hb4;have cI:=bA bN hb4;have aR:=aU bE hb4;clear hS)
  refine bw ⟨bU.cell 0,bU.cell 1,cI.cell 0,bU.cell 2,tC w4 aR⟩ λhS=> ?_;refine dP ?_;clear hS;go_wp2;go_ret;exact⟨rfl,aR⟩
 subst hq;obtain rfl:k5=true:=by rw[I7.out];rfl
 have rJ:=aF (iU.out);refine cC (λW=>W.cell? (w,0)=some (I 10)/\W.cell? (w,1)=some (S [])/\W.cell? (w2,0)=some (.bool false)/\W.cell? (w,2)=some (.slice (some (g,o)) 1 ac)/\W.cell? (g,o)=some (I 5)) [0,0,0,0,1,0,0,0,0,0,0,0,0,0,0,0,0,0,0,0,0,0,0,0,0,0,0,0,0] ?hS ?_
 case hS=>intro wd hh;have h9:=aO bq.out hh 0;exact⟨aO bL.out hh 0,aO bL.out hh 1,h9,aO bL.out hh 2,by have h:=tC w3 aW;unfold World.cell? at h|-;rw[hh];exact h⟩
 intro wd hh hgd hS;have dz:=bI bL hgd;have bN:=bI bq hgd;have bE:=dF aW hgd;clear hh hgd c0 c1 c2 x0 x1
 try clear c3
 try clear c4
 try clear x2
 try clear x3
 refine dS ?_;go_wp2_with (go_at_call 117;refine aN (cv _) λw4 hb4=> ?_;have bU:=bA dz hb4;have cI:=bA bN hb4;have aR:=aU bE hb4;clear hS)
 refine bw ⟨bU.cell 0,bU.cell 1,cI.cell 0,bU.cell 2,tC w4 aR⟩ λhS=> ?_;refine dP ?_;have hr4:=bU.out;have c2:=hr4.k2;have gw:=aF (l9 w4 aR);clear hr4 hS;have hq:=rJ.out;cases al
 ·obtain rfl:Q=false:=by rw[hq];simp
  clear hq;go_wp2_with (go_at_call 100;refine aN gw λw5 bz=> ?_;have bW:=aU aR bz)
  go_ret;exact⟨rfl,bW⟩
 cases bt
 ·obtain rfl:Q=false:=by rw[hq];simp
  clear hq;go_wp2_with (first|(go_at_call 100;refine aN gw λw5 bz=> ?_;have bp:=bU.ext bz;have cL:=aF bp;have bW:=aU aR bz;have c3:=bp.k3;clear bp)|(go_at_call 78;refine aN (HIT aG w5 (sS.grown (aT bW) aJ)) λw6 bV=> ?_;have cY:=aU bW bV))
  go_ret;exact⟨rfl,cY⟩
 obtain rfl:Q=be:=by rw[hq];simp
 clear hq rJ;go_wp2_with (first|(go_at_call 100;refine aN gw λw5 bz=> ?_;have bp:=bU.ext bz;have cL:=aF bp;have bW:=aU aR bz;have c3:=bp.k3;clear bp)|(go_at_call 78;(first|(refine aN (HIT aG w5 (sS.grown (aT bW) aJ)) λw6 bV=> ?_;have dU:=cL.ext bV;have dJ:=aF dU;have cY:=aU bW bV;have c4:=dU.k4;clear dU)|(refine aN (CO aG w6 (eA.grown (aT cY) aJ)) λw7 fS=> ?_;have iK:=aU cY fS))))
 go_ret;exact⟨rfl,iK⟩
def R8:Nat->LS->Prop
 |0,_=>True
 |d+1,s=>eH s.name/\(∀x∈s.args,kA x)/\(∀x∈s.thn,R8 d x)/\∀x∈s.els,R8 d x
def qs (s:LS):Prop:=∀d,R8 d s
theorem qs.name {s:LS} (h:qs s):eH s.name:=(h 1).1
theorem qs.args {s:LS} (h:qs s):∀x∈s.args,kA x:=(h 1).2.1
theorem qs.thn {s:LS} (h:qs s):∀x∈s.thn,qs x:=λx hx d=>(h (d+1)).2.2.1 x hx
theorem qs.els {s:LS} (h:qs s):∀x∈s.els,qs x:=λx hx d=>(h (d+1)).2.2.2 x hx
theorem Calls.Hx {n:Nat} {args:Array Value} {w:World} {a b:Bool} (h:a=b) (hc:Calls Tryz.prog n args w λe' w'=>e'= .returned (.bool a)/\Below w w w'):Calls Tryz.prog n args w λe' w'=>e'= .returned (.bool b)/\Below w w w':=by rw[<-h];exact hc
theorem LY {α:Type} {l:List α}:l.length=0↔l= []:=List.length_eq_zero_iff
def LZ (m:Nat):Prop:=∀(l:List LS) (v:Value) (B:Nat->Prop),(∀x∈l,qs x)->wJ l (m:Int) v B (bP (∀x∈l,mC m x))
theorem ag9 (m:Nat) (hm:m<=1000) (ih:∀j,m=j+1->LZ j) (s:LS) (hs:qs s) (av tv ev:Value) (w:World) (B:Nat->Prop) (ha:AX B w av s.args) (ht:SX B w tv s.thn) (he:SX B w ev s.els):
  CR 120 #[sV s av tv ev,I (m:Int)] w (.bool (bP (mC m s))):=by
 have hmm:0<=(m:Int)/\(m:Int)<=1000:=aG;have⟨bt,rU⟩:=xq (bP (∀x∈s.thn,mC (m - 1) x));have⟨be,pM⟩:=xq (bP (∀x∈s.els,mC (m - 1) x));have it:1<=(m:Int)->wJ s.thn ((m:Int) - 1) tv B bt:=λh=>by
  have:=ih (m - 1) aG s.thn tv B hs.thn;rw[show(((m - 1:Nat)):Int)=(m:Int) - 1 by omega]at this;rw[rU];exact this
 have ie:1<=(m:Int)->wJ s.els ((m:Int) - 1) ev B be:=λh=>by
  have:=ih (m - 1) aG s.els ev B hs.els;rw[show(((m - 1:Nat)):Int)=(m:Int) - 1 by omega]at this;rw[pM];exact this
 have key:∀b:Bool,(b=true↔m≠0/\((1<=s.kind/\s.kind<=10)/\(s.kind=10->∀a∈s.args,a.kind=5))/\s.args.length=(cR s.kind).args/\((cR s.kind).thn=false->s.thn= [])/\((cR s.kind).more=false->s.els= [])/\
  ((cR s.kind).named=true->eH s.name/\isName s.name=true)/\((cR s.kind).named=false->s.name= [])/\(∀x∈s.args,ij 40 x)/\bt=true/\be=true)->b=bP (mC m s):=by
  intro b hb;rw[Bool.eq_iff_iff,ow,hb];cases m with
  |zero=>exact⟨λh=>absurd rfl h.1,λh=>h.elim⟩
  |succ d=>
   rw[rU,pM,ow,ow];exact⟨λh=>h.2,λh=>⟨aG,h⟩⟩
 have hm0:decide ((m:Int)≠0)=true↔m≠0:=by rw[decide_eq_true_eq];omega
 rcases(by omega:(s.kind=1\/s.kind=2)\/s.kind=3\/s.kind=4\/(5<=s.kind/\s.kind<=9)\/s.kind=10\/(s.kind<1\/10<s.kind))with hk|hk|hk|hk|hk|hk
 ·refine Calls.Hx (key _ ?_) (ahf s hk m hmm av tv ev w B ha ht he hs.name hs.args bt be it ie);have f1:(cR s.kind).named=true:=by rcases hk with h|h<;>rw[h]<;>rfl
  have f2:(cR s.kind).thn=false:=by rcases hk with h|h<;>rw[h]<;>rfl
  have f3:(cR s.kind).more=false:=by rcases hk with h|h<;>rw[h]<;>rfl
  rw[f1,f2,f3];simp only[Bool.and_eq_true,hm0,decide_eq_true_eq,JV,LY,true_implies,Bool.true_eq_false,false_implies,and_true,true_and];constructor
  ·rintro⟨⟨⟨⟨⟨⟨⟨h1,h2⟩,h3⟩,h4⟩,h5⟩,h6⟩,h7⟩,h8⟩;exact⟨h1,⟨aG,λh=>by omega⟩,h2,h3,h4,⟨hs.name,h5⟩,h6,h7,h8⟩
  ·rintro⟨h1, -,h2,h3,h4,h5,h6,h7,h8⟩;exact⟨⟨⟨⟨⟨⟨⟨h1,h2⟩,h3⟩,h4⟩,h5.2⟩,h6⟩,h7⟩,h8⟩
 ·refine Calls.Hx (key _ ?_) (aib s hk m hmm av tv ev w B ha ht he hs.name hs.args bt be it ie);have f1:(cR s.kind).named=false:=by rw[hk];rfl
  have f2:(cR s.kind).thn=true:=by rw[hk];rfl
  have f3:(cR s.kind).more=true:=by rw[hk];rfl
  rw[f1,f2,f3];simp only[Bool.and_eq_true,hm0,decide_eq_true_eq,JV,LY,true_implies,Bool.true_eq_false,Bool.false_eq_true,false_implies,and_true,true_and,Bool.not_eq_true'];constructor
  ·rintro⟨⟨⟨⟨⟨⟨h1,h2⟩,h4⟩,h5⟩,h6⟩,h7⟩,h8⟩;exact⟨h1,⟨aG,λh=>by omega⟩,h2,h5,h6,h7,h8⟩
  ·rintro⟨h1, -,h2,h5,h6,h7,h8⟩;exact⟨⟨⟨⟨⟨⟨h1,h2⟩,by rw[h5];rfl⟩,h5⟩,h6⟩,h7⟩,h8⟩
 ·refine Calls.Hx (key _ ?_) (aid s hk m hmm av tv ev w B ha ht he hs.name hs.args bt be it ie);have f1:(cR s.kind).named=false:=by rw[hk];rfl
  have f2:(cR s.kind).thn=true:=by rw[hk];rfl
  have f3:(cR s.kind).more=false:=by rw[hk];rfl
  rw[f1,f2,f3];simp only[Bool.and_eq_true,hm0,decide_eq_true_eq,JV,LY,true_implies,Bool.true_eq_false,Bool.false_eq_true,false_implies,and_true,true_and,Bool.not_eq_true'];constructor
  ·rintro⟨⟨⟨⟨⟨⟨⟨h1,h2⟩,h3⟩,h4⟩,h5⟩,h6⟩,h7⟩,h8⟩;exact⟨h1,⟨aG,λh=>by omega⟩,h2,h3,h5,h6,h7,h8⟩
  ·rintro⟨h1, -,h2,h3,h5,h6,h7,h8⟩;exact⟨⟨⟨⟨⟨⟨⟨h1,h2⟩,h3⟩,by rw[h5];rfl⟩,h5⟩,h6⟩,h7⟩,h8⟩
 ·refine Calls.Hx (key _ ?_) (ahK s hk m hmm av tv ev w B ha ht he hs.name hs.args bt be it ie);have hk2:s.kind=5\/s.kind=6\/s.kind=7\/s.kind=8\/s.kind=9:=aG;have f1:(cR s.kind).named=false:=by rcases hk2 with h|h|h|h|h<;>rw[h]<;>rfl
  have f2:(cR s.kind).thn=false:=by rcases hk2 with h|h|h|h|h<;>rw[h]<;>rfl
  have f3:(cR s.kind).more=false:=by rcases hk2 with h|h|h|h|h<;>rw[h]<;>rfl
  rw[f1,f2,f3];simp only[Bool.and_eq_true,hm0,decide_eq_true_eq,JV,LY,true_implies,Bool.true_eq_false,Bool.false_eq_true,false_implies,and_true,true_and,Bool.not_eq_true'];constructor
  ·rintro⟨⟨⟨⟨⟨⟨⟨⟨h1,h2⟩,h3⟩,h3'⟩,h4⟩,h5⟩,h6⟩,h7⟩,h8⟩;exact⟨h1,⟨aG,λh=>by omega⟩,h2,h3,h3',h5,h6,h7,h8⟩
  ·rintro⟨h1, -,h2,h3,h3',h5,h6,h7,h8⟩;exact⟨⟨⟨⟨⟨⟨⟨⟨h1,h2⟩,h3⟩,h3'⟩,by rw[h5];rfl⟩,h5⟩,h6⟩,h7⟩,h8⟩
 ·refine Calls.Hx (key _ ?_) (aht s hk m hmm av tv ev w B ha ht he hs.name hs.args bt be it ie);have f1:(cR s.kind).named=false:=by rw[hk];rfl
  have f2:(cR s.kind).thn=false:=by rw[hk];rfl
  have f3:(cR s.kind).more=false:=by rw[hk];rfl
  rw[f1,f2,f3];simp only[Bool.and_eq_true,hm0,decide_eq_true_eq,JV,LY,true_implies,Bool.true_eq_false,Bool.false_eq_true,false_implies,and_true,true_and,Bool.not_eq_true',List.all_eq_true];constructor
  ·rintro⟨⟨⟨⟨⟨⟨⟨⟨⟨h1,h2⟩,h3⟩,h3'⟩,h4⟩,h5⟩,h9⟩,h6⟩,h7⟩,h8⟩;exact⟨h1,⟨aG,λ_=>h9⟩,h2,h3,h3',h5,h6,h7,h8⟩
  ·rintro⟨h1,h9,h2,h3,h3',h5,h6,h7,h8⟩;exact⟨⟨⟨⟨⟨⟨⟨⟨⟨h1,h2⟩,h3⟩,h3'⟩,by rw[h5];rfl⟩,h5⟩,h9.2 hk⟩,h6⟩,h7⟩,h8⟩
 ·refine Calls.Hx (key _ ?_) (aio s hk m av tv ev w);constructor
  ·intro h;cases h
  ·rintro⟨-,⟨h, -⟩, -⟩;omega
theorem agt (m:Nat) (hm:m<=1000) (ih:∀j,m=j+1->LZ j) (s:LS) (hs:qs s) (av tv ev:Value) (p:Nat) (w:World) (B:Nat->Prop) (ha:AX B w av s.args) (ht:SX B w tv s.thn) (he:SX B w ev s.els)
  (hr:Row w p 3 [I (m:Int)]):
  CR 119 #[sV s av tv ev, .pointer (some (p,0))] w (.bool !(bP (mC m s))):=by
 have hb:=cm w (.cells (sB s av tv ev) 54);have HI:=aF (ag9 m hm ih s hs av tv ev _ B (EX.grown ha (bX hb none) aJ) (ht.below hb) (he.below hb));have aI:=aF hb;have hr1:=hr.ext hb;have c0:=hr1.cell 0;simp only[af]at c0;have⟨b,hbb⟩:=xq (bP (mC m s));rw[<-hbb]at HI|-;clear hs ha ht he ih hr hr1 hb hm hbb;go_enter Tryz.func119,Tryz.ntmps119;go_wp2_with (go_at_call 120;refine aN HI λw1 hb1=> ?_;have aM:=aF (aI.out.trans (hb1.mono aH)))
 go_ret;exact⟨rfl,aM⟩
theorem Yl (m:Nat) (hm:m<=1000) (ih:∀j,m=j+1->LZ j):LZ m:=by
 intro l v B hl w hx;obtain⟨aa,ac,rfl⟩:=hx.slice;have s9:∀(fn:Fn) (first cap:Array Value) (w:World),(Instr.makeFunc fn first cap).run Tryz.prog w= .ok (.func fn first cap) w:=λ_ _ _ _=>rfl;have⟨w1,hw1⟩:=xq (w.alloc (.cells #[I (m:Int)] 3));have hb1:Below w w w1:=by rw[hw1];exact cm w _
 have hM:=dZ hw1;have dO:w.alloc (.cells #[I (m:Int)] 3)=w1:=hw1.symm;obtain⟨d',hd'⟩:=hx.below hb1;have Av:aP B 5 (λW C x=>RS d' B W C x/\Row W w 3 [I (m:Int)]) w1 (.slice aa l.length ac) l:=hd'.weak (λ_ h=>h) (λC x h=>⟨h,hM⟩);have mR:qE sO (λW C x=>RS d' B W C x/\Row W w 3 [I (m:Int)]) w1 119 #[.pointer (some (w,0))] (λx=> !(bP (mC m x))) l:=
  ⟨enters_of Tryz.func119 aL rfl,λx hx W' C hb hr=>by
   obtain⟨he,ha,ht,hs⟩:=hr.1.ev;rw[he];exact agt m hm ih x (hl x hx) _ _ _ _ W' B ha ht hs hr.2⟩
 have hct:=ae9 w1 _ l Av (λW W' C x hb h=>⟨h.1.below hb,h.2.ext hb⟩) 119 _ _ mR;have hall:(l.any λx=> !(bP (mC m x)))=false↔∀x∈l,mC m x:=N3;obtain⟨tb,kr⟩:∃t,t=(l.any λx=> !(bP (mC m x))):=⟨_,rfl⟩;rw[<-kr]at hct hall;have hfin:bP (∀x∈l,mC m x)= !tb:=by
  rw[Bool.eq_iff_iff,ow];simp only[Bool.not_eq_true'];exact hall.symm
 rw[hfin];have gw:=aF hct;have aI:=aF hb1;obtain⟨M,hM'⟩:∃M:Int,M=(m:Int):=⟨_,rfl⟩;rw[<-hM']at dO|-;clear hx hl mR Av hd' hM hb1 hw1 ih hct hall kr hfin hM';go_enter Tryz.func78,Tryz.ntmps78;go_wp2_with (go_at_call 118;refine aN gw λw4 hb4=> ?_;have aR:=aU aI hb4)
 go_ret;exact⟨rfl,aR⟩
theorem aaT:∀(m:Nat),m<=1000->LZ m
 |0,h=>Yl 0 h aJ
 |m+1,h=>Yl (m+1) h (λj e=>by
   obtain rfl:j=m:=aG
   exact aaT j aG)
end
end Go.Proofs.YtjgbkdbkachciaaGreatDoor
