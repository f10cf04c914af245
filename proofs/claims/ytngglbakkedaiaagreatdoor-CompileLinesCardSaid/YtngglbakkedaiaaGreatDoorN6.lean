import Derived.Test.YtngglbakkedaiaaGreatDoorM8
set_option linter.all false
namespace Go.Proofs.YtngglbakkedaiaaGreatDoor
section
open Go.RowKit Go.Shelf
attribute [local go_sem] Oper.semAt_some
set_option maxRecDepth 100000 in
set_option maxHeartbeats 16000000 in
theorem stmt_c12 (s:LS) (hk:s.kind=1∨s.kind=2) (most:Int) (hm:0≤most∧most≤1000) (av tv ev:Value) (w:World) (B:Nat→Prop) (ha:AX B w av s.args) (ht:SX B w tv s.thn) (he:SX B w ev s.els)
  (hn:Asc s.name) (haE:∀x∈s.args,AscE x) (bt be:Bool) (it:1≤most→StsB s.thn (most - 1) tv B bt) (ie:1≤most→StsB s.els (most - 1) ev B be):
  CR 62 #[sV s av tv ev,I most] w (.bool (decide (most≠0)&&decide (s.args.length=(formL s.kind).args)&&decide (s.thn.length=0)&&decide (s.els.length=0)&&isName s.name&&allE s.args&&bt&&be)):=by
 have HFO:Hid (∀W:World,CR 101 #[I s.kind] W (.tuple #[.agg #[.bool true,I (formL s.kind).args, .bool false, .bool false], .bool true])):=hqz9 (fun W=>by
  have h:=formOf_yes s.kind om0 W;have h1:(formL s.kind).named=true:=by unfold formL;(repeat' split)<;>first|rfl|(exfalso;omega)
  have h2:(formL s.kind).thn=false:=by unfold formL;(repeat' split)<;>first|rfl|(exfalso;omega)
  have h3:(formL s.kind).more=false:=by unfold formL;(repeat' split)<;>first|rfl|(exfalso;omega)
  rw[h1,h2,h3]at h;exact h)
 obtain⟨fa,hfa⟩:∃n,n=(formL s.kind).args:=⟨_,rfl⟩;have⟨an,han⟩:=xq s.args.length;have⟨tn,htn⟩:=xq s.thn.length;have⟨en,hen⟩:=xq s.els.length;obtain⟨aa,ac,hav⟩:=ha.slice;rw[show(LE.mk 0 0 0 [] s.args).args.length=an from han.symm]at hav;obtain⟨ta,tc,htv⟩:=ht.slice;rw[←htn]at htv;obtain⟨ea,ec,hev⟩:=he.slice;rw[←hen]at hev;subst hav;subst htv;subst hev;have⟨sn,hsn⟩:=xq s.name;have⟨nb,hnb⟩:=xq (isName s.name);have⟨sk,hsk⟩:=xq s.kind;have⟨al,hal⟩:=xq (allE s.args);have HNM:=hqz9 (fun W=>name_any s.name hn W);have hsay:∀W d',SaysB agg5 (RE d' B) W 103 #[] (fun x=> !(bP (okE 40 x))) s.args:=fun W d'=>⟨enters_of Tryz.func103 kr0 rfl,fun x hx W' C hb hr=>by
  obtain⟨he,hex⟩:=hr.ev;rw[he];exact stmt1_any x (haE x hx) (C 4) W' B hex⟩
 have HAX:=hqz9 ha;have HCE:Hid (∀W,Below w w W→CR 102 #[.slice aa an ac, .func (.func 103) #[] #[]] W (.bool !al)):=hqz9 (fun W hb=>by
  obtain⟨d',hd'⟩:=HAX.grown (below_grown hb none) nx0;have h:=containsE_any W _ s.args hd' (fun W W' C x hb h=>h.below hb) 103 #[] _ (hsay W d');have hb:(!al)=(s.args.any fun x=> !(bP (okE 40 x))):=by rw[hal];unfold allE;rw[Bool.not_not]
  rw[hb];exact h)
 have HTX:=hqz9 ht;have HEX:=hqz9 he;have HIT:=hqz9 it;have HIE:=hqz9 ie;obtain⟨Q,hQ⟩:∃Q,Q=(decide (most≠0)&&decide (an=fa)&&decide (tn=0)&&decide (en=0)&&nb&&al&&bt&&be):=⟨_,rfl⟩;rw[←han,←hfa,←htn,←hen,←hnb,←hal];rw[←hQ];have hval:sV s (.slice aa an ac) (.slice ta tn tc) (.slice ea en ec)= .agg #[I sk,S sn, .slice aa an ac, .slice ta tn tc, .slice ea en ec]:=by rw[sV,hsk,hsn]
 rw[hval];clear hval;rw[←hfa,←hsk]at HFO;rw[←hsn]at HNM;rw[←hnb.trans (congrArg isName hsn).symm]at HNM;have HQ:=hqz9 hQ;obtain⟨hm0,hm1⟩:=hm;have⟨w1,hw1⟩:=xq (w.alloc (.cells #[I sk,S sn, .slice aa an ac, .slice ta tn tc, .slice ea en ec] 55));have HB1:=hqz9 (aB0 hw1);have hR1:=aN0 hw1;have HR1:=hqz9 hR1;have b0:=hR1.k0;have hwe:w.alloc (.cells #[I sk,S sn, .slice aa an ac, .slice ta tn tc, .slice ea en ec] 55)=w1:=hw1.symm;have HSK:=hqz9 (hsk▸hk:sk=1∨sk=2);have HFA:=hqz9 (True.intro);clear ha ht he it ie hn haE hsay hfa han htn hen hsn hnb hsk hal hQ hw1 hR1 hk;go_enter Tryz.func62,Tryz.ntmps62;go_upto_region 2 with(first|(go_at_call 101;refine mh0 (HFO _) fun w2 hb2=> ?_;have HR2:=xt0 HR1 hb2;have HB2:=bt0 HB1 hb2)|(refine sr 170 (.tmp 5) (.tmp 11) w2 frZ hn0 ?_))
 have hzb:=HB2.size;have hlb:=HR2.lt;obtain⟨w3,hw3⟩:∃w3,w3=(w2.alloc (.cells frZ 170)).setRow w2 #[.bool true,I fa, .bool false, .bool false]:=⟨_,rfl⟩;have hR3:Row w3 w 55 [I sk,S sn, .slice aa an ac, .slice ta tn tc, .slice ea en ec]:=by rw[hw3];exact(setRow_other _ _ _ _ om0).trans (ho0 HR2.out)
 have hX3:Row w3 w2 170 [.bool true,I fa, .bool false, .bool false]:=by rw[hw3];exact setRow_heap _ _ _ _ _ _ hn0
 have HB3:=hqz9 (show Below w w w3 by rw[hw3];exact(HB2.alloc hzb _).grown setRow_grown so0 sx0);rw[←hw3];have HR3:=hqz9 hR3;have HX3:=hqz9 hX3;have c0:=hR3.k0;have c1:=hR3.k1;have c2:=hR3.k2;have c3:=hR3.k3;have c4:=hR3.k4;have x0:=hX3.k0;have x1:=hX3.k1;have x2:=hX3.k2;have x3:=hX3.k3;clear hw3 hR3 hX3 b0;by_cases h0:most=0
 case pos=>
  have hq:=HQ.out;subst h0;obtain rfl:Q=false:=by rw[hq];simp
  clear hq;go_wp2;go_ret;exact⟨rfl,HB3⟩
 have hmz:(most==0)=false:=bn0 h0;by_cases h1:an=fa
 case neg=>
  have hq:=HQ.out;have hne:((an:Int)==(fa:Int))=false:=bo0;have hne2:((an:Int) !=(fa:Int))=true:=by rw[bne,hne];rfl
  obtain rfl:Q=false:=by rw[hq];simp [h1]
  clear hq h1;go_wp2;go_ret;exact⟨rfl,HB3⟩
 subst h1;by_cases htn:tn=0
 case neg=>
  have hq:=HQ.out;have hpos:0<(tn:Int):=om0;obtain rfl:Q=false:=by rw[hq];simp [htn]
  clear hq htn;go_wp2;go_ret;exact⟨rfl,HB3⟩
 subst htn;by_cases hen:en=0
 case neg=>
  have hq:=HQ.out;have hpos:0<(en:Int):=om0;obtain rfl:Q=false:=by rw[hq];simp [hen]
  clear hq hen;go_wp2;go_ret;exact⟨rfl,HB3⟩
 subst hen;have hq:=HQ.out;simp only[ne_eq,h0,not_false_eq_true,decide_true,Bool.true_and]at hq;have HQ2:=hqz9 hq;clear hq HQ;go_upto_region 4 with(fail)
 have hk10:(sk==10)=false:=bn0 (oq0 HSK);cases nb
 ·obtain rfl:Q=false:=by rw[HQ2.out];simp
  refine rW0 (fun W=>W.cell? (w,0)=some (I sk)∧W.cell? (w,1)=some (S sn)∧W.cell? (w2,0)=some (.bool true)) [0,0,0,0,1,0,0,0,0,0,0,0,0,0,0,0,0,0,0,0,0,0,0,0,0,0,0,0,0] ?hS ?_
  case hS=>intro wd hh;have h9:=row_at HX3.out hh 0;exact⟨row_at HR3.out hh 0,row_at HR3.out hh 1,h9⟩
  intro wd hh hgd hS;have HRD:=kp0 HR3 hgd;have HXD:=kp0 HX3 hgd;have HBD:=gw0 HB3 hgd;clear hh hgd c0 c1 c2 x0 x1
  try clear c3
  try clear c4
  try clear x2
  try clear x3
  refine lkP ?_;go_wp2_with (go_at_call 59;refine mh0 (HNM _) fun w4 hb4=> ?_;have HR4:=xt0 HRD hb4;have HX4:=xt0 HXD hb4;have HB4:=bt0 HBD hb4;clear hS)
  refine QN_keep ⟨HR4.cell 0,HR4.cell 1,HX4.cell 0⟩ fun hS=> ?_;refine lkN ?_;clear hS;go_wp2;go_ret;exact⟨rfl,HB4⟩
 ·have HQ3:=hqz9 (HQ2.out);refine rW0 (fun W=>W.cell? (w,0)=some (I sk)∧W.cell? (w,1)=some (S sn)∧W.cell? (w2,0)=some (.bool true)) [0,0,0,0,1,0,0,0,0,0,0,0,0,0,0,0,0,0,0,0,0,0,0,0,0,0,0,0,0] ?hS ?_
  case hS=>intro wd hh;have h9:=row_at HX3.out hh 0;exact⟨row_at HR3.out hh 0,row_at HR3.out hh 1,h9⟩
  intro wd hh hgd hS;have HRD:=kp0 HR3 hgd;have HXD:=kp0 HX3 hgd;have HBD:=gw0 HB3 hgd;clear hh hgd c0 c1 c2 x0 x1
  try clear c3
  try clear c4
  try clear x2
  try clear x3
  refine lkP ?_;go_wp2_with (go_at_call 59;refine mh0 (HNM _) fun w4 hb4=> ?_;have HR4:=xt0 HRD hb4;have HX4:=xt0 HXD hb4;have HB4:=bt0 HBD hb4;clear hS)
  refine QN_keep ⟨HR4.cell 0,HR4.cell 1,HX4.cell 0⟩ fun hS=> ?_;refine lkN ?_;have hr4:=HR4.out;have c2:=hr4.k2;have HCT:=hqz9 (HCE w4 HB4);clear hr4 hS;have hq:=HQ3.out;cases al
  ·obtain rfl:Q=false:=by rw[hq];simp
   clear hq;go_wp2_with (go_at_call 102;refine mh0 HCT fun w5 hb5=> ?_;have HB5:=bt0 HB4 hb5)
   go_ret;exact⟨rfl,HB5⟩
  cases bt
  ·obtain rfl:Q=false:=by rw[hq];simp
   clear hq;go_wp2_with (first|(go_at_call 102;refine mh0 HCT fun w5 hb5=> ?_;have hr5:=HR4.ext hb5;have HR5:=hqz9 hr5;have HB5:=bt0 HB4 hb5;have c3:=hr5.k3;clear hr5)|(go_at_call 37;refine mh0 (HIT om0 w5 (HTX.grown (bg0 HB5) nx0)) fun w6 hb6=> ?_;have HB6:=bt0 HB5 hb6))
   go_ret;exact⟨rfl,HB6⟩
  obtain rfl:Q=be:=by rw[hq];simp
  clear hq HQ3;go_wp2_with (first|(go_at_call 102;refine mh0 HCT fun w5 hb5=> ?_;have hr5:=HR4.ext hb5;have HR5:=hqz9 hr5;have HB5:=bt0 HB4 hb5;have c3:=hr5.k3;clear hr5)|(go_at_call 37;(first|(refine mh0 (HIT om0 w5 (HTX.grown (bg0 HB5) nx0)) fun w6 hb6=> ?_;have hr6:=HR5.ext hb6;have HR6:=hqz9 hr6;have HB6:=bt0 HB5 hb6;have c4:=hr6.k4;clear hr6)|(refine mh0 (HIE om0 w6 (HEX.grown (bg0 HB6) nx0)) fun w7 hb7=> ?_;have HB7:=bt0 HB6 hb7))))
  go_ret;exact⟨rfl,HB7⟩
end
section
open Go.RowKit Go.Shelf
attribute [local go_sem] Oper.semAt_some
set_option maxRecDepth 100000 in
set_option maxHeartbeats 16000000 in
theorem stmt_c4 (s:LS) (hk:s.kind=4) (most:Int) (hm:0≤most∧most≤1000) (av tv ev:Value) (w:World) (B:Nat→Prop) (ha:AX B w av s.args) (ht:SX B w tv s.thn) (he:SX B w ev s.els)
  (hn:Asc s.name) (haE:∀x∈s.args,AscE x) (bt be:Bool) (it:1≤most→StsB s.thn (most - 1) tv B bt) (ie:1≤most→StsB s.els (most - 1) ev B be):
  CR 62 #[sV s av tv ev,I most] w (.bool (decide (most≠0)&&decide (s.args.length=(formL s.kind).args)&&decide (s.els.length=0)&& !(isName s.name)&&decide (s.name= [])&&allE s.args&&bt&&be)):=by
 have HFO:Hid (∀W:World,CR 101 #[I s.kind] W (.tuple #[.agg #[.bool false,I (formL s.kind).args, .bool true, .bool false], .bool true])):=hqz9 (fun W=>by
  have h:=formOf_yes s.kind om0 W;have h1:(formL s.kind).named=false:=by unfold formL;(repeat' split)<;>first|rfl|(exfalso;omega)
  have h2:(formL s.kind).thn=true:=by unfold formL;(repeat' split)<;>first|rfl|(exfalso;omega)
  have h3:(formL s.kind).more=false:=by unfold formL;(repeat' split)<;>first|rfl|(exfalso;omega)
  rw[h1,h2,h3]at h;exact h)
 obtain⟨fa,hfa⟩:∃n,n=(formL s.kind).args:=⟨_,rfl⟩;have⟨an,han⟩:=xq s.args.length;have⟨tn,htn⟩:=xq s.thn.length;have⟨en,hen⟩:=xq s.els.length;obtain⟨aa,ac,hav⟩:=ha.slice;rw[show(LE.mk 0 0 0 [] s.args).args.length=an from han.symm]at hav;obtain⟨ta,tc,htv⟩:=ht.slice;rw[←htn]at htv;obtain⟨ea,ec,hev⟩:=he.slice;rw[←hen]at hev;subst hav;subst htv;subst hev;have⟨sn,hsn⟩:=xq s.name;have⟨nb,hnb⟩:=xq (isName s.name);have⟨sk,hsk⟩:=xq s.kind;have⟨al,hal⟩:=xq (allE s.args);have HNM:=hqz9 (fun W=>name_any s.name hn W);have hsay:∀W d',SaysB agg5 (RE d' B) W 103 #[] (fun x=> !(bP (okE 40 x))) s.args:=fun W d'=>⟨enters_of Tryz.func103 kr0 rfl,fun x hx W' C hb hr=>by
  obtain⟨he,hex⟩:=hr.ev;rw[he];exact stmt1_any x (haE x hx) (C 4) W' B hex⟩
 have HAX:=hqz9 ha;have HCE:Hid (∀W,Below w w W→CR 102 #[.slice aa an ac, .func (.func 103) #[] #[]] W (.bool !al)):=hqz9 (fun W hb=>by
  obtain⟨d',hd'⟩:=HAX.grown (below_grown hb none) nx0;have h:=containsE_any W _ s.args hd' (fun W W' C x hb h=>h.below hb) 103 #[] _ (hsay W d');have hb:(!al)=(s.args.any fun x=> !(bP (okE 40 x))):=by rw[hal];unfold allE;rw[Bool.not_not]
  rw[hb];exact h)
 have HTX:=hqz9 ht;have HEX:=hqz9 he;have HIT:=hqz9 it;have HIE:=hqz9 ie;obtain⟨Q,hQ⟩:∃Q,Q=(decide (most≠0)&&decide (an=fa)&&decide (en=0)&& !nb&&decide (sn= [])&&al&&bt&&be):=⟨_,rfl⟩;rw[←han,←hfa,←hen,←hnb,←hsn,←hal];rw[←hQ];have hval:sV s (.slice aa an ac) (.slice ta tn tc) (.slice ea en ec)= .agg #[I sk,S sn, .slice aa an ac, .slice ta tn tc, .slice ea en ec]:=by rw[sV,hsk,hsn]
 rw[hval];clear hval;rw[←hfa,←hsk]at HFO;rw[←hsn]at HNM;rw[←hnb.trans (congrArg isName hsn).symm]at HNM;have HQ:=hqz9 hQ;obtain⟨hm0,hm1⟩:=hm;have⟨w1,hw1⟩:=xq (w.alloc (.cells #[I sk,S sn, .slice aa an ac, .slice ta tn tc, .slice ea en ec] 55));have HB1:=hqz9 (aB0 hw1);have hR1:=aN0 hw1;have HR1:=hqz9 hR1;have b0:=hR1.k0;have hwe:w.alloc (.cells #[I sk,S sn, .slice aa an ac, .slice ta tn tc, .slice ea en ec] 55)=w1:=hw1.symm;have HSK:=hqz9 (hsk▸hk:sk=4);have HFA:=hqz9 (True.intro);clear ha ht he it ie hn haE hsay hfa han htn hen hsn hnb hsk hal hQ hw1 hR1 hk;go_enter Tryz.func62,Tryz.ntmps62;go_upto_region 2 with(first|(go_at_call 101;refine mh0 (HFO _) fun w2 hb2=> ?_;have HR2:=xt0 HR1 hb2;have HB2:=bt0 HB1 hb2)|(refine sr 170 (.tmp 5) (.tmp 11) w2 frZ hn0 ?_))
 have hzb:=HB2.size;have hlb:=HR2.lt;obtain⟨w3,hw3⟩:∃w3,w3=(w2.alloc (.cells frZ 170)).setRow w2 #[.bool false,I fa, .bool true, .bool false]:=⟨_,rfl⟩;have hR3:Row w3 w 55 [I sk,S sn, .slice aa an ac, .slice ta tn tc, .slice ea en ec]:=by rw[hw3];exact(setRow_other _ _ _ _ om0).trans (ho0 HR2.out)
 have hX3:Row w3 w2 170 [.bool false,I fa, .bool true, .bool false]:=by rw[hw3];exact setRow_heap _ _ _ _ _ _ hn0
 have HB3:=hqz9 (show Below w w w3 by rw[hw3];exact(HB2.alloc hzb _).grown setRow_grown so0 sx0);rw[←hw3];have HR3:=hqz9 hR3;have HX3:=hqz9 hX3;have c0:=hR3.k0;have c1:=hR3.k1;have c2:=hR3.k2;have c3:=hR3.k3;have c4:=hR3.k4;have x0:=hX3.k0;have x1:=hX3.k1;have x2:=hX3.k2;have x3:=hX3.k3;clear hw3 hR3 hX3 b0;by_cases h0:most=0
 case pos=>
  have hq:=HQ.out;subst h0;obtain rfl:Q=false:=by rw[hq];simp
  clear hq;go_wp2;go_ret;exact⟨rfl,HB3⟩
 have hmz:(most==0)=false:=bn0 h0;by_cases h1:an=fa
 case neg=>
  have hq:=HQ.out;have hne:((an:Int)==(fa:Int))=false:=bo0;have hne2:((an:Int) !=(fa:Int))=true:=by rw[bne,hne];rfl
  obtain rfl:Q=false:=by rw[hq];simp [h1]
  clear hq h1;go_wp2;go_ret;exact⟨rfl,HB3⟩
 subst h1;by_cases hen:en=0
 case neg=>
  have hq:=HQ.out;have hpos:0<(en:Int):=om0;obtain rfl:Q=false:=by rw[hq];simp [hen]
  clear hq hen;go_wp2;go_ret;exact⟨rfl,HB3⟩
 subst hen;have hq:=HQ.out;simp only[ne_eq,h0,not_false_eq_true,decide_true,Bool.true_and]at hq;have HQ2:=hqz9 hq;clear hq HQ;go_upto_region 4 with(fail)
 have hk10:(sk==10)=false:=bn0 (oq0 HSK);cases nb
 case true=>
  obtain rfl:Q=false:=by rw[HQ2.out];simp
  refine rW0 (fun W=>W.cell? (w,0)=some (I sk)∧W.cell? (w,1)=some (S sn)∧W.cell? (w2,0)=some (.bool false)) [0,0,0,0,1,0,0,0,0,0,0,0,0,0,0,0,0,0,0,0,0,0,0,0,0,0,0,0,0] ?hS ?_
  case hS=>intro wd hh;have h9:=row_at HX3.out hh 0;exact⟨row_at HR3.out hh 0,row_at HR3.out hh 1,h9⟩
  intro wd hh hgd hS;have HRD:=kp0 HR3 hgd;have HXD:=kp0 HX3 hgd;have HBD:=gw0 HB3 hgd;clear hh hgd c0 c1 c2 x0 x1
  try clear c3
  try clear c4
  try clear x2
  try clear x3
  refine lkP ?_;go_wp2_with (go_at_call 59;refine mh0 (HNM _) fun w4 hb4=> ?_;have HR4:=xt0 HRD hb4;have HX4:=xt0 HXD hb4;have HB4:=bt0 HBD hb4;clear hS)
  refine QN_keep ⟨HR4.cell 0,HR4.cell 1,HX4.cell 0⟩ fun hS=> ?_;refine lkN ?_;clear hS;go_wp2;go_ret;exact⟨rfl,HB4⟩
 by_cases hs:sn= []
 case neg=>
  have hsb:(sn== [])=false:=bn0 hs;have hsb2:(sn != [])=true:=by rw[bne,hsb];rfl
  obtain rfl:Q=false:=by rw[HQ2.out];simp [hs]
  clear hs;refine rW0 (fun W=>W.cell? (w,0)=some (I sk)∧W.cell? (w,1)=some (S sn)∧W.cell? (w2,0)=some (.bool false)) [0,0,0,0,1,0,0,0,0,0,0,0,0,0,0,0,0,0,0,0,0,0,0,0,0,0,0,0,0] ?hS ?_
  case hS=>intro wd hh;have h9:=row_at HX3.out hh 0;exact⟨row_at HR3.out hh 0,row_at HR3.out hh 1,h9⟩
  intro wd hh hgd hS;have HRD:=kp0 HR3 hgd;have HXD:=kp0 HX3 hgd;have HBD:=gw0 HB3 hgd;clear hh hgd c0 c1 c2 x0 x1
  try clear c3
  try clear c4
  try clear x2
  try clear x3
  refine lkP ?_;go_wp2_with (go_at_call 59;refine mh0 (HNM _) fun w4 hb4=> ?_;have HR4:=xt0 HRD hb4;have HX4:=xt0 HXD hb4;have HB4:=bt0 HBD hb4;clear hS)
  refine QN_keep ⟨HR4.cell 0,HR4.cell 1,HX4.cell 0⟩ fun hS=> ?_;refine lkN ?_;clear hS;go_wp2;go_ret;exact⟨rfl,HB4⟩
 subst hs;have HQ3:=hqz9 (HQ2.out);refine rW0 (fun W=>W.cell? (w,0)=some (I sk)∧W.cell? (w,1)=some (S [])∧W.cell? (w2,0)=some (.bool false)) [0,0,0,0,1,0,0,0,0,0,0,0,0,0,0,0,0,0,0,0,0,0,0,0,0,0,0,0,0] ?hS ?_
 case hS=>intro wd hh;have h9:=row_at HX3.out hh 0;exact⟨row_at HR3.out hh 0,row_at HR3.out hh 1,h9⟩
 intro wd hh hgd hS;have HRD:=kp0 HR3 hgd;have HXD:=kp0 HX3 hgd;have HBD:=gw0 HB3 hgd;clear hh hgd c0 c1 c2 x0 x1
 try clear c3
 try clear c4
 try clear x2
 try clear x3
 refine lkP ?_;go_wp2_with (go_at_call 59;refine mh0 (HNM _) fun w4 hb4=> ?_;have HR4:=xt0 HRD hb4;have HX4:=xt0 HXD hb4;have HB4:=bt0 HBD hb4;clear hS)
 refine QN_keep ⟨HR4.cell 0,HR4.cell 1,HX4.cell 0⟩ fun hS=> ?_;refine lkN ?_;have hr4:=HR4.out;have c2:=hr4.k2;have HCT:=hqz9 (HCE w4 HB4);clear hr4 hS;have hq:=HQ3.out;cases al
 ·obtain rfl:Q=false:=by rw[hq];simp
  clear hq;go_wp2_with (go_at_call 102;refine mh0 HCT fun w5 hb5=> ?_;have HB5:=bt0 HB4 hb5)
  go_ret;exact⟨rfl,HB5⟩
 cases bt
 ·obtain rfl:Q=false:=by rw[hq];simp
  clear hq;go_wp2_with (first|(go_at_call 102;refine mh0 HCT fun w5 hb5=> ?_;have hr5:=HR4.ext hb5;have HR5:=hqz9 hr5;have HB5:=bt0 HB4 hb5;have c3:=hr5.k3;clear hr5)|(go_at_call 37;refine mh0 (HIT om0 w5 (HTX.grown (bg0 HB5) nx0)) fun w6 hb6=> ?_;have HB6:=bt0 HB5 hb6))
  go_ret;exact⟨rfl,HB6⟩
 obtain rfl:Q=be:=by rw[hq];simp
 clear hq HQ3;go_wp2_with (first|(go_at_call 102;refine mh0 HCT fun w5 hb5=> ?_;have hr5:=HR4.ext hb5;have HR5:=hqz9 hr5;have HB5:=bt0 HB4 hb5;have c3:=hr5.k3;clear hr5)|(go_at_call 37;(first|(refine mh0 (HIT om0 w5 (HTX.grown (bg0 HB5) nx0)) fun w6 hb6=> ?_;have hr6:=HR5.ext hb6;have HR6:=hqz9 hr6;have HB6:=bt0 HB5 hb6;have c4:=hr6.k4;clear hr6)|(refine mh0 (HIE om0 w6 (HEX.grown (bg0 HB6) nx0)) fun w7 hb7=> ?_;have HB7:=bt0 HB6 hb7))))
 go_ret;exact⟨rfl,HB7⟩
end
section
open Go.RowKit Go.Shelf
attribute [local go_sem] Oper.semAt_some
set_option maxRecDepth 100000 in
set_option maxHeartbeats 16000000 in
theorem stmt_c10 (s:LS) (hk:s.kind=10) (most:Int) (hm:0≤most∧most≤1000) (av tv ev:Value) (w:World) (B:Nat→Prop) (ha:AX B w av s.args) (ht:SX B w tv s.thn) (he:SX B w ev s.els)
  (hn:Asc s.name) (haE:∀x∈s.args,AscE x) (bt be:Bool) (it:1≤most→StsB s.thn (most - 1) tv B bt) (ie:1≤most→StsB s.els (most - 1) ev B be):
  CR 62 #[sV s av tv ev,I most] w (.bool (decide (most≠0)&&decide (s.args.length=(formL s.kind).args)&&decide (s.thn.length=0)&&decide (s.els.length=0)&& !(isName s.name)&&decide (s.name= [])&&s.args.all (fun a=>decide (a.kind=5))&&allE s.args&&bt&&be)):=by
 have HFO:Hid (∀W:World,CR 101 #[I s.kind] W (.tuple #[.agg #[.bool false,I (formL s.kind).args, .bool false, .bool false], .bool true])):=hqz9 (fun W=>by
  have h:=formOf_yes s.kind om0 W;have h1:(formL s.kind).named=false:=by unfold formL;(repeat' split)<;>first|rfl|(exfalso;omega)
  have h2:(formL s.kind).thn=false:=by unfold formL;(repeat' split)<;>first|rfl|(exfalso;omega)
  have h3:(formL s.kind).more=false:=by unfold formL;(repeat' split)<;>first|rfl|(exfalso;omega)
  rw[h1,h2,h3]at h;exact h)
 have hfa10:(formL s.kind).args=1:=by rw[hk];rfl
 obtain⟨fa,hfa⟩:∃n,n=(formL s.kind).args:=⟨_,rfl⟩;have⟨an,han⟩:=xq s.args.length;have⟨tn,htn⟩:=xq s.thn.length;have⟨en,hen⟩:=xq s.els.length;obtain⟨aa,ac,hav⟩:=ha.slice;rw[show(LE.mk 0 0 0 [] s.args).args.length=an from han.symm]at hav;obtain⟨ta,tc,htv⟩:=ht.slice;rw[←htn]at htv;obtain⟨ea,ec,hev⟩:=he.slice;rw[←hen]at hev;subst hav;subst htv;subst hev;have⟨sn,hsn⟩:=xq s.name;have⟨nb,hnb⟩:=xq (isName s.name);have⟨sk,hsk⟩:=xq s.kind;have⟨al,hal⟩:=xq (allE s.args);have⟨k5,hk5⟩:=xq (s.args.all (fun a=>decide (a.kind=5)));have HNM:=hqz9 (fun W=>name_any s.name hn W);have hsay:∀W d',SaysB agg5 (RE d' B) W 103 #[] (fun x=> !(bP (okE 40 x))) s.args:=fun W d'=>⟨enters_of Tryz.func103 kr0 rfl,fun x hx W' C hb hr=>by
  obtain⟨he,hex⟩:=hr.ev;rw[he];exact stmt1_any x (haE x hx) (C 4) W' B hex⟩
 have HAX:=hqz9 ha;have HCE:Hid (∀W,Below w w W→CR 102 #[.slice aa an ac, .func (.func 103) #[] #[]] W (.bool !al)):=hqz9 (fun W hb=>by
  obtain⟨d',hd'⟩:=HAX.grown (below_grown hb none) nx0;have h:=containsE_any W _ s.args hd' (fun W W' C x hb h=>h.below hb) 103 #[] _ (hsay W d');have hb:(!al)=(s.args.any fun x=> !(bP (okE 40 x))):=by rw[hal];unfold allE;rw[Bool.not_not]
  rw[hb];exact h)
 have HG5:Hid (an=1→∃(g o:Nat) (q:Int),aa=some ⟨g,o,none⟩∧g<w.heap.size∧w.cell? (g,o)=some (I q)∧(k5=decide (q=5))):=hqz9 (fun h1=>by
  obtain⟨a,hsa⟩:∃a,s.args= [a]:=List.length_eq_one_iff.1 om0;obtain⟨d',a',c',hv, -,hor⟩:=ha;obtain⟨rfl, -,rfl⟩:aa=a'∧an=(LE.mk 0 0 0 [] s.args).args.length∧ac=c':=by simpa using hv
  rcases hor with hor|⟨g,o,rfl, -,hel⟩
  ·rw[show(LE.mk 0 0 0 [] s.args).args= [a]from hsa]at hor;cases hor
  ·obtain⟨C,hC,hR⟩:=hel 0 a (by rw[show(LE.mk 0 0 0 [] s.args).args= [a]from hsa];rfl);obtain⟨hev, -⟩:=hR.ev;have h0:=hC 0 dc0;rw[Nat.zero_mul,Nat.add_zero]at h0;have hev:Value.agg #[C 0,C 1,C 2,C 3,C 4]=Value.agg #[I a.kind,I a.op,I a.n,S a.name,C 4]:=hev;have h5:C 0=I a.kind∧C 1=I a.op∧C 2=I a.n∧C 3=S a.name:=by simpa using Value.agg.inj hev
   rw[h5.1]at h0;refine⟨g,o,a.kind,rfl, ?_,h0,by rw[hk5,hsa];simp⟩;rcases Nat.lt_or_ge g w with h|h
   ·exact h
   ·simp [World.cell?,Array.getElem?_eq_none h]at h0)
 have HTX:=hqz9 ht;have HEX:=hqz9 he;have HIT:=hqz9 it;have HIE:=hqz9 ie;obtain⟨Q,hQ⟩:∃Q,Q=(decide (most≠0)&&decide (an=fa)&&decide (tn=0)&&decide (en=0)&& !nb&&decide (sn= [])&&k5&&al&&bt&&be):=⟨_,rfl⟩;rw[←han,←hfa,←htn,←hen,←hnb,←hsn,←hk5,←hal];rw[←hQ];have hval:sV s (.slice aa an ac) (.slice ta tn tc) (.slice ea en ec)= .agg #[I sk,S sn, .slice aa an ac, .slice ta tn tc, .slice ea en ec]:=by rw[sV,hsk,hsn]
 rw[hval];clear hval;rw[←hfa,←hsk]at HFO;rw[←hsn]at HNM;rw[←hnb.trans (congrArg isName hsn).symm]at HNM;have HQ:=hqz9 hQ;obtain⟨hm0,hm1⟩:=hm;have⟨w1,hw1⟩:=xq (w.alloc (.cells #[I sk,S sn, .slice aa an ac, .slice ta tn tc, .slice ea en ec] 55));have HB1:=hqz9 (aB0 hw1);have hR1:=aN0 hw1;have HR1:=hqz9 hR1;have b0:=hR1.k0;have hwe:w.alloc (.cells #[I sk,S sn, .slice aa an ac, .slice ta tn tc, .slice ea en ec] 55)=w1:=hw1.symm;have HSK:=hqz9 (hsk▸hk:sk=10);have HFA:=hqz9 (hfa.trans hfa10);clear ha ht he it ie hn haE hsay hfa han htn hen hsn hnb hsk hal hQ hw1 hR1 hk hfa10 hk5;go_enter Tryz.func62,Tryz.ntmps62;go_upto_region 2 with(first|(go_at_call 101;refine mh0 (HFO _) fun w2 hb2=> ?_;have HR2:=xt0 HR1 hb2;have HB2:=bt0 HB1 hb2)|(refine sr 170 (.tmp 5) (.tmp 11) w2 frZ hn0 ?_))
 have hzb:=HB2.size;have hlb:=HR2.lt;obtain⟨w3,hw3⟩:∃w3,w3=(w2.alloc (.cells frZ 170)).setRow w2 #[.bool false,I fa, .bool false, .bool false]:=⟨_,rfl⟩;have hR3:Row w3 w 55 [I sk,S sn, .slice aa an ac, .slice ta tn tc, .slice ea en ec]:=by rw[hw3];exact(setRow_other _ _ _ _ om0).trans (ho0 HR2.out)
 have hX3:Row w3 w2 170 [.bool false,I fa, .bool false, .bool false]:=by rw[hw3];exact setRow_heap _ _ _ _ _ _ hn0
 have HB3:=hqz9 (show Below w w w3 by rw[hw3];exact(HB2.alloc hzb _).grown setRow_grown so0 sx0);rw[←hw3];have HR3:=hqz9 hR3;have HX3:=hqz9 hX3;have c0:=hR3.k0;have c1:=hR3.k1;have c2:=hR3.k2;have c3:=hR3.k3;have c4:=hR3.k4;have x0:=hX3.k0;have x1:=hX3.k1;have x2:=hX3.k2;have x3:=hX3.k3;clear hw3 hR3 hX3 b0;by_cases h0:most=0
 case pos=>
  have hq:=HQ.out;subst h0;obtain rfl:Q=false:=by rw[hq];simp
  clear hq;go_wp2;go_ret;exact⟨rfl,HB3⟩
 have hmz:(most==0)=false:=bn0 h0;by_cases h1:an=fa
 case neg=>
  have hq:=HQ.out;have hne:((an:Int)==(fa:Int))=false:=bo0;have hne2:((an:Int) !=(fa:Int))=true:=by rw[bne,hne];rfl
  obtain rfl:Q=false:=by rw[hq];simp [h1]
  clear hq h1;go_wp2;go_ret;exact⟨rfl,HB3⟩
 subst h1;by_cases htn:tn=0
 case neg=>
  have hq:=HQ.out;have hpos:0<(tn:Int):=om0;obtain rfl:Q=false:=by rw[hq];simp [htn]
  clear hq htn;go_wp2;go_ret;exact⟨rfl,HB3⟩
 subst htn;by_cases hen:en=0
 case neg=>
  have hq:=HQ.out;have hpos:0<(en:Int):=om0;obtain rfl:Q=false:=by rw[hq];simp [hen]
  clear hq hen;go_wp2;go_ret;exact⟨rfl,HB3⟩
 subst hen;have hq:=HQ.out;simp only[ne_eq,h0,not_false_eq_true,decide_true,Bool.true_and]at hq;have HQ2:=hqz9 hq;clear hq HQ;go_upto_region 4 with(fail)
 obtain⟨g,o,q,rfl,hgl,hg5,hq5⟩:=HG5 HFA;obtain rfl:sk=10:=HSK.out;have HGC:=hqz9 (show∀W:World,Below w w W→W.cell? (g,o)=some (I q)from fun W hb=>by
  have:=hb.block g hgl;unfold World.cell? at hg5⊢;rw[this];exact hg5)
 have hanI:=HFA.out;subst hanI;have HQ5:=hqz9 hq5;clear hg5 hgl HG5 HSK HFA hq5;cases nb
 case true=>
  obtain rfl:Q=false:=by rw[HQ2.out];simp
  refine rW0 (fun W=>W.cell? (w,0)=some (I 10)∧W.cell? (w,1)=some (S sn)∧W.cell? (w2,0)=some (.bool false)∧W.cell? (w,2)=some (.slice (some (g,o)) 1 ac)∧W.cell? (g,o)=some (I q)) [0,0,0,0,1,0,0,0,0,0,0,0,0,0,0,0,0,0,0,0,0,0,0,0,0,0,0,0,0] ?hS ?_
  case hS=>intro wd hh;have h9:=row_at HX3.out hh 0;exact⟨row_at HR3.out hh 0,row_at HR3.out hh 1,h9,row_at HR3.out hh 2,by have h:=HGC w3 HB3;unfold World.cell? at h⊢;rw[hh];exact h⟩
  intro wd hh hgd hS;have HRD:=kp0 HR3 hgd;have HXD:=kp0 HX3 hgd;have HBD:=gw0 HB3 hgd;clear hh hgd c0 c1 c2 x0 x1
  try clear c3
  try clear c4
  try clear x2
  try clear x3
  refine lkP ?_;go_wp2_with (go_at_call 59;refine mh0 (HNM _) fun w4 hb4=> ?_;have HR4:=xt0 HRD hb4;have HX4:=xt0 HXD hb4;have HB4:=bt0 HBD hb4;clear hS)
  refine QN_keep ⟨HR4.cell 0,HR4.cell 1,HX4.cell 0,HR4.cell 2,HGC w4 HB4⟩ fun hS=> ?_;refine lkN ?_;clear hS;go_wp2;go_ret;exact⟨rfl,HB4⟩
 by_cases hs:sn= []
 case neg=>
  have hsb:(sn== [])=false:=bn0 hs;have hsb2:(sn != [])=true:=by rw[bne,hsb];rfl
  obtain rfl:Q=false:=by rw[HQ2.out];simp [hs]
  clear hs;refine rW0 (fun W=>W.cell? (w,0)=some (I 10)∧W.cell? (w,1)=some (S sn)∧W.cell? (w2,0)=some (.bool false)∧W.cell? (w,2)=some (.slice (some (g,o)) 1 ac)∧W.cell? (g,o)=some (I q)) [0,0,0,0,1,0,0,0,0,0,0,0,0,0,0,0,0,0,0,0,0,0,0,0,0,0,0,0,0] ?hS ?_
  case hS=>intro wd hh;have h9:=row_at HX3.out hh 0;exact⟨row_at HR3.out hh 0,row_at HR3.out hh 1,h9,row_at HR3.out hh 2,by have h:=HGC w3 HB3;unfold World.cell? at h⊢;rw[hh];exact h⟩
  intro wd hh hgd hS;have HRD:=kp0 HR3 hgd;have HXD:=kp0 HX3 hgd;have HBD:=gw0 HB3 hgd;clear hh hgd c0 c1 c2 x0 x1
  try clear c3
  try clear c4
  try clear x2
  try clear x3
  refine lkP ?_;go_wp2_with (go_at_call 59;refine mh0 (HNM _) fun w4 hb4=> ?_;have HR4:=xt0 HRD hb4;have HX4:=xt0 HXD hb4;have HB4:=bt0 HBD hb4;clear hS)
  refine QN_keep ⟨HR4.cell 0,HR4.cell 1,HX4.cell 0,HR4.cell 2,HGC w4 HB4⟩ fun hS=> ?_;refine lkN ?_;clear hS;go_wp2;go_ret;exact⟨rfl,HB4⟩
 subst hs;by_cases hq:q=5
 case neg=>
  have hqb:(q==5)=false:=bn0 hq;have hqb2:(q !=5)=true:=by rw[bne,hqb];rfl
  obtain rfl:Q=false:=by rw[HQ2.out,HQ5.out];simp [hq]
  clear hq;refine rW0 (fun W=>W.cell? (w,0)=some (I 10)∧W.cell? (w,1)=some (S [])∧W.cell? (w2,0)=some (.bool false)∧W.cell? (w,2)=some (.slice (some (g,o)) 1 ac)∧W.cell? (g,o)=some (I q)) [0,0,0,0,1,0,0,0,0,0,0,0,0,0,0,0,0,0,0,0,0,0,0,0,0,0,0,0,0] ?hS ?_
  case hS=>intro wd hh;have h9:=row_at HX3.out hh 0;exact⟨row_at HR3.out hh 0,row_at HR3.out hh 1,h9,row_at HR3.out hh 2,by have h:=HGC w3 HB3;unfold World.cell? at h⊢;rw[hh];exact h⟩
  intro wd hh hgd hS;have HRD:=kp0 HR3 hgd;have HXD:=kp0 HX3 hgd;have HBD:=gw0 HB3 hgd;clear hh hgd c0 c1 c2 x0 x1
  try clear c3
  try clear c4
  try clear x2
  try clear x3
  refine lkP ?_;go_wp2_with (go_at_call 59;refine mh0 (HNM _) fun w4 hb4=> ?_;have HR4:=xt0 HRD hb4;have HX4:=xt0 HXD hb4;have HB4:=bt0 HBD hb4;clear hS)
  refine QN_keep ⟨HR4.cell 0,HR4.cell 1,HX4.cell 0,HR4.cell 2,HGC w4 HB4⟩ fun hS=> ?_;refine lkN ?_;clear hS;go_wp2;go_ret;exact⟨rfl,HB4⟩
 subst hq;obtain rfl:k5=true:=by rw[HQ5.out];rfl
 have HQ3:=hqz9 (HQ2.out);refine rW0 (fun W=>W.cell? (w,0)=some (I 10)∧W.cell? (w,1)=some (S [])∧W.cell? (w2,0)=some (.bool false)∧W.cell? (w,2)=some (.slice (some (g,o)) 1 ac)∧W.cell? (g,o)=some (I 5)) [0,0,0,0,1,0,0,0,0,0,0,0,0,0,0,0,0,0,0,0,0,0,0,0,0,0,0,0,0] ?hS ?_
 case hS=>intro wd hh;have h9:=row_at HX3.out hh 0;exact⟨row_at HR3.out hh 0,row_at HR3.out hh 1,h9,row_at HR3.out hh 2,by have h:=HGC w3 HB3;unfold World.cell? at h⊢;rw[hh];exact h⟩
 intro wd hh hgd hS;have HRD:=kp0 HR3 hgd;have HXD:=kp0 HX3 hgd;have HBD:=gw0 HB3 hgd;clear hh hgd c0 c1 c2 x0 x1
 try clear c3
 try clear c4
 try clear x2
 try clear x3
 refine lkP ?_;go_wp2_with (go_at_call 59;refine mh0 (HNM _) fun w4 hb4=> ?_;have HR4:=xt0 HRD hb4;have HX4:=xt0 HXD hb4;have HB4:=bt0 HBD hb4;clear hS)
 refine QN_keep ⟨HR4.cell 0,HR4.cell 1,HX4.cell 0,HR4.cell 2,HGC w4 HB4⟩ fun hS=> ?_;refine lkN ?_;have hr4:=HR4.out;have c2:=hr4.k2;have HCT:=hqz9 (HCE w4 HB4);clear hr4 hS;have hq:=HQ3.out;cases al
 ·obtain rfl:Q=false:=by rw[hq];simp
  clear hq;go_wp2_with (go_at_call 102;refine mh0 HCT fun w5 hb5=> ?_;have HB5:=bt0 HB4 hb5)
  go_ret;exact⟨rfl,HB5⟩
 cases bt
 ·obtain rfl:Q=false:=by rw[hq];simp
  clear hq;go_wp2_with (first|(go_at_call 102;refine mh0 HCT fun w5 hb5=> ?_;have hr5:=HR4.ext hb5;have HR5:=hqz9 hr5;have HB5:=bt0 HB4 hb5;have c3:=hr5.k3;clear hr5)|(go_at_call 37;refine mh0 (HIT om0 w5 (HTX.grown (bg0 HB5) nx0)) fun w6 hb6=> ?_;have HB6:=bt0 HB5 hb6))
  go_ret;exact⟨rfl,HB6⟩
 obtain rfl:Q=be:=by rw[hq];simp
 clear hq HQ3;go_wp2_with (first|(go_at_call 102;refine mh0 HCT fun w5 hb5=> ?_;have hr5:=HR4.ext hb5;have HR5:=hqz9 hr5;have HB5:=bt0 HB4 hb5;have c3:=hr5.k3;clear hr5)|(go_at_call 37;(first|(refine mh0 (HIT om0 w5 (HTX.grown (bg0 HB5) nx0)) fun w6 hb6=> ?_;have hr6:=HR5.ext hb6;have HR6:=hqz9 hr6;have HB6:=bt0 HB5 hb6;have c4:=hr6.k4;clear hr6)|(refine mh0 (HIE om0 w6 (HEX.grown (bg0 HB6) nx0)) fun w7 hb7=> ?_;have HB7:=bt0 HB6 hb7))))
 go_ret;exact⟨rfl,HB7⟩
end
section
open Go.RowKit Go.Shelf
attribute [local go_sem] Oper.semAt_some
def AscSD:Nat→LS→Prop
 |0,_=>True
 |d+1,s=>Asc s.name∧(∀x∈s.args,AscE x)∧(∀x∈s.thn,AscSD d x)∧∀x∈s.els,AscSD d x
def AscS (s:LS):Prop:=∀d,AscSD d s
theorem AscS.name {s:LS} (h:AscS s):Asc s.name:=(h 1).1
theorem AscS.args {s:LS} (h:AscS s):∀x∈s.args,AscE x:=(h 1).2.1
theorem AscS.thn {s:LS} (h:AscS s):∀x∈s.thn,AscS x:=fun x hx d=>(h (d+1)).2.2.1 x hx
theorem AscS.els {s:LS} (h:AscS s):∀x∈s.els,AscS x:=fun x hx d=>(h (d+1)).2.2.2 x hx
theorem Calls.bool_eq {n:Nat} {args:Array Value} {w:World} {a b:Bool} (h:a=b) (hc:Calls Tryz.prog n args w fun e' w'=>e'= .returned (.bool a)∧Below w w w'):Calls Tryz.prog n args w fun e' w'=>e'= .returned (.bool b)∧Below w w w':=by rw[←h];exact hc
theorem len0 {α:Type} {l:List α}:l.length=0↔l= []:=List.length_eq_zero_iff
def StsA (m:Nat):Prop:=∀(l:List LS) (v:Value) (B:Nat→Prop),(∀x∈l,AscS x)→StsB l (m:Int) v B (bP (∀x∈l,okS m x))
set_option maxHeartbeats 4000000 in
theorem tstmt_any (m:Nat) (hm:m≤1000) (ih:∀j,m=j+1→StsA j) (s:LS) (hs:AscS s) (av tv ev:Value) (w:World) (B:Nat→Prop) (ha:AX B w av s.args) (ht:SX B w tv s.thn) (he:SX B w ev s.els):
  CR 62 #[sV s av tv ev,I (m:Int)] w (.bool (bP (okS m s))):=by
 have hmm:0≤(m:Int)∧(m:Int)≤1000:=om0;have⟨bt,hbt⟩:=xq (bP (∀x∈s.thn,okS (m - 1) x));have⟨be,hbe⟩:=xq (bP (∀x∈s.els,okS (m - 1) x));have it:1≤(m:Int)→StsB s.thn ((m:Int) - 1) tv B bt:=fun h=>by
  have:=ih (m - 1) om0 s.thn tv B hs.thn;rw[show(((m - 1:Nat)):Int)=(m:Int) - 1 by omega]at this;rw[hbt];exact this
 have ie:1≤(m:Int)→StsB s.els ((m:Int) - 1) ev B be:=fun h=>by
  have:=ih (m - 1) om0 s.els ev B hs.els;rw[show(((m - 1:Nat)):Int)=(m:Int) - 1 by omega]at this;rw[hbe];exact this
 have key:∀b:Bool,(b=true↔m≠0∧((1≤s.kind∧s.kind≤10)∧(s.kind=10→∀a∈s.args,a.kind=5))∧s.args.length=(formL s.kind).args∧((formL s.kind).thn=false→s.thn= [])∧((formL s.kind).more=false→s.els= [])∧
  ((formL s.kind).named=true→Asc s.name∧isName s.name=true)∧((formL s.kind).named=false→s.name= [])∧(∀x∈s.args,okE 40 x)∧bt=true∧be=true)→b=bP (okS m s):=by
  intro b hb;rw[Bool.eq_iff_iff,bP_iff,hb];cases m with
  |zero=>exact⟨fun h=>absurd rfl h.1,fun h=>h.elim⟩
  |succ d=>
   rw[hbt,hbe,bP_iff,bP_iff];exact⟨fun h=>h.2,fun h=>⟨om0,h⟩⟩
 have hm0:decide ((m:Int)≠0)=true↔m≠0:=by rw[decide_eq_true_eq];omega
 rcases(by omega:(s.kind=1∨s.kind=2)∨s.kind=3∨s.kind=4∨(5≤s.kind∧s.kind≤9)∨s.kind=10∨(s.kind<1∨10<s.kind))with hk|hk|hk|hk|hk|hk
 ·refine Calls.bool_eq (key _ ?_) (stmt_c12 s hk m hmm av tv ev w B ha ht he hs.name hs.args bt be it ie);have f1:(formL s.kind).named=true:=by rcases hk with h|h<;>rw[h]<;>rfl
  have f2:(formL s.kind).thn=false:=by rcases hk with h|h<;>rw[h]<;>rfl
  have f3:(formL s.kind).more=false:=by rcases hk with h|h<;>rw[h]<;>rfl
  rw[f1,f2,f3];simp only[Bool.and_eq_true,hm0,decide_eq_true_eq,allE_iff,len0,true_implies,Bool.true_eq_false,false_implies,and_true,true_and];constructor
  ·rintro⟨⟨⟨⟨⟨⟨⟨h1,h2⟩,h3⟩,h4⟩,h5⟩,h6⟩,h7⟩,h8⟩;exact⟨h1,⟨om0,fun h=>by omega⟩,h2,h3,h4,⟨hs.name,h5⟩,h6,h7,h8⟩
  ·rintro⟨h1, -,h2,h3,h4,h5,h6,h7,h8⟩;exact⟨⟨⟨⟨⟨⟨⟨h1,h2⟩,h3⟩,h4⟩,h5.2⟩,h6⟩,h7⟩,h8⟩
 ·refine Calls.bool_eq (key _ ?_) (stmt_c3 s hk m hmm av tv ev w B ha ht he hs.name hs.args bt be it ie);have f1:(formL s.kind).named=false:=by rw[hk];rfl
  have f2:(formL s.kind).thn=true:=by rw[hk];rfl
  have f3:(formL s.kind).more=true:=by rw[hk];rfl
  rw[f1,f2,f3];simp only[Bool.and_eq_true,hm0,decide_eq_true_eq,allE_iff,len0,true_implies,Bool.true_eq_false,Bool.false_eq_true,false_implies,and_true,true_and,Bool.not_eq_true'];constructor
  ·rintro⟨⟨⟨⟨⟨⟨h1,h2⟩,h4⟩,h5⟩,h6⟩,h7⟩,h8⟩;exact⟨h1,⟨om0,fun h=>by omega⟩,h2,h5,h6,h7,h8⟩
  ·rintro⟨h1, -,h2,h5,h6,h7,h8⟩;exact⟨⟨⟨⟨⟨⟨h1,h2⟩,by rw[h5];rfl⟩,h5⟩,h6⟩,h7⟩,h8⟩
 ·refine Calls.bool_eq (key _ ?_) (stmt_c4 s hk m hmm av tv ev w B ha ht he hs.name hs.args bt be it ie);have f1:(formL s.kind).named=false:=by rw[hk];rfl
  have f2:(formL s.kind).thn=true:=by rw[hk];rfl
  have f3:(formL s.kind).more=false:=by rw[hk];rfl
  rw[f1,f2,f3];simp only[Bool.and_eq_true,hm0,decide_eq_true_eq,allE_iff,len0,true_implies,Bool.true_eq_false,Bool.false_eq_true,false_implies,and_true,true_and,Bool.not_eq_true'];constructor
  ·rintro⟨⟨⟨⟨⟨⟨⟨h1,h2⟩,h3⟩,h4⟩,h5⟩,h6⟩,h7⟩,h8⟩;exact⟨h1,⟨om0,fun h=>by omega⟩,h2,h3,h5,h6,h7,h8⟩
  ·rintro⟨h1, -,h2,h3,h5,h6,h7,h8⟩;exact⟨⟨⟨⟨⟨⟨⟨h1,h2⟩,h3⟩,by rw[h5];rfl⟩,h5⟩,h6⟩,h7⟩,h8⟩
 ·refine Calls.bool_eq (key _ ?_) (stmt_c59 s hk m hmm av tv ev w B ha ht he hs.name hs.args bt be it ie);have hk2:s.kind=5∨s.kind=6∨s.kind=7∨s.kind=8∨s.kind=9:=om0;have f1:(formL s.kind).named=false:=by rcases hk2 with h|h|h|h|h<;>rw[h]<;>rfl
  have f2:(formL s.kind).thn=false:=by rcases hk2 with h|h|h|h|h<;>rw[h]<;>rfl
  have f3:(formL s.kind).more=false:=by rcases hk2 with h|h|h|h|h<;>rw[h]<;>rfl
  rw[f1,f2,f3];simp only[Bool.and_eq_true,hm0,decide_eq_true_eq,allE_iff,len0,true_implies,Bool.true_eq_false,Bool.false_eq_true,false_implies,and_true,true_and,Bool.not_eq_true'];constructor
  ·rintro⟨⟨⟨⟨⟨⟨⟨⟨h1,h2⟩,h3⟩,h3'⟩,h4⟩,h5⟩,h6⟩,h7⟩,h8⟩;exact⟨h1,⟨om0,fun h=>by omega⟩,h2,h3,h3',h5,h6,h7,h8⟩
  ·rintro⟨h1, -,h2,h3,h3',h5,h6,h7,h8⟩;exact⟨⟨⟨⟨⟨⟨⟨⟨h1,h2⟩,h3⟩,h3'⟩,by rw[h5];rfl⟩,h5⟩,h6⟩,h7⟩,h8⟩
 ·refine Calls.bool_eq (key _ ?_) (stmt_c10 s hk m hmm av tv ev w B ha ht he hs.name hs.args bt be it ie);have f1:(formL s.kind).named=false:=by rw[hk];rfl
  have f2:(formL s.kind).thn=false:=by rw[hk];rfl
  have f3:(formL s.kind).more=false:=by rw[hk];rfl
  rw[f1,f2,f3];simp only[Bool.and_eq_true,hm0,decide_eq_true_eq,allE_iff,len0,true_implies,Bool.true_eq_false,Bool.false_eq_true,false_implies,and_true,true_and,Bool.not_eq_true',List.all_eq_true];constructor
  ·rintro⟨⟨⟨⟨⟨⟨⟨⟨⟨h1,h2⟩,h3⟩,h3'⟩,h4⟩,h5⟩,h9⟩,h6⟩,h7⟩,h8⟩;exact⟨h1,⟨om0,fun _=>h9⟩,h2,h3,h3',h5,h6,h7,h8⟩
  ·rintro⟨h1,h9,h2,h3,h3',h5,h6,h7,h8⟩;exact⟨⟨⟨⟨⟨⟨⟨⟨⟨h1,h2⟩,h3⟩,h3'⟩,by rw[h5];rfl⟩,h5⟩,h9.2 hk⟩,h6⟩,h7⟩,h8⟩
 ·refine Calls.bool_eq (key _ ?_) (stmt_c0 s hk m av tv ev w);constructor
  ·intro h;cases h
  ·rintro⟨-,⟨h, -⟩, -⟩;omega
set_option maxRecDepth 100000 in
set_option maxHeartbeats 2000000 in
theorem stmts1_any (m:Nat) (hm:m≤1000) (ih:∀j,m=j+1→StsA j) (s:LS) (hs:AscS s) (av tv ev:Value) (p:Nat) (w:World) (B:Nat→Prop) (ha:AX B w av s.args) (ht:SX B w tv s.thn) (he:SX B w ev s.els)
  (hr:Row w p 3 [I (m:Int)]):
  CR 61 #[sV s av tv ev, .pointer (some (p,0))] w (.bool !(bP (okS m s))):=by
 have hb:=below_a1 w (.cells (sB s av tv ev) 55);have HI:=hqz9 (tstmt_any m hm ih s hs av tv ev _ B (EX.grown ha (below_grown hb none) nx0) (ht.below hb) (he.below hb));have HB1:=hqz9 hb;have hr1:=hr.ext hb;have c0:=hr1.cell 0;simp only[List.getElem?_cons_zero]at c0;have⟨b,hbb⟩:=xq (bP (okS m s));rw[←hbb]at HI⊢;clear hs ha ht he ih hr hr1 hb hm hbb;go_enter Tryz.func61,Tryz.ntmps61;go_wp2_with (go_at_call 62;refine mh0 HI fun w1 hb1=> ?_;have HB2:=hqz9 (HB1.out.trans (hb1.mono sm0)))
 go_ret;exact⟨rfl,HB2⟩
set_option maxRecDepth 100000 in
set_option maxHeartbeats 2000000 in
theorem stmts_anyS (m:Nat) (hm:m≤1000) (ih:∀j,m=j+1→StsA j):StsA m:=by
 intro l v B hl w hx;obtain⟨aa,ac,rfl⟩:=hx.slice;have hmf:∀(fn:Fn) (first cap:Array Value) (w:World),(Instr.makeFunc fn first cap).run Tryz.prog w= .ok (.func fn first cap) w:=fun _ _ _ _=>rfl;have⟨w1,hw1⟩:=xq (w.alloc (.cells #[I (m:Int)] 3));have hb1:Below w w w1:=by rw[hw1];exact below_a1 w _
 have hM:=aN0 hw1;have hwe:w.alloc (.cells #[I (m:Int)] 3)=w1:=hw1.symm;obtain⟨d',hd'⟩:=hx.below hb1;have hRp:RSlB B 5 (fun W C x=>RS d' B W C x∧Row W w 3 [I (m:Int)]) w1 (.slice aa l.length ac) l:=hd'.weak (fun _ h=>h) (fun C x h=>⟨h,hM⟩);have hsay:SaysB agg5 (fun W C x=>RS d' B W C x∧Row W w 3 [I (m:Int)]) w1 61 #[.pointer (some (w,0))] (fun x=> !(bP (okS m x))) l:=
  ⟨enters_of Tryz.func61 kr0 rfl,fun x hx W' C hb hr=>by
   obtain⟨he,ha,ht,hs⟩:=hr.1.ev;rw[he];exact stmts1_any m hm ih x (hl x hx) _ _ _ _ W' B ha ht hs hr.2⟩
 have hct:=containsS_any w1 _ l hRp (fun W W' C x hb h=>⟨h.1.below hb,h.2.ext hb⟩) 61 _ _ hsay;have hall:(l.any fun x=> !(bP (okS m x)))=false↔∀x∈l,okS m x:=any_iff;obtain⟨tb,htb⟩:∃t,t=(l.any fun x=> !(bP (okS m x))):=⟨_,rfl⟩;rw[←htb]at hct hall;have hfin:bP (∀x∈l,okS m x)= !tb:=by
  rw[Bool.eq_iff_iff,bP_iff];simp only[Bool.not_eq_true'];exact hall.symm
 rw[hfin];have HCT:=hqz9 hct;have HB1:=hqz9 hb1;obtain⟨M,hM'⟩:∃M:Int,M=(m:Int):=⟨_,rfl⟩;rw[←hM']at hwe⊢;clear hx hl hsay hRp hd' hM hb1 hw1 ih hct hall htb hfin hM';go_enter Tryz.func37,Tryz.ntmps37;go_wp2_with (go_at_call 60;refine mh0 HCT fun w4 hb4=> ?_;have HB4:=bt0 HB1 hb4)
 go_ret;exact⟨rfl,HB4⟩
theorem stsA:∀(m:Nat),m≤1000→StsA m
 |0,h=>stmts_anyS 0 h nx0
 |m+1,h=>stmts_anyS (m+1) h (fun j e=>by
   obtain rfl:j=m:=om0
   exact stsA j om0)
end
end Go.Proofs.YtngglbakkedaiaaGreatDoor
