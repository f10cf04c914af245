import Derived.Test.YtjgbkdbkachciaaGreatDoorU3
set_option linter.all false
namespace Go.Proofs.YtjgbkdbkachciaaGreatDoor
set_option maxRecDepth 100000
set_option maxHeartbeats 16000000
section
open Go.RowKit Go.Shelf
attribute [local go_sem] Oper.semAt_some
abbrev sB (s:LS) (av tv ev:Value):Array Value:= #[I s.kind,S s.name,av,tv,ev]
def rM (a:LA):Prop:=(eH a.name/\isName a.name=true)/\1<=a.size/\a.size<=1048576
def okF (f:LF):Prop:=(eH f.name/\isName f.name=true)/\Names f.params/\Names f.locals/\f.params.length<=6/\∀x∈f.body,mC 40 x
structure kR (p:LP):Prop where
 arrays:∀a∈p.arrays,rM a
 funcs:∀f∈p.funcs,okF f
abbrev aZ:Array Value:= #[.string ⟨#[]⟩, .int .i64 0]
abbrev CU:Array Value:= #[.string ⟨#[]⟩, .slice none 0 0, .slice none 0 0, .slice none 0 0]
structure qE {α:Type} (arg:(Nat->Value)->Value) (R:World->(Nat->Value)->α->Prop) (w:World) (iJ:Nat) (lg:Array Value) (t:α->Bool) (l:List α):Prop where
 eg:∀args w,(callFunc iJ args).run Tryz.prog w= .ok (.enter iJ args) w
 call:∀x∈l,∀W C,Below w.heap.size w W->R W C x->Calls Tryz.prog iJ (#[arg C]++lg) W λe w'=>e= .returned (.bool (t x))/\Below W.heap.size W w'
abbrev abB (C:Nat->Value):Value:= .agg #[C 0,C 1,C 2,C 3]
abbrev abC (C:Nat->Value):Value:= .agg #[C 0,C 1]
def ny {α:Type} (t:α->Bool) (l:List α):Int:=if l.findIdx t<l.length then(l.findIdx t:Int)else -1
theorem BX {α:Type} {t:α->Bool} {l:List α} {k:Nat} (hk:k<l.length) (h:∀j,(hj:j<k)->t (l[j]' aG)=false) (ht:t l[k]=true):ny t l=k:=by
 have:l.findIdx t=k:=(List.findIdx_eq hk).2 ⟨ht,λj hj=>h j hj⟩;unfold ny;rw[this,if_pos hk]
theorem BU {α:Type} {t:α->Bool} {l:List α} (h:∀j,(hj:j<l.length)->t l[j]=false):ny t l= -1:=by
 have:l.findIdx t=l.length:=List.findIdx_eq_length.2 λx hx=>by
  obtain⟨j,hj,rfl⟩:=List.getElem_of_mem hx;exact h j hj
 unfold ny;rw[this,if_neg aG]
theorem agm {α:Type} {B:Nat->Prop} {R:World->(Nat->Value)->α->Prop} (w:World) (v:Value) (l:List α) (hv:aP B 4 R w v l) (hR:∀W W' C x,Below W.heap.size W W'->R W C x->R W' C x) (iJ:Nat) (lg:Array Value) (t:α->Bool) (hp:qE abB R w iJ lg t l):
  CR 80 #[v, .func (.func iJ) #[] lg] w (I (ny t l)):=by
 obtain⟨a0,c0,rfl,hlen, -⟩:=id hv;have Pg:=hp.eg;have HV:=aF hv;have HP:=aF hp;have pX:=aF hR;clear hv hp hR;go_enter Tryz.func80,Tryz.ntmps80;go_wp2;go_loopg [8] l.length (λgh i wr=>∃k:Nat,gh+k=l.length/\i=I k/\Hid (Below w w wr/\∀j,(hj:j<l.length)->j<k->t l[j]=false))
 case atStart=>exact⟨0,rfl,rfl,aF ⟨Below.refl _ _,λj hj h=>absurd h aG⟩⟩
 case round=>
  obtain⟨k,hg,rfl,HH⟩:=hrel;obtain⟨wo,rfl⟩:=xq wr;have HB:=aF HH.out.1;by_cases hlt:k<l.length
  ·have bT:(k:Int)<(l.length:Int):=aG;obtain⟨b,o,C,rfl,_,hC,hrx⟩:=(HV.below HB (λC x h=>pX.out _ _ C x HB h)).at hlt;have e0:=hC 0 aG;have e1:=hC 1 aG;have e2:=hC 2 aG;have e3:=hC 3 aG;simp only[aA]at e0 e1 e2 e3;have hx:=HP.call l[k] (ak hlt) wo C HB hrx;have⟨tx,htx⟩:=xq (t l[k]);rw[<-htx]at hx;have HX:=aF hx;have HT:=aF htx;clear hx hC hrx htx;cases tx
   ·go_wp2;refine aN HX λw1 hb1=> ?_;have aI:=aU HB hb1;clear e0 e1 e2 e3;go_wp2;go_roundg (l.length - (k+1))
    case measure=>omega
    case rel=>
     refine⟨k+1,aG,by go_num,aF ⟨aI,λj hj hjk=> ?_⟩⟩;by_cases wI:j=k
     ·subst wI;exact HT.out.symm
     ·exact HH.out.2 j hj aG
   ·go_wp2;refine aN HX λw1 hb1=> ?_;have aI:=aU HB hb1;clear e0 e1 e2 e3;go_wp2;go_ret;exact⟨by rw[BX hlt (λj hj=>HH.out.2 j aG hj) HT.out.symm];rfl,aI⟩
  ·have bT: ¬(k:Int)<(l.length:Int):=aG;go_wp2;go_ret;exact⟨by rw[BU (λj hj=>HH.out.2 j hj aG)];rfl,HB⟩
theorem agn {α:Type} {B:Nat->Prop} {R:World->(Nat->Value)->α->Prop} (w:World) (v:Value) (l:List α) (hv:aP B 2 R w v l) (hR:∀W W' C x,Below W.heap.size W W'->R W C x->R W' C x) (iJ:Nat) (lg:Array Value) (t:α->Bool) (hp:qE abC R w iJ lg t l):
  CR 216 #[v, .func (.func iJ) #[] lg] w (I (ny t l)):=by
 obtain⟨a0,c0,rfl,hlen, -⟩:=id hv;have Pg:=hp.eg;have HV:=aF hv;have HP:=aF hp;have pX:=aF hR;clear hv hp hR;go_enter Tryz.func216,Tryz.ntmps216;go_wp2;go_loopg [8] l.length (λgh i wr=>∃k:Nat,gh+k=l.length/\i=I k/\Hid (Below w w wr/\∀j,(hj:j<l.length)->j<k->t l[j]=false))
 case atStart=>exact⟨0,rfl,rfl,aF ⟨Below.refl _ _,λj hj h=>absurd h aG⟩⟩
 case round=>
  obtain⟨k,hg,rfl,HH⟩:=hrel;obtain⟨wo,rfl⟩:=xq wr;have HB:=aF HH.out.1;by_cases hlt:k<l.length
  ·have bT:(k:Int)<(l.length:Int):=aG;obtain⟨b,o,C,rfl,_,hC,hrx⟩:=(HV.below HB (λC x h=>pX.out _ _ C x HB h)).at hlt;have e0:=hC 0 aG;have e1:=hC 1 aG;simp only[aA]at e0 e1;have hx:=HP.call l[k] (ak hlt) wo C HB hrx;have⟨tx,htx⟩:=xq (t l[k]);rw[<-htx]at hx;have HX:=aF hx;have HT:=aF htx;clear hx hC hrx htx;cases tx
   ·go_wp2;refine aN HX λw1 hb1=> ?_;have aI:=aU HB hb1;clear e0 e1;go_wp2;go_roundg (l.length - (k+1))
    case measure=>omega
    case rel=>
     refine⟨k+1,aG,by go_num,aF ⟨aI,λj hj hjk=> ?_⟩⟩;by_cases wI:j=k
     ·subst wI;exact HT.out.symm
     ·exact HH.out.2 j hj aG
   ·go_wp2;refine aN HX λw1 hb1=> ?_;have aI:=aU HB hb1;clear e0 e1;go_wp2;go_ret;exact⟨by rw[BX hlt (λj hj=>HH.out.2 j aG hj) HT.out.symm];rfl,aI⟩
  ·have bT: ¬(k:Int)<(l.length:Int):=aG;go_wp2;go_ret;exact⟨by rw[BU (λj hj=>HH.out.2 j hj aG)];rfl,HB⟩
theorem ago (y x:aK) (v1 v2 v3:Value) (p:Nat) (w:World) (hr:Row w p 9 [S x]):
  CR 81 #[.agg #[S y,v1,v2,v3], .pointer (some (p,0))] w (.bool (decide (y=x))):=by
 have hb:=cm w (.cells #[S y,v1,v2,v3] 52);have hr1:=hr.ext hb;have c0:=hr1.cell 0;simp only[af]at c0;have HB:=aF hb;clear hr hr1 hb;go_enter Tryz.func81,Tryz.ntmps81;go_wp2;go_ret;exact⟨by by_cases h:y=x<;>simp [S,h],HB⟩
theorem agp (y x:aK) (v1:Value) (p:Nat) (w:World) (hr:Row w p 9 [S x]):
  CR 217 #[.agg #[S y,v1], .pointer (some (p,0))] w (.bool (decide (y=x))):=by
 have hb:=cm w (.cells #[S y,v1] 68);have hr1:=hr.ext hb;have c0:=hr1.cell 0;simp only[af]at c0;have HB:=aF hb;clear hr hr1 hb;go_enter Tryz.func217,Tryz.ntmps217;go_wp2;go_ret;exact⟨by by_cases h:y=x<;>simp [S,h],HB⟩
def ji (p:LP) (x:aK):Int:=ny (λf=>decide (f.name=x)) p.funcs
def lK (p:LP) (x:aK):Int:=ny (λa=>decide (a.name=x)) p.arrays
theorem Dy (p:LP) (x:aK) (av fv:Value) (w:World) (B:Nat->Prop) (hx:PX B w av fv p):
  CR 48 #[.agg #[av,fv],S x] w (I (ji p x)):=by
 obtain⟨aa,ac,fa,fc,rfl,rfl⟩:=hx.slice;have s9:∀(fn:Fn) (first cap:Array Value) (w:World),(Instr.makeFunc fn first cap).run Tryz.prog w= .ok (.func fn first cap) w:=λ_ _ _ _=>rfl;obtain⟨w1,hw1⟩:∃w1,w1=(w.alloc (.cells #[.slice aa p.arrays.length ac, .slice fa p.funcs.length fc] 27)).alloc (.cells #[S x] 9):=⟨_,rfl⟩;have hb1:Below w w w1:=by rw[hw1];exact(cm w _).alloc aH _
 have hR:Row w1 w 27 [.slice aa p.arrays.length ac, .slice fa p.funcs.length fc]:=by rw[hw1];exact dV _ _ hn0
 have hM:Row w1 (w,1) 9 [S x]:=by rw[hw1];exact jF aH
 have dO:(w.alloc (.cells #[.slice aa p.arrays.length ac, .slice fa p.funcs.length fc] 27)).alloc (.cells #[S x] 9)=w1:=hw1.symm;have c1:=hR.k1;have Av:aP B 4 (λW C (f:LF)=>RF B W C f/\Row W (w,1) 9 [S x]) w1 (.slice fa p.funcs.length fc) p.funcs:=(hx.below hb1).funcs.weak (λ_ h=>h) (λC x h=>⟨h,hM⟩);have dN:qE abB (λW C (f:LF)=>RF B W C f/\Row W (w,1) 9 [S x]) w1 81 #[.pointer (some (w,1,0))] (λf=>decide (f.name=x)) p.funcs:=
  ⟨enters_of Tryz.func81 aL rfl,λf hf W' C hb hr=>by
   have:=ago f.name x (C 1) (C 2) (C 3) _ W' hr.2;rw[<-hr.1.1]at this;exact this⟩
 have gw:=aF (agm w1 _ p.funcs Av (λW W' C f hb h=>⟨h.1.grown (bX hb none) aJ,h.2.ext hb⟩) 81 _ _ dN);have aI:=aF hb1;clear hx dN Av hM hR hb1 hw1;go_enter Tryz.func48,Tryz.ntmps48;go_wp2_with (go_at_call 80;refine aN gw λw4 hb4=> ?_;have aR:=aU aI hb4)
 go_ret;exact⟨rfl,aR⟩
theorem YI (p:LP) (x:aK) (av fv:Value) (w:World) (B:Nat->Prop) (hx:PX B w av fv p):
  CR 184 #[.agg #[av,fv],S x] w (I (lK p x)):=by
 obtain⟨aa,ac,fa,fc,rfl,rfl⟩:=hx.slice;have s9:∀(fn:Fn) (first cap:Array Value) (w:World),(Instr.makeFunc fn first cap).run Tryz.prog w= .ok (.func fn first cap) w:=λ_ _ _ _=>rfl;obtain⟨w1,hw1⟩:∃w1,w1=(w.alloc (.cells #[.slice aa p.arrays.length ac, .slice fa p.funcs.length fc] 27)).alloc (.cells #[S x] 9):=⟨_,rfl⟩;have hb1:Below w w w1:=by rw[hw1];exact(cm w _).alloc aH _
 have hR:Row w1 w 27 [.slice aa p.arrays.length ac, .slice fa p.funcs.length fc]:=by rw[hw1];exact dV _ _ hn0
 have hM:Row w1 (w,1) 9 [S x]:=by rw[hw1];exact jF aH
 have dO:(w.alloc (.cells #[.slice aa p.arrays.length ac, .slice fa p.funcs.length fc] 27)).alloc (.cells #[S x] 9)=w1:=hw1.symm;have c1:=hR.cell 0;simp only[af]at c1;have Av:aP B 2 (λW C (f:LA)=>wO W C f/\Row W (w,1) 9 [S x]) w1 (.slice aa p.arrays.length ac) p.arrays:=(hx.below hb1).arrays.weak (λ_ h=>h) (λC x h=>⟨h,hM⟩);have dN:qE abC (λW C (f:LA)=>wO W C f/\Row W (w,1) 9 [S x]) w1 217 #[.pointer (some (w,1,0))] (λa=>decide (a.name=x)) p.arrays:=
  ⟨enters_of Tryz.func217 aL rfl,λf hf W' C hb hr=>by
   have:=agp f.name x (C 1) _ W' hr.2;rw[<-hr.1.1]at this;exact this⟩
 have gw:=aF (agn w1 _ p.arrays Av (λW W' C f hb h=>⟨h.1,h.2.ext hb⟩) 217 _ _ dN);have aI:=aF hb1;clear hx dN Av hM hR hb1 hw1;go_enter Tryz.func184,Tryz.ntmps184;go_wp2_with (go_at_call 216;refine aN gw λw4 hb4=> ?_;have aR:=aU aI hb4)
 go_ret;exact⟨rfl,aR⟩
theorem afi {B:Nat->Prop} (w:World) (v:Value) (l:List aK) (x:aK) (hv:aP B 1 dc w v l):
  Calls Tryz.prog 126 #[v,S x] w λe w'=>e= .returned (I (ny (λy=>decide (y=x)) l))/\w'=w:=by
 obtain⟨a0,c0,rfl,hlen, -⟩:=id hv;have HV:=aF hv;clear hv;go_enter Tryz.func126,Tryz.ntmps126;go_wp2;go_loopg [8] l.length (λgh i wr=>∃k:Nat,gh+k=l.length/\i=I k/\Hid (wr=w/\∀j,(hj:j<l.length)->j<k->l[j]≠x))
 case atStart=>exact⟨0,rfl,rfl,aF ⟨rfl,λj hj h=>absurd h aG⟩⟩
 case round=>
  obtain⟨k,hg,rfl,HH⟩:=hrel;obtain rfl:=HH.out.1;by_cases hlt:k<l.length
  ·have bT:(k:Int)<(l.length:Int):=aG;obtain⟨b,o,C,rfl,_,hC,hrx⟩:=HV.at hlt;have e0:=hC 0 aG;have yQ:C 0=S l[k]:=hrx;rw[yQ]at e0;simp only[aA,Nat.mul_one]at e0;have⟨y,hy⟩:=xq (l[k]);rw[<-hy]at e0;have HY:=aF hy;clear hC hrx yQ hy;by_cases hxy:x=y
   ·have pM:(x==y)=true:=by rw[hxy];exact beq_self_eq_true _
    have rO:=aF hxy;clear hxy;go_wp2;go_ret;refine⟨?_,rfl⟩;rw[BX hlt (λj hj=>by simp only[decide_eq_false_iff_not];exact HH.out.2 j aG hj) (by simp only[decide_eq_true_eq];rw[<-HY.out];exact rO.out.symm)];rfl
   ·have pM:(x==y)=false:=bu hxy;have rO:=aF hxy;clear hxy;go_wp2;go_roundg (l.length - (k+1))
    case measure=>omega
    case rel=>
     refine⟨k+1,aG,by go_num,aF ⟨rfl,λj hj hjk=> ?_⟩⟩;by_cases wI:j=k
     ·subst wI;rw[<-HY.out];exact λh=>rO.out h.symm
     ·exact HH.out.2 j hj aG
  ·have bT: ¬(k:Int)<(l.length:Int):=aG;go_wp2;go_ret;exact⟨by rw[BU (λj hj=>by simp only[decide_eq_false_iff_not];exact HH.out.2 j hj aG)];rfl,rfl⟩
theorem Jw {α:Type} (t:α->Bool) (l:List α):0<=ny t l↔∃x∈l,t x=true:=by
 unfold ny;constructor
 ·intro h;split at h
  ·next hlt=>exact⟨_,ak hlt,List.findIdx_getElem (w:=hlt)⟩
  ·omega
 ·rintro⟨x,hx,ht⟩;rw[if_pos (List.findIdx_lt_length_of_exists ⟨x,hx,ht⟩)];omega
theorem W9 {B:Nat->Prop} (w:World) (v:Value) (l:List aK) (x:aK) (hv:aP B 1 dc w v l):
  Calls Tryz.prog 89 #[v,S x] w λe w'=>e= .returned (.bool (decide (x∈l)))/\w'=w:=by
 have HI:=aF (afi w v l x hv);have⟨q,hq⟩:=xq (ny (λy=>decide (y=x)) l);rw[<-hq]at HI;have hz:decide (0<=q)=decide (x∈l):=by
  rw[hq,decide_eq_decide,Jw];simp
 obtain⟨a0,c0,rfl,hlen, -⟩:=hv;have HZ:=aF hz;clear hq hz;go_enter Tryz.func89,Tryz.ntmps89;go_wp2_with (go_at_call 126;refine HI.mono ?_;rintro e' w1⟨rfl,rfl⟩)
 go_ret;rw[<-HZ.out];exact⟨rfl,rfl⟩
def pQ (b:Bool) (x:Int):Int:=if b then 0 else x
theorem Hq (b:Bool) (x:Int) (w:World):Calls Tryz.prog 129 #[.bool b,I x] w λe w'=>e= .returned (I (pQ b x))/\w'=w:=by
 cases b
 ·go_enter Tryz.func129,Tryz.ntmps129;go_wp2;go_ret;exact⟨rfl,rfl⟩
 ·go_enter Tryz.func129,Tryz.ntmps129;go_wp2;go_ret;exact⟨rfl,rfl⟩
def CK (B:Nat->Prop) (w:World) (cb:Nat) (p:LP) (vs:List aK):Prop:=∃av fv vv,Row w cb 139 [av,fv,vv]/\PX B w av fv p/\aP B 1 dc w vv vs
theorem CK.below {B:Nat->Prop} {w w':World} {cb:Nat} {p:LP} {vs:List aK} (h:CK B w cb p vs) (hb:Below w w w'):CK B w' cb p vs:=by
 obtain⟨av,fv,vv,h1,h2,h3⟩:=h;exact⟨av,fv,vv,h1.ext hb,h2.below hb,h3.below hb λ_ _ h=>h⟩
theorem Yu (B:Nat->Prop) (w:World) (cb:Nat) (p:LP) (vs:List aK) (x:aK) (h:CK B w cb p vs):
  Calls Tryz.prog 130 #[.pointer (some (cb,0)),S x] w λe w'=>e= .returned (.bool (decide (x∈vs)))/\w'=w:=by
 obtain⟨av,fv,vv,h1,h2,h3⟩:=h;have c2:=h1.k2;have HC:=aF (W9 w vv vs x h3);obtain⟨a0,c0,rfl, -⟩:=h3;obtain⟨aa,ac,fa,fc,rfl,rfl⟩:=h2.slice;clear h1 h2;go_enter Tryz.func130,Tryz.ntmps130;go_wp2_with (go_at_call 89;refine HC.mono ?_;rintro e' w1⟨rfl,rfl⟩)
 go_ret;exact⟨rfl,rfl⟩
theorem X0 (B:Nat->Prop) (w:World) (cb:Nat) (p:LP) (vs:List aK) (x:aK) (h:CK B w cb p vs):
  CR 131 #[.pointer (some (cb,0)),S x] w (.bool (decide (0<=lK p x))):=by
 obtain⟨av,fv,vv,h1,h2,h3⟩:=h;have c0:=h1.k0;have c1:=h1.k1;have HC:=aF (YI p x av fv w B h2);obtain⟨aa,ac,fa,fc,rfl,rfl⟩:=h2.slice;clear h1 h2 h3;go_enter Tryz.func131,Tryz.ntmps131;go_wp2_with (go_at_call 184;refine aN HC λw1 HB=> ?_)
 go_ret;exact⟨rfl,HB⟩
def qJ (p:LP) (k:Int):LF:=p.funcs.getD k.toNat ⟨[],[],[],[]⟩
def qK (p:LP) (vs:List aK) (e:LE):Int:=
 if e.kind=2 then pQ (decide (e.name∈vs)) 51
 else if e.kind=6 then pQ (decide (0<=lK p e.name)) 51
 else if e.kind=5 then if ji p e.name<0 then 51 else pQ (decide ((qJ p (ji p e.name)).params.length=e.args.length)) 52
 else 0
theorem Yt {w wd:World} (hh:wd.heap=w.heap) (a:Addr):wd.cell? a=w.cell? a:=by
 unfold World.cell?;rw[hh]
theorem bY{w wd:World} {a:Addr} {x:Option Value} (hh:wd.heap=w.heap) (h:w.cell? a=x):wd.cell? a=x:=(Yt hh a).trans h
theorem A3 {α:Type} {t:α->Bool} {l:List α} (h: ¬ny t l<0):∃k,ny t l=(k:Nat)/\k<l.length:=by
 unfold ny at*;split at h
 ·next hlt=>exact⟨_,by rw[if_pos hlt],hlt⟩
 ·omega
theorem ah5 (B:Nat->Prop) (w:World) (cb:Nat) (p:LP) (vs:List aK) (e:LE) (av:Value) (h:CK B w cb p vs) (hx:∃a c,av= .slice a e.args.length c):
  CR 185 #[.pointer (some ⟨cb,0,none⟩),eV e av] w (I (qK p vs e)):=by
 obtain⟨aa,ac,rfl⟩:=hx;obtain⟨k,op,n,nm,args⟩:=e;simp only[LE.args];have⟨al,hal⟩:=xq args.length;show Calls Tryz.prog 185 #[.pointer (some ⟨cb,0,none⟩), .agg #[I k,I op,I n,S nm, .slice aa args.length ac]] w _;have hb1:=cm w (.cells #[I k,I op,I n,S nm, .slice aa args.length ac] 31);have aI:=aF hb1;have HC:=aF (h.below hb1);have HR:=aF (show Row (w.alloc (.cells #[I k,I op,I n,S nm, .slice aa args.length ac] 31)) w 31 [I k,I op,I n,S nm, .slice aa args.length ac]from cj _ _);have cU:=aF h;clear h hb1;by_cases h2:k=2
 ·subst h2;have HK:=aF (Yu B _ cb p vs nm HC.out);have hv:qK p vs (.mk 2 op n nm args)=pQ (decide (nm∈vs)) 51:=rfl;rw[hv];clear hv;have⟨q,hq⟩:=xq (decide (nm∈vs));rw[<-hq]at HK|-;clear hq;go_enter Tryz.func185,Tryz.ntmps185;go_wp2_with (first|(go_at_call 130;refine HK.mono ?_;rintro e' w1⟨rfl,rfl⟩)|(go_at_call 129;refine(Hq q 51 _).mono ?_;rintro e' w2⟨rfl,rfl⟩))
  go_ret;exact⟨rfl,aI.out⟩
 by_cases h6:k=6
 ·subst h6;have HK:=aF (X0 B _ cb p vs nm HC.out);have hv:qK p vs (.mk 6 op n nm args)=pQ (decide (0<=lK p nm)) 51:=rfl;rw[hv];clear hv h2;have⟨q,hq⟩:=xq (decide (0<=lK p nm));rw[<-hq]at HK|-;clear hq;go_enter Tryz.func185,Tryz.ntmps185;go_wp2_with (first|(go_at_call 131;refine aN HK λw1 hb1=> ?_;have aM:=aF (aI.out.trans (hb1.mono aH)))|(go_at_call 129;refine(Hq q 51 _).mono ?_;rintro e' w2⟨rfl,rfl⟩))
  go_ret;exact⟨rfl,aM.out⟩
 by_cases h5:k=5
 ·subst h5;clear h2 h6
  skip
  obtain⟨pa,pf,vv,hr1,hpx,hvv⟩:=cU.out;have hpl:=hr1.lt;have bC:=aF (hr1.ext aI.out);have c0:=bC.k0;have c1:=bC.k1;have d3:=HR.k3;have HX:=aF (hpx.below aI.out);have HP:=aF (λW hh=>Dy p nm pa pf W B hh);obtain⟨paa,pac,pfa,pfc,rfl,rfl⟩:=hpx.slice;have⟨q,hq⟩:=xq (ji p nm);have HQ:=aF hq;have hv:qK p vs (.mk 5 op n nm args)=if q<0 then 51 else pQ (decide ((qJ p q).params.length=args.length)) 52:=by rw[hq];rfl
  rw[<-hq]at HP;rw[hv];clear hv hq hr1 hpx hvv;go_enter Tryz.func185,Tryz.ntmps185;have⟨w0,hw0⟩:=xq (w.alloc (.cells #[I 5,I op,I n,S nm, .slice aa args.length ac] 31));go_upto_region 7 with(fail)
  rw[<-hw0]at aI HR bC HX c0 c1 d3|-;refine cC (λW=>W.cell? ⟨cb,0,none⟩=some (.slice paa p.arrays.length pac)/\W.cell? ⟨cb,1,none⟩=some (.slice pfa p.funcs.length pfc)/\W.cell? ⟨w.heap.size,3,none⟩=some (S nm)) [0,0,0,0,0,0,1,0] ?hS ?_
  case hS=>intro wd hh;have h9:Row wd w 31 [I 5,I op,I n,S nm, .slice aa args.length ac]:=(congrArg (·[w.heap.size]?) hh).trans HR.out;exact⟨aO bC.out hh 0,aO bC.out hh 1,h9.cell 3⟩
  intro wd hh hgd hS;have bE:=aF (aI.grown hgd (by rw[hw0];simp) aJ);have bN:=aF (HX.grown hgd aJ);have dz:=bI HR hgd;have aj6:=bI bC hgd;clear hh hgd c0 c1 d3;refine dS ?_;go_wp2_with (go_at_call 48;refine aN (HP _ bN.out) λw1 hb1=> ?_;have aM:=aU bE hb1;have hr2:=aj6.ext hb1;have cB:=aF hr2;have iW:=dz.ext hb1;have lS:=aF iW;have aY:=aF (bN.below hb1);clear hS hr2 iW)
  refine bw ⟨cB.cell 0,cB.cell 1,lS.cell 3⟩ λhS=> ?_;refine dP ?_;clear hS;by_cases hq:q<0
  ·go_wp2;go_ret;exact⟨rfl,aM.out⟩
  ·obtain⟨j,hj,hjl⟩:=A3 (by rw[HQ.out]at hq;exact hq);have hqj:q=(j:Int):=by rw[HQ.out];exact hj
   have hfn:qJ p q=p.funcs[j]:=by rw[hqj,qJ,Int.toNat_natCast,List.getD_eq_getElem?_getD,ah hjl];rfl
   obtain⟨b,o,C,rfl,_,hC,hrx⟩:=aY.funcs.at hjl;obtain⟨IL,IM,qx, -⟩:=hrx.2.1;have e1:=hC 1 aG;rw[qx]at e1;have⟨pn,jx⟩:=xq (p.funcs[j].params.length);rw[<-jx]at e1;subst hqj;have eT:=aF hfn;have vh:=aF jx;clear hC hrx qx jx hfn hj HQ HP hq;have Mi: ¬(j:Int)<0:=aG;have hjf:(j:Int)<(p.funcs.length:Int):=aG;go_upto_region 10 with(fail)
   refine cC (λW=>W.cell? ⟨cb,1,none⟩=some (.slice (some ⟨b,o,none⟩) p.funcs.length pfc)/\W.cell? ⟨b,o+j*4+1,none⟩=some (.slice IL pn IM)/\W.cell? ⟨w.heap.size,4,none⟩=some (.slice aa args.length ac)) [0,0,0,0,0,0,0,0,0,0,0,0,0,0,1,0] (λwd hh=>⟨aO cB.out hh 1,bY hh e1,aO lS.out hh 4⟩) λwd hh hgd hS=> ?_;have aW:=dF aM hgd;have UQ:=aF hS;clear hh hgd e1;have⟨fq,hfq⟩:=xq (decide (pn=args.length));have HFQ:=aF hfq;clear hfq;refine dS ?_;go_wp2_with (go_at_call 129;refine(Hq _ 52 _).mono ?_;rintro e' w2⟨rfl,rfl⟩)
   refine bw UQ.out λhS=> ?_;refine dP ?_;go_wp2;go_ret;refine⟨?_,aW.out⟩;have UR:decide (pn=args.length)=((pn:Int)==(args.length:Int)):=by
    by_cases h:pn=args.length
    ·simp [h]
    ·have h2:((pn:Int)==(args.length:Int))=false:=bD;simp [h,h2]
   rw[eT.out,<-vh.out,UR];rfl
 ·have hv:qK p vs (.mk k op n nm args)=0:=by simp [qK,LE.kind,h2,h5,h6]
  rw[hv];clear hv;have e2:(k==2)=false:=bu h2;have e5:(k==5)=false:=bu h5;have e6:(k==6)=false:=bu h6;go_enter Tryz.func185,Tryz.ntmps185;go_wp2;go_ret;exact⟨rfl,aI.out⟩
def jt {α:Type} (f:α->Int):List α->Int
 | []=>0
 |x::l=>if f x=0 then jt f l else f x
theorem xJ {α:Type} {f:α->Int}:∀{l:List α} {k:Nat} (hk:k<l.length) (_:∀j,(hj:j<k)->f (l[j]' aG)=0) (_:f l[k]≠0),jt f l=f l[k]
 |x::l,0,hk,h,ht=>by simp only[List.getElem_cons_zero]at ht;rw[jt,if_neg ht];rfl
 |x::l,k+1,hk,h,ht=>by
  have h0:=h 0 aG
  simp only[List.getElem_cons_zero]at h0
  rw[jt,if_pos h0]
  exact xJ (k:=k) (by simpa using hk) (λj hj=>by have:=h (j+1) aG;simpa using this) (by simpa using ht)
theorem xH {α:Type} {f:α->Int}:∀{l:List α} (_:∀j,(hj:j<l.length)->f l[j]=0),jt f l=0
 | [],_=>rfl
 |x::l,h=>by
  have h0:=h 0 aH
  simp only[List.getElem_cons_zero]at h0
  rw[jt,if_pos h0]
  exact xH λj hj=>by have:=h (j+1) (by simpa using hj);simpa using this
theorem afw {α:Type} {f:α->Int} {l:List α} (h:∀x∈l,f x=0):jt f l=0:=xH λ_j hj=>h _ (ak hj)
mutual
def kL (p:LP) (vs:List aK):LE->Int
 | .mk k o n s l=>if qK p vs (.mk k o n s l)=0 then ud p vs l else qK p vs (.mk k o n s l)
def ud (p:LP) (vs:List aK):List LE->Int
 | []=>0
 |x::l=>if kL p vs x=0 then ud p vs l else kL p vs x
end
theorem JN (p:LP) (vs:List aK) (e:LE):kL p vs e=if qK p vs e=0 then ud p vs e.args else qK p vs e:=by
 cases e;rw[kL];rfl
theorem E0 (p:LP) (vs:List aK):∀l:List LE,ud p vs l=jt (kL p vs) l
 | []=>by rw[ud];rfl
 |x::l=>by rw[ud,jt,E0 p vs l]
abbrev eBz (e:LE) (av:Value):Array Value:= #[I e.kind,I e.op,I e.n,S e.name,av]
theorem agQ:∀(d:Nat) (B:Nat->Prop) (w:World) (cb:Nat) (p:LP) (vs:List aK) (l:List LE) (v:Value) (_:CK B w cb p vs) (_:aP B 5 (RE d B) w v l),
  CR 132 #[.pointer (some (cb,0)),v] w (I (ud p vs l)):=by
 intro d
 induction d with
 |zero=>
  intro B w cb p vs l v _ hx;have hl:l= []:=by
   obtain⟨a,c,rfl,_,h|⟨b,o,_,_,h⟩⟩:=hx
   ·exact h
   ·cases l with
    |nil=>rfl
    |cons x l=>obtain⟨C,_,h⟩:=h 0 x rfl;exact h.elim
  subst hl;obtain⟨a,c,rfl, -⟩:=hx;go_enter Tryz.func132,Tryz.ntmps132;go_upto_region 2 with(fail)
  go_loopg [11] 0 (λgh i wr=>i=I 0/\wr=w)
  case atStart=>exact⟨rfl,rfl⟩
  case round=>
   obtain⟨rfl,rfl⟩:=hrel;go_wp2;go_ret;exact⟨by rw[ud];rfl,Below.refl _ _⟩
 |succ d ih=>
  intro B w cb p vs l v h hx;obtain⟨a0,c0,rfl,hlen, -⟩:=id hx;have HX:=aF hx;have HC:=aF h;have HI:=aF ih;clear hx h ih;go_enter Tryz.func132,Tryz.ntmps132;go_upto_region 2 with(fail)
  go_loopg [11] l.length (λgh i wr=>∃k:Nat,gh+k=l.length/\i=I k/\Hid (Below w w wr/\∀j,(hj:j<l.length)->j<k->kL p vs l[j]=0))
  case atStart=>exact⟨0,rfl,rfl,aF ⟨Below.refl _ _,λj hj h=>absurd h aG⟩⟩
  case round=>
   obtain⟨k,hg,rfl,HH⟩:=hrel;obtain⟨wo,rfl⟩:=xq wr;have HB:=aF HH.out.1;by_cases hlt:k<l.length
   ·have bT:(k:Int)<(l.length:Int):=aG;obtain⟨b,o,C,rfl,_,hC,hrx⟩:=(HX.below HB (λC x h=>RE.grown (d+1) (aT HB) aJ h)).at hlt;have⟨x,hx⟩:=xq (l[k]);rw[<-hx]at hrx;obtain⟨h0,h1,h2,h3,h4⟩:=hrx;obtain⟨xa,xc,hxv, -⟩:=id h4;have e0:=hC 0 aG;have e1:=hC 1 aG;have e2:=hC 2 aG;have e3:=hC 3 aG;have e4:=hC 4 aG;rw[h0]at e0;rw[h1]at e1;rw[h2]at e2;rw[h3]at e3;rw[hxv]at e4 h4;simp only[aA]at e0 e1 e2 e3 e4;have vp:=aF h4;have yb:=aF (HC.below HB);have HO:=aF (λW (hh:CK B W cb p vs)=>ah5 B W cb p vs x (.slice xa x.args.length xc) hh ⟨_,_,rfl⟩);have HS:=aF (λW (hh:CK B W cb p vs) (hr:aP B 5 (RE d B) W (.slice xa x.args.length xc) x.args)=>HI.out B W cb p vs x.args _ hh hr);have⟨q1,hq1⟩:=xq (qK p vs x);have⟨q2,hq2⟩:=xq (ud p vs x.args);have HQ:=aF (show kL p vs l[k]=if q1=0 then q2 else q1 by rw[<-hx,JN,hq1,hq2]);rw[<-hq1]at HO;rw[<-hq2]at HS;clear hC h0 h1 h2 h3 h4 hxv hx hq1 hq2;go_upto_region 4 with(refine sr 31 (.tmp 6) (.tmp 14) wo eZ hn0 ?_)
    obtain⟨w3,hw3⟩:∃w3,w3=(wo.alloc (.cells eZ 31)).setRow wo #[I x.kind,I x.op,I x.n,S x.name, .slice xa x.args.length xc]:=⟨_,rfl⟩;have aW:=aF (show Below wo wo w3 by rw[hw3];exact(cm wo _).grown bJ aH bh);have hx3:Row w3 wo 31 [I x.kind,I x.op,I x.n,S x.name, .slice xa x.args.length xc]:=by rw[hw3];exact setRow_heap _ _ _ _ _ _ hn0
    rw[<-hw3];have c0:=hx3.k0;have c1:=hx3.k1;have c2:=hx3.k2;have c3:=hx3.k3;have c4:=hx3.k4;have bq:=aF hx3;clear hw3 hx3 e0 e1 e2 e3 e4;go_upto_region 5 with(go_at_call 185;refine aN (HO _ (yb.below aW)) λw4 hb4=> ?_;have aR:=aU aW hb4;have fh:=bq.ext hb4)
    clear c0 c1 c2 c3 c4;have c4:=fh.k4;clear fh;by_cases hz1:q1=0
    ·have gV:(q1 !=0)=false:=by rw[hz1];rfl
     have p9:=aF hz1;clear hz1;go_upto_region 8 with(go_at_call 132;refine aN (HS _ (yb.below aR) (vp.grown (aT aR) aJ (λ_ _ h=>RE.grown d (aT aR) aJ h))) λw5 bz=> ?_;have bW:=aU aR bz)
     by_cases hz2:q2=0
     ·have eD:(q2 !=0)=false:=by rw[hz2];rfl
      have Em:=aF hz2;clear hz2;go_wp2;go_roundg (l.length - (k+1))
      case measure=>omega
      case rel=>
       refine⟨k+1,aG,by go_num,aF ⟨HB.out.trans (bW.mono HB.size),λj hj hjk=> ?_⟩⟩;by_cases wI:j=k
       ·subst wI;rw[HQ.out,if_pos p9.out];exact Em.out
       ·exact HH.out.2 j hj aG
     ·have eD:(q2 !=0)=true:=by rw[bne_iff_ne];exact hz2
      have Em:=aF hz2;clear hz2;go_wp2;go_ret;refine⟨?_,HB.out.trans (bW.mono HB.size)⟩;rw[E0,xJ hlt (λj hj=>HH.out.2 j aG hj) (by rw[HQ.out,if_pos p9.out];exact Em.out),HQ,if_pos p9.out];rfl
    ·have gV:(q1 !=0)=true:=by rw[bne_iff_ne];exact hz1
     have p9:=aF hz1;clear hz1;go_wp2;go_ret;refine⟨?_,HB.out.trans (aR.mono HB.size)⟩;rw[E0,xJ hlt (λj hj=>HH.out.2 j aG hj) (by rw[HQ.out,if_neg p9.out];exact p9.out),HQ,if_neg p9.out];rfl
   ·have bT: ¬(k:Int)<(l.length:Int):=aG;go_wp2;go_ret;refine⟨?_,HB⟩;rw[E0,xH (λj hj=>HH.out.2 j hj aG)];rfl
theorem ahc (B:Nat->Prop) (w:World) (cb:Nat) (p:LP) (vs:List aK) (l:List LE) (v:Value) (h:CK B w cb p vs) (hx:AX B w v l):
  CR 132 #[.pointer (some (cb,0)),v] w (I (ud p vs l)):=by
 obtain⟨d,hd⟩:=hx;exact agQ d B w cb p vs l v h hd
def qi (p:LP) (vs:List aK) (loop:Bool) (s:LS):Int:=
 if s.kind=5\/s.kind=6 then pQ loop 53
 else if s.kind=1 then pQ (decide (s.name∈vs)) 51
 else if s.kind=2 then pQ (decide (0<=lK p s.name)) 51
 else 0
def oO (p:LP) (vs:List aK) (loop:Bool) (s:LS):Int:=if qi p vs loop s=0 then ud p vs s.args else qi p vs loop s
theorem Ht {p:LP} {vs:List aK} {loop:Bool} {s:LS} (h:qi p vs loop s=0):oO p vs loop s=ud p vs s.args:=by unfold oO;rw[if_pos h]
theorem JY {p:LP} {vs:List aK} {loop:Bool} {s:LS} {q:Int} (h:qi p vs loop s=q) (hq:q≠0):oO p vs loop s=q:=by unfold oO;rw[h,if_neg hq]
theorem ag4 (B:Nat->Prop) (w:World) (cb:Nat) (p:LP) (vs:List aK) (loop:Bool) (s:LS) (av tv ev:Value) (h:CK B w cb p vs) (ha:AX B w av s.args):
  CR 91 #[.pointer (some ⟨cb,0,none⟩),sV s av tv ev, .bool loop] w (I (oO p vs loop s)):=by
 obtain⟨aa,ac,rfl⟩:=ha.slice;obtain⟨al,hal⟩:∃n,n=(LE.mk 0 0 0 [] s.args).args.length:=⟨_,rfl⟩;rw[<-hal]at ha|-;have⟨k,hk⟩:=xq s.kind;have⟨nm,cJ⟩:=xq s.name;show Calls Tryz.prog 91 #[.pointer (some ⟨cb,0,none⟩), .agg #[I s.kind,S s.name, .slice aa al ac,tv,ev], .bool loop] w _;rw[<-hk,<-cJ];have hb1:=cm w (.cells #[I k,S nm, .slice aa al ac,tv,ev] 54);have hr:=(show Row (w.alloc (.cells #[I k,S nm, .slice aa al ac,tv,ev] 54)) w 54 [I k,S nm, .slice aa al ac,tv,ev]from cj _ _);have⟨w0,hw0⟩:=xq (w.alloc (.cells #[I k,S nm, .slice aa al ac,tv,ev] 54));have dO:=hw0.symm;rw[<-hw0]at hr hb1;have aI:=aF hb1;have HC:=aF (h.below hb1);have HA:=aF (EX.grown ha (bX hb1 none) aJ);have HR:=aF hr;have⟨q,hq⟩:=xq (ud p vs s.args);have eA:=aF (λW (hh:Below w0 w0 W)=>ahc B W cb p vs s.args (.slice aa al ac) (HC.below hh) (EX.grown HA.out (bX hh none) aJ));rw[<-hq]at eA;have HQ:=aF hq;have HK:=aF hk;have HN:=aF cJ;have c0:=hr.k0;have c1:=hr.k1;have c2:=hr.k2;clear h ha hb1 hw0 hr hq hk cJ hal;by_cases h5:k=5\/k=6
 ·have⟨q1,hq1⟩:=xq (pQ loop 53);have HV:=aF (show qi p vs loop s=q1 by unfold qi;rw[if_pos (by rw[<-HK.out];exact h5),hq1]);have HF:=aF (λW=>Hq loop 53 W);rw[<-hq1]at HF;clear hq1;rcases h5 with rfl|rfl
  all_goals
   have nt:=aF (Below.refl w0 w0);go_enter Tryz.func91,Tryz.ntmps91;go_upto_region 10 with(go_at_call 129;refine(HF _).mono ?_;rintro e' w2⟨rfl,rfl⟩)
   by_cases hz:q1=0
   ·have hn:(q1 !=0)=false:=by rw[hz];rfl
    have HZ:=aF hz;clear hz;go_wp2_with (go_at_call 132;refine aN (eA _ nt.out) λw5 bz=> ?_;have bW:=aF ((aI.out.trans (nt.mono aI.size)).trans (bz.mono (az aI.size nt.size))))
    go_ret;refine⟨?_,bW.out⟩;rw[Ht (by rw[HV.out,HZ.out]),<-HQ.out];rfl
   ·have hn:(q1 !=0)=true:=by rw[bne_iff_ne];exact hz
    have HZ:=aF hz;clear hz;go_wp2;go_ret;refine⟨?_,aI.out.trans (nt.mono aI.size)⟩;rw[JY HV.out HZ.out];rfl
 have n5:(k==5)=false:=bu (λh=>h5 (.inl h));have n6:(k==6)=false:=bu (λh=>h5 (.inr h));have H5:=aF h5;clear h5;by_cases h1:k=1
 ·have⟨q1,hq1⟩:=xq (pQ (decide (nm∈vs)) 51);have HV:=aF (show qi p vs loop s=q1 by unfold qi;rw[if_neg (by rw[<-HK.out];exact H5.out),if_pos (by rw[<-HK.out];exact h1),hq1,HN.out]);have GX:=aF (Yu B w0 cb p vs nm HC.out);have⟨g,hg⟩:=xq (decide (nm∈vs));rw[<-hg]at GX hq1;have HF:=aF (λW=>Hq g 51 W);rw[<-hq1]at HF;clear hq1 hg
  all_goals
   subst h1;have nt:=aF (Below.refl w0 w0);go_enter Tryz.func91,Tryz.ntmps91;go_upto_region 10 with(first|(go_at_call 130;refine GX.mono ?_;rintro e' w2⟨rfl,rfl⟩)|(go_at_call 129;refine(HF _).mono ?_;rintro e' w2⟨rfl,rfl⟩))
   by_cases hz:q1=0
   ·have hn:(q1 !=0)=false:=by rw[hz];rfl
    have HZ:=aF hz;clear hz;go_wp2_with (go_at_call 132;refine aN (eA _ nt.out) λw5 bz=> ?_;have bW:=aF ((aI.out.trans (nt.mono aI.size)).trans (bz.mono (az aI.size nt.size))))
    go_ret;refine⟨?_,bW.out⟩;rw[Ht (by rw[HV.out,HZ.out]),<-HQ.out];rfl
   ·have hn:(q1 !=0)=true:=by rw[bne_iff_ne];exact hz
    have HZ:=aF hz;clear hz;go_wp2;go_ret;refine⟨?_,aI.out.trans (nt.mono aI.size)⟩;rw[JY HV.out HZ.out];rfl
 have n1:(k==1)=false:=bu h1;have H1:=aF h1;clear h1;by_cases h2:k=2
 ·have⟨q1,hq1⟩:=xq (pQ (decide (0<=lK p nm)) 51);have hv:qi p vs loop s=q1:=by unfold qi;rw[if_neg (by rw[<-HK.out];exact H5.out),if_neg (by rw[<-HK.out];exact H1.out),if_pos (by rw[<-HK.out];exact h2),hq1,HN.out]
  have HV:=aF hv;have GX:=aF (X0 B w0 cb p vs nm HC.out);have⟨g,hg⟩:=xq (decide (0<=lK p nm));rw[<-hg]at GX hq1;have HF:=aF (λW=>Hq g 51 W);rw[<-hq1]at HF;clear hv hq1 hg
  all_goals
   subst h2;go_enter Tryz.func91,Tryz.ntmps91;go_upto_region 10 with(first|(go_at_call 131;refine aN GX λw2 nt=> ?_;have hr2:=HR.ext nt)|(go_at_call 129;refine(HF _).mono ?_;rintro e' w3⟨rfl,rfl⟩))
   clear c0 c1 c2;have c2:=hr2.k2;clear hr2;by_cases hz:q1=0
   ·have hn:(q1 !=0)=false:=by rw[hz];rfl
    have HZ:=aF hz;clear hz;go_wp2_with (go_at_call 132;refine aN (eA _ nt.out) λw5 bz=> ?_;have bW:=aF ((aI.out.trans (nt.mono aI.size)).trans (bz.mono (az aI.size nt.size))))
    go_ret;refine⟨?_,bW.out⟩;rw[Ht (by rw[HV.out,HZ.out]),<-HQ.out];rfl
   ·have hn:(q1 !=0)=true:=by rw[bne_iff_ne];exact hz
    have HZ:=aF hz;clear hz;go_wp2;go_ret;refine⟨?_,aI.out.trans (nt.mono aI.size)⟩;rw[JY HV.out HZ.out];rfl
 have n2:(k==2)=false:=bu h2;have HV:=aF (show qi p vs loop s=0 by unfold qi;rw[if_neg (by rw[<-HK.out];exact H5.out),if_neg (by rw[<-HK.out];exact H1.out),if_neg (by rw[<-HK.out];exact h2)]);clear h2;go_enter Tryz.func91,Tryz.ntmps91;go_wp2_with (go_at_call 132;refine aN (eA _ (Below.refl _ _)) λw5 bz=> ?_;have bW:=aU aI bz)
 go_ret;refine⟨?_,bW.out⟩;rw[Ht HV.out,<-HQ.out];rfl
end
end Go.Proofs.YtjgbkdbkachciaaGreatDoor
