import Derived.Test.YtjgbkdbkachciaaGreatDoorM1
set_option linter.all false
namespace Go.Proofs.YtjgbkdbkachciaaGreatDoor
set_option maxRecDepth 100000
set_option maxHeartbeats 16000000
section
open Go.RowKit Go.Shelf
attribute [local go_sem] Oper.semAt_some
noncomputable def bP (p:Prop):Bool:= @decide p (Classical.propDecidable p)
theorem t_ {p:Prop} (h:p):bP p=true:=by unfold bP;simpa using h
theorem vY {p:Prop} (h: ¬p):bP p=false:=by unfold bP;simpa using h
theorem ow {p:Prop}:bP p=true↔p:=by unfold bP;simp
def aay:Nat->LE->Prop
 |0,_=>True
 |d+1,e=>eH e.name/\∀x∈e.args,aay d x
def kA (e:LE):Prop:=∀d,aay d e
theorem kA.name {e:LE} (h:kA e):eH e.name:=(h 1).1
theorem kA.args {e:LE} (h:kA e):∀x∈e.args,kA x:=λx hx d=>(h (d+1)).2 x hx
def wH:Nat->LE->Prop
 |0,_=>False
 |d+1,e=>∀x∈e.args,wH d x
def nU (e:LE):Prop:=∃d,ij d e
theorem Y0:∀{d d':Nat} (_:d<=d') {e:LE},ij d e->ij d' e
 |0,_,_,_,h=>h.elim
 |d+1,0,hl,_,_=>absurd hl aG
 |d+1,d'+1,hl,_,h=>⟨h.1,λx hx=>Y0 aG (h.2 x hx)⟩
theorem Ny {α:Type} {P:Nat->α->Prop} (hm:∀{a b:Nat},a<=b->∀{x},P a x->P b x):∀(l:List α),(∀x∈l,∃d,P d x)->∃d,∀x∈l,P d x
 | [],_=>⟨0,aJ⟩
 |a::l,h=>by
  obtain⟨d1,h1⟩:=h a List.mem_cons_self
  obtain⟨d2,h2⟩:=Ny hm l λx hx=>h x (List.mem_cons_of_mem _ hx)
  refine⟨max d1 d2,λx hx=> ?_⟩
  rcases List.mem_cons.1 hx with rfl|hx
  ·exact hm (Nat.le_max_left _ _) h1
  ·exact hm (Nat.le_max_right _ _) (h2 x hx)
theorem Hg (e:LE):nU e↔DJ e/\∀x∈e.args,nU x:=by
 constructor
 ·rintro⟨d,h⟩;cases d with
  |zero=>exact h.elim
  |succ d=>exact⟨h.1,λx hx=>⟨d,h.2 x hx⟩⟩
 ·rintro⟨h1,h2⟩;obtain⟨d,hd⟩:=Ny (P:=ij) (λ{a b} hab {x} h=>Y0 hab h) e.args h2;exact⟨d+1,h1,hd⟩
theorem NY:∀(d:Nat) (e:LE),ij d e↔wH d e/\nU e
 |0,e=>⟨λh=>h.elim,λh=>h.1.elim⟩
 |d+1,e=>by
  constructor
  ·intro h
   exact⟨λx hx=>((NY d x).1 (h.2 x hx)).1,d+1,h⟩
  ·rintro⟨h1,h2⟩
   obtain⟨h3,h4⟩:=(Hg e).1 h2
   exact⟨h3,λx hx=>(NY d x).2 ⟨h1 x hx,h4 x hx⟩⟩
theorem N3 {α:Type} {l:List α} {p:α->Prop}:(l.any λx=> !bP (p x))=false↔∀x∈l,p x:=by
 rw[List.any_eq_false];constructor
 ·intro h x hx;have:=h x hx;simp only[Bool.not_eq_true',Bool.not_eq_false]at this;exact ow.1 this
 ·intro h x hx;rw[t_ (h x hx)];simp
def RD (d:Nat):Prop:=∀(x:LE) (B:Nat->Prop) (W:World) (C:Nat->Value),kA x->RE d B W C x->CR 60 #[eV x (C 4)] W (.bool (bP (nU x)))
theorem agT {d:Nat} (ih:RD d) (x:LE) (B:Nat->Prop) (w:World) (C:Nat->Value) (ha:kA x) (hx:RE d B w C x):
  CR 103 #[eV x (C 4)] w (.bool !(bP (nU x))):=by
 have HI:=aF (ih x B _ C ha (hx.grown d (cE w (.cells (eB x (C 4)) 31) none) aJ));have aI:=aF (cm w (.cells (eB x (C 4)) 31));have hz:(w.alloc (.cells (eB x (C 4)) 31)).heap.size=w.heap.size+1:=aH;have⟨b,hb⟩:=xq (bP (nU x));rw[<-hb]at HI|-;clear hx ih ha hb;go_enter Tryz.func103,Tryz.ntmps103;go_wp2_with (go_at_call 60;refine aN HI λw1 hb1=> ?_;have aM:=aF (aI.out.trans (hb1.mono aG)))
 go_ret;exact⟨rfl,aM⟩
theorem YF {d:Nat} (ih:RD d) (e:LE) (ha:kA e) (av:Value) (w:World) (B:Nat->Prop) (hx:aP B 5 (RE d B) w av e.args):CR 60 #[eV e av] w (.bool (bP (nU e))):=by
 have⟨Q,hQ⟩:=xq (bP (nU e));have HQ:=aF hQ;rw[<-hQ];clear hQ;obtain⟨aa,ac,rfl, -⟩:=id hx;have HO:=aF (λW=>aho e ha.name aa ac W);have OC:=agH e ha.name;have⟨R,hR⟩:=xq (kM e);rw[<-hR]at HO OC;clear hR;obtain⟨ro,rn,Mx,ra,rok⟩:=R;simp only[]at HO OC;have⟨ek,ek'⟩:=xq e.kind;have⟨eo,Vn⟩:=xq e.op;have⟨en,en'⟩:=xq e.n;have⟨Jb,Sy⟩:=xq e.name;have⟨el,BB⟩:=xq e.args.length;have mR:∀W,Below w w W->qE sO (RE d B) W 103 #[] (λx=> !(bP (nU x))) e.args:=λW _=>⟨enters_of Tryz.func103 aL rfl,λx hx W' C hb hr=>by
  obtain⟨he, -⟩:=hr.ev;rw[he];exact agT ih x B W' C (ha.args x hx) hr⟩
 have HSY:=aF mR;have HX:=aF hx;have hall:(e.args.any λx=> !(bP (nU x)))=false↔∀x∈e.args,nU x:=N3;obtain⟨tb,kr⟩:∃t,t=(e.args.any λx=> !(bP (nU x))):=⟨_,rfl⟩;have OD:=aF (λW (hb:Below w w W)=>EN W (.slice aa e.args.length ac) e.args (HX.below hb (λC x h=>RE.below hb h)) (λW W' C x hb h=>RE.below hb h) 103 #[] _ (HSY W hb));rw[<-kr]at OD hall;have hfin:Q=(rok&&decide (el=ra)&&decide (ro=eo)&&decide (rn=en)&&decide (Mx=Jb)&& !tb):=by
  rw[HQ.out,Bool.eq_iff_iff,ow,Hg,OC,<-hall,BB,Vn,en',Sy];simp [and_assoc]
 have gi:=aF hfin;show Calls Tryz.prog 60 #[.agg #[I e.kind,I e.op,I e.n,S e.name, .slice aa e.args.length ac]] w _;simp only[eV]at HO;rw[<-ek',<-Vn,<-en',<-Sy,<-BB]at HO|-;rw[<-BB]at OD hx;have bg:=aF (cm w (.cells #[I ek,I eo,I en,S Jb, .slice aa el ac] 31));clear OC hall mR HSY HX HQ hx ha ih ek' Vn en' Sy BB kr hfin;go_enter Tryz.func60,Tryz.ntmps60;go_upto_region 2 with(first|(go_at_call 102;refine aN (HO _) λw1 hb1=> ?_;have bC:=aF (show Row w1 w 31 [I ek,I eo,I en,S Jb, .slice aa el ac]from(hb1.block w aH).trans hn0);have aI:=aF (bg.out.trans (hb1.mono aH)))|(refine sr 31 (.tmp 3) (.tmp 9) w1 eZ hn0 ?_))
 have hzb:=aI.size;have hlb:=bC.lt;obtain⟨w3,hw3⟩:∃w3,w3=(w1.alloc (.cells eZ 31)).setRow w1 #[I ek,I ro,I rn,S Mx, .slice none 0 0]:=⟨_,rfl⟩;have gS:Row w3 w 31 [I ek,I eo,I en,S Jb, .slice aa el ac]:=by rw[hw3];exact(setRow_other _ _ _ _ aG).trans (ho0 bC.out)
 have iT:Row w3 w1 31 [I ek,I ro,I rn,S Mx, .slice none 0 0]:=by rw[hw3];exact setRow_heap _ _ _ _ _ _ hn0
 have aW:=aF (show Below w w w3 by rw[hw3];exact(aI.alloc hzb _).grown bJ ct bh);rw[<-hw3];have b1:=gS.k1;have b2:=gS.k2;have b3:=gS.k3;have b4:=gS.k4;have x1:=iT.k1;have x2:=iT.k2;have x3:=iT.k3;have gw:=aF (OD w3 aW);clear hw3 gS iT OD;have hfin:=gi.out;cases rok
 ·obtain rfl:Q=false:=by simpa using hfin
  clear hfin;go_wp2;go_ret;exact⟨rfl,aW⟩
 by_cases h1:el=ra
 case neg=>
  obtain rfl:Q=false:=by simpa [h1]using hfin
  have h1':((el:Int)==(ra:Int))=false:=bD;clear hfin h1;go_wp2;go_ret;exact⟨rfl,aW⟩
 subst h1;by_cases h2:ro=eo
 case neg=>
  obtain rfl:Q=false:=by simpa [h2]using hfin
  have h1':(ro==eo)=false:=bu h2;clear hfin h2;go_wp2;go_ret;exact⟨rfl,aW⟩
 subst h2;by_cases h3:rn=en
 case neg=>
  obtain rfl:Q=false:=by simpa [h3]using hfin
  have h1':(rn==en)=false:=bu h3;clear hfin h3;go_wp2;go_ret;exact⟨rfl,aW⟩
 subst h3;by_cases h4:Mx=Jb
 case neg=>
  obtain rfl:Q=false:=by simpa [h4]using hfin
  have h1':(Mx==Jb)=false:=bu h4;clear hfin h4;go_wp2;go_ret;exact⟨rfl,aW⟩
 subst h4;obtain rfl:Q= !tb:=by simpa using hfin
 clear hfin;go_wp2_with (go_at_call 100;refine aN gw λw4 hb4=> ?_;have aR:=aU aW hb4)
 go_ret;exact⟨rfl,aR⟩
theorem Zp:∀d,RD d
 |0=>λx B W C ha hr=>hr.elim
 |d+1=>λx B W C ha hr=>YF (Zp d) x ha (C 4) W B hr.2.2.2.2
theorem ahA (e:LE) (ha:kA e) (av:Value) (w:World) (B:Nat->Prop) (hx:EX B w av e):CR 60 #[eV e av] w (.bool (bP (nU e))):=by
 obtain⟨d,hx⟩:=hx;exact YF (Zp d) e ha av w B hx
theorem agS (e:LE) (av:Value) (b:Bool) (most:Int) (hm:1<=most/\most<=1000) (p:Nat) (w:World) (B:Nat->Prop) (hx:EX B w av e) (hr:Row w p 3 [I most]) (ih:∀W,EX B W av e->CR 59 #[eV e av,I (most - 1)] W (.bool b)):
  CR 101 #[eV e av, .pointer (some (p,0))] w (.bool !b):=by
 have HI:=aF (ih _ (hx.alloc (o:= .cells (eB e av) 31)));have aI:=aF (cm w (.cells (eB e av) 31));have hr1:=hr.ext (cm w (.cells (eB e av) 31));have c0:=hr1.cell 0;simp only[af]at c0;obtain⟨sU,hm2⟩:=hm;clear hx ih hr hr1;go_enter Tryz.func101,Tryz.ntmps101;go_wp2_with (go_at_call 59;refine aN HI λw1 hb1=> ?_;have aM:=aF (aI.out.trans (hb1.mono aH)))
 go_ret;exact⟨rfl,aM⟩
theorem YZ:∀(m:Nat) (_:m<=1000) (e:LE) (av:Value) (w:World) (B:Nat->Prop) (_:EX B w av e),CR 59 #[eV e av,I (m:Int)] w (.bool (bP (wH m e)))
 |0,_,e,av,w,B,hx=>by
  rw[vY (p:=wH 0 e) (λh=>h)]
  have s9:∀(fn:Fn) (first cap:Array Value) (w:World),(Instr.makeFunc fn first cap).run Tryz.prog w= .ok (.func fn first cap) w:=λ_ _ _ _=>rfl
  obtain⟨aa,ac,rfl⟩:=hx.slice
  have aI:=aF (show Below w w ((w.alloc (.cells (eB e (.slice aa e.args.length ac)) 31)).alloc (.cells #[I 0] 3))from(cm w _).alloc aH _)
  clear hx
  show Calls Tryz.prog 59 #[.agg #[I e.kind,I e.op,I e.n,S e.name, .slice aa e.args.length ac],I 0] w _
  go_enter Tryz.func59,Tryz.ntmps59
  go_wp2
  go_ret
  exact⟨rfl,aI⟩
 |m+1,hm,e,av,w,B,hx=>by
  obtain⟨aa,ac,rfl⟩:=hx.slice
  have ih:=YZ m aG
  have s9:∀(fn:Fn) (first cap:Array Value) (w:World),(Instr.makeFunc fn first cap).run Tryz.prog w= .ok (.func fn first cap) w:=λ_ _ _ _=>rfl
  obtain⟨most,hmo⟩:∃most:Int,most=((m+1:Nat):Int):=⟨_,rfl⟩
  rw[<-hmo]
  have hm0:most - 1=(m:Int):=aG
  obtain⟨w1,hw1⟩:∃w1,w1=(w.alloc (.cells (eB e (.slice aa e.args.length ac)) 31)).alloc (.cells #[I most] 3):=⟨_,rfl⟩
  have hb1:Below w w w1:=by rw[hw1];exact(cm w _).alloc aH _
  have hR:Row w1 w 31 (l6 e (.slice aa e.args.length ac)):=by rw[hw1];exact dV _ _ hn0
  have hM:Row w1 (w,1) 3 [I most]:=by rw[hw1];exact jF aH
  have dO:(w.alloc (.cells #[I e.kind,I e.op,I e.n,S e.name, .slice aa e.args.length ac] 31)).alloc (.cells #[I most] 3)=w1:=hw1.symm
  have b4:=hR.cell 4
  have m0:=hM.cell 0
  simp only[l6,ag,af]at b4 m0
  obtain⟨d',hd'⟩:=hx.grown (bX hb1 none) aJ
  have Av:aP B 5 (λW C x=>RE d' B W C x/\Row W (w,1) 3 [I most]) w1 (.slice aa e.args.length ac) e.args:=hd'.weak (λ_ h=>h) (λC x h=>⟨h,hM⟩)
  have mR:qE sO (λW C x=>RE d' B W C x/\Row W (w,1) 3 [I most]) w1 101 #[.pointer (some (w,1,0))] (λx=> !(bP (wH m x))) e.args:=⟨enters_of Tryz.func101 aL rfl,λx hx W' C hb hr=>by
   obtain⟨he,hex⟩:=hr.1.ev
   rw[he]
   exact agS x (C 4) _ most aG _ W' B hex hr.2 (λW hh=>by rw[hm0];exact ih x (C 4) W B hh)⟩
  have hct:=EN w1 _ e.args Av (λW W' C x hb h=>⟨h.1.below hb,h.2.ext hb⟩) 101 _ _ mR
  have hall:(e.args.any λx=> !(bP (wH m x)))=false↔∀x∈e.args,wH m x:=N3
  obtain⟨tb,kr⟩:∃t,t=(e.args.any λx=> !(bP (wH m x))):=⟨_,rfl⟩
  rw[<-kr]at hct hall
  have hfin:bP (wH (m+1) e)= !tb:=by
   rw[Bool.eq_iff_iff,ow];simp only[Bool.not_eq_true'];exact hall.symm
  rw[hfin];have gw:=aF hct;have aI:=aF hb1;have sU:0<most:=aG;clear hx ih mR Av hd' hM hR hb1 hw1 hm hmo hm0 hct hall kr hfin;go_enter Tryz.func59,Tryz.ntmps59;go_wp2_with (go_at_call 100;refine aN gw λw4 hb4=> ?_;have aR:=aU aI hb4)
  go_ret;exact⟨rfl,aR⟩
theorem WV (e:LE) (ha:kA e) (av:Value) (w:World) (B:Nat->Prop) (hx:EX B w av e):CR 37 #[eV e av] w (.bool (bP (ij 40 e))):=by
 have hx1:=hx.alloc (o:= .cells (eB e av) 31);have HR:=aF (show Row (w.alloc (.cells (eB e av) 31)) w 31 (l6 e av)from cj _ _);have aI:=aF (cm w (.cells (eB e av) 31));have kF:=aF hx1;have hd:=YZ 40 aG e av _ B hx1;have hw:=λW hh=>ahA e ha av W B hh;have⟨p,hp⟩:=xq (bP (wH 40 e));have⟨q,hq⟩:=xq (bP (nU e));have hfin:bP (ij 40 e)=(p&&q):=by
  rw[Bool.eq_iff_iff,ow,NY,hp,hq,Bool.and_eq_true,ow,ow]
 rw[hfin];rw[<-hp]at hd;rw[<-hq]at hw;have HD:=aF hd;have HW:=aF hw;clear hx hx1 ha hd hw hp hq hfin;cases p
 ·go_enter Tryz.func37,Tryz.ntmps37;go_wp2_with (go_at_call 59;refine aN HD λw1 hb1=> ?_;have aM:=aF (aI.out.trans (hb1.mono aH)))
  go_ret;exact⟨rfl,aM⟩
 ·go_enter Tryz.func37,Tryz.ntmps37;go_wp2_with (first|(go_at_call 59;refine aN HD λw1 hb1=> ?_;have aM:=aF (aI.out.trans (hb1.mono aH));have aY:=aF (kF.below hb1);have hr2:=HR.ext hb1;have c0:=hr2.cell 0;have c1:=hr2.cell 1;have c2:=hr2.cell 2;have c3:=hr2.cell 3;have c4:=hr2.cell 4;simp only[l6,ag,af]at c0 c1 c2 c3 c4;clear hr2)|(go_at_call 60;refine aN (HW _ aY) λw2 hb2=> ?_;have aW:=aU aM hb2))
  go_ret;exact⟨rfl,aW⟩
theorem JI (e:LE) (ha:kA e) (av:Value) (w:World) (B:Nat->Prop) (hx:EX B w av e):
  CR 180 #[eV e av] w (.bool !(bP (ij 40 e))):=by
 have HI:=aF (WV e ha av _ B (hx.alloc (o:= .cells (eB e av) 31)));have aI:=aF (cm w (.cells (eB e av) 31));have⟨b,hb⟩:=xq (bP (ij 40 e));rw[<-hb]at HI|-;clear hx ha hb;go_enter Tryz.func180,Tryz.ntmps180;go_wp2_with (go_at_call 37;refine aN HI λw1 hb1=> ?_;have aM:=aF (aI.out.trans (hb1.mono aH)))
 go_ret;exact⟨rfl,aM⟩
theorem af' (x:aK) (ha:eH x) (w:World):
  CR 116 #[S x] w (.bool !(isName x)):=by
 have HI:=aF (E4 x ha w);have⟨b,hb⟩:=xq (isName x);rw[<-hb]at HI|-;clear ha hb;go_enter Tryz.func116,Tryz.ntmps116;go_wp2_with (go_at_call 117;refine aN HI λw1 aM=> ?_)
 go_ret;exact⟨rfl,aM⟩
theorem Q6 (l:List aK) (h:∀x∈l,eH x) (v:Value) (w:World) (B:Nat->Prop) (hx:aP B 1 dc w v l):
  CR 77 #[v] w (.bool (l.all isName)):=by
 have mR:qE Kl dc w 116 #[] (λx=> !(isName x)) l:=⟨enters_of Tryz.func116 aL rfl,λx hx W' C hb hr=>by
  have:Kl C=S x:=hr;rw[this];exact af' x (h x hx) W'⟩
 have hct:=WT w v l hx (λW W' C x hb h=>h) 116 #[] _ mR;have hall:l.all isName= !(l.any λx=> !(isName x)):=by rw[List.all_eq_not_any_not]
 obtain⟨tb,kr⟩:∃t,t=(l.any λx=> !(isName x)):=⟨_,rfl⟩;rw[hall,<-kr];rw[<-kr]at hct;have gw:=aF hct;obtain⟨a,c,rfl, -⟩:=hx;clear mR h hct hall kr;go_enter Tryz.func77,Tryz.ntmps77;go_wp2_with (go_at_call 87;refine aN gw λw1 aM=> ?_)
 go_ret;exact⟨rfl,aM⟩
theorem afQ (k:Int) (h:k<1\/10<k) (w:World):CR 179 #[I k] w (.tuple #[.agg #[.bool false,I 0, .bool false, .bool false], .bool false]):=by
 have k1:(k==1)=false:=bD;have k2:(k==2)=false:=bD;have k3:(k==3)=false:=bD;have k4:(k==4)=false:=bD;have k5:(k==5)=false:=bD;have k6:(k==6)=false:=bD;have k7:(k==7)=false:=bD;have k8:(k==8)=false:=bD;have k9:(k==9)=false:=bD;have k10:(k==10)=false:=bD;clear h;go_enter Tryz.func179,Tryz.ntmps179;go_wp2_with (refine sr 197 (.tmp 2) (.tmp 27) w qO hn0 ?_)
 refine bodyPost_ret (BW rfl _ _ w 197 _ (0,0) _ rfl (setRow_heap _ _ _ _ _ _ hn0) Tryz.underlying197 rfl aL) rfl ?_;exact⟨rfl,(cm w _).grown bJ aH u_⟩
def wJ (l:List LS) (most:Int) (v:Value) (B:Nat->Prop) (b:Bool):Prop:=∀W,SX B W v l->CR 78 #[v,I most] W (.bool b)
noncomputable def sN (l:List LE):Bool:= !(l.any λx=> !(bP (ij 40 x)))
theorem JV (l:List LE):sN l=true↔∀x∈l,ij 40 x:=by
 unfold sN;rw[Bool.not_eq_true',N3]
theorem aio (s:LS) (hk:s.kind<1\/10<s.kind) (most:Int) (av tv ev:Value) (w:World):
  CR 120 #[sV s av tv ev,I most] w (.bool false):=by
 have qw:=aF (λW=>afQ s.kind hk W);have⟨sk,hsk⟩:=xq s.kind;have⟨sn,dN⟩:=xq s.name;show Calls Tryz.prog 120 #[.agg #[I s.kind,S s.name,av,tv,ev],I most] w _;rw[<-hsk]at qw|-;rw[<-dN];have aI:=aF (cm w (.cells #[I sk,S sn,av,tv,ev] 54));have hR:=(show Row (w.alloc (.cells #[I sk,S sn,av,tv,ev] 54)) w 54 [I sk,S sn,av,tv,ev]from cj _ _);have b0:=hR.k0;clear hk hsk dN hR;go_enter Tryz.func120,Tryz.ntmps120;go_upto_region 2 with(first|(go_at_call 179;refine aN (qw _) λw2 hb2=> ?_;have aM:=aU aI hb2)|(refine sr 197 (.tmp 5) (.tmp 11) w2 qO hn0 ?_))
 have aW:=aF ((aM.alloc aM.size (.cells qO 197)).grown (bJ (g:=w2.heap.size) (cs:= #[.bool false,I 0, .bool false, .bool false])) (by simp;have:=aM.size;omega) (λr e=>by cases e;exact aM.size));clear b0;go_wp2;go_ret;exact⟨rfl,aW⟩
theorem aib (s:LS) (hk:s.kind=3) (most:Int) (hm:0<=most/\most<=1000) (av tv ev:Value) (w:World) (B:Nat->Prop) (ha:AX B w av s.args) (ht:SX B w tv s.thn) (he:SX B w ev s.els)
  (hn:eH s.name) (uY:∀x∈s.args,kA x) (bt be:Bool) (it:1<=most->wJ s.thn (most - 1) tv B bt) (ie:1<=most->wJ s.els (most - 1) ev B be):
  CR 120 #[sV s av tv ev,I most] w (.bool (decide (most≠0)&&decide (s.args.length=(cR s.kind).args)&& !(isName s.name)&&decide (s.name= [])&&sN s.args&&bt&&be)):=by
 have qw:Hid (∀W:World,CR 179 #[I s.kind] W (.tuple #[.agg #[.bool false,I (cR s.kind).args, .bool true, .bool true], .bool true])):=aF (λW=>by
  have h:=JD s.kind aG W;have h1:(cR s.kind).named=false:=by unfold cR;(repeat' split)<;>first|rfl|(exfalso;omega)
  have h2:(cR s.kind).thn=true:=by unfold cR;(repeat' split)<;>first|rfl|(exfalso;omega)
  have h3:(cR s.kind).more=true:=by unfold cR;(repeat' split)<;>first|rfl|(exfalso;omega)
  rw[h1,h2,h3]at h;exact h)
 obtain⟨fa,jQ⟩:∃n,n=(cR s.kind).args:=⟨_,rfl⟩;have⟨an,dI⟩:=xq s.args.length;have⟨tn,htn⟩:=xq s.thn.length;have⟨en,hen⟩:=xq s.els.length;obtain⟨aa,ac,cX⟩:=ha.slice;rw[show(LE.mk 0 0 0 [] s.args).args.length=an from dI.symm]at cX;obtain⟨ta,tc,gu⟩:=ht.slice;rw[<-htn]at gu;obtain⟨ea,ec,hev⟩:=he.slice;rw[<-hen]at hev;subst cX;subst gu;subst hev;have⟨sn,dN⟩:=xq s.name;have⟨nb,hnb⟩:=xq (isName s.name);have⟨sk,hsk⟩:=xq s.kind;have⟨al,hal⟩:=xq (sN s.args);have cv:=aF (λW=>E4 s.name hn W);have mR:∀W d',qE sO (RE d' B) W 180 #[] (λx=> !(bP (ij 40 x))) s.args:=λW d'=>⟨enters_of Tryz.func180 aL rfl,λx hx W' C hb hr=>by
  obtain⟨he,hex⟩:=hr.ev;rw[he];exact JI x (uY x hx) (C 4) W' B hex⟩
 have uZ:=aF ha;have l9:Hid (∀W,Below w w W->CR 100 #[.slice aa an ac, .func (.func 180) #[] #[]] W (.bool !al)):=aF (λW hb=>by
  obtain⟨d',hd'⟩:=uZ.grown (bX hb none) aJ;have h:=EN W _ s.args hd' (λW W' C x hb h=>h.below hb) 180 #[] _ (mR W d');have hb:(!al)=(s.args.any λx=> !(bP (ij 40 x))):=by rw[hal];unfold sN;rw[Bool.not_not]
  rw[hb];exact h)
 have sS:=aF ht;have eA:=aF he;have HIT:=aF it;have CO:=aF ie;obtain⟨Q,hQ⟩:∃Q,Q=(decide (most≠0)&&decide (an=fa)&& !nb&&decide (sn= [])&&al&&bt&&be):=⟨_,rfl⟩;rw[<-dI,<-jQ,<-hnb,<-dN,<-hal];rw[<-hQ];have hval:sV s (.slice aa an ac) (.slice ta tn tc) (.slice ea en ec)= .agg #[I sk,S sn, .slice aa an ac, .slice ta tn tc, .slice ea en ec]:=by rw[sV,hsk,dN]
 rw[hval];clear hval;rw[<-jQ,<-hsk]at qw;rw[<-dN]at cv;rw[<-hnb.trans (congrArg isName dN).symm]at cv;have HQ:=aF hQ;obtain⟨hm0,sU⟩:=hm;have⟨w1,hw1⟩:=xq (w.alloc (.cells #[I sk,S sn, .slice aa an ac, .slice ta tn tc, .slice ea en ec] 54));have aI:=aF (gI hw1);have qN:=dZ hw1;have bC:=aF qN;have b0:=qN.k0;have dO:w.alloc (.cells #[I sk,S sn, .slice aa an ac, .slice ta tn tc, .slice ea en ec] 54)=w1:=hw1.symm;have gm:=aF (hsk▸hk:sk=3);have jR:=aF (True.intro);clear ha ht he it ie hn uY mR jQ dI htn hen dN hnb hsk hal hQ hw1 qN hk;go_enter Tryz.func120,Tryz.ntmps120;go_upto_region 2 with(first|(go_at_call 179;refine aN (qw _) λw2 hb2=> ?_;have cB:=bA bC hb2;have aM:=aU aI hb2)|(refine sr 197 (.tmp 5) (.tmp 11) w2 qO hn0 ?_))
 have hzb:=aM.size;have hlb:=cB.lt;obtain⟨w3,hw3⟩:∃w3,w3=(w2.alloc (.cells qO 197)).setRow w2 #[.bool false,I fa, .bool true, .bool true]:=⟨_,rfl⟩;have gS:Row w3 w 54 [I sk,S sn, .slice aa an ac, .slice ta tn tc, .slice ea en ec]:=by rw[hw3];exact(setRow_other _ _ _ _ aG).trans (ho0 cB.out)
 have iT:Row w3 w2 197 [.bool false,I fa, .bool true, .bool true]:=by rw[hw3];exact setRow_heap _ _ _ _ _ _ hn0
 have aW:=aF (show Below w w w3 by rw[hw3];exact(aM.alloc hzb _).grown bJ ct bh);rw[<-hw3];have bL:=aF gS;have bq:=aF iT;have c0:=gS.k0;have c1:=gS.k1;have c2:=gS.k2;have c3:=gS.k3;have c4:=gS.k4;have x0:=iT.k0;have x1:=iT.k1;have x2:=iT.k2;have x3:=iT.k3;clear hw3 gS iT b0;by_cases h0:most=0
 case pos=>
  have hq:=HQ.out;subst h0;obtain rfl:Q=false:=by rw[hq];simp
  clear hq;go_wp2;go_ret;exact⟨rfl,aW⟩
 have zu:(most==0)=false:=bu h0;by_cases h1:an=fa
 case neg=>
  have hq:=HQ.out;have hne:((an:Int)==(fa:Int))=false:=bD;have jO:((an:Int) !=(fa:Int))=true:=by rw[bne,hne];rfl
  obtain rfl:Q=false:=by rw[hq];simp [h1]
  clear hq h1;go_wp2;go_ret;exact⟨rfl,aW⟩
 subst h1;have hq:=HQ.out;simp only[ne_eq,h0,not_false_eq_true,decide_true,Bool.true_and]at hq;have iU:=aF hq;clear hq HQ;go_upto_region 4 with(fail)
 have Sb:(sk==10)=false:=bu (cw gm);cases nb
 case true=>
  obtain rfl:Q=false:=by rw[iU.out];simp
  refine cC (λW=>W.cell? (w,0)=some (I sk)/\W.cell? (w,1)=some (S sn)/\W.cell? (w2,0)=some (.bool false)) [0,0,0,0,1,0,0,0,0,0,0,0,0,0,0,0,0,0,0,0,0,0,0,0,0,0,0,0,0] ?hS ?_
  case hS=>intro wd hh;have h9:=aO bq.out hh 0;exact⟨aO bL.out hh 0,aO bL.out hh 1,h9⟩
  intro wd hh hgd hS;have dz:=bI bL hgd;have bN:=bI bq hgd;have bE:=dF aW hgd;clear hh hgd c0 c1 c2 x0 x1
  try clear c3
  try clear c4
  try clear x2
  try clear x3
  refine dS ?_;go_wp2_with (go_at_call 117;refine aN (cv _) λw4 hb4=> ?_;have bU:=bA dz hb4;have cI:=bA bN hb4;have aR:=aU bE hb4;clear hS)
  refine bw ⟨bU.cell 0,bU.cell 1,cI.cell 0⟩ λhS=> ?_;refine dP ?_;clear hS;go_wp2;go_ret;exact⟨rfl,aR⟩
 by_cases hs:sn= []
 case neg=>
  have eu:(sn== [])=false:=bu hs;have Sn:(sn != [])=true:=by rw[bne,eu];rfl
  obtain rfl:Q=false:=by rw[iU.out];simp [hs]
  clear hs;refine cC (λW=>W.cell? (w,0)=some (I sk)/\W.cell? (w,1)=some (S sn)/\W.cell? (w2,0)=some (.bool false)) [0,0,0,0,1,0,0,0,0,0,0,0,0,0,0,0,0,0,0,0,0,0,0,0,0,0,0,0,0] ?hS ?_
  case hS=>intro wd hh;have h9:=aO bq.out hh 0;exact⟨aO bL.out hh 0,aO bL.out hh 1,h9⟩
  intro wd hh hgd hS;have dz:=bI bL hgd;have bN:=bI bq hgd;have bE:=dF aW hgd;clear hh hgd c0 c1 c2 x0 x1
  try clear c3
  try clear c4
  try clear x2
  try clear x3
  refine dS ?_;go_wp2_with (go_at_call 117;refine aN (cv _) λw4 hb4=> ?_;have bU:=bA dz hb4;have cI:=bA bN hb4;have aR:=aU bE hb4;clear hS)
  refine bw ⟨bU.cell 0,bU.cell 1,cI.cell 0⟩ λhS=> ?_;refine dP ?_;clear hS;go_wp2;go_ret;exact⟨rfl,aR⟩
 subst hs;have rJ:=aF (iU.out);refine cC (λW=>W.cell? (w,0)=some (I sk)/\W.cell? (w,1)=some (S [])/\W.cell? (w2,0)=some (.bool false)) [0,0,0,0,1,0,0,0,0,0,0,0,0,0,0,0,0,0,0,0,0,0,0,0,0,0,0,0,0] ?hS ?_
 case hS=>intro wd hh;have h9:=aO bq.out hh 0;exact⟨aO bL.out hh 0,aO bL.out hh 1,h9⟩
 intro wd hh hgd hS;have dz:=bI bL hgd;have bN:=bI bq hgd;have bE:=dF aW hgd;clear hh hgd c0 c1 c2 x0 x1
 try clear c3
 try clear c4
 try clear x2
 try clear x3
 refine dS ?_;go_wp2_with (go_at_call 117;refine aN (cv _) λw4 hb4=> ?_;have bU:=bA dz hb4;have cI:=bA bN hb4;have aR:=aU bE hb4;clear hS)
 refine bw ⟨bU.cell 0,bU.cell 1,cI.cell 0⟩ λhS=> ?_;refine dP ?_;have hr4:=bU.out;have c2:=hr4.k2;have gw:=aF (l9 w4 aR);clear hr4 hS;have hq:=rJ.out;cases al
 ·obtain rfl:Q=false:=by rw[hq];simp
  clear hq;go_wp2_with (go_at_call 100;refine aN gw λw5 bz=> ?_;have bW:=aU aR bz)
  go_ret;exact⟨rfl,bW⟩
 cases bt
 ·obtain rfl:Q=false:=by rw[hq];simp
  clear hq;go_wp2_with (first|(go_at_call 100;refine aN gw λw5 bz=> ?_;have bp:=bU.ext bz;have cL:=aF bp;have bW:=aU aR bz;have c3:=bp.k3;clear bp)|(go_at_call 78;refine aN (HIT aG w5 (sS.grown (aT bW) aJ)) λw6 bV=> ?_;have cY:=aU bW bV))
  go_ret;exact⟨rfl,cY⟩
 obtain rfl:Q=be:=by rw[hq];simp
 clear hq rJ;go_wp2_with (first|(go_at_call 100;refine aN gw λw5 bz=> ?_;have bp:=bU.ext bz;have cL:=aF bp;have bW:=aU aR bz;have c3:=bp.k3;clear bp)|(go_at_call 78;(first|(refine aN (HIT aG w5 (sS.grown (aT bW) aJ)) λw6 bV=> ?_;have dU:=cL.ext bV;have dJ:=aF dU;have cY:=aU bW bV;have c4:=dU.k4;clear dU)|(refine aN (CO aG w6 (eA.grown (aT cY) aJ)) λw7 fS=> ?_;have iK:=aU cY fS))))
 go_ret;exact⟨rfl,iK⟩
theorem ahK (s:LS) (hk:5<=s.kind/\s.kind<=9) (most:Int) (hm:0<=most/\most<=1000) (av tv ev:Value) (w:World) (B:Nat->Prop) (ha:AX B w av s.args) (ht:SX B w tv s.thn) (he:SX B w ev s.els)
  (hn:eH s.name) (uY:∀x∈s.args,kA x) (bt be:Bool) (it:1<=most->wJ s.thn (most - 1) tv B bt) (ie:1<=most->wJ s.els (most - 1) ev B be):
  CR 120 #[sV s av tv ev,I most] w (.bool (decide (most≠0)&&decide (s.args.length=(cR s.kind).args)&&decide (s.thn.length=0)&&decide (s.els.length=0)&& !(isName s.name)&&decide (s.name= [])&&sN s.args&&bt&&be)):=by
 have qw:Hid (∀W:World,CR 179 #[I s.kind] W (.tuple #[.agg #[.bool false,I (cR s.kind).args, .bool false, .bool false], .bool true])):=aF (λW=>by
  have h:=JD s.kind aG W;have h1:(cR s.kind).named=false:=by unfold cR;(repeat' split)<;>first|rfl|(exfalso;omega)
  have h2:(cR s.kind).thn=false:=by unfold cR;(repeat' split)<;>first|rfl|(exfalso;omega)
  have h3:(cR s.kind).more=false:=by unfold cR;(repeat' split)<;>first|rfl|(exfalso;omega)
  rw[h1,h2,h3]at h;exact h)
 obtain⟨fa,jQ⟩:∃n,n=(cR s.kind).args:=⟨_,rfl⟩;have⟨an,dI⟩:=xq s.args.length;have⟨tn,htn⟩:=xq s.thn.length;have⟨en,hen⟩:=xq s.els.length;obtain⟨aa,ac,cX⟩:=ha.slice;rw[show(LE.mk 0 0 0 [] s.args).args.length=an from dI.symm]at cX;obtain⟨ta,tc,gu⟩:=ht.slice;rw[<-htn]at gu;obtain⟨ea,ec,hev⟩:=he.slice;rw[<-hen]at hev;subst cX;subst gu;subst hev;have⟨sn,dN⟩:=xq s.name;have⟨nb,hnb⟩:=xq (isName s.name);have⟨sk,hsk⟩:=xq s.kind;have⟨al,hal⟩:=xq (sN s.args);have cv:=aF (λW=>E4 s.name hn W);have mR:∀W d',qE sO (RE d' B) W 180 #[] (λx=> !(bP (ij 40 x))) s.args:=λW d'=>⟨enters_of Tryz.func180 aL rfl,λx hx W' C hb hr=>by
  obtain⟨he,hex⟩:=hr.ev;rw[he];exact JI x (uY x hx) (C 4) W' B hex⟩
 have uZ:=aF ha;have l9:Hid (∀W,Below w w W->CR 100 #[.slice aa an ac, .func (.func 180) #[] #[]] W (.bool !al)):=aF (λW hb=>by
  obtain⟨d',hd'⟩:=uZ.grown (bX hb none) aJ;have h:=EN W _ s.args hd' (λW W' C x hb h=>h.below hb) 180 #[] _ (mR W d');have hb:(!al)=(s.args.any λx=> !(bP (ij 40 x))):=by rw[hal];unfold sN;rw[Bool.not_not]
  rw[hb];exact h)
 have sS:=aF ht;have eA:=aF he;have HIT:=aF it;have CO:=aF ie;obtain⟨Q,hQ⟩:∃Q,Q=(decide (most≠0)&&decide (an=fa)&&decide (tn=0)&&decide (en=0)&& !nb&&decide (sn= [])&&al&&bt&&be):=⟨_,rfl⟩;rw[<-dI,<-jQ,<-htn,<-hen,<-hnb,<-dN,<-hal];rw[<-hQ];have hval:sV s (.slice aa an ac) (.slice ta tn tc) (.slice ea en ec)= .agg #[I sk,S sn, .slice aa an ac, .slice ta tn tc, .slice ea en ec]:=by rw[sV,hsk,dN]
 rw[hval];clear hval;rw[<-jQ,<-hsk]at qw;rw[<-dN]at cv;rw[<-hnb.trans (congrArg isName dN).symm]at cv;have HQ:=aF hQ;obtain⟨hm0,sU⟩:=hm;have⟨w1,hw1⟩:=xq (w.alloc (.cells #[I sk,S sn, .slice aa an ac, .slice ta tn tc, .slice ea en ec] 54));have aI:=aF (gI hw1);have qN:=dZ hw1;have bC:=aF qN;have b0:=qN.k0;have dO:w.alloc (.cells #[I sk,S sn, .slice aa an ac, .slice ta tn tc, .slice ea en ec] 54)=w1:=hw1.symm;have gm:=aF (hsk▸hk:5<=sk/\sk<=9);have jR:=aF (True.intro);clear ha ht he it ie hn uY mR jQ dI htn hen dN hnb hsk hal hQ hw1 qN hk;go_enter Tryz.func120,Tryz.ntmps120;go_upto_region 2 with(first|(go_at_call 179;refine aN (qw _) λw2 hb2=> ?_;have cB:=bA bC hb2;have aM:=aU aI hb2)|(refine sr 197 (.tmp 5) (.tmp 11) w2 qO hn0 ?_))
 have hzb:=aM.size;have hlb:=cB.lt;obtain⟨w3,hw3⟩:∃w3,w3=(w2.alloc (.cells qO 197)).setRow w2 #[.bool false,I fa, .bool false, .bool false]:=⟨_,rfl⟩;have gS:Row w3 w 54 [I sk,S sn, .slice aa an ac, .slice ta tn tc, .slice ea en ec]:=by rw[hw3];exact(setRow_other _ _ _ _ aG).trans (ho0 cB.out)
 have iT:Row w3 w2 197 [.bool false,I fa, .bool false, .bool false]:=by rw[hw3];exact setRow_heap _ _ _ _ _ _ hn0
 have aW:=aF (show Below w w w3 by rw[hw3];exact(aM.alloc hzb _).grown bJ ct bh);rw[<-hw3];have bL:=aF gS;have bq:=aF iT;have c0:=gS.k0;have c1:=gS.k1;have c2:=gS.k2;have c3:=gS.k3;have c4:=gS.k4;have x0:=iT.k0;have x1:=iT.k1;have x2:=iT.k2;have x3:=iT.k3;clear hw3 gS iT b0;by_cases h0:most=0
 case pos=>
  have hq:=HQ.out;subst h0;obtain rfl:Q=false:=by rw[hq];simp
  clear hq;go_wp2;go_ret;exact⟨rfl,aW⟩
 have zu:(most==0)=false:=bu h0;by_cases h1:an=fa
 case neg=>
  have hq:=HQ.out;have hne:((an:Int)==(fa:Int))=false:=bD;have jO:((an:Int) !=(fa:Int))=true:=by rw[bne,hne];rfl
  obtain rfl:Q=false:=by rw[hq];simp [h1]
  clear hq h1;go_wp2;go_ret;exact⟨rfl,aW⟩
 subst h1;by_cases htn:tn=0
 case neg=>
  have hq:=HQ.out;have hpos:0<(tn:Int):=aG;obtain rfl:Q=false:=by rw[hq];simp [htn]
  clear hq htn;go_wp2;go_ret;exact⟨rfl,aW⟩
 subst htn;by_cases hen:en=0
 case neg=>
  have hq:=HQ.out;have hpos:0<(en:Int):=aG;obtain rfl:Q=false:=by rw[hq];simp [hen]
  clear hq hen;go_wp2;go_ret;exact⟨rfl,aW⟩
 subst hen;have hq:=HQ.out;simp only[ne_eq,h0,not_false_eq_true,decide_true,Bool.true_and]at hq;have iU:=aF hq;clear hq HQ;go_upto_region 4 with(fail)
 have Sb:(sk==10)=false:=bu (cw gm);cases nb
 case true=>
  obtain rfl:Q=false:=by rw[iU.out];simp
  refine cC (λW=>W.cell? (w,0)=some (I sk)/\W.cell? (w,1)=some (S sn)/\W.cell? (w2,0)=some (.bool false)) [0,0,0,0,1,0,0,0,0,0,0,0,0,0,0,0,0,0,0,0,0,0,0,0,0,0,0,0,0] ?hS ?_
  case hS=>intro wd hh;have h9:=aO bq.out hh 0;exact⟨aO bL.out hh 0,aO bL.out hh 1,h9⟩
  intro wd hh hgd hS;have dz:=bI bL hgd;have bN:=bI bq hgd;have bE:=dF aW hgd;clear hh hgd c0 c1 c2 x0 x1
  try clear c3
  try clear c4
  try clear x2
  try clear x3
  refine dS ?_;go_wp2_with (go_at_call 117;refine aN (cv _) λw4 hb4=> ?_;have bU:=bA dz hb4;have cI:=bA bN hb4;have aR:=aU bE hb4;clear hS)
  refine bw ⟨bU.cell 0,bU.cell 1,cI.cell 0⟩ λhS=> ?_;refine dP ?_;clear hS;go_wp2;go_ret;exact⟨rfl,aR⟩
 by_cases hs:sn= []
 case neg=>
  have eu:(sn== [])=false:=bu hs;have Sn:(sn != [])=true:=by rw[bne,eu];rfl
  obtain rfl:Q=false:=by rw[iU.out];simp [hs]
  clear hs;refine cC (λW=>W.cell? (w,0)=some (I sk)/\W.cell? (w,1)=some (S sn)/\W.cell? (w2,0)=some (.bool false)) [0,0,0,0,1,0,0,0,0,0,0,0,0,0,0,0,0,0,0,0,0,0,0,0,0,0,0,0,0] ?hS ?_
  case hS=>intro wd hh;have h9:=aO bq.out hh 0;exact⟨aO bL.out hh 0,aO bL.out hh 1,h9⟩
  intro wd hh hgd hS;have dz:=bI bL hgd;have bN:=bI bq hgd;have bE:=dF aW hgd;clear hh hgd c0 c1 c2 x0 x1
  try clear c3
  try clear c4
  try clear x2
  try clear x3
  refine dS ?_;go_wp2_with (go_at_call 117;refine aN (cv _) λw4 hb4=> ?_;have bU:=bA dz hb4;have cI:=bA bN hb4;have aR:=aU bE hb4;clear hS)
  refine bw ⟨bU.cell 0,bU.cell 1,cI.cell 0⟩ λhS=> ?_;refine dP ?_;clear hS;go_wp2;go_ret;exact⟨rfl,aR⟩
 subst hs;have rJ:=aF (iU.out);refine cC (λW=>W.cell? (w,0)=some (I sk)/\W.cell? (w,1)=some (S [])/\W.cell? (w2,0)=some (.bool false)) [0,0,0,0,1,0,0,0,0,0,0,0,0,0,0,0,0,0,0,0,0,0,0,0,0,0,0,0,0] ?hS ?_
 case hS=>intro wd hh;have h9:=aO bq.out hh 0;exact⟨aO bL.out hh 0,aO bL.out hh 1,h9⟩
 intro wd hh hgd hS;have dz:=bI bL hgd;have bN:=bI bq hgd;have bE:=dF aW hgd;clear hh hgd c0 c1 c2 x0 x1
 try clear c3
 try clear c4
 try clear x2
 try clear x3
 refine dS ?_;go_wp2_with (go_at_call 117;refine aN (cv _) λw4 hb4=> ?_;have bU:=bA dz hb4;have cI:=bA bN hb4;have aR:=aU bE hb4;clear hS)
 refine bw ⟨bU.cell 0,bU.cell 1,cI.cell 0⟩ λhS=> ?_;refine dP ?_;have hr4:=bU.out;have c2:=hr4.k2;have gw:=aF (l9 w4 aR);clear hr4 hS;have hq:=rJ.out;cases al
 ·obtain rfl:Q=false:=by rw[hq];simp
  clear hq;go_wp2_with (go_at_call 100;refine aN gw λw5 bz=> ?_;have bW:=aU aR bz)
  go_ret;exact⟨rfl,bW⟩
 cases bt
 ·obtain rfl:Q=false:=by rw[hq];simp
  clear hq;go_wp2_with (first|(go_at_call 100;refine aN gw λw5 bz=> ?_;have bp:=bU.ext bz;have cL:=aF bp;have bW:=aU aR bz;have c3:=bp.k3;clear bp)|(go_at_call 78;refine aN (HIT aG w5 (sS.grown (aT bW) aJ)) λw6 bV=> ?_;have cY:=aU bW bV))
  go_ret;exact⟨rfl,cY⟩
 obtain rfl:Q=be:=by rw[hq];simp
 clear hq rJ;go_wp2_with (first|(go_at_call 100;refine aN gw λw5 bz=> ?_;have bp:=bU.ext bz;have cL:=aF bp;have bW:=aU aR bz;have c3:=bp.k3;clear bp)|(go_at_call 78;(first|(refine aN (HIT aG w5 (sS.grown (aT bW) aJ)) λw6 bV=> ?_;have dU:=cL.ext bV;have dJ:=aF dU;have cY:=aU bW bV;have c4:=dU.k4;clear dU)|(refine aN (CO aG w6 (eA.grown (aT cY) aJ)) λw7 fS=> ?_;have iK:=aU cY fS))))
 go_ret;exact⟨rfl,iK⟩
end
end Go.Proofs.YtjgbkdbkachciaaGreatDoor
