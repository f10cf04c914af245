import Derived.Test.YtjgbkdbkachciaaGreatDoorY5
set_option linter.all false
namespace Go.Proofs.YtjgbkdbkachciaaGreatDoor
set_option maxRecDepth 100000
set_option maxHeartbeats 16000000
section
open Go.RowKit Go.Shelf
theorem Ye (c:cH) (hp:XP c.p):∀K j,j<=K->H8 c j (cz c.p c.most j).expr/\RR c j (cz c.p c.most j).stmt/\ZP c j (cz c.p c.most j).loop
 |0,j,hj=>by
  obtain rfl:j=0:=aG
  exact⟨λ_ _ _ _ _ _ _ _ _ _ _ _ h=>absurd h aG,λ_ _ _ _ _ _ _ _ _ _ _ _ _ _ _ _ h=>absurd h aG,λ_ _ _ _ _ _ _ _ _ _ _ _ _ _ _ _ _ h=>absurd h aG⟩
 |K+1,j,hj=>by
  have ih:=Ye c hp K
  rcases Nat.lt_or_ge K j with h|h
  ·obtain rfl:j=K+1:=aG
   have hb:∀i,i<=K->J4 c i (cz c.p c.most i).stmt:=λi hi=>YA c i _ (ih i hi).2.1 (λ_ _ _ _ _ _ h=>(sK c.p c.most i).stmt h)
   have hk:=ih K fQ
   refine⟨?_, ?_, ?_⟩
   ·exact ahw c K (cz c.p c.most K) hk.1 (YC c K _ (hb K fQ)) (sK c.p c.most K) hp
   ·exact ahx c K (cz c.p c.most K) hk.1 (hb K fQ) hk.2.2 (sK c.p c.most K)
   ·intro F W d s k cb mb x av tv ev h1 h2 h3 h4 h5 h6 h7
    exact ahy c K (λi hi=>(ih i hi).1) hb F W d s k cb mb x av tv ev h1 h2 h3 h4 h5 h6 aG
  ·exact ih j h
theorem afy (c:cH) (hp:XP c.p) (K:Nat):Ry c K (cz c.p c.most K).stmt:=
 YC c K _ (YA c K _ (Ye c hp K K fQ).2.1 (λ_ _ _ _ _ _ h=>(sK c.p c.most K).stmt h))
end
section
open Go.RowKit Go.Shelf
attribute [local go_sem] Oper.semAt_some
theorem YK {w w':World} {row:Option Nat} (h:w.grownBy w' none):w.grownBy w' row:=⟨h.os,h.tape,h.output,h.size,λb hb _=>h.block b hb aH⟩
theorem ahL (st cd:Int) (w:World):(Instr.typeAssert (.iface 98 (.agg #[I st,I cd])) 20 98 false).run Tryz.prog w= .ok (.agg #[I st,I cd]) w:=aL
theorem agk (p:Value) (w:World):CallsD Tryz.prog 52 #[p] .returning w λe u' w'=>e= .returned (.tuple #[])/\u'= .returning/\w'=w:=by
 refine callsD_of_wpS Tryz.func52 rfl λc₀ cs hu=> ?_;apply wpS_seq;apply wpS_region;simp [wpOpsS,go_sem,recoverD,hu,Tryz.ntmps52,Exit.thenS];apply wpS_seq;apply wpS_region;simp [wpOpsS,go_sem,Exit.thenS];refine wpS_cond (t:=false) (by simp [Act.eval,Array.replicate]) ?_;simp only[Bool.false_eq_true,if_false];refine wpS_of_wp (wp_skip ?_);cases c₀
 simp_all [bodyPostS,results,Tryz.results52]
theorem afH (xb rb:Nat) (st cd:Int) (cs0:List Value) (w:World) (hx:Row w xb 75 [.pointer (some (rb,0))]) (hr:Row w rb 78 cs0) (hl:cs0.length=10) (hne:xb≠rb):
  CallsD Tryz.prog 52 #[.pointer (some (xb,0))] (.panicking (mz st cd)) w λe u' w'=>
   e= .returned (.tuple #[])/\u'= .panicking [{v:= .iface 98 (.agg #[I st,I cd]),recovered:=true}]/\w.grownBy w' (some rb)/\Row w' rb 78 ((cs0.set 6 (I st)).set 7 (I cd)):=by
 refine callsD_of_wpS Tryz.func52 rfl λc₀ cs hu=> ?_;apply wpS_seq;apply wpS_region;simp [wpOpsS,go_sem,recoverD,hu,Tryz.ntmps52,Exit.thenS];apply wpS_seq;apply wpS_region;simp [wpOpsS,go_sem,Exit.thenS];refine wpS_cond (t:=true) (by simp [Act.eval,Array.replicate]) ?_;simp only[if_true];have I9:=ahL st cd w;have HX:=aF hx;have HR:=aF hr;have HL:=aF hl;have HU:=aF hu;have x0:=hx.cell 0;simp only[af]at x0;clear hx hr hl hu;refine wpS_of_wp (Code.wp_mono (Q:=λe a w'=>e= .normal/\a.defers= []/\w.grownBy w' (some rb)/\Row w' rb 78 ((cs0.set 6 (I st)).set 7 (I cd))) ?_ ?_)
 ·rintro e a w'⟨rfl,h1,h2,h3⟩;have hu:=HU.out;cases c₀
  simp_all [bodyPostS,results,Tryz.results52]
 go_upto_region 3 with(fail)
 simp only[Array.replicate_succ,Array.replicate_zero,List.push_toArray,List.setIfInBounds_toArray,List.set_cons_zero,List.set_cons_succ,List.append_toArray,List.nil_append,List.cons_append];have⟨w1,hw1⟩:=xq (w.alloc (.cells #[I st,I cd] 98));have hg1:=jy hw1;have mJ:=aF (dZ hw1);have kF:=bI HX hg1;have bC:=bI HR hg1;rw[<-hw1];have hrl:rb<w.heap.size:=HR.lt;have I_:=aF hg1;clear hw1 hg1 I9 x0;refine G5 aL (λX=>X.cell? (xb,0)=some (.pointer (some (rb,0)))/\X.cell? (w,0)=some (I st)/\X.cell? (w,1)=some (I cd)) [(0,0),(0,1),(0,2),(0,3),(0,4),(0,5),(0,6),(0,7),(0,8),(1,9),(0,10),(0,11),(0,12),(2,13)] aL ?hS ?_
 case hS=>intro wd hh;exact⟨aO kF.out hh 0,aO mJ.out hh 0,aO mJ.out hh 1⟩
 intro wd hh hgd hS;have dA:=bC.kept hgd aH;have tE:=kF.kept hgd aH;have htd:=mJ.kept hgd aH;obtain⟨y6,hy6⟩:∃y,cs0[6]? =some y:=⟨_,ah (by rw[HL.out];omega)⟩;obtain⟨y7,hy7⟩:∃y,cs0[7]? =some y:=⟨_,ah (by rw[HL.out];omega)⟩;have c6:=(dA.cell 6).trans hy6;have z6:=dA.frozen 6;have hg2:=bO wd rb 6 (I st);have hr2:=dA.set 6 (I st);have c7:=(hr2.cell 7).trans ((List.getElem?_set_ne aG).trans hy7);have z7:=hr2.frozen 7;have aY:=aF (tE.kept hg2 (by simpa using hne));have fe:=aF (htd.kept hg2 ct);have hg3:=bO (wd.setCell (rb,6) (I st)) rb 7 (I cd);have bL:=aF (hr2.set 7 (I cd));have EI:Hid (w.grownBy ((wd.setCell (rb,6) (I st)).setCell (rb,7) (I cd)) (some rb)):=((YK (I_.out.trans hgd)).trans hg2).trans hg3;clear hh hgd dA tE htd hy6 hy7 hg2 hr2 hg3;refine dS ?_;go_wp2;refine bw ⟨aY.cell 0,fe.cell 0,fe.cell 1⟩ λhS=> ?_
 clear c6 z6;refine Ek ?_;refine nu ?_;go_wp2;refine iG ?_;refine kK ?_;exact⟨rfl,rfl,EI,bL⟩
end
section
open Go.RowKit Go.Shelf
def jH {α:Type} (most:Int) (r:b6 α):Prop:=∀a cd s,r= .stop a cd s->a≠1/\(a=0->cd=0/\most<=(s.steps:Int))
theorem jH.ok {α:Type} {most:Int} {v:α} {s:aV}:jH most (.ok v s):=λ_ _ _ h=>by cases h
theorem jH.stop {α:Type} {most a cd:Int} {s:aV} (h0:a≠0) (h1:a≠1):jH (α:=α) most (.stop a cd s):=λ_ _ _ h=>by
 injection h with e1 e2 e3
 subst e1
 exact⟨h1,λh=>absurd h h0⟩
theorem jH.spent {α:Type} {most:Int} {s:aV} (h:most<=(s.steps:Int)):jH (α:=α) most (.stop 0 0 s):=λ_ _ _ h'=>by
 injection h' with e1 e2 e3
 subst e1 e2 e3
 exact⟨aG,λ_=>⟨rfl,h⟩⟩
theorem NK {α β:Type} {most:Int} {x:b6 α} {F:α->aV->b6 β} (h:jH most x) (hF:∀v s,x= .ok v s->jH most (F v s)):jH most (x.bind F):=by
 cases x with
 |stop a b s=>
  intro a' cd s' he;have he':b6.stop a b s= .stop a' cd s':=he;injection he' with e1 e2 e3;subst e1 e2 e3;exact h _ _ _ rfl
 |ok v s=>exact hF v s rfl
theorem QU {most:Int} {R:Nat} {f:LE->aV->b6 Int} (hu:∀{e s n s'},f e s= .ok n s'->mh 1 s s') (h:∀e s,left most s<=R->jH most (f e s)):∀(l:List LE) (s:aV),left most s<=R->jH most (dw f l s)
 | [],s,_=>jH.ok
 |e::l,s,hs=>by
  have h1:=h e s hs
  rw[dw]
  cases he:f e s with
  |stop a b t=>
   rw[he]at h1
   intro a' cd s' heq
   injection heq with e1 e2 e3
   subst e1 e2 e3
   exact h1 _ _ _ rfl
  |ok n t=>
   have h2:=QU hu h l t (az (ua (hu he)) hs)
   simp only
   cases hl:dw f l t with
   |stop a b u=>
    rw[hl]at h2
    intro a' cd s' heq
    injection heq with e1 e2 e3
    subst e1 e2 e3
    exact h2 _ _ _ rfl
   |ok ns u=>exact jH.ok
theorem Nv {most:Int} {R:Nat} {f:bM->LS->aV->b6 (Int×bM)} (hu:∀{c x s q s'},f c x s= .ok q s'->mh 1 s s') (h:∀c x s,left most s<=R->jH most (f c x s)):∀(l:List LS) (c:bM) (s:aV),left most s<=R->jH most (eO f l c s)
 | [],_,_,_=>jH.ok
 |x::l,c,s,hs=>by
  have h1:=h c x s hs
  rw[eO]
  cases he:f c x s with
  |stop a b t=>
   rw[he]at h1
   intro a' cd s' heq
   injection heq with e1 e2 e3
   subst e1 e2 e3
   exact h1 _ _ _ rfl
  |ok r t=>
   simp only
   split
   ·exact Nv hu h l r.2 t (az (ua (hu he)) hs)
   ·exact jH.ok
structure ZY (most:Int) (R:Nat) (m:j6):Prop where
 expr:∀d vs e s,2*left most s+1<=R->jH most (m.expr d vs e s)
 stmt:∀d c x s,2*left most s+1<=R->jH most (m.stmt d c x s)
 loop:∀d c x s,2*left most s+2<=R->jH most (m.loop d c x s)
theorem Yg {most:Int} {R:Nat} {p:LP} {m:j6} (hm:m.Up) (h:ZY most R m) (d:Nat) (x:aK) (args:List Int) (s:aV) (hs:2*left most s+1<=R):jH most (lM p m.stmt d x args s):=by
 unfold lM;have h1:=Nv (most:=most) (R:=left most s) (λh=>hm.stmt h) (λc x s' hs'=>h.stmt (d+1) c x s' aG) (funcAt p x).body ⟨oN (funcAt p x) args,0⟩ s fQ;cases hl:eO (m.stmt (d+1)) (funcAt p x).body ⟨oN (funcAt p x) args,0⟩ s with
 |stop a b u=>
  rw[hl]at h1;intro a' cd s' heq;injection heq with e1 e2 e3;subst e1 e2 e3;exact h1 _ _ _ rfl
 |ok q u=>exact jH.ok
theorem YH (p:LP) (most:Int):∀k,ZY most k (cz p most k)
 |0=>⟨λ_ _ _ _ h=>by omega,λ_ _ _ _ h=>by omega,λ_ _ _ _ h=>by omega⟩
 |k+1=>by
  have h:=YH p most k
  have hm:=sK p most k
  have hv:∀{d vs e s n s'},(cz p most k).expr d vs e s= .ok n s'-> ¬most<=(s.steps:Int):=Q8
  have⟨m,sU⟩:=xq (cz p most k)
  have e1:cz p most (k+1)=⟨iA p most m,jG p most m,kz m⟩:=by rw[sU];rfl
  rw[<-sU]at h hm hv
  rw[e1]
  clear sU e1
  refine⟨λd vs e s hs=> ?_,λd c x s hs=> ?_,λd c x s hs=> ?_⟩
  ·show jH most (iA p most m d vs e s)
   by_cases h1:most<=(s.steps:Int)
   ·unfold iA;rw[if_pos h1];exact jH.spent h1
   have h2:=Hh h1
   rw[JR _ _ _ _ _ _ _ h1]
   refine NK (QU (R:=left most (tick s)) (λh=>hm.expr h) (λe s' hs'=>h.expr d vs e s' aG) _ _ fQ) (λv u hu=> ?_)
   have h3:=ua (most:=most) (vZ (λh=>hm.expr h) _ _ _ _ hu).1
   unfold jV
   repeat' split
   all_goals first
    |exact jH.ok
    |exact jH.stop aG aG
    |exact Yg hm h _ _ _ _ aG
  ·show jH most (jG p most m d c x s)
   by_cases h1:most<=(s.steps:Int)
   ·unfold jG;rw[if_pos h1];exact jH.spent h1
   have h2:=Hh h1
   rw[JT _ _ _ _ _ _ _ h1]
   by_cases h4:x.kind=4
   ·rw[if_pos h4];exact h.loop d c x _ aG
   rw[if_neg h4]
   by_cases h5:x.kind=5
   ·rw[if_pos h5];exact jH.ok
   rw[if_neg h5]
   by_cases h6:x.kind=6
   ·rw[if_pos h6];exact jH.ok
   rw[if_neg h6]
   refine NK (QU (R:=left most (tick s)) (λh=>hm.expr h) (λe s' hs'=>h.expr d c.vars e s' aG) _ _ fQ) (λv u hu=> ?_)
   have h3:=ua (most:=most) (vZ (λh=>hm.expr h) _ _ _ _ hu).1
   unfold xO
   by_cases h7:x.kind=3
   ·have n1: ¬x.kind=1:=aG
    have n2: ¬x.kind=2:=aG
    rw[if_neg n1,if_neg n2,if_pos h7]
    exact Nv (R:=left most u) (λh=>hm.stmt h) (λc x s' hs'=>h.stmt d c x s' aG) _ _ _ fQ
   rw[if_neg h7]
   repeat' split
   all_goals first
    |exact jH.ok
    |exact jH.stop aG aG
  ·show jH most (kz m d c x s)
   rw[NW]
   refine NK (h.expr d c.vars _ s aG) (λn u hu=> ?_)
   have h1:=Rg (most:=most) (hm.expr hu)
   have h0:left most s≠0:=by have:=hv hu;unfold left;omega
   by_cases hn:n=0
   ·rw[if_pos hn];exact jH.ok
   rw[if_neg hn]
   refine NK (Nv (R:=left most u) (λh=>hm.stmt h) (λc x s' hs'=>h.stmt d c x s' aG) _ _ _ fQ) (λq v hv'=> ?_)
   have h3:=ua (most:=most) (EZ (λh=>hm.stmt h) _ _ _ _ _ hv')
   split
   ·exact jH.ok
   split
   ·exact jH.ok
   exact h.loop d q.2 x v aG
def Rd (c:Nat) (more:List Int) (s t:aV):Prop:=∃j:Nat,t={s with inp:=s.inp++(List.replicate j (-1)++more)}/\c<=j+s.steps
def VO {α:Type} (c:Nat) (more:List Int):b6 α->b6 α->Prop
 | .ok v s, .ok w t=>v=w/\Rd c more s t
 | .stop a b s, .stop a' b' t=>a=a'/\b=b'/\Rd c more s t
 |_,_=>False
structure RdM (most:Int) (more:List Int) (m:j6):Prop where
 expr:∀c:Nat,most+1<=c->∀d vs e s t,Rd c more s t->VO c more (m.expr d vs e s) (m.expr d vs e t)
 stmt:∀c:Nat,most+1<=c->∀d k x s t,Rd c more s t->VO c more (m.stmt d k x s) (m.stmt d k x t)
 loop:∀c:Nat,most+1<=c->∀d k x s t,Rd c more s t->VO c more (m.loop d k x s) (m.loop d k x t)
abbrev A6 (n:Int):LE:= .mk 1 0 n [] []
abbrev prS (n:Int):LS:= .mk 8 [] [A6 n] [] []
abbrev rtS (n:Int):LS:= .mk 7 [] [A6 n] [] []
def pP (l:List Int) (c:Int):LP:=⟨[],[⟨dX,[],[],l.map prS++ [rtS c]⟩]⟩
abbrev st0 (p:LP) (inp:List Int):aV:=⟨inp,p.arrays.map λa=>List.replicate a.size.toNat 0,[],0⟩
def qF:b6 Int->LR
 | .stop a b s=>⟨a,b,s.out,s.steps⟩
 | .ok n s=>⟨1,n,s.out,s.steps⟩
theorem JX (p:LP) (fuel:Nat) (inp:List Int) (most:Int):runM p fuel inp most=qF (lM p (cz p most fuel).stmt 0 dX [] (st0 p inp)):=by
 unfold runM;show(match lM p (cz p most fuel).stmt 0 dX [] (st0 p inp)with| .stop a b s=>_| .ok n s=>_:LR)=_;cases lM p (cz p most fuel).stmt 0 dX [] (st0 p inp)<;>rfl
structure ajG (n:Nat) (a b:LR):Prop where
 within:a.steps<=n
 steps:a.steps<=b.steps
 out:a.out<+:b.out
 same:a.status≠0->a=b
 going:a.status=0->a.steps=n/\a.code=0
theorem ahP (p:LP) (inp:List Int) (n m k:Nat) (hk:2*m+1<=k) (hn:n<=m):ajG n (runM p k inp n) (runM p k inp m):=by
 rw[JX,JX];have h1:=Y9 (b:=(m:Int)) (p:=p) (Zt p (show(n:Int)<=m by omega) k) (JH (Jz m) p k) 0 dX [] (st0 p inp);have h2:=QJ (Xo n) (p:=p) (JH (Xo n) p k) 0 dX [] (st0 p inp);have h3:=Yg (most:=n) (p:=p) (sK p n k) (YH p n k) 0 dX [] (st0 p inp) (by unfold left;simp only;omega);have⟨x,hx⟩:=xq (lM p (cz p n k).stmt 0 dX [] (st0 p inp));have⟨y,hy⟩:=xq (lM p (cz p m k).stmt 0 dX [] (st0 p inp));rw[<-hx]at h1 h2 h3|-;rw[<-hy]at h1|-;clear hx hy;have h4:(qF x).steps<=n:=by
  have:(x.fin.steps:Int)<=n:=h2 (by show((0:Nat):Int)<=n;omega);cases x<;>(simp only[b6.fin]at this;simp only[qF];omega)
 have h5:(qF x).status=0->(qF x).steps=n/\(qF x).code=0:=by
  cases x with
  |ok v s=>intro h;simp [qF]at h
  |stop a b s=>
   intro h;obtain⟨-,h6⟩:=h3 a b s rfl;obtain⟨h7,h8⟩:=h6 h;exact⟨by simp only[qF]at h4|-;omega,h7⟩
 rcases h1 with h1|⟨s,h1,h6,h7⟩
 ·rw[<-h1];exact⟨h4,ay _,List.prefix_refl _,λ_=>rfl,h5⟩
 ·rw[h1]at h4 h5|-;refine⟨h4, ?_, ?_,λh=>absurd rfl h,h5⟩
  ·cases y<;>exact h7.1
  ·cases y<;>exact h7.2
def Oy:Nat->LE->Prop
 |0,_=>False
 |d+1,e=>(e.kind=1/\e.args= [])\/(e.kind=3/\(∀a,(qp e.op a).isSome)/\∃a,e.args= [a]/\Oy d a)\/(e.kind=4/\∃a b,e.args= [a,b]/\Oy d a/\Oy d b)
def Ku:Nat->LE->Option Int
 |0,_=>none
 |d+1,e=>if e.kind=1 then some e.n else
  if e.kind=3 then(Ku d (e.args.getD 0 e)).bind (qp e.op)else
  (Ku d (e.args.getD 0 e)).bind λa=>(Ku d (e.args.getD 1 e)).bind (fC e.op a)
def Vi:Nat->LE->Nat
 |0,_=>0
 |d+1,e=>if e.kind=1 then 1 else if e.kind=3 then Vi d (e.args.getD 0 e)+1 else Vi d (e.args.getD 0 e)+Vi d (e.args.getD 1 e)+1
def apo (_:Int) (sz:Nat) (v:Option Int) (s:aV) (r:b6 Int):Prop:=match v with
 |some n=>r= .ok n {s with steps:=s.steps+sz}
 |none=>∃j,j<=sz/\r= .stop 2 0 {s with steps:=s.steps+j}
def vP (e:LE):LP:=⟨[],[⟨dX,[],[],[.mk 8 [] [e] [] []]⟩]⟩
def apq (v:Option Int) (r:LR):Prop:=match v with
 |some n=>r.status=1/\r.code=0/\r.out= [n]
 |none=>r.status=2/\r.out= []
end
section
open Go.RowKit Go.Shelf
attribute [local go_sem] Oper.semAt_some
def ZJ (c:cH) (w:World) (r:b6 Int):Prop:=
 ∃iv ov d,Row w c.rb 78 [c.av,c.fv,iv,c.eW,I d,I c.most,I (qF r).status,I (qF r).code,ov,I (qF r).steps]/\bZ w 0 ov (qF r).out
theorem QK {P:Program} {fn:Func} {t t':Array Value} {R:Ending->World->Prop} (h:fn.results= #[]):∀(ds:List Deferred) (u:FrameMode) (w:World),Leaves P fn t R ds u w->Leaves P fn t' R ds u w
 | [], .returning,w,hl=>by
  obtain⟨v,h1,h2⟩:=hl
  refine⟨v, ?_,h2⟩
  rw[<-h1,results_none h,results_none h]
 | [], .panicking _,_,hl=>hl
 | [], .run,_,hl=>hl.elim
 |d::ds,u,w,hl=>by
  obtain⟨h1,fv,cap,f,args,h2,h3,h4⟩:=hl
  refine⟨h1,fv,cap,f,args,h2,h3,h4.mono ?_⟩
  intro e u' w' hh
  cases e with
  |returned _=>exact QK h ds _ _ hh
  |panicked _=>exact QK h ds _ _ hh
  |outgrown=>exact hh
theorem WZ {R:Ending->World->Prop} (c:List PanicEntry) (dst:Option Nat) (v:Value) (a:Act) (w:World) (h:bodyPostD Tryz.prog Tryz.f32 R (.panic c) (a.put dst v) w):bodyPostD Tryz.prog Tryz.f32 R (.panic c) a w:=by
 cases dst<;>exact QK rfl _ _ _ h
theorem Nj {P Q:Prop} (h:Q) (k:xR Q->P:=by(intro hq;(repeat(first|(refine EW fV (by assumption) (λ_ _ _ h=>WZ _ _ _ _ _ h) ?_;simp only[Act.put,List.setIfInBounds_toArray,List.set_cons_zero,List.set_cons_succ])|(refine yJ (v:= ?_) fV ?_ (by assumption) (λ_ _ _ h=>WZ _ _ _ _ _ h) ?_;rotate_left;(·(intro wS hSw;(try dsimp only at hSw);go_simp;(first|done|with_reducible rfl)));simp only[Act.put,List.setIfInBounds_toArray,List.set_cons_zero,List.set_cons_succ])));exact hq.out)):P:=k ⟨h⟩
theorem ahg (c:cH) (hp:XP c.p) (K:Nat) (F:Nat->Prop) (W:World) (s:aV) (h:ER c F W 0 s) (hR:2*left c.most s+1<=K):
  Calls Tryz.prog 32 #[.pointer (some (c.rb,0))] W λe w'=>e= .returned (.tuple #[])/\KF F W w'/\ZJ c w' (lM c.p (cz c.p c.most K).stmt 0 dX [] s):=by
 have s9:∀(fn:Fn) (first cap:Array Value) (w:World),(Instr.makeFunc fn first cap).run Tryz.prog w= .ok (.func fn first cap) w:=λ_ _ _ _=>rfl;obtain⟨j,hj,hjl,j5⟩:=hp.main;obtain⟨iv,ov,hrun⟩:=h.run;have hpx:=h.b.px;obtain⟨aa,ac,fa,fc,e1,e2⟩:=hpx.slice;have E1:=aF e1;have E2:=aF e2;rw[e1,e2]at hpx;simp only[yS,e1,e2]at hrun;obtain⟨b,o,C,rfl,yD,hC,hrx⟩:=hpx.funcs.at hjl;have hfn:funcAt c.p dX=c.p.funcs[j]:=by rw[funcAt,hj,qJ,Int.toNat_natCast,List.getD_eq_getElem?_getD,ah hjl];rfl
 have⟨f,hf⟩:=xq (c.p.funcs[j]);have ng:∀x∈f.body,YS c.p x:=by rw[hf];exact hp.body _ (ak hjl)
 rw[<-hf]at hfn hrx j5;obtain⟨hn0,gV,eD,jm⟩:=hrx;obtain⟨pa,pc,hp1, -⟩:=id gV;obtain⟨la,lc,nY, -⟩:=id eD;obtain⟨ba,bc,hb1⟩:=jm.slice;have e0:=hC 0 aG;have rC:=hC 1 aG;have e2':=hC 2 aG;have e3:=hC 3 aG;rw[hn0]at e0;rw[hp1]at rC gV;rw[nY]at e2' eD;rw[hb1]at e3 jm;simp only[aA]at e0 rC e2' e3;have⟨pl,hpl⟩:=xq f.params.length;have⟨ll,hll⟩:=xq f.locals.length;have⟨bl,hbl⟩:=xq f.body.length;rw[<-hpl]at rC gV;rw[<-hll]at e2' eD;rw[<-hbl]at e3 jm;have⟨rb,cy⟩:=xq c.rb;rw[<-cy]at hrun|-;have⟨w1,hw1⟩:=xq (W.alloc (.cells #[.pointer (some (rb,0))] 75));have dO:=hw1.symm;have hg1:=jy hw1;have hx1:=dZ hw1;have ab1:=gI hw1;have hE1:ER c (λb=>F b\/b=W.heap.size) w1 0 s:=h.add hg1 aJ (λb hb=>⟨aG,by rw[hb];exact hx1.lt⟩);have hk1:KF F W w1:=h.kf hg1 aJ;have hr1:=hrun.kept hg1 aH;have eG:=aF (λW' (hb:Below W W W')=>Dy c.p dX _ _ W' c.G (hpx.below hb));rw[hj]at eG;have⟨an,dI⟩:=xq c.p.arrays.length;have⟨fn,hfn'⟩:=xq c.p.funcs.length;rw[<-dI,<-hfn']at hr1 eG;rw[<-dI]at E1;rw[<-hfn']at E2;rw[<-hfn']at hjl;have Mi: ¬(j:Int)<0:=aG;have hjn:(j:Int)<(fn:Int):=aG;have kF:=aF hx1;have iI:=aF hr1;have aI:=aF ab1;have pY:=aF hE1;have pI:=aF hk1;have HH:=aF h;have bF:=aF cy;have HG:=aF yD;have eT:=aF hfn;have bE:=aF ng;have vN:=aF gV;have ru:=aF eD;have AH:=aF jm;have cU:=aF (aS e0 hg1 aH);have nW:=aF (aS rC hg1 aH);have FM:=aF (aS e2' hg1 aH);have FO:=aF (aS e3 hg1 aH);have HR:=aF hR;have HP:=aF hp;have zC:=aF j5;have vh:=aF hpl;obtain⟨Q,hQ⟩:∃Q:World->Prop,Q=λw'=>KF F W w'/\ZJ c w' (lM c.p (cz c.p c.most K).stmt 0 dX [] s):=⟨_,rfl⟩;have HQ:=aF hQ
 suffices kN:Calls Tryz.prog 32 #[.pointer (some (rb,0))] W (λe w'=>e= .returned (.tuple #[])/\Hid (Q w'))from kN.mono λe w' h=>⟨h.1,by have:=h.2.out;rwa[HQ.out]at this⟩
 clear h hp hR hj j5 hrun hpx e1 e2 hC hfn hf ng hn0 gV eD jm hp1 nY hb1 e0 rC e2' e3 hpl hll hbl cy hw1 hg1 hx1 ab1 hE1 hk1 hr1 dI hfn' yD hQ;go_enter_defers Tryz.func32,Tryz.ntmps32
 go_upto_region 2 with(fail)
 clear s9;refine cC (λX=>X.cell? (W,0)=some (.pointer (some (rb,0)))/\X.cell? (rb,0)=some (.slice aa an ac)/\X.cell? (rb,1)=some (.slice (some (b,o)) fn fc)/\X.cell? (b,o+j*4)=some (S f.name)/\X.cell? (b,o+j*4+1)=some (.slice pa pl pc)/\X.cell? (b,o+j*4+2)=some (.slice la ll lc)/\X.cell? (b,o+j*4+3)=some (.slice ba bl bc)) [0,0,0,0,0,0,0,0,0,0,1,0,0,1,0] (λwd hh=>⟨aO kF.out hh 0,aO iI.out hh 0,aO iI.out hh 1,eP hh cU,eP hh nW,eP hh FM,eP hh FO⟩) λwd hh hgd hS=> ?_;have bK:=dF aI hgd;have FQ:=aF (show Below w1 w1 wd from⟨hgd.os,hgd.tape,hgd.output,hgd.size,λk hk=>hgd.block k hk aH⟩);clear hh hgd;refine Bg ?_;refine Nj ?_;refine h_ ?_;go_wp2_with (go_at_call 48;refine aN (eG _ bK) λw4 hb4=> ?_;have aR:=aU FQ hb4;clear hS)
 refine bw ⟨(kF.ext aR).cell 0,(iI.ext aR).cell 0,(iI.ext aR).cell 1,aS cU (aT aR) aH,aS nW (aT aR) aH,aS FM (aT aR) aH,aS FO (aT aR) aH⟩ λhS=> ?_;refine Nj ?_;have Dd:ER c (λb=>F b\/b=W.heap.size) w4 0 s:=pY.below aR;have hkk:∀b,c.G b->w4.heap[b]? =W.heap[b]? :=λb hb=>(aR.block b (pY.b.lt b (.inl (HH.b.gf b hb)))).trans (aI.block b (HH.b.lt b (HH.b.gf b hb)));have hcall:=afy c HP K _ w4 0 s f (S f.name) _ _ _ (.slice none 0 0) [] Dd (vN.on hkk λ_ _ h=>h) (ru.on hkk λ_ _ h=>h) (AH.on hkk) bE (by rw[zC.out];rfl) (aP.nil _ _ _ _) HR aG;rw[<-bF.out]at hcall;have⟨r5,bp⟩:=xq (lM c.p (cz c.p c.most K).stmt 0 dX [] s);rw[show pT (cz c.p c.most K).stmt 0 f [] s=r5 by rw[bp,N4,eT.out]]at hcall;rw[<-bp]at HQ;have jk:=aF hcall;have bR:Hid (KF F W w4):=pI.out.trans ((KF.below aR pY.b.lt).mono λb hb=> .inl hb);clear hS Dd hkk hcall bp;refine h_ ?_;cases r5 with
 |stop a b' s5=>
  go_wp2_with (go_at_call 53;refine jk.mono ?_;rintro e' w5⟨cg,rfl,d',dL⟩;have dG:=aF cg;have cZ:=aF dL;clear cg dL)
  obtain⟨Da,Db,Ff,ab2,xX,ab3⟩:=cZ.st;rw[<-bF.out]at Ff;have kD:=dG.row (kF.ext aR) (.inr rfl);have hrl:rb<W.heap.size:=by rw[bF.out];obtain⟨_,_,hh⟩:=HH.run;exact hh.lt
  refine leaves_cons (f:=52) (args:= #[.pointer (some (W,0))]) aH (by simp [go_sem]) ?_;refine(afH W rb a b' _ w5 kD Ff rfl aG).mono ?_;rintro e u' w6⟨rfl,rfl,bG,dU⟩;have dY:=bZ.tag xX bG (ld.box 3 Ff aQ);have A0:KF F W w6:=(bR.out.trans (dG.mono λb hb=> .inl hb)).trans (KF.grown bG (λb hb=>cZ.b.lt b (.inl hb)) (λr e=>by cases e;rw[bF.out];exact HH.b.jJ));have hend:Q w6:=by
   rw[HQ.out];rw[bF.out]at dU;exact⟨A0,Da,Db,d',dU,dY⟩
  exact⟨_,results_none rfl _ _ _,rfl,aF hend⟩
 |ok n s5=>
  go_wp2_with (go_at_call 53;refine jk.mono ?_;rintro e' w5⟨cg,rfl,dL⟩;have dG:=aF cg;have cZ:=aF dL;clear cg dL)
  obtain⟨Da,Db,bp⟩:=cZ.run;simp only[yS,E1.out,E2.out]at bp;rw[<-bF.out]at bp;have zj:w5.heap[b]? =w4.heap[b]? :=dG.block b (.inl (HH.b.gf b HG));refine bw ⟨(dG.row (kF.ext aR) (.inr rfl)).cell 0,bp.cell 0,bp.cell 1,(A4 zj).trans (aS cU (aT aR) aH),(A4 zj).trans (aS nW (aT aR) aH),(A4 zj).trans (aS FM (aT aR) aH),(A4 zj).trans (aS FO (aT aR) aH)⟩ λhS=> ?_;clear bp zj;refine Nj ?_;refine kK ?_;clear hS;go_upto_region 3 with(fail)
  obtain⟨Da,Db,Ff,ab2,xX,ab3⟩:=cZ.st;rw[<-bF.out]at Ff;have rV:=aF (dG.row (kF.ext aR) (.inr rfl));have cL:=aF Ff;have dQ:=aF xX;have hrl:rb<W.heap.size:=by rw[bF.out];obtain⟨_,_,hh⟩:=HH.run;exact hh.lt
  clear Ff xX ab2 ab3;refine G5 aL (λX=>X.cell? (W,0)=some (.pointer (some (rb,0)))) [(0,0),(0,1),(0,2),(0,3),(0,4),(0,5),(1,6),(0,7),(0,8),(0,9),(2,10)] aL ?jL ?_
  case jL=>intro wd hh;exact aO rV.out hh 0
  intro wd hh hgd hS;have dA:=cL.kept hgd aH;have tE:=rV.kept hgd aH;have c6:=dA.cell 6;have z6:=dA.frozen 6;have hg2:=bO wd rb 6 (I 1);have hr2:=dA.set 6 (I 1);have c7:=hr2.cell 7;have z7:=hr2.frozen 7;have hx2:=tE.kept hg2 ct;have hg3:=bO (wd.setCell (rb,6) (I 1)) rb 7 (I n);have hr3:=hr2.set 7 (I n);simp only[ag,af,List.set_cons_succ,List.set_cons_zero]at c6 c7;have hgg:w5.grownBy ((wd.setCell (rb,6) (I 1)).setCell (rb,7) (I n)) (some rb):=((YK hgd).trans hg2).trans hg3;have jY:=bZ.tag (bZ.tag (dQ.kept hgd aJ) hg2 (ld.box 3 dA aQ)) hg3 (ld.box 3 hr2 aQ);have A0:KF F W ((wd.setCell (rb,6) (I 1)).setCell (rb,7) (I n)):=(bR.out.trans (dG.mono λb hb=> .inl hb)).trans (KF.grown hgg (λb hb=>cZ.b.lt b (.inl hb)) (λr e=>by cases e;rw[bF.out];exact HH.b.jJ));have hend:Q ((wd.setCell (rb,6) (I 1)).setCell (rb,7) (I n)):=by
   rw[HQ.out];rw[bF.out]at hr3 A0 jY|-;exact⟨A0,Da,Db,0,hr3,jY⟩
  have yT:=aF (aF hend);have aY:=aF hx2;clear hh hgd dA tE hg2 hr2 hx2 hg3 hr3 hgg jY A0 hend;refine Bg ?_;refine Nj ?_;refine h_ ?_;go_wp2;refine bw (aY.cell 0) λhS=> ?_
  clear c6 z6;refine Nj ?_;refine nu ?_;go_wp2;refine iG ?_;refine kK ?_;clear hS c7 z7;go_wp2;refine leaves_cons (f:=52) (args:= #[.pointer (some (W,0))]) aH (by simp [go_sem]) ?_;refine(agk _ _).mono ?_;rintro e u' w6⟨rfl,rfl,rfl⟩;exact⟨_,results_none rfl _ _ _,rfl,yT.out⟩
end
end Go.Proofs.YtjgbkdbkachciaaGreatDoor
