import Derived.Test.YtjgbkdbkachciaaGreatDoorY4
set_option linter.all false
namespace Go.Proofs.YtjgbkdbkachciaaGreatDoor
set_option maxRecDepth 100000
set_option maxHeartbeats 16000000
section
def YT (ops:Array Oper) (k j:Nat):Bool:=match ops[k]? with
 |some o=>o.after.any λe=>Region.binds .any e&&e.on==j
 |none=>false
def J2 (ops:Array Oper):Nat->Nat->List Nat
 |0,i=> [i]
 |n+1,i=>i::match ops[i]? with
  |some o=>(match o.after[0]? with
   |some e=>if Region.binds .any e then J2 ops n e.on else []
   |none=> [])
  |none=> []
def Fb (ops:Array Oper) (i:Nat):Bool:=(List.range ops.size).all λj=>j==i||(J2 ops 6 i).any λk=>YT ops k j
def DB (ops:Array Oper) (listed:Array Bool):Prop:=∀k o,ops[k]? =some o->listed.getD k false=true->∀e∈o.after,Region.binds .any e=true->listed.getD e.on false=true
theorem Xv (ops:Array Oper) (n:Nat):DB ops (Array.replicate n false):=λk o _ h=>by
 exfalso
 by_cases hk:k<n<;>simp [hk]at h
theorem ae0 {listed:Array Bool} {i:Nat} (h:listed.getD i true=false):(listed.setIfInBounds i true).getD i false=true:=by
 rcases Nat.lt_or_ge i listed.size with h'|h'
 ·simp [h']
 ·simp [Array.getElem?_eq_none h']at h
theorem BV {ops:Array Oper} {listed:Array Bool} {i:Nat} (h:DB ops listed) (hi:i∈Region.ready .any ops listed):DB ops (listed.setIfInBounds i true):=by
 intro k o hk hl e he hb;have hold:listed.getD e.on false=true->(listed.setIfInBounds i true).getD e.on false=true:=λhh=>by
  by_cases hei:i=e.on
  ·rw[<-hei];exact ae0 (mem_ready.1 hi).1
  ·rw[getD_set_ne false hei];exact hh
 by_cases CW:i=k
 ·subst CW;obtain⟨_,o',ho',hall⟩:=mem_ready.1 hi;obtain rfl:o=o':=Option.some.inj (hk.symm.trans ho');exact hold (hall e he hb)
 ·rw[getD_set_ne false CW]at hl;exact hold (h k o hk hl e he hb)
def ZL (ops:Array Oper) (listed:Array Bool) (i:Nat):Prop:=∀o,ops[i]? =some o->∀e∈o.after,Region.binds .any e=true->listed.getD e.on false=true
theorem Yy {ops:Array Oper} {listed:Array Bool} (hc:DB ops listed):∀(n i:Nat),ZL ops listed i->∀k∈J2 ops n i,ZL ops listed k
 |0,i,h,k,hk=>by simp [J2]at hk;subst hk;exact h
 |n+1,i,h,k,hk=>by
  rw[J2,List.mem_cons]at hk
  rcases hk with rfl|hk
  ·exact h
  ·cases ho:ops[i]? with
   |none=>rw[ho]at hk;simp at hk
   |some o=>
    rw[ho]at hk
    simp only at hk
    cases he:o.after[0]? with
    |none=>rw[he]at hk;simp at hk
    |some e=>
     rw[he]at hk
     simp only at hk
     split at hk
     ·next hb=>
      have hl:=h o ho e (Array.mem_of_getElem? he) hb
      exact Yy hc n e.on (λo' ho'=>hc e.on o' ho' hl) k hk
     ·simp at hk
theorem afo {ops:Array Oper} {listed:Array Bool} {i j:Nat} (hc:DB ops listed) (hi:i∈Region.ready .any ops listed) (hs:Fb ops i=true) (hj:j<ops.size) (hne:j≠i):listed.getD j false=true:=by
 obtain⟨_,o,ho,hall⟩:=mem_ready.1 hi;simp only[Fb,List.all_eq_true,List.mem_range,Bool.or_eq_true,beq_iff_eq,List.any_eq_true]at hs;rcases hs j hj with h|⟨k,hk,ha⟩
 ·exact absurd h hne
 ·have hA:=Yy hc 6 i (λo' ho'=>by obtain rfl:=Option.some.inj (ho.symm.trans ho');exact hall) k hk;unfold YT at ha;cases hok:ops[k]? with
  |none=>rw[hok]at ha;simp at ha
  |some ok=>
   rw[hok]at ha;simp only at ha;obtain⟨e,he,hb⟩:=Array.any_eq_true'.1 ha;simp only[Bool.and_eq_true,beq_iff_eq]at hb;rw[<-hb.2];exact hA ok hok e he hb.1
section
variable {P:Program} {ops:Array Oper} {Q:Exit->Act->World->Prop} {S:World->Prop}
def Hy (P:Program) (ops:Array Oper) (Q:Exit->Act->World->Prop) (S:World->Prop):Nat->Array Bool->Act->World->Prop
 |0,listed,a,w=>Region.ready .any ops listed= []/\Q .normal a w
 |fuel+1,listed,a,w=>
  (Region.ready .any ops listed= []->Q .normal a w)/\
  ∀i∈Region.ready .any ops listed,wpOp P ops Q i (λa' w'=>(Fb ops i=false->S w')/\Hy P ops Q S fuel (listed.setIfInBounds i true) a' w') a w
theorem QM:∀(fuel:Nat) (listed:Array Bool) (a:Act) (w:World),Hy P ops Q S fuel listed a w->wpAny P .any ops Q fuel listed a w
 |0,_,_,_,h=>h
 |fuel+1,_,_,_,h=>⟨h.1,λi hi=>wpOp_mono (λa' w' h'=>QM fuel _ a' w' h'.2) (h.2 i hi)⟩
theorem Xa {i:Nat} {oi:Oper} {v:Value} (hi:ops[i]? =some oi) (oV:∀(j:Nat) (o:Oper) cs b,ops[j]? =some o->o.op≠ .select cs b)
  (hQ:∀c a w,Q (.panic c) (a.put oi.dst v) w->Q (.panic c) a w):
  ∀(fuel:Nat) (listed:Array Bool) (a:Act) (w:World),DB ops listed->
   (∀j oj,ops[j]? =some oj->j≠i->listed.getD j true=false->(∀e∈oj.after,Region.binds .any e=true->e.on≠i)->oi.apart ops oj=true)->
   i∈Region.ready .any ops listed->YieldsIf P ops S oi v a->S w->
   Hy P ops Q S fuel (listed.setIfInBounds i true) (a.put oi.dst v) w->Hy P ops Q S (fuel+1) listed a w:=by
 intro fuel
 induction fuel with
 |zero=>
  intro listed a w _ _ hr hy hS H;refine⟨λh=>(by rw[h]at hr;cases hr),λj hj=> ?_⟩;by_cases p8:j=i
  ·subst p8;exact hy.wpOp hi hS ⟨λ_=>hS,H⟩
  ·have:=ready_mono hj p8;rw[H.1]at this;cases this
 |succ fuel ih=>
  intro listed a w hcl hfree hr hy hS H;refine⟨λh=>(by rw[h]at hr;cases hr),λj hj=> ?_⟩;by_cases p8:j=i
  ·subst p8;exact hy.wpOp hi hS ⟨λ_=>hS,H⟩
  ·have h1:=H.2 j (ready_mono hj p8);obtain⟨Ko,oj,Eg,hall⟩:=mem_ready.1 hj;have hun:=(mem_ready.1 hr).1;have hnl:listed.getD i false≠true:=λh=>by
    rcases Nat.lt_or_ge i listed.size with h'|h'
    ·simp [h']at h hun;rw[hun]at h;cases h
    ·simp [Array.getElem?_eq_none h']at h
   have Oq:∀e∈oj.after,Region.binds .any e=true->e.on≠i:=λe he hb heq=>by
    have h1:=hall e he hb;rw[heq]at h1;exact hnl h1
   have hsk:Fb ops j=false:=by
    cases hs:Fb ops j with
    |false=>rfl
    |true=>exact absurd (afo hcl hj hs (aD hi).1 (Ne.symm p8)) hnl
   have h2:=wpOp_putIf Eg (hfree j oj Eg p8 Ko Oq) (λcs b=>oV i oi cs b hi) (λcs b=>oV j oj cs b Eg) hQ hy h1;have Ru:∀k ok,ops[k]? =some ok->k≠i->(listed.setIfInBounds j true).getD k true=false->
     (∀e∈ok.after,Region.binds .any e=true->e.on≠i)->oi.apart ops ok=true:=λk ok hk CW hun hno=>by
    refine hfree k ok hk CW ?_ hno;by_cases hjk:j=k
    ·subst hjk;exact Ko
    ·rw[getD_set_ne true hjk]at hun;exact hun
   refine wpOp_mono (λa' w' h3=>⟨λ_=>h3.2.1 hsk,ih (listed.setIfInBounds j true) a' w' (BV hcl hj) Ru (ready_mono hr (Ne.symm p8)) h3.1 (h3.2.1 hsk) ?_⟩) h2;rw[Array.setIfInBounds_comm _ _ p8];exact h3.2.2
def Cf (ops:Array Oper):List (Nat×Nat)->Array Bool->Bool
 | [],listed=>(Region.ready .any ops listed).isEmpty
 |(0,i)::r,listed=>(Region.ready .any ops listed).contains i&&Region.free .any ops listed i&&Cf ops r (listed.setIfInBounds i true)
 |(1,i)::r,listed=>decide (Region.ready .any ops listed= [i])&&Cf ops r (listed.setIfInBounds i true)
 |(_+2,i)::r,listed=>decide (Region.ready .any ops listed= [i])&&Fb ops i&&Cf ops r (listed.setIfInBounds i true)
theorem Nq {l:List Oper} (oV:Region.noSelect l.toArray=true):∀(ord:List (Nat×Nat)) (listed:Array Bool) (a:Act) (w:World),DB l.toArray listed->Cf l.toArray ord listed=true->pS P l.toArray Q S (kY l ord) a w->Hy P l.toArray Q S ord.length listed a w
 | [],listed,a,w,_,hB,h=>⟨by simpa [Cf]using hB,h⟩
 |(0,i)::r,listed,a,w,hcl,hB,h=>by
  simp only[Cf,Bool.and_eq_true]at hB
  obtain⟨⟨h1,h2⟩,h3⟩:=hB
  have hr:i∈Region.ready .any l.toArray listed:=by simpa using h1
  obtain⟨_,o,ho,_⟩:=mem_ready.1 hr
  have hp:kY l ((0,i)::r)=(0,o)::kY l r:=by
   have:l[i]? =some o:=by simpa using ho
   simp [kY,this]
  rw[hp]at h;obtain⟨v,hy,hS,hQ,hK⟩:=h;exact Xa ho (Region.noSelect_spec oV) hQ r.length listed a w hcl (Region.free_spec ho h2) hr hy hS (Nq oV r _ _ _ (BV hcl hr) h3 hK)
 |(1,i)::r,listed,a,w,hcl,hB,h=>by
  simp only[Cf,Bool.and_eq_true,decide_eq_true_eq]at hB;obtain⟨h1,h3⟩:=hB;have hr:i∈Region.ready .any l.toArray listed:=by rw[h1];simp
  obtain⟨_,o,ho,_⟩:=mem_ready.1 hr;have hp:kY l ((1,i)::r)=(1,o)::kY l r:=by
   have:l[i]? =some o:=by simpa using ho
   simp [kY,this]
  rw[hp]at h;refine⟨λh0=>(by rw[h1]at h0;cases h0),λj hj=> ?_⟩;rw[h1]at hj;obtain rfl:j=i:=by simpa using hj
  exact wpOp_mono (λa' w' h'=>⟨λ_=>h'.1,Nq oV r _ _ _ (BV hcl hr) h3 h'.2⟩) (Dv ho h)
 |(k+2,i)::r,listed,a,w,hcl,hB,h=>by
  simp only[Cf,Bool.and_eq_true,decide_eq_true_eq]at hB;obtain⟨⟨h1,h2⟩,h3⟩:=hB;have hr:i∈Region.ready .any l.toArray listed:=by rw[h1];simp
  obtain⟨_,o,ho,_⟩:=mem_ready.1 hr;have hp:kY l ((k+2,i)::r)=(k+2,o)::kY l r:=by
   have:l[i]? =some o:=by simpa using ho
   simp [kY,this]
  rw[hp]at h;refine⟨λh0=>(by rw[h1]at h0;cases h0),λj hj=> ?_⟩;rw[h1]at hj;obtain rfl:j=i:=by simpa using hj
  exact wpOp_mono (λa' w' h'=>⟨λhs=>(by rw[h2]at hs;cases hs),Nq oV r _ _ _ (BV hcl hr) h3 h'⟩) (Dv ho h)
theorem G5 {id:Nat} {l:List Oper} {a:Act} {w:World} (hm:P.follows .mixedOrders=true) (S:World->Prop) (ord:List (Nat×Nat))
  (hB:(Region.noSelect l.toArray&&decide (ord.length=l.length)&&Cf l.toArray ord (Array.replicate l.length false))=true)
  (hS:∀wd:World,wd.heap=w.heap->S wd)
  (h:∀wd:World,wd.heap=w.heap->w.grownBy wd none->S wd->pS P l.toArray Q S (kY l ord) a wd):(Code.region id l.toArray true).wp P Q a w:=by
 simp only[Bool.and_eq_true,decide_eq_true_eq]at hB;obtain⟨⟨h1,h2⟩,h3⟩:=hB;refine wp_region_any hm ?_;have:=QM _ _ _ _ (Nq h1 ord _ a _ (Xv _ _) h3 (h {w with drawn:=w.drawn+1} rfl ⟨rfl,rfl,rfl,ay _,λ_ _ _=>rfl⟩ (hS _ rfl)));rw[h2]at this;simpa using this
end
end
section
open Go.RowKit Go.Shelf
attribute [local go_sem] Oper.semAt_some
theorem ahx (c:cH) (R:Nat) (m:j6) (hE:H8 c R m.expr) (hB:J4 c R m.stmt) (hL:ZP c R m.loop) (hu:m.Up):RR c (R+1) (jG c.p c.most m):=by
 intro F W d s k cb mb x av tv ev h cX gu hev hy hR
 suffices kN:Calls Tryz.prog 133 #[.pointer (some (cb,0)),sV x av tv ev] W (λen w'=>Hid (iQ c F cb mb W d (jG c.p c.most m d k x s) en w'))from kN.mono λ_ _ h=>h.out
 have⟨Q,hQ⟩:=xq (iQ c F cb mb W d (jG c.p c.most m d k x s));have HQ:=aF hQ;rw[<-hQ];obtain⟨a0,c0,rfl⟩:=cX.slice;obtain⟨t0,tc,rfl⟩:=gu.slice;obtain⟨e0,ec,rfl⟩:=hev.slice;have⟨sk,hsk⟩:=xq x.kind;have⟨nm,cJ⟩:=xq x.name;obtain⟨al,hal⟩:∃n,n=(LE.mk 0 0 0 [] x.args).args.length:=⟨_,rfl⟩;have⟨tl,htl⟩:=xq x.thn.length;have⟨el,hel⟩:=xq x.els.length;have⟨rb,cy⟩:=xq c.rb;have MJ:=aF (λ(F:Nat->Prop) (W:World) (d:Nat) (s:aV) (k:bM) (cb mb:Nat) av tv ev=>hL F W d s k cb mb x av tv ev);rw[sV,<-hsk,<-cJ,<-hal,<-htl,<-hel];rw[<-hal]at cX;rw[<-htl]at gu;rw[<-hel]at hev;have gm:=aF hsk;have cv:=aF cJ;have jM:=aF hal;have HTL:=aF htl;have Mw:=aF hel;have bF:=aF cy;have sF:=aF cX;have AJ:=aF gu;have MK:=aF hev;have HY:=aF hy;have HR:=aF hR;have HH:=aF h;have HB:=aF hB;have HE:=aF hE;have HU:=aF hu;have⟨w1,hw1⟩:=xq (W.alloc (.cells #[I sk,S nm, .slice a0 al c0, .slice t0 tl tc, .slice e0 el ec] 54));have dO:=hw1.symm;have hx1:=dZ hw1;have hg1:=jy hw1;have hs1:ER c (λb=>F b\/b=W.heap.size) w1 d s:=h.er.add hg1 aJ (λb hb=>⟨aG,by rw[hb];exact hx1.lt⟩);have hk1:KF F W w1:=h.er.kf hg1 aJ;have dh:=hk1.row h.row h.cF;have c10:=dh.cell 0;simp only[af]at c10;rw[<-cy]at c10;have hcb:cb<W.heap.size:=h.er.b.lt cb h.cF;have hmb:mb<W.heap.size:=h.er.b.lt mb h.mF;have kF:=aF hx1;have fI:=aF hs1;have pI:=aF hk1;clear h hQ hsk cJ hal htl hel cy cX gu hev hy hR hB hE hL hu hw1 hx1 hg1 hs1 hk1 dh;by_cases hst:c.most<=(s.steps:Int)
 ·have kU:=aF (Zl c _ w1 d s fI hst);rw[<-bF.out]at kU;have HST:=aF hst;clear hst;go_enter Tryz.func133,Tryz.ntmps133;go_upto_region 2 with(go_at_call 186;refine kU.mono ?_;rintro e' w2⟨rfl,iW,hk2⟩;have lS:=aF iW;have jr:=aF hk2;clear iW hk2)
  refine⟨rfl, ?_⟩;show Hid (Q (.panicked (mz 0 0)) w2);rw[HQ.out];exact aF (iQ.stop (by unfold jG;rw[if_pos HST.out]) ((pI.out.trans (jr.mono λb hb=> .inl hb)).mF cb mb) (lS.less (λb hb=> .inl hb) HH.er.b.gf))
 ·have kU:=aF (YY c _ w1 d s fI hst);rw[<-bF.out]at kU;have htl:=Hh hst;have gD:=aF htl;have jc:=aF (JT c.p c.most m d k x s hst);clear hst htl;go_enter Tryz.func133,Tryz.ntmps133;go_upto_region 2 with(go_at_call 186;refine kU.mono ?_;rintro e' w2⟨rfl,iW,hk2⟩;have lS:=aF iW;have jr:=aF hk2;clear iW hk2)
  have hx2:=jr.row kF (.inr rfl);have c20:=hx2.k0;have c21:=hx2.k1;have PY:=hx2.k2;have PZ:=hx2.k3;have P4:=hx2.k4;have hk2:KF F W w2:=pI.out.trans (jr.mono λb hb=> .inl hb);have hcs:kO c (λb=>F b\/b=W.heap.size) w2 d k (tick s) cb mb:=
   ⟨lS, .inl HH.cF, .inl HH.mF,HH.cG,HH.mG,HH.ne,hk2.row HH.row HH.cF,HH.vars.on (hk2.block mb HH.mF)⟩
  have Im:kO c F w2 d k (tick s) cb mb:=HH.on hk2 (lS.less (λb hb=> .inl hb) HH.er.b.gf);have hkg:∀b,c.G b->w2.heap[b]? =W.heap[b]? :=λb hb=>hk2.block b (HH.er.b.gf b hb);have aY:=aF hx2;have qq:=aF hk2;have BF:=aF hcs;have D6:=aF Im;have Dg:=aF hkg;clear hx2 hk2 hcs Im hkg c10;by_cases h4:sk=4
  ·subst h4;have hlc:=MJ _ w2 d (tick s) k cb mb _ _ _ D6 (sF.on Dg) (AJ.on Dg) (MK.on Dg) HY gm.out.symm (by have:=HR.out;have:=gD.out;omega);rw[sV,<-gm.out,<-cv.out]at hlc;have heq:jG c.p c.most m d k x s=m.loop d k x (tick s):=by rw[jc.out,if_pos gm.out.symm]
   have⟨r,hr⟩:=xq (m.loop d k x (tick s));rw[<-hr]at hlc heq;have mW:=aF hlc;have zl:=aF heq;clear hlc heq hr;cases r with
   |stop a b s2=>
    go_wp2_with (go_at_call 187;refine mW.mono ?_;rintro e' w4⟨hk4,rfl,d',cV⟩;have bR:=aF hk4;have dR:=aF cV;clear hk4 cV)
    refine⟨rfl, ?_⟩;show Hid (Q (.panicked (mz a b)) w4);rw[HQ.out];exact aF (iQ.stop zl ((qq.mF cb mb).trans bR.out) dR)
   |ok q s2=>
    go_wp2_with (go_at_call 187;refine mW.mono ?_;rintro e' w4⟨hk4,rfl,cV⟩;have bR:=aF hk4;have dR:=aF cV;clear hk4 cV)
    go_ret;rw[HQ.out];exact aF (iQ.ok zl ((qq.mF cb mb).trans bR.out) dR)
  by_cases h5:sk=5
  ·subst h5;go_wp2;go_ret;rw[HQ.out];exact aF (iQ.ok (q:=(1,k)) (by rw[jc.out,if_neg (cw gm),if_pos gm.out.symm]) (qq.mF cb mb) D6)
  by_cases h6:sk=6
  ·subst h6;go_wp2;go_ret;rw[HQ.out];exact aF (iQ.ok (q:=(2,k)) (by rw[jc.out,if_neg (cw gm),if_neg (cw gm),if_pos gm.out.symm]) (qq.mF cb mb) D6)
  have pH:=sF.on Dg;obtain⟨dd,pH⟩:=pH;have eY:=aF (YU c R m.expr HE (λ_ _ _ _ _ _ h=>HU.expr h) _ w2 d (tick s) k cb mb x.args _ BF (⟨dd,pH⟩:AX c.G w2 (.slice a0 al c0) x.args) HY.own.2.2 (by have:=HR.out;have:=gD.out;omega));have heq:jG c.p c.most m d k x s=(dw (m.expr d k.vars) x.args (tick s)).bind (xO c.p m d k x):=by
   rw[jc.out,if_neg (by rw[<-gm.out];exact h4),if_neg (by rw[<-gm.out];exact h5),if_neg (by rw[<-gm.out];exact h6)]
  have⟨r,hr⟩:=xq (dw (m.expr d k.vars) x.args (tick s));rw[<-hr]at eY heq;have zl:=aF heq;have fP:=aF hr;clear pH heq hr;cases r with
  |stop a b s2=>
   go_upto_region 10 with(go_at_call 188;refine eY.mono ?_;rintro e' w3⟨hk3,rfl,d',iM⟩;have gy:=aF hk3;have iz:=aF iM;clear hk3 iM)
   refine⟨rfl, ?_⟩;show Hid (Q (.panicked (mz a b)) w3);rw[HQ.out];exact aF (iQ.stop zl ((qq.out.trans (gy.mono λb hb=> .inl hb)).mF cb mb) (iz.less (λb hb=> .inl hb) HH.er.b.gf))
  |ok ns s2=>
   go_upto_region 10 with(go_at_call 188;refine eY.mono ?_;rintro e' w3⟨hk3,ov,rfl,jY,iM⟩;have gy:=aF hk3;have iz:=aF iM;have eU:=aF jY;clear hk3 iM jY)
   have hx3:=gy.row aY (.inr rfl);have hk3:KF F W w3:=qq.out.trans (gy.mono λb hb=> .inl hb);have hnl:=vZ (λh=>HU.expr h) _ _ _ _ fP.out.symm;have tM:kO c F w3 d k s2 cb mb:=HH.on hk3 (iz.less (λb hb=> .inl (.inl hb)) HH.er.b.gf);have gL:=aF hnl;have bq:=aF hx3;have gj:=aF hk3;have bk:=aF tM;have d0:=hx3.k0;have d1:=hx3.k1;have d3:=hx3.k3;have d4:=hx3.k4;have r0:=tM.row.k0;have r1:=tM.row.k1;have P5:=tM.row.frozen 2;rw[<-bF.out]at r0;clear hx3 hk3 hnl tM c20 c21 PY PZ P4;have hT:jG c.p c.most m d k x s=xO c.p m d k x ns s2:=zl.out;unfold xO at hT;rw[<-gm.out,<-cv.out]at hT;have HT:=aF hT;clear hT;by_cases h1:sk=1
   ·subst h1;obtain⟨n0,rfl⟩:=List.length_eq_one_iff.1 (gL.2.trans (HY.own.1 (cw gm)));obtain⟨g,cap,rfl,hc0⟩:=eU.cell (i:=0) (x:=n0) rfl;simp only[aq,au,Nat.zero_add]at*;have cU:=aF hc0;have fe:=aF (HT.out.trans (if_pos trivial));clear hc0;go_upto_region 12 with(fail)
    refine cC (λX=>X.cell? (cb,1)=some (.map (some mb))/\X.cell? (W,1)=some (S nm)/\X.cell? (g,0)=some (I n0)) [0,0,0,0,0,0,0,0,0,2] (λwd hh=>⟨aO bk.row hh 1,aO bq.out hh 1,eP hh cU⟩) λwd hh hgd hS=> ?_;have tW:=bk.quiet hgd;obtain⟨w4,hrun,hv4,hg4,hsz⟩:=Ro tW.vars nm n0;have xw:kO c F w4 d {k with vars:=upd k.vars nm n0} s2 cb mb:=⟨tW.er.wrote hg4 tW.mF tW.mG,tW.cF,tW.mF,tW.cG,tW.mG,tW.ne,tW.row.kept hg4 (by have:=tW.ne;simp;omega),hv4⟩;have hk4:KF (Go.Proofs.YtjgbkdbkachciaaGreatDoor.mF F cb mb) W w4:=((gj.out.trans (bk.er.kf hgd aJ)).mF cb mb).trans (KF.grown hg4 (λb hb=>tW.er.b.lt b hb.1) (λr e hm=>by cases e;exact hm.2.2 rfl));have Gz:=aF xw;have bR:=aF hk4;clear hh hgd tW hv4 hg4 hsz xw hk4 d0 d1 d3 d4 r0 r1 P5;refine Gf ?_;refine nu ?_;go_wp2;refine iG ?_;refine kK ?_;clear hS hrun;go_wp2;go_ret;rw[HQ.out];exact aF (iQ.ok (q:=(0,_)) fe bR Gz)
   by_cases h2:sk=2
   ·subst h2;obtain⟨Fs,oJ⟩:=HY.own.2.1 gm.out.symm;obtain⟨n0,n1,rfl⟩:=OH (gL.2.trans Fs);obtain⟨g,cap,rfl,hc0⟩:=eU.cell (i:=0) (x:=n0) rfl;have hc1:=eU.cell' (i:=1) (x:=n1) rfl;simp only[aq,au,Nat.zero_add,Nat.reduceAdd]at*;have g_:=HT.out.trans ((if_neg aG).trans (if_pos trivial));simp only[hd,hd2,List.getD_cons_zero,List.getD_cons_succ]at g_;rw[<-cv.out]at oJ;obtain⟨i,hi,hil⟩:=A3 (show¬lK c.p nm<0 by omega);have hi:lK c.p nm=(i:Nat):=hi;rw[<-bk.er.b.yg]at hil;obtain⟨x0,hx0⟩:∃x,c.gz[i]? =some x:=⟨_,ah hil⟩;obtain⟨l,hl⟩:∃l,s2.fB[i]? =some l:=⟨_,ah (by rw[bk.er.b.len];exact hil)⟩;obtain⟨hrl,hll⟩:=bk.er.b.arr i x0 l hx0 hl;obtain⟨ga,na⟩:=x0;have hll:l.length=na:=hll;have hrl:Row w3 ga 3 (l.map I):=hrl;have jS:tK c.p s2 nm=l:=by
     unfold tK yN;rw[hi,Int.toNat_natCast,List.getD_eq_getElem?_getD,hl];rfl
    have hai:yN c.p nm=i:=by unfold yN;rw[hi,Int.toNat_natCast]
    rw[jS,hll,hai]at g_;have eG:=aF (λ(X:World) (hX:w3.grownBy X none)=>Xi c F X d s2 cb mb k.value nm i ga na n0 (bk.er.quiet hX) (bk.row.kept hX aH) hi hx0);have cU:=aF hc0;have nW:=aF hc1;have ML:=aF hx0;have qZ:=aF hl;have Jd:=aF hrl;clear hc0 hc1 oJ hi hil hx0 hl hrl jS hai Fs;by_cases hb:n0<0\/(na:Int)<=n0
    ·have hP:∀X,w3.grownBy X none->_:=λX hX=>by have:=eG X hX;rw[if_pos hb]at this;exact this
     have CI:=aF hP;have fe:=aF (g_.trans (if_pos hb));clear hb hP eG g_ hll;go_upto_region 14 with(fail)
     refine yl (λX=>X.cell? (W,1)=some (S nm)/\X.cell? (g,0)=some (I n0)/\X.cell? (g,1)=some (I n1)) [(0,0),(0,1),(0,2),(0,3),(0,4),(0,5),(0,7),(0,8),(0,9),(1,6),(0,10),(2,11)] (λwd hh=>⟨aO bq.out hh 1,eP hh cU,eP hh nW⟩) λwd hh hgd hS=> ?_;have bK:=aF hgd;clear hh hgd d0 d1 d3 d4 r0 r1 P5;refine dS ?_;go_wp2_with (go_at_call 189;refine aN (CI _ bK) λw4 aR=> ?_;clear hS)
     have hg4:=bX aR none;refine⟨rfl, ?_⟩;show Hid (Q (.panicked (mz 3 0)) w4);rw[HQ.out];exact aF (iQ.stop fe (((gj.out.trans (bk.er.kf bK aJ)).trans ((bk.er.quiet bK).kf hg4 aJ)).mF cb mb) ((bk.er.quiet bK).quiet hg4))
    ·have hP:∀X,w3.grownBy X none->_:=λX hX=>by have:=eG X hX;rw[if_neg hb]at this;exact this
     have CI:=aF hP;have fe:=aF (g_.trans (if_neg hb));have xW:n0.toNat<na:=aG;have hrc:w3.frozen? (ga,n0.toNat)=false:=Jd.frozen _;have gP:w3.cell? (ga,n0.toNat)=some (I (l.getD n0.toNat 0)):=by
      rw[Jd.cell,List.getElem?_map,ah aG,List.getD_eq_getElem?_getD,ah aG];rfl
     have⟨a1,ha1⟩:=xq n0.toNat;rw[<-ha1]at CI hrc gP fe;have HFZ:=aF hrc;have P6:=aF gP;clear hb hP eG g_ hll xW hrc gP ha1;have⟨y,hy⟩:=xq (l.getD a1 0);rw[<-hy]at P6;clear hy;go_upto_region 14 with(fail)
     refine yl (λX=>X.cell? (W,1)=some (S nm)/\X.cell? (g,0)=some (I n0)/\X.cell? (g,1)=some (I n1)) [(0,0),(0,1),(0,2),(0,3),(0,4),(0,5),(0,7),(0,8),(0,9),(1,6),(0,10),(2,11)] (λwd hh=>⟨aO bq.out hh 1,eP hh cU,eP hh nW⟩) λwd hh hgd hS=> ?_;have bK:=aF hgd;have bN:=bI bq hgd;have fK:=aF (aS cU hgd aH);have l9:=aF (aS nW hgd aH);have akS:=bI Jd hgd;have akT:=aF (aS P6 hgd aH);clear hh hgd d0 d1 d3 d4 r0 r1 P5;refine dS ?_;go_wp2_with (go_at_call 189;refine aN (CI _ bK) λw4 aR=> ?_;clear hS)
     refine bw ⟨(bN.ext aR).cell 1,aS fK (aT aR) aH,aS l9 (aT aR) aH⟩ λhS=> ?_;refine Ek ?_;have hg4:=bX aR none;have aaG:=akS.ext aR;have v4:=aS akT hg4 aH;have z4:w4.frozen? (ga,a1)=false:=aaG.frozen a1;have LD:=(bk.quiet bK).quiet hg4;have hst:=LD.er.store (at_:=a1) ML qZ n1;have cD:=bO w4 ga a1 (I n1);have Je: ¬F ga:=(bk.er.b.nK _ (List.mem_of_getElem? ML)).2;have hc5:kO c F (w4.setCell (ga,a1) (I n1)) d k {s2 with fB:=s2.fB.set i (l.set a1 n1)} cb mb:=LD.on (LD.er.kf cD λr e=>by cases e;exact Je) hst;have cg:KF F W (w4.setCell (ga,a1) (I n1)):=((gj.out.trans (bk.er.kf bK aJ)).trans ((bk.er.quiet bK).kf hg4 aJ)).trans (LD.er.kf cD λr e=>by cases e;exact Je);have MM:=aF hc5;have dG:=aF cg;clear hg4 aaG LD hst cD Je hc5 cg;refine nu ?_;go_wp2;refine iG ?_;refine kK ?_;clear hS v4 z4;go_wp2;go_ret;rw[HQ.out];exact aF (iQ.ok (q:=(0,k)) fe (dG.mF cb mb) MM)
   by_cases h3:sk=3
   ·subst h3;obtain⟨n0,rfl⟩:=List.length_eq_one_iff.1 (gL.2.trans (HY.own.1 (cw gm)));obtain⟨g,cap,rfl,hc0⟩:=eU.cell (i:=0) (x:=n0) rfl;simp only[aq,au,Nat.zero_add]at*;have cU:=aF hc0;have g_:=HT.out.trans ((if_neg aG).trans ((if_neg aG).trans (if_pos trivial)));have hkg:∀b,c.G b->w3.heap[b]? =W.heap[b]? :=λb hb=>gj.block b (HH.er.b.gf b hb);have Dh:2*left c.most s2+1<=R:=by have:=HR.out;have:=gD.out;have:=ua (most:=c.most) gL.1;omega
    have rU:=HB _ w3 d s2 k cb mb x.thn (.slice t0 tl tc) bk (AJ.on hkg) HY.thn Dh;have pM:=HB _ w3 d s2 k cb mb x.els (.slice e0 el ec) bk (MK.on hkg) HY.els Dh;simp only[hd,List.getD_cons_zero]at g_;clear hc0;by_cases hn:n0=0
    ·rw[if_pos hn]at g_;have⟨r,hr⟩:=xq (eO (m.stmt d) x.els k s2);rw[<-hr]at g_ pM;have fe:=aF g_;have ey:=aF pM;clear g_ rU pM hkg Dh hr;subst hn;have GA:=cU.out;cases r with
     |stop a b s4=>
      go_wp2_with (go_at_call 92;refine ey.mono ?_;rintro e' w4⟨hk4,rfl,d',cV⟩;have bR:=aF hk4;have dR:=aF cV;clear hk4 cV)
      refine⟨rfl, ?_⟩;show Hid (Q (.panicked (mz a b)) w4);rw[HQ.out];exact aF (iQ.stop fe ((gj.mF cb mb).trans bR.out) dR)
     |ok q s4=>
      go_wp2_with (go_at_call 92;refine ey.mono ?_;rintro e' w4⟨hk4,rfl,cV⟩;have bR:=aF hk4;have dR:=aF cV;clear hk4 cV)
      go_ret;rw[HQ.out];exact aF (iQ.ok fe ((gj.mF cb mb).trans bR.out) dR)
    ·rw[if_neg hn]at g_;have⟨r,hr⟩:=xq (eO (m.stmt d) x.thn k s2);rw[<-hr]at g_ rU;have fe:=aF g_;have ey:=aF rU;clear g_ rU pM hkg Dh hr;have GA:=cU.out;cases r with
     |stop a b s4=>
      go_wp2_with (go_at_call 92;refine ey.mono ?_;rintro e' w4⟨hk4,rfl,d',cV⟩;have bR:=aF hk4;have dR:=aF cV;clear hk4 cV)
      refine⟨rfl, ?_⟩;show Hid (Q (.panicked (mz a b)) w4);rw[HQ.out];exact aF (iQ.stop fe ((gj.mF cb mb).trans bR.out) dR)
     |ok q s4=>
      go_wp2_with (go_at_call 92;refine ey.mono ?_;rintro e' w4⟨hk4,rfl,cV⟩;have bR:=aF hk4;have dR:=aF cV;clear hk4 cV)
      go_ret;rw[HQ.out];exact aF (iQ.ok fe ((gj.mF cb mb).trans bR.out) dR)
   by_cases h7:sk=7
   ·subst h7;obtain⟨n0,rfl⟩:=List.length_eq_one_iff.1 (gL.2.trans (HY.own.1 (cw gm)));obtain⟨g,cap,rfl,hc0⟩:=eU.cell (i:=0) (x:=n0) rfl;simp only[aq,au,Nat.zero_add]at*;have cU:=aF hc0;have fe:=aF (HT.out.trans ((if_neg aG).trans ((if_neg aG).trans ((if_neg aG).trans (if_pos trivial)))));have GA:=cU.out;have r2:=bk.row.k2;have hg4:=bO w3 cb 2 (I n0);have hc:=bk.out;have xw:kO c F (w3.setCell (cb,2) (I n0)) d {k with value:=n0} s2 cb mb:=⟨hc.er.wrote hg4 hc.cF hc.cG,hc.cF,hc.mF,hc.cG,hc.mG,hc.ne,hc.row.set 2 (I n0),hc.vars.on (hg4.block mb (hc.er.b.lt mb hc.mF) (by have:=hc.ne;simp;omega))⟩;have hk4:KF (Go.Proofs.YtjgbkdbkachciaaGreatDoor.mF F cb mb) W (w3.setCell (cb,2) (I n0)):=(gj.mF cb mb).trans (KF.grown hg4 (λb hb=>hc.er.b.lt b hb.1) (λr e hm=>by cases e;exact hm.2.1 rfl));have Gz:=aF xw;have bR:=aF hk4;clear hc0 hg4 hc xw hk4;go_wp2;go_ret;rw[HQ.out];exact aF (iQ.ok (q:=(3,_)) fe bR Gz)
   by_cases h8:sk=8
   ·subst h8;obtain⟨n0,rfl⟩:=List.length_eq_one_iff.1 (gL.2.trans (HY.own.1 (cw gm)));have hsm:s2.out.length+1<=s2.steps:=by have:=gL.1;have:=HH.er.small.2.1;simp only[mh,tick]at*;omega
    have VH:=aF hsm;obtain⟨g,cap,rfl,hc0⟩:=eU.cell (i:=0) (x:=n0) rfl;simp only[aq,au,Nat.zero_add]at*;have cU:=aF hc0;have fe:=aF (HT.out.trans ((if_neg aG).trans ((if_neg aG).trans ((if_neg aG).trans ((if_neg aG).trans (if_pos trivial))))));obtain⟨iv,ou,hrun,hin,GC,gM⟩:=iz.st;obtain⟨oa,oc,rfl⟩:=GC.slice;have hol:s2.out.length<=1000000:=by have:=bk.er.small;omega
    have⟨on,Di⟩:=xq s2.out.length;have hrun':=hrun;rw[<-bF.out,<-Di]at hrun';rw[<-Di]at hol;have iI:=aF hrun;have Ke:=aF hrun';have uw:=aF hin;have VI:=aF GC;have mE:=aF gM;have xx:=aF Di;clear hc0 hsm hrun hrun' hin GC gM Di;go_upto_region 23 with(fail)
    refine G5 aL (λX=>X.cell? (cb,0)=some (.pointer (some (rb,0)))/\X.cell? (rb,8)=some (.slice oa on oc)/\X.cell? (g,0)=some (I n0)) [(0,0),(0,1),(0,2),(0,3),(0,4),(0,5),(0,6),(0,7),(0,8),(0,9),(0,10),(0,11),(0,12),(0,13),(0,14),(1,15),(1,16),(0,17),(0,18),(0,19),(2,20)] aL ?Ml ?_
    case Ml=>intro wd hh;exact⟨(aO bk.row hh 0).trans (by rw[bF.out];rfl),aO Ke.out hh 8,bY hh cU⟩
    intro wd hh hgd hS;have bK:=aF hgd;have fK:=aF (bk.quiet hgd);have BH:=aF (iz.quiet hgd);have dz:=bI iI hgd;have LG:=bI Ke hgd;have GD:=aF (uw.grown hgd aJ λ_ _ h=>h);have qz:=aF (VI.kept hgd aJ);have tC:=aF (aS cU hgd aH);clear hh hgd d0 d1 d3 d4 r0 r1 P5;refine dS ?_;go_wp2;have kI:=cE wd (.cells #[I n0] 3) none;have jC:=aF kI;refine bw ⟨((fK.quiet kI).row.cell 0).trans (by rw[bF.out];rfl),(LG.kept kI aH).cell 8,aS tC kI aH⟩ λhS=> ?_
    clear kI;have xX:=qz.kept jC aJ;rw[<-xx.out]at xX;have hcn:(wd.alloc (.cells #[I n0] 3)).cell? (wd,0)=some (.int .i64 n0):=by rw[cell_of_block (cj wd (.cells #[I n0] 3))];rfl
    have BJ:s2.out.length<=10000000000000:=by rw[<-xx.out];omega
    have TI:=aF xX;have Au:=aF hcn;have Dj:=aF BJ;clear xX hcn BJ;refine h_ ?_;go_wp2_with (at_builtin;go_loud (refine ES rfl _ _ rfl 0 (.slice oa on oc) s2.out rfl TI.out wd.heap.size n0 rfl Au.out Dj.out (Nat.zero_le _) ?_);intro g' cap' w6 dY bG fy lZ;have gK:=aF dY;have di:=aF bG;have gN:=aF fy;clear dY bG fy hS)
    have Io:∀r,(Value.slice oa on oc).ownBlock=some r-> ¬((F r\/r=W.heap.size)\/(Value.slice (some (g,0)) 1 cap).ownBlock=some r):=λr e=>(mE r (by rw[<-xx.out];exact e)).1;have aaH:some cb≠(Value.slice oa on oc).ownBlock:=λe=>Io cb e.symm (.inl (.inl HH.cF));have bG:some g≠(Value.slice oa on oc).ownBlock:=λe=>Io g e.symm (.inr rfl);have FR:=qz.kept jC aJ;have FT:=dz.kept jC aH;have LH:some rb≠(Value.slice oa on oc).ownBlock:=λe=>by
     have:=Jy FR (t:=78) aQ rb (by rw[<-xx.out];exact e.symm);rw[bF.out]at this;exact this _ _ FT
    have dU:=(LG.kept jC aH).kept di LH;have v8:=dU.k8;have z8:=dU.frozen 8;refine bw ⟨(((fK.quiet jC).row.kept di aaH).cell 0).trans (by rw[bF.out];rfl),v8,aS (aS tC jC aH) di bG⟩ λhS=> ?_;have hfin:=ER.print (W5:=w6) (v':= .slice (some (g',0)) (s2.out.length+1) cap') (n:=n0) (g':=g') (fK.er.quiet jC) FT (GD.grown jC aJ λ_ _ h=>h) (λr e=>⟨λhF=>(mE.out r e).1 (.inl (.inl hF)),(mE.out r e).2⟩) FR (by rw[<-xx.out];exact di.out) (by rw[<-xx.out];exact gN.out) rfl gK.out VH;obtain⟨yz,hf2⟩:=hfin;rw[<-bF.out]at yz hf2;have kC:KF F W (w6.setCell (rb,8) (.slice (some (g',0)) (s2.out.length+1) cap')):=((gj.out.trans (bk.er.kf bK aJ)).trans (fK.er.kf jC aJ)).trans hf2;have MN:=(fK.quiet jC).on hf2 yz;have nI:=aF kC;have Jf:=aF MN;clear Io aaH bG FR FT LH dU yz hf2 kC MN;refine Ek ?_;refine nu ?_;go_wp2;refine iG ?_;refine kK ?_;clear hS v8 z8;go_wp2;go_ret;rw[HQ.out];exact aF (iQ.ok (q:=(0,k)) fe (nI.mF cb mb) Jf)
   by_cases h9:sk=9
   ·subst h9;obtain⟨n0,rfl⟩:=List.length_eq_one_iff.1 (gL.2.trans (HY.own.1 (cw gm)));obtain⟨g,cap,rfl,hc0⟩:=eU.cell (i:=0) (x:=n0) rfl;simp only[aq,au,Nat.zero_add]at*;have cU:=aF hc0;have fe:=aF (HT.out.trans ((if_neg aG).trans ((if_neg aG).trans ((if_neg aG).trans ((if_neg aG).trans ((if_neg aG).trans (if_pos trivial)))))));have GA:=cU.out;clear hc0;go_wp2;refine⟨rfl, ?_⟩;show Hid (Q (.panicked (mz 5 n0)) w3);rw[HQ.out];exact aF (iQ.stop fe (gj.mF cb mb) bk.er)
   have g_:=HT.out;rw[if_neg h1,if_neg h2,if_neg h3,if_neg h7,if_neg h8,if_neg h9]at g_;have fe:=aF g_;clear g_;go_wp2;go_ret;rw[HQ.out];exact aF (iQ.ok (q:=(0,k)) fe (gj.mF cb mb) bk)
end
section
inductive OT where
 |nil
 |one (k i:Nat) (r:OT)
 |two (i j:Nat) (r s:OT)
section
variable {P:Program} {Q:Exit->Act->World->Prop} {S:World->Prop}
def qD (P:Program) (l:List Oper) (Q:Exit->Act->World->Prop) (S:World->Prop):OT->Act->World->Prop
 | .nil,a,w=>Q .normal a w
 | .one 0 i r,a,w=>∃o v,l[i]? =some o/\YieldsIf P l.toArray S o v a/\S w/\(∀c a w,Q (.panic c) (a.put o.dst v) w->Q (.panic c) a w)/\qD P l Q S r (a.put o.dst v) w
 | .one 1 i r,a,w=>∃o,l[i]? =some o/\wpList P l.toArray (QN Q λa' w'=>S w'/\qD P l Q S r a' w') [o] a w
 | .one (_+2) i r,a,w=>∃o,l[i]? =some o/\wpList P l.toArray (QN Q λa' w'=>qD P l Q S r a' w') [o] a w
 | .two i j r s,a,w=>(∃o,l[i]? =some o/\wpList P l.toArray (QN Q λa' w'=>S w'/\qD P l Q S r a' w') [o] a w)/\∃o,l[j]? =some o/\wpList P l.toArray (QN Q λa' w'=>S w'/\qD P l Q S s a' w') [o] a w
def ug (ops:Array Oper):OT->Nat->Array Bool->Bool
 | .nil,0,listed=>(Region.ready .any ops listed).isEmpty
 | .one 0 i r,n+1,listed=>(Region.ready .any ops listed).contains i&&Region.free .any ops listed i&&ug ops r n (listed.setIfInBounds i true)
 | .one 1 i r,n+1,listed=>decide (Region.ready .any ops listed= [i])&&ug ops r n (listed.setIfInBounds i true)
 | .one (_+2) i r,n+1,listed=>decide (Region.ready .any ops listed= [i])&&Fb ops i&&ug ops r n (listed.setIfInBounds i true)
 | .two i j r s,n+1,listed=>decide (Region.ready .any ops listed= [i,j])&&ug ops r n (listed.setIfInBounds i true)&&ug ops s n (listed.setIfInBounds j true)
 |_,_,_=>false
theorem G6 {l:List Oper} (oV:Region.noSelect l.toArray=true):∀(t:OT) (n:Nat) (listed:Array Bool) (a:Act) (w:World),DB l.toArray listed->ug l.toArray t n listed=true->qD P l Q S t a w->Hy P l.toArray Q S n listed a w
 | .nil,0,listed,a,w,_,hB,h=>⟨by simpa [ug]using hB,h⟩
 | .nil,n+1,_,_,_,_,hB,_=>by simp [ug]at hB
 | .one k i r,0,_,_,_,_,hB,_=>by simp [ug]at hB
 | .two i j r s,0,_,_,_,_,hB,_=>by simp [ug]at hB
 | .one 0 i r,n+1,listed,a,w,hcl,hB,h=>by
  simp only[ug,Bool.and_eq_true]at hB
  obtain⟨⟨h1,h2⟩,h3⟩:=hB
  have hr:i∈Region.ready .any l.toArray listed:=by simpa using h1
  obtain⟨o,v,ho,hy,hS,hQ,hK⟩:=h
  have ho:l.toArray[i]? =some o:=by simpa using ho
  exact Xa ho (Region.noSelect_spec oV) hQ n listed a w hcl (Region.free_spec ho h2) hr hy hS (G6 oV r _ _ _ _ (BV hcl hr) h3 hK)
 | .one 1 i r,n+1,listed,a,w,hcl,hB,h=>by
  simp only[ug,Bool.and_eq_true,decide_eq_true_eq]at hB
  obtain⟨h1,h3⟩:=hB
  have hr:i∈Region.ready .any l.toArray listed:=by rw[h1];simp
  obtain⟨o,ho,h⟩:=h
  have ho:l.toArray[i]? =some o:=by simpa using ho
  refine⟨λh0=>(by rw[h1]at h0;cases h0),λj hj=> ?_⟩
  rw[h1]at hj
  obtain rfl:j=i:=by simpa using hj
  exact wpOp_mono (λa' w' h'=>⟨λ_=>h'.1,G6 oV r _ _ _ _ (BV hcl hr) h3 h'.2⟩) (Dv ho h)
 | .one (k+2) i r,n+1,listed,a,w,hcl,hB,h=>by
  simp only[ug,Bool.and_eq_true,decide_eq_true_eq]at hB
  obtain⟨⟨h1,h2⟩,h3⟩:=hB
  have hr:i∈Region.ready .any l.toArray listed:=by rw[h1];simp
  obtain⟨o,ho,h⟩:=h
  have ho:l.toArray[i]? =some o:=by simpa using ho
  refine⟨λh0=>(by rw[h1]at h0;cases h0),λj hj=> ?_⟩
  rw[h1]at hj
  obtain rfl:j=i:=by simpa using hj
  exact wpOp_mono (λa' w' h'=>⟨λhs=>(by rw[h2]at hs;cases hs),G6 oV r _ _ _ _ (BV hcl hr) h3 h'⟩) (Dv ho h)
 | .two i j r s,n+1,listed,a,w,hcl,hB,h=>by
  simp only[ug,Bool.and_eq_true,decide_eq_true_eq]at hB
  obtain⟨⟨h1,h3⟩,h4⟩:=hB
  have hi:i∈Region.ready .any l.toArray listed:=by rw[h1];simp
  have hj:j∈Region.ready .any l.toArray listed:=by rw[h1];simp
  obtain⟨⟨o,ho,h⟩,o',ho',h'⟩:=h
  have ho:l.toArray[i]? =some o:=by simpa using ho
  have ho':l.toArray[j]? =some o':=by simpa using ho'
  refine⟨λh0=>(by rw[h1]at h0;cases h0),λk hk=> ?_⟩
  rw[h1]at hk
  rcases(by simpa using hk:k=i\/k=j)with rfl|rfl
  ·exact wpOp_mono (λa' w' h'=>⟨λ_=>h'.1,G6 oV r _ _ _ _ (BV hcl hi) h3 h'.2⟩) (Dv ho h)
  ·exact wpOp_mono (λa' w' h'=>⟨λ_=>h'.1,G6 oV s _ _ _ _ (BV hcl hj) h4 h'.2⟩) (Dv ho' h')
theorem EM {id:Nat} {l:List Oper} {a:Act} {w:World} (hm:P.follows .mixedOrders=true) (S:World->Prop) (t:OT)
  (hB:(Region.noSelect l.toArray&&ug l.toArray t l.length (Array.replicate l.length false))=true)
  (hS:∀wd:World,wd.heap=w.heap->S wd)
  (h:∀wd:World,wd.heap=w.heap->w.grownBy wd none->S wd->qD P l Q S t a wd):(Code.region id l.toArray true).wp P Q a w:=by
 simp only[Bool.and_eq_true]at hB;obtain⟨h1,h3⟩:=hB;refine wp_region_any hm ?_;have:=QM _ _ _ _ (G6 h1 t _ _ a _ (Xv _ _) h3 (h {w with drawn:=w.drawn+1} rfl ⟨rfl,rfl,rfl,ay _,λ_ _ _=>rfl⟩ (hS _ rfl)));simpa using this
theorem pO {l:List Oper} {a:Act} {w:World} (h:Q .normal a w):qD P l Q S .nil a w:=h
theorem QG {l:List Oper} {i:Nat} {o:Oper} {r:OT} {a:Act} {w:World} {v:Value} (ho:l[i]? =some o) (hw:Region.wanted o (yielded l.toArray a.tmps)=true) (hv:∀w,S w->(execOp a.eval o).run P w= .ok (.value v) w) (hS:S w)
  (hQ:∀c a w,Q (.panic c) (a.put o.dst v) w->Q (.panic c) a w) (h:qD P l Q S r (a.put o.dst v) w):qD P l Q S (.one 0 i r) a w:=⟨o,v,ho, .inl ⟨hw,hv⟩,hS,hQ,h⟩
theorem iX {P Q:Prop} (h:Q) (k:xR Q->P:=by(intro hq;(repeat(refine QG (v:= ?_) rfl fV ?_ (by assumption) (λ_ _ _ h=>h) ?_;rotate_left;(·(intro wS hSw;(try dsimp only at hSw);go_simp;(first|done|with_reducible rfl)));simp only[Act.put,List.setIfInBounds_toArray,List.set_cons_zero,List.set_cons_succ]));exact hq.out)):P:=k ⟨h⟩
theorem gQ {l:List Oper} {i:Nat} {o:Oper} {r:OT} {a:Act} {w:World} (ho:l[i]? =some o) (h:wpList P l.toArray (QN Q λa' w'=>S w'/\qD P l Q S r a' w') [o] a w):qD P l Q S (.one 1 i r) a w:=⟨o,ho,h⟩
theorem tY {l:List Oper} {i:Nat} {o:Oper} {r:OT} {a:Act} {w:World} (ho:l[i]? =some o) (h:wpList P l.toArray (QN Q λa' w'=>qD P l Q S r a' w') [o] a w):qD P l Q S (.one 2 i r) a w:=⟨o,ho,h⟩
theorem uR {l:List Oper} {i j:Nat} {o o':Oper} {r s:OT} {a:Act} {w:World} (ho:l[i]? =some o) (ho':l[j]? =some o') (h:wpList P l.toArray (QN Q λa' w'=>S w'/\qD P l Q S r a' w') [o] a w) (h':wpList P l.toArray (QN Q λa' w'=>S w'/\qD P l Q S s a' w') [o'] a w):qD P l Q S (.two i j r s) a w:=⟨⟨o,ho,h⟩,o',ho',h'⟩
theorem dB {l:List Oper} {r:OT} {a:Act} {w:World} (hS:S w) (h:S w->qD P l Q S r a w):QN Q (λa' w'=>S w'/\qD P l Q S r a' w') .normal a w:=⟨hS,h hS⟩
end
end
end Go.Proofs.YtjgbkdbkachciaaGreatDoor
