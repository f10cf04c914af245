import Derived.Test.YtjgbkdbkachciaaGreatDoorX1
set_option linter.all false
namespace Go.Proofs.YtjgbkdbkachciaaGreatDoor
set_option maxRecDepth 100000
set_option maxHeartbeats 16000000
section
open Go.RowKit Go.Shelf
def b6.fin {α:Type}:b6 α->aV
 | .ok _ s=>s
 | .stop _ _ s=>s
structure DM (most:Int) (Q:aV->aV->Prop):Prop where
 refl:∀s,Q s s
 trans:∀{a b c},Q a b->Q b c->Q a c
 tick:∀s,¬most<=(s.steps:Int)->Q s (tick s)
 read:∀s x l,s.inp=x::l->Q s {s with inp:=l}
 store:∀s i l,Q s {s with fB:=s.fB.set i l}
 print:∀s n,Q s {s with out:=s.out++ [n]}
structure Kept (Q:aV->aV->Prop) (m:j6):Prop where
 expr:∀d vs e s,Q s (m.expr d vs e s).fin
 stmt:∀d c x s,Q s (m.stmt d c x s).fin
 loop:∀d c x s,Q s (m.loop d c x s).fin
theorem He {most:Int} {Q:aV->aV->Prop} (hQ:DM most Q) {f:LE->aV->b6 Int} (hf:∀e s,Q s (f e s).fin):∀(l:List LE) (s:aV),Q s (dw f l s).fin
 | [],s=>hQ.refl s
 |e::l,s=>by
  have h1:=hf e s
  rw[dw]
  cases he:f e s with
  |stop a b t=>rw[he]at h1;exact h1
  |ok n t=>
   rw[he]at h1
   have h2:=He hQ hf l t
   simp only
   cases hl:dw f l t with
   |stop a b u=>rw[hl]at h2;exact hQ.trans h1 h2
   |ok ns u=>rw[hl]at h2;exact hQ.trans h1 h2
theorem EP {most:Int} {Q:aV->aV->Prop} (hQ:DM most Q) {f:bM->LS->aV->b6 (Int×bM)} (hf:∀c x s,Q s (f c x s).fin):∀(l:List LS) (c:bM) (s:aV),Q s (eO f l c s).fin
 | [],_,s=>hQ.refl s
 |x::l,c,s=>by
  have h1:=hf c x s
  rw[eO]
  cases he:f c x s with
  |stop a b t=>rw[he]at h1;exact h1
  |ok r t=>
   rw[he]at h1
   simp only
   split
   ·exact hQ.trans h1 (EP hQ hf l r.2 t)
   ·exact h1
theorem QJ {most:Int} {Q:aV->aV->Prop} (hQ:DM most Q) {p:LP} {m:j6} (hm:Kept Q m) (d:Nat) (x:aK) (args:List Int) (s:aV):Q s (lM p m.stmt d x args s).fin:=by
 unfold lM;have h1:=EP hQ (hm.stmt (d+1)) (funcAt p x).body ⟨oN (funcAt p x) args,0⟩ s;cases hl:eO (m.stmt (d+1)) (funcAt p x).body ⟨oN (funcAt p x) args,0⟩ s with
 |stop a b u=>rw[hl]at h1;exact h1
 |ok q u=>rw[hl]at h1;exact h1
theorem JH {most:Int} {Q:aV->aV->Prop} (hQ:DM most Q) (p:LP):∀k,Kept Q (cz p most k)
 |0=>⟨λ_ _ _ s=>hQ.refl s,λ_ _ _ s=>hQ.refl s,λ_ _ _ s=>hQ.refl s⟩
 |k+1=>by
  have hm:=JH hQ p k
  have⟨m,hmm⟩:=xq (cz p most k)
  rw[<-hmm]at hm
  show Kept Q ⟨iA p most (cz p most k),jG p most (cz p most k),kz (cz p most k)⟩
  rw[<-hmm]
  clear hmm
  refine⟨λd vs e s=> ?_,λd c x s=> ?_,λd c x s=> ?_⟩
  ·show Q s (iA p most m d vs e s).fin
   unfold iA
   by_cases hlt:most<=(s.steps:Int)
   ·rw[if_pos hlt];exact hQ.refl s
   rw[if_neg hlt]
   refine hQ.trans (hQ.tick s hlt) ?_
   have h1:=He hQ (hm.expr d vs) e.args (tick s)
   show Q (tick s) (match dw (m.expr d vs) e.args (tick s)with| .stop a b s=>_| .ok args s=>_:b6 Int).fin
   cases hl:dw (m.expr d vs) e.args (tick s)with
   |stop a b u=>rw[hl]at h1;exact h1
   |ok args u=>
    rw[hl]at h1
    refine hQ.trans h1 ?_
    show Q u _
    dsimp only
    repeat' split
    all_goals first
     |exact hQ.refl u
     |exact QJ hQ hm _ _ _ _
     |(apply hQ.read;assumption)
  ·show Q s (jG p most m d c x s).fin
   unfold jG
   by_cases hlt:most<=(s.steps:Int)
   ·rw[if_pos hlt];exact hQ.refl s
   rw[if_neg hlt]
   refine hQ.trans (hQ.tick s hlt) ?_
   by_cases h4:x.kind=4
   ·rw[if_pos h4];exact hm.loop d c x (tick s)
   rw[if_neg h4]
   by_cases h5:x.kind=5
   ·rw[if_pos h5];exact hQ.refl _
   rw[if_neg h5]
   by_cases h6:x.kind=6
   ·rw[if_pos h6];exact hQ.refl _
   rw[if_neg h6]
   have h1:=He hQ (hm.expr d c.vars) x.args (tick s)
   show Q (tick s) (match dw (m.expr d c.vars) x.args (tick s)with| .stop a b s=>_| .ok args s=>_:b6 (Int×bM)).fin
   cases hl:dw (m.expr d c.vars) x.args (tick s)with
   |stop a b u=>rw[hl]at h1;exact h1
   |ok args u=>
    rw[hl]at h1
    refine hQ.trans h1 ?_
    show Q u _
    dsimp only
    repeat' split
    all_goals first
     |exact hQ.refl u
     |exact EP hQ (hm.stmt d) _ _ _
     |exact hQ.store _ _ _
     |exact hQ.print _ _
  ·show Q s (kz m d c x s).fin
   unfold kz
   have h1:=hm.expr d c.vars (x.args.getD 0 (.mk 0 0 0 [] [])) s
   cases he:m.expr d c.vars (x.args.getD 0 (.mk 0 0 0 [] [])) s with
   |stop a b u=>rw[he]at h1;exact h1
   |ok n u=>
    rw[he]at h1
    refine hQ.trans h1 ?_
    show Q u _
    simp only
    split
    ·exact hQ.refl u
    have h2:=EP hQ (hm.stmt d) x.thn c u
    cases hl:eO (m.stmt d) x.thn c u with
    |stop a b v=>rw[hl]at h2;exact h2
    |ok r v=>
     rw[hl]at h2
     refine hQ.trans h2 ?_
     simp only
     split
     ·exact hQ.refl v
     split
     ·exact hQ.refl v
     exact hm.loop d r.2 x v
structure DG (s s':aV):Prop where
 steps:s.steps<=s'.steps
 out:s.out<+:s'.out
theorem Jz (most:Int):DM most DG:=
 ⟨λ_=>⟨ay _,List.prefix_refl _⟩,λh k=>⟨az h.1 k.1,h.2.trans k.2⟩,λ_ _=>⟨Nat.le_succ _,List.prefix_refl _⟩,
  λ_ _ _ _=>⟨ay _,List.prefix_refl _⟩,λ_ _ _=>⟨ay _,List.prefix_refl _⟩,λ_ _=>⟨ay _,List.prefix_append _ _⟩⟩
theorem Xo (most:Int):DM most (λs s'=>(s.steps:Int)<=most->(s'.steps:Int)<=most):=
 ⟨λ_ h=>h,λh k x=>k (h x),λs h _=>by show((s.steps+1:Nat):Int)<=most;omega,λ_ _ _ _ h=>h,λ_ _ _ h=>h,λ_ _ h=>h⟩
def vT {α:Type} (a:Int) (x y:b6 α):Prop:=x=y\/∃s,x= .stop 0 0 s/\a<=(s.steps:Int)/\DG s y.fin
structure OnM (a:Int) (m m':j6):Prop where
 expr:∀d vs e s,vT a (m.expr d vs e s) (m'.expr d vs e s)
 stmt:∀d c x s,vT a (m.stmt d c x s) (m'.stmt d c x s)
 loop:∀d c x s,vT a (m.loop d c x s) (m'.loop d c x s)
theorem Rj {a b:Int} {f g:LE->aV->b6 Int} (h:∀e s,vT a (f e s) (g e s)) (hg:∀e s,DG s (g e s).fin):∀(l:List LE) (s:aV),vT a (dw f l s) (dw g l s)
 | [],s=> .inl rfl
 |e::l,s=>by
  have hk:=Jz b
  have h2:DG s (dw g (e::l) s).fin:=He hk hg (e::l) s
  rcases h e s with h1|⟨t,h1,h3,h4⟩
  ·rw[dw,dw,h1]
   cases he:g e s with
   |stop a b t=>exact .inl rfl
   |ok n t=>
    simp only
    have h5:=He hk hg l t
    rcases Rj (b:=b) h hg l t with h6|⟨u,h6,h7,h8⟩
    ·rw[h6];exact .inl rfl
    ·rw[h6]
     refine .inr ⟨u,rfl,h7, ?_⟩
     cases hl:dw g l t with
     |stop a b u'=>rw[hl]at h8;exact h8
     |ok ns u'=>rw[hl]at h8;exact h8
  ·refine .inr ⟨t,by rw[dw,h1],h3, ?_⟩
   rw[dw]
   cases he:g e s with
   |stop a b t'=>rw[he]at h4;exact h4
   |ok n t'=>
    rw[he]at h4
    have h5:=He hk hg l t'
    simp only
    cases hl:dw g l t' with
    |stop a b u=>rw[hl]at h5;exact hk.trans h4 h5
    |ok ns u=>rw[hl]at h5;exact hk.trans h4 h5
theorem NL {a b:Int} {f g:bM->LS->aV->b6 (Int×bM)} (h:∀c x s,vT a (f c x s) (g c x s)) (hg:∀c x s,DG s (g c x s).fin):∀(l:List LS) (c:bM) (s:aV),vT a (eO f l c s) (eO g l c s)
 | [],_,s=> .inl rfl
 |x::l,c,s=>by
  have hk:=Jz b
  rcases h c x s with h1|⟨t,h1,h3,h4⟩
  ·rw[eO,eO,h1]
   cases he:g c x s with
   |stop a b t=>exact .inl rfl
   |ok r t=>
    simp only
    split
    ·exact NL (b:=b) h hg l r.2 t
    ·exact .inl rfl
  ·refine .inr ⟨t,by rw[eO,h1],h3, ?_⟩
   rw[eO]
   cases he:g c x s with
   |stop a b t'=>rw[he]at h4;exact h4
   |ok r t'=>
    rw[he]at h4
    simp only
    split
    ·exact hk.trans h4 (EP hk hg l r.2 t')
    ·exact h4
theorem Y9 {a b:Int} {p:LP} {m m':j6} (h:OnM a m m') (hm:Kept DG m') (d:Nat) (x:aK) (args:List Int) (s:aV):vT a (lM p m.stmt d x args s) (lM p m'.stmt d x args s):=by
 unfold lM;rcases NL (b:=b) (h.stmt (d+1)) (hm.stmt (d+1)) (funcAt p x).body ⟨oN (funcAt p x) args,0⟩ s with h1|⟨t,h1,h3,h4⟩
 ·rw[h1];exact .inl rfl
 ·rw[h1];refine .inr ⟨t,rfl,h3, ?_⟩;cases hl:eO (m'.stmt (d+1)) (funcAt p x).body ⟨oN (funcAt p x) args,0⟩ s with
  |stop a b u=>rw[hl]at h4;exact h4
  |ok q u=>rw[hl]at h4;exact h4
def b6.bind {α β:Type} (x:b6 α) (F:α->aV->b6 β):b6 β:=match x with
 | .stop a b s=> .stop a b s
 | .ok v s=>F v s
theorem N6 {α β:Type} {a:Int} {x y:b6 α} {F G:α->aV->b6 β} (h:vT a x y) (hF:∀v s,vT a (F v s) (G v s)) (hG:∀v s,DG s (G v s).fin):vT a (x.bind F) (y.bind G):=by
 rcases h with h|⟨s,h,h1,h2⟩
 ·rw[h];cases y with
  |stop p q s=>exact .inl rfl
  |ok v s=>exact hF v s
 ·rw[h];refine .inr ⟨s,rfl,h1, ?_⟩;cases y with
  |stop p q s'=>exact h2
  |ok v s'=>exact(Jz 0).trans h2 (hG v s')
def jV (p:LP) (m:j6) (d:Nat) (vs:Vars) (e:LE) (args:List Int) (s:aV):b6 Int:=
 if e.kind=1 then .ok e.n s
 else if e.kind=2 then .ok (vs e.name) s
 else if e.kind=3 then .ok ((qp e.op (hd args)).getD 0) s
 else if e.kind=4 then match fC e.op (hd args) (hd2 args)with
  |none=> .stop 2 0 s
  |some n=> .ok n s
 else if e.kind=6 then
  if hd args<0\/((tK p s e.name).length:Int)<=hd args then .stop 3 0 s else .ok ((tK p s e.name).getD (hd args).toNat 0) s
 else if e.kind=7 then match s.inp with
  | []=> .ok (-1) s
  |x::l=> .ok x {s with inp:=l}
 else if 50<=d then .stop 4 0 s
 else lM p m.stmt d e.name args s
theorem JR (p:LP) (most:Int) (m:j6) (d:Nat) (vs:Vars) (e:LE) (s:aV) (h: ¬most<=(s.steps:Int)):iA p most m d vs e s=(dw (m.expr d vs) e.args (tick s)).bind (jV p m d vs e):=by
 unfold iA;rw[if_neg h];show(match dw (m.expr d vs) e.args (tick s)with| .stop a b s=>_| .ok args s=>_:b6 Int)=_;cases dw (m.expr d vs) e.args (tick s)with
 |stop a b u=>rfl
 |ok args u=>unfold b6.bind jV;rfl
def xO (p:LP) (m:j6) (d:Nat) (c:bM) (x:LS) (args:List Int) (s:aV):b6 (Int×bM):=
 if x.kind=1 then .ok (0,{c with vars:=upd c.vars x.name (hd args)}) s
 else if x.kind=2 then
  if hd args<0\/((tK p s x.name).length:Int)<=hd args then .stop 3 0 s
  else .ok (0,c) {s with fB:=s.fB.set (yN p x.name) ((tK p s x.name).set (hd args).toNat (hd2 args))}
 else if x.kind=3 then eO (m.stmt d) (if hd args=0 then x.els else x.thn) c s
 else if x.kind=7 then .ok (3,{c with value:=hd args}) s
 else if x.kind=8 then .ok (0,c) {s with out:=s.out++ [hd args]}
 else if x.kind=9 then .stop 5 (hd args) s
 else .ok (0,c) s
theorem JT (p:LP) (most:Int) (m:j6) (d:Nat) (c:bM) (x:LS) (s:aV) (h: ¬most<=(s.steps:Int)):jG p most m d c x s=
  if x.kind=4 then m.loop d c x (tick s)else if x.kind=5 then .ok (1,c) (tick s)else if x.kind=6 then .ok (2,c) (tick s)
  else(dw (m.expr d c.vars) x.args (tick s)).bind (xO p m d c x):=by
 unfold jG;rw[if_neg h];show(if x.kind=4 then _ else if x.kind=5 then _ else if x.kind=6 then _ else match dw (m.expr d c.vars) x.args (tick s)with| .stop a b s=>_| .ok args s=>_:b6 (Int×bM))=_;cases dw (m.expr d c.vars) x.args (tick s)with
 |stop a b u=>rfl
 |ok args u=>unfold b6.bind xO;rfl
theorem afJ {most:Int} {Q:aV->aV->Prop} (hQ:DM most Q) {p:LP} {m:j6} (hm:Kept Q m) (d:Nat) (vs:Vars) (e:LE) (args:List Int) (s:aV):Q s (jV p m d vs e args s).fin:=by
 unfold jV
 repeat' split
 all_goals first
  |exact hQ.refl s
  |exact QJ hQ hm _ _ _ _
  |(apply hQ.read;assumption)
theorem afK {most:Int} {Q:aV->aV->Prop} (hQ:DM most Q) {p:LP} {m:j6} (hm:Kept Q m) (d:Nat) (c:bM) (x:LS) (args:List Int) (s:aV):Q s (xO p m d c x args s).fin:=by
 unfold xO;by_cases h3:x.kind=3
 ·rw[if_neg aG,if_neg aG,if_pos h3];exact EP hQ (hm.stmt d) _ _ _
 rw[if_neg h3]
 repeat' split
 all_goals first
  |exact hQ.refl s
  |exact hQ.store _ _ _
  |exact hQ.print _ _
theorem NW (m:j6) (d:Nat) (c:bM) (x:LS) (s:aV):kz m d c x s=
  (m.expr d c.vars (x.args.getD 0 (.mk 0 0 0 [] [])) s).bind λn s=>if n=0 then .ok (0,c) s else(eO (m.stmt d) x.thn c s).bind λq s=>if q.1=1 then .ok (0,q.2) s else if q.1=3 then .ok (3,q.2) s else m.loop d q.2 x s:=by
 unfold kz;cases m.expr d c.vars (x.args.getD 0 (.mk 0 0 0 [] [])) s with
 |stop a b u=>rfl
 |ok n u=>
  show(if n=0 then _ else _)=(if n=0 then _ else _);by_cases h:n=0
  ·rw[if_pos h,if_pos h]
  rw[if_neg h,if_neg h];cases eO (m.stmt d) x.thn c u with
  |stop a b v=>rfl
  |ok r v=>rfl
theorem Zt (p:LP) {a b:Int} (hab:a<=b):∀k,OnM a (cz p a k) (cz p b k)
 |0=>⟨λ_ _ _ _=> .inl rfl,λ_ _ _ _=> .inl rfl,λ_ _ _ _=> .inl rfl⟩
 |k+1=>by
  have hk:=Jz b
  have hm:=Zt p hab k
  have hs:=JH hk p k
  have hn:=JH hk p (k+1)
  have⟨m,sU⟩:=xq (cz p a k)
  have⟨m',hm2⟩:=xq (cz p b k)
  have e1:cz p a (k+1)=⟨iA p a m,jG p a m,kz m⟩:=by rw[sU];rfl
  have e2:cz p b (k+1)=⟨iA p b m',jG p b m',kz m'⟩:=by rw[hm2];rfl
  rw[<-sU,<-hm2]at hm
  rw[<-hm2]at hs
  rw[e2]at hn
  rw[e1,e2]
  clear sU hm2 e1 e2
  refine⟨λd vs e s=> ?_,λd c x s=> ?_,λd c x s=> ?_⟩
  ·have hq:=hn.expr d vs e s
   show vT a (iA p a m d vs e s) (iA p b m' d vs e s)
   by_cases h1:a<=(s.steps:Int)
   ·exact .inr ⟨s,by unfold iA;rw[if_pos h1],h1,hq⟩
   rw[JR _ _ _ _ _ _ _ h1,JR _ _ _ _ _ _ _ aG]
   refine N6 (Rj (b:=b) (hm.expr d vs) (hs.expr d vs) _ _) (λv s=> ?_) (λv s=>afJ hk hs _ _ _ _ _)
   unfold jV
   by_cases h5:e.kind=1\/e.kind=2\/e.kind=3\/e.kind=4\/e.kind=6\/e.kind=7\/50<=d
   ·refine .inl ?_
    rcases h5 with h5|h5|h5|h5|h5|h5|h5
    ·rw[if_pos h5,if_pos h5]
    all_goals simp [h5]
   ·have n1: ¬e.kind=1:=aG
    have n2: ¬e.kind=2:=aG
    have n3: ¬e.kind=3:=aG
    have n4: ¬e.kind=4:=aG
    have n6: ¬e.kind=6:=aG
    have n7: ¬e.kind=7:=aG
    have nd: ¬50<=d:=aG
    rw[if_neg n1,if_neg n2,if_neg n3,if_neg n4,if_neg n6,if_neg n7,if_neg nd,if_neg n1,if_neg n2,if_neg n3,if_neg n4,if_neg n6,if_neg n7,if_neg nd]
    exact Y9 (b:=b) hm hs _ _ _ _
  ·have hq:=hn.stmt d c x s
   show vT a (jG p a m d c x s) (jG p b m' d c x s)
   by_cases h1:a<=(s.steps:Int)
   ·exact .inr ⟨s,by unfold jG;rw[if_pos h1],h1,hq⟩
   rw[JT _ _ _ _ _ _ _ h1,JT _ _ _ _ _ _ _ aG]
   by_cases h4:x.kind=4
   ·rw[if_pos h4,if_pos h4];exact hm.loop d c x _
   rw[if_neg h4,if_neg h4]
   by_cases h5:x.kind=5
   ·rw[if_pos h5,if_pos h5];exact .inl rfl
   rw[if_neg h5,if_neg h5]
   by_cases h6:x.kind=6
   ·rw[if_pos h6,if_pos h6];exact .inl rfl
   rw[if_neg h6,if_neg h6]
   refine N6 (Rj (b:=b) (hm.expr d _) (hs.expr d _) _ _) (λv s=> ?_) (λv s=>afK hk hs _ _ _ _ _)
   unfold xO
   by_cases h3:x.kind=3
   ·have n1: ¬x.kind=1:=aG
    have n2: ¬x.kind=2:=aG
    rw[if_neg n1,if_neg n2,if_pos h3,if_neg n1,if_neg n2,if_pos h3]
    exact NL (b:=b) (hm.stmt d) (hs.stmt d) _ _ _
   ·rw[if_neg h3,if_neg h3];exact .inl rfl
  ·show vT a (kz m d c x s) (kz m' d c x s)
   rw[NW,NW]
   have hb:∀(q:Int×bM) (s:aV),DG s (if q.1=1 then .ok (0,q.2) s else if q.1=3 then .ok (3,q.2) s else m'.loop d q.2 x s:b6 (Int×bM)).fin:=λq s=>by
    split
    ·exact hk.refl s
    split
    ·exact hk.refl s
    exact hs.loop d q.2 x s
   refine N6 (hm.expr d c.vars _ s) (λn s=> ?_) (λn s=> ?_)
   ·by_cases h0:n=0
    ·rw[if_pos h0,if_pos h0];exact .inl rfl
    rw[if_neg h0,if_neg h0]
    refine N6 (NL (b:=b) (hm.stmt d) (hs.stmt d) _ _ _) (λq s=> ?_) hb
    by_cases h1:q.1=1
    ·rw[if_pos h1,if_pos h1];exact .inl rfl
    rw[if_neg h1,if_neg h1]
    by_cases h2:q.1=3
    ·rw[if_pos h2,if_pos h2];exact .inl rfl
    rw[if_neg h2,if_neg h2]
    exact hm.loop d q.2 x s
   ·split
    ·exact hk.refl s
    have h2:=EP hk (hs.stmt d) x.thn c s
    cases hl:eO (m'.stmt d) x.thn c s with
    |stop a b v=>rw[hl]at h2;exact h2
    |ok r v=>rw[hl]at h2;exact hk.trans h2 (hb r v)
end
section
open Go.RowKit Go.Shelf
attribute [local go_sem] Oper.semAt_some
theorem bZ.kept {W W':World} {row:Option Nat} {base:Nat} {v:Value} {l:List Int} (h:bZ W base v l) (hg:W.grownBy W' row) (hr:∀r,row=some r->v.ownBlock≠some r):bZ W' base v l:=by
 refine World.ownsRow.kept h hg ?_;cases hv:v.ownBlock with
 |none=>
  rcases h.2 with⟨rfl,_⟩|⟨g,cap,cur,rfl,_,hgb,_⟩
  ·exact .inl rfl
  ·cases hv
 |some g=>exact .inr λe=>hr g e.symm hv
theorem ER.wrote {c:cH} {F:Nat->Prop} {W W':World} {d:Nat} {s:aV} {r:Nat} (h:ER c F W d s) (hg:W.grownBy W' (some r)) (hF:F r) (hG: ¬c.G r):ER c F W' d s:=by
 obtain⟨iv,ov,h1,h2,h3,h4⟩:=h.st;have UY:∀r',some r=some r'-> ¬c.G r':=λr' e=>by cases e;exact hG
 refine⟨⟨λb hb=>aB (h.b.lt b hb) hg.size,h.b.gf,h.b.jJ,h.b.px.grown hg UY,h.b.eW.grown hg UY λ_ _ h=>h,h.b.Bl,h.b.nK,h.b.len,h.b.yg,λi x l hx hl=> ?_⟩,
  h.small,iv,ov,h1.kept hg (λe=>h.b.jJ (by cases e;exact hF)),h2.grown hg UY λ_ _ h=>h,h3.kept hg (λr' e e'=>by cases e;exact(h4 r e').1 hF),h4⟩
 obtain⟨k1,k2⟩:=h.b.arr i x l hx hl;exact⟨k1.kept hg λe=>by cases e;exact(h.b.nK x (List.mem_of_getElem? hx)).2 hF,k2⟩
theorem ER.run {c:cH} {F:Nat->Prop} {W:World} {d:Nat} {s:aV} (h:ER c F W d s):∃iv ov,Row W c.rb 78 (yS c d iv ov s.steps):=by
 obtain⟨iv,ov,h1,_⟩:=h.st;exact⟨iv,ov,h1⟩
structure kO (c:cH) (F:Nat->Prop) (W:World) (d:Nat) (k:bM) (s:aV) (cb mb:Nat):Prop where
 er:ER c F W d s
 cF:F cb
 mF:F mb
 cG: ¬c.G cb
 mG: ¬c.G mb
 ne:cb≠mb
 row:Row W cb 148 [.pointer (some ⟨c.rb,0,none⟩), .map (some mb),I k.value]
 vars:uS W mb k.vars
theorem kO.on {c:cH} {F:Nat->Prop} {W W':World} {d d':Nat} {k:bM} {s s':aV} {cb mb:Nat} (h:kO c F W d k s cb mb) (hk:KF F W W') (he:ER c F W' d' s'):kO c F W' d' k s' cb mb:=
 ⟨he,h.cF,h.mF,h.cG,h.mG,h.ne,hk.row h.row h.cF,h.vars.on (hk.block mb h.mF)⟩
abbrev mF (F:Nat->Prop) (cb mb:Nat):Nat->Prop:=λb=>F b/\b≠cb/\b≠mb
theorem KF.mF {F:Nat->Prop} {W W':World} (h:KF F W W') (cb mb:Nat):KF (mF F cb mb) W W':=h.mono λ_ hb=>hb.1
def kP (c:cH) (F:Nat->Prop) (W:World) (d:Nat) (r:b6 Int) (en:Ending) (w':World):Prop:=
 KF F W w'/\match r with
 | .ok n s'=>en= .returned (I n)/\ER c F w' d s'
 | .stop a b s'=>en= .panicked (mz a b)/\∃d',ER c F w' d' s'
def iQ (c:cH) (F:Nat->Prop) (cb mb:Nat) (W:World) (d:Nat) (r:b6 (Int×bM)) (en:Ending) (w':World):Prop:=
 KF (mF F cb mb) W w'/\match r with
 | .ok q s'=>en= .returned (I q.1)/\kO c F w' d q.2 s' cb mb
 | .stop a b s'=>en= .panicked (mz a b)/\∃d',ER c F w' d' s'
def xM (s:aV):b6 Int:=match s.inp with
 | []=> .ok (-1) s
 |x::l=> .ok x {s with inp:=l}
theorem kP.ok {c:cH} {F:Nat->Prop} {W w':World} {d:Nat} {r:b6 Int} {n:Int} {s':aV} (h:r= .ok n s') (hk:KF F W w') (he:ER c F w' d s'):kP c F W d r (.returned (I n)) w':=by
 rw[h];exact⟨hk,rfl,he⟩
theorem kP.stop {c:cH} {F:Nat->Prop} {W w':World} {d d':Nat} {r:b6 Int} {a b:Int} {s':aV} (h:r= .stop a b s') (hk:KF F W w') (he:ER c F w' d' s'):kP c F W d r (.panicked (mz a b)) w':=by
 rw[h];exact⟨hk,rfl,d',he⟩
theorem ahr (c:cH) (F:Nat->Prop) (W:World) (d:Nat) (s:aV) (h:ER c F W d s):
  Calls Tryz.prog 234 #[.pointer (some ⟨c.rb,0,none⟩)] W (kP c F W d (xM s)):=by
 suffices kN:Calls Tryz.prog 234 #[.pointer (some ⟨c.rb,0,none⟩)] W (λe w'=>Hid (kP c F W d (xM s) e w'))from kN.mono λ_ _ h=>h.out
 obtain⟨iv,ov,hrow,hin,ho,gM⟩:=h.st;have c2:=hrow.k2;have f2:=hrow.frozen 2;have⟨rb,cy⟩:=xq c.rb;rw[<-cy]at c2 f2|-;have HH:=aF h;have bF:=aF cy;have A9:=aF hrow;have uw:=aF hin;have HO:=aF ho;have mE:=aF gM;have aj':=hin.sl;have hroom:=hin.room;obtain⟨ia,ic,rfl,hic,Mk⟩:=aj';obtain⟨_,_,hrm,hroom⟩:=hroom;have hr3:=(Value.slice.inj hrm).2.2;clear hrm;subst hr3;have⟨n,hn⟩:=xq s.inp.length;rw[<-hn]at c2 hic hroom;have HN:=aF hn;have I2:=aF Mk;have⟨Q,hQ⟩:=xq (kP c F W d (xM s));have HQ:=aF hQ;rw[<-hQ];clear h hrow hin ho gM cy hn Mk hQ;by_cases h0:n=0
 ·subst h0;go_enter Tryz.func234,Tryz.ntmps234;go_wp2;go_ret;have hs:s.inp= []:=List.eq_nil_of_length_eq_zero HN.out.symm;rw[HQ.out];refine aF ?_;exact kP.ok (by unfold xM;rw[hs]) (KF.refl _ _) HH
 ·obtain⟨x,l,hs⟩:∃x l,s.inp=x::l:=by
   cases hs:s.inp with
   |nil=>exact absurd (by rw[HN.out,hs];rfl) h0
   |cons x l=>exact⟨x,l,rfl⟩
  obtain⟨b,o,rfl,hG,hat⟩:=I2.out.resolve_left (by rw[hs];simp);obtain⟨C,hC,hx⟩:=hat 0 x (by rw[hs];rfl);have e0:=hC 0 aG;rw[hx]at e0;simp only[Nat.zero_mul,aA]at e0;obtain⟨m,rfl⟩:∃m,n=m+1:=⟨n - 1,aG⟩;have gN:=aF hat;have HS:=aF hs;have hend:∀a,(ic=1/\m=0\/a=⟨b,o+1,none⟩)->kP c F W d (xM s) (.returned (I x)) (W.setCell ⟨rb,2,none⟩ (.slice (some a) m (ic - 1))):=by
   intro a ha;have hg:=bO W rb 2 (.slice (some a) m (ic - 1));rw[bF.out]at hg|-;have hm:m=l.length:=by have:=HN.out;rw[HS.out]at this;simpa using this
   refine kP.ok (s':={s with inp:=l}) (by unfold xM;rw[HS.out]) (HH.kf hg (λr e=>by cases e;exact HH.b.jJ)) (HH.turn hg rfl ⟨HH.small.1,HH.small.2.1,HH.small.2.2.1⟩ (.slice (some a) m (ic - 1)) (A9.set 2 _) ?_ (bZ.rb hg A9 HO) mE);refine⟨⟨some a,ic - 1,by rw[hm],by show l.length<=_;omega, ?_⟩,some a,ic - 1,by rw[hm],by show l.length<=_;omega⟩;rcases ha with⟨_,ha⟩|rfl
   ·exact .inl (show l= []from List.eq_nil_of_length_eq_zero aG)
   ·refine .inr ⟨b,o+1,rfl,hG,λi y hy=> ?_⟩;obtain⟨C',zw,hy'⟩:=gN (i+1) y (by rw[HS.out];simpa using hy);refine⟨C',λj hj=> ?_,hy'⟩;have:=zw j hj;rw[show o+(i+1)*1+j=o+1+i*1+j by omega]at this;rw[<-this];exact World.cell?_of_block (w:=W) (by rw[hg.block b (World.block_lt_of_cell? W _ this)];intro e;cases e;exact HH.b.jJ (HH.b.gf _ hG))
  have yT:=aF hend;clear hC hx hat h0 hs hend;by_cases hc1:ic=1
  ·subst hc1;obtain rfl:m=0:=aG;go_enter Tryz.func234,Tryz.ntmps234;go_wp2;go_ret;rw[HQ.out];refine aF ?_;exact yT ⟨b,o,none⟩ aH
  ·go_enter Tryz.func234,Tryz.ntmps234;go_wp2;go_ret;rw[HQ.out];refine aF ?_;exact yT _ (.inr rfl)
theorem Xi (c:cH) (F:Nat->Prop) (W:World) (d:Nat) (s:aV) (cb mb:Nat) (v:Int) (x:aK) (i:Nat) (g n:Nat) (at_:Int) (h:ER c F W d s) (hcb:Row W cb 148 [.pointer (some (c.rb,0)), .map (some mb),I v])
  (hi:lK c.p x=(i:Nat)) (hg:c.gz[i]? =some (g,n)):
  Calls Tryz.prog 189 #[.pointer (some (cb,0)),S x,I at_] W λe w'=>e=(if at_<0\/(n:Int)<=at_ then .panicked (mz 3 0)else .returned (.pointer (some (g,at_.toNat))))/\Below W W w':=by
 obtain⟨iv,ov,hrow, -, -, -⟩:=h.st;have hpx:=h.b.px;obtain⟨aa,ac,fa,fc,e1,e2⟩:=hpx.slice;rw[e1,e2]at hpx;simp only[yS,e1,e2]at hrow;obtain⟨ra,rc,gP,_,o6⟩:=h.b.eW;rw[gP]at hrow;have hil:i<c.gz.length:=(aj hg).1;obtain⟨b,o,rfl,_,hat⟩:=o6.resolve_left (by intro e;rw[e]at hil;simp at hil);obtain⟨C,hC,hx⟩:=hat i _ hg;have hx:C 0= .slice (some (g,0)) n n:=hx;have e3:=hC 0 aG;rw[hx]at e3;simp only[Nat.mul_one,aA]at e3;have⟨N,hN⟩:=xq c.gz.length;have⟨p,hp⟩:=xq c.p;have⟨rb,cy⟩:=xq c.rb;rw[<-hN]at hrow hil;rw[<-hp]at hrow hpx hi;rw[<-cy]at hrow hcb;have mV:=aF (λW' (hb:Below W W W')=>YI p x _ _ W' c.G (hpx.below hb));rw[hi]at mV;have A9:=aF hrow;have vO:=aF hcb;have hiz: ¬(i:Int)<0:=aG;have hin:(i:Int)<(N:Int):=aG;have iz:=aF e3;have⟨an,dI⟩:=xq p.arrays.length;have⟨fn,hfn⟩:=xq p.funcs.length;rw[<-dI,<-hfn]at mV A9;clear h hpx e1 e2 hrow hcb hi hg gP o6 hat hC hx hN hp cy e3 dI hfn;go_enter Tryz.func189,Tryz.ntmps189;go_wp2;refine cC (λX=>X.cell? (cb,0)=some (.pointer (some (rb,0)))/\X.cell? (rb,0)=some (.slice aa an ac)/\X.cell? (rb,1)=some (.slice fa fn fc)/\X.cell? (rb,3)=some (.slice (some (b,o)) N rc)/\X.cell? (b,o+i)=some (.slice (some (g,0)) n n)) [0,0,0,0,0,0,0,0,0,0,0,0,0,0,0,1,0,0,0] (λwd hh=>⟨aO vO.out hh 0,aO A9.out hh 0,aO A9.out hh 1,aO A9.out hh 3,eP hh iz⟩) λwd hh hgd hS=> ?_;have bE:=aF (show Below W W wd from⟨hgd.os,hgd.tape,hgd.output,hgd.size,λk hk=>hgd.block k hk aH⟩);have fK:=bI vO hgd;have dz:=bI A9 hgd;have BH:=aF (aS iz hgd aH);clear hh hgd;refine dS ?_;go_wp2_with (go_at_call 184;refine aN (mV _ bE) λw1 aM=> ?_;have aI:=aU bE aM;have hr2:=dz.ext aM;have cB:=aF hr2;have iW:=fK.ext aM;have lS:=aF iW;clear hS hr2 iW)
 refine bw ⟨lS.cell 0,cB.cell 0,cB.cell 1,cB.cell 3,aS BH (aT aM) aH⟩ λhS=> ?_;refine dP ?_;clear hS;by_cases h1:at_<0
 ·go_wp2;exact⟨rfl,rfl,aI⟩
 ·by_cases h2:at_<(n:Int)
  ·go_wp2;go_ret;exact⟨rfl,aI⟩
  ·go_wp2;exact⟨rfl,rfl,aI⟩
theorem bZ.on {W W':World} {base:Nat} {v:Value} {l:List Int} (h:bZ W base v l) (hb:∀g,v.ownBlock=some g->W'.heap[g]? =W.heap[g]?):bZ W' base v l:=by
 refine⟨h.1, ?_⟩;rcases h.2 with h|⟨g,cap,cur,rfl,h1,h2,h3⟩
 ·exact .inl h
 ·exact .inr ⟨g,cap,cur,rfl,h1,(hb g rfl).trans h2,h3⟩
theorem ER.add {c:cH} {F Q:Nat->Prop} {W W':World} {d:Nat} {s:aV} {row:Option Nat} (h:ER c F W d s) (hg:W.grownBy W' row) (hr:∀r,row=some r->F r/\ ¬c.G r) (hQ:∀b,Q b->W.heap.size<=b/\b<W'.heap.size):ER c (λb=>F b\/Q b) W' d s:=by
 obtain⟨iv,ov,h1,h2,h3,h4⟩:=h.st;have hG:∀r',row=some r'-> ¬c.G r':=λr' e=>(hr r' e).2;have cy:c.rb<W.heap.size:=h1.lt;have tT:∀x∈c.gz,x.1<W.heap.size:=λx hx=>by
  obtain⟨i,hi,uq⟩:=List.getElem_of_mem hx;have Gc:i<s.fB.length:=by rw[h.b.len];exact hi
  exact(h.b.arr i x s.fB[i] (by rw[ah hi,uq]) (ah Gc)).1.lt
 refine⟨⟨?_,λb hb=> .inl (h.b.gf b hb), ?_,h.b.px.grown hg hG,h.b.eW.grown hg hG λ_ _ h=>h,h.b.Bl,λx hx=>⟨(h.b.nK x hx).1, ?_⟩,h.b.len,h.b.yg,λi x l hx hl=> ?_⟩,
  h.small,iv,ov,h1.kept hg (λe=>h.b.jJ (hr _ e.symm).1),h2.grown hg hG λ_ _ h=>h,h3.kept hg (λr' e e'=>(h4 r' e').1 (hr r' e).1),λg hg'=>⟨?_,(h4 g hg').2⟩⟩
 ·rintro b (hb|hb)
  ·exact aB (h.b.lt b hb) hg.size
  ·exact(hQ b hb).2
 ·rintro(hb|hb)
  ·exact h.b.jJ hb
  ·have:=(hQ _ hb).1;omega
 ·rintro(hb|hb)
  ·exact(h.b.nK x hx).2 hb
  ·have:=(hQ _ hb).1;have:=tT x hx;omega
 ·obtain⟨k1,k2⟩:=h.b.arr i x l hx hl;exact⟨k1.kept hg λe=>(h.b.nK x (List.mem_of_getElem? hx)).2 (hr _ e.symm).1,k2⟩
 ·rintro(hb|hb)
  ·exact(h4 g hg').1 hb
  ·have:=(cO h3 g hg').2;have:=(hQ _ hb).1;omega
theorem QO {f:LE->aV->b6 Int} {x:LE}:∀(l:List LE) (s s1:aV) (ns:List Int),dw f l s= .ok ns s1->dw f (l++ [x]) s=match f x s1 with
  | .stop a b s2=> .stop a b s2
  | .ok n s2=> .ok (ns++ [n]) s2
 | [],s,s1,ns,h=>by
  rw[dw]at h
  injection h with h1 h2
  subst h1 h2
  show dw f [x] s=_
  rw[dw]
  cases f x s with
  |stop a b t=>rfl
  |ok n t=>rfl
 |e::l,s,s1,ns,h=>by
  rw[dw]at h
  show dw f (e::(l++ [x])) s=_
  rw[dw]
  cases he:f e s with
  |stop a b t=>rw[he]at h;cases h
  |ok n t=>
   rw[he]at h
   simp only at h|-
   cases hl:dw f l t with
   |stop a b u=>rw[hl]at h;cases h
   |ok ms u=>
    rw[hl]at h
    simp only at h
    injection h with h1 h2
    subst h1 h2
    rw[QO l t u ms hl]
    cases f x u with
    |stop a b v=>rfl
    |ok m v=>rfl
theorem QS {f:LE->aV->b6 Int} {a b:Int} {s2:aV}:∀(l r:List LE) (s:aV),dw f l s= .stop a b s2->dw f (l++r) s= .stop a b s2
 | [],_,_,h=>by cases h
 |e::l,r,s,h=>by
  rw[dw]at h
  show dw f (e::(l++r)) s=_
  rw[dw]
  cases he:f e s with
  |stop a' b' t=>rw[he]at h;exact h
  |ok n t=>
   rw[he]at h
   simp only at h|-
   cases hl:dw f l t with
   |stop a' b' u=>rw[hl]at h;rw[QS l r t hl];exact h
   |ok ms u=>rw[hl]at h;cases h
def H8 (c:cH) (R:Nat) (m:Nat->Vars->LE->aV->b6 Int):Prop:=
 ∀(F:Nat->Prop) (W:World) (d:Nat) (s:aV) (k:bM) (cb mb:Nat) (e:LE) (av:Value),kO c F W d k s cb mb->EX c.G W av e->XE c.p e->2*left c.most s+1<=R->
  Calls Tryz.prog 218 #[.pointer (some ⟨cb,0,none⟩),eV e av] W (kP c F W d (m d k.vars e s))
def Cg (c:cH) (F:Nat->Prop) (W:World) (d:Nat) (r:b6 (List Int)) (en:Ending) (w':World):Prop:=
 KF F W w'/\match r with
 | .ok ns s'=>∃ov,en= .returned ov/\bZ w' W.heap.size ov ns/\ER c (λb=>F b\/ov.ownBlock=some b) w' d s'
 | .stop a b s'=>en= .panicked (mz a b)/\∃d',ER c F w' d' s'
theorem Cg.ok {c:cH} {F:Nat->Prop} {W w':World} {d:Nat} {r:b6 (List Int)} {ns:List Int} {s':aV} {ov:Value} (h:r= .ok ns s') (hk:KF F W w') (ho:bZ w' W ov ns) (he:ER c (λb=>F b\/ov.ownBlock=some b) w' d s'):Cg c F W d r (.returned ov) w':=by
 rw[h];exact⟨hk,ov,rfl,ho,he⟩
theorem Cg.stop {c:cH} {F:Nat->Prop} {W w':World} {d d':Nat} {r:b6 (List Int)} {a b:Int} {s':aV} (h:r= .stop a b s') (hk:KF F W w') (he:ER c F w' d' s'):Cg c F W d r (.panicked (mz a b)) w':=by
 rw[h];exact⟨hk,rfl,d',he⟩
theorem YU (c:cH) (R:Nat) (m:Nat->Vars->LE->aV->b6 Int) (hE:H8 c R m) (hu:∀d vs e s n s',m d vs e s= .ok n s'->mh 1 s s') (F:Nat->Prop) (W:World) (d:Nat) (s:aV) (k:bM) (cb mb:Nat) (l:List LE) (v:Value)
  (h:kO c F W d k s cb mb) (hv:AX c.G W v l) (hx:∀x∈l,XE c.p x) (hR:2*left c.most s+1<=R):
  Calls Tryz.prog 188 #[.pointer (some (cb,0)),v] W (Cg c F W d (dw (m d k.vars) l s)):=by
 suffices kN:Calls Tryz.prog 188 #[.pointer (some (cb,0)),v] W (λe w'=>Hid (Cg c F W d (dw (m d k.vars) l s) e w'))from kN.mono λ_ _ h=>h.out
 have⟨Q,hQ⟩:=xq (Cg c F W d (dw (m d k.vars) l s));have HQ:=aF hQ;rw[<-hQ];obtain⟨a0,c0,rfl⟩:=hv.slice;obtain⟨dd,hv⟩:=hv;have hlen:l.length<=1000000000:=by obtain⟨_,_,_,h,_⟩:=hv;exact h
 have⟨N,hN⟩:=xq l.length;have hv:aP c.G 5 (RE dd c.G) W (.slice a0 N c0) l:=by rw[hN];exact hv
 rw[show((LE.mk 0 0 0 [] l).args.length)=N from hN.symm];have HV:=aF hv;have HX:=aF hx;have HN:=aF hN;have HH:=aF h;have HR:=aF hR;have HE:=aF hE;have HU:=aF hu;have hN9:N<=1000000000:=by rw[hN];exact hlen
 clear h hv hx hR hQ hN hlen hE hu;go_enter Tryz.func188,Tryz.ntmps188;go_upto_region 2 with(fail)
 go_loopg [4,9] N (λgh v i wr=>∃j:Nat,gh+j=N/\i=I j/\Hid (∃ns s1,dw (m d k.vars) (l.take j) s= .ok ns s1/\KF F W wr/\bZ wr W v ns/\ER c (λb=>F b\/v.ownBlock=some b) wr d s1))
 case atStart=>
  refine⟨0,rfl,rfl,aF ⟨[],s,rfl,KF.refl _ _,⟨rfl, .inl ⟨rfl,rfl⟩⟩,HH.er.add (row:=none) ⟨rfl,rfl,rfl,ay _,λ_ _ _=>rfl⟩ aJ aJ⟩⟩
 case round=>
  obtain⟨j,hg,rfl,HS⟩:=hrel;obtain⟨wo,rfl⟩:=xq wr;by_cases hlt:j<N
  ·have bT:(j:Int)<(N:Int):=aG;obtain⟨ns,s1,ha,hk,ho,he⟩:=HS.out;have hjl:j<l.length:=by rw[<-HN.out];exact hlt
   have iY:=HV.on (λb hb=>hk.block b (HH.er.b.gf b hb)) (λC x h=>RE.on dd (λb hb=>hk.block b (HH.er.b.gf b hb)) h);obtain⟨b,o,C,rfl,_,hC,hrx⟩:=iY.at hjl;have⟨x,hx⟩:=xq (l[j]);rw[<-hx]at hrx;obtain⟨dx,rfl⟩:∃dx,dd=dx+1:=by
    cases dd with
    |zero=>exact hrx.elim
    |succ dx=>exact⟨dx,rfl⟩
   obtain⟨h0,h1,h2,h3,h4⟩:=hrx;obtain⟨xa,xc,hxv, -⟩:=id h4;have e0:=hC 0 aG;have e1:=hC 1 aG;have e2:=hC 2 aG;have e3:=hC 3 aG;have e4:=hC 4 aG;rw[h0]at e0;rw[h1]at e1;rw[h2]at e2;rw[h3]at e3;rw[hxv]at e4 h4;simp only[aA]at e0 e1 e2 e3 e4;have htk:l.take (j+1)=l.take j++ [x]:=by rw[List.take_succ_eq_append_getElem hjl,hx]
   have dN:=QO (x:=x) _ _ _ _ ha;rw[<-htk]at dN;have hst:∀a b s2,dw (m d k.vars) (l.take (j+1)) s= .stop a b s2->dw (m d k.vars) l s= .stop a b s2:=λa b s2 h=>by
    have:=QS _ (l.drop (j+1)) _ h;rwa[List.take_append_drop]at this
   have kS:XE c.p x:=by rw[hx];exact HX _ (ak hjl)
   have hup:=(vZ (λh=>HU.out _ _ _ _ _ _ h) _ _ _ _ ha).1;have hns:ns.length<=1000000000:=by rw[(vZ (λh=>HU.out _ _ _ _ _ _ h) _ _ _ _ ha).2,List.length_take];omega
   have HA:=aF ha;have HK:=aF hk;have HO:=aF ho;have CX:=aF he;have IW:=aF dN;have HST:=aF hst;have cI:=aF h4;have rR:=aF kS;have Eh:=aF hup;have hbase:W.heap.size<=wo.heap.size:=hk.size;clear ha hk ho he dN hst h4 kS hup h0 h1 h2 h3 hC hxv hx htk HS iY;go_upto_region 4 with(refine sr 31 (.tmp 6) (.tmp 12) wo eZ hn0 ?_)
   obtain⟨w3,hw3⟩:∃w3,w3=(wo.alloc (.cells eZ 31)).setRow wo #[I x.kind,I x.op,I x.n,S x.name, .slice xa x.args.length xc]:=⟨_,rfl⟩;have hg3:wo.grownBy w3 none:=by rw[hw3,World.setRow_alloc_new];exact cE _ _ _
   have hx3:Row w3 wo 31 [I x.kind,I x.op,I x.n,S x.name, .slice xa x.args.length xc]:=by rw[hw3];exact setRow_heap _ _ _ _ _ _ hn0
   rw[<-hw3];have hcs:kO c (λb=>F b\/u4.ownBlock=some b) w3 d k s1 cb mb:=by
    refine⟨CX.quiet hg3, .inl HH.cF, .inl HH.mF,HH.cG,HH.mG,HH.ne,(HK.row HH.row HH.cF).kept hg3 aH,(HH.vars.on (HK.block mb HH.mF)).on (hg3.block mb ?_ aH)⟩;exact aB (HH.er.b.lt mb HH.mF) hbase
   have eA:=aF (HE _ _ _ _ _ _ _ x (.slice xa x.args.length xc) hcs (EX.on ⟨dx,cI⟩ (λb hb=>hg3.block b (CX.b.lt b (.inl (HH.er.b.gf b hb))) aH)) rR (az (iZ (ua (most:=c.most) Eh)) HR));have hk3:KF F W w3:=HK.out.trans (KF.grown hg3 (λb hb=>CX.b.lt b (.inl hb)) aJ);have c0:=hx3.k0;have c1:=hx3.k1;have c2:=hx3.k2;have c3:=hx3.k3;have c4:=hx3.k4;have gy:=aF hk3;have hb3:W.heap.size<=w3.heap.size:=hk3.size;have eU:=aF (HO.kept hg3 aJ);clear hw3 hx3 hcs hk3 CX HK cI HO hg3 e0 e1 e2 e3 e4;have⟨r,hr⟩:=xq (m d k.vars x s1);rw[<-hr]at eA IW;have fP:=aF hr;clear hr;cases r with
   |stop a b' s2=>
    go_upto_region 5 with(go_at_call 218;refine eA.mono ?_;rintro e' w4⟨hk4,rfl,d',cV⟩;have bR:=aF hk4;have dR:=aF cV;clear hk4 cV)
    refine⟨rfl, ?_⟩;show Hid (Q (.panicked (mz a b')) w4);rw[HQ.out];exact aF (Cg.stop (HST _ _ _ IW) (gy.out.trans (bR.mono λb hb=> .inl hb)) (dR.less (λb hb=> .inl hb) HH.er.b.gf))
   |ok n s2=>
    go_upto_region 5 with(first|(go_at_call 218;refine eA.mono ?_;rintro e' w4⟨hk4,rfl,cV⟩;have bR:=aF hk4;have dR:=aF cV;have mH:=aF (eU.on λg hg=>hk4.block g (.inr hg));have hb4:W.heap.size<=w4.heap.size:=az hb3 hk4.size;clear hk4 cV)|(at_builtin;refine ES rfl _ _ rfl W.heap.size u4 ns rfl (mH.kept (cE _ (.cells #[I n] 3) none) aJ) w4.heap.size n rfl (by rw[cell_of_block (cj w4 (.cells #[I n] 3))];rfl) aG ct ?_;intro g' cap w6 dY bG fy lZ;have gK:=aF dY;have di:=aF bG;have gN:=aF fy;clear dY bG fy))
    have hown:∀r,u4.ownBlock=some r->W.heap.size<=r/\r<w4.heap.size:=λr e=>cO mH r e;have mX:KF F W w6:=((gy.out.trans (bR.mono λb hb=> .inl hb)).trans (KF.grown (cE w4 (.cells #[I n] 3) none) (λb hb=>dR.b.lt b (.inl hb)) aJ)).trans (KF.grown di (λb hb=>by have:=dR.b.lt b (.inl hb);simp;omega) (λr e hF=>by have:=(hown r e).1;have:=HH.er.b.lt r hF;omega));have zB:ER c (λb=>F b\/some g'=some b) w6 d s2:=by
     refine((dR.quiet (cE w4 (.cells #[I n] 3) none)).add (Q:=λb=>b=g'/\(w4.alloc (.cells #[I n] 3)).heap.size<=b) di (λr e=>⟨.inr e,λhG=> ?_⟩) (λb hb=>⟨hb.2,by rw[hb.1];exact lZ⟩)).less ?_ (λb hb=> .inl (HH.er.b.gf b hb))
     ·have:=(hown r e).1;have:=HH.er.b.lt r (HH.er.b.gf r hG);omega
     ·rintro b (hb|hb)
      ·exact .inl (.inl hb)
      ·have hb':=Option.some.inj hb;rcases gN.out with h|h
       ·exact .inl (.inr (by rw[<-hb'];exact h))
       ·exact .inr ⟨hb'.symm,by rw[<-hb',h];exact ay _⟩
    have ir:=aF mX;have uv:=aF zB;clear mX zB hown;go_wp2;go_roundg (N - (j+1))
    case measure=>omega
    case rel=>exact⟨j+1,aG,by go_num,aF ⟨ns++ [n],s2,IW,ir,gK,uv⟩⟩
  ·have bT: ¬(j:Int)<(N:Int):=aG;obtain⟨ns,s1,ha,hk,ho,he⟩:=HS.out;rw[List.take_of_length_le (by rw[<-HN.out];omega)]at ha;have HA:=aF ha;have HK:=aF hk;have HO:=aF ho;have CX:=aF he;clear ha hk ho he HS;go_wp2;go_ret;rw[HQ.out];exact aF (Cg.ok HA HK HO CX)
end
end Go.Proofs.YtjgbkdbkachciaaGreatDoor
