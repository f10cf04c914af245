import Derived.Test.YtjgbkdbkachciaaGreatDoorE0
set_option linter.all false
namespace Go.Proofs.YtjgbkdbkachciaaGreatDoor
set_option maxRecDepth 100000
set_option maxHeartbeats 16000000
section
open Go.RowKit Go.Shelf
theorem Y2 (c:Sc):∀d:Nat,1<=d->d<=100->Sz c d
 |0,h,_=>absurd h aQ
 |d+1,_,h=>afe c d (λh1=>Y2 c d h1 aG) aG
end
section
open Go.RowKit Go.Shelf
attribute [local go_sem] Oper.semAt_some
structure FD where
 q:PQ
 pa:Option Addr
 pc:Nat
 la:Option Addr
 lc:Nat
 ba:Option Addr
 bc:Nat
abbrev FD.pv (p:FD):Value:= .slice p.pa p.q.np p.pc
abbrev FD.lv (p:FD):Value:= .slice p.la p.q.nl p.lc
abbrev FD.bv (p:FD):Value:= .slice p.ba p.q.body.length p.bc
def pR (p:FD):List Value:= [S p.q.nm,p.pv,p.lv,p.bv]
theorem JJ (p:FD):(pR p).length=4:=rfl
theorem Q0 (p:FD):∀u∈pR p,u.oneCell'=true:=by intro u hu;simp [pR]at hu;rcases hu with rfl|rfl|rfl|rfl<;>rfl
structure tJ (B:Nat->Prop) (w:World) (p:FD):Prop where
 fp:aP B 1 dc w p.pv (pq.take p.q.np)
 fl:aP B 1 dc w p.lv (tP.take p.q.nl)
 fb:SX B w p.bv p.q.body
theorem tJ.grown {B:Nat->Prop} {w w':World} {row:Option Nat} {p:FD} (h:tJ B w p) (hg:w.grownBy w' row) (hr:∀r,row=some r-> ¬B r):tJ B w' p:=
 ⟨h.fp.grown hg hr i20,h.fl.grown hg hr i20,SX.grown h.fb hg hr⟩
theorem tJ.weak {B B':Nat->Prop} {w:World} {p:FD} (h:tJ B w p) (hB:∀b,B b->B' b):tJ B' w p:=⟨h.fp.weak hB i20,h.fl.weak hB i20,SX.weak h.fb hB⟩
theorem a_.fns {w:World} {base:Nat} {v:Value} {l:List FD} (h:a_ 4 52 pR w base v l) (hl:l.length<=1000000000) (hA:∀p∈l,tJ (base<=·) w p):aP (base<=·) 4 (RF (base<=·)) w v (l.map λp=>p.q.f):=
 h.l7 (λp=>p.q.f) JJ hl λp hp=>⟨rfl,(hA p hp).fp,(hA p hp).fl,(hA p hp).fb⟩
def oD (wr:World) (lo base:Nat) (v:Value) (done:List FD):Prop:=lo<=base/\a_ 4 52 pR wr base v done/\∀p∈done,tJ (λb=>lo<=b/\b<wr.heap.size/\v.ownBlock≠some b) wr p
theorem oD.nil (w:World) {lo base:Nat} (h:lo<=base):oD w lo base (.slice none 0 0) []:=⟨h,a_.nil,aJ⟩
theorem oD.grown {w w':World} {lo base:Nat} {v:Value} {done:List FD} {row:Option Nat} (h:oD w lo base v done) (hg:w.grownBy w' row) (hr:∀r,row=some r->r<lo):oD w' lo base v done:=by
 have hsz:=hg.size;have hlo:=h.1;refine⟨h.1,j0 h.2.1 hg ?_,λp hp=> ?_⟩
 ·cases hv:v.ownBlock with
  |none=>exact .inl rfl
  |some k=>
   right;intro e;have:=hr k e.symm;have:=(cO h.2.1 k hv).1;omega
 ·exact((h.2.2 p hp).grown hg (λr e hb=>by have:=hr r e;omega)).weak λb hb=>⟨hb.1,aG,hb.2.2⟩
theorem oD.app {w1 w2 w3:World} {lo base g:Nat} {v v':Value} {done:List FD} {row:Option Nat} {y:FD} {o:Obj} (h:oD w1 lo base v done) (hg:w1.grownBy w2 row) (hr:∀r,row=some r->r<lo) (hx:tJ (λb=>lo<=b/\b<w2.heap.size/\v.ownBlock≠some b) w2 y)
  (ho:a_ 4 52 pR w3 base v' (done++ [y])) (hg3:(w2.alloc o).grownBy w3 v.ownBlock) (hv':v'.ownBlock=some g) (hat:v.ownBlock=some g\/g=(w2.alloc o).heap.size):oD w3 lo base v' (done++ [y]):=by
 have hs2:=hg.size;have hz2:(w2.alloc o).heap.size=w2.heap.size+1:=aH;have hz3:=hg3.size;have h2:=h.grown hg hr;have hnb:∀b,lo<=b->b<w2.heap.size->v.ownBlock≠some b->lo<=b/\b<w3.heap.size/\v'.ownBlock≠some b:=by
  intro b h1 h2 h3;refine⟨h1,aG,λe=> ?_⟩;rw[hv']at e;obtain rfl:=Option.some.inj e;rcases hat with h4|h4
  ·exact h3 h4
  ·omega
 have ha:∀{B:Nat->Prop} {p:FD},tJ B w2 p->tJ B (w2.alloc o) p:=λh=>h.grown iD aJ;have hall:∀p,tJ (λb=>lo<=b/\b<w2.heap.size/\v.ownBlock≠some b) w2 p->tJ (λb=>lo<=b/\b<w3.heap.size/\v'.ownBlock≠some b) w3 p:=λp hp=>
  ((ha hp).grown hg3 (λr e hb=>hb.2.2 e)).weak λb hb=>hnb b hb.1 hb.2.1 hb.2.2
 refine⟨h.1,ho,λp hp=> ?_⟩;rcases List.mem_append.1 hp with hp|hp
 ·exact hall p (h2.2.2 p hp)
 ·obtain rfl:=ai hp;exact hall p hx
theorem oD.read {w:World} {lo base:Nat} {v:Value} {done:List FD} (h:oD w lo base v done) (hl:done.length<=1000000000):aP (λb=>lo<=b/\b<w.heap.size) 4 (RF (λb=>lo<=b/\b<w.heap.size)) w v (done.map λp=>p.q.f):=
 ((h.2.1.mono h.1).fns hl λp hp=>(h.2.2 p hp).weak λ_ hb=>hb.1).size aG λ_ _ h=>⟨h.1,h.2.1.size aG i20,h.2.2.1.size aG i20,SX.size h.2.2.2⟩
theorem Hr {B:Nat->Prop} {w:World} {g c:Nat} {l:List aK} (h:Row w g 9 (l.map S)) (hB:B g) {r:Nat} (hr:r<=l.length) (hl:l.length<=1000):aP B 1 dc w (.slice (some (g,0)) r c) (l.take r):=by
 have hlen:(l.take r).length=r:=by rw[List.length_take];omega
 refine⟨some (g,0),c,by rw[hlen],aG, .inr ⟨g,0,rfl,hB,λi x hx=> ?_⟩⟩;rw[List.getElem?_take]at hx;split at hx
 ·refine⟨λ_=>S x,λj hj=> ?_,rfl⟩;obtain rfl:j=0:=aG;rw[h.cell,List.getElem?_map];simp only[Nat.mul_one,Nat.zero_add,aA,hx,Option.map_some]
 ·cases hx
def dn (f:Nat->aK) (n k:Nat):List aK:=(List.range (n - k)).map λj=>f (n - j)
def tQ:Nat->aK
 |1=>nB
 |_=>nC
def wW:Nat->aK
 |1=>nG
 |_=>nH
def scL (aX:List LA) (ps:List (aK×Nat)) (np nl:Nat):Sc:=⟨false,λx=>x∈pq.take np++tP.take nl,λx=>∃a∈aX,a.name=x,λx n=>(x,n)∈ps⟩
def ao0 (p:FD):aK×Nat:=(p.q.nm,p.q.np)
structure ao2 (hs:List FD):Prop where
 names:hs.map (λp=>p.q.nm)= [dX]\/hs.map (λp=>p.q.nm)= [dX,nG]\/hs.map (λp=>p.q.nm)= [dX,nH,nG]
 few:∀p∈hs,p.q.np<=6/\(p.q.nm=dX->p.q.np=0)
structure sG (W:World) (cb pb:Nat) (cr pr:List Value) (w:World):Prop where
 below:Below W.heap.size W w
 out:Row w W.heap.size 27 [.slice none 0 0, .slice none 0 0]
 c:Row w cb 64 cr
 p:Row w pb 27 pr
 src:Src (W.heap.size+1) w
 lc:W.heap.size+1<cb
 lp:cb<pb
section
variable {W w w':World} {cb pb:Nat} {cr pr:List Value}
theorem sG.lt (h:sG W cb pb cr pr w):pb<w.heap.size:=h.p.lt
theorem sG.draw (h:sG W cb pb cr pr w) (hs:SG (W,1) w w'):sG W cb pb cr pr w':=
 ⟨h.below.grown hs.1 h.below.size bh,hs.row h.out aG,hs.row h.c (iZ h.lc),hs.row h.p (by have:=h.lc;have:=h.lp;omega),hs.2,h.lc,h.lp⟩
theorem sG.kept {row:Option Nat} (h:sG W cb pb cr pr w) (hg:w.grownBy w' row) (hr:∀r,row=some r->pb<r):sG W cb pb cr pr w':=by
 have h1:=h.lc;have h2:=h.lp;exact⟨h.below.grown hg h.below.size (λr e=>by have:=hr r e;omega),h.out.kept hg (λe=>by have:=hr _ e.symm;omega),h.c.kept hg (λe=>by have:=hr _ e.symm;omega),h.p.kept hg (λe=>by have:=hr _ e.symm;omega),h.src.kept hg (λr e=>by have:=hr r e;omega),h1,h2⟩
theorem sG.TR (h:sG W cb pb cr pr w) (j:Nat) (v:Value):sG W cb pb (cr.set j v) pr (w.setCell (cb,j) v):=by
 have h1:=h.lc;have h2:=h.lp;have hg:=bO w cb j v;exact⟨h.below.grown hg h.below.size bh,h.out.kept hg nX,h.c.set j v,h.p.kept hg nX,h.src.kept hg bh,h1,h2⟩
theorem sG.TP (h:sG W cb pb cr pr w) (j:Nat) (v:Value):sG W cb pb cr (pr.set j v) (w.setCell (pb,j) v):=by
 have h1:=h.lc;have h2:=h.lp;have hg:=bO w pb j v;exact⟨h.below.grown hg h.below.size bh,h.out.kept hg nX,h.c.kept hg nX,h.p.set j v,h.src.kept hg bh,h1,h2⟩
end
structure ju (t:TypeId) (sb n₀:Nat) (W W':World):Prop where
 old:∀(k:Nat) (o:Obj),W.heap[k]? =some o->k=sb\/(∃cs,o=Obj.cells cs t (0,0))\/W'.heap[k]? =some o
 new:∀(k:Nat) (cs:List Value),n₀<=k->Row W k t cs->∃cs':List Value,cs'.length=cs.length/\Row W' k t cs'
theorem ju.of {t:TypeId} {sb n₀:Nat} {W W':World} (h:W.grownBy W' (some sb)) (hn:sb<n₀):ju t sb n₀ W W':=
 ⟨λk o hk=>by
  by_cases hks:k=sb
  ·exact .inl hks
  ·exact .inr (.inr (tZ h hk (λe=>hks (Option.some.inj e)))),λk cs hk hr=>⟨cs,rfl,hr.kept h nX⟩⟩
theorem ju.refl (t:TypeId) (sb n₀:Nat) (W:World) (hn:sb<n₀):ju t sb n₀ W W:=ju.of ⟨rfl,rfl,rfl,ay _,λ_ _ _=>rfl⟩ hn
theorem ju.al (t:TypeId) (sb n₀:Nat) (W:World) (o:Obj) (hn:sb<n₀):ju t sb n₀ W (W.alloc o):=ju.of (cE _ _ _) hn
theorem ju.row {t:TypeId} {sb n₀:Nat} {W W':World} (h:ju t sb n₀ W W') {g:Nat} {e:TypeId} {cs:List Value} (hr:Row W g e cs) (he:e≠t) (hg:n₀<=g) (hn:sb<n₀):Row W' g e cs:=by
 rcases h.old g _ hr with h1|⟨c,h1⟩|h1
 ·omega
 ·simp only[Obj.cells.injEq]at h1;exact absurd h1.2.1 he
 ·exact h1
theorem ju.set {t:TypeId} {sb n₀:Nat} {W:World} {g:Nat} {cs cs':List Value} (hr:Row W g t cs) (hl:cs'.length=cs.length):ju t sb n₀ W (W.setRow g cs'.toArray):=by
 have hrow:Row (W.setRow g cs'.toArray) g t cs':=setRow_heap _ _ _ _ _ _ hr;refine⟨λk o hk=> ?_,λk c hk hr'=> ?_⟩
 ·by_cases hkg:k=g
  ·subst hkg;unfold Row at hr;rw[hr]at hk;exact .inr (.inl ⟨_,(Option.some.inj hk).symm⟩)
  ·exact .inr (.inr (tZ bJ hk (λe=>hkg (Option.some.inj e))))
 ·by_cases hkg:k=g
  ·subst hkg;unfold Row at hr hr';rw[hr]at hr';have:cs.toArray=c.toArray:=by simpa using hr'
   have:=congrArg Array.toList this;simp only[List.toList_toArray]at this;subst this;exact⟨cs',hl,hrow⟩
  ·exact⟨c,rfl,tZ bJ hr' (λe=>hkg (Option.some.inj e))⟩
theorem ZF {F:Fence} {n:Nat} {P:Program} {ops:Array Oper} {Q:Exit->Act->World->Prop} {i:Nat} {o:Oper} {a:Act} {W:World} {K:Act->World->Prop} (ho:ops[i]? =some o) (hg:o.guard=none) (ty:TypeId) (x y:Operand) (hop:o.op= .store ty x y)
  (g:Nat) (cells:List Value) (hx:a.eval x= .pointer (some (g,0))) (hy:a.eval y= .agg cells.toArray) (t:TypeId) (old:List Value) (hr:Row W g t old) (hi:(P.info? ty).map (·.size)=some cells.length) (hold:old.length=cells.length) (h1:cells.all (·.oneCell')=true)
  (h:K (a.put o.dst undef) (W.setRow g cells.toArray)):wpOpIn F n P ops Q i K a W:=by
 refine N2 ho hg (λf hf=>by simp [Oper.about,hop]at hf) (by rw[hop];intro c hc;cases hc) (W':=W.setRow g cells.toArray) ?_ h;simp only[execOp,hop,hx,hy,Instr.storeAt,Instr.sureAddr,Sem.run_bind,Sem.run_pure,Result.andThen_ok,run_storeVar_row W g t ty old.toArray cells.toArray hr (by simpa using hi) (by simpa using hold) (by simpa using h1)]
end
end Go.Proofs.YtjgbkdbkachciaaGreatDoor
