import Derived.Test.YtngglbakkedaiaaGreatDoorE0
set_option linter.all false
namespace Go.Proofs.YtngglbakkedaiaaGreatDoor
section
open Go.RowKit Go.Shelf
theorem stmts30F (c:Sc):∀d:Nat,1≤d→d≤100→DrTC c d
 |0,h,_=>absurd h dc0
 |d+1,_,h=>stmts30_step c d (fun h1=>stmts30F c d h1 om0) om0
end
section
open Go.RowKit Go.Shelf
attribute [local go_sem] Oper.semAt_some
structure FD where
 q:PQ
 pa:Option Addr
 pc:Nat
 la:Option Addr
 lc:Nat
 ba:Option Addr
 bc:Nat
abbrev FD.pv (p:FD):Value:= .slice p.pa p.q.np p.pc
abbrev FD.lv (p:FD):Value:= .slice p.la p.q.nl p.lc
abbrev FD.bv (p:FD):Value:= .slice p.ba p.q.body.length p.bc
def fnEnc (p:FD):List Value:= [S p.q.nm,p.pv,p.lv,p.bv]
theorem fnEnc_len (p:FD):(fnEnc p).length=4:=rfl
theorem fnEnc_one (p:FD):∀u∈fnEnc p,u.oneCell'=true:=by intro u hu;simp [fnEnc]at hu;rcases hu with rfl|rfl|rfl|rfl<;>rfl
structure PartF (B:Nat→Prop) (w:World) (p:FD):Prop where
 fp:RSlB B 1 RStr w p.pv (nmP.take p.q.np)
 fl:RSlB B 1 RStr w p.lv (nmL.take p.q.nl)
 fb:SX B w p.bv p.q.body
theorem PartF.grown {B:Nat→Prop} {w w':World} {row:Option Nat} {p:FD} (h:PartF B w p) (hg:w.grownBy w' row) (hr:∀r,row=some r→ ¬B r):PartF B w' p:=
 ⟨h.fp.grown hg hr i20,h.fl.grown hg hr i20,SX.grown h.fb hg hr⟩
theorem PartF.weak {B B':Nat→Prop} {w:World} {p:FD} (h:PartF B w p) (hB:∀b,B b→B' b):PartF B' w p:=⟨h.fp.weak hB i20,h.fl.weak hB i20,SX.weak h.fb hB⟩
theorem OwnS.fns {w:World} {base:Nat} {v:Value} {l:List FD} (h:OwnS 4 51 fnEnc w base v l) (hl:l.length≤1000000000) (hA:∀p∈l,PartF (base≤·) w p):RSlB (base≤·) 4 (RF (base≤·)) w v (l.map fun p=>p.q.f):=
 h.rslB (fun p=>p.q.f) fnEnc_len hl fun p hp=>⟨rfl,(hA p hp).fp,(hA p hp).fl,(hA p hp).fb⟩
def FnI (wr:World) (lo base:Nat) (v:Value) (done:List FD):Prop:=lo≤base∧OwnS 4 51 fnEnc wr base v done∧∀p∈done,PartF (fun b=>lo≤b∧b<wr.heap.size∧v.ownBlock≠some b) wr p
theorem FnI.nil (w:World) {lo base:Nat} (h:lo≤base):FnI w lo base (.slice none 0 0) []:=⟨h,OwnS.nil,nx0⟩
theorem FnI.grown {w w':World} {lo base:Nat} {v:Value} {done:List FD} {row:Option Nat} (h:FnI w lo base v done) (hg:w.grownBy w' row) (hr:∀r,row=some r→r<lo):FnI w' lo base v done:=by
 have hsz:=hg.size;have hlo:=h.1;refine⟨h.1,ownsRow_kept' h.2.1 hg ?_,fun p hp=> ?_⟩
 ·cases hv:v.ownBlock with
  |none=>exact .inl rfl
  |some k=>
   right;intro e;have:=hr k e.symm;have:=(ownsRow_base h.2.1 k hv).1;omega
 ·exact((h.2.2 p hp).grown hg (fun r e hb=>by have:=hr r e;omega)).weak fun b hb=>⟨hb.1,om0,hb.2.2⟩
theorem FnI.app {w1 w2 w3:World} {lo base g:Nat} {v v':Value} {done:List FD} {row:Option Nat} {y:FD} {o:Obj} (h:FnI w1 lo base v done) (hg:w1.grownBy w2 row) (hr:∀r,row=some r→r<lo) (hx:PartF (fun b=>lo≤b∧b<w2.heap.size∧v.ownBlock≠some b) w2 y)
  (ho:OwnS 4 51 fnEnc w3 base v' (done++ [y])) (hg3:(w2.alloc o).grownBy w3 v.ownBlock) (hv':v'.ownBlock=some g) (hat:v.ownBlock=some g∨g=(w2.alloc o).heap.size):FnI w3 lo base v' (done++ [y]):=by
 have hs2:=hg.size;have hz2:(w2.alloc o).heap.size=w2.heap.size+1:=sm0;have hz3:=hg3.size;have h2:=h.grown hg hr;have hnb:∀b,lo≤b→b<w2.heap.size→v.ownBlock≠some b→lo≤b∧b<w3.heap.size∧v'.ownBlock≠some b:=by
  intro b h1 h2 h3;refine⟨h1,om0,fun e=> ?_⟩;rw[hv']at e;obtain rfl:=Option.some.inj e;rcases hat with h4|h4
  ·exact h3 h4
  ·omega
 have ha:∀{B:Nat→Prop} {p:FD},PartF B w2 p→PartF B (w2.alloc o) p:=fun h=>h.grown ag0 nx0;have hall:∀p,PartF (fun b=>lo≤b∧b<w2.heap.size∧v.ownBlock≠some b) w2 p→PartF (fun b=>lo≤b∧b<w3.heap.size∧v'.ownBlock≠some b) w3 p:=fun p hp=>
  ((ha hp).grown hg3 (fun r e hb=>hb.2.2 e)).weak fun b hb=>hnb b hb.1 hb.2.1 hb.2.2
 refine⟨h.1,ho,fun p hp=> ?_⟩;rcases List.mem_append.1 hp with hp|hp
 ·exact hall p (h2.2.2 p hp)
 ·obtain rfl:=List.mem_singleton.1 hp;exact hall p hx
theorem FnI.read {w:World} {lo base:Nat} {v:Value} {done:List FD} (h:FnI w lo base v done) (hl:done.length≤1000000000):RSlB (fun b=>lo≤b∧b<w.heap.size) 4 (RF (fun b=>lo≤b∧b<w.heap.size)) w v (done.map fun p=>p.q.f):=
 ((h.2.1.mono h.1).fns hl fun p hp=>(h.2.2 p hp).weak fun _ hb=>hb.1).size om0 fun _ _ h=>⟨h.1,h.2.1.size om0 i20,h.2.2.1.size om0 i20,SX.size h.2.2.2⟩
theorem row_strs {B:Nat→Prop} {w:World} {g c:Nat} {l:List Str} (h:Row w g 9 (l.map S)) (hB:B g) {r:Nat} (hr:r≤l.length) (hl:l.length≤1000):RSlB B 1 RStr w (.slice (some (g,0)) r c) (l.take r):=by
 have hlen:(l.take r).length=r:=by rw[List.length_take];omega
 refine⟨some (g,0),c,by rw[hlen],om0, .inr ⟨g,0,rfl,hB,fun i x hx=> ?_⟩⟩;rw[List.getElem?_take]at hx;split at hx
 ·refine⟨fun _=>S x,fun j hj=> ?_,rfl⟩;obtain rfl:j=0:=om0;rw[h.cell,List.getElem?_map];simp only[Nat.mul_one,Nat.zero_add,Nat.add_zero,hx,Option.map_some]
 ·cases hx
def dn (f:Nat→Str) (n k:Nat):List Str:=(List.range (n - k)).map fun j=>f (n - j)
def nmA:Nat→Str
 |1=>nB
 |_=>nC
def nmF:Nat→Str
 |1=>nG
 |_=>nH
end
section
open Go.RowKit Go.Shelf
attribute [local go_sem] Oper.semAt_some
structure PgI (W:World) (cb pb:Nat) (cr pr:List Value) (w:World):Prop where
 below:Below W.heap.size W w
 out:Row w W.heap.size 27 [.slice none 0 0, .slice none 0 0]
 c:Row w cb 48 cr
 p:Row w pb 27 pr
 src:Src (W.heap.size+1) w
 lc:W.heap.size+1<cb
 lp:cb<pb
section
variable {W w w':World} {cb pb:Nat} {cr pr:List Value}
theorem PgI.lt (h:PgI W cb pb cr pr w):pb<w.heap.size:=h.p.lt
theorem PgI.draw (h:PgI W cb pb cr pr w) (hs:SG (W,1) w w'):PgI W cb pb cr pr w':=
 ⟨h.below.grown hs.1 h.below.size sx0,hs.row h.out om0,hs.row h.c (oh0 h.lc),hs.row h.p (by have:=h.lc;have:=h.lp;omega),hs.2,h.lc,h.lp⟩
theorem PgI.kept {row:Option Nat} (h:PgI W cb pb cr pr w) (hg:w.grownBy w' row) (hr:∀r,row=some r→pb<r):PgI W cb pb cr pr w':=by
 have h1:=h.lc;have h2:=h.lp;exact⟨h.below.grown hg h.below.size (fun r e=>by have:=hr r e;omega),h.out.kept hg (fun e=>by have:=hr _ e.symm;omega),h.c.kept hg (fun e=>by have:=hr _ e.symm;omega),h.p.kept hg (fun e=>by have:=hr _ e.symm;omega),h.src.kept hg (fun r e=>by have:=hr r e;omega),h1,h2⟩
theorem PgI.setc (h:PgI W cb pb cr pr w) (j:Nat) (v:Value):PgI W cb pb (cr.set j v) pr (w.setCell (cb,j) v):=by
 have h1:=h.lc;have h2:=h.lp;have hg:=setCell_grown w cb j v;exact⟨h.below.grown hg h.below.size sx0,h.out.kept hg so1,h.c.set j v,h.p.kept hg so1,h.src.kept hg sx0,h1,h2⟩
theorem PgI.setp (h:PgI W cb pb cr pr w) (j:Nat) (v:Value):PgI W cb pb cr (pr.set j v) (w.setCell (pb,j) v):=by
 have h1:=h.lc;have h2:=h.lp;have hg:=setCell_grown w pb j v;exact⟨h.below.grown hg h.below.size sx0,h.out.kept hg so1,h.c.kept hg so1,h.p.set j v,h.src.kept hg sx0,h1,h2⟩
end
structure StepX (t:TypeId) (sb n₀:Nat) (W W':World):Prop where
 old:∀(k:Nat) (o:Obj),W.heap[k]? =some o→k=sb∨(∃cs,o=Obj.cells cs t (0,0))∨W'.heap[k]? =some o
 new:∀(k:Nat) (cs:List Value),n₀≤k→Row W k t cs→∃cs':List Value,cs'.length=cs.length∧Row W' k t cs'
theorem StepX.of {t:TypeId} {sb n₀:Nat} {W W':World} (h:W.grownBy W' (some sb)) (hn:sb<n₀):StepX t sb n₀ W W':=
 ⟨fun k o hk=>by
  by_cases hks:k=sb
  ·exact .inl hks
  ·exact .inr (.inr (grown_old h hk (fun e=>hks (Option.some.inj e)))),fun k cs hk hr=>⟨cs,rfl,hr.kept h so1⟩⟩
theorem StepX.refl (t:TypeId) (sb n₀:Nat) (W:World) (hn:sb<n₀):StepX t sb n₀ W W:=StepX.of ⟨rfl,rfl,rfl,Nat.le_refl _,fun _ _ _=>rfl⟩ hn
theorem StepX.al (t:TypeId) (sb n₀:Nat) (W:World) (o:Obj) (hn:sb<n₀):StepX t sb n₀ W (W.alloc o):=StepX.of (alloc_grown _ _ _) hn
theorem StepX.row {t:TypeId} {sb n₀:Nat} {W W':World} (h:StepX t sb n₀ W W') {g:Nat} {e:TypeId} {cs:List Value} (hr:Row W g e cs) (he:e≠t) (hg:n₀≤g) (hn:sb<n₀):Row W' g e cs:=by
 rcases h.old g _ hr with h1|⟨c,h1⟩|h1
 ·omega
 ·simp only[Obj.cells.injEq]at h1;exact absurd h1.2.1 he
 ·exact h1
theorem StepX.set {t:TypeId} {sb n₀:Nat} {W:World} {g:Nat} {cs cs':List Value} (hr:Row W g t cs) (hl:cs'.length=cs.length):StepX t sb n₀ W (W.setRow g cs'.toArray):=by
 have hrow:Row (W.setRow g cs'.toArray) g t cs':=setRow_heap _ _ _ _ _ _ hr;refine⟨fun k o hk=> ?_,fun k c hk hr'=> ?_⟩
 ·by_cases hkg:k=g
  ·subst hkg;unfold Row at hr;rw[hr]at hk;exact .inr (.inl ⟨_,(Option.some.inj hk).symm⟩)
  ·exact .inr (.inr (grown_old setRow_grown hk (fun e=>hkg (Option.some.inj e))))
 ·by_cases hkg:k=g
  ·subst hkg;unfold Row at hr hr';rw[hr]at hr';have:cs.toArray=c.toArray:=by simpa using hr'
   have:=congrArg Array.toList this;simp only[List.toList_toArray]at this;subst this;exact⟨cs',hl,hrow⟩
  ·exact⟨c,rfl,grown_old setRow_grown hr' (fun e=>hkg (Option.some.inj e))⟩
theorem rg_row {F:Fence} {n:Nat} {P:Program} {ops:Array Oper} {Q:Exit→Act→World→Prop} {i:Nat} {o:Oper} {a:Act} {W:World} {K:Act→World→Prop} (ho:ops[i]? =some o) (hg:o.guard=none) (ty:TypeId) (x y:Operand) (hop:o.op= .store ty x y)
  (g:Nat) (cells:List Value) (hx:a.eval x= .pointer (some (g,0))) (hy:a.eval y= .agg cells.toArray) (t:TypeId) (old:List Value) (hr:Row W g t old) (hi:(P.info? ty).map (·.size)=some cells.length) (hold:old.length=cells.length) (h1:cells.all (·.oneCell')=true)
  (h:K (a.put o.dst undef) (W.setRow g cells.toArray)):wpOpIn F n P ops Q i K a W:=by
 refine rg_skip ho hg (fun f hf=>by simp [Oper.about,hop]at hf) (by rw[hop];intro c hc;cases hc) (W':=W.setRow g cells.toArray) ?_ h;simp only[execOp,hop,hx,hy,Instr.storeAt,Instr.sureAddr,Sem.run_bind,Sem.run_pure,Result.andThen_ok,run_storeVar_row W g t ty old.toArray cells.toArray hr (by simpa using hi) (by simpa using hold) (by simpa using h1)]
end
end Go.Proofs.YtngglbakkedaiaaGreatDoor
