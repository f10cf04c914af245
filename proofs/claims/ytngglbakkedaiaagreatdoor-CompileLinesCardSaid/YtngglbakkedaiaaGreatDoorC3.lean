import Derived.Test.YtngglbakkedaiaaGreatDoorB3
set_option linter.all false
namespace Go.Proofs.YtngglbakkedaiaaGreatDoor
section
open Go.RowKit Go.Shelf
attribute [local go_sem] Oper.semAt_some
def DrE (c:Sc):Nat→LE→Prop
 |0,_=>False
 |d+1,e=>((e.kind=1∧0≤e.n∧e.op=0∧e.name= []∧e.args.length=0)∨(e.kind=2∧c.okV e.name∧e.op=0∧e.n=0∧e.args.length=0)∨
   (e.kind=3∧(e.op=17∨e.op=18∨e.op=19)∧e.n=0∧e.name= []∧e.args.length=1)∨(e.kind=4∧(1≤e.op∧e.op≤16)∧e.n=0∧e.name= []∧e.args.length=2)∨
   (e.kind=5∧c.okC e.name e.args.length∧e.op=0∧e.n=0)∨(e.kind=6∧c.okA e.name∧e.op=0∧e.n=0∧e.args.length=1)∨(e.kind=7∧e.op=0∧e.n=0∧e.name= []∧e.args.length=0))∧
   ∀x∈e.args,DrE c d x
def DrR (c:Sc) (d:Nat) (sb:Nat) (W:World) (en:Ending) (w':World):Prop:=∃(e:LE) (av:Value),en= .returned (eV e av)∧DrE c d e∧EX (W.heap.size≤·) w' av e∧SG sb W w'
def DrC (c:Sc) (d:Nat):Prop:=∀(sb:Nat) (W:World) (vv av fv:Value) (loop:Bool),ScIn c sb W vv av fv→Src sb W→Calls Tryz.prog 15 #[.agg #[vv,av,fv, .bool c.free, .bool loop], .pointer (some ⟨sb,0,none⟩),I d] W (DrR c d sb W)
theorem fun_at {B B':Nat→Prop} {w:World} {a:Option Addr} {c n:Nat} {l:List LF} (h:RSlB B 4 (RF B') w (.slice a n c) l) {i:Nat} (hi:i<l.length):∃b o x pa pc la ln lc ba bn bc,a=some ⟨b,o,none⟩∧w.cell? ⟨b,o+i*4,none⟩=some (S x.name)∧w.cell? ⟨b,o+i*4+1,none⟩=some (.slice pa x.params.length pc)∧w.cell? ⟨b,o+i*4+2,none⟩=some (.slice la ln lc)∧w.cell? ⟨b,o+i*4+3,none⟩=some (.slice ba bn bc)∧x∈l∧x.params.length≤1000000000∧B b:=by
 obtain⟨b,o,C,h1,hb,hC,hx⟩:=h.at hi;have e0:=hC 0 om0;have e1:=hC 1 om0;have e2:=hC 2 om0;have e3:=hC 3 om0;obtain⟨k0,⟨pa,pc,k1,hp9,_⟩,⟨la,lc,k2,_⟩,k3⟩:=hx;obtain⟨ba,bc,k3⟩:=k3.slice;rw[k0]at e0;rw[k1]at e1;rw[k2]at e2;rw[k3]at e3;simp only[Nat.add_zero]at e0;exact⟨b,o,_,pa,pc,_,_,_,_,_,_,h1,e0,e1,e2,e3,List.getElem_mem _,hp9,hb⟩
end
section
open Go.RowKit Go.Shelf
def DrS (c:Sc):Nat→Bool→LS→Prop
 |0,_,_=>False
 |d+1,loop,s=>
  ((s.kind=1∧c.okV s.name∧s.args.length=1∧s.thn= []∧s.els= [])∨(s.kind=2∧c.okA s.name∧s.args.length=2∧s.thn= []∧s.els= [])∨
   (s.kind=3∧s.name= []∧s.args.length=1∧s.thn.length≤4∧s.els.length≤4)∨(s.kind=4∧s.name= []∧s.args.length=1∧s.els= []∧s.thn.length≤4)∨
   ((s.kind=5∨s.kind=6)∧loop=true∧s.name= []∧s.args.length=0∧s.thn= []∧s.els= [])∨
   ((s.kind=7∨s.kind=8∨s.kind=9)∧s.name= []∧s.args.length=1∧s.thn= []∧s.els= [])∨
   (s.kind=10∧s.name= []∧s.args.length=1∧(∀a∈s.args,a.kind=5)∧s.thn= []∧s.els= []))∧
  (∀x∈s.args,DrE c 4 x)∧(∀x∈s.thn,DrS c d (loop||s.kind==4) x)∧∀x∈s.els,DrS c d loop x
theorem DrE.up (c:Sc):∀(d:Nat) (e:LE),DrE c d e→DrE c (d+1) e
 |0,_,h=>h.elim
 |d+1,_,h=>⟨h.1,fun x hx=>DrE.up c d x (h.2 x hx)⟩
theorem DrE.le {c:Sc} {d d':Nat} (hd:d≤d') {e:LE} (h:DrE c d e):DrE c d' e:=by
 induction hd with
 |refl=>exact h
 |step _ ih=>exact DrE.up c _ _ ih
abbrev NmOk (x:Str):Prop:=Asc x∧isName x=true
section
variable {c:Sc} {p:LP} {vs:List Str}
end
end
section
open Go.RowKit Go.Shelf
abbrev nB:Str:= [98]
abbrev nC:Str:= [99]
abbrev nG:Str:= [103]
abbrev nH:Str:= [104]
def nmP:List Str:= [[112],[113],[114],[115],[116],[117]]
def nmL:List Str:= [[120],[121],[122],[105],[107]]
def nmG:List Str:= [nC,nB,wMain,nH,nG]
theorem nm_ok:∀x∈nmP++nmL++nmG,NmOk x:=by
 have h:(nmP++nmL++nmG).all (fun x=>x.all (fun b=>decide (b.toNat<128))&&isName x)=true:=dk0;intro x hx;have:=List.all_eq_true.1 h x hx;simp only[Bool.and_eq_true]at this;exact⟨asc_of this.1,this.2⟩
structure PQ where
 nm:Str
 np:Nat
 nl:Nat
 body:List LS
def PQ.f (q:PQ):LF:=⟨q.nm,nmP.take q.np,nmL.take q.nl,q.body⟩
section
variable {ars:List LA} {fs:List PQ}
abbrev rawP (ars:List LA) (fs:List PQ):LP:=⟨ars,fs.map PQ.f⟩
end
end
section
open Go.RowKit Go.Shelf
attribute [local go_sem] Oper.semAt_some
structure FinM (sb:Nat) (w1:World) (kd:Int) (nm:Str) (va:Option Addr) (vc:Nat) (es:List EA) (ta:Option Addr) (tc:Nat) (tl:List LS) (ea:Option Addr) (ec:Nat) (el:List LS) (w:World):Prop where
 sg:SG sb w1 w
 hsb:sb<w1.heap.size
 row:Row w w1.heap.size 55 [I kd,S nm, .slice va es.length vc, .slice ta tl.length tc, .slice ea el.length ec]
 as_:EsI w (w1.heap.size+1) (.slice va es.length vc) es
 tx:SX (fun b=>w1.heap.size<b∧b<w.heap.size∧(Value.slice va es.length vc).ownBlock≠some b) w (.slice ta tl.length tc) tl
 ex:SX (fun b=>w1.heap.size<b∧b<w.heap.size∧(Value.slice va es.length vc).ownBlock≠some b) w (.slice ea el.length ec) el
section
variable {sb:Nat} {w1 w w':World} {kd:Int} {nm:Str} {va ta ea:Option Addr} {vc tc ec:Nat} {es:List EA} {tl el:List LS}
theorem FinM.kept {row:Option Nat} (h:FinM sb w1 kd nm va vc es ta tc tl ea ec el w) (hs:SG sb w1 w') (hg:w.grownBy w' row) (hr:∀r,row=some r→r<w1.heap.size):FinM sb w1 kd nm va vc es ta tc tl ea ec el w':=by
 have hsz:=hg.size;refine⟨hs,h.hsb,h.row.kept hg (fun e=>by have:=hr _ e.symm;omega),h.as_.grown hg (fun r e=>by have:=hr r e;omega), ?_, ?_⟩
 ·exact(SX.grown h.tx hg (fun r e hb=>by have:=hr r e;omega)).weak fun b hb=>⟨hb.1,om0,hb.2.2⟩
 ·exact(SX.grown h.ex hg (fun r e hb=>by have:=hr r e;omega)).weak fun b hb=>⟨hb.1,om0,hb.2.2⟩
theorem FinM.draw (h:FinM sb w1 kd nm va vc es ta tc tl ea ec el w) (hs:SG sb w w'):FinM sb w1 kd nm va vc es ta tc tl ea ec el w':=
 h.kept (h.sg.trans hs) hs.1 (fun r e=>by cases e;exact h.hsb)
theorem FinM.ext (h:FinM sb w1 kd nm va vc es ta tc tl ea ec el w) (hg:w.grownBy w' none):FinM sb w1 kd nm va vc es ta tc tl ea ec el w':=
 h.kept (h.sg.post hg h.hsb nx0) hg nx0
theorem FinM.lt (h:FinM sb w1 kd nm va vc es ta tc tl ea ec el w):w1.heap.size<w.heap.size:=h.row.lt
theorem FinM.set {kd':Int} {nm':Str} {v:Value} {j:Nat} (h:FinM sb w1 kd nm va vc es ta tc tl ea ec el w) (hw:w'=w.setCell (w1,j) v) (hset: [I kd,S nm, .slice va es.length vc, .slice ta tl.length tc, .slice ea el.length ec].set j v= [I kd',S nm', .slice va es.length vc, .slice ta tl.length tc, .slice ea el.length ec]):FinM sb w1 kd' nm' va vc es ta tc tl ea ec el w':=by
 have hg:w.grownBy w' (some w1):=by rw[hw];exact setCell_grown _ _ _ _
 have hsz:=hg.size;refine⟨h.sg.post hg h.hsb sz0,h.hsb, ?_,h.as_.grown hg sx0, ?_, ?_⟩
 ·rw[hw,←hset];exact h.row.set j v
 ·exact(SX.grown h.tx hg sy0).weak fun b hb=>⟨hb.1,om0,hb.2.2⟩
 ·exact(SX.grown h.ex hg sy0).weak fun b hb=>⟨hb.1,om0,hb.2.2⟩
theorem FinM.kind (kd':Int) (h:FinM sb w1 kd nm va vc es ta tc tl ea ec el w):FinM sb w1 kd' nm va vc es ta tc tl ea ec el (w.setCell (w1,0) (I kd')):=h.set rfl rfl
theorem FinM.name (nm':Str) (h:FinM sb w1 kd nm va vc es ta tc tl ea ec el w):FinM sb w1 kd nm' va vc es ta tc tl ea ec el (w.setCell (w1,1) (S nm')):=h.set rfl rfl
theorem FinM.own_lt (h:FinM sb w1 kd nm va vc es ta tc tl ea ec el w):∀r,(Value.slice va es.length vc).ownBlock=some r→w1.heap.size<r∧r<w.heap.size:=fun r e=>by
 have:=ownsRow_base h.as_.1 r e
 omega
theorem FinM.thn {ta':Option Addr} {tc':Nat} {tl':List LS} {w2:World} (h:FinM sb w1 kd nm va vc es ta tc tl ea ec el w) (hs:SG sb w w2) (hx:SX (w.heap.size≤·) w2 (.slice ta' tl'.length tc') tl'):FinM sb w1 kd nm va vc es ta' tc' tl' ea ec el (w2.setCell (w1,3) (.slice ta' tl'.length tc')):=by
 have h2:=h.draw hs;have hg:w2.grownBy (w2.setCell (w1,3) (.slice ta' tl'.length tc')) (some w1):=setCell_grown _ _ _ _;have hsz:=hg.size;have hl:=h.lt;refine⟨h2.sg.post hg h.hsb sz0,h.hsb,h2.row.set 3 _,h2.as_.grown hg sx0, ?_, ?_⟩
 ·exact(SX.grown (SX.size hx) hg sy0).weak fun b hb=>⟨om0,om0,fun e=>by have:=(h.own_lt b e).2;omega⟩
 ·exact(SX.grown h2.ex hg sy0).weak fun b hb=>⟨hb.1,om0,hb.2.2⟩
theorem FinM.els {ea':Option Addr} {ec':Nat} {el':List LS} {w2:World} (h:FinM sb w1 kd nm va vc es ta tc tl ea ec el w) (hs:SG sb w w2) (hx:SX (w.heap.size≤·) w2 (.slice ea' el'.length ec') el'):FinM sb w1 kd nm va vc es ta tc tl ea' ec' el' (w2.setCell (w1,4) (.slice ea' el'.length ec')):=by
 have h2:=h.draw hs;have hg:w2.grownBy (w2.setCell (w1,4) (.slice ea' el'.length ec')) (some w1):=setCell_grown _ _ _ _;have hsz:=hg.size;have hl:=h.lt;refine⟨h2.sg.post hg h.hsb sz0,h.hsb,h2.row.set 4 _,h2.as_.grown hg sx0, ?_, ?_⟩
 ·exact(SX.grown h2.tx hg sy0).weak fun b hb=>⟨hb.1,om0,hb.2.2⟩
 ·exact(SX.grown (SX.size hx) hg sy0).weak fun b hb=>⟨om0,om0,fun e=>by have:=(h.own_lt b e).2;omega⟩
theorem FinM.app {y:EA} {o:Obj} {w2 w3:World} {g cap:Nat} (h:FinM sb w1 kd nm va vc es ta tc tl ea ec el w) (hs:SG sb w w2) (hx:EX (w.heap.size≤·) w2 y.av y.e)
  (ho:OwnS 5 57 eEnc w3 (w1,1) (.slice (some (g,0)) (es.length+1) cap) (es++ [y])) (hg:(w2.alloc o).grownBy w3 (Value.slice va es.length vc).ownBlock)
  (hat:(Value.slice va es.length vc).ownBlock=some g∨g=(w2.alloc o).heap.size):
  FinM sb w1 kd nm (some (g,0)) cap (es++ [y]) ta tc tl ea ec el (w3.setCell (w1,2) (.slice (some (g,0)) (es.length+1) cap)):=by
 have h2:=h.draw hs;have h2':=h2.ext (alloc_grown w2 o none);have hl:=h.lt;have hz2:w.heap.size≤w2.heap.size:=hs.1.size;have hza:(w2.alloc o).heap.size=w2.heap.size+1:=sm0;have hz3:=hg.size;have hown:=h.own_lt;have hs3:SG sb w1 w3:=h2'.sg.post hg h.hsb (fun r e=>by have:=hown r e;omega);have hr3:Row w3 w1 55 _:=h2'.row.kept hg (fun e=>by have:=hown _ e.symm;omega);have he3:=EsI.app h.as_ hs.1 (fun r e=>by cases e;have:=h.hsb;omega) hx om0 ho hg rfl hat;have hgs:w3.grownBy (w3.setCell (w1,2) (.slice (some (g,0)) (es.length+1) cap)) (some w1):=setCell_grown _ _ _ _;have hzs:=hgs.size;have hlen:(es++ [y]).length=es.length+1:=sm0;have hne:∀b,b<(w2.alloc o).heap.size→(Value.slice va es.length vc).ownBlock≠some b→(Value.slice (some (g,0)) (es++ [y]).length cap).ownBlock≠some b:=fun b hb hn e=>by
  have e:some g=some b:=e;obtain rfl:=Option.some.inj e;rcases hat with h4|h4
  ·exact hn h4
  ·omega
 refine⟨hs3.post hgs h.hsb sz0,h.hsb, ?_, ?_, ?_, ?_⟩
 ·rw[hlen];exact hr3.set 2 _
 ·rw[hlen];exact he3.grown hgs sx0
 ·exact(SX.grown (SX.grown h2'.tx hg (fun r e hb=>hb.2.2 e)) hgs sy0).weak fun b hb=>⟨hb.1,om0,hne b hb.2.1 hb.2.2⟩
 ·exact(SX.grown (SX.grown h2'.ex hg (fun r e hb=>hb.2.2 e)) hgs sy0).weak fun b hb=>⟨hb.1,om0,hne b hb.2.1 hb.2.2⟩
theorem FinM.new (w1:World) (hs:Src sb w1) (kd:Int):FinM sb w1 kd [] none 0 [] none 0 [] none 0 [] (w1.alloc (.cells #[I kd,S [], .slice none 0 0, .slice none 0 0, .slice none 0 0] 55)):=by
 refine⟨⟨by have:=alloc_grown w1 (.cells #[I kd,S [], .slice none 0 0, .slice none 0 0, .slice none 0 0] 55) (some sb);exact this,hs.kept ag0 nx0⟩,hs.lt,heap_new _ _,EsI.nil _ _,⟨0,RSlB.nil _ _ _ _⟩,⟨0,RSlB.nil _ _ _ _⟩⟩
theorem FinM.nil (hs:SG sb w1 w) (hsb:sb<w1.heap.size) (hr:Row w w1 55 [I kd,S nm, .slice none 0 0, .slice none 0 0, .slice none 0 0]):FinM sb w1 kd nm none 0 [] none 0 [] none 0 [] w:=
 ⟨hs,hsb,hr,EsI.nil _ _,⟨0,RSlB.nil _ _ _ _⟩,⟨0,RSlB.nil _ _ _ _⟩⟩
theorem FinM.part (h:FinM sb w1 kd nm va vc es ta tc tl ea ec el w) (hn:es.length≤1000000000):PartD (w1.heap.size≤·) w ⟨.mk kd nm (es.map EA.e) tl el,va,vc,ta,tc,ea,ec⟩:=by
 have h1:=h.as_.read (e:= .mk 0 0 0 [] (es.map EA.e)) hn rfl;refine⟨?_,SX.weak h.tx fun b hb=>(by omega:w1.heap.size≤b),SX.weak h.ex fun b hb=>(by omega:w1.heap.size≤b)⟩;show EX _ w (.slice va (es.map EA.e).length vc) _;rw[List.length_map];exact EX.weak h1 fun b hb=>(by omega:w1.heap.size≤b)
end
def manyK (kd:Int):Nat:=if kd=2 then 2 else if kd=5∨kd=6 then 0 else 1
section
variable {c:Sc} {d:Nat} {loop:Bool}
def FinK (c:Sc) (d:Nat) (loop:Bool) (kd:Int) (nm:Str) (es:List EA) (tl el:List LS):Prop:=
 es.length≤manyK kd∧(∀p∈es,DrE c 4 p.e)∧∀l,es.map EA.e<+:l→l.length=manyK kd→(∀e∈l,DrE c 4 e)→DrS c (d+1) loop (.mk kd nm l tl el)
theorem FinK.print {kd:Int} (hk:kd=7∨kd=8∨kd=9):FinK c d loop kd [] [] [] []:=by
 have hm:manyK kd=1:=by unfold manyK;rw[if_neg om0,if_neg om0]
 exact⟨sm0,nx0,fun l _ hl h=>⟨.inr (.inr (.inr (.inr (.inr (.inl ⟨hk,rfl,hl.trans hm,rfl,rfl⟩))))),h,nx0,nx0⟩⟩
theorem FinK.set {nm:Str} (h1:c.okV nm):FinK c d loop 1 nm [] [] []:=
 ⟨sm0,nx0,fun l _ hl h=>⟨.inl ⟨rfl,h1,hl,rfl,rfl⟩,h,nx0,nx0⟩⟩
theorem FinK.store {nm:Str} (h1:c.okA nm):FinK c d loop 2 nm [] [] []:=
 ⟨sm0,nx0,fun l _ hl h=>⟨.inr (.inl ⟨rfl,h1,hl,rfl,rfl⟩),h,nx0,nx0⟩⟩
theorem FinK.brk {kd:Int} (hk:kd=5∨kd=6) (hl:loop=true):FinK c d loop kd [] [] [] []:=by
 have hm:manyK kd=0:=by unfold manyK;rw[if_neg om0,if_pos hk]
 exact⟨sm0,nx0,fun l _ hn h=>⟨.inr (.inr (.inr (.inr (.inl ⟨hk,hl,rfl,hn.trans hm,rfl,rfl⟩)))),h,nx0,nx0⟩⟩
theorem FinK.call {y:EA} (hy:DrE c 4 y.e) (hk:y.e.kind=5):FinK c d loop 10 [] [y] [] []:=
 ⟨by simp [manyK],(fun p hp=>by obtain rfl:=List.mem_singleton.1 hp;exact hy),fun l hp hl h=>⟨.inr (.inr (.inr (.inr (.inr (.inr ⟨rfl,rfl,hl,fun a ha=>by
  obtain⟨t,rfl⟩:=hp
  have ht:t= []:=by
   have hl:([y.e]++t).length=1:=hl;exact List.length_eq_zero_iff.1 (by simpa using hl)
  subst ht;have ha:a∈ [y.e]++ []:=ha;rw[List.append_nil]at ha;obtain rfl:=List.mem_singleton.1 ha;exact hk,rfl,rfl⟩))))),h,nx0,nx0⟩⟩
theorem FinK.iff {y:EA} {tl el:List LS} (hy:DrE c 4 y.e) (ht:tl.length≤4∧∀s∈tl,DrS c d loop s) (he:el.length≤4∧∀s∈el,DrS c d loop s):FinK c d loop 3 [] [y] tl el:=
 ⟨by simp [manyK],(fun p hp=>by obtain rfl:=List.mem_singleton.1 hp;exact hy),fun l _ hl h=>⟨.inr (.inr (.inl ⟨rfl,rfl,hl,ht.1,he.1⟩)),h,(fun x hx=>by
  show DrS c d (loop||((3:Int)==4)) x
  rw[show((3:Int)==4)=false from rfl,Bool.or_false]
  exact ht.2 x hx),he.2⟩⟩
theorem FinK.whl {y:EA} {tl:List LS} (hy:DrE c 4 y.e) (ht:tl.length≤4∧∀s∈tl,DrS c d true s):FinK c d loop 4 [] [y] tl []:=
 ⟨by simp [manyK],(fun p hp=>by obtain rfl:=List.mem_singleton.1 hp;exact hy),fun l _ hl h=>⟨.inr (.inr (.inr (.inl ⟨rfl,rfl,hl,rfl,ht.1⟩))),h,(fun x hx=>by
  show DrS c d (loop||((4:Int)==4)) x
  rw[show((4:Int)==4)=true from rfl,Bool.or_true]
  exact ht.2 x hx),nx0⟩⟩
theorem FinK.app {kd:Int} {nm:Str} {es:List EA} {tl el:List LS} {y:EA} (h:FinK c d loop kd nm es tl el) (hy:DrE c 4 y.e) (hl:es.length<manyK kd):FinK c d loop kd nm (es++ [y]) tl el:=by
 refine⟨so0,fun p hp=> ?_,fun l hp hn hd=>h.2.2 l ?_ hn hd⟩
 ·rcases List.mem_append.1 hp with hp|hp
  ·exact h.2.1 p hp
  ·obtain rfl:=List.mem_singleton.1 hp;exact hy
 ·rw[List.map_append]at hp;exact(List.prefix_append _ _).trans hp
theorem FinK.full {kd:Int} {nm:Str} {es:List EA} {tl el:List LS} (h:FinK c d loop kd nm es tl el) (hl:es.length=manyK kd):DrS c (d+1) loop (.mk kd nm (es.map EA.e) tl el):=
 h.2.2 _ (List.prefix_refl _) (by rw[List.length_map,hl]) fun e he=>by
  obtain⟨p,hp,rfl⟩:=List.mem_map.1 he
  exact h.2.1 p hp
end
end
section
open Go.RowKit Go.Shelf
attribute [local go_sem] Oper.semAt_some
set_option maxRecDepth 100000 in
set_option maxHeartbeats 2000000 in
theorem letter134_any (b:Nat) (hb:b<256) (w:World):Calls Tryz.prog 63 #[.int .u8 (b:Int)] w fun e w'=>e= .returned (.bool (letterR b))∧w'=w:=by
 go_enter Tryz.func63,Tryz.ntmps63;go_wp2
 all_goals
  go_ret;refine⟨congrArg (fun b=>Ending.returned (Value.bool b)) ?_,rfl⟩;rw[Bool.eq_iff_iff];simp [letterR]
  try omega
set_option maxRecDepth 100000 in
set_option maxHeartbeats 2000000 in
theorem digit135_any (b:Nat) (hb:b<256) (w:World):Calls Tryz.prog 64 #[.int .u8 (b:Int)] w fun e w'=>e= .returned (.bool (digitR b))∧w'=w:=by
 go_enter Tryz.func64,Tryz.ntmps64;go_wp2
 all_goals
  go_ret;refine⟨congrArg (fun b=>Ending.returned (Value.bool b)) ?_,rfl⟩;rw[Bool.eq_iff_iff];simp [digitR]
  try omega
abbrev namesL:Str:= [32,105,110,116,32,105,102,32,101,108,115,101,32,119,104,105,108,101,32,98,114,101,97,107,32,99,111,110,116,105,110,117,101,32,114,101,116,117,114,110,32,112,114,105,110,116,32,114,101,97,100,32,116,114,97,112,32]
def cutN (i n:Nat):Str:=(namesL.drop i).take n
def lettersL (l:Str):Bool:=l.all fun b=>letterR b.toNat
theorem word_letters (s:Str) (h:isWord s=true):lettersL s=true:=by
 unfold isWord at h;have:s∈wordsL:=by simpa using h
 have hall:wordsL.all lettersL=true:=dc0;exact List.all_eq_true.1 hall s this
theorem words_there:wordsL.all (fun s=>(List.range 57).any fun i=>decide (i+s.length+2≤57)&&(cutN i (s.length+2)==32::(s++ [32])))=true:=dk0
theorem word_there (s:Str) (h:isWord s=true):∃i,i+s.length+2≤57∧cutN i (s.length+2)=32::(s++ [32]):=by
 have:s∈wordsL:=by unfold isWord at h;simpa using h
 have h1:=List.all_eq_true.1 words_there s this;obtain⟨i, -,hi⟩:=List.any_eq_true.1 h1;simp only[Bool.and_eq_true,decide_eq_true_eq,beq_iff_eq]at hi;exact⟨i,hi.1,hi.2⟩
theorem there_words:((List.range 58).all fun i=>(List.range 58).all fun n=> !(decide (1≤n)&&decide (i+n+2≤57))|| !(lettersL (cutN (i+1) n))|| !(decide ((cutN i (n+2)).head? =some 32)&&decide ((cutN i (n+2)).getLast? =some 32))||isWord (cutN (i+1) n))=true:=dk0
theorem there_word (s:Str) (i:Nat) (h1:s≠ []) (h2:lettersL s=true) (h3:i+s.length+2≤57) (h4:cutN i (s.length+2)=32::(s++ [32])):isWord s=true:=by
 have hn:1≤s.length:=List.length_pos_iff.2 h1;have hs:cutN (i+1) s.length=s:=by
  have h5:(cutN i (s.length+2)).tail.take s.length=s:=by rw[h4];simp
  rw[←h5];unfold cutN;apply List.ext_getElem?;intro n;simp only[List.getElem?_take,List.getElem?_tail,List.getElem?_drop];have h7:(List.take s.length (List.take (s.length+2) (List.drop i namesL)).tail).length=s.length:=by
   have h8:=congrArg List.length h5;exact h8
  by_cases hh:n<s.length
  ·simp [h7,hh,show n+1<s.length+2 by omega,Nat.add_assoc,Nat.add_comm 1]
  ·simp [h7,hh]
 have h6:=List.all_eq_true.1 (List.all_eq_true.1 there_words i so0) s.length so0;rw[hs,h2,h4]at h6;have hl:(32::(s++ [32]):Str).getLast? =some 32:=by rw[←List.cons_append,List.getLast?_append];rfl
 rw[hl]at h6;simpa [hn,h3]using h6
set_option maxRecDepth 100000 in
set_option maxHeartbeats 4000000 in
theorem word136_any (l:Str) (ha:Asc l) (hl:l.length≤1000000) (w:World):Calls Tryz.prog 65 #[S l] w fun e w'=>e= .returned (.bool (isWord l))∧w'=w:=by
 have⟨Q,hQ⟩:=xq (isWord l);rw[←hQ];have HQ:=hqz9 hQ;have HA:=hqz9 ha;clear ha hQ;go_enter Tryz.func65,Tryz.ntmps65;go_wp2;go_loopg [3] l.length (fun gh v wr=>∃pos:Nat,gh+pos=l.length∧v=I pos∧wr=w∧Hid (∀(j:Nat) (b:UInt8),j<pos→l[j]? =some b→letterR b.toNat=true))
 case atStart=>exact⟨0,rfl,rfl,rfl,hqz9 (fun j b hj=>absurd hj om0)⟩
 case round=>
  obtain⟨pos,hg,rfl,hwr,HB⟩:=hrel;obtain rfl:=hwr.symm;by_cases hlt:pos<l.length
  ·have hltz:(pos:Int)<(l.length:Int):=om0;have hsz:pos<(⟨l.toArray⟩:ByteArray).size:=hlt;have⟨b,hb⟩:=xq (l[pos]);have hbb:((⟨l.toArray⟩:ByteArray)[pos]'hsz)=b:=by rw[hb];rfl
   have HBO:=hqz9 (show l[pos]? =some b by rw[hb];exact List.getElem?_eq_getElem hlt);have hb256:b.toNat<256:=b.toNat_lt;clear hb;cases hlet:letterR b.toNat
   ·have HL:=hqz9 hlet;have hend:Q=false:=by
     rw[HQ.out];cases hw:isWord l with
     |false=>rfl
     |true=>
      have:=List.all_eq_true.1 (word_letters l hw) b (List.mem_of_getElem? HBO);rw[hlet]at this;cases this
    clear hlet;subst hend;go_wp2_with (go_at_call 63;refine(letter134_any b.toNat hb256 _).mono ?_;rintro e w1⟨rfl,rfl⟩;rw[HL.out])
    go_ret;exact⟨rfl,rfl⟩
   ·have HL:=hqz9 hlet;clear hlet;go_wp2_with (go_at_call 63;refine(letter134_any b.toNat hb256 _).mono ?_;rintro e w1⟨rfl,rfl⟩;rw[HL.out])
    go_roundg (l.length - (pos+1))
    case measure=>omega
    case rel=>exact⟨pos+1,om0,by go_num,rfl,hqz9 (fun j c hj hc=>by
     by_cases e:j=pos
     ·subst e;rw[HBO.out]at hc;obtain rfl:=Option.some.inj hc;exact HL.out
     ·exact HB.out j c om0 hc)⟩
  ·have hltz: ¬(pos:Int)<(l.length:Int):=om0;have HLT:=hqz9 (show lettersL l=true from List.all_eq_true.2 fun b hb=>by
    obtain⟨j,hj⟩:=List.getElem?_of_mem hb;exact HB.out j b (oh0 ((List.getElem?_eq_some_iff.1 hj).1)) hj)
   clear HB;go_upto_region 7 with(fail)
   go_loopg [4] 57 (fun gh v wr=>∃i:Nat,gh+i=57∧v=I i∧wr=w∧Hid (∀j,j<i→j+l.length+2≤57→cutN j (l.length+2)≠32::(l++ [32])))
   case atStart=>exact⟨0,rfl,rfl,rfl,hqz9 (fun j hj=>absurd hj om0)⟩
   case round=>
    obtain⟨i,hg2,rfl,hwr,HI⟩:=hrel;obtain rfl:=hwr.symm;by_cases hnil:l= []
    ·have hend:Q=false:=by rw[HQ.out,hnil];rfl
     subst hend;subst hnil;go_wp2;go_ret;exact⟨rfl,rfl⟩
    ·have hnb:(l== [])=false:=bn0 hnil;have hnb2:(l != [])=true:=by rw[bne,hnb];rfl
     have HNIL:=hqz9 hnil;clear hnil;by_cases hle:i+l.length+2≤57
     ·have hlez:(i:Int)+(l.length:Int)+2≤57:=om0;have hx:(⟨namesL.toArray⟩:ByteArray).extract i (i+l.length+2)=⟨(cutN i (l.length+2)).toArray⟩:=by
       rw[Lib.extract_eq];unfold cutN
       congr 2
       simp
       congr 1
       omega
      have⟨c,hc⟩:=xq (32::(l++ [32]));have⟨d,hd⟩:=xq (cutN i (l.length+2));have hcat:(({data:= #[32]}:ByteArray)++{data:=List.toArray l}++{data:= #[32]})=⟨c.toArray⟩:=by rw[hc];apply ByteArray.ext;simp
      rw[←hd]at hx;have HC:=hqz9 hc;have HD:=hqz9 hd;clear hc hd;by_cases heq:d=c
      ·have hend:Q=true:=by
        rw[HQ.out];exact there_word l i HNIL HLT hle (by rw[←HD.out,heq,HC.out])
       subst hend;subst heq;go_wp2;go_ret;exact⟨rfl,rfl⟩
      ·have hdc:(d==c)=false:=bn0 heq;have HNE:=hqz9 heq;clear heq;go_wp2;go_roundg (57 - (i+1))
       case measure=>omega
       case rel=>exact⟨i+1,om0,by go_num,rfl,hqz9 (fun j hj hjl=>by
        by_cases e:j=i
        ·subst e;intro h;exact HNE (by rw[HD.out,HC.out];exact h)
        ·exact HI.out j om0 hjl)⟩
     ·have hlez: ¬(i:Int)+(l.length:Int)+2≤57:=om0;have hend:Q=false:=by
       rw[HQ.out];cases hw:isWord l with
       |false=>rfl
       |true=>
        obtain⟨j,hj1,hj2⟩:=word_there l hw;exact absurd hj2 (HI.out j om0 hj1)
      subst hend;go_wp2;go_ret;exact⟨rfl,rfl⟩
end
section
open Go.RowKit Go.Shelf
attribute [local go_sem] Oper.semAt_some
set_option maxRecDepth 100000 in
set_option maxHeartbeats 4000000 in
theorem name93_any (l:Str) (ha:Asc l) (hlm:l.length≤1000000) (w:World):Calls Tryz.prog 38 #[S l] w fun e w'=>e= .returned (.bool (isName l))∧w'=w:=by
 have⟨Q,hQ⟩:=xq (isName l);rw[←hQ];have HQ:=hqz9 hQ;by_cases h0:l= []
 ·subst h0;have hend:Q=false:=by rw[hQ];rfl
  subst hend;clear hQ ha hlm;go_enter Tryz.func38,Tryz.ntmps38;go_wp2;go_ret;exact⟨rfl,rfl⟩
 have hl0:0<l.length:=List.length_pos_iff.2 h0;have hl1: ¬(l.length:Int)<1:=om0
 by_cases h20:l.length≤20
 case neg=>
  have hlz:20<(l.length:Int):=om0;have hend:Q=false:=by
   rw[hQ];cases hn:isName l with
   |false=>rfl
   |true=>exact absurd ((isName_iff l).1 hn).2.1 h20
  subst hend;clear hQ ha hlm h0 h20;go_enter Tryz.func38,Tryz.ntmps38;go_wp2;go_ret;exact⟨rfl,rfl⟩
 have hlz: ¬20<(l.length:Int):=om0;have HA:=hqz9 ha;have H0:=hqz9 h0;have H20:=hqz9 h20;have hsz0:0<(⟨l.toArray⟩:ByteArray).size:=hl0;have⟨b0,hb0⟩:=xq (l[0]);have hbb0:((⟨l.toArray⟩:ByteArray)[0]'hsz0)=b0:=by rw[hb0];rfl
 have HBO0:=hqz9 (show l[0]? =some b0 by rw[hb0];exact List.getElem?_eq_getElem hl0);have hb256:b0.toNat<256:=b0.toNat_lt;have HWD:=hqz9 (fun W=>word136_any l ha hlm W);clear hQ ha h0 h20 hb0 hlm;cases hlet0:letterR b0.toNat
 ·have HL0:=hqz9 hlet0;have hend:Q=false:=by rw[HQ.out];exact isName_no HBO0 (by unfold nameT;rw[hlet0];rfl)
  subst hend;clear hlet0;go_enter Tryz.func38,Tryz.ntmps38;go_wp2_with (go_at_call 63;refine(letter134_any b0.toNat hb256 _).mono ?_;rintro e w1⟨rfl,rfl⟩;rw[HL0.out])
  go_ret;exact⟨rfl,rfl⟩
 have HL0:=hqz9 hlet0;clear hlet0;go_enter Tryz.func38,Tryz.ntmps38;go_upto_region 4 with(go_at_call 63;refine(letter134_any b0.toNat hb256 _).mono ?_;rintro e w1⟨rfl,rfl⟩;rw[HL0.out])
 clear hbb0 hb256;go_loopg [3] l.length (fun gh v wr=>∃pos:Nat,gh+pos=l.length∧v=I pos∧wr=w1∧Hid (∀(j:Nat) (b:UInt8),j<pos→l[j]? =some b→wordR b.toNat=true))
 case atStart=>exact⟨0,rfl,rfl,rfl,hqz9 (fun j b hj=>absurd hj om0)⟩
 case round=>
  obtain⟨pos,hg,rfl,hwr,HB⟩:=hrel;obtain rfl:=hwr.symm;by_cases hlt:pos<l.length
  ·have hltz:(pos:Int)<(l.length:Int):=om0;have hsz:pos<(⟨l.toArray⟩:ByteArray).size:=hlt;have⟨b,hb⟩:=xq (l[pos]);have hbb:((⟨l.toArray⟩:ByteArray)[pos]'hsz)=b:=by rw[hb];rfl
   have HBO:=hqz9 (show l[pos]? =some b by rw[hb];exact List.getElem?_eq_getElem hlt);have hb256:b.toNat<256:=b.toNat_lt;clear hb;have HNX:=hqz9 (show wordR b.toNat=true→∀(j:Nat) (c:UInt8),j<pos+1→l[j]? =some c→wordR c.toNat=true from fun ht j c hj hc=>by
    by_cases e:j=pos
    ·subst e;rw[HBO.out]at hc;obtain rfl:=Option.some.inj hc;exact ht
    ·exact HB.out j c om0 hc)
   cases hlet:letterR b.toNat
   ·have HL:=hqz9 hlet;cases hdig:digitR b.toNat
    ·have HD:=hqz9 hdig;have hend:Q=false:=by rw[HQ.out];exact isName_no HBO (by unfold nameT;rw[hlet,hdig];simp)
     subst hend;clear hlet hdig;go_wp2_with (first|(go_at_call 63;refine(letter134_any b.toNat hb256 _).mono ?_;rintro e w1⟨rfl,rfl⟩;rw[HL.out])|(go_at_call 64;refine(digit135_any b.toNat hb256 _).mono ?_;rintro e w1⟨rfl,rfl⟩;rw[HD.out]))
     go_ret;exact⟨rfl,rfl⟩
    ·have HD:=hqz9 hdig;have HT:=hqz9 (show wordR b.toNat=true by unfold wordR;rw[hlet,hdig];rfl);clear hlet hdig;go_wp2_with (first|(go_at_call 63;refine(letter134_any b.toNat hb256 _).mono ?_;rintro e w1⟨rfl,rfl⟩;rw[HL.out])|(go_at_call 64;refine(digit135_any b.toNat hb256 _).mono ?_;rintro e w1⟨rfl,rfl⟩;rw[HD.out]))
     go_roundg (l.length - (pos+1))
     case measure=>omega
     case rel=>exact⟨pos+1,om0,by go_num,rfl,hqz9 (HNX.out HT)⟩
   ·have HL:=hqz9 hlet;have HT:=hqz9 (show wordR b.toNat=true by unfold wordR;rw[hlet];rfl);clear hlet;go_wp2_with (go_at_call 63;refine(letter134_any b.toNat hb256 _).mono ?_;rintro e w1⟨rfl,rfl⟩;rw[HL.out])
    go_roundg (l.length - (pos+1))
    case measure=>omega
    case rel=>exact⟨pos+1,om0,by go_num,rfl,hqz9 (HNX.out HT)⟩
  ·have hltz: ¬(pos:Int)<(l.length:Int):=om0;have⟨q,hq⟩:=xq (isWord l);have hend:Q= !q:=by
    rw[HQ.out,hq,Bool.eq_iff_iff,isName_iff,Bool.not_eq_true'];refine⟨fun h=>h.2.2.1,fun h=>⟨H0,H20,h,fun j b hb=> ?_⟩⟩;have hj:=(List.getElem?_eq_some_iff.1 hb).1;have hw:=HB.out j b om0 hb;unfold nameT;cases j with
    |zero=>
     rw[HBO0.out]at hb;obtain rfl:=Option.some.inj hb;rw[HL0.out];rfl
    |succ j=>unfold wordR at hw;simpa using hw
   have HWQ:=hqz9 (fun W=>(show Calls Tryz.prog 65 #[S l] W fun e w'=>e= .returned (.bool q)∧w'=W by rw[hq];exact HWD W));clear hq HWD;subst hend;go_wp2_with (go_at_call 65;refine(HWQ _).mono ?_;rintro e w1⟨rfl,rfl⟩)
   go_ret;exact⟨rfl,rfl⟩
set_option maxRecDepth 100000 in
set_option maxHeartbeats 4000000 in
theorem names94_any {B:Nat→Prop} (w:World) (v:Value) (l:List Str) (hv:RSlB B 1 RStr w v l) (ha:∀x∈l,Asc x) (hlm:∀x∈l,x.length≤1000000):
  Calls Tryz.prog 39 #[v] w fun e w'=>e= .returned (.bool (l.all isName))∧w'=w:=by
 have⟨Q,hQ⟩:=xq (l.all isName);rw[←hQ];have HQ:=hqz9 hQ;obtain⟨a0,c0,rfl,hlen, -⟩:=id hv;have HV:=hqz9 hv;have HA:=hqz9 ha;have HM:=hqz9 hlm;clear hv ha hlm hQ;go_enter Tryz.func39,Tryz.ntmps39;go_wp2;go_loopg [3] l.length (fun gh i wr=>∃k:Nat,gh+k=l.length∧i=I k∧wr=w∧Hid (∀j,(hj:j<l.length)→j<k→isName l[j]=true))
 case atStart=>exact⟨0,rfl,rfl,rfl,hqz9 (fun j hj h=>absurd h om0)⟩
 case round=>
  obtain⟨k,hg,rfl,hwr,HH⟩:=hrel;obtain rfl:=hwr.symm;by_cases hlt:k<l.length
  ·have hltz:(k:Int)<(l.length:Int):=om0;obtain⟨b,o,C,rfl,_,hC,hrx⟩:=HV.at hlt;have e0:=hC 0 om0;rw[show C 0=S l[k]from hrx]at e0;simp only[Nat.add_zero,Nat.mul_one]at e0;have⟨x,hx⟩:=xq (l[k]);have⟨q,hq⟩:=xq (isName x);have hnm:=fun W=>name93_any x (by rw[hx];exact HA _ (List.getElem_mem hlt)) (by rw[hx];exact HM _ (List.getElem_mem hlt)) W;rw[←hq]at hnm;rw[←hx]at e0;have HNM:=hqz9 hnm;have HX:=hqz9 hx;have HQQ:=hqz9 hq;clear hC hrx hnm hx hq;cases q
   ·have hend:Q=false:=by
     rw[HQ.out];cases h:l.all isName with
     |false=>rfl
     |true=>
      have:=List.all_eq_true.1 h _ (List.getElem_mem hlt);rw[←HX.out,←HQQ.out]at this;cases this
    subst hend;go_wp2_with (go_at_call 38;refine(HNM _).mono ?_;rintro e w1⟨rfl,rfl⟩)
    go_ret;exact⟨rfl,rfl⟩
   ·go_wp2_with (go_at_call 38;refine(HNM _).mono ?_;rintro e w1⟨rfl,rfl⟩)
    go_roundg (l.length - (k+1))
    case measure=>omega
    case rel=>exact⟨k+1,om0,by go_num,rfl,hqz9 (fun j hj hjk=>by
     by_cases e:j=k
     ·subst e;rw[←HX.out,←HQQ.out]
     ·exact HH.out j hj om0)⟩
  ·have hltz: ¬(k:Int)<(l.length:Int):=om0;have hend:Q=true:=by
    rw[HQ.out,List.all_eq_true];intro x hx;obtain⟨j,hj,rfl⟩:=List.getElem_of_mem hx;exact HH.out j hj om0
   subst hend;go_wp2;go_ret;exact⟨rfl,rfl⟩
end
section
open Go.RowKit Go.Shelf
attribute [local go_sem] Oper.semAt_some
theorem RSlB.take {α:Type} {B:Nat→Prop} {k:Nat} {R:World→(Nat→Value)→α→Prop} {w:World} {a:Option Addr} {c:Nat} {l:List α} (h:RSlB B k R w (.slice a l.length c) l) {n:Nat} (hn:n≤l.length):RSlB B k R w (.slice a n c) (l.take n):=by
 obtain⟨a',c',h1,h2,h3⟩:=h;obtain⟨rfl,rfl⟩:a=a'∧c=c':=by simpa using h1
 refine⟨a,c,by rw[List.length_take,Nat.min_eq_left hn],by rw[List.length_take];omega, ?_⟩;rcases h3 with rfl|⟨b,o,rfl,hb,h4⟩
 ·left;simp
 ·refine .inr ⟨b,o,rfl,hb,fun i x hx=>h4 i x ?_⟩;rw[List.getElem?_take]at hx;split at hx
  ·exact hx
  ·cases hx
end
section
open Go.RowKit Go.Shelf
attribute [local go_sem] Oper.semAt_some
def bareB (eo en:Int) (nm:Str) (al:Nat) (o n m:Bool) (k:Int):Bool:=(o||decide (eo=0))&&(n||decide (en=0))&&(m||decide (nm= []))&&decide ((al:Int)=k)
set_option maxRecDepth 100000 in
set_option maxHeartbeats 4000000 in
theorem bare106_any (ek eo en:Int) (nm:Str) (aa:Option Addr) (al ac:Nat) (o n m:Bool) (k:Int) (w:World):
  CR 168 #[.agg #[I ek,I eo,I en,S nm, .slice aa al ac], .bool o, .bool n, .bool m,I k] w (.bool (bareB eo en nm al o n m k)):=by
 have⟨Q,hQ⟩:=xq (bareB eo en nm al o n m k);rw[←hQ];unfold bareB at hQ;have HQ:=hqz9 hQ;have⟨w0,hw0⟩:=xq (w.alloc (.cells #[I ek,I eo,I en,S nm, .slice aa al ac] 57));have hwe:=hw0.symm;have HB0:=hqz9 (aB0 hw0);have hr0:=aN0 hw0;have b1:=hr0.k1;have b2:=hr0.k2;have b3:=hr0.k3;have b4:=hr0.k4;clear hQ hw0 hr0;have e1:o=true∨(o=false∧eo=0)∨(o=false∧eo≠0):=by cases o<;>simp;omega
 rcases e1 with rfl|⟨rfl,rfl⟩|⟨rfl,h1⟩
 case' inr.inr=>
  have h1':(eo==0)=false:=bn0 h1;obtain rfl:Q=false:=by rw[HQ.out];simp [h1]
  clear h1;go_enter Tryz.func168,Tryz.ntmps168;go_wp2;go_ret;exact⟨rfl,HB0⟩
 all_goals
  have e2:n=true∨(n=false∧en=0)∨(n=false∧en≠0):=by cases n<;>simp;omega
  rcases e2 with rfl|⟨rfl,rfl⟩|⟨rfl,h1⟩
  case' inr.inr=>
   have h1':(en==0)=false:=bn0 h1;obtain rfl:Q=false:=by rw[HQ.out];simp [h1]
   clear h1;go_enter Tryz.func168,Tryz.ntmps168;go_wp2;go_ret;exact⟨rfl,HB0⟩
  all_goals
   have e3:m=true∨(m=false∧nm= [])∨(m=false∧nm≠ []):=by cases m<;>simp;exact Classical.em _
   rcases e3 with rfl|⟨rfl,rfl⟩|⟨rfl,h1⟩
   case' inr.inr=>
    have h1':(nm== [])=false:=bn0 h1;obtain rfl:Q=false:=by rw[HQ.out];simp [h1]
    clear h1;go_enter Tryz.func168,Tryz.ntmps168;go_wp2;go_ret;exact⟨rfl,HB0⟩
   all_goals
    by_cases h1:(al:Int)=k
    ·obtain rfl:Q=true:=by rw[HQ.out];simp [h1]
     subst h1;go_enter Tryz.func168,Tryz.ntmps168;go_wp2;go_ret;exact⟨rfl,HB0⟩
    ·have h1':((al:Int)==k)=false:=bn0 h1;obtain rfl:Q=false:=by rw[HQ.out];simp [h1]
     clear h1;go_enter Tryz.func168,Tryz.ntmps168;go_wp2;go_ret;exact⟨rfl,HB0⟩
end
section
open Go.RowKit Go.Shelf
attribute [local go_sem] Oper.semAt_some
def depthC:Nat→LE→Nat
 |0,_=>1
 |m+1,e=>(e.args.foldl (fun n x=>max n (depthC m x)) 0)+1
theorem fold_max_le {α:Type} (f:α→Nat):∀(l:List α) (n b:Nat),l.foldl (fun n x=>max n (f x)) n≤b↔n≤b∧∀x∈l,f x≤b
 | [],n,b=>by simp
 |y::l,n,b=>by
  rw[List.foldl_cons,fold_max_le f l]
  simp only[List.mem_cons,forall_eq_or_imp]
  rw[Nat.max_le,and_assoc]
theorem depthC_iff:∀(m:Nat) (e:LE),depthC (m+1) e≤m↔deepP m e
 |0,e=>by
  simp only[depthC,deepP]
  constructor
  ·intro h;omega
  ·exact fun h=>h.elim
 |m+1,e=>by
  rw[depthC,deepP]
  constructor
  ·intro h x hx
   exact(depthC_iff m x).1 (((fold_max_le _ _ _ _).1 (Nat.le_of_succ_le_succ h)).2 x hx)
  ·intro h
   exact Nat.succ_le_succ ((fold_max_le _ _ _ _).2 ⟨om0,fun x hx=>(depthC_iff m x).2 (h x hx)⟩)
theorem depthC_le:∀(m:Nat) (e:LE),depthC m e≤m+1
 |0,e=>Nat.le_refl _
 |m+1,e=>by
  rw[depthC]
  exact Nat.succ_le_succ ((fold_max_le _ _ _ _).2 ⟨om0,fun x _=>depthC_le m x⟩)
def DeepR (m:Nat):Prop:=∀(e:LE) (av:Value) (w:World) (B:Nat→Prop),EX B w av e→CR 105 #[eV e av,I (m:Int)] w (I (depthC m e))
set_option maxRecDepth 100000 in
set_option maxHeartbeats 4000000 in
theorem deep64_step (m:Nat) (hm:m≤1000) (ih:∀j,m=j+1→DeepR j):DeepR m:=by
 intro e av w B hx;obtain⟨Q,hQ⟩:∃Q:Nat,Q=depthC m e:=⟨_,rfl⟩;rw[←hQ];have HQ:=hqz9 hQ;obtain⟨aa,ac,rfl⟩:=hx.slice;obtain⟨d,hx⟩:=hx;have⟨N,hN⟩:=xq e.args.length;have hNb:N≤1000000000:=by
  obtain⟨_,_,_,h, -⟩:=id hx;omega
 have⟨ek,hek⟩:=xq e.kind;have⟨eo,heo⟩:=xq e.op;have⟨en,hen⟩:=xq e.n;have⟨nm,hnm⟩:=xq e.name;have hval:eV e (.slice aa e.args.length ac)= .agg #[I ek,I eo,I en,S nm, .slice aa N ac]:=by rw[eV,hek,heo,hen,hnm,hN]
 rw[hval];have⟨w0,hw0⟩:=xq (w.alloc (.cells #[I ek,I eo,I en,S nm, .slice aa N ac] 57));have hwe:=hw0.symm;have hb0:=aB0 hw0;have hr0:=aN0 hw0;have HX:=hqz9 hx;have HN:=hqz9 hN;have HB0:=hqz9 hb0;have HR0:=hqz9 hr0;have HI:=hqz9 ih;have hmz: ¬0<(m:Int)∨0<(m:Int):=om0;clear hx hQ hN hek heo hen hnm hval hw0 hb0 hr0 ih;go_enter Tryz.func105,Tryz.ntmps105;go_wp2;clear hwe;go_loopg [5,6] N (fun gh n i wr=>∃(k q:Nat),gh+k=N∧i=I k∧n=I q∧q≤1001∧Hid (Below w0 w0 wr∧(m=0→k=0)∧q=(e.args.take k).foldl (fun n x=>max n (depthC (m - 1) x)) 0))
 case atStart=>exact⟨0,0,om0,rfl,rfl,om0,hqz9 ⟨Below.refl _ _,fun _=>rfl,rfl⟩⟩
 case round=>
  obtain⟨k,q,hg,rfl,rfl,hqb,HH⟩:=hrel;obtain⟨wo,rfl⟩:=xq wr;have hr1:=HR0.ext HH.out.1;have b4:=hr1.k4;have HBW:=hqz9 (HB0.out.trans (HH.out.1.mono HB0.size));clear hr1;by_cases hgo:k<N∧0<m
  ·obtain⟨hlt,hm0⟩:=hgo;have hltz:(k:Int)<(N:Int):=om0;have hmz':0<(m:Int):=om0;have hlt':k<e.args.length:=by rw[←HN.out];exact hlt
   obtain⟨j,hmj⟩:∃j,m=j+1:=⟨m - 1,om0⟩;obtain⟨b,o,C,rfl,_,hC,hrx⟩:=(show RSlB B 5 (RE d B) wo (.slice aa e.args.length ac) e.args from HX.below HBW (fun C x h=>RE.below HBW h)).at hlt';have e0:=hC 0 om0;have e1:=hC 1 om0;have e2:=hC 2 om0;have e3:=hC 3 om0;have e4:=hC 4 om0;simp only[Nat.add_zero]at e0 e1 e2 e3 e4;obtain⟨hev,hex⟩:=hrx.ev;have⟨x,hxk⟩:=xq (e.args[k]);rw[←hxk]at hev hex;have hc:=HI j hmj x (C 4) wo B hex;rw[←hev]at hc;have⟨dq,hdq⟩:=xq (depthC j x);rw[←hdq,show(j:Int)=(m:Int) - 1 by omega]at hc;have hdb:dq≤1001:=by
    have:=depthC_le j x;omega
   have HC:=hqz9 hc;have HXK:=hqz9 hxk;have HDQ:=hqz9 hdq;have HMJ:=hqz9 hmj;have hjb:j≤1000:=om0;clear hC hrx hev hex hc hxk hdq hmj;go_wp2_with (go_at_call 105;refine mh0 HC fun w1 HB1=> ?_)
   all_goals
     go_roundg (N - (k+1))
     case measure=>omega
     case rel=>exact⟨k+1,max q dq,om0,by go_num,congrArg (fun n:Int=>Value.int .i64 n) om0,om0,hqz9 ⟨HH.out.1.trans (HB1.mono HH.out.1.size),fun h=>by omega,by
      rw[List.take_succ_eq_append_getElem hlt',List.foldl_append,←HH.out.2.2];show max q dq=max q (depthC (m - 1) e.args[k]);rw[←HXK.out,HDQ.out,show m - 1=j by have:=HMJ.out;omega]⟩⟩
  ·have hend:Q=q+1:=by
    rw[HQ.out];cases m with
    |zero=>
     obtain rfl:=HH.out.2.1 rfl;rw[HH.out.2.2];rfl
    |succ j=>
     have hk:N≤k:=om0;rw[HH.out.2.2,depthC,List.take_of_length_le (oq0 HN)];rfl
   obtain rfl:Q=q+1:=hend;by_cases hlt:k<N
   ·have hltz:(k:Int)<(N:Int):=om0;have hm0: ¬0<(m:Int):=om0;go_wp2;go_ret;exact⟨rfl,HBW⟩
   ·have hltz: ¬(k:Int)<(N:Int):=om0;go_wp2;go_ret;exact⟨rfl,HBW⟩
theorem deep64_any:∀(m:Nat),m≤1000→DeepR m
 |0,h=>deep64_step 0 h nx0
 |m+1,h=>deep64_step (m+1) h (fun j e=>by
   obtain rfl:j=m:=om0
   exact deep64_any j om0)
end
end Go.Proofs.YtngglbakkedaiaaGreatDoor
