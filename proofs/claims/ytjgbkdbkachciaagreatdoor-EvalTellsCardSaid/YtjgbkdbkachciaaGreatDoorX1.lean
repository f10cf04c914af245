import Derived.Test.YtjgbkdbkachciaaGreatDoorP8
set_option linter.all false
namespace Go.Proofs.YtjgbkdbkachciaaGreatDoor
set_option maxRecDepth 100000
set_option maxHeartbeats 16000000
section
open Go.RowKit Go.Shelf
attribute [local go_sem] Oper.semAt_some
structure KF (F:Nat->Prop) (W W':World):Prop where
 os:W'.os=W.os
 tape:W'.tape=W.tape
 output:W'.output=W.output
 size:W.heap.size<=W'.heap.size
 block:∀b,F b->W'.heap[b]? =W.heap[b]?
theorem KF.refl (F:Nat->Prop) (W:World):KF F W W:=⟨rfl,rfl,rfl,ay _,λ_ _=>rfl⟩
theorem KF.trans {F:Nat->Prop} {A B C:World} (h:KF F A B) (k:KF F B C):KF F A C:=⟨k.os.trans h.os,k.tape.trans h.tape,k.output.trans h.output,az h.size k.size,λb hb=>(k.block b hb).trans (h.block b hb)⟩
theorem KF.mono {F F':Nat->Prop} {W W':World} (h:KF F' W W') (hF:∀b,F b->F' b):KF F W W':=⟨h.os,h.tape,h.output,h.size,λb hb=>h.block b (hF b hb)⟩
theorem KF.grown {F:Nat->Prop} {W W':World} {row:Option Nat} (hg:W.grownBy W' row) (hl:∀b,F b->b<W.heap.size) (hr:∀r,row=some r-> ¬F r):KF F W W':=⟨hg.os,hg.tape,hg.output,hg.size,λb hb=>hg.block b (hl b hb) (λe=>hr b e.symm hb)⟩
theorem KF.below {F:Nat->Prop} {W W':World} (hb:Below W W W') (hl:∀b,F b->b<W.heap.size):KF F W W':=KF.grown (bX hb none) hl aJ
theorem KF.row {F:Nat->Prop} {W W':World} (h:KF F W W') {g:Nat} {t:TypeId} {cs:List Value} (hr:Row W g t cs) (hg:F g):Row W' g t cs:=(h.block g hg).trans hr
theorem A4 {W W':World} {a:Addr} (h:W'.heap[a.block]? =W.heap[a.block]?):W'.cell? a=W.cell? a:=World.cell?_of_block (w:=W) h
theorem aP.on {α:Type} {B:Nat->Prop} {k:Nat} {R:World->(Nat->Value)->α->Prop} {w w':World} (hb:∀b,B b->w'.heap[b]? =w.heap[b]?) (hR:∀C x,R w C x->R w' C x) {v:Value} {l:List α} (h:aP B k R w v l):aP B k R w' v l:=by
 obtain⟨a,c,h1,h2,h3⟩:=h;refine⟨a,c,h1,h2,h3.imp (λh=>h) ?_⟩;rintro⟨b,o,h4,h5,h6⟩;refine⟨b,o,h4,h5,λi x hx=> ?_⟩;obtain⟨C,hC,hr⟩:=h6 i x hx;exact⟨C,λj hj=>(A4 (hb b h5)).trans (hC j hj),hR C x hr⟩
theorem RE.on:∀(d:Nat) {B:Nat->Prop} {w w':World} (_:∀b,B b->w'.heap[b]? =w.heap[b]?) {C:Nat->Value} {e:LE},RE d B w C e->RE d B w' C e
 |0,_,_,_,_,_,_,h=>h
 |d+1,_,_,_,hb,_,_,⟨h0,h1,h2,h3,h4⟩=>⟨h0,h1,h2,h3,h4.on hb λ_ _ h=>RE.on d hb h⟩
theorem EX.on {B:Nat->Prop} {w w':World} {av:Value} {e:LE} (h:EX B w av e) (hb:∀b,B b->w'.heap[b]? =w.heap[b]?):EX B w' av e:=by
 obtain⟨d,h⟩:=h;exact⟨d,h.on hb λ_ _ h=>RE.on d hb h⟩
theorem RS.on:∀(d:Nat) {B:Nat->Prop} {w w':World} (_:∀b,B b->w'.heap[b]? =w.heap[b]?) {C:Nat->Value} {s:LS},RS d B w C s->RS d B w' C s
 |0,_,_,_,_,_,_,h=>h
 |d+1,_,_,_,hb,_,_,⟨h0,h1,h2,h3,h4⟩=>⟨h0,h1,h2.on hb,h3.on hb λ_ _ h=>RS.on d hb h,h4.on hb λ_ _ h=>RS.on d hb h⟩
theorem SX.on {B:Nat->Prop} {w w':World} {v:Value} {l:List LS} (h:SX B w v l) (hb:∀b,B b->w'.heap[b]? =w.heap[b]?):SX B w' v l:=by
 obtain⟨d,h⟩:=h;exact⟨d,h.on hb λ_ _ h=>RS.on d hb h⟩
def uS (w:World) (b:Nat) (f:Vars):Prop:=
 ∃(es:Array MapEntry) (clock:Nat) (ks:List aK),w.heap[b]? =some (.map es clock)/\es.toList.map (·.key)=ks.map S/\es.toList.map (·.val)=ks.map (λk=>I (f k))/\ks.Nodup/\∀x,x∉ks->f x=0
theorem uS.on {w w':World} {b:Nat} {f:Vars} (h:uS w b f) (hb:w'.heap[b]? =w.heap[b]?):uS w' b f:=by
 obtain⟨es,cl,ks,h1,h2⟩:=h;exact⟨es,cl,ks,hb.trans h1,h2⟩
theorem T_ (x y:aK):((⟨x.toArray⟩:ByteArray)==⟨y.toArray⟩)=decide (x=y):=by
 have h:((⟨x.toArray⟩:ByteArray)==⟨y.toArray⟩)=(x.toArray==y.toArray):=rfl;rw[h];by_cases e:x=y
 ·subst e;simp
 ·simp [e]
theorem XM (x:aK):∀(es:List MapEntry) (ys:List aK) (n:Nat),es.map (·.key)=ys.map S->
  Instr.findNow .string (S x) es n=some ((ys.findIdx? (λy=>decide (x=y))).map λi=>(n+i,(es.map (·.val)).getD i undef))
 | [],[],n,_=>by simp [Instr.findNow]
 |e::es,y::ys,n,h=>by
  simp only[List.map_cons,List.cons.injEq]at h
  have ih:=XM x es ys (n+1) h.2
  unfold Instr.findNow
  rw[h.1]
  by_cases hxy:x=y
  ·subst hxy
   simp [Instr.sameNow,List.findIdx?_cons,T_]
  ·have h2:((⟨x.toArray⟩:ByteArray)==⟨y.toArray⟩)=false:=by rw[T_];simp [hxy]
   simp only[Instr.sameNow,h2,ih,List.findIdx?_cons,hxy,decide_false]
   cases hf:List.findIdx? (λy=>decide (x=y)) ys with
   |none=>simp
   |some i=>simp;omega
 | [],_::_,_,h=>by simp at h
 |_::_,[],_,h=>by simp at h
theorem XO (x:aK) (es:List MapEntry) (ys:List aK) (w:World) (h:es.map (·.key)=ys.map S):
  (Instr.findKey 9 (S x) es).run Tryz.prog w= .ok ((ys.findIdx? (λy=>decide (x=y))).map λi=>(i,(es.map (·.val)).getD i undef)) w:=by
 unfold Instr.findKey;simp [run_underlying Tryz.underlying9,XM x es ys 0 h]
theorem Xm (e:Bool) (x:aK) (w:World):(Instr.checkKey e 10000 9 (S x)).run Tryz.prog w= .ok () w:=by
 unfold Instr.checkKey;simp [run_underlying Tryz.underlying9]
theorem WY {x:aK} {ys:List aK}:ys.findIdx? (λy=>decide (x=y))=none↔x∉ys:=by
 rw[List.findIdx?_eq_none_iff];simp only[decide_eq_false_iff_not];constructor
 ·intro h hx;exact h x hx rfl
 ·rintro h y hy rfl;exact h hy
theorem QE {x:aK} {ys:List aK} {i:Nat} (h:ys.findIdx? (λy=>decide (x=y))=some i):ys[i]? =some x/\x∈ys:=by
 obtain⟨h1,h2,_⟩:=List.findIdx?_eq_some_iff_getElem.1 h;simp only[decide_eq_true_eq]at h2;exact⟨by rw[ah h1,h2],by rw[h2];exact ak _⟩
theorem XQ {w:World} {b:Nat} {es:Array MapEntry} {clock:Nat} (h:w.heap[b]? =some (.map es clock)):(getObj b).run Tryz.prog w= .ok (.map es clock) w:=by
 simp [getObj,Sem.run,h]
theorem ahD {w:World} {b:Nat} {f:Vars} (hs:uS w b f) (x:aK):
  (Instr.lookup 146 (.map (some b)) (S x) false).run Tryz.prog w= .ok (I (f x)) w:=by
 obtain⟨es,clock,ks,hb,hk,hv,hn,h0⟩:=hs;have hz:∀w,(zeroValue 3).run Tryz.prog w= .ok (.int .i64 0) w:=Tryz.zeroValue3;unfold Instr.lookup;simp only[Sem.run_bind,run_underlying Tryz.underlying146,Result.andThen_ok,XQ hb,Sem.run_pure,Xm,XO x es.toList ks w hk];cases hf:ks.findIdx? (λz=>decide (x=z))with
 |none=>
  have:=WY.1 hf;simp [h0 x this,hz]
 |some i=>
  obtain⟨h1,h2⟩:=QE hf;have hval:(es.toList.map (·.val)).getD i undef=I (f x):=by
   rw[hv,List.getD_eq_getElem?_getD,List.getElem?_map,h1];rfl
  simp only[Option.map_some,hval];rfl
def yP (w:World) (b:Nat) (o:Obj):World:={w with heap:=w.heap.setIfInBounds b o}
theorem XR {w:World} {b:Nat} {es:Array MapEntry} {clock:Nat} (h:w.heap[b]? =some (.map es clock)) (o:Obj):(setObj b o).run Tryz.prog w= .ok () (yP w b o):=by
 simp [setObj,Sem.run,h,yP]
theorem XS (w:World) (b:Nat) (o:Obj):w.grownBy (yP w b o) (some b):=
 ⟨rfl,rfl,rfl,by simp [yP],λk hk hne=>by simp only[yP];rw[Array.getElem?_setIfInBounds_ne];intro e;exact hne (by rw[e])⟩
theorem Y8 {w:World} {b:Nat} {o o':Obj} (h:w.heap[b]? =some o):(yP w b o').heap[b]? =some o':=by
 have:=(aD h).1;simp [yP,this]
theorem Ro {w:World} {b:Nat} {f:Vars} (hs:uS w b f) (x:aK) (v:Int):
  ∃w',(Instr.mapUpdate 146 (.map (some b)) (S x) (I v)).run Tryz.prog w= .ok () w'/\uS w' b (upd f x v)/\w.grownBy w' (some b)/\w'.heap.size=w.heap.size:=by
 obtain⟨es,clock,ks,hb,hk,hv,hn,h0⟩:=hs;have hrun:(Instr.mapUpdate 146 (.map (some b)) (S x) (I v)).run Tryz.prog w=
   match ks.findIdx? (λz=>decide (x=z))with
   |some i=> .ok () (yP w b (.map (es.modify i λe=>{e with key:=S x,val:=I v}) clock))
   |none=> .ok () (yP w b (.map (es.push {key:=S x,val:=I v,born:=clock}) (clock+1))):=by
  unfold Instr.mapUpdate;simp only[Sem.run_bind,run_underlying Tryz.underlying146,Result.andThen_ok,XQ hb,Xm,XO x es.toList ks w hk];cases hf:ks.findIdx? (λz=>decide (x=z))with
  |none=>simp [XR hb]
  |some i=>
   obtain⟨h1,_⟩:=QE hf;have hkey:((es[i]?).map (·.key)).getD (S x)=S x:=by
    have:(es.toList.map (·.key))[i]? =some (S x):=by rw[hk,List.getElem?_map,h1];rfl
    rw[List.getElem?_map,Array.getElem?_toList]at this;rw[this];rfl
   have eu:∀n,Instr.sameBits n (S x) (S x)=true:=λn=>by cases n<;>simp [Instr.sameBits,T_]
   have hks:(Instr.keyThatStays (S x) (S x)).run Tryz.prog w= .ok (S x) w:=by
    unfold Instr.keyThatStays;rw[eu,if_pos rfl,Sem.run_pure]
   simp only[Option.map_some,hkey,hks,Sem.run_bind,Result.andThen_ok,XR hb]
 rw[hrun];cases hf:ks.findIdx? (λz=>decide (x=z))with
 |none=>
  have hy:=WY.1 hf;refine⟨_,rfl,⟨_,_,ks++ [x],Y8 hb, ?_, ?_, ?_, ?_⟩,XS _ _ _,by simp [yP]⟩
  ·simp [hk]
  ·simp only[Array.toList_push,List.map_append,List.map_cons,List.map_nil,hv]
   congr 1
   ·refine List.map_congr_left λk hk'=> ?_;unfold upd;rw[if_neg (λe=>hy (by rw[<-e];exact hk'))]
   ·simp [upd]
  ·rw[List.nodup_append];exact⟨hn,aH,by rintro a ha c hc rfl;simp at hc;subst hc;exact hy ha⟩
  ·intro y vM;simp only[List.mem_append,List.mem_singleton,not_or]at vM;unfold upd;rw[if_neg vM.2];exact h0 y vM.1
 |some i=>
  obtain⟨h1,h2⟩:=QE hf;have hlt:i<ks.length:=(List.findIdx?_eq_some_iff_getElem.1 hf).1;have hes:es.size=ks.length:=by have:=congrArg List.length hk;simpa using this
  have CW:ks[i]=x:=by rw[ah hlt]at h1;simpa using h1
  refine⟨_,rfl,⟨_,_,ks,Y8 hb, ?_, ?_,hn, ?_⟩,XS _ _ _,by simp [yP]⟩
  ·rw[<-hk];apply List.ext_getElem
   ·simp
   ·intro j Gn IQ;simp only[List.getElem_map,Array.getElem_toList,Array.getElem_modify];split
    ·next hij=>
     subst hij;have:(es.toList.map (·.key))[i]? =some (S x):=by rw[hk,List.getElem?_map,h1];rfl
     rw[List.getElem?_map,Array.getElem?_toList,Array.getElem?_eq_getElem aG]at this;simpa using this.symm
    ·rfl
  ·apply List.ext_getElem
   ·simp [hes]
   ·intro j Gn IQ;simp only[List.getElem_map,Array.getElem_toList,Array.getElem_modify];have Qq:j<ks.length:=by simpa using IQ
    split
    ·next hij=>
     subst hij;simp [upd,CW]
    ·next hij=>
     have hne:ks[j]≠x:=λe=>hij ((List.getElem_inj hn).1 (CW.trans e.symm));have:(es.toList.map (·.val))[j]? =some (I (f ks[j])):=by rw[hv,List.getElem?_map,ah Qq];rfl
     rw[List.getElem?_map,Array.getElem?_toList,Array.getElem?_eq_getElem aG]at this;simp only[Option.map_some,Option.some.injEq]at this;rw[this];unfold upd;rw[if_neg hne]
  ·intro y vM;unfold upd;rw[if_neg (λe=>vM (by rw[e];exact h2))];exact h0 y vM
structure cH where
 G:Nat->Prop
 p:LP
 av:Value
 fv:Value
 eW:Value
 gz:List (Nat×Nat)
 most:Int
 rb:Nat
abbrev RI (_:World) (C:Nat->Value) (x:Int):Prop:=C 0=I x
abbrev UJ (_:World) (C:Nat->Value) (x:Nat×Nat):Prop:=C 0= .slice (some ⟨x.1,0,none⟩) x.2 x.2
def Bb (B:Nat->Prop) (W:World) (v:Value) (l:List Int):Prop:=
 ∃a c,v= .slice a l.length c/\l.length<=140737488351232/\(l= []\/∃b o,a=some ⟨b,o,none⟩/\B b/\
  ∀i x,l[i]? =some x->∃C:Nat->Value,(∀j,j<1->W.cell? ⟨b,o+i*1+j,none⟩=some (C j))/\RI W C x)
theorem Bb.of {B:Nat->Prop} {W:World} {v:Value} {l:List Int} (h:aP B 1 RI W v l):Bb B W v l:=by
 obtain⟨a,c,h1,h2,h3⟩:=h;exact⟨a,c,h1,aG,h3⟩
theorem Bb.grown {B:Nat->Prop} {w w':World} {row:Option Nat} {v:Value} {l:List Int} (h:Bb B w v l) (hg:w.grownBy w' row) (hB:∀r,row=some r-> ¬B r) (_:∀(C:Nat->Value) (x:Int),RI w C x->RI w' C x):Bb B w' v l:=by
 obtain⟨a,c,h1,h2,h3⟩:=h;refine⟨a,c,h1,h2,h3.imp (λh=>h) ?_⟩;rintro⟨b,o,h4,h5,h6⟩;refine⟨b,o,h4,h5,λi x hx=> ?_⟩;obtain⟨C,hC,hr⟩:=h6 i x hx;exact⟨C,λj hj=>aS (hC j hj) hg (λe=>hB b e.symm h5),hr⟩
theorem Bb.weak {B B':Nat->Prop} {w:World} {v:Value} {l:List Int} (h:Bb B w v l) (hB:∀b,B b->B' b) (_:∀(C:Nat->Value) (x:Int),RI w C x->RI w C x):Bb B' w v l:=by
 obtain⟨a,c,h1,h2,h3⟩:=h;refine⟨a,c,h1,h2,h3.imp (λh=>h) ?_⟩;rintro⟨b,o,h4,h5,h6⟩;exact⟨b,o,h4,hB b h5,h6⟩
structure jl (B:Nat->Prop) (W:World) (v:Value) (l:List Int):Prop where
 sl:Bb B W v l
 room:∃a k,v= .slice a l.length k/\l.length<=k
theorem jl.grown {B:Nat->Prop} {W W':World} {v:Value} {l:List Int} {row:Option Nat} (h:jl B W v l) (hg:W.grownBy W' row) (hB:∀r,row=some r-> ¬B r) (_:∀(C:Nat->Value) (x:Int),RI W C x->RI W' C x):jl B W' v l:=
 ⟨h.sl.grown hg hB λ_ _ h=>h,h.room⟩
structure C8 (c:cH) (F:Nat->Prop) (W:World) (fB:List (List Int)):Prop where
 lt:∀b,F b->b<W.heap.size
 gf:∀b,c.G b->F b
 jJ: ¬F c.rb
 px:PX c.G W c.av c.fv c.p
 eW:aP c.G 1 UJ W c.eW c.gz
 Bl:(c.gz.map (·.1)).Nodup
 nK:∀x∈c.gz,x.1≠c.rb/\ ¬F x.1
 len:fB.length=c.gz.length
 yg:c.gz.length=c.p.arrays.length
 arr:∀(i:Nat) (x:Nat×Nat) (l:List Int),c.gz[i]? =some x->fB[i]? =some l->Row W x.1 3 (l.map I)/\l.length=x.2
abbrev yS (c:cH) (d:Nat) (iv ov:Value) (n:Nat):List Value:= [c.av,c.fv,iv,c.eW,I d,I c.most,I 0,I 0,ov,I n]
structure ER (c:cH) (F:Nat->Prop) (W:World) (d:Nat) (s:aV):Prop where
 b:C8 c F W s.fB
 small:s.steps<=1000000/\s.out.length<=s.steps/\d<=100/\c.most<=1000000
 st:∃iv ov,Row W c.rb 78 (yS c d iv ov s.steps)/\jl c.G W iv s.inp/\bZ W 0 ov s.out/\∀g,ov.ownBlock=some g-> ¬F g/\∀x∈c.gz,x.1≠g
theorem C8.kept {c:cH} {F:Nat->Prop} {W W':World} {fB:List (List Int)} {row:Option Nat} (h:C8 c F W fB) (hg:W.grownBy W' row) (hr:∀r,row=some r-> ¬F r/\∀x∈c.gz,x.1≠r):C8 c F W' fB:=
 ⟨λb hb=>aB (h.lt b hb) hg.size,h.gf,h.jJ,h.px.grown hg λr e hG=>(hr r e).1 (h.gf r hG),h.eW.grown hg (λr e hG=>(hr r e).1 (h.gf r hG)) λ_ _ h=>h,h.Bl,h.nK,h.len,h.yg,
  λi x l hx hl=>by
   obtain⟨h1,h2⟩:=h.arr i x l hx hl
   exact⟨h1.kept hg λe=>(hr _ e.symm).2 x (List.mem_of_getElem? hx) rfl,h2⟩⟩
theorem ER.quiet {c:cH} {F:Nat->Prop} {W W':World} {d:Nat} {s:aV} (h:ER c F W d s) (hg:W.grownBy W' none):ER c F W' d s:=by
 obtain⟨iv,ov,h1,h2,h3,h4⟩:=h.st;exact⟨h.b.kept hg aJ,h.small,iv,ov,h1.kept hg aH,h2.grown hg aJ λ_ _ h=>h,bZ.tag h3 hg eF,h4⟩
theorem ER.below {c:cH} {F:Nat->Prop} {W W':World} {d:Nat} {s:aV} (h:ER c F W d s) (hb:Below W W W'):ER c F W' d s:=h.quiet (bX hb none)
theorem ER.kf {c:cH} {F:Nat->Prop} {W W':World} {d:Nat} {s:aV} {row:Option Nat} (h:ER c F W d s) (hg:W.grownBy W' row) (hr:∀r,row=some r-> ¬F r):KF F W W':=KF.grown hg h.b.lt hr
theorem C8.less {c:cH} {F F':Nat->Prop} {W:World} {fB:List (List Int)} (h:C8 c F' W fB) (hF:∀b,F b->F' b) (hG:∀b,c.G b->F b):C8 c F W fB:=
 ⟨λb hb=>h.lt b (hF b hb),hG,λhb=>h.jJ (hF _ hb),h.px,h.eW,h.Bl,λx hx=>⟨(h.nK x hx).1,λhb=>(h.nK x hx).2 (hF _ hb)⟩,h.len,h.yg,h.arr⟩
theorem ER.less {c:cH} {F F':Nat->Prop} {W:World} {d:Nat} {s:aV} (h:ER c F' W d s) (hF:∀b,F b->F' b) (hG:∀b,c.G b->F b):ER c F W d s:=by
 obtain⟨iv,ov,h1,h2,h3,h4⟩:=h.st;exact⟨h.b.less hF hG,h.small,iv,ov,h1,h2,h3,λg hg=>⟨λhb=>(h4 g hg).1 (hF _ hb),(h4 g hg).2⟩⟩
theorem ER.more {c:cH} {F:Nat->Prop} {W0 W:World} {d:Nat} {s:aV} (h0:ER c F W0 d s) (hb:Below W0 W0 W) (Q:Nat->Prop) (hQ:∀b,Q b->W0.heap.size<=b/\b<W.heap.size):ER c (λb=>F b\/Q b) W d s:=by
 have h:=h0.below hb;obtain⟨iv,ov,h1,h2,h3,h4⟩:=h0.st;have cy:c.rb<W0.heap.size:=h1.lt;refine⟨⟨?_,λb hb=> .inl (h.b.gf b hb), ?_,h.b.px,h.b.eW,h.b.Bl,λx hx=>⟨(h.b.nK x hx).1, ?_⟩,h.b.len,h.b.yg,h.b.arr⟩,h.small,iv,ov,h1.ext hb,h2.grown (bX hb none) aJ λ_ _ h=>h,bZ.tag h3 (bX hb none) eF,λg hg=>⟨?_,(h4 g hg).2⟩⟩
 ·rintro b (hb'|hb')
  ·exact h.b.lt b hb'
  ·exact(hQ b hb').2
 ·rintro(hb'|hb')
  ·exact h.b.jJ hb'
  ·have:=(hQ _ hb').1;omega
 ·rintro(hb'|hb')
  ·exact(h.b.nK x hx).2 hb'
  ·obtain⟨i,hi,uq⟩:=List.getElem_of_mem hx;have Gc:i<s.fB.length:=by rw[h0.b.len];exact hi
   have:=(h0.b.arr i x s.fB[i] (by rw[ah hi,uq]) (ah Gc)).1.lt;have:=(hQ _ hb').1;omega
 ·rintro(hb'|hb')
  ·exact(h4 g hg).1 hb'
  ·have:=(cO h3 g hg).2;have:=(hQ _ hb').1;omega
abbrev mz (st cd:Int):List PanicEntry:= [{v:= .iface 98 (.agg #[I st,I cd]),recovered:=false}]
theorem ER.turn {c:cH} {F:Nat->Prop} {W W':World} {d d':Nat} {s s':aV} (h:ER c F W d s) (hg:W.grownBy W' (some c.rb)) (ha:s'.fB=s.fB) (hs:s'.steps<=1000000/\s'.out.length<=s'.steps/\d'<=100)
  (Gr:Value) {ov:Value} (hrow:Row W' c.rb 78 (yS c d' Gr ov s'.steps)) (hin:jl c.G W' Gr s'.inp) (ho:bZ W' 0 ov s'.out) (gM:∀g,ov.ownBlock=some g-> ¬F g/\∀x∈c.gz,x.1≠g):ER c F W' d' s':=
 ⟨by rw[ha];exact h.b.kept hg λr e=>by cases e;exact⟨h.b.jJ,λx hx=>(h.b.nK x hx).1⟩,⟨hs.1,hs.2.1,hs.2.2,h.small.2.2.2⟩,Gr,ov,hrow,hin,ho,gM⟩
theorem bZ.rb {c:cH} {W W':World} {iv:Value} {d n:Nat} {ov:Value} {l:List Int} (hg:W.grownBy W' (some c.rb)) (hrow:Row W c.rb 78 (yS c d iv ov n)) (ho:bZ W 0 ov l):bZ W' 0 ov l:=
 bZ.tag ho hg (ld.box 3 hrow aQ)
theorem jl.rb {c:cH} {F:Nat->Prop} {W W':World} {fB:List (List Int)} {v:Value} {l:List Int} (h:C8 c F W fB) (hg:W.grownBy W' (some c.rb)) (hr:jl c.G W v l):jl c.G W' v l:=
 hr.grown hg (λr e hG=>by cases e;exact h.jJ (h.gf _ hG)) λ_ _ h=>h
theorem YY (c:cH) (F:Nat->Prop) (W:World) (d:Nat) (s:aV) (h:ER c F W d s) (hs: ¬c.most<=(s.steps:Int)):
  Calls Tryz.prog 186 #[.pointer (some (c.rb,0))] W λe w'=>e= .returned (.tuple #[])/\ER c F w' d {s with steps:=s.steps+1}/\KF F W w':=by
 obtain⟨iv,ov,hrow,hin,ho,gM⟩:=h.st;have c4:=hrow.k5;have c9:=hrow.k9;have f9:=hrow.frozen 9;have hm: ¬c.most<=(s.steps:Int):=hs;have⟨mo,hmo⟩:=xq c.most;have⟨rb,cy⟩:=xq c.rb;have⟨n,hn⟩:=xq s.steps;have hn6:n<=1000000:=by rw[hn];exact h.small.1
 rw[<-hmo]at c4 hm;rw[<-cy]at c4 c9 f9|-;rw[<-hn]at c9 hm;have HH:=aF h;have Gs:=aF hmo;have bF:=aF cy;have oI:=aF hn;have A9:=aF hrow;have uw:=aF hin;have HO:=aF ho;have mE:=aF gM;clear h hs hrow hin ho gM hmo cy hn;go_enter Tryz.func186,Tryz.ntmps186;go_wp2;refine cC (λX=>X.cell? (rb,5)=some (I mo)/\X.cell? (rb,9)=some (I n)) [0,0,0,0,0,0,0,0,0,0] (λwd hh=>⟨bY hh c4,bY hh c9⟩) λwd hh hgd hS=> ?_;have c9':=hS.2;have f9':wd.frozen? (rb,9)=false:=by rw[<-f9];unfold World.frozen?;rw[hh]
 have bK:=aF hgd;have HHD:=aF hh;clear hh hgd c4 c9 f9;refine Bg ?_;refine dP ?_;clear hS;go_wp2;go_end0;have hg0:=bK.out;have hg1:=bO wd rb 9 (I (n+1));have cy:=bF.out;rw[cy]at hg1|-;have ZQ:=A9.kept hg0 aH;have ajm:=ZQ.set 9 (I (n+1));refine⟨rfl,ER.turn (HH.quiet hg0) hg1 rfl ⟨by rw[<-oI.out];show n+1<=1000000;have:=HH.small.2.2.2;rw[<-Gs.out]at this;omega,Nat.le_succ_of_le HH.small.2.1,HH.small.2.2.1⟩ iv ?_ (jl.rb (HH.quiet hg0).b hg1 (uw.grown hg0 aJ λ_ _ h=>h)) (bZ.rb hg1 ZQ (bZ.tag HO hg0 eF)) mE, ?_⟩
 ·rw[<-oI.out];exact ajm
 ·exact(HH.kf hg0 aJ).trans ((HH.quiet hg0).kf hg1 (λr e=>by cases e;exact HH.b.jJ))
theorem Zl (c:cH) (F:Nat->Prop) (W:World) (d:Nat) (s:aV) (h:ER c F W d s) (hs:c.most<=(s.steps:Int)):
  Calls Tryz.prog 186 #[.pointer (some (c.rb,0))] W λe w'=>e= .panicked (mz 0 0)/\ER c F w' d s/\KF F W w':=by
 obtain⟨iv,ov,hrow,hin,ho,gM⟩:=h.st;have c4:=hrow.k5;have c9:=hrow.k9;have hm:c.most<=(s.steps:Int):=hs;have⟨mo,hmo⟩:=xq c.most;have⟨rb,cy⟩:=xq c.rb;have⟨n,hn⟩:=xq s.steps;rw[<-hmo]at c4 hm;rw[<-cy]at c4 c9|-;rw[<-hn]at c9 hm;have HH:=aF h;clear h hs hrow hin ho gM hmo cy hn;go_enter Tryz.func186,Tryz.ntmps186;go_wp2;refine cC (λX=>X.cell? (rb,5)=some (I mo)/\X.cell? (rb,9)=some (I n)) [0,0,0,0,0,0,0,0,0,0] (λwd hh=>⟨bY hh c4,bY hh c9⟩) λwd hh hgd hS=> ?_;have bK:=aF hgd;clear hh hgd c4 c9;refine Bg ?_;refine dP ?_;clear hS;go_wp2;exact⟨rfl,rfl,HH.quiet bK,HH.kf bK aJ⟩
end
section
open Go.RowKit Go.Shelf
def DU (p:LP) (e:LE):Prop:=
 (1<=e.kind/\e.kind<=7)/\(e.kind=3->e.args.length=1)/\(e.kind=4->e.args.length=2)/\(e.kind=6->e.args.length=1/\0<=lK p e.name)/\
 (e.kind=5->0<=ji p e.name/\(qJ p (ji p e.name)).params.length=e.args.length)
def UT (p:LP):Nat->LE->Prop
 |0,_=>False
 |d+1,e=>DU p e/\∀x∈e.args,UT p d x
def XE (p:LP) (e:LE):Prop:=∃d,UT p d e
theorem XE.own {p:LP} {e:LE} (h:XE p e):DU p e:=by
 obtain⟨d,h⟩:=h;cases d with
 |zero=>exact h.elim
 |succ d=>exact h.1
theorem XE.args {p:LP} {e:LE} (h:XE p e):∀x∈e.args,XE p x:=by
 obtain⟨d,h⟩:=h;cases d with
 |zero=>exact h.elim
 |succ d=>exact λx hx=>⟨d,h.2 x hx⟩
def A8 (p:LP) (s:LS):Prop:=
 (s.kind=1\/s.kind=3\/s.kind=4\/s.kind=7\/s.kind=8\/s.kind=9->s.args.length=1)/\(s.kind=2->s.args.length=2/\0<=lK p s.name)/\∀x∈s.args,XE p x
def Po (p:LP):Nat->LS->Prop
 |0,_=>False
 |d+1,s=>A8 p s/\(∀x∈s.thn,Po p d x)/\∀x∈s.els,Po p d x
def YS (p:LP) (s:LS):Prop:=∃d,Po p d s
theorem YS.own {p:LP} {s:LS} (h:YS p s):A8 p s:=by
 obtain⟨d,h⟩:=h;cases d with
 |zero=>exact h.elim
 |succ d=>exact h.1
theorem YS.thn {p:LP} {s:LS} (h:YS p s):∀x∈s.thn,YS p x:=by
 obtain⟨d,h⟩:=h;cases d with
 |zero=>exact h.elim
 |succ d=>exact λx hx=>⟨d,h.2.1 x hx⟩
theorem YS.els {p:LP} {s:LS} (h:YS p s):∀x∈s.els,YS p x:=by
 obtain⟨d,h⟩:=h;cases d with
 |zero=>exact h.elim
 |succ d=>exact λx hx=>⟨d,h.2.2 x hx⟩
structure XP (p:LP):Prop where
 main:∃k:Nat,ji p dX=k/\∃h:k<p.funcs.length,(p.funcs[k]'h).params= []
 body:∀f∈p.funcs,∀x∈f.body,YS p x
abbrev mh (k:Nat) (s s':aV):Prop:=s.steps+k<=s'.steps/\s'.out.length+s.steps<=s.out.length+s'.steps
abbrev tick (s:aV):aV:={s with steps:=s.steps+1}
structure j6.Up (m:j6):Prop where
 expr:∀{d vs e s n s'},m.expr d vs e s= .ok n s'->mh 1 s s'
 stmt:∀{d c x s q s'},m.stmt d c x s= .ok q s'->mh 1 s s'
 loop:∀{d c x s q s'},m.loop d c x s= .ok q s'->mh 1 s s'
theorem vZ {f:LE->aV->b6 Int} (hf:∀{e s n s'},f e s= .ok n s'->mh 1 s s'):∀(l:List LE) (s:aV) (ns:List Int) (s':aV),dw f l s= .ok ns s'->mh 0 s s'/\ns.length=l.length
 | [],s,ns,s',h=>by
  rw[dw]at h
  injection h with h1 h2
  subst h1 h2
  exact⟨⟨ay _,ay _⟩,rfl⟩
 |e::l,s,ns,s',h=>by
  rw[dw]at h
  cases he:f e s with
  |stop a b t=>rw[he]at h;cases h
  |ok n t=>
   rw[he]at h
   simp only at h
   cases hl:dw f l t with
   |stop a b u=>rw[hl]at h;cases h
   |ok ms u=>
    rw[hl]at h
    simp only at h
    injection h with h1 h2
    subst h1 h2
    have h3:=hf he
    have h4:=vZ hf l t ms u hl
    exact⟨⟨aG,aG⟩,by simp [h4.2]⟩
theorem EZ {f:bM->LS->aV->b6 (Int×bM)} (hf:∀{c x s q s'},f c x s= .ok q s'->mh 1 s s'):∀(l:List LS) (c:bM) (s:aV) (q:Int×bM) (s':aV),eO f l c s= .ok q s'->mh 0 s s'
 | [],c,s,q,s',h=>by
  rw[eO]at h
  injection h with h1 h2
  subst h2
  exact⟨ay _,ay _⟩
 |x::l,c,s,q,s',h=>by
  rw[eO]at h
  cases he:f c x s with
  |stop a b t=>rw[he]at h;cases h
  |ok r t=>
   obtain⟨how,c1⟩:=r
   rw[he]at h
   simp only at h
   have h3:=hf he
   split at h
   ·have:=EZ hf l c1 t q s' h
    exact⟨aG,aG⟩
   ·injection h with h1 h2
    subst h2
    exact⟨aG,aG⟩
theorem ahk {p:LP} {m:j6} (hm:m.Up) {d:Nat} {x:aK} {args:List Int} {s:aV} {n:Int} {s':aV} (h:lM p m.stmt d x args s= .ok n s'):mh 0 s s':=by
 unfold lM at h;cases hl:eO (m.stmt (d+1)) (funcAt p x).body ⟨oN (funcAt p x) args,0⟩ s with
 |stop a b u=>rw[hl]at h;cases h
 |ok q u=>
  rw[hl]at h;simp only at h;injection h with h1 h2;subst h2;exact EZ (λh=>hm.stmt h) _ _ _ _ _ hl
theorem ahl {p:LP} {most:Int} {m:j6} (hm:m.Up) {d:Nat} {vs:Vars} {e:LE} {s:aV} {n:Int} {s':aV} (h:iA p most m d vs e s= .ok n s'):mh 1 s s':=by
 unfold iA at h;split at h
 ·cases h
 cases hl:dw (m.expr d vs) e.args (tick s)with
 |stop a b u=>rw[hl]at h;cases h
 |ok args u=>
  rw[hl]at h;simp only at h;have h0:mh 0 (tick s) u:=(vZ (λh=>hm.expr h) _ _ _ _ hl).1;simp only[mh]at h0
  repeat' split at h
  all_goals first
   |cases h;done
   |(injection h with h1 h2;subst h2;exact⟨by first|omega|(show s.steps+1<=u.steps;omega),by first|omega|(show u.out.length+s.steps<=s.out.length+u.steps;omega)⟩)
   |(have:=ahk hm h;exact⟨aG,aG⟩)
theorem ahm {p:LP} {most:Int} {m:j6} (hm:m.Up) {d:Nat} {c:bM} {x:LS} {s:aV} {q:Int×bM} {s':aV} (h:jG p most m d c x s= .ok q s'):mh 1 s s':=by
 unfold jG at h;split at h
 ·cases h
 split at h
 ·have:=hm.loop h;simp only[mh]at this;exact⟨aG,aG⟩
 split at h
 ·injection h with h1 h2;subst h2;exact⟨ay _,by show s.out.length+s.steps<=s.out.length+(s.steps+1);omega⟩
 split at h
 ·injection h with h1 h2;subst h2;exact⟨ay _,by show s.out.length+s.steps<=s.out.length+(s.steps+1);omega⟩
 cases hl:dw (m.expr d c.vars) x.args (tick s)with
 |stop a b u=>rw[hl]at h;cases h
 |ok args u=>
  rw[hl]at h;simp only at h;have h0:mh 0 (tick s) u:=(vZ (λh=>hm.expr h) _ _ _ _ hl).1;simp only[mh]at h0
  repeat' split at h
  all_goals first
   |cases h;done
   |(injection h with h1 h2;subst h2;exact⟨by first|omega|(show s.steps+1<=u.steps;omega),by first|omega|(show u.out.length+s.steps<=s.out.length+u.steps;omega)|(simp only[ax,aq,au];omega)⟩)
   |(have:=EZ (λh=>hm.stmt h) _ _ _ _ _ h;exact⟨aG,aG⟩)
theorem ahn {m:j6} (hm:m.Up) {d:Nat} {c:bM} {x:LS} {s:aV} {q:Int×bM} {s':aV} (h:kz m d c x s= .ok q s'):mh 1 s s':=by
 unfold kz at h;cases he:m.expr d c.vars (x.args.getD 0 (.mk 0 0 0 [] [])) s with
 |stop a b u=>rw[he]at h;cases h
 |ok n u=>
  rw[he]at h;simp only at h;have h0:=hm.expr he;split at h
  ·injection h with h1 h2;subst h2;exact h0
  cases hl:eO (m.stmt d) x.thn c u with
  |stop a b u=>rw[hl]at h;cases h
  |ok r v=>
   obtain⟨how,c1⟩:=r;rw[hl]at h;simp only at h;have h1:=EZ (λh=>hm.stmt h) _ _ _ _ _ hl;split at h
   ·injection h with h1 h2;subst h2;exact⟨aG,aG⟩
   split at h
   ·injection h with h1 h2;subst h2;exact⟨aG,aG⟩
   have:=hm.loop h;exact⟨aG,aG⟩
theorem sK (p:LP) (most:Int):∀k,(cz p most k).Up
 |0=>⟨λh=>(by cases h),λh=>(by cases h),λh=>(by cases h)⟩
 |k+1=>⟨λh=>ahl (sK p most k) h,λh=>ahm (sK p most k) h,λh=>ahn (sK p most k) h⟩
def left (most:Int) (s:aV):Nat:=(most - s.steps).toNat
theorem Hh {most:Int} {s:aV} (h: ¬most<=(s.steps:Int)):left most (tick s)+1=left most s:=by
 unfold left tick;simp only;omega
theorem ua {most:Int} {k:Nat} {s s':aV} (h:mh k s s'):left most s'<=left most s:=by
 unfold left;omega
theorem Rg {most:Int} {s s':aV} (h:mh 1 s s'):left most s'<=left most s - 1:=by
 unfold left;omega
structure ao' (most:Int) (R:Nat) (m m':j6):Prop where
 expr:∀d vs e s,2*left most s+1<=R->m.expr d vs e s=m'.expr d vs e s
 stmt:∀d c x s,2*left most s+1<=R->m.stmt d c x s=m'.stmt d c x s
 loop:∀d c x s,2*left most s+2<=R->m.loop d c x s=m'.loop d c x s
theorem Q8 {p:LP} {most:Int}:∀{k:Nat} {d:Nat} {vs:Vars} {e:LE} {s:aV} {n:Int} {s':aV},(cz p most k).expr d vs e s= .ok n s'-> ¬most<=(s.steps:Int)
 |0,_,_,_,_,_,_,h=>by cases h
 |k+1,d,vs,e,s,n,s',h=>λhs=>by
  replace h:iA p most (cz p most k) d vs e s= .ok n s':=h
  rw[iA,if_pos hs]at h
  cases h
end
end Go.Proofs.YtjgbkdbkachciaaGreatDoor
