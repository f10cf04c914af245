import Derived.Test.YtjgbkdbkachciaaGreatDoorV9
import Derived.Sort.CutIn
set_option linter.all false
namespace Go.Proofs.YtjgbkdbkachciaaGreatDoor
set_option maxRecDepth 100000
set_option maxHeartbeats 16000000
section
open Go.RowKit Go.Shelf
attribute [local go_sem] Oper.semAt_some
theorem mq.put {n₀ nb:Nat} {w:World} (hn:n₀<=w.heap.size) (W:World) (l:Nat) (o o':Obj) (hl:w.heap.size<=l) (h:W.heap[l]? =some o) (h1:o.isCells=false) (h2:o.isWalk=false):mq n₀ nb W (W.putObj l o'):=
 ⟨belowK_b hn W l o o' hl h h1 h2,λb x _ hx hc=>by
  by_cases hbl:b=l
  ·subst hbl;rw[h]at hx;simp only[Option.some.injEq]at hx;subst hx;rw[h1]at hc;cases hc
  ·exact(World.putObj_heap_other hbl).trans hx⟩
theorem PX.size {B:Nat->Prop} {w:World} {av fv:Value} {p:LP} (h:PX B w av fv p):PX (λb=>B b/\b<w.heap.size) w av fv p:=
 ⟨h.1.size aG λ_ _ h=>h,h.2.size aG λ_ _ h=>⟨h.1,h.2.1.size aG λ_ _ h=>h,h.2.2.1.size aG λ_ _ h=>h,h.2.2.2.size⟩⟩
theorem CK.grown {B:Nat->Prop} {w w':World} {row:Option Nat} {cb:Nat} {p:LP} {vs:List aK} (h:CK B w cb p vs) (hg:w.grownBy w' row) (hB:∀r,row=some r-> ¬B r) (hc:some cb≠row):CK B w' cb p vs:=by
 obtain⟨av,fv,vv,h1,h2,h3⟩:=h;exact⟨av,fv,vv,h1.kept hg hc,h2.grown hg hB,h3.grown hg hB λ_ _ h=>h⟩
theorem Yi {α:Type} {f:α->Int}:∀{a l:List α} (_:∀y∈a,f y=0),jt f (a++l)=jt f l
 | [],_,_=>rfl
 |x::a,l,h=>by
  rw[List.cons_append,jt,if_pos (h x aH)]
  exact Yi λy hy=>h y (by simp [hy])
theorem Nw {tmps:Array Value} {w:World} {b4 b5:Nat} {x y:Value} (h4:tmps.getD 4 undef= .pointer (some (b4,0))) (h5:tmps.getD 5 undef= .pointer (some (b5,0))) (hr:Row w b4 44 [x]) (hs:Row w b5 3 [y]):
  (results Tryz.f51 tmps).run Tryz.prog w= .ok (.tuple #[x,y]) w:=by
 have h4':tmps[4]?.getD undef= .pointer (some (b4,0)):=by simpa using h4
 have UZ:tmps[5]?.getD undef= .pointer (some (b5,0)):=by simpa using h5
 have c4:=hr.cell 0;have c5:=hs.cell 0;simp only[af]at c4 c5;simp [results,h4',UZ,asAddr,go_sem,c4,c5]
theorem Row.put {w:World} {g l:Nat} {e:TypeId} {cs:List Value} {o:Obj} (h:Row w g e cs) (hne:g≠l):Row (w.putObj l o) g e cs:=(World.putObj_heap_other hne).trans h
theorem alc (n:Nat) (T:Array Value) (h:T.size=n):T=((List.range n).map λi=>T.getD i undef).toArray:=by
 apply Array.ext
 ·simp [h]
 ·intro i h1 h2;simp [Array.getD,h1]
theorem ajC {T:Array Value} (h:T.size=51):∃u:Nat->Value,(∀i,T.getD i undef=u i)/\T= #[u 0,u 1,u 2,u 3,u 4,u 5,u 6,u 7,u 8,u 9,u 10,u 11,u 12,u 13,u 14,u 15,u 16,u 17,u 18,u 19,u 20,u 21,u 22,u 23,u 24,u 25,u 26,u 27,u 28,u 29,u 30,u 31,u 32,u 33,u 34,u 35,u 36,u 37,u 38,u 39,u 40,u 41,u 42,u 43,u 44,u 45,u 46,u 47,u 48,u 49,u 50]:=
 ⟨λi=>T.getD i undef,λ_=>rfl,alc 51 T h⟩
def ot (p:LP) (f:LF):Int:=
 if nS (f.params++f.locals)||(f.params++f.locals).any (λs=>decide (s∈j3 p))then 50
 else jt (λq:LS×Bool=>oO p (f.params++f.locals) q.2 q.1) (ez false f.body)
def qj (t:TypeId) (n₀:Nat) (W W':World):Prop:=(∀(k:Nat) (o:Obj),W.heap[k]? =some o->(∃x,o=Obj.cells #[x] t (0,0))\/W'.heap[k]? =some o)/\(∀(k:Nat) (x:Value),n₀<=k->W.heap[k]? =some (Obj.cells #[x] t (0,0))->∃x',W'.heap[k]? =some (Obj.cells #[x'] t (0,0)))
theorem qj.refl (t:TypeId) (n₀:Nat) (W:World):qj t n₀ W W:=⟨λ_ _ h=> .inr h,λ_ x _ h=>⟨x,h⟩⟩
theorem qj.of {t:TypeId} {n₀:Nat} {W W':World} (h:Below W W W'):qj t n₀ W W':=
 ⟨λk _ hk=> .inr ((h.block k (aD hk).1).trans hk),λk x _ hk=>⟨x,(h.block k (aD hk).1).trans hk⟩⟩
theorem qj.row {t:TypeId} {n₀:Nat} {W W':World} (h:qj t n₀ W W') {g:Nat} {e:TypeId} {cs:List Value} (hr:Row W g e cs) (he:e≠t):Row W' g e cs:=by
 rcases h.1 g _ hr with⟨x,hx⟩|hx
 ·simp only[Obj.cells.injEq]at hx;exact absurd hx.2.1 he
 ·exact hx
theorem qj.owns {t:TypeId} {n₀:Nat} {W W':World} (h:qj t n₀ W W') {base:Nat} {v:Value} {l:List aK} (ho:a_ 1 9 fR W base v l) (he:9≠t):a_ 1 9 fR W' base v l:=by
 refine⟨ho.1,ho.2.imp id ?_⟩;rintro⟨g,cap,cur,h1,h2,h3,h4⟩;refine⟨g,cap,cur,h1,h2, ?_,h4⟩;rcases h.1 g _ h3 with⟨x,hx⟩|hx
 ·simp only[Obj.cells.injEq]at hx;exact absurd hx.2.1 he
 ·exact hx
theorem Xd (B:Nat->Prop) (p:LP) (f:LF) (av fv pv lv bv:Value) (w:World) (hx:PX B w av fv p) (hc:NR B pv lv f.params f.locals) (hp:aP B 1 dc w pv f.params) (hl:aP B 1 dc w lv f.locals) (hb:SX B w bv f.body)
  (IZ:p.arrays.length+p.funcs.length<=1000000000) (jT:f.params.length+f.locals.length<=1000000000):
  Calls Tryz.prog 51 #[.agg #[av,fv], .agg #[S f.name,pv,lv,bv]] w λe w'=>(∃n,e= .returned (.tuple #[I (ot p f),I n]))/\Below w w w':=by
 obtain⟨aa,ac,fa,fc,rfl,rfl⟩:=hx.slice;obtain⟨pa,pc,rfl, -⟩:=id hp;obtain⟨la,lc,rfl, -⟩:=id hl;obtain⟨ba,bc,rfl⟩:=hb.slice;have⟨an,dI⟩:=xq p.arrays.length;have⟨fn,hfn⟩:=xq p.funcs.length;have⟨pn,jx⟩:=xq f.params.length;have⟨ln,nJ⟩:=xq f.locals.length;have⟨bn,uQ⟩:=xq f.body.length;rw[<-dI,<-hfn]at hx|-;rw[<-jx]at hp hc|-;rw[<-nJ]at hl hc|-;rw[<-uQ]at hb|-;have hdd:∀k:Nat,(Fence.wide.depth.isSome=true->1<=k):=λk h=>by cases h
 have s9:∀(fn:Fn) (first cap:Array Value) (w:World),(Instr.makeFunc fn first cap).run Tryz.prog w= .ok (.func fn first cap) w:=λ_ _ _ _=>rfl;have HC:=aF hc;have HP:=aF hp;have HL:=aF hl;have HX:=aF hx;have bE:=aF hb;have⟨vl,hvs⟩:=xq (f.params++f.locals);have hvl:vl.length<=1000000000:=by rw[hvs,ax];exact jT
 have nO:=aF hvs;have vN:=aF IZ;clear hx hc hp hl hb dI hfn jx nJ uQ IZ jT hvs;refine(callsIn_wide (n:=8)).1 ?_;refine callsIn_of_wp_marks Tryz.func51 rfl trivial ?_ rfl;simp only[Tryz.ntmps51,List.size_toArray,aq,au,Nat.reduceAdd,Nat.reduceSub,Array.replicate_succ,Array.replicate_zero,List.push_toArray,List.append_toArray,List.nil_append,List.cons_append]
 gi_wp2
 obtain⟨w1,hw1⟩:∃w1,w1=((((w.alloc (.cells #[.slice aa an ac, .slice fa fn fc] 27)).alloc (.cells #[S f.name, .slice pa pn pc, .slice la ln lc, .slice ba bn bc] 52)).alloc (.cells #[.int .i64 0] 44)).alloc (.cells #[.int .i64 0] 3)):=⟨_,rfl⟩;have hz1:w1.heap.size=w.heap.size+4:=by rw[hw1];simp
 have aI:=aF (show Below w w w1 by rw[hw1];exact((((cm w _).alloc aH _).alloc ct _).alloc ct _));have hr2:Row w1 w 27 [.slice aa an ac, .slice fa fn fc]:=by rw[hw1];exact dV _ _ (ho0 (ho0 hn0))
 have hr3:Row w1 (w.heap.size+1) 52 [S f.name, .slice pa pn pc, .slice la ln lc, .slice ba bn bc]:=by rw[hw1];exact dV _ _ (ho0 ha0)
 have hr4:Row w1 (w.heap.size+1+1) 44 [I 0]:=by rw[hw1];exact dV _ _ ha0
 have bp:Row w1 (w.heap.size+1+1+1) 3 [I 0]:=by rw[hw1];exact jF aH
 rw[<-hw1];have cB:=aF hr2;have bL:=aF hr3;have bU:=aF hr4;have cL:=aF bp;clear hw1 hr2 hr3 hr4 bp;refine Np aL [10] aQ aL aL (λvs=>by kernel_rfl)
  (λk us W=>Below w1.heap.size w1 W/\match k with
   |0=>True
   |_=>∃g r vv,us 9= .pointer (some ⟨g,0,none⟩)/\Row W g 136 [.pointer (some ⟨r,0,none⟩)]/\w1.heap.size<=g/\w1.heap.size<=r/\g≠r/\Row W r 139 [.slice aa an ac, .slice fa fn fc,vv]/\a_ 1 9 fR W w1.heap.size vv vl)
  (qj 136 w1.heap.size)
  (λi v W=>match i with
   |0=>v= .agg #[.slice aa an ac, .slice fa fn fc]
   |1=>v= .pointer (some ⟨w.heap.size+1,1,none⟩)
   |2=>v= .slice pa pn pc
   |3=>v= .pointer (some ⟨w.heap.size+1,2,none⟩)
   |4=>v= .slice la ln lc
   |5=>∃g,v= .slice (some ⟨g,0,none⟩) 2 2/\w1.heap.size<=g/\Row W g 49 [.slice pa pn pc, .slice la ln lc]
   |6=>a_ 1 9 fR W w1.heap.size v vl
   |7=>∃vv,v= .agg #[.slice aa an ac, .slice fa fn fc,vv]/\a_ 1 9 fR W w1.heap.size vv vl
   |8=>∃r vv,v= .pointer (some ⟨r,0,none⟩)/\w1.heap.size<=r/\Row W r 139 [.slice aa an ac, .slice fa fn fc,vv]/\a_ 1 9 fR W w1.heap.size vv vl
   |9=>∃g x,v= .pointer (some ⟨g,0,none⟩)/\w1.heap.size<=g/\Row W g 136 [x]
   |_=>True) ?h0 ?hst ?hop ?hend
 case h0=>exact⟨⟨rfl,rfl,rfl,ay _,λ_ _=>rfl⟩,trivial⟩
 case hst=>
  intro j v W W' hst cK
  match j,cK with
  |0,h=>exact h
  |1,h=>exact h
  |2,h=>exact h
  |3,h=>exact h
  |4,h=>exact h
  |5,⟨g,h1,h2,h3⟩=>exact⟨g,h1,h2,hst.row h3 aQ⟩
  |6,h=>exact hst.owns h aQ
  |7,⟨vv,h1,h2⟩=>exact⟨vv,h1,hst.owns h2 aQ⟩
  |8,⟨r,vv,h1,h2,h3,h4⟩=>exact⟨r,vv,h1,h2,hst.row h3 aQ,hst.owns h4 aQ⟩
  |9,⟨g,x,h1,h2,h3⟩=>obtain⟨x',hx'⟩:=hst.2 g x h2 h3;exact⟨g,x',h1,h2,hx'⟩
  |j+10,h=>trivial
 case hop=>
  have hbz:∀{W:World},Below w1.heap.size w1 W->Below w w W:=λh=>aI.out.trans (h.mono aI.size);refine⟨?_, ?_, ?_, ?_, ?_, ?_, ?_, ?_, ?_, ?_, ?_,trivial⟩
  ·rintro jD a W4 vs ho dm hC cK hsz hr;obtain rfl:=jE dm 0 aL aL;have r1:a.tmps.getD 2 undef=(.pointer (some ⟨w.heap.size,0,none⟩)):=(hr 2 sy).trans (show fu _ _ vs _ 2=(.pointer (some ⟨w.heap.size,0,none⟩))from by kernel_rfl);have hr:=cB.ext hC.1;have c0:=hr.k0;have c1:=hr.k1;refine kZ ho rfl (λ_ _=>trivial) jN (v:= .agg #[.slice aa an ac, .slice fa fn fc]) (W':=W4) ?_ ⟨_,rfl,hC,qj.refl _ _ _,rfl⟩;go_simp
  ·rintro jD a W4 vs ho dm hC cK hsz hr;obtain rfl:=jE dm 0 aL aL;have r1:a.tmps.getD 3 undef=(.pointer (some ⟨w.heap.size+1,0,none⟩)):=(hr 3 sy).trans (show fu _ _ vs _ 3=(.pointer (some ⟨w.heap.size+1,0,none⟩))from by kernel_rfl);refine kZ ho rfl (λ_ _=>trivial) jN (v:= .pointer (some ⟨w.heap.size+1,1,none⟩)) (W':=W4) ?_ ⟨_,rfl,hC,qj.refl _ _ _,rfl⟩;go_simp
  ·rintro jD a W4 vs ho dm hC cK hsz hr;obtain rfl:=jE dm 0 aL aL;have r1:a.tmps.getD 13 undef=_:=((hr 13 sy).trans (show fu _ _ vs _ 13=vs 1 from by kernel_rfl)).trans (cK 1 aL);have hr:=bL.ext hC.1;have c1:=hr.k1;refine kZ ho rfl (λ_ _=>trivial) jN (v:= .slice pa pn pc) (W':=W4) ?_ ⟨_,rfl,hC,qj.refl _ _ _,rfl⟩;go_simp
  ·rintro jD a W4 vs ho dm hC cK hsz hr;obtain rfl:=jE dm 0 aL aL;have r1:a.tmps.getD 3 undef=(.pointer (some ⟨w.heap.size+1,0,none⟩)):=(hr 3 sy).trans (show fu _ _ vs _ 3=(.pointer (some ⟨w.heap.size+1,0,none⟩))from by kernel_rfl);refine kZ ho rfl (λ_ _=>trivial) jN (v:= .pointer (some ⟨w.heap.size+1,2,none⟩)) (W':=W4) ?_ ⟨_,rfl,hC,qj.refl _ _ _,rfl⟩;go_simp
  ·rintro jD a W4 vs ho dm hC cK hsz hr;obtain rfl:=jE dm 0 aL aL;have r1:a.tmps.getD 15 undef=_:=((hr 15 sy).trans (show fu _ _ vs _ 15=vs 3 from by kernel_rfl)).trans (cK 3 aL);have hr:=bL.ext hC.1;have c2:=hr.k2;refine kZ ho rfl (λ_ _=>trivial) jN (v:= .slice la ln lc) (W':=W4) ?_ ⟨_,rfl,hC,qj.refl _ _ _,rfl⟩;go_simp
  ·rintro jD a W4 vs ho dm hC cK hsz hr;obtain rfl:=jE dm 0 aL aL;have r1:a.tmps.getD 14 undef=_:=((hr 14 sy).trans (show fu _ _ vs _ 14=vs 2 from by kernel_rfl)).trans (cK 2 aL);have r2:a.tmps.getD 16 undef=_:=((hr 16 sy).trans (show fu _ _ vs _ 16=vs 4 from by kernel_rfl)).trans (cK 4 aL);have Mg:14<a.tmps.size:=by rw[hsz];simp
   have Mh:16<a.tmps.size:=by rw[hsz];simp
   have q1:a.tmps[14]= .slice pa pn pc:=by simpa [Array.getD,Mg]using r1
   have q2:a.tmps[16]= .slice la ln lc:=by simpa [Array.getD,Mh]using r2
   refine kZ ho rfl (λ_ _=>trivial) jN (v:= .slice (some ⟨W4.heap.size,0,none⟩) 2 2) (W':=W4.alloc (.cells #[.slice pa pn pc, .slice la ln lc] 49)) ?_ ⟨_,rfl,⟨hC.1.alloc hC.1.size _,trivial⟩,qj.of jI,_,rfl,hC.1.size,cj _ _⟩;go_simp
  ·rintro jD a W4 vs ho dm hC cK hsz hr;obtain rfl:=jE dm 0 aL aL;have r1:a.tmps.getD 17 undef=vs 5:=(hr 17 ni).trans (show fu _ _ vs _ 17=vs 5 from by kernel_rfl);obtain⟨g,hv5,cD,hrow⟩:=cK 5 aL;rw[hv5]at r1;refine Rn ho rfl (λ_ _=>trivial) jN (f:=86) (args:= #[.slice (some ⟨g,0,none⟩) 2 2]) (W':=W4) ?_ (λh=>by cases h) (callsIn_wide.2 (HC.out W4 g hrow (HP.grown (bX (hbz hC.1) none) (λr e=>by cases e) (λ_ _ h=>h)) (HL.grown (bX (hbz hC.1) none) (λr e=>by cases e) (λ_ _ h=>h)))) ?_
   ·go_simp
   ·rintro e w5⟨v5,rfl,ald,bz⟩;exact⟨v5,rfl,v5,rfl,⟨hC.1.trans (bz.mono hC.1.size),trivial⟩,qj.of bz,by rw[nO.out];exact ald.mono hC.1.size⟩
  ·rintro jD a W4 vs ho dm hC cK hsz hr;obtain rfl:=jE dm 0 aL aL;have r1:a.tmps.getD 12 undef=_:=((hr 12 sy).trans (show fu _ _ vs _ 12=vs 0 from by kernel_rfl)).trans (cK 0 aL);have r2:a.tmps.getD 18 undef=vs 6:=(hr 18 sy).trans (show fu _ _ vs _ 18=vs 6 from by kernel_rfl);have GG:a_ 1 9 fR W4 w1.heap.size (vs 6) vl:=cK 6 aL;obtain⟨va,vc,hvv⟩:=GG.slice;rw[hvv]at r2 GG;have h12:12<a.tmps.size:=by rw[hsz];simp
   have F9:18<a.tmps.size:=by rw[hsz];simp
   have q1:a.tmps[12]= .agg #[.slice aa an ac, .slice fa fn fc]:=by simpa [Array.getD,h12]using r1
   have q2:a.tmps[18]= .slice va vl.length vc:=by simpa [Array.getD,F9]using r2
   refine kZ ho rfl (λ_ _=>trivial) jN (v:= .agg #[.slice aa an ac, .slice fa fn fc, .slice va vl.length vc]) (W':=W4) ?_ ⟨_,rfl,hC,qj.refl _ _ _,_,rfl,GG⟩;go_simp
  ·rintro jD a W4 vs ho dm hC cK hsz hr;obtain rfl:=jE dm 0 aL aL;have r1:a.tmps.getD 19 undef=vs 7:=(hr 19 sy).trans (show fu _ _ vs _ 19=vs 7 from by kernel_rfl);obtain⟨vv,MZ,abb⟩:=cK 7 aL;obtain⟨va,vc,rfl⟩:=abb.slice;rw[MZ]at r1;have hb:=cm W4 (.cells #[.slice aa an ac, .slice fa fn fc, .slice va vl.length vc] 139);refine kZ ho rfl (λ_ _=>trivial) jN (v:= .pointer (some ⟨W4.heap.size,0,none⟩)) (W':=W4.alloc (.cells #[.slice aa an ac, .slice fa fn fc, .slice va vl.length vc] 139)) ?_ ⟨_,rfl,⟨hC.1.alloc hC.1.size _,trivial⟩,qj.of hb,_,_,rfl,hC.1.size,cj _ _,(qj.of (t:=136) (n₀:=0) hb).owns abb aQ⟩;go_simp
  ·rintro jD a W4 vs ho dm hC cK hsz hr;obtain rfl:=jE dm 0 aL aL;refine kZ ho rfl (λ_ _=>trivial) jN (v:= .pointer (some ⟨W4.heap.size,0,none⟩)) (W':=W4.alloc (.cells #[.pointer none] 136)) ?_ ⟨_,rfl,⟨hC.1.alloc hC.1.size _,trivial⟩,qj.of jI,_,_,rfl,hC.1.size,cj _ _⟩;go_simp
  ·rintro jD a W4 vs ho dm hC cK hsz hr;obtain rfl:=jE dm 0 aL aL;have r1:a.tmps.getD 6 undef=vs 9:=(hr 6 sy).trans (show fu _ _ vs _ 6=vs 9 from by kernel_rfl);have r2:a.tmps.getD 20 undef=vs 8:=(hr 20 sy).trans (show fu _ _ vs _ 20=vs 8 from by kernel_rfl);obtain⟨g,x,tj,hg,hrow⟩:=cK 9 aL;obtain⟨r,vv,M0,hr,Ki,ale⟩:=cK 8 aL;rw[tj]at r1;rw[M0]at r2;have c0:=hrow.cell 0;have f0:=hrow.frozen 0;simp only[af]at c0;have hgr:g≠r:=λe=>by subst e;unfold Row at hrow Ki;rw[hrow]at Ki;simp only[Option.some.injEq,Obj.cells.injEq]at Ki;exact absurd Ki.2.1 aQ
   have jg:=bO W4 g 0 (.pointer (some ⟨r,0,none⟩));refine N2 ho rfl (λ_ _=>trivial) jN (W':=W4.setCell ⟨g,0,none⟩ (.pointer (some ⟨r,0,none⟩))) ?_ ⟨_,rfl,⟨hC.1.grown jg hC.1.size (λk e=>by cases e;exact hg),g,r,vv,tj,hrow.set 0 _,hg,hr,hgr,Ki.kept jg (λe=>hgr (by cases e;rfl)),G7 ale jg (ld.box 9 hrow aQ)⟩,⟨λk o hk=> ?_,λk x hk hk2=> ?_⟩,trivial⟩
   ·go_simp
   ·by_cases hkg:k=g
    ·subst hkg;unfold Row at hrow;rw[hrow]at hk;simp only[Option.some.injEq]at hk;exact .inl ⟨x,hk.symm⟩
    ·exact .inr (tZ jg hk (λe=>hkg (by cases e;rfl)))
   ·by_cases hkg:k=g
    ·subst hkg;exact⟨_,hrow.set 0 _⟩
    ·exact⟨x,tZ jg hk2 (λe=>hkg (by cases e;rfl))⟩
 case hend=>
  rintro us W⟨hb,g,r,vv,tj,hrg,hg,hr,hgr,eN,hown⟩ cK;simp only[E9,Act.put];rw[tj];have yG:Below w w W:=aI.out.trans (hb.mono aI.size);have hzW:=hb.size;have hr2:=cB.ext hb;have alf:=bA bL hb;have TZ:=bA bU hb;have T3:=bA cL hb;have bB:=aF yG;have Br:=aF hrg;have pX:=aF eN;have HOWN:=aF hown;have c20:=hr2.k0;have c21:=hr2.k1;have HXW:=aF (HX.below yG);have⟨gl,hgl⟩:=xq (j3 p);have abc:=aF (JC p _ _ W B HXW.out vN.out);rw[<-hgl]at abc;have qZ:=aF hgl;clear cK hb tj hrg eN hown yG hr2 hgl
  gi_upto_region 3 with(refine⟨trivial, ?_⟩;refine(callsIn_wide.2 abc.out).mono ?_;rintro e W2⟨gv,rfl,hgo,hb2⟩;obtain⟨ga,gc,rfl⟩:=hgo.slice;have Aq:=aF hgo;have aM:=aF hb2;clear hgo hb2)
  have⟨W3,hW3⟩:=xq (W2.alloc (.cells #[.slice ga gl.length gc] 49));have hb3:Below W W W3:=by rw[hW3];exact aM.alloc aM.size _
  have kV:=dZ hW3;have rD:aP (W.heap.size<=·) 1 dc W3 (.slice ga gl.length gc) gl:=by
   have h1:a_ 1 9 fR W3 W (.slice ga gl.length gc) gl:=by rw[hW3];exact a_.tag Aq.out iD eF
   have h2:=h1.l7 (R:=dc) (λx=>x) qC (by rw[qZ.out,j3,ax,aC,aC];exact vN.out) (λx _=>rfl);simpa using h2
  rw[<-hW3];have hrg:=Br.ext hb3;have eN:=pX.ext hb3;have c6:=hrg.k0;have GS:=eN.k2;have aW:=aU bB hb3;have Bc:=aF hb3;have abd:=aF (a_.tag HOWN.out (bX hb3 none) eF);have mM:aP (w1.heap.size<=·) 1 dc W3 vv vl:=by
   have h2:=abd.l7 (R:=dc) (λx=>x) qC hvl (λx _=>rfl);simpa using h2
  have Et:=aF mM;have rP:=aF kV;have M7:=aF rD;have abe:=aF hrg;have abf:=aF eN;obtain⟨va,vc,rfl⟩:=abd.slice;have oG:=aF (JL vl _ W3 _ mM hvl);have⟨t1,ht1⟩:=xq (nS vl);have⟨t2,ht2⟩:=xq (vl.any (λs=>decide (s∈gl)));have hcn:∀W',Below W3 W3 W'->CR 87 #[.slice va vl.length vc, .func (.func 88) #[] #[.pointer (some ⟨W2.heap.size,0,none⟩)]] W' (.bool t2):=λW' hb=>by
   rw[ht2];refine WT (B:=(w1.heap.size<=·)) (R:=λW5 C x=>dc W5 C x/\Row W5 W2 49 [.slice ga gl.length gc]/\aP (W.heap.size<=·) 1 dc W5 (.slice ga gl.length gc) gl) W' (.slice va vl.length vc) vl
    ((Et.below hb λ_ _ h=>h).weak (λ_ h=>h) λC x h=>⟨h,kV.ext hb,rD.below hb λ_ _ h=>h⟩) (λW5 W6 C x bV h=>⟨h.1,h.2.1.ext bV,h.2.2.below bV λ_ _ h=>h⟩) 88 _ _
    ⟨enters_of Tryz.func88 aL rfl,λx _ W5 C bz h=> ?_⟩
   have h1:Kl C=S x:=h.1;rw[h1];exact aeY _ x _ gl _ W5 h.2.1 h.2.2
  have gw:=aF hcn;have mJ:=aF ht1;have fe:=aF ht2;rw[<-ht1]at oG;clear hrg eN hb3 kV rD mM hW3 c20 c21 hcn ht1 ht2;cases t1
  ·cases t2
   ·gi_upto_region 6 with(first|(refine⟨trivial, ?_⟩;refine(callsIn_wide.2 oG.out).mono ?_;rintro e W4⟨rfl,hb4⟩;have FW:=abe.ext hb4;have FX:=abf.ext hb4;clear c6 GS;have c6:=FW.k0;have GS:=FX.k2;have abg:=aF FW;have abh:=aF FX;have LO:=aF hb4;clear hb4 FW FX oG)|(refine⟨trivial, ?_⟩;refine(callsIn_wide.2 (gw _ LO.out)).mono ?_;rintro e W5⟨rfl,bz⟩;have abj:=bA abg bz;have abk:=bA abh bz;have rI:=aU LO bz;clear bz c6 GS))
    have⟨Wa,M8⟩:=xq (W5.alloc (.cells #[.int .i64 0] 3));have gJ:=aF (dZ M8);have hza:Wa.heap.size=W5.heap.size+1:=by rw[M8];simp
    have pF:=gI M8;rw[<-M8];have kj:Hid (Below w w Wa):=(aW.out.trans (rI.mono aW.size)).trans (pF.mono (az aW.size rI.size));have h33:=(alf.ext Bc.out).ext (rI.out.trans (pF.mono rI.size));have alg:=aF ((TZ.ext Bc.out).ext (rI.out.trans (pF.mono rI.size)));have alh:=aF ((T3.ext Bc.out).ext (rI.out.trans (pF.mono rI.size)));have c33:=h33.k3;have ali:=bA abj pF;have alj:=bA abk pF;have alk:=aU rI pF;clear M8 pF h33
    gi_upto_region 7 with(refine⟨trivial, ?_⟩;refine(callsIn_wide.2 (ail _ _ _ _ _)).mono ?_;rintro e W6⟨rfl,rfl⟩)
    obtain⟨Wq,Jn⟩:∃Wq,Wq=(Wa.alloc (.cells #[.slice ba bn bc] 50)).alloc (.cells #[.bool false] 4):=⟨_,rfl⟩;have hzq:Wq.heap.size=Wa.heap.size+2:=by rw[Jn];simp
    have EK:Below Wa Wa Wq:=by rw[Jn];exact nR _ _ _
    have hrl:Row Wq Wa 50 [.slice ba bn bc]:=by rw[Jn];exact dV _ _ hn0
    have cy:Row Wq (Wa.heap.size+1) 4 [.bool false]:=by rw[Jn];exact jF aH
    rw[<-Jn];have yG:Below w w Wq:=kj.out.trans (EK.mono kj.size);have alm:=bA ali EK;have aln:=bA alj EK;have abl:=bA alg EK;have abm:=bA alh EK;have HRQ:=bA gJ EK;have alo:=aU alk EK;have nt:=aF yG;have V_:W5.heap.size<Wq.heap.size:=aG;have apU:g<W5.heap.size:=by have:=abj.lt;omega
    have apV:r<W5.heap.size:=by have:=abk.lt;omega
    have h4l:w.heap.size+1+1+1<W5.heap.size:=aG;have abn:CK (λb=>(B b/\b<w.heap.size)\/(w1.heap.size<=b/\b<W3.heap.size)) Wq r p vl:=⟨_,_,_,aln.out,(HX.size.below yG).weak λb h=> .inl h,((Et.size aG (λ_ _ h=>h)).below alo.out λ_ _ h=>h).weak (λb h=> .inr h) λ_ _ h=>h⟩;obtain⟨d,hd⟩:=bE.out;have yb:=aF abn;have hseq:=agi 7 w W5 d (ez false f.body).length B w rfl f.body false _ hd fQ Wq Wa (Wa.heap.size+1) yG aG hrl cy;rw[hza]at hseq;clear Jn EK hrl cy yG abn c33;refine wpIn_rangeFunc_ownH rfl aG (gf:=127) (lb:= #[.pointer (some ⟨W5.heap.size+1,0,none⟩), .pointer (some ⟨W5.heap.size+1+1,0,none⟩)]) rfl trivial (enters_of Tryz.func127 aL rfl) hseq
     mq.trans (mq.put nt.size) (Below.refl _ _) (λ_=>rfl)
     (λpre W=>Wq.grownBy W (some W5)/\(∃c,Row W W5 3 [I c])/\∀x∈pre,oO p vl x.loop x.s=0)
     (λc pre W=>c= .ret/\Below w w W/\∃(n:Int) (x:jZ B w) (LQ:List (jZ B w)),Row W (w.heap.size+1+1) 44 [I (oO p vl x.loop x.s)]/\Row W (w.heap.size+1+1+1) 3 [I n]/\oO p vl x.loop x.s≠0/\pre=LQ++ [x]/\∀y∈LQ,oO p vl y.loop y.s=0)
     ?hI ?hIx ?h0'
     (λx a' W=>∃Bx:Nat,W5.heap.size<Bx/\Row W Bx 54 [I x.s.kind,S x.s.name,x.av,x.tv,x.ev]/\a'.defers= []/\a'.tmps.size=51/\a'.tmps.getD 4 undef= .pointer (some ⟨w.heap.size+1+1,0,none⟩)/\
      a'.tmps.getD 5 undef= .pointer (some ⟨w.heap.size+1+1+1,0,none⟩)/\a'.tmps.getD 6 undef= .pointer (some ⟨g,0,none⟩)/\a'.tmps.getD 8 undef= .pointer (some ⟨W5.heap.size,0,none⟩)/\a'.tmps.getD 9 undef= .pointer (some ⟨Bx,0,none⟩)/\a'.tmps.getD 10 undef= .bool x.loop)
     ?hAx ?assign ?body ?done ?stop
    case hI=>
     rintro pre A A' row⟨h1,⟨c,h2⟩,h3⟩ hg' hrow;refine⟨⟨hg'.os.trans h1.os,hg'.tape.trans h1.tape,hg'.output.trans h1.output,az h1.size hg'.size,λk hk hne=> ?_⟩,⟨c,h2.kept hg' λe=> ?_⟩,h3⟩
     ·refine(hg'.block k (aB hk h1.size) λe=> ?_).trans (h1.block k hk hne);have:=(hrow k e.symm).1;omega
     ·have:=(hrow _ e.symm).1;omega
    case hIx=>
     rintro c pre A A' row⟨h1,h2,n,x,LQ,h3,h4,h5⟩ hg' hrow;refine⟨h1,h2.grown hg' h2.size λk e=> ?_,n,x,LQ,h3.kept hg' λe=> ?_,h4.kept hg' λe=> ?_,h5⟩
     ·have:=(hrow k e).1;omega
     ·have:=(hrow _ e.symm).1;omega
     ·have:=(hrow _ e.symm).1;omega
    case h0'=>exact⟨⟨rfl,rfl,rfl,ay _,λ_ _ _=>rfl⟩,⟨0,HRQ.out⟩,λx h=>by cases h⟩
    case hAx=>
     rintro x a' _ A A' row⟨Bx,h1,h2,h3⟩ hg' hrow;refine⟨Bx,h1,h2.kept hg' λe=> ?_,h3⟩;obtain⟨_,o,ho,hc⟩:=hrow _ e.symm;rw[show A.heap[Bx]? =_ from h2]at ho;cases ho;cases hc
    case assign=>
     rintro l pre x W6 K⟨h1,h2,h3⟩ hK;obtain⟨xs,PN,Vz,VA,xl,hok,⟨ta,tn,tc,rfl⟩,⟨ea,en,ec,rfl⟩⟩:=x;obtain⟨xa,xc,rfl⟩:=hok.slice;have HK:=aF hK;have H1:=aF h1;have H2:=aF h2;have H3:=aF h3;have CQ:=aF (mq.alloc (n₀:=w.heap.size) (nb:=W5.heap.size) W6 (.cells #[I xs.kind,S xs.name, .slice xa (LE.mk 0 0 0 [] xs.args).args.length xc, .slice ta tn tc, .slice ea en ec] 54) (az nt.size h1.size));obtain⟨al,hal⟩:∃n,n=(LE.mk 0 0 0 [] xs.args).args.length:=⟨_,rfl⟩;have jM:=aF hal;clear hK h1 h2 h3;dsimp only[Od,sV];rw[<-hal];clear hal
     gi_wp2_with (refine WW 54 (.tmp 9) (.tmp 39) rfl ?_;refine WM rfl 54 (.tmp 9) (.tmp 39) rfl W6 _ rfl rfl 54 sZ hn0 aL fV sv0 ?_;rw[World.setRow_alloc_new])
     have hkq:=CQ.out;rw[<-jM.out]at hkq;refine HK _ _ ((KeepsOthers.alloc _ _).from _) hkq ⟨?_, ?_,H3.out⟩ ⟨W6.heap.size, ?_, ?_,rfl,rfl,rfl,rfl,rfl,rfl,rfl,rfl⟩
     ·have h1:=H1.out;have h4:=cE W6 (.cells #[I xs.kind,S xs.name, .slice xa al xc, .slice ta tn tc, .slice ea en ec] 54) (some W5);exact pN h1 h4
     ·obtain⟨c,h2⟩:=H2.out;exact⟨c,dV _ _ h2⟩
     ·have:=H1.size;omega
     ·try dsimp only
      rw[<-jM.out];exact cj _ _
    case body=>
     rintro l pre x a' W6 BJ⟨r6,dU⟩⟨yH,⟨c,hcn⟩,hpre⟩⟨Bx,hBx,hrx,Es,hsz,q4,q5,q6,q8,q9,Qo⟩ hlt;obtain⟨T,D⟩:=a';dsimp only at Es hsz q4 q5 q6 q8 q9 Qo;obtain⟨u,hu,hT⟩:=ajC hsz;rw[hu]at q4 q5 q6 q8 q9 Qo;rw[Es,hT,q4,q5,q6,q8,q9,Qo];clear hu hT hsz q4 q5 q6 q8 q9 Qo Es;have apW:W3.heap.size<=W5.heap.size:=rI.size;have abo:CK (λb=>(B b/\b<w.heap.size)\/(w1.heap.size<=b/\b<W3.heap.size)) W6 r p vl:=yb.grown yH (λr e h=>by cases e;omega) (λe=>by cases e;omega);have abp:=alm.kept yH (λe=>by cases e;omega);have T4:Below w w W6:=nt.grown yH nt.size (λk e=>by cases e;omega);have FY:=abl.kept yH (λe=>by have:=Option.some.inj e;omega);have FZ:=abm.kept yH (λe=>by have:=Option.some.inj e;omega);have abq:AX (λb=>(B b/\b<w.heap.size)\/(w1.heap.size<=b/\b<W3.heap.size)) W6 x.av x.s.args:=(x.ok.size.weak (λb h=> .inl h)).grown (bX T4 none) (λr e=>by cases e);have BF:=aF (ag4 _ W6 r p vl x.loop x.s x.av x.tv x.ev abo abq);have⟨q,hq⟩:=xq (oO p vl x.loop x.s);have HQ:=aF hq;rw[<-hq]at BF;obtain⟨xa,xc,yh⟩:=x.ok.slice;obtain⟨ta,tn,tc,Bu⟩:=x.alp;obtain⟨ea,en,ec,kS⟩:=x.ajD;obtain⟨al,hal⟩:∃n,n=(LE.mk 0 0 0 [] x.s.args).args.length:=⟨_,rfl⟩;rw[<-hal]at yh;rw[yh,Bu,kS]at hrx BF;have d0:=hrx.k0;have d1:=hrx.k1;have d2:=hrx.k2;have d3:=hrx.k3;have d4:=hrx.k4;have c6:=abp.k0;have cn:=hcn.k0;have Wb:=aF yH;have Au:=aF hcn;have OX:=aF hpre;have T5:=aF T4;have alq:=aF FY;have alr:=aF FZ;have⟨xl,hxl⟩:=xq x.loop;have⟨xk,hxk⟩:=xq x.s.kind;have⟨xn,qA⟩:=xq x.s.name;rw[<-hxl]at BF|-;rw[<-hxk]at d0;rw[<-qA]at d1;have abr:Hid (CR 91 #[.pointer (some ⟨r,0,none⟩), .agg #[I xk,S xn, .slice xa al xc, .slice ta tn tc, .slice ea en ec], .bool xl] W6 (I q)):=by
      rw[hxk,qA];exact BF.out
     have apX:W5.heap.size<W6.heap.size:=hcn.lt;clear abo abp T4 FY FZ abq hq yh Bu kS hal hrx yH hcn hpre dU BF hxl hxk qA;by_cases hq0:q=0
     ·have hne:(q !=0)=false:=by rw[hq0];rfl
      have Wc:=aF hq0;clear hq0
      gi_wp2_with (refine⟨trivial, ?_⟩;refine(CallsIn.inRound l (callsIn_wide.2 abr.out)).mono ?_;rintro e W7⟨rfl,fS⟩;have AL:=Au.ext fS;clear cn;have cn:=AL.cell 0;have cnf:=AL.frozen 0;simp only[af]at cn;have Wd:=aF AL;have iK:=aF fS;clear AL fS)
      have LU:W6.grownBy (W7.setCell ⟨W5.heap.size,0,none⟩ (.int .i64 (wrap64 (c+1)))) (some W5):=pN (bX iK.out _) (bO _ _ _ _);refine⟨⟨LU.size,λk o hk ho hc=>tZ LU ho (λe=>by have:=Option.some.inj e;omega)⟩,⟨(Below.refl _ _).grown LU T5.size (λk e=>by cases e;omega),λb o hb ho _=>tZ LU ho (λe=>hb (Option.some.inj e))⟩,pN Wb.out LU,⟨_,Wd.set 0 _⟩,λy hy=> ?_⟩;rcases List.mem_append.1 hy with hy|hy
      ·exact OX y hy
      ·obtain rfl:=ai hy;rw[<-HQ.out];exact Wc.out
     ·have hne:(q !=0)=true:=by rw[bne_iff_ne];exact hq0
      have Wc:=aF hq0;clear hq0
      gi_wp2_with (refine⟨trivial, ?_⟩;refine(CallsIn.inRound l (callsIn_wide.2 abr.out)).mono ?_;rintro e W7⟨rfl,fS⟩;have AL:=Au.ext fS;have h47:=alq.ext fS;have Qp:=alr.ext fS;clear cn;have cn:=AL.cell 0;have c4:=h47.cell 0;have c5:=Qp.cell 0;have f4:=h47.frozen 0;have f5:=Qp.frozen 0;simp only[af]at cn c4 c5;have Wd:=aF AL;have iK:=aF fS;have H47:=aF h47;have H57:=aF Qp;clear AL fS h47 Qp)
      have abt:KeepsFrom Wq.heap.size W6 W7:=⟨iK.size,λk o _ ho _=>(iK.block k (aD ho).1).trans ho⟩;have abu:Below w w W7:=T5.out.trans (iK.mono T5.size);have Z4:∀(W:World) (k:Nat) (v:Value),k<Wq.heap.size->KeepsFrom Wq.heap.size W6 W->KeepsFrom Wq.heap.size W6 (W.setCell ⟨k,0,none⟩ v):=λW k v hk h=>
       ⟨az h.size (bO W k 0 v).size,λj o hj ho hc=>tZ (bO W k 0 v) (h.same j o hj ho hc) (λe=>by have:=Option.some.inj e;omega)⟩
      have AG:=aF abt;have LV:=aF abu;have HKS:=aF Z4;clear abt abu Z4 cn c4 c5 f4 f5 d0 d1 d2 d3 d4 c6;refine Np aL [2,3] aQ aL aL (λvs=>by kernel_rfl)
       (λk us W=>Row W W5 3 [I c]/\Below w w W/\KeepsFrom Wq.heap.size W6 W/\match k with
        |0=>Row W (w.heap.size+1+1) 44 [I 0]/\Row W (w.heap.size+1+1+1) 3 [I 0]
        |1=>Row W (w.heap.size+1+1) 44 [I q]/\Row W (w.heap.size+1+1+1) 3 [I 0]
        |_=>Row W (w.heap.size+1+1) 44 [I q]/\Row W (w.heap.size+1+1+1) 3 [I c])
       (λ_ _=>True)
       (λi v _=>match i with
        |0=>v=I q
        |1=>v=I c
        |_=>True) ?h0r ?als ?alu ?ajE
      case h0r=>exact⟨Wd.out,⟨LV.os,LV.tape,LV.output,LV.size,LV.block⟩,⟨AG.size,AG.same⟩,H47.out,H57.out⟩
      case als=>intro i v W W' _ h;exact h
      case alu=>
       refine⟨?_, ?_, ?_, ?_,trivial⟩
       ·rintro jD a W4 vs ho dm hC cK hsz hr;have r1:a.tmps.getD 11 undef=(I q):=(hr 11 sy).trans (show fu _ _ vs _ 11=(I q)from by kernel_rfl);refine kZ ho rfl (λ_ _=>trivial) jN (v:=I q) (W':=W4) ?_ ⟨_,rfl,hC,trivial,rfl⟩;go_simp
       ·rintro jD a W4 vs ho dm hC cK hsz hr;have r1:a.tmps.getD 8 undef=(.pointer (some ⟨W5.heap.size,0,none⟩)):=(hr 8 sy).trans (show fu _ _ vs _ 8=(.pointer (some ⟨W5.heap.size,0,none⟩))from by kernel_rfl);have cn:=hC.1.cell 0;simp only[af]at cn;refine kZ ho rfl (λ_ _=>trivial) jN (v:=I c) (W':=W4) ?_ ⟨_,rfl,hC,trivial,rfl⟩;go_simp
       ·rintro jD a W4 vs ho dm hC cK hsz hr;obtain rfl:=jE dm 0 aL aL;have r1:a.tmps.getD 4 undef=(.pointer (some ⟨w.heap.size+1+1,0,none⟩)):=(hr 4 sy).trans (show fu _ _ vs _ 4=(.pointer (some ⟨w.heap.size+1+1,0,none⟩))from by kernel_rfl);have r2:a.tmps.getD 47 undef=_:=((hr 47 sy).trans (show fu _ _ vs _ 47=vs 0 from by kernel_rfl)).trans (cK 0 aL);obtain⟨k1,k2,k3,k4,k5⟩:=hC;have c4:=k4.cell 0;have f4:=k4.frozen 0;simp only[af]at c4;have jg:=bO W4 (w.heap.size+1+1) 0 (I q);refine N2 ho rfl (λ_ _=>trivial) jN (W':=W4.setCell ⟨w.heap.size+1+1,0,none⟩ (I q)) ?_ ⟨_,rfl,⟨k1.kept jg (λe=>by have:=Option.some.inj e;omega),k2.grown jg k2.size (λk e=>by have:=Option.some.inj e;omega),HKS.out W4 _ _ aG k3,k4.set 0 _,k5.kept jg (λe=>by have:=Option.some.inj e;omega)⟩,trivial,trivial⟩;go_simp
       ·rintro jD a W4 vs ho dm hC cK hsz hr;obtain rfl:=jE dm 1 aL aL;have r1:a.tmps.getD 5 undef=(.pointer (some ⟨w.heap.size+1+1+1,0,none⟩)):=(hr 5 sy).trans (show fu _ _ vs _ 5=(.pointer (some ⟨w.heap.size+1+1+1,0,none⟩))from by kernel_rfl);have r2:a.tmps.getD 48 undef=_:=((hr 48 sy).trans (show fu _ _ vs _ 48=vs 1 from by kernel_rfl)).trans (cK 1 aL);obtain⟨k1,k2,k3,k4,k5⟩:=hC;have c4:=k5.cell 0;have f4:=k5.frozen 0;simp only[af]at c4;have jg:=bO W4 (w.heap.size+1+1+1) 0 (I c);refine N2 ho rfl (λ_ _=>trivial) jN (W':=W4.setCell ⟨w.heap.size+1+1+1,0,none⟩ (I c)) ?_ ⟨_,rfl,⟨k1.kept jg (λe=>by have:=Option.some.inj e;omega),k2.grown jg k2.size (λk e=>by have:=Option.some.inj e;omega),HKS.out W4 _ _ aG k3,k4.kept jg (λe=>by have:=Option.some.inj e;omega),k5.set 0 _⟩,trivial,trivial⟩;go_simp
      case ajE=>
       rintro We W⟨k1,k2,k3,k4,k5⟩ _;simp only[E9,Act.put]
       gi_wp2
       exact⟨k3,rfl,k2,c,x,pre,by rw[<-HQ.out];exact k4,k5,by rw[<-HQ.out];exact Wc.out,rfl,OX.out⟩
    case done=>
     rintro D xs W6 hD hS⟨yH,⟨c,hcn⟩,hall⟩ hK;have FY:=abl.kept yH (λe=>by have:=Option.some.inj e;omega);have FZ:=abm.kept yH (λe=>by have:=Option.some.inj e;omega);have c4:=FY.cell 0;have c5:=FZ.cell 0;have f4:=FY.frozen 0;have f5:=FZ.frozen 0;simp only[af]at c4 c5;have Wb:=aF yH;have H46:=aF FY;have H56:=aF FZ;have Wf:=aF hK;have UQ:=aF hS;have OZ:=aF hall;clear yH FY FZ hcn hK hS hall
     gi_wp2
     have hg1:=bO W6 (w.heap.size+1+1) 0 (I 0);have hg2:=bO (W6.setCell ⟨w.heap.size+1+1,0,none⟩ (I 0)) (w.heap.size+1+1+1) 0 (I 0);have hDD:((W6.setCell ⟨w.heap.size+1+1,0,none⟩ (I 0)).setCell ⟨w.heap.size+1+1+1,0,none⟩ (I 0)).heap[D]? =some (.deferred (some [])):=tZ hg2 (tZ hg1 Wf.out (λe=>by have:=Option.some.inj e;omega)) (λe=>by have:=Option.some.inj e;omega);refine⟨aH, .inl ⟨_,_,rfl,run_takeDeferred hDD, ?_⟩⟩;have bV:Below w w W6:=nt.grown Wb.out nt.size (λk e=>by have:=Option.some.inj e;omega);have mY:=(bV.grown hg1 bV.size (λk e=>by have:=Option.some.inj e;omega)).grown hg2 (by have:=hg1.size;have:=bV.size;omega) (λk e=>by have:=Option.some.inj e;omega);refine⟨_,Nw rfl rfl (((H46.set 0 _).kept hg2 (λe=>by have:=Option.some.inj e;omega)).put aG) (((H56.kept hg1 (λe=>by have:=Option.some.inj e;omega)).set 0 _).put aG),⟨0, ?_⟩,mY.grown (grownBy_putObj' _ D _) mY.size (λk e=>by have:=Option.some.inj e;omega)⟩;have qc:ot p f=0:=by
      unfold ot;rw[<-nO.out,<-mJ.out,<-qZ.out,<-fe.out];simp only[Bool.or_false,Bool.false_eq_true,if_false];refine afw λq hq=> ?_;rw[<-UQ.out]at hq;obtain⟨y,hy,rfl⟩:=List.mem_map.1 hq;exact OZ y hy
     rw[qc]
    case stop=>
     rintro D c pre W6 hD hSp⟨rfl,hb,n,x,LQ,h4,h5,hne,rfl,hz⟩ hK;have HSP:=aF hSp;have HZ:=aF hz;have tR:=aF hne;have HB:=aF hb;have H4:=aF h4;have H5:=aF h5;have Wf:=aF hK;clear hSp hz hne hb h4 h5 hK
     gi_wp2
     refine⟨aH, .inl ⟨_,_,rfl,run_takeDeferred Wf.out, ?_⟩⟩;refine⟨_,Nw rfl rfl (H4.put aG) (H5.put aG),⟨n, ?_⟩,HB.grown (grownBy_putObj' _ D _) HB.size (λk e=>by have:=Option.some.inj e;omega)⟩;have qc:ot p f=oO p vl x.loop x.s:=by
      unfold ot;rw[<-nO.out,<-mJ.out,<-qZ.out,<-fe.out];simp only[Bool.or_false,Bool.false_eq_true,if_false];obtain⟨t,ht⟩:=HSP.out;rw[<-ht,List.map_append,List.append_assoc,Yi (λy hy=>by obtain⟨z,hz,rfl⟩:=List.mem_map.1 hy;exact HZ z hz),List.map_cons,List.map_nil,List.singleton_append,jt,if_neg (by exact tR.out)]
     rw[qc]
   ·gi_wp2_with (first|(refine⟨trivial, ?_⟩;refine(callsIn_wide.2 oG.out).mono ?_;rintro e W4⟨rfl,hb4⟩;have FW:=abe.ext hb4;have FX:=abf.ext hb4;clear c6 GS;have c6:=FW.k0;have GS:=FX.k2;have abg:=aF FW;have abh:=aF FX;have LO:=aF hb4;clear hb4 FW FX oG)|(refine⟨trivial, ?_⟩;refine(callsIn_wide.2 (gw _ LO.out)).mono ?_;rintro e W5⟨rfl,bz⟩;have rI:=aU LO bz;have Dq:=(TZ.ext Bc.out).ext rI.out;have Dr:=(T3.ext Bc.out).ext rI.out;have c4:=Dq.cell 0;have c5:=Dr.cell 0;have f4:=Dq.frozen 0;have f5:=Dr.frozen 0;simp only[af]at c4 c5;have Wh:=aF Dq;have Wi:=aF Dr;clear bz c6 GS Dq Dr))
    have hg1:=bO W5 (w.heap.size+1+1) 0 (I 50);have hg2:=bO (W5.setCell ⟨w.heap.size+1+1,0,none⟩ (I 50)) (w.heap.size+1+1+1) 0 (I 0);have bV:Below w w W5:=aW.out.trans (rI.mono aW.size);have mY:=(bV.grown hg1 bV.size (λk e=>by have:=Option.some.inj e;omega)).grown hg2 (by have:=hg1.size;have:=bV.size;omega) (λk e=>by have:=Option.some.inj e;omega);refine⟨_,Nw rfl rfl ((Wh.set 0 _).kept hg2 (λe=>by have:=Option.some.inj e;omega)) ((Wi.kept hg1 (λe=>by have:=Option.some.inj e;omega)).set 0 _),⟨0, ?_⟩,mY⟩;have qc:ot p f=50:=by
     unfold ot;rw[<-nO.out,<-mJ.out,<-qZ.out,<-fe.out];rfl
    rw[qc]
  ·gi_wp2_with (first|(refine⟨trivial, ?_⟩;refine(callsIn_wide.2 oG.out).mono ?_;rintro e W5⟨rfl,bz⟩;have rI:=aF bz;have Dq:=(TZ.ext Bc.out).ext rI.out;have Dr:=(T3.ext Bc.out).ext rI.out;have c4:=Dq.cell 0;have c5:=Dr.cell 0;have f4:=Dq.frozen 0;have f5:=Dr.frozen 0;simp only[af]at c4 c5;have Wh:=aF Dq;have Wi:=aF Dr;clear bz c6 GS Dq Dr)|(refine⟨trivial, ?_⟩))
   have hg1:=bO W5 (w.heap.size+1+1) 0 (I 50);have hg2:=bO (W5.setCell ⟨w.heap.size+1+1,0,none⟩ (I 50)) (w.heap.size+1+1+1) 0 (I 0);have bV:Below w w W5:=aW.out.trans (rI.mono aW.size);have mY:=(bV.grown hg1 bV.size (λk e=>by have:=Option.some.inj e;omega)).grown hg2 (by have:=hg1.size;have:=bV.size;omega) (λk e=>by have:=Option.some.inj e;omega);refine⟨_,Nw rfl rfl ((Wh.set 0 _).kept hg2 (λe=>by have:=Option.some.inj e;omega)) ((Wi.kept hg1 (λe=>by have:=Option.some.inj e;omega)).set 0 _),⟨0, ?_⟩,mY⟩;have qc:ot p f=50:=by
    unfold ot;rw[<-nO.out,<-mJ.out];rfl
   rw[qc]
end
end Go.Proofs.YtjgbkdbkachciaaGreatDoor
