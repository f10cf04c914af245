import Derived.Test.YtjgbkdbkachciaaGreatDoorE5
set_option linter.all false
namespace Go.Proofs.YtjgbkdbkachciaaGreatDoor
set_option maxRecDepth 100000
set_option maxHeartbeats 16000000
section
open Go.RowKit Go.Shelf
attribute [local go_sem] Oper.semAt_some
theorem QT {α:Type} {f:α->Int}:∀{l:List α},jt f l=0->∀x∈l,f x=0
 | [],_,x,hx=>by cases hx
 |y::l,h,x,hx=>by
  rw[jt]at h
  split at h
  ·next h0=>
   rcases List.mem_cons.1 hx with rfl|hx
   ·exact h0
   ·exact QT h x hx
  ·next h0=>exact absurd h h0
def nD (p:LP) (vs:List aK) (e:LE):Prop:=nU e/\kL p vs e=0
theorem nD.own {p:LP} {vs:List aK} {e:LE} (h:nD p vs e):qK p vs e=0:=by
 have:=h.2;rw[JN]at this;split at this
 ·next h0=>exact h0
 ·next h0=>exact absurd this h0
theorem X5 {p:LP} {vs:List aK} {l:List LE} (h:ud p vs l=0):∀x∈l,kL p vs x=0:=by
 rw[E0]at h;exact QT h
theorem nD.args {p:LP} {vs:List aK} {e:LE} (h:nD p vs e):∀x∈e.args,nD p vs x:=by
 have h2:=h.2;rw[JN,if_pos h.own]at h2;exact λx hx=>⟨((Hg e).1 h.1).2 x hx,X5 h2 x hx⟩
theorem nD.only {p:LP} {vs:List aK} {e:LE} (h:nD p vs e):DJ e:=((Hg e).1 h.1).1
theorem JF {b:Bool} {x:Int} (hx:x≠0) (h:pQ b x=0):b=true:=by
 unfold pQ at h;cases b
 ·exact absurd h (by simpa using hx)
 ·rfl
theorem nD.var {p:LP} {vs:List aK} {e:LE} (h:nD p vs e) (hk:e.kind=2):e.name∈vs:=by
 have:=h.own;unfold qK at this;rw[if_pos hk]at this;simpa using JF aQ this
theorem nD.index {p:LP} {vs:List aK} {e:LE} (h:nD p vs e) (hk:e.kind=6):0<=lK p e.name:=by
 have:=h.own;unfold qK at this;rw[if_neg aG,if_pos hk]at this;simpa using JF aQ this
theorem nD.call {p:LP} {vs:List aK} {e:LE} (h:nD p vs e) (hk:e.kind=5):0<=ji p e.name/\(qJ p (ji p e.name)).params.length=e.args.length:=by
 have:=h.own;unfold qK at this;rw[if_neg aG,if_neg aG,if_pos hk]at this;split at this
 ·cases this
 ·next hn=>exact⟨aG,by simpa using JF aQ this⟩
theorem afY {e:LE} (h:DJ e):1<=e.kind/\e.kind<=7:=by
 rcases h with h|h|h|h|h|h|h<;>(have:=h.1;omega)
theorem nD.DU {p:LP} {vs:List aK} {e:LE} (h:nD p vs e):DU p e:=by
 have h1:=h.only;refine⟨afY h1,λhk=> ?_,λhk=> ?_,λhk=>⟨?_,h.index hk⟩,λhk=>h.call hk⟩
 all_goals
  rcases h1 with h|h|h|h|h|h|h<;>first|(have:=h.1;omega)|simp_all
theorem nD.XE {p:LP} {vs:List aK}:∀(d:Nat) (e:LE),ij d e->nD p vs e->UT p d e
 |0,_,h,_=>h
 |d+1,e,h,hr=>⟨hr.DU,λx hx=>nD.XE d x (h.2 x hx) (hr.args x hx)⟩
def lQ (p:LP) (vs:List aK) (d:Nat) (s:LS):Prop:=mC d s/\∃loop,∀q∈A5 loop s,oO p vs q.2 q.1=0
theorem Nx {loop:Bool}:∀{l:List LS} {x:LS} {q:LS×Bool},x∈l->q∈A5 loop x->q∈ez loop l
 |y::l,x,q,hx,hq=>by
  rw[ez]
  rcases List.mem_cons.1 hx with rfl|hx
  ·exact List.mem_append_left _ hq
  ·exact List.mem_append_right _ (Nx hx hq)
theorem lQ.thn {p:LP} {vs:List aK} {d:Nat} {s:LS} (h:lQ p vs (d+1) s):∀x∈s.thn,lQ p vs d x:=by
 obtain⟨h1,loop,h2⟩:=h;refine λx hx=>⟨h1.2.2.2.2.2.2.2.1 x hx,loop||s.kind==4,λq hq=>h2 q ?_⟩;rw[JO];exact List.mem_cons_of_mem _ (List.mem_append_left _ (Nx hx hq))
theorem lQ.els {p:LP} {vs:List aK} {d:Nat} {s:LS} (h:lQ p vs (d+1) s):∀x∈s.els,lQ p vs d x:=by
 obtain⟨h1,loop,h2⟩:=h;refine λx hx=>⟨h1.2.2.2.2.2.2.2.2 x hx,loop,λq hq=>h2 q ?_⟩;rw[JO];exact List.mem_cons_of_mem _ (List.mem_append_right _ (Nx hx hq))
theorem lQ.one {p:LP} {vs:List aK} {d:Nat} {s:LS} (h:lQ p vs d s):∃loop,qi p vs loop s=0/\ud p vs s.args=0:=by
 obtain⟨h1,loop,h2⟩:=h;have h3:=h2 (s,loop) (by rw[JO];exact List.mem_cons_self);refine⟨loop, ?_⟩;have h3:oO p vs loop s=0:=h3;by_cases h0:qi p vs loop s=0
 ·rw[Ht h0]at h3;exact⟨h0,h3⟩
 ·exact absurd (JY rfl h0▸h3) h0
theorem lQ.args {p:LP} {vs:List aK} {d:Nat} {s:LS} (h:lQ p vs (d+1) s):∀x∈s.args,nD p vs x:=by
 obtain⟨loop,h1,h2⟩:=h.one;exact λx hx=>⟨⟨40,h.1.2.2.2.2.2.2.1 x hx⟩,X5 h2 x hx⟩
theorem lQ.set {p:LP} {vs:List aK} {d:Nat} {s:LS} (h:lQ p vs d s) (hk:s.kind=1):s.name∈vs:=by
 obtain⟨loop,h1, -⟩:=h.one;unfold qi at h1;rw[if_neg aG,if_pos hk]at h1;simpa using JF aQ h1
theorem lQ.store {p:LP} {vs:List aK} {d:Nat} {s:LS} (h:lQ p vs d s) (hk:s.kind=2):0<=lK p s.name:=by
 obtain⟨loop,h1, -⟩:=h.one;unfold qi at h1;rw[if_neg aG,if_neg aG,if_pos hk]at h1;simpa using JF aQ h1
theorem lQ.A8 {p:LP} {vs:List aK} {d:Nat} {s:LS} (h:lQ p vs (d+1) s):A8 p s:=by
 have h1:=h.1.2.1;refine⟨λhk=> ?_,λhk=>⟨?_,h.store hk⟩,λx hx=>⟨40,nD.XE 40 x (h.1.2.2.2.2.2.2.1 x hx) (h.args x hx)⟩⟩
 ·rw[h1];rcases hk with hk|hk|hk|hk|hk|hk<;>rw[hk]<;>rfl
 ·rw[h1,hk];rfl
theorem lQ.YS {p:LP} {vs:List aK}:∀(d:Nat) (s:LS),lQ p vs d s->Po p d s
 |0,_,h=>h.1
 |d+1,s,h=>⟨h.A8,λx hx=>lQ.YS d x (h.thn x hx),λx hx=>lQ.YS d x (h.els x hx)⟩
theorem WO {p:LP} {f:LF} (h:ot p f=0):nS (f.params++f.locals)=false/\(∀s∈f.params++f.locals,s∉j3 p)/\∀q∈ez false f.body,oO p (f.params++f.locals) q.2 q.1=0:=by
 unfold ot at h;split at h
 ·cases h
 ·next hn=>
  simp only[Bool.or_eq_true,not_or,Bool.not_eq_true,List.any_eq_false,decide_eq_true_eq]at hn;exact⟨hn.1,λs hs=>by simpa using hn.2 s hs,QT h⟩
theorem lQ.of {p:LP} {f:LF} (hok:okF f) (h:ot p f=0):∀x∈f.body,lQ p (f.params++f.locals) 40 x:=
 λx hx=>⟨hok.2.2.2.2 x hx,false,λq hq=>(WO h).2.2 q (Nx hx hq)⟩
theorem Ic.RN {p:LP} (hok:kR p) (hn:s6 p) (hN:p.arrays.length+p.funcs.length<=1000000000) (jT:∀f∈p.funcs,f.params.length+f.locals.length<=1000000000):Ic p:=
 ⟨hok,hn,λf hf B pa la pc lc=>X6 B pa la pc lc _ _ (jT f hf),⟨hn.main,λf hf x hx=>⟨40,lQ.YS 40 x (lQ.of (hok.funcs f hf) (hn.funcs f hf) x hx)⟩⟩,hN,jT⟩
theorem aiy (p:LP) (hno: ¬(kR p/\s6 p)) (hap:sP p) (hN:p.arrays.length+p.funcs.length<=1000000000) (jT:∀f∈p.funcs,f.params.length+f.locals.length<=1000000000) (av fv iv:Value) (most:Int) (W:World) (hx:PX (·<W.heap.size) W av fv p) (hi:∃a n c,iv= .slice a n c):
  CR 17 #[.agg #[av,fv],iv,I most] W (.agg #[I 0,I 0, .slice none 0 0,I 0]):=by
 obtain⟨aa,ac,fa,fc,rfl,rfl⟩:=hx.slice;obtain⟨ia,il,ik,rfl⟩:=hi;have⟨fn,hfn⟩:=xq p.funcs.length;have⟨AN,iV⟩:=xq p.arrays.length;rw[<-iV,<-hfn]at hx|-;have yb:=aF (λ(w:World) (hb:Below W W w)=>agE (·<W.heap.size) p _ _ w (hx.below hb) hap (λf hf B pa la pc lc=>X6 B pa la pc lc _ _ (jT f hf)) hN jT);have IX:=aF hno;clear hx hap hN jT hno hfn iV;obtain⟨w0,hw0⟩:∃w0,w0=(W.alloc (.cells #[.slice aa AN ac, .slice fa fn fc] 27)).alloc (.cells wK 37):=⟨_,rfl⟩;have dO:=hw0.symm;have bg:=aF (show Below W W w0 by rw[hw0];exact nR _ _ _);have hp0:Row w0 W 27 [.slice aa AN ac, .slice fa fn fc]:=by rw[hw0];exact dV _ _ hn0
 have zx:=aF (show Row w0 (W,1) 37 [I 0,I 0, .slice none 0 0,I 0] by rw[hw0];exact jF aH);have p0:=hp0.k0;have p1:=hp0.k1;have gT:=aF hp0;clear hw0 hp0;go_enter Tryz.func17,Tryz.ntmps17;go_upto_region 2 with(first|(go_at_call 31;refine(yb _ bg).mono ?_;rintro e' w1⟨⟨c,x,y,rfl,hc⟩,hb1⟩;have HC:=aF hc;have aI:=aU bg hb1;have uf:=aF hb1;clear hb1 hc)|(refine sr 72 (.tmp 8) (.tmp 16) w1 #[.int .i64 0, .int .i64 0] hn0 ?_;rw[World.setRow_alloc_new]))
 have hcb:(c !=0)=true:=by
  rw[bne_iff_ne];exact λh=>IX.out (HC.1 h)
 have⟨w2,hw2⟩:=xq (w1.alloc (.cells #[I x,I y] 72));have hb2:Below W W w2:=by rw[hw2];exact aI.alloc aI.size _
 have hs2:Row w2 (W,1) 37 [I 0,I 0, .slice none 0 0,I 0]:=by rw[hw2];exact dV _ _ (zx.ext uf.out)
 first|rw[<-hw2]|(change Code.wp _ _ _ _ (w1.alloc (.cells #[I x,I y] 72));rw[<-hw2])
 have aM:=aF hb2;have cu:=aF hs2;clear hw2 hb2 hs2 p0 p1;go_wp2_with (refine sr 37 (.tmp 6) (.tmp 19) (W.heap.size+1) wK cu.out ?_)
 refine bodyPost_ret (Xt rfl (setRow_heap _ _ _ _ _ _ cu.out)) rfl ?_;exact⟨rfl,aM.grown bJ aM.size bh⟩
noncomputable def pV (p:LP) (K:Nat) (inp:List Int) (most:Int):LR:=if bP (kR p/\s6 p)=true then runM p K inp most else⟨0,0,[],0⟩
theorem Zh (p:LP) (hap:sP p) (hN:p.arrays.length+p.funcs.length<=1000000000) (jT:∀f∈p.funcs,f.params.length+f.locals.length<=1000000000) (av fv iv:Value) (inp:List Int) (most:Int) (W:World) (hx:PX (·<W.heap.size) W av fv p) (hi:jl (·<W.heap.size) W iv inp) (hm:most<=1000000) (K:Nat) (hK:2*most.toNat+1<=K):
  Calls Tryz.prog 17 #[.agg #[av,fv],iv,I most] W λe w'=>∃ov,e= .returned (.agg #[I (pV p K inp most).status,I (pV p K inp most).code,ov,I (pV p K inp most).steps])/\bZ w' 0 ov (pV p K inp most).out/\Below W W w':=by
 by_cases h:kR p/\s6 p
 ·have hf:pV p K inp most=runM p K inp most:=by unfold pV;rw[if_pos (t_ h)]
  rw[hf];exact ah4 p (Ic.RN h.1 h.2 hN jT) hap av fv iv inp most W hx hi hm K hK
 ·have hf:pV p K inp most=⟨0,0,[],0⟩:=by unfold pV;rw[if_neg (by rw[vY h];decide)]
  rw[hf];obtain⟨ia,ik,rK,hil⟩:=hi.room;exact(aiy p h hap hN jT av fv iv most W hx ⟨ia,_,ik,rK⟩).mono λe w' h=>⟨_,h.1,bZ.nil _ _,h.2⟩
def gG:Nat->LE->Option Int
 |0,_=>none
 |d+1,e=>if(e.args.all λx=>(gG d x).isSome)=true then
   if e.kind=1 then some e.n else if e.kind=3 then qp e.op ((e.args.map λx=>(gG d x).getD 0).getD 0 0)
   else if e.kind=4 then fC e.op ((e.args.map λx=>(gG d x).getD 0).getD 0 0) ((e.args.map λx=>(gG d x).getD 0).getD 1 0)else none
  else none
def ajl (d:Nat):Prop:=∀(e:LE) (av:Value) (W:World) (B:Nat->Prop),ij d e->EX B W av e->
 CR 38 #[eV e av] W (.tuple #[I ((gG d e).getD 0), .bool (gG d e).isSome])
theorem Yf:∀d,ajl d
 |0=>λ_ _ _ _ h=>h.elim
 |d+1=>by
  have ih:=Yf d
  intro e av W B hn hx
  obtain⟨a0,c0,rfl⟩:=hx.slice
  obtain⟨dd,hx⟩:=hx
  have⟨ek,lT⟩:=xq e.kind
  have⟨eo,mg⟩:=xq e.op
  have⟨en,hen⟩:=xq e.n
  have⟨nm,cJ⟩:=xq e.name
  have⟨al,hal⟩:=xq e.args.length
  have⟨vr,mM⟩:=xq (gG (d+1) e)
  rw[eV,<-lT,<-mg,<-hen,<-cJ,<-hal,<-mM]
  rw[<-hal]at hx
  have Fs:al<=6:=by
   rw[hal];rcases hn.1 with h|h|h|h|h|h|h
   ·have:=h.2.2.2.2;omega
   ·have:=h.2.2.2.2;omega
   ·have:=h.2.2.2.2;omega
   ·have:=h.2.2.2.2;omega
   ·have:=h.2.2.2.2;omega
   ·have:=h.2.2.2.2;omega
   ·have:=h.2.2.2.2;omega
  have HX:=aF hx;have HN:=aF hn;have cM:=aF lT;have yu:=aF mg;have jK:=aF hen;have jM:=aF hal;have Et:=aF mM;have HI:=aF ih;have⟨w0,hw0⟩:=xq (W.alloc (.cells #[I ek,I eo,I en,S nm, .slice a0 al c0] 31));have dO:=hw0.symm;have hb0:=gI hw0;have hp0:=dZ hw0;have bg:=aF hb0;have gT:=aF hp0;clear hx hn lT mg hen cJ hal mM hw0 hb0 hp0 ih;go_enter Tryz.func38,Tryz.ntmps38;go_upto_region 2 with(fail)
  have⟨w1,hw1⟩:=xq (w0.alloc (.cells #[] 3));have hb1:Below W W w1:=by rw[hw1];exact bg.alloc bg.size _
  have hp1:Row w1 W 31 [I ek,I eo,I en,S nm, .slice a0 al c0]:=by rw[hw1];exact dV _ _ gT.out
  have mN:bZ w1 (W.heap.size+1) (.slice (some (w0,0)) 0 0) []:=by
   rw[hw1];exact⟨rfl, .inr ⟨w0.heap.size,0,#[],rfl,gT.lt,cj _ _,ay _,aQ,rfl,rfl⟩⟩
  rw[<-hw1];have p4:=hp1.k4;have aI:=aF hb1;have iy:=aF hp1;have fk:=aF mN;clear hw1 hb1 hp1 mN;go_upto_region 3 with(fail)
  go_loopg [4,5,14] al (λgh v fb i wr=>∃j:Nat,gh+j=al/\i=I j/\∃b,fb= .bool b/\Hid (b=(e.args.take j).all (λx=>(gG d x).isSome)/\Below W W wr/\Row wr W 31 [I ek,I eo,I en,S nm, .slice a0 al c0]/\bZ wr (W.heap.size+1) v ((e.args.take j).map λx=>(gG d x).getD 0)))
  case atStart=>exact⟨0,rfl,rfl,true,rfl,aF ⟨rfl,aI,iy,fk⟩⟩
  case round=>
   obtain⟨j,hg,rfl,fb,rfl,HH⟩:=hrel;obtain⟨wo,rfl⟩:=xq wr
   by_cases hlt:j<al
   ·have bT:(j:Int)<(al:Int):=aG;have hjl:j<e.args.length:=by rw[<-jM.out];exact hlt
    have iY:=aP.below HH.out.2.1 (λC x h=>RE.grown dd (bX HH.out.2.1 none) aJ h) HX;obtain⟨b,o,C,rfl,hBb,hC,hrx⟩:=iY.at hjl;have⟨x,hx⟩:=xq (e.args[j]);rw[<-hx]at hrx;obtain⟨dx,rfl⟩:∃dx,dd=dx+1:=by
     cases dd with
     |zero=>exact hrx.elim
     |succ dx=>exact⟨dx,rfl⟩
    obtain⟨h0,h1,h2,h3,h4⟩:=hrx;obtain⟨xa,xc,hxv, -⟩:=id h4;have e0:=hC 0 aG;have e1:=hC 1 aG;have e2:=hC 2 aG;have e3:=hC 3 aG;have e4:=hC 4 aG;rw[h0]at e0;rw[h1]at e1;rw[h2]at e2;rw[h3]at e3;rw[hxv]at e4 h4;simp only[aA]at e0 e1 e2 e3 e4;have htk:e.args.take (j+1)=e.args.take j++ [x]:=by rw[List.take_succ_eq_append_getElem hjl,<-hx]
    obtain⟨ls,hls⟩:∃l,l=(e.args.take j).map λx=>(gG d x).getD 0:=⟨_,rfl⟩;have hll:ls.length<=6:=by rw[hls,aC,List.length_take];omega
    have ho:=HH.out.2.2.2;rw[<-hls]at ho;have HO:=aF ho;have oH:=aF HH.out.1;have iL:=aF HH.out.2.1;have tD:=aF HH.out.2.2.1;have fL:=aF htk;have Bw:=aF hls;have cI:=aF h4;have hnx:ij d x:=by rw[hx];exact HN.2 _ (ak hjl)
    have qQ:=aF hnx;have⟨xn,qA⟩:=xq x.args.length;rw[<-qA]at e4 cI;have Mu:=aF qA;clear iY hBb hC h0 h1 h2 h3 h4 hxv hx htk hls ho HH hnx qA;go_upto_region 5 with(refine sr 31 (.tmp 7) (.tmp 17) wo eZ hn0 ?_)
    obtain⟨w3,hw3⟩:∃w3,w3=(wo.alloc (.cells eZ 31)).setRow wo #[I x.kind,I x.op,I x.n,S x.name, .slice xa xn xc]:=⟨_,rfl⟩;have hg3:wo.grownBy w3 none:=by rw[hw3,World.setRow_alloc_new];exact cE _ _ _
    have hx3:Row w3 wo 31 [I x.kind,I x.op,I x.n,S x.name, .slice xa xn xc]:=by rw[hw3];exact setRow_heap _ _ _ _ _ _ hn0
    rw[<-hw3];have c0:=hx3.k0;have c1:=hx3.k1;have c2:=hx3.k2;have c3:=hx3.k3;have c4:=hx3.k4;have hcall:=HI x (.slice xa xn xc) w3 B qQ (⟨dx,(show aP B 5 (RE dx B) wo (.slice xa xn xc) x.args from cI.out).grown hg3 aJ λ_ _ h=>RE.grown dx hg3 aJ h⟩:EX B w3 (.slice xa xn xc) x);rw[eV]at hcall;have⟨vx,Bz⟩:=xq (gG d x);rw[<-Bz]at hcall;have⟨nx,hnx⟩:=xq (vx.getD 0);have⟨bx,rq⟩:=xq vx.isSome;rw[<-hnx,<-rq]at hcall;have jk:=aF hcall;have Gp:=aF Bz;have OB:=aF hnx;have vJ:=aF rq;have aW:=dF iL hg3;have fO:=bI tD hg3;have eU:=aF (HO.kept hg3 aJ);clear hw3 hg3 hx3 hcall Bz hnx rq e0 e1 e2 e3 e4;go_upto_region 6 with(go_at_call 38;refine aN jk λw4 hb4=> ?_;have aR:=aU aW hb4;have bH:=bA fO hb4;have mH:=aF (eU.tag (bX hb4 none) eF))
    have hcn:(w4.alloc (.cells #[I nx] 3)).cell? (w4,0)=some (.int .i64 nx):=by rw[cell_of_block (cj w4 (.cells #[I nx] 3))];rfl
    have Au:=aF hcn;have vK:=aF (mH.kept (cE w4 (.cells #[I nx] 3) none) aJ);have hbs:W.heap.size+1<=(w4.alloc (.cells #[I nx] 3)).heap.size:=by have:=bH.lt;simp;omega
    have PC:=aF hbs;clear hcn c0 c1 c2 c3 c4 hbs;cases fb with
    |false=>
     go_upto_region 7 with(at_builtin;refine ES rfl _ _ rfl (W.heap.size+1) u4 ls rfl vK.out w4.heap.size nx rfl Au.out aG PC.out ?_;intro g' cap' w6 dY bG fy lZ;have gK:=aF dY;have di:=aF bG;clear dY bG fy)
     have hown:∀r,u4.ownBlock=some r->W.heap.size+1<=r:=λr e=>(cO mH r e).1;have bV:Below W W w6:=(aR.alloc aR.size _).grown di (by have:=aR.size;simp;omega) (λr e=>by have:=hown r e;omega);have fU:=(bH.kept (cE w4 (.cells #[I nx] 3) none) aH).kept di (λe=>by have:=hown _ e.symm;omega);have jd:(e.args.take (j+1)).all (λx=>(gG d x).isSome)=(false&&bx):=by
      rw[fL.out,List.all_append,<-oH.out,vJ.out,Gp.out];simp
     have hls:(e.args.take (j+1)).map (λx=>(gG d x).getD 0)=ls++ [nx]:=by
      rw[fL.out,List.map_append,<-Bw.out,OB.out,Gp.out];rfl
     have cY:=aF bV;have fD:=aF fU;have Kv:=aF jd;have Kw:=aF hls;clear hown bV fU jd hls;go_wp2
     go_roundg (al - (j+1))
     case measure=>omega
     case rel=>exact⟨j+1,aG,by go_num,_,rfl,aF ⟨by rw[Kv.out];rfl,cY,fD,by rw[Kw.out];exact gK.out⟩⟩
    |true=>
     go_upto_region 7 with(at_builtin;refine ES rfl _ _ rfl (W.heap.size+1) u4 ls rfl vK.out w4.heap.size nx rfl Au.out aG PC.out ?_;intro g' cap' w6 dY bG fy lZ;have gK:=aF dY;have di:=aF bG;clear dY bG fy)
     have hown:∀r,u4.ownBlock=some r->W.heap.size+1<=r:=λr e=>(cO mH r e).1;have bV:Below W W w6:=(aR.alloc aR.size _).grown di (by have:=aR.size;simp;omega) (λr e=>by have:=hown r e;omega);have fU:=(bH.kept (cE w4 (.cells #[I nx] 3) none) aH).kept di (λe=>by have:=hown _ e.symm;omega);have jd:(e.args.take (j+1)).all (λx=>(gG d x).isSome)=(true&&bx):=by
      rw[fL.out,List.all_append,<-oH.out,vJ.out,Gp.out];simp
     have hls:(e.args.take (j+1)).map (λx=>(gG d x).getD 0)=ls++ [nx]:=by
      rw[fL.out,List.map_append,<-Bw.out,OB.out,Gp.out];rfl
     have cY:=aF bV;have fD:=aF fU;have Kv:=aF jd;have Kw:=aF hls;clear hown bV fU jd hls;go_wp2
     go_roundg (al - (j+1))
     case measure=>omega
     case rel=>exact⟨j+1,aG,by go_num,_,rfl,aF ⟨by rw[Kv.out];rfl,cY,fD,by rw[Kw.out];exact gK.out⟩⟩
   ·have bT: ¬(j:Int)<(al:Int):=aG;have jd:=HH.out.1;have ho:=HH.out.2.2.2;have hp:=HH.out.2.2.1;rw[List.take_of_length_le (by rw[<-jM.out];omega)]at jd ho;have p0:=hp.k0;have p1:=hp.k1;have p2:=hp.k2;have iL:=aF HH.out.2.1;have tD:=aF hp;have oH:=aF jd;have HO:=aF ho;clear HH jd ho hp;cases fb with
    |false=>
     have hv:vr=none:=by
      rw[Et.out,gG,if_neg (by rw[<-oH.out];decide)]
     have HV:=aF hv;clear hv;go_wp2
     go_ret2;exact⟨by rw[HV.out];rfl,iL⟩
    |true=>
     have mM:vr=if ek=1 then some en else if ek=3 then qp eo ((e.args.map λx=>(gG d x).getD 0).getD 0 0)else if ek=4 then fC eo ((e.args.map λx=>(gG d x).getD 0).getD 0 0) ((e.args.map λx=>(gG d x).getD 0).getD 1 0)else none:=by
      rw[Et.out,gG,if_pos oH.out.symm,cM.out,jK.out,yu.out]
     have CD:=aF mM;clear mM;have aaw:aP (λb=>b=wo.heap.size) 1 RI (wo.alloc (.cells #[I 1,I 3,I 4] 3)) (.slice (some (wo,0)) 3 3) [1,3,4]:=by
      refine⟨_,_,rfl,aH, .inr ⟨wo.heap.size,0,rfl,rfl,λi x hx=>⟨λ_=>I x,λj hj=> ?_,rfl⟩⟩⟩;obtain rfl:j=0:=aG;rw[cell_of_block (cj wo (.cells #[I 1,I 3,I 4] 3))]
      match i,hx with
      |0,hx=>cases hx;rfl
      |1,hx=>cases hx;rfl
      |2,hx=>cases hx;rfl
      |i+3,hx=>simp at hx
     obtain⟨qm,hmem⟩:∃q,decide (ek∈ [(1:Int),3,4])=q:=⟨_,rfl⟩;have hct:=aeZ (wo.alloc (.cells #[I 1,I 3,I 4] 3)) _ [1,3,4] ek aaw;rw[hmem]at hct;have gw:=aF hct;have sQ:=aF hmem;clear aaw hmem hct;have hb4:Below W W (wo.alloc (.cells #[I 1,I 3,I 4] 3)):=iL.alloc iL.size _;have kg:=tD.kept (cE wo (.cells #[I 1,I 3,I 4] 3) none) aH;have gU:=HO.kept (cE wo (.cells #[I 1,I 3,I 4] 3) none) aJ;have⟨w4,hw4⟩:=xq (wo.alloc (.cells #[I 1,I 3,I 4] 3));have aax:=hw4.symm;rw[<-hw4]at hb4 kg gU gw;have q0:=kg.k0;have q1:=kg.k1;have q2:=kg.k2;have aR:=aF hb4;have bH:=aF kg;have mH:=aF gU;clear hw4 hb4 kg gU;rcases(by omega:ek=1\/ek=3\/ek=4\/(ek≠1/\ek≠3/\ek≠4))with rfl|rfl|rfl|⟨n1,n3,n4⟩
     ·have hv:vr=some en:=by rw[CD.out,if_pos rfl]
      obtain rfl:qm=true:=sQ.out.symm.trans aQ;have HV:=aF hv;clear hv;go_wp2_with (go_at_call 61;refine gw.mono ?_;rintro e' w5⟨rfl,rfl⟩)
      go_ret2;exact⟨by rw[HV.out];rfl,aR⟩
     ·obtain rfl:qm=true:=sQ.out.symm.trans aQ;obtain⟨a,jS⟩:∃a,e.args= [a]:=by
       rcases HN.1 with h|h|h|h|h|h|h
       ·have:=h.1;have:=cM.out;omega
       ·have:=h.1;have:=cM.out;omega
       ·exact List.length_eq_one_iff.1 h.2.2.2.2
       ·have:=h.1;have:=cM.out;omega
       ·have:=h.1;have:=cM.out;omega
       ·have:=h.1;have:=cM.out;omega
       ·have:=h.1;have:=cM.out;omega
      obtain⟨x,hx⟩:∃x,x=(gG d a).getD 0:=⟨_,rfl⟩;have gU:=mH.out;have hv:vr=qp eo x:=by rw[CD.out,if_neg aQ,if_pos rfl,jS,hx];rfl
      rw[jS]at gU;simp only[List.map_cons,List.map_nil,<-hx]at gU;clear hx;obtain⟨g,cap,Gq,hc0⟩:=gU.cell (i:=0) (x:=x) rfl;subst Gq;have hone:=λX=>Zj eo x X;rw[<-hv]at hone;obtain⟨n2,b2,hrt,eD,hb2⟩:∃n b,pW vr= .tuple #[I n, .bool b]/\vr.getD 0=n/\vr.isSome=b:=by
       cases vr with
       |none=>exact⟨0,false,rfl,rfl,rfl⟩
       |some z=>exact⟨z,true,rfl,rfl,rfl⟩
      rw[hrt]at hone;have Ik:=aF hone;have ru:=aF eD;have aM:=aF hb2;have cU:=aF hc0;clear jS gU hc0 hv hone hrt eD hb2;simp only[aq,au,Nat.zero_add]at*;go_upto_region 13 with(go_at_call 61;refine gw.mono ?_;rintro e' w5⟨rfl,rfl⟩)
      refine cC (λX=>X.cell? (W,1)=some (I eo)/\X.cell? (g,0)=some (I x)) [0,0,0,0,0,1,0,0,0,0] (λwd hh=>⟨aO bH.out hh 1,eP hh cU⟩) λwd hh hgd hS=> ?_;have bE:=dF aR hgd;have BA:=bI bH hgd;have fK:=aF (aS cU hgd aH);clear hh hgd q0 q1 q2 p0 p1 p2;refine dS ?_;go_wp2_with (go_at_call 62;refine aN (Ik _) λw6 cY=> ?_;clear hS)
      refine bw ⟨(BA.ext cY).cell 1,aS fK (aT cY) aH⟩ λhS=> ?_;refine dP ?_;clear hS;go_wp2
      go_ret2;exact⟨by rw[ru.out,aM.out];rfl,bE.out.trans (cY.mono bE.size)⟩
     ·obtain rfl:qm=true:=sQ.out.symm.trans aQ;obtain⟨a,b,jS⟩:∃a b,e.args= [a,b]:=by
       rcases HN.1 with h|h|h|h|h|h|h
       ·have:=h.1;have:=cM.out;omega
       ·have:=h.1;have:=cM.out;omega
       ·have:=h.1;have:=cM.out;omega
       ·have hl:=h.2.2.2.2
        match hm:e.args,hl with
        | [a,b],_=>exact⟨a,b,rfl⟩
       ·have:=h.1;have:=cM.out;omega
       ·have:=h.1;have:=cM.out;omega
       ·have:=h.1;have:=cM.out;omega
      obtain⟨x,hx⟩:∃x,x=(gG d a).getD 0:=⟨_,rfl⟩;obtain⟨y,hy⟩:∃y,y=(gG d b).getD 0:=⟨_,rfl⟩;have gU:=mH.out;have hv:vr=fC eo x y:=by rw[CD.out,if_neg aQ,if_neg aQ,if_pos rfl,jS,hx,hy];rfl
      rw[jS]at gU;simp only[List.map_cons,List.map_nil,<-hx,<-hy]at gU;clear hx hy;obtain⟨g,cap,Gq,hc0⟩:=gU.cell (i:=0) (x:=x) rfl;subst Gq;have hc1:=gU.cell' (i:=1) (x:=y) rfl;have CE:=λX=>Zk eo x y X;rw[<-hv]at CE;obtain⟨n2,b2,hrt,eD,hb2⟩:∃n b,pW vr= .tuple #[I n, .bool b]/\vr.getD 0=n/\vr.isSome=b:=by
       cases vr with
       |none=>exact⟨0,false,rfl,rfl,rfl⟩
       |some z=>exact⟨z,true,rfl,rfl,rfl⟩
      rw[hrt]at CE;have Sw:=aF CE;have ru:=aF eD;have aM:=aF hb2;have cU:=aF hc0;have kU:=aF hc1;clear jS gU hc0 hc1 hv CE hrt eD hb2;simp only[aq,au,Nat.zero_add,Nat.reduceAdd]at*;go_upto_region 14 with(go_at_call 61;refine gw.mono ?_;rintro e' w5⟨rfl,rfl⟩)
      refine cC (λX=>X.cell? (W,1)=some (I eo)/\X.cell? (g,0)=some (I x)/\X.cell? (g,1)=some (I y)) [0,0,0,0,0,0,0,0,1,0,0,0,0] (λwd hh=>⟨aO bH.out hh 1,eP hh cU,eP hh kU⟩) λwd hh hgd hS=> ?_;have bE:=dF aR hgd;have BA:=bI bH hgd;have fK:=aF (aS cU hgd aH);have l9:=aF (aS kU hgd aH);clear hh hgd q0 q1 q2 p0 p1 p2;refine dS ?_;go_wp2_with (go_at_call 63;refine aN (Sw _) λw6 cY=> ?_;clear hS)
      refine bw ⟨(BA.ext cY).cell 1,aS fK (aT cY) aH,aS l9 (aT cY) aH⟩ λhS=> ?_;refine dP ?_;clear hS;go_wp2
      go_ret2;exact⟨by rw[ru.out,aM.out];rfl,bE.out.trans (cY.mono bE.size)⟩
     ·have hv:vr=none:=by rw[CD.out,if_neg n1,if_neg n3,if_neg n4]
      obtain rfl:qm=false:=sQ.out.symm.trans (decide_eq_false (by simp [n1,n3,n4]));have HV:=aF hv;clear hv n1 n3 n4;go_wp2_with (go_at_call 61;refine gw.mono ?_;rintro e' w5⟨rfl,rfl⟩)
      go_ret2;exact⟨by rw[HV.out];rfl,aR⟩
end
end Go.Proofs.YtjgbkdbkachciaaGreatDoor
