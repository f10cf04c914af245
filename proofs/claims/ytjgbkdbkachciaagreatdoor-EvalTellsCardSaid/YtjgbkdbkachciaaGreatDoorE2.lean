import Derived.Test.YtjgbkdbkachciaaGreatDoorE7
set_option linter.all false
namespace Go.Proofs.YtjgbkdbkachciaaGreatDoor
set_option maxRecDepth 100000
set_option maxHeartbeats 16000000
section
open Go.RowKit Go.Shelf
attribute [local go_sem] Oper.semAt_some
abbrev N5:FD:=⟨⟨dX,0,0,[]⟩,none,0,none,0,none,0⟩
theorem afh (B:Nat->Prop) (w:World):tJ B w N5:=⟨aP.nil _ _ _ _,aP.nil _ _ _ _,0,aP.nil _ _ _ _⟩
theorem XD (w:World) (row:Option Nat):w.grownBy w row:=⟨rfl,rfl,rfl,ay _,λ_ _ _=>rfl⟩
theorem aie {k:Nat} (h1:0<k) (h2:k<3): [S ([102]:aK),S nG,S nH][k]? =some (S (wW k)):=by
 have:k=1\/k=2:=aG;rcases this with rfl|rfl<;>rfl
abbrev Jg (free:Bool):List Value:= [.slice none 0 0, .slice none 0 0, .slice none 0 0, .bool free, .bool false]
abbrev MX:List Value:= [.slice none 0 0, .slice none 0 0]
theorem aif {k:Nat} (h1:0<k) (h2:k<3): [S ([97]:aK),S nB,S nC][k]? =some (S (tQ k)):=by
 have:k=1\/k=2:=aG;rcases this with rfl|rfl<;>rfl
theorem aih {r:Nat} (h:r<4):∃z:Nat,1<=z/\z<=1000/\ [I 1,I 4,I 10,I 1000][r]? =some (I z):=by
 have:r=0\/r=1\/r=2\/r=3:=aG;rcases this with rfl|rfl|rfl|rfl
 ·exact⟨1,aQ,aQ,rfl⟩
 ·exact⟨4,aQ,aQ,rfl⟩
 ·exact⟨10,aQ,aQ,rfl⟩
 ·exact⟨1000,aQ,aQ,rfl⟩
theorem Fa:∀x∈pq++tP++Qi,fH x:=λx hx=>⟨(ajB x hx).1,by
 have h:∀x∈pq++tP++Qi,x.length<=100:=aQ
 exact h x hx⟩
theorem ahG:fH dX:=Fa _ aQ
theorem aii {k:Nat} (h1:0<k) (h2:k<3):fH (wW k):=by
 have:k=1\/k=2:=aG;rcases this with rfl|rfl<;>exact Fa _ aQ
theorem aij {k:Nat} (h1:0<k) (h2:k<3):fH (tQ k):=by
 have:k=1\/k=2:=aG;rcases this with rfl|rfl<;>exact Fa _ aQ
def cW (free:Bool):Sc:=⟨free,fH,fH,λx n=>fH x/\n<=6⟩
structure oX (pb nb:Nat) (w:World) (v:Value) (aX:List LA):Prop where
 own:a_ 2 68 sL w (pb+1) v aX
 lt:∀g,v.ownBlock=some g->g<nb
theorem oX.grown {pb nb:Nat} {w w':World} {v:Value} {aX:List LA} {row:Option Nat} (h:oX pb nb w v aX) (hg:w.grownBy w' row) (hr:∀r,row=some r-> ¬(pb<r/\r<nb)) (_:∀(C:Nat->Value) (x:LA),wO w C x->wO w' C x):oX pb nb w' v aX:=by
 refine⟨j0 h.own hg ?_,h.lt⟩;cases hv:v.ownBlock with
 |none=>exact .inl rfl
 |some g=>
  right;intro e;exact hr g e.symm ⟨(cO h.own g hv).1,h.lt g hv⟩
theorem oX.le {pb nb nb':Nat} {w:World} {v:Value} {aX:List LA} (h:oX pb nb w v aX) (hn:nb<=nb'):oX pb nb' w v aX:=⟨h.own,λg hg=>aB (h.lt g hg) hn⟩
theorem oX.rsl {pb nb:Nat} {w:World} {v:Value} {aX:List LA} (h:oX pb nb w v aX) (hl:aX.length<=1000000000):aP (pb<·) 2 wO w v aX:=(h.own.fB hl).weak (λb hb=>hb) λ_ _ h=>h
structure Bd (free:Bool) (aX:List LA) (fs:List PQ):Prop where
 arr:∀a∈aX,fH a.name
 fB:aX.length<=2
 some_:fs≠ []
 fns:fs.length<=3
 fn:∀q∈fs,fH q.nm/\q.np<=6/\q.nl<=5/\q.body.length<=4/\∀s∈q.body,ry (cW free) 4 free s
theorem XF (free:Bool) (W:World) (v:Value) (l:List Int) (hl:mA W v l) (hc:∃a c,v= .slice a l.length c/\l.length<=c):
  Calls Tryz.prog 14 #[v, .bool free] W λen w'=>∃(av fv:Value) (aX:List LA) (done:List FD) (pb nb nc:Nat),en= .returned (.agg #[av,fv])/\Bd free aX (done.map FD.q)/\W.heap.size<=pb/\oX pb nb w' av aX/\oD w' nb nc fv done/\nb<=nc/\pb<nb/\Below W W w':=by
 obtain⟨Q,hQ⟩:∃Q:Ending->World->Prop,Q=λen w'=>∃(av fv:Value) (aX:List LA) (done:List FD) (pb nb nc:Nat),en= .returned (.agg #[av,fv])/\Bd free aX (done.map FD.q)/\W.heap.size<=pb/\oX pb nb w' av aX/\oD w' nb nc fv done/\nb<=nc/\pb<nb/\Below W W w':=⟨_,rfl⟩;rw[<-hQ];have HQ:=aF hQ;clear hQ;obtain⟨a,c,rfl,hlc⟩:=hc;have hlt:∀n,n<=l.length->n<=1000000000->aP (·<W.heap.size) 1 yU W (.slice a n c) (l.take n):=λn h1 h2=>mA.take hl h1 h2;have⟨L,hL⟩:=xq l.length;rw[<-hL]at hlc hlt|-;have gD:=aF hlt;have tU:=aF hL;clear hl hlt hL;obtain⟨w1,hw1⟩:∃w1,w1=(W.alloc (.cells #[.slice none 0 0, .slice none 0 0] 27)).alloc (.cells #[.slice a L c, .int .i64 0] 61):=⟨_,rfl⟩;have dO:=hw1.symm;have aI:=aF (show Below W W w1 by rw[hw1];exact nR _ _ _);have bC:=aF (show Row w1 W 27 MX by rw[hw1];exact dV _ _ hn0);have hr2:Row w1 (W.heap.size+1) 61 [.slice a L c,I 0]:=by rw[hw1];exact jF aH
 have cB:=aF hr2;clear hw1 hr2;go_enter Tryz.func14,Tryz.ntmps14;go_upto_region 2 with(fail)
 rename_i KR uO K2 hK2;have hrest:∀(gX jf xy xD lB lC lD mj n_ og oh:Value) (w2:World),Below W W w2->Row w2 W 27 MX->Src (W.heap.size+1) w2->KR {tmps:= #[.slice a L c, .bool free,undef,undef, .pointer (some ⟨W.heap.size,0,none⟩), .pointer (some ⟨W.heap.size+1,0,none⟩),undef,undef,undef,undef,undef,undef,undef,undef,undef,gX,jf,xy,xD,lB,lC,lD,mj,n_,og,oh,undef,undef,undef,undef,undef,undef,undef,undef,undef,undef,undef,undef,undef,undef,undef,undef,undef,undef,undef,undef,undef,undef,undef,undef,undef,undef,undef,undef,undef,undef,undef,undef,undef,undef,undef,undef,undef,undef,undef,undef,undef,undef,undef,undef,undef,undef,undef,undef,undef,undef,undef,undef,undef,undef,undef,undef,undef,undef,undef,undef,undef,undef,undef,undef,undef,undef,undef,undef,undef,undef,undef,undef,undef,undef,undef,undef,undef,undef,undef,undef,undef,undef,undef,undef,undef,undef,undef,undef,undef,undef,undef,undef,undef,undef],defers:= []} w2:=by
  intro gX jf xy xD lB lC lD mj n_ og oh w2 hb2 hr2 hs2;refine uO _ _ ?_;clear uO hK2 KR K2;have hl2:=hs2.lt;have aM:=aF hb2;have kX:=aF hr2;have cu:=aF hs2;clear hb2 hr2 hs2 aI bC cB gD tU;go_upto_region 6 with(fail)
  obtain⟨w3,hw3⟩:∃w3,w3=(w2.alloc (.cells #[.slice none 0 0, .slice none 0 0, .slice none 0 0, .bool free, .bool false] 64)).alloc (.cells #[.slice none 0 0, .slice none 0 0] 27):=⟨_,rfl⟩;have hg3:w2.grownBy w3 none:=by rw[hw3];exact(cE _ _ none).trans iD
  have Iy:sG W w2 (w2.heap.size+1) (Jg free) MX w3:=by
   refine⟨aM.grown hg3 aM.size aJ,kX.kept hg3 aH, ?_, ?_,cu.kept hg3 aJ,hl2,Nat.lt_succ_self _⟩
   ·rw[hw3];exact dV _ _ hn0
   ·rw[hw3];exact jF aH
  rw[<-hw3];have⟨cb,hcb⟩:=xq w2.heap.size;have⟨pb,hpb⟩:=xq (w2.heap.size+1);rw[<-hpb,<-hcb]at Iy;rw[<-hpb,<-hcb];have apA:=Iy.lc;have apB:=Iy.lp;have VR:=Iy.lt;have fO:=aF Iy;clear hw3 hg3 Iy hcb hpb aM kX cu hl2;go_upto_region 7 with(go_at_call 25;refine(gY (W.heap.size+1) 3 w3 fO.src aG aG).mono ?_;rintro e w4⟨⟨r,rfl,b_,hr3⟩,hs4⟩;obtain⟨n1,rfl⟩:=j4 b_;have bH:=aF (fO.draw hs4);clear hs4 b_)
  go_loopg [8] n1 (λgh i wr=>∃k:Nat,gh=k/\i=I k/\Hid (k<=n1/\∃(aX:List LA) (eW:Value),aX.length+k=n1/\(∀x∈aX,fH x.name)/\sG W cb pb (Jg free) [eW, .slice none 0 0] wr/\a_ 2 68 sL wr (pb+1) eW aX))
  case atStart=>exact⟨n1,rfl,rfl,aF ⟨ay _,[],_,aH,aJ,bH.out,a_.nil⟩⟩
  case round=>
   obtain⟨k,hg,rfl,HH⟩:=hrel;obtain⟨wo,rfl⟩:=xq wr;obtain⟨hkn,aX,eW,cJ,hsz,iE,hown⟩:=HH.out;have gF:=aF iE;have HOWN:=aF hown;have cv:=aF cJ;have Qj:=aF hsz;clear HH iE hown cJ hsz;by_cases yF:0<k
   ·have TN:(0:Int)<(k:Int):=aG;have hk3:k<3:=aG;go_upto_region 9 with(fail)
    have iB:W.heap.size+1<wo.heap.size:=by have:=gF.lt;have:=gF.lc;have:=gF.lp;omega
    have ak2:SG (W.heap.size+1) wo wo:=⟨⟨rfl,rfl,rfl,ay _,λ_ _ _=>rfl⟩,gF.src⟩;refine(wpIn_wide (n:=8)).1 ?_;refine Np aL [11] aQ aL aL (λvs=>by kernel_rfl)
     (λst us X=>SG (W.heap.size+1) wo X/\match st with
      |0=>True
      |_=>∃g z:Nat,us 10= .pointer (some ⟨g,0,none⟩)/\wo.heap.size<=g/\Row X g 68 [S (tQ k),I z]/\1<=z/\z<=1000)
     (ju 68 (W.heap.size+1) wo)
     (λi v X=>match i with
      |0=>∃g,v= .slice (some ⟨g,0,none⟩) 3 3/\wo.heap.size<=g/\Row X g 9 [S ([97]:aK),S nB,S nC]
      |1=>v=I k
      |2=>∃g,v= .pointer (some ⟨g,k,none⟩)/\wo.heap.size<=g/\Row X g 9 [S ([97]:aK),S nB,S nC]
      |3=>v=S (tQ k)
      |4=>∃g,v= .slice (some ⟨g,0,none⟩) 4 4/\wo.heap.size<=g/\Row X g 3 [I 1,I 4,I 10,I 1000]
      |5=>v= .pointer (some ⟨W.heap.size+1,0,none⟩)
      |6=>∃r:Nat,v=I r/\r<4
      |7=>∃g r,v= .pointer (some ⟨g,r,none⟩)/\r<4/\wo.heap.size<=g/\Row X g 3 [I 1,I 4,I 10,I 1000]
      |8=>∃z:Nat,v=I z/\1<=z/\z<=1000
      |9=>∃z:Nat,v= .agg #[S (tQ k),I z]/\1<=z/\z<=1000
      |10=>∃(g:Nat) (cs:List Value),v= .pointer (some ⟨g,0,none⟩)/\wo.heap.size<=g/\cs.length=2/\Row X g 68 cs
      |_=>True) ?h0 ?hst ?hop ?hend
    case h0=>exact⟨⟨⟨rfl,rfl,rfl,ay _,λ_ _ _=>rfl⟩,gF.src⟩,trivial⟩
    case hst=>
     intro j v X X' hst cK
     match j,cK with
     |0,⟨g,h1,h2,h3⟩=>exact⟨g,h1,h2,hst.row h3 aQ h2 iB⟩
     |1,h=>exact h
     |2,⟨g,h1,h2,h3⟩=>exact⟨g,h1,h2,hst.row h3 aQ h2 iB⟩
     |3,h=>exact h
     |4,⟨g,h1,h2,h3⟩=>exact⟨g,h1,h2,hst.row h3 aQ h2 iB⟩
     |5,h=>exact h
     |6,h=>exact h
     |7,⟨g,r,h1,h0,h2,h3⟩=>exact⟨g,r,h1,h0,h2,hst.row h3 aQ h2 iB⟩
     |8,h=>exact h
     |9,h=>exact h
     |10,⟨g,cs,h1,h2,h4,h3⟩=>obtain⟨cs',h5,h6⟩:=hst.new g cs h2 h3;exact⟨g,cs',h1,h2,h5.trans h4,h6⟩
     |j+11,h=>trivial
    case hop=>
     refine⟨?_, ?_, ?_, ?_, ?_, ?_, ?_, ?_, ?_, ?_, ?_, ?_,trivial⟩
     ·rintro jD a W4 vs ho dm hC cK hsz hr;obtain rfl:=jE dm 0 aL aL;refine kZ ho rfl t20 jN (v:= .slice (some ⟨W4.heap.size,0,none⟩) 3 3) (W':=W4.alloc (.cells #[.string ⟨#[97]⟩, .string ⟨#[98]⟩, .string ⟨#[99]⟩] 9)) ?_ ⟨_,rfl,⟨hC.1.post iD iB aJ,trivial⟩,ju.al _ _ _ _ _ iB,_,rfl,hC.1.size,cj _ _⟩;go_simp
     ·rintro jD a W4 vs ho dm hC cK hsz hr;obtain rfl:=jE dm 0 aL aL;have r1:a.tmps.getD 8 undef=(I k):=(hr 8 ni).trans (show fu _ _ vs _ 8=(I k)from by kernel_rfl);refine kZ ho rfl t20 jN (v:=I k) (W':=W4) ?_ ⟨_,rfl,hC,ju.refl _ _ _ _ iB,rfl⟩;go_simp
     ·rintro jD a W4 vs ho dm hC cK hsz hr;obtain rfl:=jE dm 0 aL aL;have r1:a.tmps.getD 34 undef=vs 0:=(hr 34 ni).trans (show fu _ _ vs _ 34=vs 0 from by kernel_rfl);have r2:a.tmps.getD 35 undef=vs 1:=(hr 35 ni).trans (show fu _ _ vs _ 35=vs 1 from by kernel_rfl);obtain⟨g,hv0,hg0,hrow⟩:=cK 0 aL;have hv1:vs 1=I k:=cK 1 aL;rw[hv0]at r1;rw[hv1]at r2;have hkn: ¬(3:Int)<=k:=aG;refine kZ ho rfl t20 jN (v:= .pointer (some ⟨g,k,none⟩)) (W':=W4) ?_ ⟨_,rfl,hC,ju.refl _ _ _ _ iB,g,rfl,hg0,hrow⟩;go_simp
     ·rintro jD a W4 vs ho dm hC cK hsz hr;obtain rfl:=jE dm 0 aL aL;have r1:a.tmps.getD 36 undef=vs 2:=(hr 36 ni).trans (show fu _ _ vs _ 36=vs 2 from by kernel_rfl);obtain⟨g,hv2,hg0,hrow⟩:=cK 2 aL;rw[hv2]at r1;have ck:=(hrow.cell k).trans (aif yF hk3);refine kZ ho rfl t20 jN (v:=S (tQ k)) (W':=W4) ?_ ⟨_,rfl,hC,ju.refl _ _ _ _ iB,rfl⟩;go_simp
     ·rintro jD a W4 vs ho dm hC cK hsz hr;obtain rfl:=jE dm 0 aL aL;refine kZ ho rfl t20 jN (v:= .slice (some ⟨W4.heap.size,0,none⟩) 4 4) (W':=W4.alloc (.cells #[I 1,I 4,I 10,I 1000] 3)) ?_ ⟨_,rfl,⟨hC.1.post iD iB aJ,trivial⟩,ju.al _ _ _ _ _ iB,_,rfl,hC.1.size,cj _ _⟩;go_simp
     ·rintro jD a W4 vs ho dm hC cK hsz hr;obtain rfl:=jE dm 0 aL aL;have r1:a.tmps.getD 5 undef=(.pointer (some ⟨W.heap.size+1,0,none⟩)):=(hr 5 ni).trans (show fu _ _ vs _ 5=(.pointer (some ⟨W.heap.size+1,0,none⟩))from by kernel_rfl);refine kZ ho rfl t20 jN (v:= .pointer (some ⟨W.heap.size+1,0,none⟩)) (W':=W4) ?_ ⟨_,rfl,hC,ju.refl _ _ _ _ iB,rfl⟩;go_simp
     ·rintro jD a W4 vs ho dm hC cK hsz hr;obtain rfl:=jE dm 0 aL aL;have r1:a.tmps.getD 39 undef=_:=((hr 39 ni).trans (show fu _ _ vs _ 39=vs 5 from by kernel_rfl)).trans (cK 5 aL);refine Rn ho rfl t20 jN (f:=25) (args:= #[.pointer (some ⟨W.heap.size+1,0,none⟩),I 4]) (W':=W4) ?_ s8 (callsIn_wide.2 (gY (W.heap.size+1) 4 W4 hC.1.2 aG aG)) ?_
      ·go_simp
      ·rintro e w5⟨⟨r,rfl,b_,hr4⟩,hs5⟩;obtain⟨m,rfl⟩:=j4 b_;exact⟨I m,rfl,_,rfl,⟨hC.1.trans hs5,trivial⟩,ju.of hs5.1 iB,m,rfl,aG⟩
     ·rintro jD a W4 vs ho dm hC cK hsz hr;obtain rfl:=jE dm 0 aL aL;have r1:a.tmps.getD 38 undef=vs 4:=(hr 38 ni).trans (show fu _ _ vs _ 38=vs 4 from by kernel_rfl);have r2:a.tmps.getD 40 undef=vs 6:=(hr 40 ni).trans (show fu _ _ vs _ 40=vs 6 from by kernel_rfl);obtain⟨g,hv4,hg0,hrow⟩:=cK 4 aL;obtain⟨m,GG,Qk⟩:=cK 6 aL;rw[hv4]at r1;rw[GG]at r2;have ak3:(m:Int)<4:=aG;have hkn: ¬(4:Int)<=m:=aG;refine kZ ho rfl t20 jN (v:= .pointer (some ⟨g,m,none⟩)) (W':=W4) ?_ ⟨_,rfl,hC,ju.refl _ _ _ _ iB,g,m,rfl,Qk,hg0,hrow⟩;go_simp
     ·rintro jD a W4 vs ho dm hC cK hsz hr;obtain rfl:=jE dm 0 aL aL;have r1:a.tmps.getD 41 undef=vs 7:=(hr 41 ni).trans (show fu _ _ vs _ 41=vs 7 from by kernel_rfl);obtain⟨g,m,MZ,Qk,hg0,hrow⟩:=cK 7 aL;rw[MZ]at r1;obtain⟨z,hz1,hz2,hz⟩:=aih Qk;have ck:=(hrow.cell m).trans hz;refine kZ ho rfl t20 jN (v:=I z) (W':=W4) ?_ ⟨_,rfl,hC,ju.refl _ _ _ _ iB,z,rfl,hz1,hz2⟩;go_simp
     ·rintro jD a W4 vs ho dm hC cK hsz hr;obtain rfl:=jE dm 0 aL aL;have r1:a.tmps.getD 37 undef=vs 3:=(hr 37 ni).trans (show fu _ _ vs _ 37=vs 3 from by kernel_rfl);have r2:a.tmps.getD 42 undef=vs 8:=(hr 42 ni).trans (show fu _ _ vs _ 42=vs 8 from by kernel_rfl);have hv3:vs 3=S (tQ k):=cK 3 aL;obtain⟨z,M0,hz1,hz2⟩:=cK 8 aL;rw[hv3]at r1;rw[M0]at r2;have h37:37<a.tmps.size:=by rw[hsz];simp
      have h42:42<a.tmps.size:=by rw[hsz];simp
      have q1:a.tmps[37]=S (tQ k):=by simpa [Array.getD,h37]using r1
      have q2:a.tmps[42]=I z:=by simpa [Array.getD,h42]using r2
      refine kZ ho rfl t20 jN (v:= .agg #[S (tQ k),I z]) (W':=W4) ?_ ⟨_,rfl,hC,ju.refl _ _ _ _ iB,z,rfl,hz1,hz2⟩;go_simp
     ·rintro jD a W4 vs ho dm hC cK hsz hr;obtain rfl:=jE dm 0 aL aL;refine kZ ho rfl t20 jN (v:= .pointer (some ⟨W4.heap.size,0,none⟩)) (W':=W4.alloc (.cells #[.string ⟨#[]⟩, .int .i64 0] 68)) ?_ ⟨_,rfl,⟨hC.1.post iD iB aJ,trivial⟩,ju.al _ _ _ _ _ iB,_,[S [],I 0],rfl,hC.1.size,rfl,cj _ _⟩;go_simp
     ·rintro jD a W4 vs ho dm hC cK hsz hr;obtain rfl:=jE dm 0 aL aL;have r1:a.tmps.getD 9 undef=vs 10:=(hr 9 ni).trans (show fu _ _ vs _ 9=vs 10 from by kernel_rfl);have r2:a.tmps.getD 43 undef=vs 9:=(hr 43 ni).trans (show fu _ _ vs _ 43=vs 9 from by kernel_rfl);obtain⟨g,cs,LJ,hg0,hcs,hrow⟩:=cK 10 aL;obtain⟨z,tj,hz1,hz2⟩:=cK 9 aL;rw[LJ]at r1;rw[tj]at r2;refine ZF ho rfl 68 (.tmp 9) (.tmp 43) rfl g [S (tQ k),I z] r1 r2 68 cs hrow aL hcs sv0 ⟨_,rfl,⟨hC.1.post bJ iB (λr e=>by cases e;exact hg0),g,z,LJ,hg0,setRow_heap _ _ _ _ _ _ hrow,hz1,hz2⟩,ju.set hrow hcs.symm,trivial⟩
    case hend=>
     rintro us X⟨d_,g,z,LJ,f_,hrow,hz1,hz2⟩ cK;simp only[E9,Act.put,List.setIfInBounds_toArray,List.set_cons_zero,List.set_cons_succ,Nat.zero_add,Nat.reduceAdd];rw[LJ];clear cK LJ ak2;generalize us 0=y0;generalize us 1=y1;generalize us 2=y2;generalize us 3=y3;generalize us 4=y4;generalize us 5=y5;generalize us 6=y6;generalize us 7=y7;generalize us 8=y8;generalize us 9=y9
     cases free with
     |false=>
      have jU:=aF (gF.draw d_);have Jh:=aF (j0 HOWN.out d_.1 (by
       cases hv:eW.ownBlock with
       |none=>exact .inl rfl
       |some q=>
        right;intro e;have:=(cO HOWN.out q hv).1;have:=gF.lc;have:=gF.lp;have:q=W.heap.size+1:=Option.some.inj e;omega))
      have Mu:=aF (aij yF hk3);have c0:=hrow.k0;have c1:=hrow.k1;have p0:=jU.p.k0;clear d_ hrow;obtain⟨o5,fT⟩:∃o:Obj,o= .cells #[S (tQ k),I (z:Int)] 68:=⟨_,rfl⟩;have cD:X.grownBy (X.alloc o5) none:=cE _ _ none;have jX:=aF (show Row (X.alloc o5) X 68 [S (tQ k),I (z:Int)] by rw[fT];exact cj _ _);have dQ:=aF (show a_ 2 68 sL (X.alloc o5) (pb+1) eW aX from a_.tag Jh.out cD eF);have dW:=aF (jU.kept cD aJ);have xY:pb+1<=(X.alloc o5).heap.size:=dW.lt;have hll:aX.length<=1000000000:=by have:=cv.out;omega
      rw[fT]at jX dQ dW xY;clear fT cD;go_wp2_with (at_builtin;go_loud (refine lX Kf rfl _ _ rfl Hj JM (pb+1) eW aX rfl dQ.out X.heap.size ⟨tQ k,(z:Int)⟩ rfl (λj hj=>(cell_of_block jX.out j).trans (by simp [sL])) hll aQ xY ?_);intro g' cap w6 dY bG fy lZ;have gK:=aF dY;have fD:=aF (dW.kept bG (λr e=>by have:=(cO dQ.out r e).1;omega));clear dY bG fy lZ p0;have f0:=fD.p.frozen 0;have p0:=fD.p.cell 0;simp only[af]at p0)
      go_roundg (k - 1)
      case measure=>omega
      case rel=>
       refine⟨k - 1,rfl,(by rw[show((k - 1:Nat):Int)=(k:Int) - 1 by omega]),aF ⟨aG,aX++ [⟨tQ k,(z:Int)⟩],_, ?_, ?_,fD.TP 0 _, ?_⟩⟩
       ·have:=cv.out;simp only[ax,aq,au];omega
       ·intro x hx;rcases List.mem_append.1 hx with hx|hx
        ·exact Qj x hx
        ·obtain rfl:=ai hx;exact Mu.out
       ·have h6:a_ 2 68 sL w6 (pb+1) (.slice (some ⟨g',0,none⟩) (aX.length+1) cap) (aX++ [⟨tQ k,(z:Int)⟩]):=gK.out;refine j0 h6 (bO _ _ _ _) (.inr λe=> ?_);have h7:=(cO h6 g' rfl).1;have h8:g'=pb:=Option.some.inj e;omega
     |true=>
      have mK:=aF d_;have Iz:=aF (gF.draw d_);have CV:=aF hrow;have AK:=aF (QH true false (W.heap.size+1) X (.slice none 0 0) (.slice none 0 0) (.slice none 0 0) [] d_.2 (aP.nil _ _ _ _) (.inl rfl));have z0:=Iz.c.cell 0;have z1:=Iz.c.cell 1;have z2:=Iz.c.cell 2;have z3:=Iz.c.cell 3;have z4:=Iz.c.cell 4;simp only[Jg,af,ag]at z0 z1 z2 z3 z4;have jg:W.heap.size+1≠g:=by have:=gF.lt;have:=gF.lc;have:=gF.lp;omega
      clear d_ hrow;go_upto_region 12 with(first|(go_at_call 29;refine AK.mono ?_;rintro e w2x⟨⟨xn,zn,rfl, -,qA⟩,hs2⟩;have Mu:=aF (qA rfl);have cu:=aF (mK.out.trans hs2);have gJ:=aF (hs2.row CV.out (λe=>jg e.symm));clear hs2 qA z0 z1 z2 z3 z4)|(refine sr 68 (.tmp 9) (.tmp 47) g #[S (tQ k),I z] gJ.out ?_))
      have⟨X,hX⟩:=xq (w2x.setRow g #[S xn,I zn]);have d_:SG (W.heap.size+1) wo X:=by rw[hX];exact cu.post bJ iB (λr e=>by cases e;exact f_)
      have hrow:Row X g 68 [S xn,I zn]:=by rw[hX];exact setRow_heap _ _ _ _ _ _ gJ.out
      rw[<-hX];have jU:=aF (gF.draw d_);have Jh:=aF (j0 HOWN.out d_.1 (by
       cases hv:eW.ownBlock with
       |none=>exact .inl rfl
       |some q=>
        right;intro e;have:=(cO HOWN.out q hv).1;have:=gF.lc;have:=gF.lp;have:q=W.heap.size+1:=Option.some.inj e;omega))
      clear hX CV gJ Iz;have c0:=hrow.k0;have c1:=hrow.k1;have p0:=jU.p.k0;clear d_ hrow;obtain⟨o5,fT⟩:∃o:Obj,o= .cells #[S xn,I zn] 68:=⟨_,rfl⟩;have cD:X.grownBy (X.alloc o5) none:=cE _ _ none;have jX:=aF (show Row (X.alloc o5) X 68 [S xn,I zn] by rw[fT];exact cj _ _);have dQ:=aF (show a_ 2 68 sL (X.alloc o5) (pb+1) eW aX from a_.tag Jh.out cD eF);have dW:=aF (jU.kept cD aJ);have xY:pb+1<=(X.alloc o5).heap.size:=dW.lt;have hll:aX.length<=1000000000:=by have:=cv.out;omega
      rw[fT]at jX dQ dW xY;clear fT cD;go_wp2_with (at_builtin;go_loud (refine lX Kf rfl _ _ rfl Hj JM (pb+1) eW aX rfl dQ.out X.heap.size ⟨xn,zn⟩ rfl (λj hj=>(cell_of_block jX.out j).trans (by simp [sL])) hll aQ xY ?_);intro g' cap w6 dY bG fy lZ;have gK:=aF dY;have fD:=aF (dW.kept bG (λr e=>by have:=(cO dQ.out r e).1;omega));clear dY bG fy lZ p0;have f0:=fD.p.frozen 0;have p0:=fD.p.cell 0;simp only[af]at p0)
      go_roundg (k - 1)
      case measure=>omega
      case rel=>
       refine⟨k - 1,rfl,(by rw[show((k - 1:Nat):Int)=(k:Int) - 1 by omega]),aF ⟨aG,aX++ [⟨xn,zn⟩],_, ?_, ?_,fD.TP 0 _, ?_⟩⟩
       ·have:=cv.out;simp only[ax,aq,au];omega
       ·intro x hx;rcases List.mem_append.1 hx with hx|hx
        ·exact Qj x hx
        ·obtain rfl:=ai hx;exact Mu.out
       ·have h6:a_ 2 68 sL w6 (pb+1) (.slice (some ⟨g',0,none⟩) (aX.length+1) cap) (aX++ [⟨xn,zn⟩]):=gK.out;refine j0 h6 (bO _ _ _ _) (.inr λe=> ?_);have h7:=(cO h6 g' rfl).1;have h8:g'=pb:=Option.some.inj e;omega
   ·have TN: ¬(0:Int)<(k:Int):=aG;have VS:k=0:=aG;subst VS;obtain⟨aa,ac,rfl⟩:=HOWN.slice;have har:oX pb wo wo (.slice aa aX.length ac) aX:=⟨HOWN.out,λg hg=>(cO HOWN.out g hg).2⟩;have apC:n1<3:=aG;have jM:=aF (show aX.length<=2 by have:=cv.out;omega);have⟨NA,nN⟩:=xq aX.length;rw[<-nN]at har gF;have mV:=aF har;have Gg:=aF nN;have p0:=gF.p.cell 0;have f1:=gF.c.frozen 1;have q1:=gF.c.cell 1;simp only[Jg,af,ag]at p0 q1;clear har nN HOWN cv;go_upto_region 14 with(fail)
    have⟨w7,cT⟩:=xq (wo.setCell ⟨cb,1,none⟩ (.slice aa NA ac));have rD:wo.grownBy w7 (some cb):=by rw[cT];exact bO _ _ _ _
    have TQ:=gF.TR 1 (.slice aa NA ac);rw[<-cT]at TQ|-;have Ga:wo.heap.size<=w7.heap.size:=rD.size;have sY:=aF TQ;have aaN:=aF (show oX pb w7 w7 (.slice aa NA ac) aX from(mV.grown rD bh i20).le aG);have c2:=sY.c.cell 2;simp only[Jg,List.set_cons_zero,List.set_cons_succ,af,ag]at c2;clear p0 f1 q1 cT rD TQ Ga mV gF;have AL:pb<w7.heap.size:=sY.lt;obtain⟨o8,qd⟩:∃o:Obj,o= .cells #[S dX, .slice none 0 0, .slice none 0 0, .slice none 0 0] 52:=⟨_,rfl⟩;have VT:=aF (show Row (w7.alloc o8) w7 52 (pR N5) by rw[qd];exact cj _ _);have qR:=aF (sY.kept (cE w7 o8 none) aJ);have TS:=aF (show oX pb w7 (w7.alloc o8) (.slice aa NA ac) aX from aaN.grown (cE w7 o8 none) aJ i20);rw[qd]at VT qR TS;clear qd aaN;go_upto_region 15 with(at_builtin;refine lX N8 rfl _ _ rfl JJ Q0 w7.heap.size (.slice none 0 0) [] rfl a_.nil w7.heap.size N5 rfl (λj hj=>(cell_of_block VT.out j).trans (by simp [pR])) aH aQ aH ?_;intro g' cap w9 jB f_ OP aaO;have Mz:=aF (oD.app (oD.nil w7 fQ) (XD w7 none) aJ (afh _ _) jB f_ rfl OP);have tS:=aF (qR.kept f_ aJ);have TT:=aF (TS.grown f_ aJ i20);clear jB f_ OP aaO c2;have f2:=tS.c.frozen 2;have c2:=tS.c.cell 2;simp only[Jg,List.set_cons_zero,List.set_cons_succ,af,ag]at c2)
    have⟨wA,Dl⟩:=xq (w9.setCell ⟨cb,2,none⟩ (.slice (some ⟨g',0,none⟩) 1 cap));have sH:w9.grownBy wA (some cb):=by rw[Dl];exact bO _ _ _ _
    have VU:=tS.TR 2 (.slice (some ⟨g',0,none⟩) 1 cap);rw[<-Dl]at VU|-;have⟨nb,hnb⟩:=xq w7.heap.size;rw[<-hnb]at Mz TT AL;have o_:=aF VU;have jR:=aF (Mz.grown sH bh);have aaP:=aF (show oX pb nb wA (.slice aa NA ac) aX from TT.grown sH bh i20);clear c2 f2 Dl sH VU hnb tS Mz TT qR TS VT sY;go_upto_region 16 with(go_at_call 25;refine(gY (W.heap.size+1) 3 wA o_.src aG aG).mono ?_;rintro e wB⟨⟨r,rfl,b_,hr3⟩,qB⟩;obtain⟨n2,rfl⟩:=j4 b_;have nr:=aF (o_.draw qB);have oH:=aF (jR.grown qB.1 bh);have aaQ:=aF (show oX pb nb wB (.slice aa NA ac) aX from aaP.grown qB.1 bh i20);clear qB b_)
    clear o_ jR aaP;go_loopg [10] n2 (λgh i wr=>∃k:Nat,gh=k/\i=I k/\Hid (k<=n2/\∃(hs:List FD) (EF:Value),hs.length+k=n2+1/\(∀p∈hs,p.q.np<=6/\fH p.q.nm)/\sG W cb pb [.slice none 0 0, .slice aa NA ac,EF, .bool free, .bool false] [.slice aa NA ac, .slice none 0 0] wr/\oD wr nb nb EF hs/\oX pb nb wr (.slice aa NA ac) aX))
    case atStart=>exact⟨n2,rfl,rfl,aF ⟨ay _,[N5],_,ct,(λx hx=>by obtain rfl:=ai hx;exact⟨aQ,ahG⟩),nr.out,oH.out,aaQ.out⟩⟩
    case round=>
     obtain⟨k,hg,rfl,HH⟩:=hrel;obtain⟨vQ,rfl⟩:=xq wr;obtain⟨hkn,hs,EF,cJ,hfw,iE,hfn,harr⟩:=HH.out;have gF:=aF iE;have eT:=aF hfn;have cv:=aF cJ;have AO:=aF hfw;have IA:=aF harr;clear HH iE hfn cJ hfw harr nr oH aaQ;by_cases yF:0<k
     ·have TN:(0:Int)<(k:Int):=aG;have hk3:k<3:=aG;go_upto_region 18 with(fail)
      have iB:W.heap.size+1<vQ.heap.size:=by have:=gF.lt;have:=gF.lc;have:=gF.lp;omega
      refine(wpIn_wide (n:=8)).1 ?_;refine Np aL [10] aQ aL aL (λvs=>by kernel_rfl)
       (λst us X=>SG (W.heap.size+1) vQ X/\match st with
        |0=>True
        |_=>∃g g2 r:Nat,us 9= .pointer (some ⟨g,0,none⟩)/\vQ.heap.size<=g/\Row X g 52 [S (wW k), .slice (some ⟨g2,0,none⟩) r 6, .slice none 0 0, .slice none 0 0]/\r<=6/\vQ.heap.size<=g2/\Row X g2 9 (pq.map S))
       (ju 52 (W.heap.size+1) vQ)
       (λi v X=>match i with
        |0=>∃g,v= .slice (some ⟨g,0,none⟩) 3 3/\vQ.heap.size<=g/\Row X g 9 [S ([102]:aK),S nG,S nH]
        |1=>v=I k
        |2=>∃g,v= .pointer (some ⟨g,k,none⟩)/\vQ.heap.size<=g/\Row X g 9 [S ([102]:aK),S nG,S nH]
        |3=>v=S (wW k)
        |4=>∃g,v= .slice (some ⟨g,0,none⟩) 6 6/\vQ.heap.size<=g/\Row X g 9 (pq.map S)
        |5=>v= .pointer (some ⟨W.heap.size+1,0,none⟩)
        |6=>∃r:Nat,v=I r/\r<7
        |7=>∃g r:Nat,v= .slice (some ⟨g,0,none⟩) r 6/\r<=6/\vQ.heap.size<=g/\Row X g 9 (pq.map S)
        |8=>∃g r:Nat,v= .agg #[S (wW k), .slice (some ⟨g,0,none⟩) r 6, .slice none 0 0, .slice none 0 0]/\r<=6/\vQ.heap.size<=g/\Row X g 9 (pq.map S)
        |9=>∃(g:Nat) (cs:List Value),v= .pointer (some ⟨g,0,none⟩)/\vQ.heap.size<=g/\cs.length=4/\Row X g 52 cs
        |_=>True) ?h0 ?hst ?hop ?hend
      case h0=>exact⟨⟨⟨rfl,rfl,rfl,ay _,λ_ _ _=>rfl⟩,gF.src⟩,trivial⟩
      case hst=>
       intro j v X X' hst cK
       match j,cK with
       |0,⟨g,h1,h2,h3⟩=>exact⟨g,h1,h2,hst.row h3 aQ h2 iB⟩
       |1,h=>exact h
       |2,⟨g,h1,h2,h3⟩=>exact⟨g,h1,h2,hst.row h3 aQ h2 iB⟩
       |3,h=>exact h
       |4,⟨g,h1,h2,h3⟩=>exact⟨g,h1,h2,hst.row h3 aQ h2 iB⟩
       |5,h=>exact h
       |6,h=>exact h
       |7,⟨g,r,h1,h0,h2,h3⟩=>exact⟨g,r,h1,h0,h2,hst.row h3 aQ h2 iB⟩
       |8,⟨g,r,h1,h0,h2,h3⟩=>exact⟨g,r,h1,h0,h2,hst.row h3 aQ h2 iB⟩
       |9,⟨g,cs,h1,h2,h4,h3⟩=>obtain⟨cs',h5,h6⟩:=hst.new g cs h2 h3;exact⟨g,cs',h1,h2,h5.trans h4,h6⟩
       |j+10,h=>trivial
      case hop=>
       refine⟨?_, ?_, ?_, ?_, ?_, ?_, ?_, ?_, ?_, ?_, ?_,trivial⟩
       ·rintro jD a W4 vs ho dm hC cK hsz hr;obtain rfl:=jE dm 0 aL aL;refine kZ ho rfl t20 jN (v:= .slice (some ⟨W4.heap.size,0,none⟩) 3 3) (W':=W4.alloc (.cells #[.string ⟨#[102]⟩, .string ⟨#[103]⟩, .string ⟨#[104]⟩] 9)) ?_ ⟨_,rfl,⟨hC.1.post iD iB aJ,trivial⟩,ju.al _ _ _ _ _ iB,_,rfl,hC.1.size,cj _ _⟩;go_simp
       ·rintro jD a W4 vs ho dm hC cK hsz hr;obtain rfl:=jE dm 0 aL aL;have r1:a.tmps.getD 10 undef=(I k):=(hr 10 ni).trans (show fu _ _ vs _ 10=(I k)from by kernel_rfl);refine kZ ho rfl t20 jN (v:=I k) (W':=W4) ?_ ⟨_,rfl,hC,ju.refl _ _ _ _ iB,rfl⟩;go_simp
       ·rintro jD a W4 vs ho dm hC cK hsz hr;obtain rfl:=jE dm 0 aL aL;have r1:a.tmps.getD 69 undef=vs 0:=(hr 69 ni).trans (show fu _ _ vs _ 69=vs 0 from by kernel_rfl);have r2:a.tmps.getD 70 undef=vs 1:=(hr 70 ni).trans (show fu _ _ vs _ 70=vs 1 from by kernel_rfl);obtain⟨g,hv0,hg0,hrow⟩:=cK 0 aL;have hv1:vs 1=I k:=cK 1 aL;rw[hv0]at r1;rw[hv1]at r2;have hkn: ¬(3:Int)<=k:=aG;refine kZ ho rfl t20 jN (v:= .pointer (some ⟨g,k,none⟩)) (W':=W4) ?_ ⟨_,rfl,hC,ju.refl _ _ _ _ iB,g,rfl,hg0,hrow⟩;go_simp
       ·rintro jD a W4 vs ho dm hC cK hsz hr;obtain rfl:=jE dm 0 aL aL;have r1:a.tmps.getD 71 undef=vs 2:=(hr 71 ni).trans (show fu _ _ vs _ 71=vs 2 from by kernel_rfl);obtain⟨g,hv2,hg0,hrow⟩:=cK 2 aL;rw[hv2]at r1;have ck:=(hrow.cell k).trans (aie yF hk3);refine kZ ho rfl t20 jN (v:=S (wW k)) (W':=W4) ?_ ⟨_,rfl,hC,ju.refl _ _ _ _ iB,rfl⟩;go_simp
       ·rintro jD a W4 vs ho dm hC cK hsz hr;obtain rfl:=jE dm 0 aL aL;refine kZ ho rfl t20 jN (v:= .slice (some ⟨W4.heap.size,0,none⟩) 6 6) (W':=W4.alloc (.cells #[.string ⟨#[112]⟩, .string ⟨#[113]⟩, .string ⟨#[114]⟩, .string ⟨#[115]⟩, .string ⟨#[116]⟩, .string ⟨#[117]⟩] 9)) ?_ ⟨_,rfl,⟨hC.1.post iD iB aJ,trivial⟩,ju.al _ _ _ _ _ iB,_,rfl,hC.1.size,cj _ _⟩;go_simp
       ·rintro jD a W4 vs ho dm hC cK hsz hr;obtain rfl:=jE dm 0 aL aL;have r1:a.tmps.getD 5 undef=(.pointer (some ⟨W.heap.size+1,0,none⟩)):=(hr 5 ni).trans (show fu _ _ vs _ 5=(.pointer (some ⟨W.heap.size+1,0,none⟩))from by kernel_rfl);refine kZ ho rfl t20 jN (v:= .pointer (some ⟨W.heap.size+1,0,none⟩)) (W':=W4) ?_ ⟨_,rfl,hC,ju.refl _ _ _ _ iB,rfl⟩;go_simp
       ·rintro jD a W4 vs ho dm hC cK hsz hr;obtain rfl:=jE dm 0 aL aL;have r1:a.tmps.getD 74 undef=_:=((hr 74 ni).trans (show fu _ _ vs _ 74=vs 5 from by kernel_rfl)).trans (cK 5 aL);refine Rn ho rfl t20 jN (f:=25) (args:= #[.pointer (some ⟨W.heap.size+1,0,none⟩),I 7]) (W':=W4) ?_ s8 (callsIn_wide.2 (gY (W.heap.size+1) 7 W4 hC.1.2 aG aG)) ?_
        ·go_simp
        ·rintro e w5⟨⟨r,rfl,b_,hr4⟩,hs5⟩;obtain⟨m,rfl⟩:=j4 b_;exact⟨I m,rfl,_,rfl,⟨hC.1.trans hs5,trivial⟩,ju.of hs5.1 iB,m,rfl,aG⟩
       ·rintro jD a W4 vs ho dm hC cK hsz hr;obtain rfl:=jE dm 0 aL aL;have r1:a.tmps.getD 73 undef=vs 4:=(hr 73 ni).trans (show fu _ _ vs _ 73=vs 4 from by kernel_rfl);have r2:a.tmps.getD 75 undef=vs 6:=(hr 75 ni).trans (show fu _ _ vs _ 75=vs 6 from by kernel_rfl);obtain⟨g,hv4,hg0,hrow⟩:=cK 4 aL;obtain⟨m,GG,Qk⟩:=cK 6 aL;rw[hv4]at r1;rw[GG]at r2;have ak3:(m:Int)<=6:=aG;have hkn: ¬(6:Int)<m:=aG;have apD: ¬(m:Int)<0:=aG;refine kZ ho rfl t20 jN (v:= .slice (some ⟨g,0,none⟩) m 6) (W':=W4) ?_ ⟨_,rfl,hC,ju.refl _ _ _ _ iB,g,m,rfl,aG,hg0,hrow⟩;go_simp
       ·rintro jD a W4 vs ho dm hC cK hsz hr;obtain rfl:=jE dm 0 aL aL;have r1:a.tmps.getD 72 undef=vs 3:=(hr 72 ni).trans (show fu _ _ vs _ 72=vs 3 from by kernel_rfl);have r2:a.tmps.getD 76 undef=vs 7:=(hr 76 ni).trans (show fu _ _ vs _ 76=vs 7 from by kernel_rfl);have hv3:vs 3=S (wW k):=cK 3 aL;obtain⟨g,r,MZ,dU,hg0,hrow⟩:=cK 7 aL;rw[hv3]at r1;rw[MZ]at r2;have h72:72<a.tmps.size:=by rw[hsz];simp
        have h76:76<a.tmps.size:=by rw[hsz];simp
        have q1:a.tmps[72]=S (wW k):=by simpa [Array.getD,h72]using r1
        have q2:a.tmps[76]= .slice (some ⟨g,0,none⟩) r 6:=by simpa [Array.getD,h76]using r2
        refine kZ ho rfl t20 jN (v:= .agg #[S (wW k), .slice (some ⟨g,0,none⟩) r 6, .slice none 0 0, .slice none 0 0]) (W':=W4) ?_ ⟨_,rfl,hC,ju.refl _ _ _ _ iB,g,r,rfl,dU,hg0,hrow⟩;go_simp
       ·rintro jD a W4 vs ho dm hC cK hsz hr;obtain rfl:=jE dm 0 aL aL;refine kZ ho rfl t20 jN (v:= .pointer (some ⟨W4.heap.size,0,none⟩)) (W':=W4.alloc (.cells #[.string ⟨#[]⟩, .slice none 0 0, .slice none 0 0, .slice none 0 0] 52)) ?_ ⟨_,rfl,⟨hC.1.post iD iB aJ,trivial⟩,ju.al _ _ _ _ _ iB,_,[S [], .slice none 0 0, .slice none 0 0, .slice none 0 0],rfl,hC.1.size,rfl,cj _ _⟩;go_simp
       ·rintro jD a W4 vs ho dm hC cK hsz hr;obtain rfl:=jE dm 0 aL aL;have r1:a.tmps.getD 11 undef=vs 9:=(hr 11 ni).trans (show fu _ _ vs _ 11=vs 9 from by kernel_rfl);have r2:a.tmps.getD 77 undef=vs 8:=(hr 77 ni).trans (show fu _ _ vs _ 77=vs 8 from by kernel_rfl);obtain⟨g,cs,tj,hg0,hcs,hrow⟩:=cK 9 aL;obtain⟨g2,r,M0,dU,hg2,hrow2⟩:=cK 8 aL;rw[tj]at r1;rw[M0]at r2;have hne:g2≠g:=λe=>by
         subst e;unfold Row at hrow hrow2;rw[hrow]at hrow2;simp only[Option.some.injEq,Obj.cells.injEq]at hrow2;exact absurd hrow2.2.1 aQ
        refine ZF ho rfl 52 (.tmp 11) (.tmp 77) rfl g [S (wW k), .slice (some ⟨g2,0,none⟩) r 6, .slice none 0 0, .slice none 0 0] r1 r2 52 cs hrow aL hcs sv0 ⟨_,rfl,⟨hC.1.post bJ iB (λr e=>by cases e;exact hg0),g,g2,r,tj,hg0,setRow_heap _ _ _ _ _ _ hrow,dU,hg2,hrow2.kept bJ (λe=>hne (Option.some.inj e))⟩,ju.set hrow hcs.symm,trivial⟩
      case hend=>
       rintro us X⟨d_,g,g2,r,tj,f_,hrow,dU,hg2,hrow2⟩ cK;simp only[E9,Act.put,List.setIfInBounds_toArray,List.set_cons_zero,List.set_cons_succ,Nat.zero_add,Nat.reduceAdd];rw[tj];clear cK tj;generalize us 0=y0;generalize us 1=y1;generalize us 2=y2;generalize us 3=y3;generalize us 4=y4;generalize us 5=y5;generalize us 6=y6;generalize us 7=y7;generalize us 8=y8;have hsX:=d_.size;have mK:=aF d_;have jU:=aF (gF.draw d_);have ak4:=aF (show oX pb nb X (.slice aa NA ac) aX from IA.grown d_.1 bh i20);have sx:=aF (eT.grown d_.1 bh);have apE:=aF hrow2;have c0:=hrow.k0;have c1:=hrow.k1;have c2:=hrow.k2;have c3:=hrow.k3;have q2:=jU.c.k2;obtain⟨y,hy⟩:∃y:FD,y=⟨⟨wW k,r,0,[]⟩,some ⟨g2,0,none⟩,6,none,0,none,0⟩:=⟨_,rfl⟩;obtain⟨o5,fT⟩:∃o:Obj,o= .cells #[S (wW k), .slice (some ⟨g2,0,none⟩) r 6, .slice none 0 0, .slice none 0 0] 52:=⟨_,rfl⟩;have cD:X.grownBy (X.alloc o5) none:=cE _ _ none;have jX:=aF (show Row (X.alloc o5) X 52 (pR y) by rw[fT,hy];exact cj _ _);have dQ:=aF (show a_ 4 52 pR (X.alloc o5) nb EF hs from a_.tag sx.2.1 cD eF);have dW:=aF (jU.kept cD aJ);have aaR:=aF (show oX pb nb (X.alloc o5) (.slice aa NA ac) aX from ak4.grown cD aJ i20);have apF:nb<=vQ.heap.size:=by
        obtain⟨y0,hy0⟩:∃y0,y0∈hs:=by
         cases hs with
         |nil=>exact absurd cv.out ct
         |cons a l=>exact⟨a,aH⟩
        rcases eT.2.1.2 with⟨_,h0⟩|⟨g0,_,_,_,h1,h2,_⟩
        ·exact absurd (List.length_eq_zero_iff.1 h0) (List.ne_nil_of_mem hy0)
        ·have:=(aD h2).1;omega
       have xY:nb<=(X.alloc o5).heap.size:=by rw[World.size_alloc];omega
       have hll:hs.length<=1000000000:=by have:=cv.out;omega
       have Ji:=aF (show tJ (λb=>nb<=b/\b<X.heap.size/\EF.ownBlock≠some b) X y by
        have h1:=eT.2.1;have hb2:nb<=g2/\g2<X.heap.size/\EF.ownBlock≠some g2:=⟨aG,hrow2.lt,λe=>by have:=(cO h1 _ e).2;omega⟩;rw[hy];exact⟨Hr hrow2 hb2 dU aQ,aP.nil _ _ _ _,0,aP.nil _ _ _ _⟩)
       rw[fT]at jX dQ dW xY aaR;have HYN:=aF (show y.q.nm=wW k/\y.q.np<=6 by rw[hy];exact⟨rfl,dU⟩);clear fT cD hy d_ hrow hrow2;go_wp2_with (at_builtin;refine lX N8 rfl _ _ rfl JJ Q0 nb EF hs rfl dQ.out X.heap.size y rfl (λj hj=>cell_of_block jX.out j|>.trans aH) hll aQ xY ?_;intro g' cap w6 dY bG fy lZ;have Aw:=aF (oD.app sx.out (XD X none) aJ Ji.out dY bG rfl fy);have Fe:∀r,EF.ownBlock=some r->nb<=r:=(λr e=>(cO dQ.out r e).1);have fD:=aF (dW.kept bG (λr e=>by have:=Fe r e;omega));have ak5:=aF (aaR.grown bG (λr e hb=>by have:=Fe r e;omega) i20);clear dY bG fy lZ q2 c0 c1 c2 c3 Fe;have f2:=fD.c.frozen 2;have q2:=fD.c.k2)
       go_roundg (k - 1)
       case measure=>omega
       case rel=>
        have VV:=bO w6 cb 2 (.slice (some ⟨g',0,none⟩) (hs.length+1) cap);refine⟨k - 1,rfl,(by rw[show((k - 1:Nat):Int)=(k:Int) - 1 by omega]),aF ⟨aG,hs++ [y],_, ?_, ?_,fD.TR 2 _,Aw.grown VV bh,ak5.grown VV bh i20⟩⟩
        ·have:=cv.out;simp only[ax,aq,au];omega
        ·intro x hx;rcases List.mem_append.1 hx with hx|hx
         ·exact AO x hx
         ·obtain rfl:=ai hx;exact⟨HYN.2,by rw[HYN.1];exact aii yF hk3⟩
     ·have TN: ¬(0:Int)<(k:Int):=aG;have VS:k=0:=aG;subst VS;go_upto_region 20 with(fail)
      have hll:hs.length<=3:=by have:=cv.out;omega
      have TU:hs≠ []:=λe=>by have:=cv.out;rw[e]at this;simp at this
      have HH0:=aF TU;have akO:nb<=vQ.heap.size:=by
       rcases eT.2.1.2 with⟨_,h0⟩|⟨g0,_,_,_,h1,h2,_⟩
       ·exact absurd (List.length_eq_zero_iff.1 h0) TU
       ·have:=(aD h2).1;omega
      obtain⟨fa,fc,rfl⟩:=eT.2.1.slice;have gW:=eT.read aG;have⟨nc,hnc⟩:=xq vQ.heap.size;have hpc:pb<nc:=by rw[hnc];exact gF.lt
      rw[<-hnc]at gW;have⟨NF,tu⟩:=xq hs.length;rw[<-tu]at gW gF hll;have ki:=aF gW;have Bo:=aF tu;clear gW tu eT cv TU;go_upto_region 21 with(fail)
      go_loopg [12] NF (λgh i wr=>∃k:Nat,gh+k=NF/\i=I k/\Hid (∃(done:List FD) (fv:Value),done.length=k/\(∀p∈done,fH p.q.nm/\p.q.np<=6/\p.q.nl<=5/\p.q.body.length<=4/\∀s∈p.q.body,ry (cW free) 4 free s)/\
       sG W cb pb [.slice none 0 0, .slice aa NA ac, .slice fa NF fc, .bool free, .bool false] [.slice aa NA ac,fv] wr/\oD wr nb nc fv done/\oX pb nb wr (.slice aa NA ac) aX/\
       aP (λb=>nb<=b/\b<nc) 4 (RF (λb=>nb<=b/\b<nc)) wr (.slice fa NF fc) (hs.map λp=>p.q.f)/\nc<=wr.heap.size))
      case atStart=>exact⟨0,aG,rfl,aF ⟨[],_,rfl,aJ,gF.out,oD.nil _ aG,IA.out,ki.out,aG⟩⟩
      case round=>
       obtain⟨k,hg,rfl,HH⟩:=hrel;obtain⟨Dm,rfl⟩:=xq wr;obtain⟨done,fv,hdh,hdd,iE,hfn,harr,gW,apG⟩:=HH.out;have gF:=aF iE;have eT:=aF hfn;have Jj:=aF hdh;have Dc:=aF hdd;have IA:=aF harr;have ki:=aF gW;have q2:=iE.c.k2;clear HH iE hfn hdh hdd harr gW hnc;by_cases hlt:k<NF
       ·have bT:(k:Int)<(NF:Int):=aG;have hkl:k<hs.length:=by rw[<-Bo.out];exact hlt
        have hkm:k<(hs.map λp=>p.q.f).length:=by rw[aC];exact hkl
        obtain⟨b,o,C,rfl,hbB,hC,hrx⟩:=ki.at hkm;have⟨hd,VW⟩:=xq (hs[k]);rw[List.getElem_map,<-VW]at hrx;have hmem:hd∈hs:=by rw[VW];exact ak hkl
        have TV:=(AO hd hmem).2;have ve:=(AO hd hmem).1;have⟨nm,cJ⟩:=xq hd.q.nm;have⟨np,OQ⟩:=xq hd.q.np;rw[<-cJ]at TV;have j5:hd.q.f.params=pq.take np:=by rw[OQ];rfl
        have hpl:(pq.take np).length=np:=by rw[List.length_take,OQ];show min _ 6=_;omega
        rw[<-OQ]at ve;have e0:=hC 0 aG;have e1:=hC 1 aG;have e2:=hC 2 aG;have e3:=hC 3 aG;rw[show C 0=S nm by rw[cJ];exact hrx.1]at e0;have hpx:=hrx.2.1;rw[j5]at hpx;obtain⟨pa,pc,hpv, -⟩:=id hpx;obtain⟨la,lc,hlv, -⟩:=id hrx.2.2.1;obtain⟨ba,bc,l_⟩:=hrx.2.2.2.slice;rw[hpl]at hpv;rw[hpv]at e1 hpx;rw[hlv]at e2;rw[l_]at e3;generalize hd.q.f.locals.length=ln at e2;generalize hd.q.f.body.length=bn at e3;simp only[aA]at e0;have jU:=aF hpx;have HHE:=aF TV;have eG:=aF hpl;clear hC hrx VW hmem cJ OQ j5 hpv hlv l_ hpx TV hkm hpl;go_upto_region 24 with(fail)
        have iB:W.heap.size+1<Dm.heap.size:=by have:=gF.lt;have:=gF.lc;have:=gF.lp;omega
        have⟨w4,hw4⟩:=xq (Dm.alloc (.cells #[S nm, .slice pa np pc, .slice la ln lc, .slice ba bn bc] 52));have hs4:SG (W.heap.size+1) Dm w4:=by rw[hw4];exact SG.start gF.src jI
        have⟨fb,jd⟩:=xq Dm.heap.size;have hr4:Row w4 fb 52 [S nm, .slice pa np pc, .slice la ln lc, .slice ba bn bc]:=by rw[hw4,jd];exact cj _ _
        rw[<-hw4,<-jd];have o7:=aF hs4;have bU:=aF hr4;have GH:W.heap.size+1<fb:=aG;have hfw:Dm.heap.size<=fb:=aG;clear hw4 hs4 hr4 e0 e1 e2 e3 q2 jd;obtain⟨o5,fT⟩:∃o:Obj,o= .cells #[.string ⟨#[120]⟩, .string ⟨#[121]⟩, .string ⟨#[122]⟩, .string ⟨#[105]⟩, .string ⟨#[107]⟩] 9:=⟨_,rfl⟩;have bp:Row (w4.alloc o5) w4 9 (tP.map S):=by rw[fT];exact cj _ _
        have⟨lb,hlb⟩:=xq w4.heap.size;have apH:fb<lb:=by rw[hlb];exact bU.lt
        have ur:=aF (o7.post (cE w4 o5 none) aG aJ);have cL:=aF (bU.kept (cE w4 o5 none) aH);rw[<-hlb]at bp;have Qd:=aF bp;rw[fT]at ur cL Qd;have Ql:=aF hlb;clear bp fT hlb;go_upto_region 25 with(go_at_call 25;refine(gY (W.heap.size+1) 6 _ ur.2 aG aG).mono ?_;rintro e w6⟨⟨r,rfl,b_,dU⟩,rW⟩;obtain⟨nl,rfl⟩:=j4 b_;have zE:=aF (ur.out.trans rW);have dJ:=aF (rW.row cL.out aG);have Dj:=aF (rW.row Qd.out aG);clear rW b_;have f2:=dJ.frozen 2;have c2:=dJ.k2;have apI:(nl:Int)<=5:=aG;have apJ: ¬(5:Int)<nl:=aG)
        rw[<-Ql.out];have⟨w7,cT⟩:=xq (w6.setCell ⟨fb,2,none⟩ (.slice (some ⟨lb,0,none⟩) nl 5));have rD:w6.grownBy w7 (some fb):=by rw[cT];exact bO _ _ _ _
        have kV:Row w7 fb 52 [S nm, .slice pa np pc, .slice (some ⟨lb,0,none⟩) nl 5, .slice ba bn bc]:=by rw[cT];exact dJ.set 2 _
        have Dn:=aF (zE.post rD aG bh);have rP:=aF kV;have VX:=aF (Dj.kept rD nX);have IB:=aF (gF.draw Dn.out);rw[<-cT];have z0:=IB.c.k0;have z1:=IB.c.k1;have z2:=IB.c.k2;have z3:=IB.c.k3;have z4:=IB.c.k4;clear cT rD kV f2 c2 zE dJ Dj ur cL Qd o7 bU Ql;go_upto_region 26 with(fail)
        clear z0 z1 z2 z3 z4;have⟨w8,nP⟩:=xq (w7.alloc (.cells #[.slice none 0 0, .slice aa NA ac, .slice (some ⟨b,o,none⟩) NF fc, .bool free, .bool false] 64));have⟨ib,hib⟩:=xq w7.heap.size;have lI:w7.grownBy w8 none:=by rw[nP];exact cE _ _ none
        have lU:Row w8 ib 64 [.slice none 0 0, .slice aa NA ac, .slice (some ⟨b,o,none⟩) NF fc, .bool free, .bool false]:=by rw[nP,hib];exact cj _ _
        have apK:lb<ib:=by rw[hib];exact VX.lt
        rw[<-nP,<-hib];have HI8:=aF lU;have Df:=aF (Dn.post lI aG aJ);have oF:=bI rP lI;have HL8:=bI VX lI;clear nP hib lI lU Dn rP VX IB;refine yl (λX=>X.cell? ⟨fb,1,none⟩=some (.slice pa np pc)/\X.cell? ⟨fb,2,none⟩=some (.slice (some ⟨lb,0,none⟩) nl 5)) [(0,0),(0,1),(0,3),(0,4),(1,2),(1,5),(0,6),(2,7)] (λwd hh=>⟨aO oF.out hh 1,aO oF.out hh 2⟩) λwd hh hgd hS=> ?_;have hpx:aP (λb=>nb<=b/\b<nc) 1 dc wd (.slice pa np pc) (pq.take np):=(jU.grown Df.1 bh i20).grown hgd aJ i20;have BA:=aF hpx;have kG:=aF (Df.post hgd aG aJ);have dz:=bI oF hgd;have Ei:=bI HL8 hgd;have GD:=bI HI8 hgd;have apL:ib<wd.heap.size:=GD.lt;have fD:=aF (show(pq.take np).length<=6 by rw[eG.out];omega);have Dj:=aF (show(tP.take nl).length<=5 by rw[List.length_take];show min _ 5<=_;omega);clear hh hgd Df oF HL8 HI8 hpx;refine nE ?_;go_wp2_with (at_builtin;refine xI rfl _ _ rfl wd.heap.size (.slice none 0 0) [] rfl a_.nil (.slice pa np pc) (pq.take np) rfl BA.out (by have:=fD.out;simp only[au];omega) fQ ?_;intro v1 w9 jB f_;have AP:=aF jB;have BK:=aF (show wd.grownBy w9 none from f_);clear jB f_)
        have EB:=aF (kG.post BK.out aG aJ);have CV:=aF (dz.kept BK.out aH);have VY:=aF (Ei.kept BK.out aH);have HI9:=aF (GD.kept BK.out aH);refine bw ⟨CV.cell 1,CV.cell 2⟩ λhS=> ?_;refine h_ ?_;go_wp2_with (at_builtin;refine xI rfl _ _ rfl wd.heap.size v1 ([]++pq.take np) rfl AP.out (.slice (some ⟨lb,0,none⟩) nl 5) (tP.take nl) rfl (Hr (B:=λb=>b=lb) VY.out rfl (show nl<=tP.length from(by omega:nl<=5)) aQ) (by have:=fD.out;have:=Dj.out;simp only[List.nil_append];omega) BK.size ?_;intro v2 wA Qm sH;obtain⟨vl,hvl⟩:∃vl:List aK,vl=([]++pq.take np)++tP.take nl:=⟨_,rfl⟩;rw[<-hvl]at Qm;obtain⟨va,vc,hv2⟩:=Qm.slice;have⟨VN,qa⟩:=xq vl.length;rw[<-qa]at hv2;subst hv2;have El:=aF hvl;have Gx:=aF qa;clear hvl qa;have vK:=aF Qm;have jC:=aF sH;clear Qm sH)
        have Kg:∀r,v1.ownBlock=some r->wd.heap.size<=r:=λr e=>(cO AP.out r e).1;have Bq:=aF (EB.post jC.out aG (λr e=>by have:=Kg r e;have:=kG.size;omega));have gJ:=aF (CV.kept jC.out (λe=>by have:=Kg _ e.symm;have:=dz.lt;omega));have HLA:=aF (VY.kept jC.out (λe=>by have:=Kg _ e.symm;have:=Ei.lt;omega));have I2:=aF (HI9.kept jC.out (λe=>by have:=Kg _ e.symm;omega));clear Kg;refine bw ⟨gJ.cell 1,gJ.cell 2⟩ λhS=> ?_;refine wV ?_;have f0:=I2.frozen 0;have d0:=I2.cell 0;simp only[af]at d0;clear hS;refine nu ?_;go_wp2;refine iG (kK ?_);have⟨wB,Qn⟩:=xq (wA.setCell ⟨ib,0,none⟩ (.slice va VN vc));have AQ:wA.grownBy wB (some ib):=by rw[Qn];exact bO _ _ _ _
        have EG:Row wB ib 64 [.slice va VN vc, .slice aa NA ac, .slice (some ⟨b,o,none⟩) NF fc, .bool free, .bool false]:=by rw[Qn];exact I2.set 0 _
        have qB:=Bq.post AQ aG bh;have Bz:aP (·≠W.heap.size+1) 1 dc wB (.slice va VN vc) vl:=by
         have h1:a_ 1 9 fR wB wd (.slice va VN vc) vl:=j0 vK.out AQ (by
          cases hv:(Value.slice va VN vc).ownBlock with
          |none=>exact .inl rfl
          |some q=>
           right;intro e;have:=(cO vK.out q hv).1;have:q=ib:=Option.some.inj e;omega)
         have h2:=h1.l7 (R:=dc) (λx=>x) qC (by rw[El.out];have:=fD.out;have:=Dj.out;simp only[ax,au];omega) (λx _=>rfl);have h3:aP (wd.heap.size<=·) 1 dc wB (.slice va VN vc) vl:=by simpa using h2
         exact h3.weak (λq hq=>by have:=kG.size;omega) i20
        have hcl:Calls Tryz.prog 30 #[.agg #[.slice va VN vc, .slice aa NA ac, .slice (some ⟨b,o,none⟩) NF fc, .bool free, .bool false], .pointer (some ⟨W.heap.size+1,0,none⟩),I 4] wB (Vo (cW free) 4 false wB (W.heap.size+1)):=by
         refine Y2 (cW free) 4 aQ aQ (W.heap.size+1) wB _ _ _ false ⟨⟨vl,Bz,λ_ x hx=> ?_⟩,⟨aX, ?_,λ_ x hx=>Qj.out x hx⟩,⟨hs.map λp=>p.q.f, ?_,λ_ x hx=> ?_⟩,λ_=>⟨λ_ h=>h,λ_ h=>h,λ_ _ h h'=>⟨h,h'⟩⟩⟩ qB.2
         ·rw[El.out,List.nil_append]at hx;refine Fa x (List.mem_append_left _ ?_);rcases List.mem_append.1 hx with hx|hx
          ·exact List.mem_append_left _ (List.mem_of_mem_take hx)
          ·exact List.mem_append_right _ (List.mem_of_mem_take hx)
         ·exact((IA.grown qB.1 bh i20).rsl (cw jM)).weak (λq hq=>by have hq:pb<q:=hq;omega) i20
         ·exact(ki.grown qB.1 bh (λ_ _ h=>h.grown qB.1 bh)).weak (λq hq=>by omega) (λ_ _ h=>h.weak (λq hq=>by omega))
         ·obtain⟨p,hp,rfl⟩:=List.mem_map.1 hx;refine⟨(AO p hp).2, ?_⟩;have h6:=(AO p hp).1;show(pq.take p.q.np).length<=6;rw[List.length_take];omega
        rw[<-Qn];have oo:=aF hcl;have HIB:=aF EG;have HSB:=aF qB;have bF:=aF (gJ.kept AQ nX);have Ql:=aF (HLA.kept AQ nX);have z0:=EG.k0;have z1:=EG.k1;have z2:=EG.k2;have z3:=EG.k3;have z4:=EG.k4;clear Qn AQ EG qB Bz hcl f0 d0 Bq gJ HLA I2 vK jC EB CV VY HI9 AP BK kG dz Ei GD BA;go_upto_region 28 with(go_at_call 30;refine oo.mono ?_;rintro e wC⟨bl,ea,ec,rfl,D_,ng,rq,xE⟩;have nM:=aF (HSB.out.trans xE);have kH:=aF (xE.row bF.out aG);have MJ:=aF (xE.row Ql.out aG);have vJ:=aF rq;have bE:=aF ng;have aR:=aF D_;have M3:=aF (show Dm.heap.size<=wB.heap.size from HSB.size);have f3:=kH.frozen 3;have d3:=kH.k3;have⟨BN,VZ⟩:=xq bl.length;rw[<-VZ];have AE:=aF VZ;clear D_ ng rq xE VZ z0 z1 z2 z3 z4)
        have⟨wD,BL⟩:=xq (wC.setCell ⟨fb,3,none⟩ (.slice ea BN ec));have AR:wC.grownBy wD (some fb):=by rw[BL];exact bO _ _ _ _
        have EH:Row wD fb 52 [S nm, .slice pa np pc, .slice (some ⟨lb,0,none⟩) nl 5, .slice ea BN ec]:=by rw[BL];exact kH.set 3 _
        have kG:=aF (nM.post AR aG bh);have Ei:=aF (MJ.kept AR nX);have bN:=aF (SX.size (SX.grown vJ.out AR (λr e hb=>by cases e;have:=bF.lt;omega)));have aaS:=aF (gF.draw kG.out);have ak6:=aF (eT.grown kG.1 bh);rw[<-BL];have y0:=EH.k0;have y1:=EH.k1;have y2:=EH.k2;have y3:=EH.k3;have p1:=aaS.p.k1;obtain⟨y,hy⟩:∃y:FD,y=⟨⟨nm,np,nl,bl⟩,pa,pc,some ⟨lb,0,none⟩,5,ea,ec⟩:=⟨_,rfl⟩;obtain⟨o5,fT⟩:∃o:Obj,o= .cells #[S nm, .slice pa np pc, .slice (some ⟨lb,0,none⟩) nl 5, .slice ea BN ec] 52:=⟨_,rfl⟩;have cD:wD.grownBy (wD.alloc o5) none:=cE _ _ none;have jX:=aF (show Row (wD.alloc o5) wD 52 (pR y) by rw[fT,hy,AE.out];exact cj _ _);have dQ:=aF (show a_ 4 52 pR (wD.alloc o5) nc fv done from a_.tag ak6.2.1 cD eF);have dW:=aF (aaS.kept cD aJ);have hzD:=kG.size;have xY:nc<=(wD.alloc o5).heap.size:=by rw[World.size_alloc];omega
        have xF:done.length<=1000000000:=by have:=Jj.out;omega
        have Ji:=aF (show tJ (λq=>nb<=q/\q<wD.heap.size/\fv.ownBlock≠some q) wD y by
         have gM:∀q,fv.ownBlock=some q->nc<=q/\q<Dm.heap.size:=λq e=>cO eT.2.1 q e;rw[hy];refine⟨?_,Hr Ei.out ⟨aG,Ei.lt,λe=>by have:=gM _ e;omega⟩ (show nl<=tP.length from(by omega:nl<=5)) aQ,SX.weak bN.out λq hq=>⟨by have:=hq.1;have:=M3.out;omega,hq.2,λe=>by have:=gM _ e;have:=hq.1;have:=M3.out;omega⟩⟩;exact(jU.grown kG.1 bh i20).weak (λq hq=>⟨aG,aG,λe=>by have:=gM _ e;omega⟩) i20)
        have HYD:=aF (show fH y.q.nm/\y.q.np<=6/\y.q.nl<=5/\y.q.body.length<=4/\∀s∈y.q.body,ry (cW free) 4 free s by rw[hy];exact⟨HHE.out,ve,by show nl<=5;omega,aR.out,bE.out⟩);rw[fT]at jX dQ dW xY;clear fT cD hy BL AR EH f3 d3;go_wp2_with (at_builtin;(refine lX N8 rfl _ _ rfl JJ Q0 nc fv done rfl dQ.out wD.heap.size y rfl (λj hj=>cell_of_block jX.out j|>.trans aH) xF aQ xY ?_;intro g' cap w6 dY bG fy lZ;have Aw:=aF (oD.app eT.out kG.1 bh Ji.out dY bG rfl fy);have Fe:∀r,fv.ownBlock=some r->nc<=r:=(λr e=>(cO dQ.out r e).1);have fD:=aF (dW.kept bG (λr e=>by have:=Fe r e;omega));have di:=aF (show∀r,fv.ownBlock=some r->nc<=r from Fe);have EI:=aF bG;clear dY bG fy lZ y0 y1 y2 y3 p1 Fe;have f1:=fD.p.frozen 1;have p1:=fD.p.k1))
        have bC:=aF (show oX pb nb w6 (.slice aa NA ac) aX from((IA.grown kG.1 bh i20).grown (cE wD _ none) aJ i20).grown EI.out (λr e hq=>by have:=di.out r e;have:=jU.out;omega) i20);have cB:=aF (show aP (λq=>nb<=q/\q<nc) 4 (RF (λq=>nb<=q/\q<nc)) w6 (.slice (some ⟨b,o,none⟩) NF fc) (hs.map λp=>p.q.f)from by
         have h1:=ki.grown kG.1 bh (λ_ _ h=>h.grown kG.1 bh);have kI:=cE wD (.cells #[S nm, .slice pa np pc, .slice (some ⟨lb,0,none⟩) nl 5, .slice ea BN ec] 52) none;have h2:=h1.grown kI aJ (λ_ _ h=>h.grown kI aJ);exact h2.grown EI.out (λr e hq=>by have:=di r e;omega) (λ_ _ h=>h.grown EI.out (λr e hq=>by have:=di.out r e;omega)))
        have ym:nc<=w6.heap.size:=az xY EI.size;go_roundg (NF - (k+1))
        case measure=>omega
        case rel=>
         have M4:=bO w6 pb 1 (.slice (some ⟨g',0,none⟩) (done.length+1) cap);refine⟨k+1,aG,by go_num,aF ⟨done++ [y],_, ?_, ?_,fD.TP 1 _,Aw.grown M4 bh,bC.grown M4 bh i20,cB.grown M4 bh (λ_ _ h=>h.grown M4 bh),az ym M4.size⟩⟩
         ·simp [Jj.out]
         ·intro p hp;rcases List.mem_append.1 hp with hp|hp
          ·exact Dc p hp
          ·obtain rfl:=ai hp;exact HYD.out
       ·have bT: ¬(k:Int)<(NF:Int):=aG;have hkn:k=NF:=aG;obtain⟨fva,fvc,rfl⟩:=eT.2.1.slice;have xF:done.length<=1000000000:=by have:=Jj.out;omega
        have qM:Bd free aX (done.map FD.q):=⟨Qj.out,jM.out,λe=>by
         have h0:=Jj.out;rw[List.map_eq_nil_iff.1 e]at h0;have:=List.length_pos_iff.2 HH0.out;have:=Bo.out;simp at h0;omega,by rw[aC,Jj.out];omega,λq hq=>by
         obtain⟨p,hp,rfl⟩:=List.mem_map.1 hq;exact Dc p hp⟩
        have GI:=eT.read xF;have⟨DN,GJ⟩:=xq done.length;rw[<-GJ]at GI gF eT;have sx:=aF GI;have IC:=aF qM;have p0:=gF.p.k0;have p1:=gF.p.k1;clear xF qM GI GJ Jj Dc AO ki Bo;go_wp2_with (refine sr 27 (.tmp 4) (.tmp 119) W #[.slice none 0 0, .slice none 0 0] gF.out.out ?_)
        have f_:Dm.grownBy (Dm.setRow W #[.slice aa NA ac, .slice fva DN fvc]) (some W):=bJ;have apM:=gF.lc;have apN:=gF.lp;refine bodyPost_ret (results_cell_row rfl _ _ W 27 _ (0,0) _ rfl (setRow_heap _ _ _ _ _ _ gF.out.out) Tryz.underlying27 rfl aL) rfl ?_;rw[HQ.out];exact⟨_,_,aX,done,pb,nb,nc,rfl,IC.out,aG,IA.grown f_ bh i20,eT.grown f_ bh,eT.1,AL,gF.below.grown f_ gF.below.size bh⟩
 have DL:=aF hrest;clear uO hrest;by_cases hL:400<L
 ·have GK:(400:Int)<(L:Int):=aG;have ZZ:400<=c:=aG;go_upto_region 3 with(fail)
  have c0:=cB.k0;have f0:=cB.frozen 0;go_wp2;have hg2:w1.grownBy (w1.setCell ⟨W.heap.size+1,0,none⟩ (.slice a 400 c)) (some (W.heap.size+1)):=bO _ _ _ _;refine DL _ _ _ _ _ _ _ _ _ _ _ _ (aI.grown hg2 aI.size bh) (bC.kept hg2 aH) ⟨.slice a 400 c,l.take 400,0,cB.set 0 _, ?_,Nat.zero_le _⟩;exact(((gD 400 aG aG).grown (aT aI) aJ i20).grown hg2 bh i20).weak (λb hb=>by omega) i20
 ·have GK: ¬(400:Int)<(L:Int):=aG;go_wp2;refine DL _ _ _ _ _ _ _ _ _ _ _ _ aI.out bC.out ⟨.slice a L c,l.take L,0,cB.out, ?_,Nat.zero_le _⟩;exact((gD L fQ aG).grown (aT aI) aJ i20).weak (λb hb=>by omega) i20
theorem agf (free:Bool) (W:World) (v:Value) (l:List Int) (hl:mA W v l) (hc:∃a c,v= .slice a l.length c/\l.length<=c):
  Calls Tryz.prog 14 #[v, .bool free] W λen w'=>∃(av fv:Value) (aX:List LA) (fs:List PQ),en= .returned (.agg #[av,fv])/\Bd free aX fs/\PX (W.heap.size<=·) w' av fv (TM aX fs)/\Below W W w':=by
 refine(XF free W v l hl hc).mono ?_;rintro en w'⟨av,fv,aX,done,pb,nb,nc,rfl,qM,hpb,har,hfn,hnc,jx,hb⟩;refine⟨av,fv,aX,done.map FD.q,rfl,qM,⟨?_, ?_⟩,hb⟩
 ·exact(har.rsl (iZ qM.fB)).weak (λq hq=>(by have hq:pb<q:=hq;omega:W.heap.size<=q)) i20
 ·have h1:=(hfn.read (by have:=qM.fns;rw[aC]at this;omega)).weak (B':=(W.heap.size<=·)) (λq hq=>(by omega:W.heap.size<=q)) (λ_ _ h=>h.weak (λq hq=>(by omega:W.heap.size<=q)));show aP _ 4 _ _ _ ((done.map FD.q).map PQ.f);rw[List.map_map];exact h1
end
end Go.Proofs.YtjgbkdbkachciaaGreatDoor
