import Derived.Test.YtjgbkdbkachciaaGreatDoorG1
set_option linter.all false
namespace Go.Proofs.YtjgbkdbkachciaaGreatDoor
set_option maxRecDepth 100000
set_option maxHeartbeats 16000000
section
open Go.RowKit Go.Shelf
attribute [local go_sem] Oper.semAt_some
theorem RE.one {d:Nat} {B:Nat->Prop} {w:World} {C:Nat->Value} {e:LE} (h:RE d B w C e):∀j,j<5->(C j).oneCell'=true:=by
 cases d with
 |zero=>exact h.elim
 |succ d=>
  obtain⟨h0,h1,h2,h3,h4⟩:=h;obtain⟨a,c,h4, -⟩:=h4;intro j hj;rcases(by omega:j=0\/j=1\/j=2\/j=3\/j=4)with rfl|rfl|rfl|rfl|rfl
  ·rw[h0];rfl
  ·rw[h1];rfl
  ·rw[h2];rfl
  ·rw[h3];rfl
  ·rw[h4];rfl
theorem RE.kB {d:Nat} {B:Nat->Prop} {w:World} {p:EA} (h:aP B 5 (RE d B) w p.av p.e.args):RE (d+1) B w (λj=>(kB p).getD j undef) p.e:=⟨rfl,rfl,rfl,rfl,h⟩
theorem lH.same {e e':LE} (h:lH e) (hn:fH e'.name) (ha:e'.args=e.args):lH e':=lH.of hn (by rw[ha];exact h.args)
theorem iP.nm {free:Bool} {d:Nat} {e:LE} (h:iP (cW free) d e):fH e.name:=by
 cases d with
 |zero=>exact h.elim
 |succ d=>
  rcases h.1 with h|h|h|h|h|h|h
  ·rw[h.2.2.2.1];exact fH.nil
  ·exact h.2.1
  ·rw[h.2.2.2.1];exact fH.nil
  ·rw[h.2.2.2.1];exact fH.nil
  ·exact h.2.1.1
  ·exact h.2.1
  ·rw[h.2.2.2.1];exact fH.nil
theorem ah9 {w w':World} {B B' P:Nat->Prop} {l:List LE} {x:LE} {ya:Option Addr} {yc g dd:Nat} {v':Value} {news:List Value} {k o n:Int} {nm:aK}
  (hx:EX B' w (.slice ya x.args.length yc) x) (hown:w'.ownsRow g 31 5 v' (1+l.length) (kB ⟨x,ya,yc⟩++news)) (hne:∀i y,l[i]? =some y->∃C:Nat->Value,RE dd B w C y/\∀j,j<5->news[i*5+j]? =some (C j))
  (hg:w.grownBy w' (some g)) (hB: ¬B g) (hB': ¬B' g) (hat:∀q,v'.ownBlock=some q->some g=some q\/q=w.heap.size) (hl:l.length<=1000) (hP1:∀b,B b->P b) (hP2:∀b,B' b->P b) (hP3:P g) (hP4:P w):EX P w' v' (.mk k o n nm (x::l)):=by
 obtain⟨dx,uP⟩:=hx;have Pr:∀r,some g=some r-> ¬B r:=λr e=>by cases e;exact hB
 have hB3:∀r,some g=some r-> ¬B' r:=λr e=>by cases e;exact hB'
 have hlen:(x::l).length=1+l.length:=ct;refine⟨dd+dx+1, ?_⟩;show aP P 5 (RE (dd+dx+1) P) w' v' (x::l);have h1:=Xc (R:=RE (dd+dx+1) P) (l:=x::l) (v:=v') (w:=w') (k:=5) (xs:=kB ⟨x,ya,yc⟩++news) (e:=31) (base:=g) (by rw[hlen];exact hown) (by rw[hlen];omega) (λi y hy=> ?_)
 ·refine h1.weak (λb hb=> ?_) i20;rcases hat b hb with h|h
  ·rw[<-Option.some.inj h];exact hP3
  ·rw[h];exact hP4
 ·cases i with
  |zero=>
   obtain rfl:x=y:=by simpa using hy
   refine⟨λj=>(kB ⟨x,ya,yc⟩).getD j undef, ?_,λj hj=> ?_⟩
   ·refine RE.le (d:=dx+1) aG (RE.weak _ hP2 ?_);exact RE.kB (p:=⟨x,ya,yc⟩) (uP.grown hg hB3 (λ_ _ h=>RE.grown _ hg hB3 h))
   ·rw[Nat.zero_mul,Nat.zero_add,List.getElem?_append_left (by rw[v_];exact hj),ah (by rw[v_];exact hj)];show _=some ((kB ⟨x,ya,yc⟩).getD j undef);rw[List.getD_eq_getElem?_getD,ah (by rw[v_];exact hj)];rfl
  |succ i=>
   obtain⟨C,hC,hj⟩:=hne i y (by simpa using hy);refine⟨C,RE.le (d:=dd) aG (RE.weak _ hP1 (RE.grown _ hg Pr hC)),λj hjl=> ?_⟩;have h5:(i+1)*5+j=5+(i*5+j):=aG;rw[h5,List.getElem?_append_right (by rw[v_];omega),v_,Nat.add_sub_cancel_left];exact hj j hjl
theorem Ya (free loop:Bool) (sb:Nat) (W:World) (vv av fv:Value) (hsc:Ch (cW free) sb W vv av fv) (hs:Src sb W):
  Calls Tryz.prog 27 #[.agg #[vv,av,fv, .bool free, .bool loop], .pointer (some (sb,0))] W λen w'=>∃(e:LE) (m_:Value),en= .returned (eV e m_)/\lH e/\EX (W.heap.size<=·) w' m_ e/\SG sb W w':=by
 obtain⟨Q,hQ⟩:∃Q:Ending->World->Prop,Q=λen w'=>∃(e:LE) (m_:Value),en= .returned (eV e m_)/\lH e/\EX (W.heap.size<=·) w' m_ e/\SG sb W w':=⟨_,rfl⟩;rw[<-hQ];have HQ:=aF hQ;obtain⟨w1,hw1⟩:∃w1,w1=(W.alloc (.cells #[vv,av,fv, .bool free, .bool loop] 64)).alloc (.cells eZ 31):=⟨_,rfl⟩;have dO:=hw1.symm;have hb1:Below W W w1:=by rw[hw1];exact nR _ _ _
 have hr1:Row w1 W 64 [vv,av,fv, .bool free, .bool loop]:=by rw[hw1];exact dV _ _ hn0
 have cB:=aF (show Row w1 (W,1) 31 [I 0,I 0,I 0,S [], .slice none 0 0] by rw[hw1];exact jF aH);have p9:=aF (show w1.heap.size=W.heap.size+2 by rw[hw1];simp);have hsl:=hs.lt;have Ox:SG sb W w1:=SG.start hs hb1;have HC:=aF (yM (cW free) 3 aQ aQ sb w1 vv av fv loop (hsc.kept Ox.1 (λr e=>by cases e;rfl)) Ox.2);have akj:=aF hsc;have akk:=aF Ox;have bC:=aF hr1;have c0:=hr1.k0;have c1:=hr1.k1;have c2:=hr1.k2;have c3:=hr1.k3;have c4:=hr1.k4;clear hsc hs hw1 hb1 hr1 Ox hQ;go_enter Tryz.func27,Tryz.ntmps27;go_upto_region 2 with(first|(go_at_call 28;refine HC.mono ?_;rintro e' w2⟨e,xv,rfl,hdr,hex,iH⟩;obtain⟨xa,xc,rfl⟩:=hex.slice;have iO:=aF hdr;have oW:=aF (akk.out.trans iH);have eA:=aF (EX.weak (B':=λb=>W.heap.size+2<=b/\b<w2.heap.size) hex.size (λb hb=>⟨by have:=hb.1;have:=p9.out;omega,hb.2⟩));have jW:=aF (iH.row bC aG);have mZ:=aF (iH.row cB aG);have hz2:W.heap.size+2<=w2.heap.size:=(by have:=iH.size;have:=p9.out;omega);clear hdr hex iH c0 c1 c2 c3 c4)|(refine sr 31 (.tmp 5) (.tmp 8) w2 eZ hn0 ?_;rw[World.setRow_alloc_new]))
 have⟨XL,Gl⟩:=xq e.args.length;have⟨eb,mL⟩:=xq w2.heap.size;rw[<-Gl]at eA
 try rw[<-Gl]
 have⟨w3,hw3⟩:=xq (w2.alloc (.cells #[I e.kind,I e.op,I e.n,S e.name, .slice xa XL xc] 31));have hg3:=jy hw3;have hr3:Row w3 eb 31 [I e.kind,I e.op,I e.n,S e.name, .slice xa XL xc]:=by rw[hw3,mL];exact cj _ _
 rw[<-hw3,<-mL];have akl:W.heap.size+2<=eb:=aG;have HXL:=aF Gl;have bL:=aF hr3;have Fm:=aF (oW.post hg3 hsl aJ);have wP:=aF (show EX (λb=>W.heap.size+2<=b/\b<eb) w3 (.slice xa XL xc) e by rw[mL];exact eA.grown hg3 aJ);have xg:=bI jW hg3;have ko:=bI mZ hg3;have hez:eb<w3.heap.size:=hr3.lt;clear Gl hw3 hg3 hr3 mL hz2 eA jW mZ;have qz:=aF iO.od;have cv:=aF iO.nm;have⟨ek,lT⟩:=xq e.kind;have⟨eo,mg⟩:=xq e.op;have⟨en,hen⟩:=xq e.n;have⟨nm,cJ⟩:=xq e.name;rw[<-lT,<-mg,<-hen,<-cJ]at bL;have Kt:=aF (show fH nm by rw[cJ];exact cv.out);clear lT mg hen cJ cv;go_upto_region 3 with(go_at_call 25;refine(gY sb 6 w3 Fm.2 aG aG).mono ?_;rintro e' w4⟨⟨r,rfl,b_,hr1⟩,hs4⟩;obtain⟨r,rfl⟩:=j4 b_;have uV:=aF (Fm.out.trans hs4);have bU:=aF (hs4.row bL aG);have Ii:=aF (wP.grown hs4.1 lG);have jW:=aF (hs4.row xg aG);have mZ:=aF (hs4.row ko aG);have Eo:eb<w4.heap.size:=(iZ hs4.size);clear hs4 b_)
 have dU:r<6:=aG;rcases(by omega:r=0\/r=1\/r=2\/r=3\/r=4\/r=5)with rfl|rfl|rfl|rfl|rfl|rfl
 ·as_aux_lemma=>
  go_upto_region 13 with(go_at_call 25;refine(gY sb 10 w4 uV.2 aG aG).mono ?_;rintro e' w5⟨⟨r2,rfl,DV,aaq⟩,hs5⟩;obtain⟨r2,rfl⟩:=j4 DV;have uU:=aF (uV.out.trans hs5);have cL:=aF (hs5.row bU aG);have Ba:=aF (Ii.grown hs5.1 lG);have Fp:=aF (hs5.row mZ aG);have q5:=cL.k0;have f5:=cL.frozen 0;clear hs5 DV)
  have⟨w6,iN⟩:=xq (w5.setCell (eb,0) (I ((r2:Int) - 1)));have bG:w5.grownBy w6 (some eb):=by rw[iN];exact bO _ _ _ _
  have dJ:=aF (show Row w6 eb 31 [I ((r2:Int) - 1),I eo,I en,S nm, .slice xa XL xc] by rw[iN];exact cL.set 0 (I ((r2:Int) - 1)));have uj:=aF (uU.post bG hsl bh);have xU:=aF (Ba.grown bG lG);have vH:=aF (Fp.kept bG nX);rw[<-iN];clear iN bG q5 f5;have q0:=dJ.k0;have q1:=dJ.k1;have q2:=dJ.k2;have q3:=dJ.k3;have q4:=dJ.k4;go_wp2_with (refine sr 31 (.tmp 4) (.tmp 44) (W.heap.size+1) eZ vH.out ?_)
  refine bodyPost_ret (results_cell_row rfl _ _ (W.heap.size+1) 31 _ (0,0) _ rfl (setRow_heap _ _ _ _ _ _ vH.out) Tryz.underlying31 rfl aL) rfl ?_;rw[HQ.out];refine⟨.mk ((r2:Int) - 1) (eo) (en) nm e.args,_,rfl,lH.same qz Kt rfl, ?_,uj.post bJ hsl bh⟩;exact EX.weak (EX.grown xU bJ lG) (λb hb=>(by omega:W.heap.size<=b))
 ·as_aux_lemma=>
  go_upto_region 13 with(go_at_call 25;refine(gY sb 22 w4 uV.2 aG aG).mono ?_;rintro e' w5⟨⟨r2,rfl,DV,aaq⟩,hs5⟩;obtain⟨r2,rfl⟩:=j4 DV;have uU:=aF (uV.out.trans hs5);have cL:=aF (hs5.row bU aG);have Ba:=aF (Ii.grown hs5.1 lG);have Fp:=aF (hs5.row mZ aG);have q5:=cL.k1;have f5:=cL.frozen 1;clear hs5 DV)
  have⟨w6,iN⟩:=xq (w5.setCell (eb,1) (I ((r2:Int) - 1)));have bG:w5.grownBy w6 (some eb):=by rw[iN];exact bO _ _ _ _
  have dJ:=aF (show Row w6 eb 31 [I ek,I ((r2:Int) - 1),I en,S nm, .slice xa XL xc] by rw[iN];exact cL.set 1 (I ((r2:Int) - 1)));have uj:=aF (uU.post bG hsl bh);have xU:=aF (Ba.grown bG lG);have vH:=aF (Fp.kept bG nX);rw[<-iN];clear iN bG q5 f5;have q0:=dJ.k0;have q1:=dJ.k1;have q2:=dJ.k2;have q3:=dJ.k3;have q4:=dJ.k4;go_wp2_with (refine sr 31 (.tmp 4) (.tmp 44) (W.heap.size+1) eZ vH.out ?_)
  refine bodyPost_ret (results_cell_row rfl _ _ (W.heap.size+1) 31 _ (0,0) _ rfl (setRow_heap _ _ _ _ _ _ vH.out) Tryz.underlying31 rfl aL) rfl ?_;rw[HQ.out];refine⟨.mk (ek) ((r2:Int) - 1) (en) nm e.args,_,rfl,lH.same qz Kt rfl, ?_,uj.post bJ hsl bh⟩;exact EX.weak (EX.grown xU bJ lG) (λb hb=>(by omega:W.heap.size<=b))
 ·as_aux_lemma=>
  go_upto_region 13 with(go_at_call 25;refine(gY sb 9 w4 uV.2 aG aG).mono ?_;rintro e' w5⟨⟨r2,rfl,DV,aaq⟩,hs5⟩;obtain⟨r2,rfl⟩:=j4 DV;have uU:=aF (uV.out.trans hs5);have cL:=aF (hs5.row bU aG);have Ba:=aF (Ii.grown hs5.1 lG);have Fp:=aF (hs5.row mZ aG);have q5:=cL.k2;have f5:=cL.frozen 2;clear hs5 DV)
  have⟨w6,iN⟩:=xq (w5.setCell (eb,2) (I ((r2:Int) - 4)));have bG:w5.grownBy w6 (some eb):=by rw[iN];exact bO _ _ _ _
  have dJ:=aF (show Row w6 eb 31 [I ek,I eo,I ((r2:Int) - 4),S nm, .slice xa XL xc] by rw[iN];exact cL.set 2 (I ((r2:Int) - 4)));have uj:=aF (uU.post bG hsl bh);have xU:=aF (Ba.grown bG lG);have vH:=aF (Fp.kept bG nX);rw[<-iN];clear iN bG q5 f5;have q0:=dJ.k0;have q1:=dJ.k1;have q2:=dJ.k2;have q3:=dJ.k3;have q4:=dJ.k4;go_wp2_with (refine sr 31 (.tmp 4) (.tmp 44) (W.heap.size+1) eZ vH.out ?_)
  refine bodyPost_ret (results_cell_row rfl _ _ (W.heap.size+1) 31 _ (0,0) _ rfl (setRow_heap _ _ _ _ _ _ vH.out) Tryz.underlying31 rfl aL) rfl ?_;rw[HQ.out];refine⟨.mk (ek) (eo) ((r2:Int) - 4) nm e.args,_,rfl,lH.same qz Kt rfl, ?_,uj.post bJ hsl bh⟩;exact EX.weak (EX.grown xU bJ lG) (λb hb=>(by omega:W.heap.size<=b))
 ·as_aux_lemma=>
  go_upto_region 13 with(go_at_call 26;refine(E3 sb w4 uV.2).mono ?_;rintro e' w5⟨⟨y,rfl,hy⟩,hs5⟩;have HY:=aF hy;have uU:=aF (uV.out.trans hs5);have cL:=aF (hs5.row bU aG);have Ba:=aF (Ii.grown hs5.1 lG);have Fp:=aF (hs5.row mZ aG);have q5:=cL.k3;have f5:=cL.frozen 3;clear hs5 hy)
  have⟨w6,iN⟩:=xq (w5.setCell (eb,3) (S y));have bG:w5.grownBy w6 (some eb):=by rw[iN];exact bO _ _ _ _
  have dJ:=aF (show Row w6 eb 31 [I ek,I eo,I en,S y, .slice xa XL xc] by rw[iN];exact cL.set 3 (S y));have uj:=aF (uU.post bG hsl bh);have xU:=aF (Ba.grown bG lG);have vH:=aF (Fp.kept bG nX);rw[<-iN];clear iN bG q5 f5;have q0:=dJ.k0;have q1:=dJ.k1;have q2:=dJ.k2;have q3:=dJ.k3;have q4:=dJ.k4;go_wp2_with (refine sr 31 (.tmp 4) (.tmp 44) (W.heap.size+1) eZ vH.out ?_)
  refine bodyPost_ret (results_cell_row rfl _ _ (W.heap.size+1) 31 _ (0,0) _ rfl (setRow_heap _ _ _ _ _ _ vH.out) Tryz.underlying31 rfl aL) rfl ?_;rw[HQ.out];refine⟨.mk (ek) (eo) (en) y e.args,_,rfl,lH.same qz HY rfl, ?_,uj.post bJ hsl bh⟩;exact EX.weak (EX.grown xU bJ lG) (λb hb=>(by omega:W.heap.size<=b))
 ·skip
  go_upto_region 12 with(fail)
  refine yl (λX=>X.cell? (W,0)=some vv/\X.cell? (W,1)=some av/\X.cell? (W,2)=some fv/\X.cell? (W,3)=some (.bool free)/\X.cell? (W,4)=some (.bool loop)/\X.cell? (eb,4)=some (.slice xa XL xc)) [(0,0),(0,1),(0,4),(0,5),(1,2),(1,3),(1,6),(0,7),(2,8)] (λwd hh=>⟨aO jW.out hh 0,aO jW.out hh 1,aO jW.out hh 2,aO jW.out hh 3,aO jW.out hh 4,aO bU.out hh 4⟩) λwd hh hgd hS=> ?_;have Sr:=aF (uV.post hgd hsl aJ);have akm:=bI jW hgd;have akn:=bI mZ hgd;have dz:=bI bU hgd;have ako:=aF (Ii.grown hgd aJ);have hzd:eb<wd.heap.size:=by have:=hgd.size;omega
  have eY:=aF (yM (cW free) 2 aQ aQ sb wd vv av fv loop (akj.kept Sr.1 (λr e=>by cases e;rfl)) Sr.2);have jL:∀X:World,Row X W 64 [vv,av,fv, .bool free, .bool loop]->Row X eb 31 [I ek,I eo,I en,S nm, .slice xa XL xc]->(X.cell? (W,0)=some vv/\X.cell? (W,1)=some av/\X.cell? (W,2)=some fv/\X.cell? (W,3)=some (.bool free)/\X.cell? (W,4)=some (.bool loop)/\X.cell? (eb,4)=some (.slice xa XL xc)):=
   λX h h'=>⟨h.cell 0,h.cell 1,h.cell 2,h.cell 3,h.cell 4,h'.cell 4⟩
  have cu:=aF jL;clear hh hgd jL;refine nE ?_;go_wp2_with (go_at_call 28;refine eY.mono ?_;rintro e' wB⟨x,xv,rfl,qo,kQ,iH⟩;obtain⟨ya,yc,rfl⟩:=kQ.slice;have uh:=aF qo.od;have mB:=aF kQ.size;have DW:=aF (Sr.out.trans iH);have aar:=aF (iH.row akm aG);have akp:=aF (iH.row akn aG);have bF:=aF (iH.row dz aG);have akq:=aF (ako.grown iH.1 lG);have Pz:wd.heap.size<=wB.heap.size:=iH.size;clear qo kQ iH hS)
  refine bw (cu wB aar bF) λhS=> ?_;clear hS;refine h_ ?_;go_wp2;have⟨wC,Mq⟩:=xq (wB.alloc (.cells #[I x.kind,I x.op,I x.n,S x.name, .slice ya x.args.length yc] 31));have⟨g,hg⟩:=xq wB.heap.size;have xj:=jy Mq
  have hnC:wC.heap[g]? =some (.cells #[I x.kind,I x.op,I x.n,S x.name, .slice ya x.args.length yc] 31):=by rw[Mq,hg];exact cj _ _
  rw[<-Mq,<-hg];have Vd:g<wC.heap.size:=by rw[Mq,hg];simp
  have tT:wd.heap.size<=g:=by rw[hg];exact Pz
  have apm:W.heap.size+2<=g:=aG;have DX:=aF (DW.post xj hsl aJ);have aas:=bI aar xj;have akr:=bI akp xj;have kH:=bI bF xj;have aks:=aF (akq.grown xj aJ);have dH:=aF (show EX (λb=>wd.heap.size<=b/\b<g) wC (.slice ya x.args.length yc) x by rw[hg];exact mB.grown xj aJ);have hown:wC.ownsRow g 31 5 (.slice (some (g,0)) 1 1) 1 (kB ⟨x,ya,yc⟩):=⟨rfl, .inr ⟨g,1,_,rfl,ay _,hnC,ay _,aQ,rfl,rfl⟩⟩;have HOWN:=aF hown;obtain⟨dd,hxs⟩:=aks.out;have hxs:aP (λb=>W.heap.size+2<=b/\b<eb) 5 (RE dd (λb=>W.heap.size+2<=b/\b<eb)) wC (.slice xa XL xc) e.args:=hxs;have hxl:XL<=1000000\/True:= .inr trivial;have vI:=aF hxs;have hlen:e.args.length<=1000:=by
   have:=iO.out;rcases this.1 with h|h|h|h|h|h|h
   ·omega
   ·omega
   ·omega
   ·omega
   ·have:=h.2.1.2;omega
   ·omega
   ·omega
  have HLEN:=aF hlen;clear Mq hnC xj hown hxs hxl hlen hg;refine bw (cu wC aas kH) λhS=> ?_;clear hS;refine h_ ?_;go_wp2_with (at_builtin;refine JB DD rfl _ _ rfl g _ 1 _ rfl HOWN.out _ e.args rfl vI.out (λC y h=>RE.one h) (cw HLEN) aQ (Nat.le_of_lt Vd) ?_;intro v' wE news hoE hnl hnE hgE aat;have I8:=aF hoE;have tR:=aF hnE;have Ap:=aF (show wC.grownBy wE (some g)from hgE);have gN:=aF aat;clear hoE hnE hgE aat hnl)
  have hge:=Ap.out;have akt:=aF (aas.kept hge nX);have aku:=aF (akr.kept hge nX);have fP:=aF (kH.kept hge nX);have akv:=aF (DX.post hge hsl bh);clear hge;refine bw (cu wE akt fP) λhS=> ?_;obtain⟨va,vn,vc,hv'⟩:∃a n c,v'= .slice a n c:=by
   rcases I8.2 with⟨h,_⟩|⟨g',cap,cur,h,_⟩
   ·exact⟨_,_,_,h⟩
   ·exact⟨_,_,_,h⟩
  have aau:EX (λb=>W.heap.size+2<=b/\b≠eb) wE v' (.mk ek eo en nm (x::e.args)):=
   ah9 dH I8 tR Ap (λh=>by have:=h.2;omega) (λh=>by have:=h.2;omega) gN HLEN (λb hb=>⟨hb.1,by have:=hb.2;omega⟩) (λb hb=>⟨by have:=hb.1;omega,by have:=hb.1;omega⟩) ⟨aG,aG⟩ ⟨aG,aG⟩
  have akw:=aF aau;subst hv';have q5:=fP.k4;have f5:=fP.frozen 4;clear aau;refine Ek ?_;clear hS;refine nu ?_;go_wp2;refine iG (kK ?_);have⟨w6,iN⟩:=xq (wE.setCell (eb,4) (.slice va vn vc));have bG:wE.grownBy w6 (some eb):=by rw[iN];exact bO _ _ _ _
  have dJ:=aF (show Row w6 eb 31 [I ek,I eo,I en,S nm, .slice va vn vc] by rw[iN];exact fP.set 4 (.slice va vn vc));have uj:=aF (akv.post bG hsl bh);have vH:=aF (aku.kept bG nX);have xU:=aF (EX.weak (EX.grown akw bG (λr e hb=>by cases e;exact hb.2 rfl)) (B':=(W.heap.size+2<=·)) (λb hb=>hb.1));rw[<-iN];clear iN bG q5 f5;have q0:=dJ.k0;have q1:=dJ.k1;have q2:=dJ.k2;have q3:=dJ.k3;have q4:=dJ.k4;go_wp2_with (refine sr 31 (.tmp 4) (.tmp 44) (W.heap.size+1) eZ vH.out ?_)
  refine bodyPost_ret (results_cell_row rfl _ _ (W.heap.size+1) 31 _ (0,0) _ rfl (setRow_heap _ _ _ _ _ _ vH.out) Tryz.underlying31 rfl aL) rfl ?_;rw[HQ.out];refine⟨.mk (ek) (eo) (en) nm (x::e.args),_,rfl,lH.of Kt (λy hy=>by
   rcases List.mem_cons.1 hy with rfl|hy
   ·exact uh.out
   ·exact qz.args y hy), ?_,uj.post bJ hsl bh⟩
  exact EX.weak (EX.grown xU bJ lG) (λb hb=>(by omega:W.heap.size<=b))
 ·as_aux_lemma=>
  have q0:=bU.k0;have q1:=bU.k1;have q2:=bU.k2;have q3:=bU.k3;have q4:=bU.k4;go_wp2_with (refine sr 31 (.tmp 4) (.tmp 44) (W.heap.size+1) eZ mZ.out ?_)
  refine bodyPost_ret (results_cell_row rfl _ _ (W.heap.size+1) 31 _ (0,0) _ rfl (setRow_heap _ _ _ _ _ _ mZ.out) Tryz.underlying31 rfl aL) rfl ?_;rw[HQ.out];refine⟨.mk (ek) (eo) (en) nm e.args,_,rfl,lH.same qz Kt rfl, ?_,uV.post bJ hsl bh⟩;exact EX.weak (EX.grown Ii bJ lG) (λb hb=>(by omega:W.heap.size<=b))
theorem Z5 (free:Bool) (W:World) (sb:Nat):Ch (cW free) sb W (.slice none 0 0) (.slice none 0 0) (.slice none 0 0):=
 ⟨⟨[],aP.nil _ _ _ _,λ_ x hx=>by cases hx⟩,⟨[],aP.nil _ _ _ _,λ_ x hx=>by cases hx⟩,⟨[],aP.nil _ _ _ _,λ_ x hx=>by cases hx⟩,λ_=>⟨λ_ h=>h,λ_ h=>h,λ_ _ h h'=>⟨h,h'⟩⟩⟩
theorem afE (W:World) (v:Value) (l:List Int) (hl:mA W v l) (hc:∃a c,v= .slice a l.length c/\l.length<=c):
  Calls Tryz.prog 19 #[v] W λen w'=>∃(e:LE) (av:Value),en= .returned (eV e av)/\iP (cW true) 6 e/\EX (W.heap.size<=·) w' av e/\Below W W w':=by
 obtain⟨a,c,rfl,hlc⟩:=hc;have hlt:∀n,n<=l.length->n<=1000000000->aP (·<W.heap.size) 1 yU W (.slice a n c) (l.take n):=λn h1 h2=>mA.take hl h1 h2;have⟨L,hL⟩:=xq l.length;rw[<-hL]at hlc hlt|-;have gD:=aF hlt;have tU:=aF hL;clear hl hlt hL;obtain⟨w1,hw1⟩:∃w1,w1=(W.alloc (.cells eZ 31)).alloc (.cells #[.slice a L c, .int .i64 0] 61):=⟨_,rfl⟩;have dO:=hw1.symm;have aI:=aF (show Below W W w1 by rw[hw1];exact nR _ _ _);have bC:=aF (show Row w1 W 31 [I 0,I 0,I 0,S [], .slice none 0 0] by rw[hw1];exact dV _ _ hn0);have cB:=aF (show Row w1 (W.heap.size+1) 61 [.slice a L c,I 0] by rw[hw1];exact jF aH);clear hw1;have hrun:∀(n:Nat) (w2:World),n<=1000000000->n<=L->Below W W w2->Row w2 W 31 [I 0,I 0,I 0,S [], .slice none 0 0]->Row w2 (W.heap.size+1) 61 [.slice a n c,I 0]->Calls Tryz.prog 28 #[.agg #[.slice none 0 0, .slice none 0 0, .slice none 0 0, .bool true, .bool false], .pointer (some (W,1,0)),I 6] w2
   λen w'=>∃(e:LE) (aa:Option Addr) (ac:Nat),en= .returned (eV e (.slice aa e.args.length ac))/\iP (cW true) 6 e/\EX (W.heap.size+1<=·) w' (.slice aa e.args.length ac) e/\Below W W w'/\Row w' W 31 [I 0,I 0,I 0,S [], .slice none 0 0]:=by
  intro n w2 hn hnL hb hr hs;have hlen:(l.take n).length=n:=by rw[List.length_take,<-tU.out];omega
  have hsrc:Src (W.heap.size+1) w2:=⟨.slice a n c,l.take n,0,hs,((gD n hnL hn).grown (bX hb none) aJ i20).weak (λb hb=>by omega) i20,Nat.zero_le _⟩;refine(yM (cW true) 6 aQ aQ (W.heap.size+1) w2 (.slice none 0 0) (.slice none 0 0) (.slice none 0 0) false (Z5 true _ _) hsrc).mono ?_;rintro en w3⟨e,av,rfl,hd,hx,hg⟩;obtain⟨aa,ac,rfl⟩:=hx.slice;have:=hr.lt;exact⟨e,aa,ac,rfl,hd,hx.weak (λb hb=>(by omega:W.heap.size+1<=b)),hb.grown hg.1 hb.size bh,hg.row hr aG⟩
 have iI:=aF hrun;clear hrun;by_cases hL:100<L
 ·have GK:(100:Int)<(L:Int):=aG;have apb:100<=c:=aG;go_enter Tryz.func19,Tryz.ntmps19;go_upto_region 3 with(fail)
  have c0:=cB.k0;have f0:=cB.frozen 0;go_upto_region 4 with(fail)
  have⟨w2,hw2⟩:=xq (w1.setCell (W,1,0) (.slice a 100 c));have hg2:w1.grownBy w2 (some (W.heap.size+1)):=by rw[hw2];exact bO _ _ _ _
  have hs2:Row w2 (W.heap.size+1) 61 [.slice a 100 c,I 0]:=by rw[hw2];exact cB.set 0 _
  rw[<-hw2];have HC:=aF (iI 100 w2 aG aG (aI.grown hg2 aI.size bh) (bC.kept hg2 aH) hs2);clear hw2 hg2 hs2 c0 f0;go_wp2_with (first|(go_at_call 28;refine HC.mono ?_;rintro e' w3⟨e,aa,ac,rfl,hd,hx,hb,hr⟩;have HD:=aF hd;have HX:=aF hx;have HB:=aF hb;have HR:=aF hr;clear hd hx hb hr)|(refine sr 31 (.tmp 2) (.tmp 17) W #[I 0,I 0,I 0,S [], .slice none 0 0] HR.out ?_))
  refine bodyPost_ret (results_cell_row rfl _ _ W 31 _ (0,0) _ rfl (setRow_heap _ _ _ _ _ _ HR.out) Tryz.underlying31 rfl aL) rfl ?_;exact⟨e,_,rfl,HD,(EX.grown HX bJ bh).weak (λb hb=>(by omega:W.heap.size<=b)),HB.grown bJ HB.size bh⟩
 ·have GK: ¬(100:Int)<(L:Int):=aG;have HC:=aF (iI L w1 aG fQ aI bC cB);go_enter Tryz.func19,Tryz.ntmps19;go_wp2_with (first|(go_at_call 28;refine HC.mono ?_;rintro e' w2⟨e,aa,ac,rfl,hd,hx,hb,hr⟩;have HD:=aF hd;have HX:=aF hx;have HB:=aF hb;have HR:=aF hr;clear hd hx hb hr)|(refine sr 31 (.tmp 2) (.tmp 17) W #[I 0,I 0,I 0,S [], .slice none 0 0] HR.out ?_))
  refine bodyPost_ret (results_cell_row rfl _ _ W 31 _ (0,0) _ rfl (setRow_heap _ _ _ _ _ _ HR.out) Tryz.underlying31 rfl aL) rfl ?_;exact⟨e,_,rfl,HD,(EX.grown HX bJ bh).weak (λb hb=>(by omega:W.heap.size<=b)),HB.grown bJ HB.size bh⟩
structure OI (W:World) (eb:Nat) (w:World) (e:LE) (aa:Option Addr) (al ac:Nat):Prop where
 below:Below W.heap.size W w
 src:Src (W.heap.size+1) w
 res:Row w W.heap.size 31 [I 0,I 0,I 0,S [], .slice none 0 0]
 Qr:W.heap.size+2<=eb
 row:Row w eb 31 [I e.kind,I e.op,I e.n,S e.name, .slice aa al ac]
 ex:EX (λb=>W.heap.size+2<=b/\b≠eb) w (.slice aa al ac) e
 od:lH e
theorem OI.draw {W w w':World} {eb:Nat} {e:LE} {aa:Option Addr} {al ac:Nat} (h:OI W eb w e aa al ac) (hs:SG (W,1) w w'):OI W eb w' e aa al ac:=
 ⟨h.below.grown hs.1 h.below.size bh,hs.2,hs.row h.res aG,h.Qr,hs.row h.row (iZ h.Qr),h.ex.grown hs.1 (λr e hb=>by cases e;have:=hb.1;omega),h.od⟩
theorem OI.wrap {W w w':World} {eb:Nat} {e:LE} {aa:Option Addr} {al ac:Nat} (h:OI W eb w e aa al ac) (op:Int) (hw':w'=(w.alloc (.cells #[I e.kind,I e.op,I e.n,S e.name, .slice aa al ac] 31)).setRow eb #[I 3,I op,I 0,S [], .slice (some (w,0)) 1 1]):
  OI W eb w' (.mk 3 op 0 [] [e]) (some (w,0)) 1 1:=by
 have hg1:=cE w (.cells #[I e.kind,I e.op,I e.n,S e.name, .slice aa al ac] 31) none;have hg2:(w.alloc (.cells #[I e.kind,I e.op,I e.n,S e.name, .slice aa al ac] 31)).grownBy w' (some eb):=by rw[hw'];exact bJ
 have akl:=h.row.lt;have ap1:=h.Qr;have hsz:=h.below.size;have b_:Row (w.alloc (.cells #[I e.kind,I e.op,I e.n,S e.name, .slice aa al ac] 31)) w 31 [I e.kind,I e.op,I e.n,S e.name, .slice aa al ac]:=cj _ _;have hr1:=b_.kept hg2 ct;refine⟨(h.below.grown hg1 hsz aJ).grown hg2 (iZ hg1.size) bh,(h.src.kept hg1 aJ).kept hg2 bh,(h.res.kept hg1 aH).kept hg2 ct,h.Qr, ?_, ?_, ?_⟩
 ·rw[hw'];exact setRow_heap _ _ _ _ _ _ (h.row.kept hg1 aH)
 ·obtain⟨a0,c0,hs⟩:=h.ex.slice;obtain⟨d,hx⟩:=(h.ex.grown hg1 aJ).grown hg2 (λr e hb=>by cases e;exact hb.2 rfl);refine⟨d+1, ?_⟩;refine aP.one (R:=RE (d+1) (λb=>W.heap.size+2<=b/\b≠eb)) hr1 (by exact⟨aG,aG⟩) rfl ?_;exact⟨rfl,rfl,rfl,rfl,hx⟩
 ·refine lH.of fH.nil λx hx=> ?_;obtain rfl:=ai hx;exact h.od
theorem ag1 (W:World) (v:Value) (l:List Int) (hl:mA W v l) (hc:∃a c,v= .slice a l.length c/\l.length<=c):
  Calls Tryz.prog 13 #[v] W λen w'=>∃(e:LE) (av:Value),en= .returned (eV e av)/\lH e/\EX (W.heap.size<=·) w' av e/\Below W W w':=by
 obtain⟨Q,hQ⟩:∃Q:Ending->World->Prop,Q=λen w'=>∃(e:LE) (av:Value),en= .returned (eV e av)/\lH e/\EX (W.heap.size<=·) w' av e/\Below W W w':=⟨_,rfl⟩;rw[<-hQ];have HQ:=aF hQ;obtain⟨a,c,rfl,hlc⟩:=hc;have hlt:∀n,n<=l.length->n<=1000000000->aP (·<W.heap.size) 1 yU W (.slice a n c) (l.take n):=λn h1 h2=>mA.take hl h1 h2;have⟨L,hL⟩:=xq l.length;rw[<-hL]at hlc hlt|-;have gD:=aF hlt;clear hl hlt hL hQ;obtain⟨w1,hw1⟩:∃w1,w1=(W.alloc (.cells eZ 31)).alloc (.cells #[.slice a L c, .int .i64 0] 61):=⟨_,rfl⟩;have dO:=hw1.symm;have aI:=aF (show Below W W w1 by rw[hw1];exact nR _ _ _);have bC:=aF (show Row w1 W 31 [I 0,I 0,I 0,S [], .slice none 0 0] by rw[hw1];exact dV _ _ hn0);have hr2:Row w1 (W.heap.size+1) 61 [.slice a L c,I 0]:=by rw[hw1];exact jF aH
 have cB:=aF hr2;clear hw1 hr2;go_enter Tryz.func13,Tryz.ntmps13;go_upto_region 2 with(fail)
 rename_i KR uO K2 hK2;have hrest:∀(x6 x7 x8 x9 lu rT jq ja je gX jf:Value) (w2:World),Below W W w2->Row w2 W 31 [I 0,I 0,I 0,S [], .slice none 0 0]->Src (W.heap.size+1) w2->KR {tmps:= #[.slice a L c,undef, .pointer (some (W,0)), .pointer (some (W,1,0)),undef,undef,x6,x7,x8,x9,lu,rT,jq,ja,je,gX,jf,undef,undef,undef,undef,undef,undef,undef,undef,undef,undef,undef,undef,undef,undef,undef,undef,undef,undef,undef],defers:= []} w2:=by
  intro x6 x7 x8 x9 lu rT jq ja je gX jf w2 hb2 hr2 hs2;refine uO _ _ ?_;clear uO hK2 KR K2;have hl2:=hs2.lt;have aM:=aF hb2;have kX:=aF hr2;have cu:=aF hs2;have HC:=aF (Ya true false (W.heap.size+1) w2 (.slice none 0 0) (.slice none 0 0) (.slice none 0 0) (Z5 true _ _) hs2);clear hb2 hr2 hs2 aI bC cB gD;go_upto_region 5 with(first|(go_at_call 27;refine HC.mono ?_;rintro e' w3⟨e,av,rfl,sI,hex,hs3⟩;obtain⟨aa,ac,rfl⟩:=hex.slice;have qz:=aF sI;have eA:=aF hex.size;have gB:=aF hs3;clear sI hex hs3)|(refine sr 31 (.tmp 4) (.tmp 19) w3 eZ hn0 ?_;rw[World.setRow_alloc_new]))
  have⟨eb,mL⟩:=xq w3.heap.size;have⟨al,hal⟩:=xq e.args.length;rw[<-hal]at eA
  try rw[<-hal]
  have⟨w4,hw4⟩:=xq (w3.alloc (.cells #[I e.kind,I e.op,I e.n,S e.name, .slice aa al ac] 31));rw[<-hw4,<-mL];have hoi:OI W eb w4 e aa al ac:=by
   have hg4:=jy hw4;have hz:=gB.size;refine⟨(aM.grown gB.1 aM.size bh).grown hg4 (iZ aM.size) aJ,gB.2.kept hg4 aJ,(gB.row kX aG).kept hg4 aH,aG, ?_, ?_,qz⟩
   ·rw[hw4,mL];exact cj _ _
   ·exact EX.weak (eA.grown hg4 aJ) (λb hb=>⟨by have:=hb.1;omega,by have:=hb.2;omega⟩)
  have qf:=aF hoi;clear hw4 mL hal hoi qz eA gB aM kX cu HC;rename_i KS yq KT Bp;have ZI:∀(x6 x7 x8 x9 lu rT jq ja je gX jf xy xD lB lC lD mj n_ og oh:Value) (e:LE) (aa:Option Addr) (al ac:Nat) (w5:World),OI W eb w5 e aa al ac->KS {tmps:= #[.slice a L c,undef, .pointer (some (W,0)), .pointer (some (W,1,0)), .pointer (some (eb,0)),undef,x6,x7,x8,x9,lu,rT,jq,ja,je,gX,jf,xy,xD,lB,lC,lD,mj,n_,og,oh,undef,undef,undef,undef,undef,undef,undef,undef,undef,undef],defers:= []} w5:=by
   (iterate 20 intro);intro e aa al ac w5 hoi
   refine yq _ _ ?_;clear yq Bp KS KT;have qf:=aF hoi;clear hoi;go_upto_region 8 with(go_at_call 25;refine(gY (W.heap.size+1) 60 w5 qf.src aG aG).mono ?_;rintro e' w6⟨⟨r,rfl,b_,ap2⟩,rW⟩;obtain⟨n,rfl⟩:=j4 b_;have gK:=aF (qf.draw rW);clear rW b_)
   go_loopg [5] n (λgh i wr=>∃k:Nat,gh=k/\i=I k/\Hid (k<=n/\∃(e:LE) (aa:Option Addr) (al ac:Nat),OI W eb wr e aa al ac))
   case atStart=>exact⟨n,rfl,rfl,aF ⟨ay _,e,aa,al,ac,gK⟩⟩
   case round=>
    clear gK qf;obtain⟨k,hg,rfl,HH⟩:=hrel;obtain⟨wo,rfl⟩:=xq wr;obtain⟨hkn,x,xa,xl,xc,hoi⟩:=HH.out;have qf:=aF hoi;clear HH hoi;have q0:=qf.row.k0;have q1:=qf.row.k1;have q2:=qf.row.k2;have q3:=qf.row.k3;have q4:=qf.row.k4;have alD:eb<wo.heap.size:=qf.row.lt;by_cases hk:20<k
    ·have hkz:(20:Int)<(k:Int):=aG;go_wp2_with (refine sr 31 (.tmp 4) (.tmp 34) eb #[I x.kind,I x.op,I x.n,S x.name, .slice xa xl xc] (ho0 qf.row) ?_)
     go_roundg (k - 1)
     case measure=>omega
     case rel=>exact⟨k - 1,rfl,(by rw[show((k - 1:Nat):Int)=(k:Int) - 1 by omega]),aF ⟨aG,_,_,_,_,qf.wrap 19 rfl⟩⟩
    ·have hkz: ¬(20:Int)<(k:Int):=aG;go_wp2_with (refine sr 31 (.tmp 2) (.tmp 35) W #[I 0,I 0,I 0,S [], .slice none 0 0] qf.res ?_)
     refine bodyPost_ret (results_cell_row rfl _ _ W 31 _ (0,0) _ rfl (setRow_heap _ _ _ _ _ _ qf.res) Tryz.underlying31 rfl aL) rfl ?_;rw[HQ.out];refine⟨x,_,rfl,qf.od, ?_,qf.below.grown bJ qf.below.size bh⟩;exact EX.weak (EX.grown qf.ex bJ (λr e hb=>by cases e;have:=hb.1;omega)) (λb hb=>by have:=hb.1;show W.heap.size<=b;omega)
  have abA:=aF ZI;clear yq ZI;have hcond:∀(b:Bool) (x6 x7 x8 x9 lu rT jq ja je gX jf xy xD lB lC lD:Value) (e:LE) (aa:Option Addr) (al ac:Nat) (w5:World),OI W eb w5 e aa al ac->KT {tmps:= #[.slice a L c,undef, .pointer (some (W,0)), .pointer (some (W,1,0)), .pointer (some (eb,0)),undef,x6,x7,x8,x9,lu,rT,jq,ja,je,gX,jf,xy,xD,lB,lC,lD, .bool b,undef,undef,undef,undef,undef,undef,undef,undef,undef,undef,undef,undef,undef],defers:= []} w5:=by
   intro b;(iterate 16 intro);intro e aa al ac w5 hoi;refine Bp _ _ ?_;clear Bp KT;have dQ:=aF hoi;have q0:=hoi.row.k0;have q1:=hoi.row.k1;have q2:=hoi.row.k2;have q3:=hoi.row.k3;have q4:=hoi.row.k4;have alD:eb<w5.heap.size:=hoi.row.lt;clear hoi
   cases b with
   |true=>
    go_wp2_with (refine sr 31 (.tmp 4) (.tmp 25) eb #[I e.kind,I e.op,I e.n,S e.name, .slice aa al ac] (ho0 dQ.row) ?_)
    exact abA _ _ _ _ _ _ _ _ _ _ _ _ _ _ _ _ _ _ _ _ _ _ _ _ _ (dQ.wrap 17 rfl)
   |false=>
    go_wp2;exact abA _ _ _ _ _ _ _ _ _ _ _ _ _ _ _ _ _ _ _ _ _ _ _ _ _ dQ
  have Wn:=aF hcond;clear Bp hcond;go_wp2_with (go_at_call 25;refine(gY (W.heap.size+1) 2 w4 qf.src aG aG).mono ?_;rintro e' w5⟨⟨r,rfl,b_,hr2⟩,hs5⟩;have dQ:=aF (qf.draw hs5);clear hs5)
  exact Wn _ _ _ _ _ _ _ _ _ _ _ _ _ _ _ _ _ _ _ _ _ _ dQ
 have DL:=aF hrest;clear uO hrest;by_cases hL:100<L
 ·have GK:(100:Int)<(L:Int):=aG;have ZZ:100<=c:=aG;go_upto_region 3 with(fail)
  have c0:=cB.k0;have f0:=cB.frozen 0;go_wp2;have hg2:w1.grownBy (w1.setCell (W,1,0) (.slice a 100 c)) (some (W.heap.size+1)):=bO _ _ _ _;refine DL _ _ _ _ _ _ _ _ _ _ _ _ (aI.grown hg2 aI.size bh) (bC.kept hg2 aH) ⟨.slice a 100 c,l.take 100,0,cB.set 0 _, ?_,Nat.zero_le _⟩;exact(((gD 100 aG aG).grown (aT aI) aJ i20).grown hg2 bh i20).weak (λb hb=>by omega) i20
 ·have GK: ¬(100:Int)<(L:Int):=aG;go_wp2;refine DL _ _ _ _ _ _ _ _ _ _ _ _ aI bC ⟨.slice a L c,l.take L,0,cB, ?_,Nat.zero_le _⟩;exact((gD L fQ aG).grown (aT aI) aJ i20).weak (λb hb=>by omega) i20
end
end Go.Proofs.YtjgbkdbkachciaaGreatDoor
