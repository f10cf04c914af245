import Derived.Test.YtjgbkdbkachciaaGreatDoorC5
set_option linter.all false
namespace Go.Proofs.YtjgbkdbkachciaaGreatDoor
set_option maxRecDepth 100000
set_option maxHeartbeats 16000000
section
open Go.RowKit Go.Shelf
attribute [local go_sem] Oper.semAt_some
theorem XU (c:cH) (hp:QP c.p):∀K j,j<=K->Ib c j (cz c.p c.most j).expr/\Sa c j (cz c.p c.most j).stmt/\aaa c j (cz c.p c.most j).loop
 |0,j,hj=>by
  obtain rfl:j=0:=aG
  refine⟨?_, ?_, ?_⟩
  ·intro F W d s k fb vb nv vv ns e av h1 h2 h3 h;omega
  ·intro F W d s k fb vb nv vv ns x av tv ev h1 h2 h3 h4 h5 h;omega
  ·intro F W d s k fb vb nv vv ns x av tv ev h1 h2 h3 h4 h5 h6 h;omega
 |K+1,j,hj=>by
  have ih:=XU c hp K
  rcases Nat.lt_or_ge K j with h|h
  ·obtain rfl:j=K+1:=aG
   have hb:∀i,i<=K->J7 c i (cz c.p c.most i).stmt:=λi hi=>XT c i _ (ih i hi).2.1 (λ_ _ _ _ _ _ h=>(sK c.p c.most i).stmt h)
   have hk:=ih K fQ
   refine⟨?_, ?_, ?_⟩
   ·exact afG c K (cz c.p c.most K) hk.1 (Yk c K _ (hb K fQ) hp) (sK c.p c.most K)
   ·exact agy c K (cz c.p c.most K) hk.1 (hb K fQ) hk.2.2 (sK c.p c.most K)
   ·intro F W d s k fb vb nv vv ns x av tv ev h1 h2 h3 h4 h5 h6 h7
    exact afF c K (λi hi=>(ih i hi).1) hb F W d s k fb vb nv vv ns x av tv ev h1 h2 h3 h4 h5 h6 aG
  ·exact ih j h
theorem afC (c:cH) (hp:QP c.p) (K:Nat):R7 c K (cz c.p c.most K).stmt:=
 Yk c K _ (XT c K _ (XU c hp K K fQ).2.1 (λ_ _ _ _ _ _ h=>(sK c.p c.most K).stmt h)) hp
theorem Zd (p:LP) (most:Int):∀K,cz p (max most 0) K=cz p most K
 |0=>rfl
 |K+1=>by
  rw[cz,cz,Zd p most K]
  have h:∀s:aV,(max most 0<=(s.steps:Int))=(most<=(s.steps:Int)):=λs=>propext aG
  have he:iA p (max most 0) (cz p most K)=iA p most (cz p most K):=by
   funext d vs e s;unfold iA;simp only[h]
  have hs:jG p (max most 0) (cz p most K)=jG p most (cz p most K):=by
   funext d c x s;unfold jG;simp only[h]
  rw[he,hs]
theorem Y3 (p:LP) (K:Nat) (inp:List Int) (most:Int):runM p K inp (max most 0)=runM p K inp most:=by
 unfold runM;rw[Zd]
theorem agW (p:LP) (K:Nat) (inp:List Int) (most:Int) {f:LF} {k:Nat} (hk:ji p dX=(k:Nat)) (hf:p.funcs[k]? =some f):runM p K inp most=qF (pT (cz p most K).stmt 0 f [] (st0 p inp)):=by
 rw[JX,N4];have:funcAt p dX=f:=by
  unfold funcAt;rw[hk,qJ,Int.toNat_natCast,List.getD_eq_getElem?_getD,hf];rfl
 rw[this]
theorem Nu {tmps:Array Value} {w:World} {b:Nat} {x y z u:Value} (h6:tmps.getD 6 undef= .pointer (some (b,0))) (hr:Row w b 37 [x,y,z,u]):
  (results Tryz.f18 tmps).run Tryz.prog w= .ok (.agg #[x,y,z,u]) w:=by
 have h6':tmps[6]?.getD undef= .pointer (some (b,0)):=by simpa using h6
 have c0:=hr.k0;have c1:=hr.k1;have c2:=hr.k2;have c3:=hr.k3;simp [results,show Tryz.f18.results= #[.cell 6 37]from rfl,h6',asAddr,go_sem,c0,c1,c2,c3]
def DK (W:World) (rb:Nat) (uo De:List Value) (w:World):Prop:=
 Below W.heap.size W w/\Row w W.heap.size 27 uo/\Row w (W.heap.size+1) 37 [I 0,I 0, .slice none 0 0,I 0]/\Row w rb 81 De/\W.heap.size+1<rb
theorem DK.kept {W w w':World} {rb:Nat} {uo De:List Value} {row:Option Nat} (h:DK W rb uo De w) (hg:w.grownBy w' row) (hr:∀r,row=some r->rb<r):DK W rb uo De w':=by
 obtain⟨h1,h2,h3,h4,h5⟩:=h;exact⟨h1.grown hg h1.size (λr e=>by have:=hr r e;omega),h2.kept hg (λe=>by have:=hr _ e.symm;omega),h3.kept hg (λe=>by have:=hr _ e.symm;omega),h4.kept hg (λe=>by have:=hr _ e.symm;omega),h5⟩
theorem DK.set {W w:World} {rb:Nat} {uo De:List Value} (h:DK W rb uo De w) (j:Nat) (v:Value):DK W rb uo (De.set j v) (w.setCell (rb,j) v):=by
 obtain⟨h1,h2,h3,h4,h5⟩:=h;have hg:w.grownBy (w.setCell (rb,j) v) (some rb):=bO _ _ _ _;exact⟨h1.grown hg h1.size bh,h2.kept hg nX,h3.kept hg nX,h4.set j v,h5⟩
theorem Q7 {c:cH} {F:Nat->Prop} {w:World} {d:Nat} {s:aV} {st cd:Int} {sp:Bool} (h:QR c F w d s st cd sp):∃ov,bZ w 0 ov s.out/\∃iv,Row w c.rb 81 (qL c d iv ov s.steps st cd sp):=by
 obtain⟨iv,ov,h1,_,h3,_⟩:=h.rows;exact⟨ov,h3,iv,h1⟩
theorem agV (p:LP) (hq:QP p) (hok:kR p) (zk:p.arrays.length<=1000000000) (av fv iv:Value) (inp:List Int) (most:Int) (W:World) (hx:PX (·<W.heap.size) W av fv p) (hi:jl (·<W.heap.size) W iv inp) (hm:most<=1000000) (K:Nat) (hK:2*most.toNat+1<=K)
  (BG:∀w,Below W W w->CR 33 #[.agg #[av,fv]] w (.tuple #[I 0, .agg #[I 0,I 0]])):
  Calls Tryz.prog 18 #[.agg #[av,fv],iv,I most] W λe w'=>∃ov,e= .returned (.agg #[I (runM p K inp most).status,I (runM p K inp most).code,ov,I (runM p K inp most).steps])/\bZ w' 0 ov (runM p K inp most).out/\Below W W w':=by
 obtain⟨Q,hQ⟩:∃Q:Ending->World->Prop,Q=λe w'=>∃ov,e= .returned (.agg #[I (runM p K inp most).status,I (runM p K inp most).code,ov,I (runM p K inp most).steps])/\bZ w' 0 ov (runM p K inp most).out/\Below W W w':=⟨_,rfl⟩
 suffices kN:Calls Tryz.prog 18 #[.agg #[av,fv],iv,I most] W (λe w'=>Hid (Q e w'))from kN.mono λe w' h=>by have:=h.out;rwa[hQ]at this
 have HQ:=aF hQ;obtain⟨aa,ac,fa,fc,rfl,rfl⟩:=hx.slice;have⟨fn,hfn⟩:=xq p.funcs.length;have⟨AN,iV⟩:=xq p.arrays.length;rw[<-iV,<-hfn]at hx BG|-;have aaf:AN<=1000000000:=aG;obtain⟨ia,ik,rK,hil⟩:=hi.room;have HI:=aF hi;have HX:=aF hx;have HQP:=aF hq;have qP:=aF hok;have mD:=aF iV;have HK:=aF hK;have HM:=aF hm;have Ph:=aF rK;have⟨il,Fh⟩:=xq inp.length;rw[<-Fh]at rK;subst rK;have HIL:=aF Fh;have yb:=aF BG;clear hQ hx hi hq hok zk hK hm hil Fh hfn iV BG;obtain⟨w0,hw0⟩:∃w0,w0=(W.alloc (.cells #[.slice aa AN ac, .slice fa fn fc] 27)).alloc (.cells wK 37):=⟨_,rfl⟩;have dO:=hw0.symm;have bg:=aF (show Below W W w0 by rw[hw0];exact nR _ _ _);have hp0:Row w0 W 27 [.slice aa AN ac, .slice fa fn fc]:=by rw[hw0];exact dV _ _ hn0
 have zx:=aF (show Row w0 (W,1) 37 [I 0,I 0, .slice none 0 0,I 0] by rw[hw0];exact jF aH);have p0:=hp0.k0;have p1:=hp0.k1;have gT:=aF hp0;clear hw0 hp0;go_enter Tryz.func18,Tryz.ntmps18;go_upto_region 2 with(first|(go_at_call 33;refine aN (yb _ bg) λw1 uf=> ?_;have aI:=aU bg uf)|(refine sr 72 (.tmp 8) (.tmp 16) w1 #[.int .i64 0, .int .i64 0] hn0 ?_;rw[World.setRow_alloc_new]))
 have⟨w2,hw2⟩:=xq (w1.alloc (.cells #[.int .i64 0, .int .i64 0] 72));have hb2:Below W W w2:=by rw[hw2];exact aI.alloc aI.size _
 have hp2:Row w2 W 27 [.slice aa AN ac, .slice fa fn fc]:=by rw[hw2];exact dV _ _ (gT.ext uf.out)
 have hs2:Row w2 (W,1) 37 [I 0,I 0, .slice none 0 0,I 0]:=by rw[hw2];exact dV _ _ (zx.ext uf.out)
 first|rw[<-hw2]|(change Code.wp _ _ _ _ (w1.alloc (.cells #[.int .i64 0, .int .i64 0] 72));rw[<-hw2])
 have q0:=hp2.k0;have q1:=hp2.k1;have aM:=aF hb2;have eX:=aF hp2;have cu:=aF hs2;clear hw2 hb2 hp2 hs2 p0 p1;go_upto_region 5 with(fail)
 have⟨mo,hmo⟩:=xq (max most 0);have⟨w3,hw3⟩:=xq (w2.alloc (.cells #[.slice aa AN ac, .slice fa fn fc, .slice ia il ik, .slice none 0 0, .slice none 0 0,I mo,I 0,I 0,I 0,I 0, .bool false] 81));have⟨rb,cy⟩:=xq w2.heap.size;have hrl:W.heap.size+1<rb:=by rw[cy];exact cu.lt
 have hk3:DK W rb [.slice aa AN ac, .slice fa fn fc] [.slice aa AN ac, .slice fa fn fc, .slice ia il ik, .slice none 0 0, .slice none 0 0,I mo,I 0,I 0,I 0,I 0, .bool false] w3:=by
  rw[hw3,cy];exact⟨aM.alloc aM.size _,dV _ _ eX.out,dV _ _ cu.out,cj _ _,cy▸hrl⟩
 rw[<-hmo,<-hw3,<-cy];have s0:=hk3.2.1.k0;have gy:=aF hk3;have Gs:=aF hmo;clear hw3 cy hk3 q0 q1 bg gT zx aI uf aM eX cu hmo;go_wp2;go_loopg [10] AN (λgh i wr=>∃k:Nat,gh+k=AN/\i=I k/\wr.cell? (W,0)=some (.slice aa AN ac)/\Hid (∃(gz:List (Nat×Nat)) (eW:Value),tO p rb k wr eW gz/\DK W rb [.slice aa AN ac, .slice fa fn fc] [.slice aa AN ac, .slice fa fn fc, .slice ia il ik, .slice none 0 0,eW,I mo,I 0,I 0,I 0,I 0, .bool false] wr))
 case atStart=>exact⟨0,aG,rfl,s0,aF ⟨[],_,tO.nil _ _ _,gy⟩⟩
 case round=>
  clear s0;obtain⟨k,hg,rfl,s0,HH⟩:=hrel;obtain⟨wo,rfl⟩:=xq wr;obtain⟨gz,eW,hai,Mb⟩:=HH.out;have mS:=aF hai;have zy:=aF Mb;clear HH hai Mb;by_cases hlt:k<AN
  ·have bT:(k:Int)<(AN:Int):=aG;have F7:k<p.arrays.length:=by rw[<-mD.out];exact hlt
   obtain⟨b,o,C,rfl,_,hC,hrx⟩:=(HX.below zy.1).arrays.at F7;have e1:=hC 1 aG;rw[hrx.2]at e1;have hsz:=((qP.arrays p.arrays[k] (ak F7)).2);obtain⟨n,hn⟩:∃x,x=(p.arrays[k]).size.toNat:=⟨_,rfl⟩;have hnz:(p.arrays[k]).size=(n:Int):=by rw[hn];omega
   rw[hnz]at e1 hsz;have CP:n<=1048576:=aG;have HN:=aF hn;have CQ:=aF F7;have pY:=aF e1;clear hC hrx hn hnz hsz e1;go_upto_region 8 with(fail)
   refine G5 aL (λX=>X.cell? (rb,4)=some eW/\X.cell? (W,0)=some (.slice (some (b,o)) AN ac)/\X.cell? (b,o+k*2+1)=some (I n))
    [(0,0),(0,1),(0,2),(0,3),(0,4),(0,5),(0,6),(0,7),(0,8),(0,9),(0,10),(1,11),(1,12),(1,13),(0,14),(0,15),(2,16)] aL ?hS ?_
   case hS=>intro wd hh;exact⟨aO zy.2.2.2.1 hh 4,aO zy.2.1 hh 0,bY hh pY⟩
   intro wd hh hgd hS;have BH:=aF (aS pY hgd aH);have ye:=aF (zy.kept hgd aJ);have HAD:=aF (mS.kept hgd aJ);clear hh hgd zy mS;refine nE ?_;go_wp2_with (at_make;refine XX rfl _ _ rfl n rfl rfl CP ?_)
   have⟨wm,Fi⟩:=xq (wd.alloc (.cells (Array.replicate n (I 0)) 3));have CS:wm=wd.alloc (.cells (List.replicate n (I 0)).toArray 3):=by rw[Fi,List.toArray_replicate]
   have Bi:wd.grownBy wm none:=by rw[CS];exact cE _ _ none
   have HEM:=aF (aS BH Bi aH);have p7:=aF (ye.kept Bi aJ);have F8:=aF CS;rw[<-Fi];clear CS Fi Bi hS;refine bw ⟨p7.2.2.2.1.cell 4,p7.2.1.cell 0,HEM⟩ λhS=> ?_;refine h_ ?_;go_wp2;have⟨wb,hwb⟩:=xq (wm.alloc (.cells #[.slice (some (wd,0)) n n] 22));have hgb:wm.grownBy wb none:=by rw[hwb];exact cE _ _ none
   have HEB:=aF (aS HEM hgb aH);have Ee:=aF (p7.kept hgb aJ);have sW:=aF (dZ hwb);have Bj:=aF ((HAD.kept (w':=wm) (row:=none) (by rw[F8.out];exact cE _ _ none) aJ).kept hgb aJ);have Mc:=aF hwb;have Sd:rb+1<=wb.heap.size:=Ee.2.2.2.1.lt;have hgl:gz.length<=1000000000:=by rw[Bj.count (cw CQ)];omega
   rw[<-hwb];clear hwb hgb hS;refine bw ⟨Ee.2.2.2.1.cell 4,Ee.2.1.cell 0,HEB⟩ λhS=> ?_;refine h_ ?_;go_wp2_with (at_builtin;refine lX aae rfl _ _ rfl NS YQ (rb+1) eW gz rfl Bj.own wm.heap.size (wd.heap.size,n) rfl (λj hj=>(cell_of_block sW.out j).trans (by simp [Fg])) hgl aQ Sd ?_;intro g' cap w6 dY bG fy lZ;have gK:=aF dY;have di:=aF bG;have gN:=aF fy;clear dY bG fy lZ)
   have Ie:∀r,eW.ownBlock=some r->rb<r:=λr e=>(cO Bj.own r e).1;have ir:=aF (Ee.kept di Ie);have hbW:b<W.heap.size:=by
    have hx':=HX.out;obtain⟨_,_,kS,_,hxo⟩:=hx'.arrays;rcases hxo with h0|⟨b',o',e',hb',_⟩
    ·exact absurd CQ.out (by rw[h0];simp)
    ·simp only[Value.slice.injEq]at kS;rw[<-kS.1]at e';simp only[Option.some.injEq,Addr.mk.injEq,and_true]at e';rw[e'.1];exact hb'
   have uv:=aF (aS HEB di (λe=>by have:=Ie b e.symm;have:=ir.2.2.2.2;omega));clear hS Ie hbW;refine bw ⟨ir.2.2.2.1.cell 4,ir.2.1.cell 0,uv⟩ λhS=> ?_;refine wV ?_;clear hS;have f3:=ir.2.2.2.1.frozen 4;have c3:=ir.2.2.2.1.k4;refine nu ?_;go_wp2;refine iG (kK ?_);have h6:=tO.app (o:= .cells #[.slice (some (wd,0)) n n] 22) HAD CQ HN (by have:=ye.2.2.2.1.lt;exact this) gK (by rw[<-F8.out,<-Mc.out];exact di.out) rfl (by rw[<-F8.out,<-Mc.out];exact gN.out);have⟨w7,cT⟩:=xq (w6.setCell (rb,4) (.slice (some (g',0)) (gz.length+1) cap));have H7:=aF (h6.kept (w':=w7) (row:=some rb) (by rw[cT];exact bO _ _ _ _) u_);have kC:=ir.set 4 (.slice (some (g',0)) (gz.length+1) cap);rw[<-cT]at kC|-;have nI:=aF kC;have s7:=kC.2.1.k0;clear cT kC h6 f3 c3 s0;go_wp2;go_roundg (AN - (k+1))
   case measure=>omega
   case rel=>exact⟨k+1,aG,by go_num,s7,aF ⟨_,_,H7,nI⟩⟩
  ·have bT: ¬(k:Int)<(AN:Int):=aG;have hkn:k=AN:=aG;subst hkn;obtain⟨F,hF⟩:∃F:Nat->Prop,F=λb=>b<wo.heap.size/\b≠rb/\∀x∈gz,x.1≠b:=⟨_,rfl⟩;obtain⟨hbl,mU,hs3,hr3,Sg⟩:=zy.out;have CT:∀b,b<W.heap.size->F b:=λb hb=>by
    rw[hF];have:=hbl.size;exact⟨aG,aG,λx hx=>by have:=(mS.row x hx).1;omega⟩
   have Ce:gz.length=p.arrays.length:=by rw[mS.count (by rw[mD.out];exact ay _)];exact mD.out
   obtain⟨c,hc⟩:∃c:cH,c=⟨F,p, .slice aa k ac, .slice fa fn fc,eW,gz,mo,rb⟩:=⟨_,rfl⟩;have her:QR c F wo 0 (st0 p inp) 0 0 false:=by
    rw[hc];refine⟨⟨λb hb=>by rw[hF]at hb;exact hb.1,λb hb=>hb,by show¬F rb;rw[hF];exact λh=>h.2.1 rfl,(HX.below hbl).weak CT, ?_,mS.nodup,λx hx=>⟨?_, ?_⟩, ?_,Ce,λi x l hx hl=> ?_⟩,⟨aH,aH,aG,(by show mo<=1000000;have:=HM.out;have:=Gs.out;omega)⟩, .slice ia il ik, .slice none 0 0,hr3,⟨?_,HI.room⟩,bZ.nil _ _,λg hg=>(by cases hg)⟩
    ·
     show aP F 1 UJ wo eW gz;rcases mS.own.2 with⟨hv,h0⟩|⟨g,cap,cur,hv,hbg,hgr,hrest⟩
     ·have hn0:gz= []:=List.length_eq_zero_iff.1 h0;rw[hv,hn0];exact aP.nil _ _ _ _
     ·refine⟨some (g,0),cap,hv,by rw[Ce,<-mD.out];exact aaf, .inr ⟨g,0,rfl, ?_,λi x hx=>⟨λ_=> .slice (some ⟨x.1,0,none⟩) x.2 x.2,λj hj=> ?_,rfl⟩⟩⟩
      ·rw[hF];exact⟨(aD hgr).1,aG,λx hx e=>(mS.row x hx).2.1 (by rw[hv,e];rfl)⟩
      ·obtain⟨hi,uq⟩:=aj hx;obtain⟨g2,c2,hv2,_,hcell⟩:=mS.own.cell NS hi;have hgg:g2=g:=by rw[hv]at hv2;simp at hv2;exact hv2.1.symm
       obtain rfl:j=0:=aG;have:=(hcell 0 aQ).1;rw[hgg,uq]at this;rw[Nat.zero_add,this];rfl
    ·have:=(mS.row x hx).1;show x.1≠rb;omega
    ·rw[hF];exact λh=>h.2.2 x hx rfl
    ·show(p.arrays.map λa=>List.replicate a.size.toNat (0:Int)).length=gz.length;rw[aC,Ce]
    ·have hx:gz[i]? =some x:=hx;have hl:(p.arrays.map λa=>List.replicate a.size.toNat (0:Int))[i]? =some l:=hl;obtain⟨hi,uq⟩:=aj hx;have h3:=(mS.row x (by rw[<-uq];exact ak hi)).2.2;have h2:=congrArg (λl=>l[i]?) mS.len;simp only[List.getElem?_map,hx,mD.out,List.take_length,Option.map_some]at h2;rw[List.getElem?_map]at hl;cases hp:p.arrays[i]? with
     |none=>rw[hp]at hl;cases hl
     |some a=>
      rw[hp]at hl h2;obtain rfl:List.replicate a.size.toNat (0:Int)=l:=by simpa using hl
      obtain h2:x.2=a.size.toNat:=by simpa using h2
      rw[List.map_replicate,List.length_replicate,<-h2];exact⟨h3,rfl⟩
    ·exact(HI.sl.grown (bX hbl none) aJ i20).weak CT i20
   obtain⟨j,hj,hjl,j5⟩:=HQP.main;have⟨f,hf⟩:=xq (p.funcs[j]);have qc:p.funcs[j]? =some f:=by rw[ah hjl,hf]
   rw[<-hf]at j5;have MH:c.p=p:=by rw[hc]
   have CJ:c.rb=rb:=by rw[hc]
   have hcall:=λ(X:World) (hX:Below wo wo X)=>afC c (by rw[MH];exact HQP.out) K F X 0 (st0 p inp) j f (.slice none 0 0) [] (her.below hX) (by rw[MH];exact qc) (by rw[j5];rfl) (aP.nil _ _ _ _) (by show 2*(c.most - ((0:Nat):Int)).toNat+1<=K;rw[hc];have:=HK.out;have:=Gs.out;show 2*(mo - ((0:Nat):Int)).toNat+1<=K;omega) aG
   rw[MH,CJ,show c.most=mo by rw[hc]]at hcall;have R3:runM p K inp most=qF (pT (cz p mo K).stmt 0 f [] (st0 p inp)):=by
    rw[<-Y3,<-Gs.out];exact agW p K inp mo hj qc
   have⟨r5,bp⟩:=xq (pT (cz p mo K).stmt 0 f [] (st0 p inp));rw[<-bp]at R3 hcall;have iI:=aF R3;have jk:=aF hcall;have eG:=aF (Nt p dX (.slice aa k ac) (.slice fa fn fc) wo (·<W.heap.size) (HX.below hbl));rw[hj]at eG;have Md:F (W,1):=by rw[hF];exact⟨hs3.lt,aG,λx hx=>by have:=(mS.row x hx).1;omega⟩
   have CX:=aF her;have Me:=aF Md;have Mf:=aF CT;have aW:=aF hbl;have gB:=aF hs3;have AG:=aF (λ(X:World) (hX:Below wo wo X)=>KF.below hX her.b.lt);have q3:=mU.k0;have q4:=mU.k1;have hrn:rb≠W.heap.size+1:=aG;have OJ:=aF CJ;clear hbl mU hs3 hr3 her hcall Md CT hF Ce Sg hc MH CJ hj hjl j5 hf qc R3 s0;cases r5 with
   |stop a b s5=>
    have cL:=aF bp;clear bp;go_upto_region 10 with(first|(go_at_call 35;refine aN eG λw4 hb4=> ?_;have Gz:=aF (jk w4 hb4);have bR:=aF (AG w4 hb4))|(go_at_call 34;refine Gz.mono ?_;rintro e' w5⟨cg,n5,rfl,dL⟩;have MI:=aF dL;have kW:=aF (bR.out.trans cg);clear cg dL))
    obtain⟨VF,VG,kV, -⟩:=MI.rows;rw[OJ.out]at kV;have t8:=kV.k8;have t10:=kV.k10;have CJ:=OJ.out;by_cases ha:a=0
    ·subst ha;have akR:w5.cell? (rb,10)=some (.bool true):=t10;clear t10 kV q3 q4;obtain⟨ov8,qd,iv8,lU⟩:=Q7 MI;obtain⟨oa,oc,rfl⟩:=qd.slice;have Ey:=kW.row gB Me;simp only[qL,CJ]at lU;have⟨L,hL⟩:=xq (runM p K inp most);have Bw:=aF (show L=⟨0,b,s5.out,s5.steps⟩ by rw[hL,iI.out];rfl);have⟨ol,hol⟩:=xq s5.out.length;rw[<-hol]at qd lU;rw[<-hL]at HQ;have UK:=aF hol;have Ez:=aF qd;have Df:=aF Ey;have oF:=aF lU;clear hL hol qd Ey lU;go_upto_region 12 with(fail)
     refine cC (λX=>X.cell? (rb,8)=some (I 0)/\X.cell? (rb,9)=some (I b)/\X.cell? (rb,3)=some (.slice oa ol oc)/\X.cell? (rb,6)=some (I s5.steps)) [0,0,0,0,0,0,0,0,0,0,0,0,0,0,0,0,0,2] (λwd hh=>⟨aO oF.out hh 8,aO oF.out hh 9,aO oF.out hh 3,aO oF.out hh 6⟩) λwd hh hgd hS=> ?_;have pL:=Df.kept hgd aH;have jB:=bZ.tag Ez hgd eF;have⟨w9,lq⟩:=xq (wd.setRow (W,1) #[I 0,I b, .slice oa ol oc,I s5.steps]);have DZ:=lq.symm;have f_:wd.grownBy w9 (some (W,1)):=by rw[lq];exact bJ
     have D5:Row w9 (W,1) 37 [I 0,I b, .slice oa ol oc,I s5.steps]:=by rw[lq];exact setRow_heap _ _ _ _ _ _ pL
     have yR:=bZ.tag jB f_ (ld.box 3 pL aQ);have A7:Below W W w9:=by
      refine⟨((f_.os.trans hgd.os).trans kW.os).trans aW.os,((f_.tape.trans hgd.tape).trans kW.tape).trans aW.tape,((f_.output.trans hgd.output).trans kW.output).trans aW.output,az (az aW.size kW.size) (az hgd.size f_.size),λb hb=> ?_⟩;have h1:=aW.size;have h2:=kW.size;have h3:=hgd.size;exact(((f_.block b aG ct).trans (hgd.block b aG aH)).trans (kW.block b (Mf.out b hb))).trans (aW.block b hb)
     have EB:=aF pL;have LB:=aF D5;have Fk:=aF yR;have LC:=aF A7;clear hh hgd pL jB lq f_ D5 yR A7 t8 akR;refine Gf ?_;refine nu ?_;go_wp2_with (refine sr 37 (.tmp 6) (.tmp 84) (W.heap.size+1) wK EB.out ?_;rw[DZ])
     refine iG (kK ?_);clear hS DZ;go_wp2;refine bodyPost_ret (Nu rfl LB.out) rfl ?_;rw[HQ.out,Bw.out];exact aF ⟨_,rfl,Fk,LC⟩
    ·have hab:(a==0)=false:=bu ha;rw[hab]at t10;clear kV q3 q4;obtain⟨ov8,qd,iv8,lU⟩:=Q7 MI;obtain⟨oa,oc,rfl⟩:=qd.slice;have Ey:=kW.row gB Me;simp only[qL,CJ]at lU;have⟨L,hL⟩:=xq (runM p K inp most);have Bw:=aF (show L=⟨a,b,s5.out,s5.steps⟩ by rw[hL,iI.out];rfl);have⟨ol,hol⟩:=xq s5.out.length;rw[<-hol]at qd lU;rw[<-hL]at HQ;have UK:=aF hol;have Ez:=aF qd;have Df:=aF Ey;have oF:=aF lU;clear hL hol qd Ey lU;go_upto_region 12 with(fail)
     refine cC (λX=>X.cell? (rb,8)=some (I a)/\X.cell? (rb,9)=some (I b)/\X.cell? (rb,3)=some (.slice oa ol oc)/\X.cell? (rb,6)=some (I s5.steps)) [0,0,0,0,0,0,0,0,0,0,0,0,0,0,0,0,0,2] (λwd hh=>⟨aO oF.out hh 8,aO oF.out hh 9,aO oF.out hh 3,aO oF.out hh 6⟩) λwd hh hgd hS=> ?_;have pL:=Df.kept hgd aH;have jB:=bZ.tag Ez hgd eF;have⟨w9,lq⟩:=xq (wd.setRow (W,1) #[I a,I b, .slice oa ol oc,I s5.steps]);have DZ:=lq.symm;have f_:wd.grownBy w9 (some (W,1)):=by rw[lq];exact bJ
     have D5:Row w9 (W,1) 37 [I a,I b, .slice oa ol oc,I s5.steps]:=by rw[lq];exact setRow_heap _ _ _ _ _ _ pL
     have yR:=bZ.tag jB f_ (ld.box 3 pL aQ);have A7:Below W W w9:=by
      refine⟨((f_.os.trans hgd.os).trans kW.os).trans aW.os,((f_.tape.trans hgd.tape).trans kW.tape).trans aW.tape,((f_.output.trans hgd.output).trans kW.output).trans aW.output,az (az aW.size kW.size) (az hgd.size f_.size),λb hb=> ?_⟩;have h1:=aW.size;have h2:=kW.size;have h3:=hgd.size;exact(((f_.block b aG ct).trans (hgd.block b aG aH)).trans (kW.block b (Mf.out b hb))).trans (aW.block b hb)
     have EB:=aF pL;have LB:=aF D5;have Fk:=aF yR;have LC:=aF A7;clear hh hgd pL jB lq f_ D5 yR A7 t8 t10;refine Gf ?_;refine nu ?_;go_wp2_with (refine sr 37 (.tmp 6) (.tmp 84) (W.heap.size+1) wK EB.out ?_;rw[DZ])
     refine iG (kK ?_);clear hS DZ;go_wp2;refine bodyPost_ret (Nu rfl LB.out) rfl ?_;rw[HQ.out,Bw.out];exact aF ⟨_,rfl,Fk,LC⟩
   |ok n s5=>
    have cL:=aF bp;clear bp;go_upto_region 10 with(first|(go_at_call 35;refine aN eG λw4 hb4=> ?_;have Gz:=aF (jk w4 hb4);have bR:=aF (AG w4 hb4))|(go_at_call 34;refine Gz.mono ?_;rintro e' w5⟨cg,n5,rfl,rz,dL⟩;have xm:=aF dL;have nI:=aF (bR.out.trans cg);subst rz;clear cg dL))
    obtain⟨VF,VG,kV, -⟩:=xm.rows;rw[OJ.out]at kV;have t8:=kV.k8;have t10:=kV.k10;have CJ:=OJ.out;have hen:=Hi c F w5 0 s5 1 n5 xm;rw[CJ]at hen;have wQ:=aF hen;have ajo:True:=trivial;by_cases ht:True
    ·clear ht ajo kV q3 q4 hen;go_upto_region 12 with(go_at_call 36;refine wQ.mono ?_;rintro e' w8⟨rfl,EC,BI⟩;have MI:=aF EC;have kW:=aF (nI.out.trans BI);clear EC BI)
     obtain⟨ov8,qd,iv8,lU⟩:=Q7 MI;obtain⟨oa,oc,rfl⟩:=qd.slice;have Ey:=kW.row gB Me;simp only[qL,CJ]at lU;have⟨L,hL⟩:=xq (runM p K inp most);have Bw:=aF (show L=⟨1,n5,s5.out,s5.steps⟩ by rw[hL,iI.out];rfl);have⟨ol,hol⟩:=xq s5.out.length;rw[<-hol]at qd lU;rw[<-hL]at HQ;have UK:=aF hol;have Ez:=aF qd;have Df:=aF Ey;have oF:=aF lU;clear hL hol qd Ey lU;refine cC (λX=>X.cell? (rb,8)=some (I 1)/\X.cell? (rb,9)=some (I n5)/\X.cell? (rb,3)=some (.slice oa ol oc)/\X.cell? (rb,6)=some (I s5.steps)) [0,0,0,0,0,0,0,0,0,0,0,0,0,0,0,0,0,2] (λwd hh=>⟨aO oF.out hh 8,aO oF.out hh 9,aO oF.out hh 3,aO oF.out hh 6⟩) λwd hh hgd hS=> ?_;have pL:=Df.kept hgd aH;have jB:=bZ.tag Ez hgd eF;have⟨w9,lq⟩:=xq (wd.setRow (W,1) #[I 1,I n5, .slice oa ol oc,I s5.steps]);have DZ:=lq.symm;have f_:wd.grownBy w9 (some (W,1)):=by rw[lq];exact bJ
     have D5:Row w9 (W,1) 37 [I 1,I n5, .slice oa ol oc,I s5.steps]:=by rw[lq];exact setRow_heap _ _ _ _ _ _ pL
     have yR:=bZ.tag jB f_ (ld.box 3 pL aQ);have A7:Below W W w9:=by
      refine⟨((f_.os.trans hgd.os).trans kW.os).trans aW.os,((f_.tape.trans hgd.tape).trans kW.tape).trans aW.tape,((f_.output.trans hgd.output).trans kW.output).trans aW.output,az (az aW.size kW.size) (az hgd.size f_.size),λb hb=> ?_⟩;have h1:=aW.size;have h2:=kW.size;have h3:=hgd.size;exact(((f_.block b aG ct).trans (hgd.block b aG aH)).trans (kW.block b (Mf.out b hb))).trans (aW.block b hb)
     have EB:=aF pL;have LB:=aF D5;have Fk:=aF yR;have LC:=aF A7;clear hh hgd pL jB lq f_ D5 yR A7 t8 t10;refine Gf ?_;refine nu ?_;go_wp2_with (refine sr 37 (.tmp 6) (.tmp 84) (W.heap.size+1) wK EB.out ?_;rw[DZ])
     refine iG (kK ?_);clear hS DZ;go_wp2;refine bodyPost_ret (Nu rfl LB.out) rfl ?_;rw[HQ.out,Bw.out];exact aF ⟨_,rfl,Fk,LC⟩
    ·exact absurd trivial ht
end
section
open Go.RowKit Go.Shelf
def iR (s s':aV):Prop:=s'.out.length+s.steps<=s.out.length+s'.steps
theorem iR.refl (s:aV):iR s s:=ay _
theorem iR.trans {a b c:aV} (h:iR a b) (k:iR b c):iR a c:=by unfold iR at*;omega
theorem iR.tick (s:aV):iR s (tick s):=by show s.out.length+s.steps<=s.out.length+(s.steps+1);omega
theorem Ra {f:LE->aV->b6 Int} (hf:∀e s,iR s (f e s).fin):∀(l:List LE) (s:aV),iR s (dw f l s).fin
 | [],s=>iR.refl s
 |e::l,s=>by
  have h1:=hf e s
  rw[dw]
  cases he:f e s with
  |stop a b t=>rw[he]at h1;exact h1
  |ok n t=>
   rw[he]at h1
   have h2:=Ra hf l t
   simp only
   cases hl:dw f l t with
   |stop a b u=>rw[hl]at h2;exact h1.trans h2
   |ok ns u=>rw[hl]at h2;exact h1.trans h2
theorem NC {f:bM->LS->aV->b6 (Int×bM)} (hf:∀c x s,iR s (f c x s).fin):∀(l:List LS) (c:bM) (s:aV),iR s (eO f l c s).fin
 | [],_,s=>iR.refl s
 |x::l,c,s=>by
  have h1:=hf c x s
  rw[eO]
  cases he:f c x s with
  |stop a b t=>rw[he]at h1;exact h1
  |ok r t=>
   rw[he]at h1
   simp only
   split
   ·exact h1.trans (NC hf l r.2 t)
   ·exact h1
theorem YM {p:LP} {m:j6} (hm:Kept iR m) (d:Nat) (x:aK) (args:List Int) (s:aV):iR s (lM p m.stmt d x args s).fin:=by
 unfold lM;have h1:=NC (hm.stmt (d+1)) (funcAt p x).body ⟨oN (funcAt p x) args,0⟩ s;cases hl:eO (m.stmt (d+1)) (funcAt p x).body ⟨oN (funcAt p x) args,0⟩ s with
 |stop a b u=>rw[hl]at h1;exact h1
 |ok q u=>rw[hl]at h1;exact h1
theorem Ze (p:LP) (most:Int):∀k,Kept iR (cz p most k)
 |0=>⟨λ_ _ _ s=>iR.refl s,λ_ _ _ s=>iR.refl s,λ_ _ _ s=>iR.refl s⟩
 |k+1=>by
  have hm:=Ze p most k
  have⟨m,hmm⟩:=xq (cz p most k)
  rw[<-hmm]at hm
  show Kept iR ⟨iA p most (cz p most k),jG p most (cz p most k),kz (cz p most k)⟩
  rw[<-hmm]
  clear hmm
  refine⟨λd vs e s=> ?_,λd c x s=> ?_,λd c x s=> ?_⟩
  ·show iR s (iA p most m d vs e s).fin
   unfold iA
   by_cases hlt:most<=(s.steps:Int)
   ·rw[if_pos hlt];exact iR.refl s
   rw[if_neg hlt]
   refine(iR.tick s).trans ?_
   have h1:=Ra (hm.expr d vs) e.args (tick s)
   show iR (tick s) (match dw (m.expr d vs) e.args (tick s)with| .stop a b s=>_| .ok args s=>_:b6 Int).fin
   cases hl:dw (m.expr d vs) e.args (tick s)with
   |stop a b u=>rw[hl]at h1;exact h1
   |ok args u=>
    rw[hl]at h1
    refine h1.trans ?_
    show iR u _
    dsimp only
    repeat' split
    all_goals first
     |exact iR.refl u
     |exact YM hm _ _ _ _
  ·show iR s (jG p most m d c x s).fin
   unfold jG
   by_cases hlt:most<=(s.steps:Int)
   ·rw[if_pos hlt];exact iR.refl s
   rw[if_neg hlt]
   have ht:=iR.tick s
   by_cases h4:x.kind=4
   ·rw[if_pos h4];exact ht.trans (hm.loop d c x (tick s))
   rw[if_neg h4]
   by_cases h5:x.kind=5
   ·rw[if_pos h5];exact ht
   rw[if_neg h5]
   by_cases h6:x.kind=6
   ·rw[if_pos h6];exact ht
   rw[if_neg h6]
   have h1:=Ra (hm.expr d c.vars) x.args (tick s)
   show iR s (match dw (m.expr d c.vars) x.args (tick s)with| .stop a b s=>_| .ok args s=>_:b6 (Int×bM)).fin
   cases hl:dw (m.expr d c.vars) x.args (tick s)with
   |stop a b u=>rw[hl]at h1;exact ht.trans h1
   |ok args u=>
    rw[hl]at h1
    have h2:iR s u:=ht.trans h1
    have h3:u.out.length+1+s.steps<=s.out.length+u.steps:=by
     have h1:u.out.length+(s.steps+1)<=s.out.length+u.steps:=h1;omega
    show iR s _;dsimp only
    repeat' split
    all_goals first
     |exact h2
     |exact h2.trans (NC (hm.stmt d) _ _ _)
     |(show(u.out++_).length+s.steps<=s.out.length+u.steps;rw[ax];exact h3)
  ·show iR s (kz m d c x s).fin;unfold kz;have h1:=hm.expr d c.vars (x.args.getD 0 (.mk 0 0 0 [] [])) s;cases he:m.expr d c.vars (x.args.getD 0 (.mk 0 0 0 [] [])) s with
   |stop a b u=>rw[he]at h1;exact h1
   |ok n u=>
    rw[he]at h1;refine h1.trans ?_;show iR u _;simp only;split
    ·exact iR.refl u
    have h2:=NC (hm.stmt d) x.thn c u;cases hl:eO (m.stmt d) x.thn c u with
    |stop a b v=>rw[hl]at h2;exact h2
    |ok r v=>
     rw[hl]at h2;refine h2.trans ?_;simp only;split
     ·exact iR.refl v
     split
     ·exact iR.refl v
     exact hm.loop d r.2 x v
theorem aiq (p:LP) (inp:List Int) (most:Int) (k:Nat):(runM p k inp most).out.length<=(runM p k inp most).steps:=by
 rw[JX];have h:=YM (p:=p) (Ze p most k) 0 dX [] (st0 p inp);have⟨x,hx⟩:=xq (lM p (cz p most k).stmt 0 dX [] (st0 p inp));rw[<-hx]at h|-;have h2:x.fin.out.length<=x.fin.steps:=by
  have h:x.fin.out.length+0<=0+x.fin.steps:=h;omega
 cases x<;>exact h2
theorem ahH (p:LP) (K:Nat) (inp:List Int) (most:Int) (hK:2*most.toNat+1<=K):(pV p K inp most).out.length<=most.toNat:=by
 unfold pV;split
 ·have h1:=ahP p inp most.toNat most.toNat K hK fQ;have h2:=aiq p inp (most.toNat:Int) K;have h3:runM p K inp most=runM p K inp (most.toNat:Int):=by
   rw[<-Y3 p K inp most]
   congr 1
   omega
  rw[h3];have:=h1.within;omega
 ·exact Nat.zero_le _
end
end Go.Proofs.YtjgbkdbkachciaaGreatDoor
