import Derived.Test.YtjgbkdbkachciaaGreatDoorD5
set_option linter.all false
namespace Go.Proofs.YtjgbkdbkachciaaGreatDoor
set_option maxRecDepth 100000
set_option maxHeartbeats 16000000
section
open Go.RowKit Go.Shelf
attribute [local go_sem] Oper.semAt_some
theorem afu {B:Nat->Prop} {w:World} {ops:Array Oper} {rest:List Oper} {o:Oper} {a:Act} {Q:Exit->Act->World->Prop} (hgd:o.guard=none) (s x:Operand)
  (ho:o.op= .call {callee:= .builtin .append,args:= #[s,x],argTypes:= #[22,22]})
  (base:Nat) (v:Value) (l:List Int) (hs:a.eval s=v) (hown:bZ w base v l)
  (xv:Value) (ys:List Int) (hx:a.eval x=xv) (hys:aP B 1 RI w xv ys)
  (hl:l.length+ys.length<=1000000000) (hbase:base<=w.heap.size)
  (h:∀v' w',bZ w' base v' (l++ys)->w.grownBy w' v.ownBlock->wpList Tryz.prog ops Q rest (a.put o.dst v') w'):wpList Tryz.prog ops Q (o::rest) a w:=by
 obtain⟨xa,xc,rfl,hm,td⟩:=hys;rcases Nat.eq_zero_or_pos ys.length with h0|h0
 ·have hn:ys= []:=List.length_eq_zero_iff.1 h0;subst hn;refine JA RP hgd s x ho base v _ _ hs hown xa xc (by simpa using hx) ?_;exact h v w (by simpa using hown) ⟨rfl,rfl,rfl,ay _,λ_ _ _=>rfl⟩
 ·rcases td with rfl|⟨b,of,rfl, -,hc⟩
  ·exact absurd h0 aH
  refine JG RP hgd s x ho base v _ _ hs hown ⟨b,of,none⟩ ys.length xc (ys.map I) hx aH ?_ ?_ h0 aG (by unfold maxLen;omega) hbase ?_
  ·intro j u hu;rw[List.getElem?_map]at hu;cases hj:ys[j]? with
   |none=>rw[hj]at hu;cases hu
   |some y=>
    rw[hj]at hu;obtain⟨C,hC,hR⟩:=hc j y hj;have h1:=hC 0 aQ;rw[show C 0=I y from hR]at h1;rw[Hu];simp only[Nat.mul_one,aA]at h1;rw[h1];exact hu
  ·intro u hu;obtain⟨x,_,rfl⟩:=List.mem_map.1 hu;rfl
  ·intro g' cap w' h1 h2 h3 h4;refine h _ _ ?_ h2;unfold bZ;rw[ax,List.map_append];exact h1
theorem WU (n:Nat):(Builtin.zeroCells #[I 0] n).toList=List.replicate n (I 0):=by
 simp only[Builtin.zeroCells,List.size_toArray,aq,au,Nat.zero_add,Nat.mul_one,Array.toList_map,Array.toList_range];rw[List.eq_replicate_iff];refine⟨aH,λb hb=> ?_⟩;obtain⟨i,_,rfl⟩:=List.mem_map.1 hb;rw[Nat.mod_one];rfl
theorem agL (w:World) (base:Nat) (ty:TypeId) (v:Value) (l:List Int) (hown:bZ w base v l) (n:Nat) (hl:l.length+n<=1000000000) (hbase:base<=w.heap.size):
  ∃v' w',(Builtin.append_ #[22,3] ty #[v,I n]).run Tryz.prog w= .ok v' w'/\bZ w' base v' (l++List.replicate n 0)/\w.grownBy w' v.ownBlock:=by
 obtain⟨i,hi,hz,hsz,hby⟩:=info_parts (show(Tryz.prog.info? 3).map (λi=>(i.zero,i.size,i.bytes))=some (some (.int .i64 0),1,8) by kernel_rfl);have ht:=Tryz.underlying22;have htn:=Tryz.underlying3;have hw:IntKind.i64.wrap (n:Int)=n:=by rw[IntKind.wrap_i64];omega
 have hneg: ¬((n:Int)<0):=aG;have h48i: ¬(281474976710656<(n:Int)*(8:Int)):=aG;have hlm:(l++List.replicate n 0).map I=l.map I++List.replicate n (I 0):=by rw[List.map_append,List.map_replicate]
 have hlen:((l++List.replicate n 0).map I).length=(l.length+n)*1:=aH;have grown:∀(old:Nat) (pre:List Value),pre=l.map I->old<l.length+n->∀(row:Option Nat),
   bZ (w.drew.alloc (.cells (pre.toArray++Builtin.zeroCells #[I 0] n++Builtin.zeroCells #[I 0] (grownCap w (l.length+n) old 3 - (l.length+n))) 3)) base (.slice (some (w,0)) (l.length+n) (grownCap w (l.length+n) old 3)) (l++List.replicate n 0)/\
   w.grownBy (w.drew.alloc (.cells (pre.toArray++Builtin.zeroCells #[I 0] n++Builtin.zeroCells #[I 0] (grownCap w (l.length+n) old 3 - (l.length+n))) 3)) row:=by
  intro old pre hp ho row;have hge:=grownCap_ge w (l.length+n) old 3;have hcm:grownCap w (l.length+n) old 3<=maxLen:=grownCap_le_maxLen w _ old 3 (by unfold maxLen;omega);refine⟨⟨aH, .inr ⟨w.heap.size,_,_,aH,hbase,cj w.drew _,by simpa using hge,hcm, ?_, ?_⟩⟩,⟨rfl,rfl,rfl,aH,λk hk _=>Below.heap_alloc w.drew _ k hk⟩⟩
  ·simp only[Array.size_append,List.size_toArray,size_zeroCells,hp,aC,aq,au];omega
  ·rw[Array.toList_append,Array.toList_append,WU,hp];show List.take ((l++List.replicate n 0).length*1) _=(l++List.replicate n 0).map I;rw[hlm];exact List.take_left' aH
 rcases hown.2 with⟨rfl,h0⟩|⟨g,cap,cur,rfl,hbg,hg,hnc,hcm,hcs,htake⟩
 ·have hx:l= []:=List.eq_nil_of_length_eq_zero h0;subst hx;rcases Nat.eq_zero_or_pos n with rfl|hn
  ·refine⟨.slice none 0 0,w, ?_,by simpa using hown,⟨rfl,rfl,rfl,ay _,λ_ _ _=>rfl⟩⟩;simp [Builtin.append_,run_underlying ht,run_underlying htn,sizeOf,typeInfo,zeroValue,hi,hz,hsz,hby,asInt,asIntOf,IntKind.wrap_i64]
  ·have hr:=Lib.run_append_nil_zeros (P:=Tryz.prog) w 22 3 ty 3 i (.int .i64 0) .i64 .i64 ht htn hi hz n hn aG aG (by rw[hby];omega);have hgr:=grown 0 [] rfl (by simpa using hn) none;simp only[au,Nat.zero_add,Array.empty_append]at hgr;exact⟨_,_,hr,hgr.1,hgr.2⟩
 ·by_cases hroom:l.length+n<=cap
  ·have hst:=run_storeCells_at Tryz.prog g (l.length*1) 3 (List.replicate n (I 0)) 0 cur w hg (by simp at hcs|-;omega) (λu hu=>by rw[(List.mem_replicate.1 hu).2];rfl);simp only[aA,Nat.mul_one,List.length_replicate]at hst;refine⟨.slice (some (g,0)) (l.length+n) cap,w.setRow g (cur.toList.take l.length++List.replicate n (I 0)++cur.toList.drop (l.length+n)).toArray, ?_,⟨aH, .inr ⟨g,cap,_,aH,hbg,setRow_heap w g cur _ 3 _ hg,by simpa using hroom,hcm, ?_, ?_⟩⟩,⟨rfl,rfl,rfl,aH,λk _ hk=>setRow_other w g k _ (λe=>hk (by simp [Value.ownBlock,e]))⟩⟩
   ·by_cases hn:n=0
    ·subst hn;have hroom:l.length<=cap:=hroom;have hst:(storeCells (g,l.length) []).run Tryz.prog w= .ok () (w.setRow g (cur.toList.take l.length++List.replicate 0 (I 0)++cur.toList.drop (l.length+0)).toArray):=hst;simp [Builtin.append_,run_underlying ht,run_underlying htn,sizeOf,typeInfo,zeroValue,hi,hz,hsz,hby,asInt,asIntOf,IntKind.wrap_i64,hroom,Addr.add_lit,hst]
    ·have hnz:(Builtin.zeroCells (Value.int .i64 0).cells n).toList=List.replicate n (I 0):=WU n;simp [Builtin.append_,run_underlying ht,run_underlying htn,sizeOf,typeInfo,zeroValue,hi,hz,hsz,hby,asInt,asIntOf,hw,hneg,h48i,hn,hroom,Addr.add_lit,hnz,hst]
   ·simp only[List.size_toArray,ax,List.length_take,List.length_drop,Array.length_toList,List.length_replicate];simp at hcs;omega
   ·show List.take ((l++List.replicate n 0).length*1) _=(l++List.replicate n 0).map I;rw[hlm];have h2:cur.toList.take l.length=l.map I:=by simpa using htake
    rw[h2];exact List.take_left' aH
  ·have hn:n≠0:=aG;have hcl:(cap:Int)<(l.length:Int)+(n:Int):=aG;have aka: ¬(l.length+n<=cap):=hroom;have h63': ¬(9223372036854775807<((l.length:Int)+(n:Int))):=aG;have h48': ¬(281474976710656<Builtin.nextslicecap (l.length+n) cap*8):=by have:=growslice_fits (need:=l.length+n) (old:=cap) (bytes:=8) aG aG;omega
   have holds:∀j u,(l.map I)[j]? =some u->w.cell? (((g,0):Addr).add j)=some u:=World.ownsRow.cells hown (g:=g) rfl;have hfo:=run_firstCells_some (P:=Tryz.prog) w.drew 1 l.length (g,0) l.length cap (l.map I) aH (by simpa using holds);have hgr:=grown cap (l.map I) rfl aG (Value.ownBlock (.slice (some (g,0)) l.length cap));refine⟨_,_, ?_,hgr.1,hgr.2⟩;simp [Builtin.append_,run_underlying ht,run_underlying htn,sizeOf,typeInfo,zeroValue,hi,hz,hsz,hby,asInt,asIntOf,hw,hneg,h48i,hn,aka,h63',h48',Question.forced,hfo,newRow,grownCap];rfl
theorem afj {w:World} {ops:Array Oper} {rest:List Oper} {o:Oper} {a:Act} {Q:Exit->Act->World->Prop} (hgd:o.guard=none) (s x:Operand)
  (ho:o.op= .call {callee:= .builtin .append,args:= #[s,x],argTypes:= #[22,3]})
  (base:Nat) (v:Value) (l:List Int) (hs:a.eval s=v) (hown:bZ w base v l) (n:Nat) (hx:a.eval x=I n) (hl:l.length+n<=1000000000) (hbase:base<=w.heap.size)
  (h:∀v' w',bZ w' base v' (l++List.replicate n 0)->w.grownBy w' v.ownBlock->wpList Tryz.prog ops Q rest (a.put o.dst v') w'):wpList Tryz.prog ops Q (o::rest) a w:=by
 obtain⟨v',w',hr,h1,h2⟩:=agL w base o.type v l hown n hl hbase;exact Lib.wpList_append_run w hgd s x 22 3 ho v (I n) hs hx v' w' hr (h v' w' h1 h2)
def J7 (c:cH) (R:Nat) (st:Nat->bM->LS->aV->b6 (Int×bM)):Prop:=
 ∀(F:Nat->Prop) (W:World) (d:Nat) (s:aV) (k:bM) (fb vb:Nat) (nv vv:Value) (ns:List aK) (l:List LS) (v:Value),ig c F W d 0 k s 0 0 false fb vb nv vv ns->SX c.G W v l->(∀x∈l,∃dd,lQ c.p ns dd x)->2*left c.most s+1<=R->
  Calls Tryz.prog 58 #[.pointer (some ⟨c.rb,0,none⟩), .pointer (some ⟨fb,0,none⟩),v] W (RunT c F fb vb nv vv ns W d (eO (st d) l k s))
structure QP (p:LP):Prop where
 main:∃k:Nat,ji p dX=k/\∃h:k<p.funcs.length,(p.funcs[k]'h).params= []
 body:∀f∈p.funcs,(f.params++f.locals).Nodup/\∀x∈f.body,∃dd,lQ p (f.params++f.locals) dd x
 few:∀f∈p.funcs,f.params.length+f.locals.length<=1000000000
theorem QP.RN {p:LP} (hok:kR p) (hn:s6 p) (jT:∀f∈p.funcs,f.params.length+f.locals.length<=1000000000):QP p:=
 ⟨hn.main,λf hf=>⟨Xe (WO (hn.funcs f hf)).1,λx hx=>⟨40,lQ.of (hok.funcs f hf) (hn.funcs f hf) x hx⟩⟩,jT⟩
theorem a_.alE {w:World} {base:Nat} {v:Value} {l:List aK} (h:a_ 1 9 fR w base v l) (hl:l.length<=1000000000):aP (λb=>v.ownBlock=some b) 1 dc w v l:=by
 have h1:=h.l7 (R:=dc) (λx=>x) qC hl (λx _=>rfl);rw[List.map_id']at h1;obtain⟨a,c,rfl,h3,h4⟩:=h1;refine⟨a,c,rfl,h3,h4.imp (λh=>h) ?_⟩;rintro⟨b,o,rfl,_,h5⟩;exact⟨b,o,rfl,rfl,h5⟩
theorem bZ.zero {w:World} {base:Nat} {v:Value} {l:List Int} (h:bZ w base v l):bZ w 0 v l:=by
 refine⟨h.1,h.2.imp (λh=>h) ?_⟩;rintro⟨g,cap,cur,h1,_,h2⟩;exact⟨g,cap,cur,h1,Nat.zero_le _,h2⟩
theorem own_ne {w:World} {base base':Nat} {v v':Value} {l:List aK} {l':List Int} (h:a_ 1 9 fR w base v l) (h':bZ w base' v' l') {b:Nat} (hb:v.ownBlock=some b) (hb':v'.ownBlock=some b):False:=by
 rcases h.2 with⟨rfl,_⟩|⟨g,cap,cur,rfl,_,h2,_⟩
 ·cases hb
 ·rcases h'.2 with⟨rfl,_⟩|⟨g',cap',cur',rfl,_,h2',_⟩
  ·cases hb'
  ·have e1:g=b:=Option.some.inj hb;have e2:g'=b:=Option.some.inj hb';rw[e1]at h2;rw[e2,h2]at h2';simp at h2'
theorem Q9 {w0 w w':World} {base:Nat} {e:TypeId} {size n:Nat} {v:Value} {xs:List Value} (hb:Below w0 w0 w) (hg:w.grownBy w' v.ownBlock) (ho:w.ownsRow base e size v n xs) (hbase:w0.heap.size<=base):Below w0 w0 w':=
 hb.grown hg hb.size (λr e=>az hbase (cO ho r e).1)
theorem Yk (c:cH) (R:Nat) (st:Nat->bM->LS->aV->b6 (Int×bM)) (hS:J7 c R st) (hp:QP c.p):R7 c R st:=by
 intro F W d s j f av ns h hj hpl cX hR hd
 suffices kN:Calls Tryz.prog 34 #[.pointer (some (c.rb,0)),I j,av] W (λen w'=>Hid (l8 c F W d (pT st d f ns s) en w'))from kN.mono λ_ _ h=>h.out
 have⟨Q,hQ⟩:=xq (l8 c F W d (pT st d f ns s));have HQ:=aF hQ;rw[<-hQ];have hjl:j<c.p.funcs.length:=(aj hj).1;have hf:c.p.funcs[j]=f:=(aj hj).2;obtain⟨hnd,hbody⟩:=hp.body f (hf▸ak hjl);have zk:=hp.few f (hf▸ak hjl);have hvl:=agr hnd hpl;obtain⟨iv,ov,hrun, -⟩:=h.rows;have hpx:=h.b.px;obtain⟨aa,ac,fa,fc,e1,e2⟩:=hpx.slice;rw[e1,e2]at hpx;simp only[qL,e1,e2]at hrun;obtain⟨b,o,C,rfl,yD,hC,hrx⟩:=hpx.funcs.at hjl;rw[hf]at hrx;obtain⟨hn0,gV,eD,jm⟩:=hrx;obtain⟨pa,pc,hp1,jx, -⟩:=id gV;obtain⟨la,lc,nY,nJ, -⟩:=id eD;obtain⟨ba,bc,hb1⟩:=jm.slice;have e0:=hC 0 aG;have rC:=hC 1 aG;have e2':=hC 2 aG;have e3:=hC 3 aG;rw[hn0]at e0;rw[hp1]at rC gV;rw[nY]at e2' eD;rw[hb1]at e3 jm;simp only[aA]at e0 rC e2' e3;obtain⟨na,nc,rfl,hnn, -⟩:=id cX;have⟨rb,cy⟩:=xq c.rb;have⟨fn,hfn⟩:=xq c.p.funcs.length;have⟨an,dI⟩:=xq c.p.arrays.length;have⟨pn,FJ⟩:=xq f.params.length;have⟨ln,FK⟩:=xq f.locals.length;have⟨bn,FL⟩:=xq f.body.length;have⟨nn,Uc⟩:=xq ns.length;rw[<-hfn]at hjl;rw[<-cy,<-dI,<-hfn]at hrun;rw[<-cy];rw[<-FJ]at rC gV zk hpl;rw[<-FK]at e2' eD zk hvl;rw[<-FL]at e3 jm;rw[<-Uc]at cX hpl|-;have c1:=hrun.k1;have Mi: ¬(j:Int)<0:=aG;have hjn:(j:Int)<(fn:Int):=aG;have hwz:rb<W.heap.size:=hrun.lt;have HH:=aF h;have vN:=aF gV;have ru:=aF eD;have AH:=aF jm;have sF:=aF cX;have HND:=aF hnd;have ajH:=aF hbody;have x_:=aF zk;have El:=aF hvl;have HR:=aF hR;have HD:=aF hd;have HSQ:=aF hS;have bF:=aF cy;have eG:=aF hpl;have vh:=aF FJ;have tU:=aF FK;have oI:=aF Uc;have AE:=aF FL;clear h hj hpl cX hR hd hS hp hQ hf hnd hbody zk hvl hrun hpx e1 e2 hC hn0 gV eD jm hp1 jx nY nJ hb1 hnn cy hfn dI FJ FK FL Uc yD hjl;go_enter Tryz.func34,Tryz.ntmps34;go_upto_region 2 with(refine sr 52 (.tmp 7) (.tmp 16) W CU hn0 ?_;rw[World.setRow_alloc_new])
 clear c1 e0 rC e2' e3;have⟨r,hr⟩:=xq W.heap.size;have⟨w0,hw0⟩:=xq (W.alloc (.cells #[S f.name, .slice pa pn pc, .slice la ln lc, .slice ba bn bc] 52));have bg:=aF (gI hw0);have b_:=dZ hw0;rw[<-hr]at b_;rw[<-hw0,<-hr];have oC:=aF b_;have pX:=aF hr;clear b_ hw0 hr;refine yl (λX=>X.cell? (r,1)=some (.slice pa pn pc)/\X.cell? (r,2)=some (.slice la ln lc)) [(0,0),(0,1),(0,3),(0,4),(0,6),(0,8),(0,9),(0,10),(1,2),(1,5),(1,7),(1,11),(0,12),(1,13),(0,14)] (λwd hh=>⟨aO oC.out hh 1,aO oC.out hh 2⟩) λwd hh hgd hS=> ?_;have bE:=dF bg hgd;have dz:=bI oC hgd;have⟨B1,Jq⟩:=xq wd.heap.size;have EG:r<B1:=by rw[Jq];exact dz.lt
 have hWB:W.heap.size<=B1:=by have:=pX.out;omega
 have Wp:B1<=wd.heap.size:=aG;clear hh hgd Jq;refine dS ?_;go_wp2_with (at_builtin;refine xI rfl _ _ rfl B1 _ _ rfl a_.nil _ f.params rfl (vN.below bE.out λ_ _ h=>h) (by have:=x_.out;have:=vh.out;simp;omega) aG ?_;intro v1 w1 mN hg1;have hg1:wd.grownBy w1 none:=hg1;have fk:=aF mN;have aI:=dF bE hg1;have bC:=bI dz hg1;have O1:B1<=w1.heap.size:=az Wp hg1.size;clear mN hg1 hS)
 refine bw ⟨bC.cell 1,bC.cell 2⟩ λhS=> ?_;refine h_ ?_;go_wp2_with (at_builtin;refine xI rfl _ _ rfl B1 v1 _ rfl fk.out _ f.locals rfl (ru.below aI.out λ_ _ h=>h) (by have:=x_.out;have:=vh.out;have:=tU.out;simp;omega) (iZ O1) ?_;intro v2 w2 jh hg2;have kX:=aF jh;have alF:=λ{x:World} (hx:w2.grownBy x none)=>(show a_ 1 9 fR x B1 v2 _ from G7 jh hx eF);have aM:=aF (Q9 aI hg2 fk hWB);have cB:=aF (bC.kept hg2 (λe=>by have:=(cO fk r e.symm).1;omega));have abF:B1<=w2.heap.size:=az O1 hg2.size;clear jh hg2 hS)
 refine bw ⟨cB.cell 1,cB.cell 2⟩ λhS=> ?_;refine h_ ?_;go_wp2_with (at_builtin;refine afu rfl _ _ rfl B1 _ _ rfl (bZ.nil _ _) _ ns rfl (sF.below aM.out λ_ _ h=>h) (by have:=x_.out;have:=eG.out;have:=oI.out;simp;omega) aG ?_;intro v3 w3 jY hg3;have hg3:w2.grownBy w3 none:=hg3;have eU:=aF jY;have aW:=dF aM hg3;have bL:=bI cB hg3;have O2:=aF (alF hg3);have abG:B1<=w3.heap.size:=az abF hg3.size;clear jY hg3 hS)
 refine bw ⟨bL.cell 1,bL.cell 2⟩ λhS=> ?_;refine h_ ?_;go_wp2_with (at_builtin;refine afj rfl _ _ rfl B1 v3 _ rfl eU.out ln rfl (by have:=x_.out;have:=eG.out;have:=oI.out;simp;omega) abG ?_;intro v4 w4 gU hg4;have mH:=aF gU;have aR:=aF (Q9 aW hg4 eU hWB);have bU:=aF (bL.kept hg4 (λe=>by have:=(cO eU r e.symm).1;omega));have PD:=aF hg4;have ap6:B1<=w4.heap.size:=az abG hg4.size;clear gU hg4 hS)
 refine bw ⟨bU.cell 1,bU.cell 2⟩ λhS=> ?_;obtain⟨x2,n2,y2,hv2⟩:∃x n y,v2= .slice x n y:=by
  obtain⟨x,y,h⟩:=O2.slice;exact⟨_,_,_,h⟩
 obtain⟨x4,n4,y4,hv4⟩:∃x n y,v4= .slice x n y:=by
  obtain⟨x,y,h⟩:=mH.slice;exact⟨_,_,_,h⟩
 subst hv2 hv4;refine wX ?_;go_wp2;have⟨fb,jd⟩:=xq w4.heap.size;have⟨w5,bQ⟩:=xq (w4.alloc (.cells #[.slice x2 n2 y2, .slice x4 n4 y4,I 0,I 0] 104));have cD:=jy bQ
 have Qs:Row w5 fb 104 [.slice x2 n2 y2, .slice x4 n4 y4,I 0,I 0]:=by rw[bQ,jd];exact cj _ _
 rw[<-jd,<-bQ];have bp:=bU.kept cD aH;have alG:=aF jd;clear jd bQ;refine bw ⟨bp.cell 1,bp.cell 2⟩ λhS=> ?_;refine dP ?_;have jd:=alG.out;have bz:=aR.grown cD aR.size aJ;have jh:a_ 1 9 fR w5 B1 (.slice x2 n2 y2) (f.params++f.locals):=by
  have:=G7 (j0 O2 PD (by
   cases hv:Value.ownBlock (.slice x2 n2 y2)with
   |none=>exact .inl rfl
   |some g=>exact .inr λe=>own_ne O2 eU hv e.symm)) cD eF
  simpa [a_]using this
 have gU:bZ w5 B1 (.slice x4 n4 y4) ((f.params++f.locals).map (oN f ns)):=by
  rw[El.out];have:=bZ.tag mH cD eF;simpa using this
 have abH:∀g,Value.ownBlock (.slice x4 n4 y4)=some g->g<fb:=λg e=>by rw[jd];exact(cO mH g e).2
 have Ud:∀g,Value.ownBlock (.slice x2 n2 y2)=some g->g<fb:=λg e=>by
  have:=(cO O2 g e).2;have:=PD.size;omega
 obtain⟨vb,hvb⟩:∃vb,vb=(Value.ownBlock (.slice x4 n4 y4)).getD fb:=⟨_,rfl⟩;have Ue:∀g,Value.ownBlock (.slice x4 n4 y4)=some g->g=vb/\g≠fb:=λg e=>⟨by rw[hvb,e];rfl,by have:=abH g e;omega⟩;have Uf:B1<=vb/\vb<w5.heap.size:=by
  rw[hvb];have h1:fb<w5.heap.size:=Qs.lt;have h2:B1<=fb:=aG;cases hv:Value.ownBlock (.slice x4 n4 y4)with
  |none=>exact⟨h2,h1⟩
  |some g=>exact⟨(cO gU g hv).1,(cO gU g hv).2⟩
 have jO:∀g,Value.ownBlock (.slice x2 n2 y2)=some g->g≠fb/\g≠vb:=λg e=>⟨by have:=Ud g e;omega,λe2=>by
  cases hv:Value.ownBlock (.slice x4 n4 y4)with
  |none=>rw[hv]at hvb;have:=Ud g e;simp at hvb;omega
  |some g'=>exact own_ne jh gU e (hv.trans (by rw[(Ue g' hv).1,e2]))⟩
 have dh:=HH.rows;obtain⟨Da,Db,dh, -⟩:=dh;have IE:=dh.ext bz;rw[<-bF.out]at IE;have r7:=IE.k7;have k7:=IE.frozen 7;have bG:=bO w5 rb 7 (I (d+1));have dL:QR c (λb=>F b\/(B1<=b/\b<w5.heap.size)) w5 d s 0 0 false:=HH.add (bX bz none) aJ (λb hb=>⟨aG,hb.2⟩);have zB:QR c (λb=>F b\/(B1<=b/\b<w5.heap.size)) (w5.setCell (rb,7) (I (d+1))) (d+1) s 0 0 false:=by
  rw[bF.out]at bG|-;exact dL.put (s':=s) bG ⟨dL.small.1,dL.small.2.1,by have:=HD.out;omega⟩ rfl rfl rfl (λiv ov hr=>hr.set 7 (I (d+1)))
 have hgl:∀b,c.G b->b<W.heap.size:=λb hb=>HH.ajI hb;have GH:ig c (λb=>F b\/(B1<=b/\b<w5.heap.size)) (w5.setCell (rb,7) (I (d+1))) (d+1) 0 ⟨oN f ns,0⟩ s 0 0 false fb vb (.slice x2 n2 y2) (.slice x4 n4 y4) (f.params++f.locals):=by
  refine⟨zB, .inr ⟨aG,Qs.lt⟩, .inr Uf,λh=>by have:=hgl _ h;omega,λh=>by have:=hgl _ h;omega,Qs.kept bG ct, ?_,(bZ.tag gU bG (ld.box 3 IE aQ)).zero,Ue,HND⟩;have dY:=G7 jh bG (ld.box 9 IE aQ);refine(a_.alE dY (by rw[ax,<-vh.out,<-tU.out];exact x_.out)).weak (λb hb=>⟨.inr (cO jh b hb),jO b hb⟩) i20
 have hblk:=HSQ _ _ _ _ _ _ _ _ _ _ f.body (.slice ba bn bc) GH (AH.on λb hb=>(bG.block b (by have:=hgl b hb;have:=bz.size;omega) (λe=>by cases e;exact HH.b.jJ (bF.out▸HH.b.gf _ hb))).trans (bz.block b (hgl b hb))) ajH HR;have A0:KF F W (w5.setCell (rb,7) (I (d+1))):=(KF.below bz HH.b.lt).trans (KF.grown bG (λb hb=>aB (HH.b.lt b hb) bz.size) (λr e=>by cases e;rw[bF.out];exact HH.b.jJ));have⟨q,hq⟩:=xq (eO (st (d+1)) f.body ⟨oN f ns,0⟩ s);have Nf:pT st d f ns s=TG q:=by rw[hq];exact YG st d f ns s
 rw[<-hq,<-bF.out]at hblk;have h3:=bp.k3;have eN:rb<r:=by have:=pX.out;omega
 have ap7:r≠rb:=aG;have AG:=aF A0;have MD:=aF Nf;have iu:=aF hblk;have oH:=aF (show B1<=fb by omega);have Qt:=aF Uf.1;have p7:=aF (λ(X Y:World) (h:KF (mF (λb=>F b\/(B1<=b/\b<w5.heap.size)) fb vb) X Y)=>(h.mono (λb hb=>⟨.inl hb,by have:=HH.b.lt b hb;have:=oH.out;omega,by have:=HH.b.lt b hb;have:=Qt.out;omega⟩):KF F X Y));clear hS jd cD Qs bp bz jh gU abH Ud hvb Ue Uf jO dh IE bG dL zB hgl GH hblk A0 hq Nf;have hd5:d<=50:=HD.out;cases q with
 |stop a b' s'=>
  go_upto_region 5 with(go_at_call 58;refine iu.mono ?_;rintro e' w7⟨kC,rfl,ap8,k7',Ng⟩;have nI:=aF kC;have oK:=aF Ng;clear kC Ng)
  obtain⟨VF,VG,kV, -⟩:=oK.er.rows;rw[<-bF.out]at kV;have r77:=kV.k7;have k77:=kV.frozen 7;have lI:=bO w7 rb 7 (I d);have EC:QR c (λb=>F b\/(B1<=b/\b<w5.heap.size)) (w7.setCell (rb,7) (I d)) d s' a b' (a==0):=by
   rw[bF.out]at lI|-;exact oK.er.put (s':=s') lI ⟨oK.er.small.1,oK.er.small.2.1,by have:=HD.out;omega⟩ rfl rfl rfl (λiv ov hr=>hr.set 7 (I d))
  have hrf:rb≠fb:=by have:=oH.out;omega
  have v8:=(oK.row.kept lI ct).k3;have kW:Hid (KF F w7 (w7.setCell (rb,7) (I d))):=KF.grown lI (λb hb=>oK.er.b.lt b (.inl hb)) (λr e=>by cases e;rw[bF.out];exact HH.b.jJ);have Jr:=aF EC;clear kV lI EC r7 k7 h3;go_wp2;go_ret;rw[HQ.out];exact aF (l8.stop MD rfl ((AG.out.trans (p7 _ _ nI)).trans kW.out) (Jr.less (λb hb=> .inl hb) HH.b.gf))
 |ok q s'=>
  go_upto_region 5 with(go_at_call 58;refine iu.mono ?_;rintro e' w7⟨kC,rfl,Ng⟩;have nI:=aF kC;have oK:=aF Ng;clear kC Ng)
  obtain⟨VF,VG,kV, -⟩:=oK.er.rows;rw[<-bF.out]at kV;have r77:=kV.k7;have k77:=kV.frozen 7;have lI:=bO w7 rb 7 (I d);have EC:QR c (λb=>F b\/(B1<=b/\b<w5.heap.size)) (w7.setCell (rb,7) (I d)) d s' 0 0 false:=by
   rw[bF.out]at lI|-;exact oK.er.put (s':=s') lI ⟨oK.er.small.1,oK.er.small.2.1,by have:=HD.out;omega⟩ rfl rfl rfl (λiv ov hr=>hr.set 7 (I d))
  have hrf:rb≠fb:=by have:=oH.out;omega
  have v8:=(oK.row.kept lI ct).k3;have kW:Hid (KF F w7 (w7.setCell (rb,7) (I d))):=KF.grown lI (λb hb=>oK.er.b.lt b (.inl hb)) (λr e=>by cases e;rw[bF.out];exact HH.b.jJ);have Jr:=aF EC;clear kV lI EC r7 k7 h3;go_wp2;go_ret;rw[HQ.out];exact aF (l8.ok MD ((AG.out.trans (p7 _ _ nI)).trans kW.out) (Jr.less (λb hb=> .inl hb) HH.b.gf))
abbrev tN (p:LP) (ns:List aK) (x:LS):Prop:=∃dd,lQ p ns dd x
theorem tN.pos {p:LP} {ns:List aK} {x:LS} (h:tN p ns x):∃dd,lQ p ns (dd+1) x:=by
 obtain⟨dd,h⟩:=h;cases dd with
 |zero=>exact h.1.elim
 |succ dd=>exact⟨dd,h⟩
theorem tN.thn {p:LP} {ns:List aK} {x:LS} (h:tN p ns x):∀y∈x.thn,tN p ns y:=by
 obtain⟨dd,h⟩:=h.pos;exact λy hy=>⟨dd,h.thn y hy⟩
theorem tN.els {p:LP} {ns:List aK} {x:LS} (h:tN p ns x):∀y∈x.els,tN p ns y:=by
 obtain⟨dd,h⟩:=h.pos;exact λy hy=>⟨dd,h.els y hy⟩
theorem tN.args {p:LP} {ns:List aK} {x:LS} (h:tN p ns x):∀y∈x.args,nD p ns y:=by
 obtain⟨dd,h⟩:=h.pos;exact h.args
theorem tN.A8 {p:LP} {ns:List aK} {x:LS} (h:tN p ns x):A8 p x:=by
 obtain⟨dd,h⟩:=h.pos;exact h.A8
def Sa (c:cH) (R:Nat) (st:Nat->bM->LS->aV->b6 (Int×bM)):Prop:=
 ∀(F:Nat->Prop) (W:World) (d:Nat) (s:aV) (k:bM) (fb vb:Nat) (nv vv:Value) (ns:List aK) (x:LS) (av tv ev:Value),ig c F W d 0 k s 0 0 false fb vb nv vv ns->AX c.G W av x.args->SX c.G W tv x.thn->SX c.G W ev x.els->tN c.p ns x->2*left c.most s+1<=R->
  Calls Tryz.prog 98 #[.pointer (some ⟨c.rb,0,none⟩), .pointer (some ⟨fb,0,none⟩),sV x av tv ev] W (RunT c F fb vb nv vv ns W d (st d k x s))
def aaa (c:cH) (R:Nat) (lp:Nat->bM->LS->aV->b6 (Int×bM)):Prop:=
 ∀(F:Nat->Prop) (W:World) (d:Nat) (s:aV) (k:bM) (fb vb:Nat) (nv vv:Value) (ns:List aK) (x:LS) (av tv ev:Value),ig c F W d 0 k s 0 0 false fb vb nv vv ns->AX c.G W av x.args->SX c.G W tv x.thn->SX c.G W ev x.els->tN c.p ns x->x.kind=4->2*left c.most s+2<=R->
  Calls Tryz.prog 140 #[.pointer (some ⟨c.rb,0,none⟩), .pointer (some ⟨fb,0,none⟩),sV x av tv ev] W (RunT c F fb vb nv vv ns W d (lp d k x s))
theorem ig.RT {c:cH} {F:Nat->Prop} {W W':World} {d:Nat} {how:Int} {k:bM} {s:aV} {st cd:Int} {sp:Bool} {fb vb:Nat} {nv vv:Value} {ns:List aK} (h:ig c F W d how k s st cd sp fb vb nv vv ns) (hk:KF (mF F fb vb) W W'):∀b,c.G b->W'.heap[b]? =W.heap[b]? :=
 λb hb=>hk.block b ⟨h.er.b.gf b hb,λe=>h.fG (e▸hb),λe=>h.vG (e▸hb)⟩
theorem XT (c:cH) (R:Nat) (st:Nat->bM->LS->aV->b6 (Int×bM)) (hS:Sa c R st) (hu:∀d k x s q s',st d k x s= .ok q s'->mh 1 s s'):J7 c R st:=by
 intro F W d s k fb vb nv vv ns l v h hv hy hR
 suffices kN:Calls Tryz.prog 58 #[.pointer (some (c.rb,0)), .pointer (some (fb,0)),v] W (λen w'=>Hid (RunT c F fb vb nv vv ns W d (eO (st d) l k s) en w'))from kN.mono λ_ _ h=>h.out
 have⟨Q,hQ⟩:=xq (RunT c F fb vb nv vv ns W d (eO (st d) l k s));have HQ:=aF hQ;rw[<-hQ];obtain⟨a0,c0,rfl⟩:=hv.slice;obtain⟨dd,hv⟩:=hv;have hlen:l.length<=1000000000:=by obtain⟨_,_,_,h,_⟩:=hv;exact h
 have⟨N,hN⟩:=xq l.length;have⟨rb,cy⟩:=xq c.rb;rw[<-hN]at hv hlen|-;rw[<-cy];have HV:=aF hv;have HY:=aF hy;have HN:=aF hN;have HH:=aF h;have HR:=aF hR;have HS:=aF hS;have HU:=aF hu;have bF:=aF cy;have hc2:=h.row.k2;clear h hv hy hR hQ hN hS hu cy;go_enter Tryz.func58,Tryz.ntmps58;go_wp2;go_loopg [6] N (λgh i wr=>∃(j:Nat) (how:Int),gh+j=N/\i=I j/\wr.cell? (fb,2)=some (I how)/\Hid (∃k' s1,eO (st d) l k s=(if how=0 then eO (st d) (l.drop j) k' s1 else .ok (how,k') s1)/\KF (Go.Proofs.YtjgbkdbkachciaaGreatDoor.mF F fb vb) W wr/\ig c F wr d how k' s1 0 0 false fb vb nv vv ns/\mh 0 s s1))
 case atStart=>exact⟨0,0,aG,rfl,hc2,aF ⟨k,s,rfl,KF.refl _ _,HH,aG,aG⟩⟩
 case round=>
  clear hc2;obtain⟨j,how,hg,rfl,r2,HL⟩:=hrel;obtain⟨wo,rfl⟩:=xq wr;obtain⟨k1,s1,ha,hk,he,hup⟩:=HL.out;have HK:=aF hk;have Eh:=aF hup;by_cases hlt:j<N
  ·have bT:(j:Int)<(N:Int):=aG
   by_cases hh:how=0
   ·subst hh;have HE:=aF he;rw[if_pos rfl]at ha;have hjl:j<l.length:=by rw[<-HN.out];exact hlt
    have q7:=HH.RT hk;have iY:=HV.on q7 (λC x h=>RS.on dd q7 h);obtain⟨b,o,C,rfl,_,hC,hrx⟩:=iY.at hjl;have⟨x,hx⟩:=xq (l[j]);rw[<-hx]at hrx;obtain⟨dx,rfl⟩:∃dx,dd=dx+1:=by
     cases dd with
     |zero=>exact hrx.elim
     |succ dx=>exact⟨dx,rfl⟩
    obtain⟨h0,h1,h2,h3,h4⟩:=hrx;obtain⟨xa,xc,yh⟩:=h2.slice;obtain⟨ta,tc,Bu, -⟩:=id h3;obtain⟨ea,ec,kS, -⟩:=id h4;have e0:=hC 0 aG;have e1:=hC 1 aG;have e2:=hC 2 aG;have e3:=hC 3 aG;have e4:=hC 4 aG;rw[h0]at e0;rw[h1]at e1;rw[yh]at e2 h2;rw[Bu]at e3 h3;rw[kS]at e4 h4;simp only[aA]at e0 e1 e2 e3 e4;have hdr:l.drop j=x::l.drop (j+1):=by rw[hx];exact List.drop_eq_getElem_cons hjl
    rw[hdr]at ha;have hex:=HS _ _ _ _ _ _ _ _ _ _ x _ _ _ he h2 (⟨dx,h3⟩:SX c.G wo _ x.thn) (⟨dx,h4⟩:SX c.G wo _ x.els) (show tN c.p ns x by rw[hx];exact HY _ (ak hjl)) (by have:=ua (most:=c.most) hup;have:=HR.out;omega);rw[<-bF.out]at hex;have⟨r,hr⟩:=xq (st d k1 x s1);have hbl:eO (st d) l k s=RU (st d) (l.drop (j+1)) (st d k1 x s1):=by rw[ha,Xw]
    rw[<-hr]at hex hbl;obtain⟨al,hal⟩:∃n,n=(LE.mk 0 0 0 [] x.args).args.length:=⟨_,rfl⟩;have⟨tl,htl⟩:=xq x.thn.length;have⟨el,hel⟩:=xq x.els.length;rw[<-hal]at e2 hex;rw[<-htl]at e3 hex;rw[<-hel]at e4 hex;have eA:=aF hex;have iu:=aF hbl;have fP:=aF hr;clear hk he hup ha q7 iY hC h0 h1 h2 h3 h4 yh Bu kS hdr hx HL hal htl hel hex hbl hr;cases r with
    |stop a b' s2=>
     go_upto_region 4 with(go_at_call 98;refine eA.mono ?_;rintro e' w4⟨hk4,rfl,Us,k4,cV⟩;have bR:=aF hk4;have dR:=aF cV;clear hk4 cV)
     have hov:=xK c _ w4 d s2 _ _ _ dR.er;rw[Hl,<-bF.out]at hov;have js:=aF hov;clear hov r2 e0 e1 e2 e3 e4;go_wp2_with (go_at_call 99;refine fX js ?_)
     go_end0;rw[HQ.out];exact aF (RunT.stop iu rfl (HK.out.trans bR.out) dR)
    |ok q s2=>
     obtain⟨alT,k2⟩:=q;go_upto_region 4 with(go_at_call 98;refine eA.mono ?_;rintro e' w4⟨hk4,rfl,cV⟩;have bR:=aF hk4;have dR:=aF cV;clear hk4 cV)
     have hov:=xK c _ w4 d s2 _ _ _ dR.er;rw[<-bF.out]at hov;have js:=aF hov;have r24:=dR.row.k2;have ab4:=aF (HU _ _ _ _ _ _ fP.out.symm);clear hov r2 e0 e1 e2 e3 e4;go_wp2_with (go_at_call 99;refine fX js ?_)
     go_roundg (N - (j+1))
     case measure=>omega
     case rel=>exact⟨j+1,alT,aG,by go_num,r24,aF ⟨k2,s2,iu,HK.out.trans bR.out,dR,by have:=Eh.out;have:=ab4.out;omega,by have:=Eh.out;have:=ab4.out;omega⟩⟩
   ·have Qv:(how==0)=false:=bu hh;rw[if_neg hh]at ha;have HA:=aF ha;have HE:=aF he;clear ha hk he hup HL;go_wp2;go_end0;rw[HQ.out];exact aF (RunT.ok (q:=(how,k1)) HA HK HE)
  ·have bT: ¬(j:Int)<(N:Int):=aG;have ha2:eO (st d) l k s= .ok (how,k1) s1:=by
    rw[ha,List.drop_of_length_le (by rw[<-HN.out];omega)];split
    ·next e=>rw[e];rfl
    ·rfl
   have HA:=aF ha2;have HE:=aF he;clear ha ha2 hk he hup HL;go_wp2;go_end0;rw[HQ.out];exact aF (RunT.ok (q:=(how,k1)) HA HK HE)
theorem afF (c:cH) (K:Nat) (hE:∀j,j<=K->Ib c j (cz c.p c.most j).expr) (hB:∀j,j<=K->J7 c j (cz c.p c.most j).stmt)
  (F:Nat->Prop) (W:World) (d:Nat) (s:aV) (k:bM) (fb vb:Nat) (nv vv:Value) (ns:List aK) (x:LS) (av tv ev:Value) (h:ig c F W d 0 k s 0 0 false fb vb nv vv ns) (cX:AX c.G W av x.args) (gu:SX c.G W tv x.thn) (hev:SX c.G W ev x.els) (hy:tN c.p ns x) (h4:x.kind=4) (hR:2*left c.most s+1<=K):
  Calls Tryz.prog 140 #[.pointer (some (c.rb,0)), .pointer (some (fb,0)),sV x av tv ev] W (RunT c F fb vb nv vv ns W d (kz (cz c.p c.most K) d k x s)):=by
 suffices kN:Calls Tryz.prog 140 #[.pointer (some (c.rb,0)), .pointer (some (fb,0)),sV x av tv ev] W (λen w'=>Hid (RunT c F fb vb nv vv ns W d (kz (cz c.p c.most K) d k x s) en w'))from kN.mono λ_ _ h=>h.out
 have⟨Q,hQ⟩:=xq (RunT c F fb vb nv vv ns W d (kz (cz c.p c.most K) d k x s));have HQ:=aF hQ;rw[<-hQ];obtain⟨a0,c0,rfl⟩:=cX.slice;obtain⟨t0,tc,rfl⟩:=gu.slice;obtain⟨e0,ec,rfl⟩:=hev.slice;have hown:=hy.A8.1 (.inr (.inr (.inl h4)));obtain⟨e,he⟩:=List.length_eq_one_iff.1 hown;have kS:nD c.p ns e:=hy.args e (by rw[he];simp);have heq:x.args.getD 0 (.mk 0 0 0 [] [])=e:=by rw[he];rfl
 obtain⟨da,cX⟩:=cX;replace cX:aP c.G 5 (RE da c.G) W (.slice a0 1 c0) [e]:=by
  have h':aP c.G 5 (RE da c.G) W (.slice a0 x.args.length c0) x.args:=cX;rw[he]at h';exact h'
 rw[show(LE.mk 0 0 0 [] x.args).args.length=1 from hown];have⟨tl,htl⟩:=xq x.thn.length;have⟨el,hel⟩:=xq x.els.length;have⟨rb,cy⟩:=xq c.rb;rw[<-htl]at gu|-;rw[<-hel,<-cy];have sF:=aF cX;have AJ:=aF gu;have rR:=aF kS;have jc:=aF heq;have VJ:=aF hy.thn;have HH:=aF h;have HR:=aF hR;have HE:=aF hE;have HB:=aF hB;have bF:=aF cy;clear h cX gu hev hy h4 hR hE hB hQ hown he kS heq htl hel cy;go_enter Tryz.func140,Tryz.ntmps140;go_upto_region 1 with(fail)
 have⟨w0,hw0⟩:=xq (W.alloc (.cells #[I x.kind,S x.name, .slice a0 1 c0, .slice t0 tl tc, .slice e0 el ec] 54));have hg0:=jy hw0;have hx0:=dZ hw0;rw[<-hw0];have MG:QR c (λb=>F b\/b=W.heap.size) w0 d s 0 0 false:=HH.er.add hg0 aJ (λb hb=>⟨aG,by rw[hb];exact hx0.lt⟩);have cU:Hid (ig c (λb=>F b\/b=W.heap.size) w0 d 0 k s 0 0 false fb vb nv vv ns):=(HH.quiet hg0).more (λb hb=> .inl hb) MG;have jd:fb<W.heap.size:=HH.er.b.lt fb HH.fF;have hvb:vb<W.heap.size:=HH.er.b.lt vb HH.vF;have VK:=aF hx0;have MU:=aF (show KF (Go.Proofs.YtjgbkdbkachciaaGreatDoor.mF F fb vb) W w0 from KF.grown hg0 (λb hb=>HH.er.b.lt b hb.1) aJ);clear hw0 hg0 hx0 MG;go_loopg [] (left c.most s) (λgh wr=>Hid (∃j k1 s1,gh=left c.most s1/\kz (cz c.p c.most K) d k x s=kz (cz c.p c.most j) d k1 x s1/\2*left c.most s1+1<=j/\j<=K/\KF (Go.Proofs.YtjgbkdbkachciaaGreatDoor.mF (λb=>F b\/b=W.heap.size) fb vb) w0 wr/\ig c (λb=>F b\/b=W.heap.size) wr d 0 k1 s1 0 0 false fb vb nv vv ns))
 case atStart=>exact aF ⟨K,k,s,rfl,rfl,HR,ay _,KF.refl _ _,cU⟩
 case round=>
  obtain⟨wo,rfl⟩:=xq wr;obtain⟨j,k1,s1,MV,hlo,hj,GF,hk,hc⟩:=hrel.out;have q7:∀b,c.G b->wo.heap[b]? =W.heap[b]? :=λb hb=>(hk.block b ⟨.inl (HH.er.b.gf b hb),λe=>HH.fG (e▸hb),λe=>HH.vG (e▸hb)⟩).trans (MU.block b ⟨HH.er.b.gf b hb,λe=>HH.fG (e▸hb),λe=>HH.vG (e▸hb)⟩);have hx:=hk.row VK ⟨.inr rfl,aG,aG⟩;have iY:=sF.on q7 (λC x h=>RE.on da q7 h);obtain⟨b,o,C,rfl,_,hC,hrx⟩:=iY.at (i:=0) aH;have hrx:RE da c.G wo C e:=hrx;obtain⟨dx,rfl⟩:∃dx,da=dx+1:=by
   cases da with
   |zero=>exact hrx.elim
   |succ dx=>exact⟨dx,rfl⟩
  obtain⟨h0,h1,h2,h3,h4⟩:=hrx;obtain⟨xa,xc,hxv, -⟩:=id h4;have ED:=hC 0 aG;have e1:=hC 1 aG;have e2:=hC 2 aG;have e3:=hC 3 aG;have e4:=hC 4 aG;rw[h0]at ED;rw[h1]at e1;rw[h2]at e2;rw[h3]at e3;rw[hxv]at e4 h4;simp only[Nat.zero_mul,aA]at ED e1 e2 e3 e4;have c2:=hx.k2;have hex:=HE j GF _ wo d s1 k1 fb vb nv vv ns e _ hc (⟨dx,h4⟩:EX c.G wo (.slice xa e.args.length xc) e) rR hj;rw[<-bF.out]at hex;obtain⟨r,hr⟩:∃r,r=(cz c.p c.most j).expr d k1.vars e s1:=⟨_,rfl⟩;have mW:=aF (show kz (cz c.p c.most K) d k x s=r.bind (RH (cz c.p c.most j) d k1 x) by rw[hlo,XB,jc.out,hr]);rw[<-hr]at hex;have eA:=aF hex;have fP:=aF hr;have HK:=aF hk;have HC:=aF hc;have HX:=aF hx;have VL:=aF MV;have HJ:=aF hj;have MW:=aF GF;have VM:=aF q7;have p7:Hid (∀w',KF (Go.Proofs.YtjgbkdbkachciaaGreatDoor.mF (λb=>F b\/b=W.heap.size) fb vb) wo w'->KF (Go.Proofs.YtjgbkdbkachciaaGreatDoor.mF F fb vb) W w'):=λw' h=>MU.out.trans ((hk.trans h).mono λb hb=>⟨.inl hb.1,hb.2⟩);have oo:Hid (∀w' (hw:Int) k' s' st' AW sp',KF (Go.Proofs.YtjgbkdbkachciaaGreatDoor.mF F fb vb) W w'->ig c (λb=>F b\/b=W.heap.size) w' d hw k' s' st' AW sp' fb vb nv vv ns->ig c F w' d hw k' s' st' AW sp' fb vb nv vv ns):=λw' hw k' s' st' AW sp' hkk h=>⟨h.er.less (λb hb=> .inl hb) HH.er.b.gf,HH.fF,HH.vF,h.fG,h.vG,h.row,HH.names.on (λb hb=>hkk.block b hb) i20,h.vars,h.own,h.nd⟩;have⟨xn,qA⟩:=xq e.args.length;rw[<-qA]at e4 eA;clear MV hlo hj GF hk hc q7 hx iY hC h0 h1 h2 h3 h4 hxv hex hr hrel qA;cases r with
  |stop a b' s2=>
   go_upto_region 2 with(go_at_call 190;refine eA.mono ?_;rintro e' w4⟨hk4,n4,rfl,cV⟩;have bR:=aF hk4;have dR:=aF cV;clear hk4 cV)
   have hov:=xK c _ w4 d s2 _ _ _ dR;rw[Hl,<-bF.out]at hov;have js:=aF hov;clear hov ED e1 e2 e3 e4 c2;go_wp2_with (go_at_call 99;refine fX js ?_)
   go_end0;rw[HQ.out];have hk4:=p7 _ (bR.mF fb vb);exact aF (RunT.stop mW rfl hk4 (oo _ _ _ _ _ _ _ hk4 (HC.on bR dR)))
  |ok n s2=>
   have hlv:=Q8 fP.out.symm;have hup:=(sK c.p c.most j).expr fP.out.symm;have pz:=aF (Rg (most:=c.most) hup);have yE:=aF (show left c.most s1≠0 by unfold left;omega);clear hlv hup;go_upto_region 2 with(go_at_call 190;refine eA.mono ?_;rintro e' w4⟨hk4,n4,rfl,Pn,cV⟩;have bR:=aF hk4;have dR:=aF cV;subst Pn;clear hk4 cV)
   have hov:=xK c _ w4 d s2 _ _ _ dR;rw[<-bF.out]at hov;have js:=aF hov;clear hov ED e1 e2 e3 e4 c2;by_cases hn:n4=0
   ·have zm:=aF (mW.out.trans (if_pos hn));subst hn;go_wp2_with (go_at_call 99;refine fX js ?_)
    go_end0;rw[HQ.out];have hk4:=p7 _ (bR.mF fb vb);exact aF (RunT.ok (q:=(0,k1)) zm hk4 (oo _ _ _ _ _ _ _ hk4 (HC.on bR dR)))
   ·have zm:=aF (mW.out.trans (if_neg hn));have hnb:(n4==0)=false:=bu hn;go_upto_region 3 with(go_at_call 99;refine fX js ?_)
    have xw:=HC.on bR dR;have fh:=bR.row HX (.inr rfl);have d3:=fh.k3;have hbl:=HB j MW _ w4 d s2 k1 fb vb nv vv ns x.thn (.slice t0 tl tc) xw (AJ.on λb hb=>(bR.block b (.inl (HH.er.b.gf b hb))).trans (VM b hb)) VJ (by have:=HJ.out;have:=pz.out;have:=yE.out;omega);rw[<-bF.out]at hbl;have⟨r2,hr2⟩:=xq (eO ((cz c.p c.most j).stmt d) x.thn k1 s2);rw[<-hr2]at hbl zm;have iu:=aF hbl;have cB:=aF hr2;clear xw fh hbl hr2 hn hnb;cases r2 with
    |stop a b' s3=>
     go_upto_region 4 with(go_at_call 58;refine iu.mono ?_;rintro e' w5⟨cg,rfl,apQ,k5,dL⟩;have dG:=aF cg;have cZ:=aF dL;clear cg dL)
     have hov:=xK c _ w5 d s3 _ _ _ cZ.er;rw[Hl,<-bF.out]at hov;have LN:=aF hov;clear hov d3;go_wp2_with (go_at_call 99;refine fX LN ?_)
     go_end0;rw[HQ.out];have cg:=p7 _ ((bR.mF fb vb).trans dG.out);exact aF (RunT.stop zm rfl cg (oo _ _ _ _ _ _ _ cg cZ))
    |ok q s3=>
     obtain⟨how,k2⟩:=q;have Gt:=aF (ua (most:=c.most) (EZ (λh=>(sK c.p c.most j).stmt h) _ _ _ _ _ cB.out.symm));have FU:kz (cz c.p c.most K) d k x s=J6 (cz c.p c.most j) d x (how,k2) s3:=zm.out;unfold J6 at FU;go_upto_region 4 with(go_at_call 58;refine iu.mono ?_;rintro e' w5⟨cg,rfl,dL⟩;have dG:=aF cg;have cZ:=aF dL;clear cg dL)
     have Iq:=aF FU;have hov:=xK c _ w5 d s3 _ _ _ cZ.er;rw[<-bF.out]at hov;have LN:=aF hov;have r2:=cZ.row.k2;have f2:=cZ.row.frozen 2;have aa_:=aF (p7 _ ((bR.mF fb vb).trans dG.out));have bG:=bO w5 fb 2 (I 0);have s9:∀r,some fb=some r-> ¬(Go.Proofs.YtjgbkdbkachciaaGreatDoor.mF (λb=>F b\/b=W.heap.size) fb vb) r:=λr e h=>by cases e;exact h.2.1 rfl
     have mX:KF (Go.Proofs.YtjgbkdbkachciaaGreatDoor.mF (λb=>F b\/b=W.heap.size) fb vb) w5 (w5.setCell (fb,2) (I 0)):=KF.grown bG (λb hb=>cZ.er.b.lt b hb.1) s9;have hq6:QR c (λb=>F b\/b=W.heap.size) (w5.setCell (fb,2) (I 0)) d s3 0 0 false:=cZ.er.wrote bG (.inl HH.fF) HH.fG;have Aw:Hid (ig c (λb=>F b\/b=W.heap.size) (w5.setCell (fb,2) (I 0)) d 0 k2 s3 0 0 false fb vb nv vv ns):=⟨hq6,cZ.fF,cZ.vF,cZ.fG,cZ.vG,cZ.row.set 2 (I 0),cZ.names.on (λb hb=>mX.block b hb) i20,cZ.vars.kept bG (λr e e'=>by cases e;exact(cZ.own fb e').2 rfl),cZ.own,cZ.nd⟩;have ir:=aF (p7 _ (((bR.mF fb vb).trans dG.out).trans mX));have HKR:=aF (HK.out.trans (((bR.mF fb vb).trans dG.out).trans mX));clear FU hov d3 bG s9 mX hq6;by_cases h3:how=3
     ·have FV:=aF (Iq.out.trans ((if_neg aG).trans (if_pos h3)));subst h3;go_wp2_with (go_at_call 99;refine fX LN ?_)
      go_end0;rw[HQ.out];exact aF (RunT.ok (q:=(3,k2)) FV aa_ (oo _ _ _ _ _ _ _ aa_ cZ))
     ·have h3b:(how==3)=false:=bu h3;by_cases h1:how=1
      ·have Ir:=aF (Iq.out.trans (if_pos h1));subst h1;clear h3 h3b;go_wp2_with (go_at_call 99;refine fX LN ?_)
       go_end0;rw[HQ.out];exact aF (RunT.ok (q:=(0,k2)) Ir ir (oo _ _ _ _ _ _ _ ir Aw))
      ·have h1b:(how==1)=false:=bu h1;have FV:=aF (Iq.out.trans ((if_neg h1).trans (if_neg h3)));obtain⟨j',rfl⟩:∃j',j=j'+1:=⟨j - 1,by have:=HJ.out;omega⟩;go_wp2_with (go_at_call 99;refine fX LN ?_)
       go_roundg (left c.most s3)
       case measure=>have:=VL.out;have:=pz.out;have:=yE.out;have:=Gt.out;omega
       case rel=>exact aF ⟨j',k2,s3,rfl,FV,by have:=HJ.out;have:=pz.out;have:=yE.out;have:=Gt.out;omega,by have:=MW.out;omega,HKR,Aw⟩
end
end Go.Proofs.YtjgbkdbkachciaaGreatDoor
