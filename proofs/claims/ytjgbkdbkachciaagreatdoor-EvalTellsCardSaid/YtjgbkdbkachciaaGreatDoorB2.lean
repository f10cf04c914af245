import Derived.Test.YtjgbkdbkachciaaGreatDoorL6
import Derived.Deep.Slices
import Derived.SizedLaws
import Derived.Laws.BytesArg
import Derived.Laws.Concat
set_option linter.all false
namespace Go.Proofs.YtjgbkdbkachciaaGreatDoor
set_option maxRecDepth 100000
set_option maxHeartbeats 16000000
section
open Go.RowKit Go.Shelf
attribute [local go_sem] Oper.semAt_some
noncomputable def tL (e:LE):Option Int:=if bP (ij 40 e)=true then gG 40 e else none
theorem Xj (e:LE) (ha:kA e) (av:Value) (W:World) (B:Nat->Prop) (hx:EX B W av e):
  CR 20 #[eV e av] W (.tuple #[I ((tL e).getD 0), .bool (tL e).isSome]):=by
 obtain⟨a0,c0,rfl⟩:=hx.slice;have fP:=aF (λX (hb:Below W W X)=>WV e ha (.slice a0 e.args.length c0) X B (hx.grown (bX hb none) aJ));by_cases ho:ij 40 e
 case neg=>
  have hv:tL e=none:=by rw[tL,if_neg];rw[ow];exact ho
  rw[hv];rw[vY ho]at fP;have⟨al,hal⟩:=xq e.args.length;rw[eV,<-hal]at fP|-;have⟨w0,hw0⟩:=xq (W.alloc (.cells #[I e.kind,I e.op,I e.n,S e.name, .slice a0 al c0] 31));have dO:=hw0.symm;have hb0:=gI hw0;have hp0:=dZ hw0;have c0':=hp0.k0;have c1:=hp0.k1;have c2:=hp0.k2;have c3:=hp0.k3;have c4:=hp0.k4;have bg:=aF hb0;have gT:=aF hp0;clear hx ha hw0 hb0 hp0 hal;go_enter Tryz.func20,Tryz.ntmps20;go_wp2_with (go_at_call 37;refine aN (fP _ bg) λw1 hb1=> ?_;have aI:=aU bg hb1;have hp1:=gT.ext hb1;have d0:=hp1.k0;have d1:=hp1.k1;have d2:=hp1.k2;have d3:=hp1.k3;have d4:=hp1.k4;clear hp1 c0' c1 c2 c3 c4)
  go_ret2;exact⟨rfl,aI⟩
 have hv:tL e=gG 40 e:=by rw[tL,if_pos];rw[ow];exact ho
 rw[hv];rw[t_ ho]at fP;have yt:=aF (λX (hb:Below W W X)=>Yf 40 e (.slice a0 e.args.length c0) X B ho (hx.grown (bX hb none) aJ));have⟨vr,mM⟩:=xq (gG 40 e);rw[<-mM]at yt|-;have⟨nx,hnx⟩:=xq (vr.getD 0);have⟨bx,rq⟩:=xq vr.isSome;rw[<-hnx,<-rq]at yt|-;clear hv mM hnx rq ho;have⟨al,hal⟩:=xq e.args.length;rw[eV,<-hal]at fP yt|-;have⟨w0,hw0⟩:=xq (W.alloc (.cells #[I e.kind,I e.op,I e.n,S e.name, .slice a0 al c0] 31));have dO:=hw0.symm;have bg:=aF (gI hw0);have hp0:=dZ hw0;have c0':=hp0.k0;have c1:=hp0.k1;have c2:=hp0.k2;have c3:=hp0.k3;have c4:=hp0.k4;have gT:=aF hp0;clear hx ha hw0 hp0 hal;go_enter Tryz.func20,Tryz.ntmps20;go_upto_region 3 with(go_at_call 37;refine aN (fP _ bg) λw1 hb1=> ?_;have aI:=aU bg hb1;have hp1:=gT.ext hb1;have d0:=hp1.k0;have d1:=hp1.k1;have d2:=hp1.k2;have d3:=hp1.k3;have d4:=hp1.k4;clear hp1 c0' c1 c2 c3 c4)
 go_wp2_with (go_at_call 38;refine aN (yt _ aI) λw2 hb2=> ?_;have aM:=aU aI hb2)
 go_ret2;exact⟨rfl,aM⟩
theorem PX.lt {B:Nat->Prop} {W:World} {av fv:Value} {p:LP} (h:PX B W av fv p):PX (·<W.heap.size) W av fv p:=h.size.weak λ_b hb=>hb.2
theorem Zq {W:World} {g:Nat} {x:Int} (h:Row W g 3 [I x]):um W (.slice (some (g,0)) 1 1) [x]:=
 ⟨_,_,rfl,aH, .inr ⟨g,0,rfl,h.lt,λi y hy=>⟨λ_=>I x,λj hj=>by
  have:i=0:=by
   cases i with
   |zero=>rfl
   |succ i=>simp at hy
  subst this;obtain rfl:j=0:=aG;exact h.cell 0,by
  cases i with
  |zero=>
   have hy:x=y:=by simpa using hy
   rw[hy]
  |succ i=>simp at hy⟩⟩⟩
theorem jl.lit {W:World} {g:Nat} {x:Int} (h:Row W g 3 [I x]):jl (·<W.heap.size) W (.slice (some (g,0)) 1 1) [x]:=⟨Bb.of (Zq h),_,_,rfl,ay _⟩
theorem kA.put {e:LE} (h1:eH e.name) (h2:∀x∈e.args,kA x):kA e:=λd=>by
 cases d with
 |zero=>trivial
 |succ d=>exact⟨h1,λx hx=>h2 x hx d⟩
theorem qs.one {k:Int} {e:LE} (h:kA e):qs (.mk k [] [e] [] []):=λd=>by
 cases d with
 |zero=>trivial
 |succ d=>exact⟨λb hb=>(by cases hb),λx hx=>(by rw[ai hx];exact h),λx hx=>(by cases hx),λx hx=>(by cases hx)⟩
theorem Rp (n:Int):kA (A6 n):=kA.put aJ λx hx=>by cases hx
theorem Zr:sP Bf:=by
 refine⟨λa ha=>(by cases ha),λf hf=> ?_⟩;rw[ai hf];refine⟨Yo.1,λx hx=>(by cases hx),λx hx=>(by cases hx),λx hx=> ?_⟩;rcases List.mem_cons.1 hx with rfl|hx
 ·refine qs.one (kA.put aJ λx hx=> ?_);rcases List.mem_cons.1 hx with rfl|hx
  ·exact Rp 1
  rcases List.mem_cons.1 hx with rfl|hx
  ·exact kA.put aJ λx hx=>by cases hx
  ·cases hx
 rw[ai hx];exact qs.one (Rp 7)
theorem aiE:tL (A6 4)=some 4:=by
 unfold tL;rw[if_pos (t_ (Rl 4 aQ 39))];rfl
theorem ahE (W:World):Calls Tryz.prog 23 #[S J1] W λe w'=>∃av fv,e= .returned (.tuple #[.agg #[av,fv],I 0,I 0])/\PX (W.heap.size<=·) w' av fv Bf/\Below W W w':=
 (agX J1 aiu aQ 100 50 100 E8 aac Pf ahY aQ ahe ahZ Rt Zr W).mono λ_ _ ⟨fv,he,hx,hb⟩=>⟨_,fv,he,hx,hb⟩
theorem aic (K:Nat) (inp:List Int) (most:Int):pV Bf K inp most=runM Bf K inp most:=by unfold pV;rw[if_pos (t_ ⟨Rt,ah0.okn⟩)]
theorem agY (W:World):CR 11 #[] W (.bool true):=by
 have o_:=aF (λW=>ahE W);have iI:=aF (λ(av fv:Value) (iv:Value) (inp:List Int) (most:Int) (X:World) hx hi hm hk=>Zh Bf Zr aQ (λf hf=>by rw[ai hf];decide) av fv iv inp most X hx hi hm 203 hk);have hr1:=λ(av fv iv:Value) (X:World) hx hi=>iI.out av fv iv [1] 99 X hx hi aQ aQ;have hr2:=λ(av fv iv:Value) (X:World) hx hi=>iI.out av fv iv [0] 99 X hx hi aQ aQ;have hr3:=λ(av fv iv:Value) (X:World) hx hi=>iI.out av fv iv [1] 2 X hx hi aQ aQ;simp only[aic]at hr1 hr2 hr3;rw[ah1]at hr1;rw[ah2]at hr2;rw[ah3]at hr3;have bC:=aF hr1;have cB:=aF hr2;have bL:=aF hr3;clear hr1 hr2 hr3 iI;go_enter Tryz.func11,Tryz.ntmps11;go_upto_region 2 with(go_at_call 23;refine(o_ _).mono ?_;rintro e' w1⟨av,fv,rfl,hx1,hb1⟩;obtain⟨ra,rc,fa,fc,rfl,rfl⟩:=hx1.slice;have kF:=aF hx1.lt;have aI:=aF hb1;clear hx1 hb1)
 have⟨w2,hw2⟩:=xq (w1.alloc (.cells #[.slice ra 0 rc, .slice fa 1 fc] 27));have hb2:=gI hw2;have ht2:=dZ hw2;have ZR:=aF ((kF.below hb2).lt);rw[<-hw2];have c0:=ht2.k0;have c1:=ht2.k1;have⟨tb,kr⟩:=xq w1.heap.size;rw[<-kr]at ht2 c0 c1|-;have ajp:=aF ht2;have ajq:=aU aI hb2;clear hw2 hb2 ht2 kr;have akU:=aF (ZR.below (cm w2 (.cells #[I 1] 3))).lt;have akV:=aF (jl.lit (W:=w2.alloc (.cells #[I 1] 3)) (g:=w2.heap.size) (x:=1) hn0);go_upto_region 3 with(first|(go_at_call 17;refine(bC _ _ _ _ akU akV).mono ?_;rintro e' P7⟨ov1,rfl,mN,hb1⟩;obtain⟨MO,MP,rfl⟩:=mN.slice;have aiF:=aF mN;have Ou:=aF ((cm w2 (.cells #[I 1] 3)).trans (hb1.mono aH));clear mN hb1 c0 c1)|(refine sr 37 (.tmp 4) (.tmp 16) P7 wK hn0 ?_;rw[World.setRow_alloc_new]))
 have⟨v1,hv1⟩:=xq (P7.alloc (.cells #[I 1,I 7, .slice MO 1 MP,I 6] 37));have⟨r1,hr1⟩:=xq P7.heap.size;have TJ:=gI hv1;have aaI:Row v1 r1 37 [I 1,I 7, .slice MO 1 MP,I 6]:=by rw[hv1,hr1];exact cj _ _
 have OL:Below w2 w2 v1:=Ou.out.trans (TJ.mono Ou.size);change Code.wp _ _ _ _ (P7.alloc (.cells #[I 1,I 7, .slice MO 1 MP,I 6] 37));rw[<-hv1,<-hr1];have R4:=bA ajp OL;have ZT:=aF (ZR.below OL).lt;have ajr:=aU ajq OL;have aiG:=aF aaI;have aiH:=aF (aiF.tag (bX TJ none) eF);have c0:=R4.k0;have c1:=R4.k1;clear hv1 hr1 TJ aaI OL;have akW:=aF (ZT.below (cm v1 (.cells #[I 0] 3))).lt;have akX:=aF (jl.lit (W:=v1.alloc (.cells #[I 0] 3)) (g:=v1.heap.size) (x:=0) hn0);go_upto_region 4 with(first|(go_at_call 17;refine(cB _ _ _ _ akW akX).mono ?_;rintro e' P8⟨ov2,rfl,jh,hb2⟩;obtain⟨P9,P_,rfl⟩:=jh.slice;have aiI:=aF jh;have Sk:=aF ((cm v1 (.cells #[I 0] 3)).trans (hb2.mono aH));clear jh hb2 c0 c1)|(refine sr 37 (.tmp 5) (.tmp 19) P8 wK hn0 ?_;rw[World.setRow_alloc_new]))
 have⟨v2,hv2⟩:=xq (P8.alloc (.cells #[I 2,I 0, .slice P9 0 P_,I 4] 37));have⟨r2,hr2⟩:=xq P8.heap.size;have TK:=gI hv2;have aaJ:Row v2 r2 37 [I 2,I 0, .slice P9 0 P_,I 4]:=by rw[hv2,hr2];exact cj _ _
 have Ip:Below v1 v1 v2:=Sk.out.trans (TK.mono Sk.size);change Code.wp _ _ _ _ (P8.alloc (.cells #[I 2,I 0, .slice P9 0 P_,I 4] 37));rw[<-hv2,<-hr2];have R5:=bA R4 Ip;have ZU:=aF (ZT.below Ip).lt;have ajs:=aU ajr Ip;have aiJ:=aF aaJ;have aiK:=aF (aiI.tag (bX TK none) eF);have aiL:=bA aiG Ip;have aiM:=aF (aiH.tag (bX Ip none) eF);have c0:=R5.k0;have c1:=R5.k1;clear hv2 hr2 TK aaJ Ip;have akY:=aF (ZU.below (cm v2 (.cells #[I 1] 3))).lt;have akZ:=aF (jl.lit (W:=v2.alloc (.cells #[I 1] 3)) (g:=v2.heap.size) (x:=1) hn0);go_upto_region 5 with(first|(go_at_call 17;refine(bL _ _ _ _ akY akZ).mono ?_;rintro e' Qa⟨ov3,rfl,jY,hb3⟩;obtain⟨Qb,Qc,rfl⟩:=jY.slice;have aiN:=aF jY;have Bc:=aF ((cm v2 (.cells #[I 1] 3)).trans (hb3.mono aH));clear jY hb3 c0 c1)|(refine sr 37 (.tmp 6) (.tmp 22) Qa wK hn0 ?_;rw[World.setRow_alloc_new]))
 have⟨v3,hv3⟩:=xq (Qa.alloc (.cells #[I 0,I 0, .slice Qb 0 Qc,I 2] 37));have⟨r3,hr3⟩:=xq Qa.heap.size;have TL:=gI hv3;have aaK:Row v3 r3 37 [I 0,I 0, .slice Qb 0 Qc,I 2]:=by rw[hv3,hr3];exact cj _ _
 have D7:Below v2 v2 v3:=Bc.out.trans (TL.mono Bc.size);change Code.wp _ _ _ _ (Qa.alloc (.cells #[I 0,I 0, .slice Qb 0 Qc,I 2] 37));rw[<-hv3,<-hr3];have ZV:=bA R5 D7;have ao8:=aF (ZU.below D7).lt;have ajt:=aU ajs D7;have aiO:=aF aaK;have aiP:=aF (aiN.tag (bX TL none) eF);have aiQ:=bA aiL D7;have aiR:=aF (aiM.tag (bX D7 none) eF);have aiS:=bA aiJ D7;have aiT:=aF (aiK.tag (bX D7 none) eF);have c0:=ZV.k0;have c1:=ZV.k1;clear hv3 hr3 TL aaK D7;have ak0:=aF (show CR 20 #[.agg #[I 1,I 0,I 4,S [], .slice none 0 0]] v3 (.tuple #[I 4, .bool true])from by
  have h:=Xj (A6 4) (Rp 4) (.slice none 0 0) v3 (λ_=>True) ⟨1,aP.nil _ _ _ _⟩;rw[aiE]at h;exact h)
 go_upto_region 6 with(go_at_call 20;refine aN ak0 λw4 hb4=> ?_;have aiU:=bA aiQ hb4;have aiV:=bA aiS hb4;have aiW:=bA aiO hb4;have aiX:=aF (aiR.tag (bX hb4 none) eF);have aiY:=aF (aiT.tag (bX hb4 none) eF);have aiZ:=aF (aiP.tag (bX hb4 none) eF);have aju:=aU ajt hb4;clear c0 c1)
 have⟨w5,bQ⟩:=xq (w4.alloc (.cells #[I 1] 3));have aag:=bQ.symm;have bz:=gI bQ;have MQ:um w5 (.slice (some (w4,0)) 1 1) [1]:=by rw[bQ];exact Zq hn0
 have Qd:=aF MQ;have fT:um w5 (.slice MO 1 MP) [1]:=(show um w4 (.slice MO 1 MP) [1]from aiX.l7 aH).below bz;have fI:=aF (Hp 1 7 6 [1] _ _ w5 fT MQ);have Fu:=aiU.out;have a0:=Fu.k0;have a1:=Fu.k1;have a2:=Fu.k2;have a3:=Fu.k3;have ai0:=bA aiV bz;have ai1:=bA aiW bz;have ai2:=aF (aiY.tag (bX bz none) eF);have ai3:=aF (aiZ.tag (bX bz none) eF);have ajv:=aU aju bz;clear bQ bz MQ fT Fu;go_wp2_with (first|(go_at_call 16;refine aN fI λw6 bV=> ?_;have hr2:=ai0.ext bV;have b0:=hr2.k0;have b1:=hr2.k1;have b2:=hr2.k2;have b3:=hr2.k3;have ai4:=bA ai1 bV;have ai5:=aF (ai2.tag (bX bV none) eF);have ai6:=aF (ai3.tag (bX bV none) eF);have ajw:=aU ajv bV;have cu:=aF (Hp 2 0 4 [] _ _ w6 (show um w6 (.slice P9 0 P_) []from ai5.l7 aH) (aP.nil _ _ _ _));clear hr2 fI a0 a1 a2 a3)|(go_at_call 16;refine aN cu λw7 fS=> ?_;have hr3:=ai4.ext fS;have d0:=hr3.k0;have d1:=hr3.k1;have d2:=hr3.k2;have d3:=hr3.k3;have ai7:=aF (ai6.tag (bX fS none) eF);have ajx:=aU ajw fS;have gB:=aF (Hp 0 0 2 [] _ _ w7 (show um w7 (.slice Qb 0 Qc) []from ai7.l7 aH) (aP.nil _ _ _ _));clear hr3 cu b0 b1 b2 b3)|(go_at_call 16;refine aN gB λw8 mY=> ?_;have ajy:=aU ajx mY))
 go_ret;exact⟨rfl,ajy⟩
abbrev IT:=Int×Int×Nat
def itE:Option IT->List Value
 |none=> [I 0,S [], .slice none 0 0, .slice none 0 0, .slice none 0 0]
 |some it=> [I it.1,S [], .slice (some ⟨it.2.2,0,none⟩) 1 1, .slice none 0 0, .slice none 0 0]
abbrev aiC (n:Int):List Value:= [I 1,I 0,I n,S [], .slice none 0 0]
theorem Row.akC {W W':World} {row:Option Nat} {g:Nat} {t:TypeId} {cs:List Value} (h:Row W g t cs) (hg:W.grownBy W' row) (hn:ld W row t):Row W' g t cs:=
 h.kept hg λe=>hn g e.symm _ _ h
structure ao6 (W0:World) (pb fb:Nat) (l:List (Option IT)) (bv:Value) (W:World):Prop where
 below:Below W0.heap.size W0 W
 hp:W0.heap.size<=pb
 hf:W0.heap.size<=fb
 apr:Row W pb 27 [.slice none 0 0, .slice (some ⟨fb,0,none⟩) 1 1]
 aps:Row W fb 52 [S dX, .slice none 0 0, .slice none 0 0,bv]
 own:a_ 5 54 itE W W0.heap.size bv l
 arg:∀it,some it∈l->Row W it.2.2 31 (aiC it.2.1)/\W0.heap.size<=it.2.2
section
variable {W0 W W':World} {pb fb:Nat} {l:List (Option IT)} {bv:Value}
end
abbrev itS (it:IT):LS:= .mk it.1 [] [A6 it.2.1] [] []
end
section
open Go.RowKit Go.Deep
section
variable {H:Type} {enc:TypeId×Value->H} {P:Program} {w:World} {sp:Nat->Bool} {held:Bool}
def xP (P:Program) (t:TypeId) (d:DataW H):Prop:=∀n∈d.weights P t,n<=reachBytes
theorem WS {e:TypeId}:∀{l:List (DataW H)} {d:DataW H},d∈l->∀n∈d.weights P e,n∈DataW.weightsAll P e l
 |x::l,d,h,n,hn=>by
  simp only[DataW.weightsAll,List.mem_append]
  rcases List.mem_cons.1 h with rfl|h
  ·exact .inl hn
  ·exact .inr (WS h n hn)
theorem xP.RM {ts:List TypeId} {ds:List (DataW H)} (h:(DataW.weightsEach P ts ds).all (·<=reachBytes)=true) {j:Nat} {t:TypeId} {d:DataW H} (ht:ts[j]? =some t) (hd:ds[j]? =some d):xP P t d:=λn hn=>by
 have:=List.all_eq_true.1 h n (DataW.weights_mem_each ht hd n hn)
 simpa using this
theorem Ej.air {α:Type} {k:Nat} (yF:0<k) {R:World->(Nat->Value)->α->Prop} {t e:TypeId} (ht:P.underlying t=some (.slice e)) (hk:P.cellsOf e=k) (hb:0<P.bytesOf e)
  (hel:∀n cs d ps,cs.length=k->DataW.trod enc P w 0 sp held n e cs=some (d,ps)->xP P e d->∃a:α,R w (λj=>cs.getD j undef) a)
  {fuel:Nat} {v:Value} {d:DataW H} {ps:List MemPlace} (h:DataW.trod enc P w 0 sp held fuel t [v]=some (d,ps)) (hs:xP P t d):∃l:List α,Ej k R w v l:=by
 rcases open_slice ht h with⟨hv,_⟩|⟨a,len,cap,m,n,D,Pl,hv,_,hlc,hcap,hm,hx,hc⟩
 ·simp only[List.cons.injEq,and_true]at hv;subst hv;exact⟨[],none,0,rfl,aH, .inl rfl⟩
 ·simp only[List.cons.injEq,and_true]at hv;subst hv;simp only[Prod.mk.injEq]at hx;obtain⟨rfl,rfl⟩:=hx;have hlm:len<=m:=by rw[hm];split<;>omega
  have hlen:len<=140737488351232:=by
   have h1:=hs _ (by simp only[DataW.weights,ht];exact List.mem_cons_self);simp only[aC,List.length_range]at h1;have:len+(m - len)<=(len+(m - len))*P.bytesOf e:=Nat.le_mul_of_pos_right _ hb;unfold reachBytes at h1;omega
  have hone:∀i,i<len->∃a':α,∃C:Nat->Value,(∀j,j<k->w.cell? ((a.add (i*k)).add j)=some (C j))/\R w C a':=λi hi=>by
   obtain⟨cs,h1,h2⟩:=hc i aG;rw[hk]at h1;obtain⟨_,hl,hcell⟩:=World.cells?_some h1;have hsz:xP P e (D i):=λq hq=>hs q (by
    simp only[DataW.weights,ht,List.mem_cons,List.mem_append];exact .inr (.inl (WS (List.mem_map.2 ⟨i,List.mem_range.2 hi,rfl⟩) q hq)))
   obtain⟨a',ha'⟩:=hel n cs _ _ hl h2 hsz;refine⟨a',_,λj hj=> ?_,ha'⟩;rw[hcell j hj];simp [List.getD,ah (show j<cs.length by omega)]
  by_cases h0:len=0
  ·subst h0;exact⟨[],some a,cap,rfl,aH, .inl rfl⟩
  ·obtain⟨a0,C0,_⟩:=hone 0 aG
   classical
   haveI:Inhabited α:=⟨a0⟩
   obtain⟨f,hf⟩:=choose_lt (α:=α) (n:=len) (p:=λi a'=>∃C:Nat->Value,(∀j,j<k->w.cell? ((a.add (i*k)).add j)=some (C j))/\R w C a') hone;refine⟨(List.range len).map f,some a,cap,aH,by simpa using hlen, ?_⟩
   ·obtain⟨C,hC,_⟩:=hf 0 aG;have hsp:=World.cell?_spot (hC 0 yF);have hsa:a.spot=none:=by simpa [Addr.add]using hsp
    obtain⟨b,o,s⟩:=a;simp only at hsa;subst hsa;refine .inr ⟨b,o,rfl,λi x hx=> ?_⟩;rw[List.getElem?_map]at hx;by_cases hi:i<len
    ·rw[List.getElem?_range hi]at hx;simp at hx;subst hx;obtain⟨C,hC,hr⟩:=hf i hi;refine⟨C,λj hj=> ?_,hr⟩;have:=hC j hj;rw[Hu,Hu]at this;exact this
    ·rw[List.getElem?_eq_none (by simpa using hi)]at hx;cases hx
end
end
section
open Go.RowKit Go.Shelf
attribute [local go_sem] Oper.semAt_some
theorem Zm (c n:Int) (h:c<0):qg c n= -(c+1).tmod n:=by
 unfold qg;rw[if_pos h,<-Int.neg_tmod,Int.tmod_eq_emod_of_nonneg aG]
theorem af8 (c n:Int) (hc:Bh c) (hn:1<=n) (eD:n<=4611686018427387904) (W:World):
  Calls Tryz.prog 44 #[I c,I n] W λe w'=>e= .returned (I (qg c n))/\w'=W:=by
 have hc':=hc;unfold Bh at hc';have hne: ¬n=0:=aG
 by_cases h:c<0
 ·rw[Zm c n h];go_enter Tryz.func44,Tryz.ntmps44;go_wp2;go_ret;exact⟨rfl,rfl⟩
 ·have hp:qg c n=c%n:=by unfold qg;rw[if_neg h]
  rw[hp];clear hp;go_enter Tryz.func44,Tryz.ntmps44;go_wp2;go_ret;exact⟨rfl,rfl⟩
theorem af1 (c n:Int) (hc:Bh c) (hn:1<=n) (eD:n<=4611686018427387904) (W:World):
  Calls Tryz.prog 79 #[I c,I n] W λe w'=>e= .returned (I (qg c n))/\w'=W:=by
 have hc':=hc;unfold Bh at hc';have hne: ¬n=0:=aG
 by_cases h:c<0
 ·rw[Zm c n h];go_enter Tryz.func79,Tryz.ntmps79;go_wp2;go_ret;exact⟨rfl,rfl⟩
 ·have hp:qg c n=c%n:=by unfold qg;rw[if_neg h]
  rw[hp];clear hp;go_enter Tryz.func79,Tryz.ntmps79;go_wp2;go_ret;exact⟨rfl,rfl⟩
def Src (sb:Nat) (W:World):Prop:=∃(v:Value) (l:List Int) (at':Nat),Row W sb 61 [v,I at']/\aP (·<sb) 1 yU W v l/\at'<=l.length
theorem Src.kept {sb:Nat} {W W':World} {row:Option Nat} (h:Src sb W) (hg:W.grownBy W' row) (hr:∀r,row=some r->sb<r):Src sb W':=by
 obtain⟨v,l,k,h1,h2,h3⟩:=h;refine⟨v,l,k,h1.kept hg (λe=> ?_),h2.grown hg (λr e=> ?_) i20,h3⟩
 ·have:=hr sb e.symm;omega
 ·have:=hr r e;omega
theorem Src.lt {sb:Nat} {W:World} (h:Src sb W):sb<W.heap.size:=by
 obtain⟨v,l,k,h1,_⟩:=h;exact h1.lt
def SG (sb:Nat) (W W':World):Prop:=W.grownBy W' (some sb)/\Src sb W'
theorem SG.trans {sb:Nat} {a b c:World} (h:SG sb a b) (k:SG sb b c):SG sb a c:=⟨pN h.1 k.1,k.2⟩
theorem gY (sb:Nat) (n:Int) (W:World) (h:Src sb W) (hn:1<=n) (eD:n<=4611686018427387904):
  Calls Tryz.prog 25 #[.pointer (some (sb,0)),I n] W λe w'=>(∃r:Int,e= .returned (I r)/\0<=r/\r<n)/\SG sb W w':=by
 obtain⟨v,l,k,hr,hl,hk⟩:=h;obtain⟨a0,c0,rfl,Ge, -⟩:=id hl;have⟨N,hN⟩:=xq l.length;rw[<-hN]at hl hr hk Ge;have HR:=aF hr;have HL:=aF hl;have HN:=aF hN;clear hl hN hr;go_enter Tryz.func25,Tryz.ntmps25;go_upto_region 1 with(fail)
 refine cC (λX=>X.cell? (sb,0)=some (.slice a0 N c0)/\X.cell? (sb,1)=some (I k)) [0,0,0,0,0,0,0,0,0,0] (λwd hh=>⟨aO HR.out hh 0,aO HR.out hh 1⟩) λwd hh hgd hS=> ?_;have bC:Hid (Row wd sb 61 [.slice a0 N c0,I k]):=HR.kept hgd aH;have pz:Hid (aP (·<sb) 1 yU wd (.slice a0 N c0) l):=HL.grown hgd aJ i20;have I_:=aF (show W.grownBy wd (some sb)from⟨hgd.os,hgd.tape,hgd.output,hgd.size,λi hi _=>hgd.block i hi aH⟩);clear hh hgd;refine Bg ?_;refine dP ?_;by_cases hlt:k<N
 ·have bT: ¬(N:Int)<=(k:Int):=aG;obtain⟨b,o,C,rfl,hb,hC,hrx⟩:=pz.at (show k<l.length by rw[<-HN.out];exact hlt);have⟨x,hx⟩:=xq (l[k]'(by rw[<-HN.out];exact hlt));rw[<-hx]at hrx;have e1:=hC 0 aG;rw[hrx.1]at e1;simp only[Nat.mul_one,aA]at e1;have c0':=bC.k0;have c1:=bC.k1;have f1:=bC.frozen 1;have HI:=aF hrx.2;have pY:=aF e1;clear hC hrx hx e1;clear hS;have HPP:=aF (Xb x n hn);go_upto_region 4 with(fail)
  have⟨w3,hw3⟩:=xq (wd.setCell (sb,1) (I ((k:Int)+1)));have hg3:wd.grownBy w3 (some sb):=by rw[hw3];exact bO _ _ _ _
  have hr3:Row w3 sb 61 [.slice (some (b,o)) N c0,I ((k:Int)+1)]:=by rw[hw3];exact bC.set 1 _
  rw[<-hw3];have iM:w3.cell? (b,o+k)=some (I x):=aS pY hg3 ct;have Gt:Hid (aP (·<sb) 1 yU w3 (.slice (some (b,o)) N c0) l):=pz.grown hg3 bh i20;have Ja:=aF (pN I_.out hg3);have bL:=aF hr3;have iz:=aF iM;clear hw3 hg3 hr3 iM c0' c1 f1;refine cC (λX=>X.cell? (sb,0)=some (.slice (some (b,o)) N c0)/\X.cell? (sb,1)=some (I ((k:Int)+1))/\X.cell? (b,o+k)=some (I x)) [0,0,0,0,0,0,0,0,0,0,0,0,1,0] (λwd hh=>⟨aO bL.out hh 0,aO bL.out hh 1,eP hh iz⟩) λw4 hh hgd hS=> ?_;have bU:=aF (show Row w4 sb 61 [.slice (some (b,o)) N c0,I ((k:Int)+1)]from bL.kept hgd aH);have HL4:=aF (show aP (·<sb) 1 yU w4 (.slice (some (b,o)) N c0) l from Gt.grown hgd aJ i20);have PD:=aF (pN Ja.out (show w3.grownBy w4 (some sb)from⟨hgd.os,hgd.tape,hgd.output,hgd.size,λi hi _=>hgd.block i hi aH⟩));have hwk:IntKind.i64.wrap (k:Int)=k:=IntWalk.i64_in _ aG;clear hh hgd;refine dS ?_;go_wp2_with (go_at_call 44;refine(af8 x n HI hn eD w4).mono ?_;rintro e w5⟨rfl,rfl⟩)
  refine bw hS λhS=> ?_;refine wY ?_;clear hS;go_wp2;go_ret;exact⟨⟨qg x n,rfl,HPP.1,HPP.2⟩,PD,_,l,k+1,bU,HL4,by rw[<-HN.out];omega⟩
 ·have bT:(N:Int)<=(k:Int):=aG;clear hS;go_wp2;go_ret;exact⟨⟨0,rfl,aG,aG⟩,I_,_,l,k,bC,pz,by rw[<-HN.out];exact hk⟩
def fH (x:aK):Prop:=eH x/\x.length<=100
theorem Hz {b:Int} {x:ByteArray} (hb:0<=b/\b<128) (hx:x.size<=6) (ha:∀c∈x.data.toList,c.toNat<128):∃l:aK,(Ending.returned (.string (strOfNums [b]++x)))=Ending.returned (S l)/\fH l:=by
 refine⟨(strOfNums [b]++x).data.toList,by cases (strOfNums [b]++x);rfl, ?_, ?_⟩
 ·intro c hc;rw[ByteArray.data_append,Array.toList_append,strOfNums_data]at hc;rcases List.mem_append.1 hc with hc|hc
  ·simp only[List.map_cons,List.map_nil,List.mem_singleton]at hc;rw[hc,UInt8.toNat_ofNat_of_lt' (by show b.toNat<256;omega)];omega
  ·exact ha c hc
 ·rw[ByteArray.data_append,Array.toList_append,strOfNums_data,ax];simp only[List.map_cons,List.map_nil,aq,au,Array.length_toList];have:x.data.size=x.size:=rfl;omega
def Rx:List Value:= [.string ⟨#[]⟩, .string ⟨#[49]⟩, .string ⟨#[95]⟩, .string ⟨#[90,57]⟩, .string ⟨#[105,102]⟩, .string ⟨#[120]⟩, .string ⟨#[48]⟩, .string ⟨#[97,97]⟩, .string ⟨#[105,110,116,105,110,116]⟩, .string ⟨#[113,55]⟩, .string ⟨#[66]⟩, .string ⟨#[48,48]⟩]
theorem Rc {W:World} {g:Nat} (h:Row W g 9 Rx) {q:Nat} {x:ByteArray} (hq:Rx[q]? =some (.string x)):W.cell? (g,q)=some (.string x):=by
 rw[h.cell];exact hq
theorem agF {q:Nat} (hq:q<12):∃x:ByteArray,Rx[q]? =some (.string x)/\x.size<=6/\∀c∈x.data.toList,c.toNat<128:=by
 rcases(by omega:q=0\/q=1\/q=2\/q=3\/q=4\/q=5\/q=6\/q=7\/q=8\/q=9\/q=10\/q=11)with rfl|rfl|rfl|rfl|rfl|rfl|rfl|rfl|rfl|rfl|rfl|rfl<;>exact⟨_,rfl,aQ,aQ⟩
theorem Q4 {W:World} {g:Nat} {b:Int} (h:Row W g 5 [.int .u8 b]):(convert 128 9 (.slice (some (g,0)) 1 1)).run Tryz.prog W= .ok (.string (strOfNums [b])) W:=
 run_convert_bytes_arg W 128 5 Tryz.underlying128 Tryz.underlying5 g 0 1 1 [b] rfl (λi hi=>by
  obtain rfl:i=0:=aG
  rw[h.cell];rfl) 9 Tryz.underlying9
def OT.l10:OT:= .one 1 10 (.one 1 11 (.one 0 12 .nil))
def OT.l5:OT:= .one 1 5 (.one 1 11 (.one 0 12 .nil))
def OT.v9:OT:= .two 4 10 (.two 5 10 .l10 .l5) (.one 1 4 .l5)
def OT.v46:OT:= .two 4 6 (.two 5 6 (.one 1 6 (.one 0 9 .l10)) (.one 0 9 (.two 5 10 .l10 .l5))) (.one 0 9 .v9)
def OT.var:OT:= .one 0 0 (.one 0 1 (.one 0 2 (.one 0 3 (.one 0 7 (.one 0 8 .v46)))))
theorem Q5 (r:Int) (h0:0<=r) (h1:r<312) (W:World):
  Calls Tryz.prog 47 #[I r] W λe w'=>(∃x:aK,e= .returned (S x)/\fH x)/\Below W W w':=by
 have hp:qg r 312=r:=by unfold qg;rw[if_neg aG];exact Int.emod_eq_of_lt h0 h1
 obtain⟨q,hq⟩:∃q:Nat,(q:Int)=r/26:=⟨(r/26).toNat,aG⟩;have aj7:q<12:=aG;have hqr:r.tdiv 26=q:=by rw[Int.tdiv_eq_ediv_of_nonneg h0];exact hq.symm
 have UX:(q:Int)<12:=aG;obtain⟨x,hx,n9,yh⟩:=agF aj7;have rS:=aF n9;have vp:=aF yh;have Pq:=aF (af1 r 312 (by unfold Bh;omega) aG aG W);rw[hp]at Pq;clear hp hq;have HX:=aF hx;clear hx n9 yh;go_enter Tryz.func47,Tryz.ntmps47;go_upto_region 2 with(go_at_call 79;refine Pq.mono ?_;rintro e w1⟨rfl,rfl⟩)
 refine EM aL (λ_=>True) OT.var aL t20 ?_;intro wd hh hgd hS;have HB:=aF (show Below w1 w1 wd from(Below.refl _ w1).grown hgd fQ aJ);have hwk:IntKind.i64.wrap (q:Int)=q:=IntWalk.i64_in _ aG;clear hgd;refine iX ?_;have⟨b,hb⟩:=xq (IntKind.u8.wrap (IntKind.i64.wrap (97+r.tmod 26)));rw[<-hb];have hbr:0<=b/\b<128:=by
  have h26:r.tmod 26=r%26:=Int.tmod_eq_emod_of_nonneg h0;rw[hb,h26,IntKind.wrap_i64,IntKind.wrap_u8];omega
 have rN:=aF hbr;clear hb hh hbr;have hadd:∀w,(Op.stringOp .add (strOfNums [b]) x).run Tryz.prog w= .ok (.string (strOfNums [b]++x)) w:=λw=>run_string_add_sum (w:=w) _ _ (by have:=rS.out;rw[strOfNums_size];simp;omega);have cvA:=Q4 (b:=b) (cj wd (.cells #[.int .u8 b] 5));have apg:=Q4 (b:=b) (dV (wd.alloc (.cells #[.int .u8 b] 5)) (.cells #[.string ⟨#[]⟩, .string ⟨#[49]⟩, .string ⟨#[95]⟩, .string ⟨#[90,57]⟩, .string ⟨#[105,102]⟩, .string ⟨#[120]⟩, .string ⟨#[48]⟩, .string ⟨#[97,97]⟩, .string ⟨#[105,110,116,105,110,116]⟩, .string ⟨#[113,55]⟩, .string ⟨#[66]⟩, .string ⟨#[48,48]⟩] 9) (cj wd (.cells #[.int .u8 b] 5)));have aj8:=Q4 (b:=b) (cj (wd.alloc (.cells #[.string ⟨#[]⟩, .string ⟨#[49]⟩, .string ⟨#[95]⟩, .string ⟨#[90,57]⟩, .string ⟨#[105,102]⟩, .string ⟨#[120]⟩, .string ⟨#[48]⟩, .string ⟨#[97,97]⟩, .string ⟨#[105,110,116,105,110,116]⟩, .string ⟨#[113,55]⟩, .string ⟨#[66]⟩, .string ⟨#[48,48]⟩] 9)) (.cells #[.int .u8 b] 5));have xB:=Rc (cj wd (.cells #[.string ⟨#[]⟩, .string ⟨#[49]⟩, .string ⟨#[95]⟩, .string ⟨#[90,57]⟩, .string ⟨#[105,102]⟩, .string ⟨#[120]⟩, .string ⟨#[48]⟩, .string ⟨#[97,97]⟩, .string ⟨#[105,110,116,105,110,116]⟩, .string ⟨#[113,55]⟩, .string ⟨#[66]⟩, .string ⟨#[48,48]⟩] 9)) HX;have xBA:=Rc (dV (wd.alloc (.cells #[.string ⟨#[]⟩, .string ⟨#[49]⟩, .string ⟨#[95]⟩, .string ⟨#[90,57]⟩, .string ⟨#[105,102]⟩, .string ⟨#[120]⟩, .string ⟨#[48]⟩, .string ⟨#[97,97]⟩, .string ⟨#[105,110,116,105,110,116]⟩, .string ⟨#[113,55]⟩, .string ⟨#[66]⟩, .string ⟨#[48,48]⟩] 9)) (.cells #[.int .u8 b] 5) (cj wd (.cells #[.string ⟨#[]⟩, .string ⟨#[49]⟩, .string ⟨#[95]⟩, .string ⟨#[90,57]⟩, .string ⟨#[105,102]⟩, .string ⟨#[120]⟩, .string ⟨#[48]⟩, .string ⟨#[97,97]⟩, .string ⟨#[105,110,116,105,110,116]⟩, .string ⟨#[113,55]⟩, .string ⟨#[66]⟩, .string ⟨#[48,48]⟩] 9))) HX.out;have xAB:=Rc (cj (wd.alloc (.cells #[.int .u8 b] 5)) (.cells #[.string ⟨#[]⟩, .string ⟨#[49]⟩, .string ⟨#[95]⟩, .string ⟨#[90,57]⟩, .string ⟨#[105,102]⟩, .string ⟨#[120]⟩, .string ⟨#[48]⟩, .string ⟨#[97,97]⟩, .string ⟨#[105,110,116,105,110,116]⟩, .string ⟨#[113,55]⟩, .string ⟨#[66]⟩, .string ⟨#[48,48]⟩] 9)) HX;simp only[World.size_alloc]at aj8 xAB;refine uR rfl rfl ?_ ?_
 ·go_wp2;refine dB trivial λ_=> ?_
  refine uR rfl rfl ?_ ?_
  ·go_wp2;refine dB trivial λ_=> ?_
   refine gQ rfl ?_;go_wp2;refine dB trivial λ_=> ?_
   refine iX ?_;refine gQ rfl ?_;go_wp2;refine dB trivial λ_=> ?_
   refine gQ rfl ?_;go_wp2;refine dB trivial λ_=> ?_
   refine iX ?_;refine pO ?_;go_wp2;go_ret;exact⟨Hz rN rS vp,HB.out.trans (((cm wd _).alloc aH _).mono HB.size)⟩
  ·go_wp2;refine dB trivial λ_=> ?_
   refine iX ?_;refine uR rfl rfl ?_ ?_
   ·go_wp2;refine dB trivial λ_=> ?_
    refine gQ rfl ?_;go_wp2;refine dB trivial λ_=> ?_
    refine gQ rfl ?_;go_wp2;refine dB trivial λ_=> ?_
    refine iX ?_;refine pO ?_;go_wp2;go_ret;exact⟨Hz rN rS vp,HB.out.trans (((cm wd _).alloc aH _).mono HB.size)⟩
   ·go_wp2;refine dB trivial λ_=> ?_
    refine gQ rfl ?_;go_wp2;refine dB trivial λ_=> ?_
    refine gQ rfl ?_;go_wp2;refine dB trivial λ_=> ?_
    refine iX ?_;refine pO ?_;go_wp2;go_ret;exact⟨Hz rN rS vp,HB.out.trans (((cm wd _).alloc aH _).mono HB.size)⟩
 ·go_wp2;refine dB trivial λ_=> ?_
  refine iX ?_;refine uR rfl rfl ?_ ?_
  ·go_wp2;refine dB trivial λ_=> ?_
   refine uR rfl rfl ?_ ?_
   ·go_wp2;refine dB trivial λ_=> ?_
    refine gQ rfl ?_;go_wp2;refine dB trivial λ_=> ?_
    refine gQ rfl ?_;go_wp2;refine dB trivial λ_=> ?_
    refine iX ?_;refine pO ?_;go_wp2;go_ret;exact⟨Hz rN rS vp,HB.out.trans (((cm wd _).alloc aH _).mono HB.size)⟩
   ·go_wp2;refine dB trivial λ_=> ?_
    refine gQ rfl ?_;go_wp2;refine dB trivial λ_=> ?_
    refine gQ rfl ?_;go_wp2;refine dB trivial λ_=> ?_
    refine iX ?_;refine pO ?_;go_wp2;go_ret;exact⟨Hz rN rS vp,HB.out.trans (((cm wd _).alloc aH _).mono HB.size)⟩
  ·go_wp2;refine dB trivial λ_=> ?_
   refine gQ rfl ?_;go_wp2;refine dB trivial λ_=> ?_
   refine gQ rfl ?_;go_wp2;refine dB trivial λ_=> ?_
   refine gQ rfl ?_;go_wp2;refine dB trivial λ_=> ?_
   refine iX ?_;refine pO ?_;go_wp2;go_ret;exact⟨Hz rN rS vp,HB.out.trans (((cm wd _).alloc aH _).mono HB.size)⟩
end
end Go.Proofs.YtjgbkdbkachciaaGreatDoor
