import Derived.Test.YtmnoaeffocnnmaaGreatDoorEO
import Derived.Test.YtmnoaeffocnnmaaGreatDoorFA
namespace Go.Proofs.YtmnoaeffocnnmaaGreatDoor
section
variable {P:Program} {n0:Nat} {ρ:PM} {e:Tr Value} {a:Act} {s s':AS} {r:OO} {W:World} {o:Oper}
theorem takeDrop_get (q w:List Value) (k:Nat) (hk:k+w.length≤q.length) (i:Nat):(q.take k++w++q.drop (k+w.length))[i]? =if i<k then q[i]? else if i<k+w.length then w[i-k]? else q[i]?:=by
 rw[List.append_assoc,List.getElem?_append]
 have hl:(q.take k).length=k:=by rw[List.length_take];omega
 rw[hl]
 split
 ·rename_i h;rw[List.getElem?_take,if_pos h]
 ·rename_i h
  rw[List.getElem?_append]
  by_cases h2:i<k+w.length
  ·rw[if_pos (by omega),if_pos h2]
  ·rw[if_neg (by omega),if_neg h2,List.getElem?_drop]
   congr 1;omega
/-- an append into the room of a row that nobody else has -/
theorem app_loose {u t t2 ty:TypeId} {i:TypeInfo} {l n m1 m2:Nat} {ad ad':Addr} {c' c0:Nat} {x x':Value} {oo ww q:Array Value}
  (ht:P.underlying t=some (.slice u)) (ht2:notInt P t2=true) (hi:P.info? u=some i) (hcs:P.cellsOf u=i.size) (_h1:1≤P.cellsOf u)
  (hA:AR ρ ad ad') (hoff:ad.off=0) (hsp:ad.spot=none) (hcap:c'=ρ.cap ad.block) (_hlc:l≤c')
  (hv1:VR ρ (.slice (some ad) l c0) (.slice (some ad') l c')) (hv2:VR ρ x x') (hlen:lenV x=some n) (hr1:rowV s l (l*P.cellsOf u) (.slice (some ad) l c0)=some (oo,m1)) (hr2:rowV s n (n*P.cellsOf u) x=some (ww,m2)) (hs1:oo.size=l*P.cellsOf u) (hs2:ww.size=n*P.cellsOf u) (hone:ww.toList.all one1=true)
  (hq:s.heap.get ad.block=some (.cells q u (0,0))) (hg:l+n≤c')
  (hp:Pre P n0 ρ s {heap:=(s.heap.set s.next (some (.cells (oo++ww) u))).set ad.block none,next:=s.next+1,rd:=s.rd|||m2,wr:=s.wr|||bit ad.block} W):
  ∃v' W' ρ',(Builtin.append_ #[t,t2] ty #[.slice (some ad') l c',x']).run P W= .ok v' W'∧VR ρ' (.slice (some ⟨s.next,0,none⟩) (l+n) LOO) v'∧Post P ρ s {heap:=(s.heap.set s.next (some (.cells (oo++ww) u))).set ad.block none,next:=s.next+1,rd:=s.rd|||m2,wr:=s.wr|||bit ad.block} W ρ' W':=by
 have hM1:AS.tch {heap:=(s.heap.set s.next (some (.cells (oo++ww) u))).set ad.block none,next:=s.next+1,rd:=s.rd|||m2,wr:=s.wr|||bit ad.block} ad.block:= .inr (bit_self _ _)
 have hm1:∀b,m1.testBit b=true→b=ad.block:=fun b hb=>by
  dsimp only[rowV] at hr1
  split at hr1<;>try cases hr1
  split at hr1<;>cases hr1
  rw[bit_test]at hb
  simpa using hb
 obtain⟨o',hav1,hrun1,hcells⟩:=row_abs hr1 hv1 (fun b hb=>by rw[hm1 b hb];exact hM1) hp.wr rfl hs1
 obtain⟨w',hav2,hrun2,_⟩:=row_abs hr2 hv2 (fun b hb=> .inl (by show (s.rd|||m2).testBit b=true;rw[Nat.testBit_or,hb,Bool.or_true])) hp.wr rfl hs2
 obtain⟨hl,ob,hob,hor,hcp⟩:=BR.live hp.wr hA.1 hM1 hq
 have hlt:=hp.inj.lt _ _ hl
 cases hor with
 |cells _ hz hx=>
  rename_i q'
  have hc':c'=q'.size/P.cellsOf u:=hcap.trans hcp
  have hfit:(l+n)*P.cellsOf u≤q'.size:=by
   have:(l+n)*P.cellsOf u≤(q'.size/P.cellsOf u)*P.cellsOf u:=Nat.mul_le_mul_right _ (by omega)
   exact Nat.le_trans this (Nat.div_mul_le_self _ _)
  have hwl:w'.toList.length=n*P.cellsOf u:=by rw[Array.length_toList,←hav2.1,hs2]
  have hfit2:l*P.cellsOf u+0+w'.toList.length≤q'.size:=by rw[hwl];rw[Nat.add_mul]at hfit;omega
  have had:(ad'.add (l*P.cellsOf u))=⟨ad'.block,l*P.cellsOf u,none⟩:=by
   obtain⟨b,of,sp⟩:=ad'
   have h2:=(hA.eq hl).1;have h3:=(hA.eq hl).2
   simp only[hoff,hsp]at h2 h3;subst h2;subst h3
   unfold Addr.add
   split
   ·rename_i h0;rw[h0]
   ·simp
  have hst:=run_storeCells_at P ad'.block (l*P.cellsOf u) u w'.toList 0 q' W hob hfit2 (one1_VR (l:=ww.toList) (by simpa using hav2) hone)
  have hrun:=run_app_in (ty:=ty) ht ht2 hi (some ad') l c' n x' w' (w:=W) (lenV_run hlen hv2 W) (by rw[←hcs];exact hrun2 W rfl) hg (fun b hb=>by cases hb;rw[←hcs,had];exact hst) (fun h=>by cases h)
  rw[Nat.add_zero]at hst hrun
  have hab:ρ s.next= .abs:=hp.fresh _ (Nat.le_refl _) (by show s.next<s.next+1;omega)
  have hne:s.next≠ad.block:=fun h=>by rw[←h,hab]at hl;cases hl
  have hle:PLe ρ ⟨fun b=>if b=s.next then .live ad'.block else if b=ad.block then .dead else ρ b,fun b=>if b=s.next then ρ.cap ad.block else ρ.cap b⟩:=by
   refine⟨fun b=>?_,fun b hb=>?_⟩
   ·by_cases e:b=s.next
    ·exact .inl (e▸hab)
    ·simp only[if_neg e]
     by_cases e2:b=ad.block
     ·subst e2;exact .inr (.inr ⟨_,hl,.inr (by simp)⟩)
     ·simp only[if_neg e2];exact (PLe.refl ρ).at_ b
   ·have:b≠s.next:=fun e=>hb (e▸hab)
    simp only[if_neg this]
  have hget:∀i,((q'.toList.take (l*P.cellsOf u)++w'.toList++q'.toList.drop (l*P.cellsOf u+w'.toList.length)).toArray)[i]? =if i<l*P.cellsOf u then q'[i]? else if i<l*P.cellsOf u+w'.toList.length then w'[i-l*P.cellsOf u]? else q'[i]?:=fun i=>by
   rw[List.getElem?_toArray,takeDrop_get _ _ _ (by rw[Array.length_toList];simpa using hfit2)]
   simp only [Array.getElem?_toList]
  have hnsz:((q'.toList.take (l*P.cellsOf u)++w'.toList++q'.toList.drop (l*P.cellsOf u+w'.toList.length)).toArray).size=q'.size:=by
   simp only [List.size_toArray,List.length_append,List.length_take,List.length_drop,Array.length_toList]
   rw[Array.length_toList]at hfit2;omega
  have hWh:∀y,(W.setRow ad'.block (q'.toList.take (l*P.cellsOf u)++w'.toList++q'.toList.drop (l*P.cellsOf u+w'.toList.length)).toArray).heap[y]? =if y=ad'.block then some (.cells (q'.toList.take (l*P.cellsOf u)++w'.toList++q'.toList.drop (l*P.cellsOf u+w'.toList.length)).toArray u (0,0)) else W.heap[y]?:=fun y=>by
   split
   ·rename_i h;subst h;exact setRow_heap W _ q' _ u _ hob
   ·rename_i h;exact setRow_other W _ _ _ h
  have hWs:(W.setRow ad'.block (q'.toList.take (l*P.cellsOf u)++w'.toList++q'.toList.drop (l*P.cellsOf u+w'.toList.length)).toArray).heap.size=W.heap.size:=by simp [World.setRow]
  refine⟨_,_,_,hrun,.sl (a:=⟨s.next,0,none⟩) (a':=ad') (AR.mk (.inr (by simp only[if_true])) (by rw[(hA.eq hl).1];exact hoff) (by rw[(hA.eq hl).2];exact hsp)) (.inr ⟨rfl,hg,fun _=>by simp only[if_true];exact hcap⟩),
   hle,fun b h2 h3=>?_,fun b y h2 h3=>?_,⟨fun b c y h2 h3=>?_,fun b y h2=>?_⟩,fun b hb=>?_,fun y hy hb=>?_,?_,rfl,rfl,rfl,fun b y k1 k2 k3=>?_⟩
  ·by_cases e:b=s.next
   ·subst e;exact⟨Nat.le_refl _,Nat.lt_succ_self _⟩
   ·simp only[if_neg e]at h3
    by_cases e2:b=ad.block
    ·subst e2;rw[hl]at h2;cases h2
    ·simp only[if_neg e2]at h3;exact absurd h2 h3
  ·by_cases e:b=s.next
   ·rw[e,hab]at h2;cases h2
   ·simp only[if_neg e]at h3
    by_cases e2:b=ad.block
    ·subst e2;exact bit_self _ _
    ·simp only[if_neg e2]at h3;rw[h2]at h3;cases h3
  ·dsimp only at h2 h3
   have key:∀b,b≠s.next→(if b=ad.block then Pl.dead else ρ b)= .live y→b≠ad.block∧ρ b= .live y:=fun b _ h=>by
    split at h
    ·cases h
    ·rename_i h';exact⟨h',h⟩
   split at h2<;>split at h3
   ·rename_i e1 e2;rw[e1,e2]
   ·rename_i e1 e2;cases h2
    obtain⟨k1,k2⟩:=key c e2 h3
    exact absurd (hp.inj.inj c ad.block _ k2 hl) k1
   ·rename_i e1 e2;cases h3
    obtain⟨k1,k2⟩:=key b e1 h2
    exact absurd (hp.inj.inj b ad.block _ k2 hl) k1
   ·rename_i e1 e2
    exact hp.inj.inj b c y (key b e1 h2).2 (key c e2 h3).2
  ·dsimp only at h2
   rw[hWs]
   split at h2
   ·cases h2;exact hlt
   ·split at h2
    ·cases h2
    ·exact hp.inj.lt b y h2
  ·show _∨(_∧((s.heap.set s.next (some (.cells (oo++ww) u))).set ad.block none).get b=none)∨∃x p p',_∧((s.heap.set s.next (some (.cells (oo++ww) u))).set ad.block none).get b=some p∧_∧_∧_
   rw[Tr.get_set,Tr.get_set]
   by_cases e:b=s.next
   ·subst e
    refine .inr (.inr ⟨ad'.block,_,_,by simp only[if_true],by rw[if_neg hne,if_pos rfl],by rw[hWh,if_pos rfl],.cells u ?_ (fun j v v' hj hj'=>?_),?_⟩)
    ·rw[hnsz,Array.size_append,hs1,hs2,←Nat.add_mul];exact hfit
    ·refine VR.mono hle ?_
     rw[hget]at hj'
     rw[Array.getElem?_append]at hj
     rw[hs1]at hj
     split at hj'
     ·rename_i hlt2
      rw[if_pos hlt2]at hj
      have h4:=hcells l c' ad' rfl j hlt2
      have h5:W.cell? (ad'.add j)=q'[j]?:=by
       unfold World.cell?
       have e1:(ad'.add j).block=ad'.block:=by unfold Addr.add;split<;>rfl
       have e2:(ad'.add j).off=j:=by unfold Addr.add;split<;>simp_all [(hA.eq hl).1]
       have e3:(ad'.add j).spot=none:=by unfold Addr.add;split<;>simp_all [(hA.eq hl).2]
       rw[e1,hob,e2,e3]
       rfl
      exact hav1.2 j v v' hj (h4.trans (h5.trans hj'))
     ·rename_i hlt2
      rw[if_neg hlt2]at hj
      have hj2:j-l*P.cellsOf u<ww.size:=(Array.getElem?_eq_some_iff.1 hj).1
      rw[if_pos (by rw[hwl,←hs2];omega)]at hj'
      exact hav2.2 _ v v' hj hj'
    ·simp only[if_true]
     show ρ.cap ad.block=_/P.cellsOf u
     rw[hnsz,←hc',hcap]
   ·by_cases e2:b=ad.block
    ·subst e2
     exact .inr (.inl ⟨by simp only[if_neg e,if_true],by rw[if_pos rfl]⟩)
    ·simp only[if_neg e,if_neg e2]
     have hb2:AS.tch {heap:=(s.heap.set s.next (some (.cells (oo++ww) u))).set ad.block none,next:=s.next+1,rd:=s.rd|||m2,wr:=s.wr|||bit ad.block} b:=hb.resolve_right fun h=>e (by have h1:=h.1;have h2:b<s.next+1:=h.2;omega)
     rcases hp.wr b hb2 with k|k|⟨y,p,p',k1,k2,k3,k4,k5⟩
     ·exact .inl k
     ·exact .inr (.inl k)
     ·refine .inr (.inr ⟨y,p,p',k1,k2,?_,k4.mono hle,k5⟩)
      rw[hWh,if_neg (fun h=>e2 (hp.inj.inj b ad.block y k1 (by rw[h];exact hl)))]
      exact k3
  ·rw[hWh,if_neg]
   rintro rfl
   have:=hb _ hl
   rw[show (s.wr|||bit ad.block).testBit ad.block=true from bit_self _ _]at this
   cases this
  ·rw[hWs];exact Nat.le_refl _
  ·by_cases e:b=s.next
   ·simp only[if_pos e]at k2;cases k2
    exact⟨ad.block,hl,bit_self _ _⟩
   ·simp only[if_neg e]at k2
    split at k2
    ·cases k2
    ·rw[k1]at k2;cases k2
end
end Go.Proofs.YtmnoaeffocnnmaaGreatDoor

namespace Go.Proofs.YtmnoaeffocnnmaaGreatDoor
section
variable {P:Program} {n0:Nat} {ρ:PM} {e:Tr Value} {a:Act} {s s':AS} {r:OO} {W:World} {o:Oper}
theorem run_app_outZ {t t2 ty u:TypeId} {i:TypeInfo} {z:Value} {ik:IntKind} (ht:P.underlying t=some (.slice u)) (ht2:P.underlying t2=some (.int ik)) (hi:P.info? u=some i) (hz:i.zero=some z) (ad:Option Addr) (n cap m:Nat) (k:IntKind) (olds:Array Value) {w:World}
  (hfo:(Builtin.firstCells i.size n (.slice ad n cap)).run P w.drew= .ok olds w.drew) (hg:cap<n+m) (h63:n+m≤1000000) (hb:i.bytes≤4096) (hnz:m*i.size≠0):
  (Builtin.append_ #[t,t2] ty #[.slice ad n cap,.int k (.ofNat m)]).run P w= .ok (.slice (some ⟨w.heap.size,0,none⟩) (n+m) (grownCap w (n+m) cap u)) (w.drew.alloc (.cells (olds++Builtin.zeroCells z.cells m++Builtin.zeroCells z.cells (grownCap w (n+m) cap u-(n+m))) u)):=by
 have hul:=run_und (P:=P) ht
 have hud:=run_und (P:=P) ht2
 have hn: ¬n+m≤cap:=by omega
 have hbb:(n+m)*i.bytes≤140737488355328:=Nat.le_trans (Nat.mul_le_mul h63 hb) (by decide)
 have h48: ¬(281474976710656<Builtin.nextslicecap (n+m) cap*i.bytes):=by have:=growslice_fits hg hbb;omega
 have h63': ¬(9223372036854775807<((n:Int)+(m:Int))):=by omega
 have hwr:=wrap64 (m:=m) (by omega)
 have hw2:IntKind.i64.wrap (m:Int)=(m:Int):=hwr
 have hneg: ¬((m:Int)<0):=by omega
 have hmb:m*i.bytes≤(n+m)*i.bytes:=Nat.mul_le_mul (by omega) (Nat.le_refl _)
 have h482: ¬(281474976710656<(m:Int)*(i.bytes:Int)):=by
  have:(m:Int)*(i.bytes:Int)=((m*i.bytes:Nat):Int):=by simp
  rw[this];omega
 have hnz2:¬(m=0∨i.size=0):=fun h=>hnz (by rcases h with h|h<;>simp [h])
 simp [Builtin.append_,hul,hud,sizeOf,typeInfo,zeroValue,hi,hz,hn,h63',h48,Question.forced,hfo,newRow,grownCap,asInt,asIntOf,hw2,hneg,h482]
 exact fun h=>absurd h hnz
/-- an append of zeros that makes a new row -/
theorem app_outZ {u t t2 ty:TypeId} {ik k:IntKind} {i:TypeInfo} {z:Value} {l c n m1:Nat} {base base':Option Addr} {c':Nat} {oo:Array Value}
  (ht:P.underlying t=some (.slice u)) (ht2:P.underlying t2=some (.int ik)) (hi:P.info? u=some i) (hz:i.zero=some z) (hzf:flat z=true) (hzs:z.cells.size=i.size) (hcs:P.cellsOf u=i.size) (h1:1≤P.cellsOf u) (hn1:1≤n) (hby:i.bytes≤4096) (hln:l+n≤1000000)
  (hv1:VR ρ (.slice base l c) (.slice base' l c')) (hr1:rowV s l (l*P.cellsOf u) (.slice base l c)=some (oo,m1)) (hs1:oo.size=l*P.cellsOf u) (hg:c'<l+n)
  {rd0:Nat} (hrd:∀b,m1.testBit b=true→(s.rd|||rd0).testBit b=true∨s.wr.testBit b=true) (hp:Pre P n0 ρ s {heap:=s.heap.set s.next (some (.cells (oo++Builtin.zeroCells z.cells n) u)),next:=s.next+1,rd:=s.rd|||rd0,wr:=s.wr} W):
  ∃v' W' ρ',(Builtin.append_ #[t,t2] ty #[.slice base' l c',.int k (.ofNat n)]).run P W= .ok v' W'∧PLe ρ ρ'∧VR ρ' (.slice (some ⟨s.next,0,none⟩) (l+n) LOO) v'∧Post P ρ s {heap:=s.heap.set s.next (some (.cells (oo++Builtin.zeroCells z.cells n) u)),next:=s.next+1,rd:=s.rd|||rd0,wr:=s.wr} W ρ' W':=by
 have hM:∀b,m1.testBit b=true→AS.tch {heap:=s.heap.set s.next (some (.cells (oo++Builtin.zeroCells z.cells n) u)),next:=s.next+1,rd:=s.rd|||rd0,wr:=s.wr} b:=fun b hb=>hrd b hb
 obtain⟨o',hav1,hrun1,_⟩:=row_abs hr1 hv1 (fun b hb=>hM b hb) hp.wr rfl hs1
 rw[hcs]at hrun1
 have hrun:=run_app_outZ (ty:=ty) ht ht2 hi hz base' l c' n k o' (w:=W) (hrun1 W.drew rfl) hg hln hby (by rw[←hcs];exact Nat.mul_ne_zero (by omega) (by omega))
 have hge:=grownCap_ge W (l+n) c' u
 have hav2:AV ρ (Builtin.zeroCells z.cells n) (Builtin.zeroCells z.cells n):=zc_AV (flat_VR hzf).cells n
 have hor:OR ρ (.cells (oo++Builtin.zeroCells z.cells n) u (0,0)) (.cells (o'++Builtin.zeroCells z.cells n++Builtin.zeroCells z.cells (grownCap W (l+n) c' u-(l+n))) u (0,0)):=.cells u (by
   have h2:=(hav1.append hav2).1
   rw[h2,Array.size_append (xs:=o'++Builtin.zeroCells z.cells n)];omega) (AV.pfx (hav1.append hav2))
 obtain⟨ρ',hle,hlv,hcap,hpost⟩:=post_alloc (W1:=W.drew.alloc (.cells (o'++Builtin.zeroCells z.cells n++Builtin.zeroCells z.cells (grownCap W (l+n) c' u-(l+n))) u)) hp hor rfl rfl rfl rfl
 refine⟨_,_,ρ',hrun,hle,.sl (AR.mk (.inr hlv) rfl rfl) (.inr ⟨rfl,hge,fun _=>?_⟩),hpost⟩
 rw[hcap]
 show grownCap W (l+n) c' u=(o'++Builtin.zeroCells z.cells n++Builtin.zeroCells z.cells (grownCap W (l+n) c' u-(l+n))).size/P.cellsOf u
 have e1:o'.size=l*i.size:=by rw[←hav1.1,hs1,hcs]
 rw[Array.size_append,Array.size_append,size_zeroCells,size_zeroCells,e1,hzs,hcs,←Nat.add_mul,←Nat.add_mul,Nat.mul_div_cancel _ (by omega)]
 omega
theorem eZ_sound {c:Call} (h:eZ P n0 e c.argTypes c.args s=some (r,s')) (ho:o.op= .call c) (hce:c.callee= .builtin .append) (hE:OpV n0 ρ e a o) (hp:Pre P n0 ρ s s' W):OpS P ρ s r s' (execOp a.eval o) W:=by
 obtain⟨ce,args,at_⟩:=c
 simp only at h hce;subst hce
 unfold eZ at h
 split at h<;>try cases h
 next so xo t t2 hargs hat=>
 have hargs:args= #[so,xo]:=by rw[←Array.toArray_toList (xs:=args),hargs]
 have hat:at_= #[t,t2]:=by rw[←Array.toArray_toList (xs:=at_),hat]
 subst hargs;subst hat
 have hexec:∀{v' W'},(Builtin.append_ #[t,t2] o.type #[a.eval so,a.eval xo]).run P W= .ok v' W'→(execOp a.eval o).run P W= .ok (.value v') W':=fun h=>by
  unfold execOp
  rw[ho]
  simp [resolve,invoke,builtin,h]
 split at h<;>try cases h
 next u base l c0 k n hx hu hv1 hv2=>
 simp only[Bool.and_eq_true]at hx
 obtain⟨⟨hx1,hx2⟩,hx3⟩:=hx
 have V1:=hE so (by rw[ho];simp [Op.operands,Call.operands]) hx1
 have V2:=hE xo (by rw[ho];simp [Op.operands,Call.operands]) hx2
 split at h<;>try cases h
 next hc=>
 simp only[Bool.and_eq_true]at hc
 obtain⟨⟨⟨⟨⟨hz,hsz⟩,hby⟩,hln⟩,hn1⟩,hlt⟩:=hc
 obtain⟨i,z,hi,hzz,hzs,hcs,hbs⟩:=zC_of hz
 have hszN:=Nat.le_of_ble_eq_true hsz
 have hbyN:=Nat.le_of_ble_eq_true hby
 have hlnN:=Nat.le_of_ble_eq_true hln
 have hn1N:=Nat.le_of_ble_eq_true hn1
 have hltN:c0<l+n:=Nat.le_of_ble_eq_true hlt
 rw[hbs]at hbyN
 have ht:=sliceE_eq hu
 have hzf:flat z=true:=by
  unfold zC at hz
  rw[hi]at hz
  dsimp only at hz
  rw[hzz]at hz
  rw[Bool.and_eq_true]at hz
  exact hz.1
 obtain⟨ik,ht2⟩:∃ik,P.underlying t2=some (.int ik):=by
  unfold isInt at hx3
  split at hx3
  ·next q hq=>exact⟨q,hq⟩
  ·cases hx3
 rw[hv1]at V1
 rw[hv2]at V2
 split at h<;>try cases h
 next oo m1 zc hr1 hzc=>
 split at h<;>try cases h
 next hos=>
 have hs1N:=Nat.eq_of_beq_eq_true hos
 simp only[sq_eq,Option.some.injEq,Prod.mk.injEq]at h
 obtain⟨rfl,rfl⟩:=h
 have hzc:zc=z.cells:=by
  unfold zcA at hzc
  rw[hi]at hzc
  dsimp only at hzc
  rw[hzz]at hzc
  cases hzc;rfl
 subst hzc
 have hX:a.eval xo= .int k (.ofNat n):=by
  generalize a.eval xo=X' at V2
  cases V2;rfl
 have hS:∃base',a.eval so= .slice base' l c0:=by
  generalize a.eval so=S' at V1
  cases V1 with
  |sl0=>exact⟨none,rfl⟩
  |sl hA hcc=>
   rcases hcc with ⟨_,rfl⟩|⟨e1,_⟩
   ·exact⟨_,rfl⟩
   ·exfalso;rw[e1]at hltN;unfold LOO at hltN;omega
 obtain⟨base',hS⟩:=hS
 rw[hS]at V1
 rw[hS,hX]at hexec
 obtain⟨v',W',ρ1,h1,hle,h2,h3⟩:=app_outZ (ty:=o.type) (k:=k) (ik:=ik) ht ht2 hi hzz hzf hzs hcs hszN hn1N hbyN hlnN V1 hr1 hs1N hltN (rd0:=m1) (fun b hb=>.inl (by rw[Nat.testBit_or,hb,Bool.or_true])) hp
 exact⟨ρ1,W',⟨v',hexec h1,h2⟩,h3⟩
theorem eZ_grow {at_:Array TypeId} {args:Array Operand} (h:eZ P n0 e at_ args s=some (r,s')):Grow s s':=by
 unfold eZ at h
 split at h<;>try cases h
 split at h<;>try cases h
 split at h<;>try cases h
 split at h<;>try cases h
 split at h<;>try cases h
 simp only[sq_eq,Option.some.injEq,Prod.mk.injEq]at h
 obtain⟨rfl,rfl⟩:=h
 refine⟨Nat.le_succ _,fun b h=>(by rw[Nat.testBit_or,h];rfl),fun b h=>h,fun b h1 h2=>?_⟩
 have h2:b<s.next∨s.next+1≤b:=h2
 simp only[Tr.get_set]
 rw[if_neg (by omega)]
end
end Go.Proofs.YtmnoaeffocnnmaaGreatDoor

namespace Go.Proofs.YtmnoaeffocnnmaaGreatDoor
section
variable {P:Program} {n0:Nat} {ρ:PM} {e:Tr Value} {a:Act} {s s':AS} {r:OO} {W:World} {o:Oper}
/-- an append into a row's own room -/
theorem app_room {u t t2 ty t':TypeId} {i:TypeInfo} {l n m2:Nat} {ad ad':Addr} {c:Nat} {x x':Value} {ww q:Array Value}
  (ht:P.underlying t=some (.slice u)) (ht2:notInt P t2=true) (hi:P.info? u=some i) (hcs:P.cellsOf u=i.size)
  (hA:AR ρ ad ad') (hsp:ad.spot=none) (hcL:c≠LOO)
  (hv2:VR ρ x x') (hlen:lenV x=some n) (hr2:rowV s n (n*P.cellsOf u) x=some (ww,m2)) (hs2:ww.size=n*P.cellsOf u) (hone:ww.toList.all one1=true)
  (hq:s.heap.get ad.block=some (.cells q t' (0,0))) (hg:l+n≤c) (hfit:ad.off+(l+n)*P.cellsOf u≤q.size)
  (hp:Pre P n0 ρ s {s with heap:=s.heap.set ad.block (some (.cells ⟨q.toList.take (ad.off+l*P.cellsOf u)++ww.toList++q.toList.drop (ad.off+(l+n)*P.cellsOf u)⟩ t')),rd:=s.rd|||m2,wr:=s.wr|||bit ad.block} W):
  ∃v' W',(Builtin.append_ #[t,t2] ty #[.slice (some ad') l c,x']).run P W= .ok v' W'∧VR ρ (.slice (some ad) (l+n) c) v'∧Post P ρ s {s with heap:=s.heap.set ad.block (some (.cells ⟨q.toList.take (ad.off+l*P.cellsOf u)++ww.toList++q.toList.drop (ad.off+(l+n)*P.cellsOf u)⟩ t')),rd:=s.rd|||m2,wr:=s.wr|||bit ad.block} W ρ W':=by
 obtain⟨w',hav2,hrun2,_⟩:=row_abs hr2 hv2 (fun b hb=> .inl (by show (s.rd|||m2).testBit b=true;rw[Nat.testBit_or,hb,Bool.or_true])) hp.wr rfl hs2
 obtain⟨hl,ob,hob,hor,hcp⟩:=BR.live hp.wr hA.1 (.inr (bit_self _ _)) hq
 have hlt:=hp.inj.lt _ _ hl
 cases hor with
 |cells _ hz hx=>
  rename_i q'
  have hwl:w'.toList.length=n*P.cellsOf u:=by rw[Array.length_toList,←hav2.1,hs2]
  have hadd:(l+n)*P.cellsOf u=l*P.cellsOf u+n*P.cellsOf u:=Nat.add_mul ..
  have hfit2:ad.off+l*P.cellsOf u+0+w'.toList.length≤q'.size:=by rw[hwl];omega
  have had:(ad'.add (l*P.cellsOf u))=⟨ad'.block,ad.off+l*P.cellsOf u,none⟩:=by
   obtain⟨b,of,sp⟩:=ad'
   have h2:=(hA.eq hl).1;have h3:=(hA.eq hl).2
   simp only[hsp]at h2 h3;subst h2;subst h3
   unfold Addr.add
   split
   ·rename_i h0;simp [h0]
   ·simp
  have hst:=run_storeCells_at P ad'.block (ad.off+l*P.cellsOf u) t' w'.toList 0 q' W hob hfit2 (one1_VR (l:=ww.toList) (by simpa using hav2) hone)
  have hrun:=run_app_in (ty:=ty) ht ht2 hi (some ad') l c n x' w' (w:=W) (lenV_run hlen hv2 W) (by rw[←hcs];exact hrun2 W rfl) hg (fun b hb=>by cases hb;rw[←hcs,had];exact hst) (fun h=>by cases h)
  rw[Nat.add_zero]at hst hrun
  have hdrop:ad.off+(l+n)*P.cellsOf u=ad.off+l*P.cellsOf u+w'.toList.length:=by rw[hwl,hadd];omega
  have hdrop2:ad.off+(l+n)*P.cellsOf u=ad.off+l*P.cellsOf u+ww.toList.length:=by rw[Array.length_toList,hs2,hadd];omega
  have hnsz:((q'.toList.take (ad.off+l*P.cellsOf u)++w'.toList++q'.toList.drop (ad.off+l*P.cellsOf u+w'.toList.length)).toArray).size=q'.size:=by
   simp only [List.size_toArray,List.length_append,List.length_take,List.length_drop,Array.length_toList]
   rw[Array.length_toList]at hfit2;omega
  have hnsz2:((q.toList.take (ad.off+l*P.cellsOf u)++ww.toList++q.toList.drop (ad.off+l*P.cellsOf u+ww.toList.length)).toArray).size=q.size:=by
   simp only [List.size_toArray,List.length_append,List.length_take,List.length_drop,Array.length_toList]
   omega
  have hWh:∀y,(W.setRow ad'.block (q'.toList.take (ad.off+l*P.cellsOf u)++w'.toList++q'.toList.drop (ad.off+l*P.cellsOf u+w'.toList.length)).toArray).heap[y]? =if y=ad'.block then some (.cells (q'.toList.take (ad.off+l*P.cellsOf u)++w'.toList++q'.toList.drop (ad.off+l*P.cellsOf u+w'.toList.length)).toArray t' (0,0)) else W.heap[y]?:=fun y=>by
   split
   ·rename_i h;subst h;exact setRow_heap W _ q' _ t' _ hob
   ·rename_i h;exact setRow_other W _ _ _ h
  have hWs:(W.setRow ad'.block (q'.toList.take (ad.off+l*P.cellsOf u)++w'.toList++q'.toList.drop (ad.off+l*P.cellsOf u+w'.toList.length)).toArray).heap.size=W.heap.size:=by simp [World.setRow]
  refine⟨_,_,hrun,.sl hA (.inl ⟨hcL,rfl⟩),PLe.refl _,fun b h k=>absurd h k,fun b x h k=>(by rw[h]at k;cases k),⟨hp.inj.inj,fun b y h=>by rw[hWs];exact hp.inj.lt b y h⟩,fun b hb=>?_,fun y hy hb=>?_,?_,rfl,rfl,rfl,fun b x h1 h2 _=>(by rw[h1]at h2;cases h2)⟩
  ·have hb2:=hb.elim id fun h=>absurd h.2 (Nat.not_lt.2 h.1)
   show _∨(_∧(s.heap.set ad.block (some (.cells ⟨q.toList.take (ad.off+l*P.cellsOf u)++ww.toList++q.toList.drop (ad.off+(l+n)*P.cellsOf u)⟩ t'))).get b=none)∨∃x p p',_∧(s.heap.set ad.block (some (.cells ⟨q.toList.take (ad.off+l*P.cellsOf u)++ww.toList++q.toList.drop (ad.off+(l+n)*P.cellsOf u)⟩ t'))).get b=some p∧_∧_∧_
   rw[Tr.get_set]
   by_cases e:b=ad.block
   ·subst e
    refine .inr (.inr ⟨ad'.block,_,_,hl,by rw[if_pos rfl],by rw[hWh,if_pos rfl],.cells t' ?_ (fun j v v' hj hj'=>?_),?_⟩)
    ·rw[hnsz,hdrop2,hnsz2];exact hz
    ·rw[hdrop2,List.getElem?_toArray,takeDrop_get _ _ _ (by rw[Array.length_toList,Array.length_toList,hs2];omega)]at hj
     rw[List.getElem?_toArray,takeDrop_get _ _ _ (by rw[Array.length_toList];simpa using hfit2)]at hj'
     have hll:ww.toList.length=w'.toList.length:=by rw[Array.length_toList,Array.length_toList,hav2.1]
     rw[hll]at hj
     simp only [Array.getElem?_toList]at hj hj'
     split at hj
     ·rename_i h1;rw[if_pos h1]at hj';exact hx j v v' hj hj'
     ·rename_i h1;rw[if_neg h1]at hj'
      split at hj
      ·rename_i h2;rw[if_pos h2]at hj';exact hav2.2 _ v v' hj hj'
      ·rename_i h2;rw[if_neg h2]at hj';exact hx j v v' hj hj'
    ·rw[hcp];show q'.size/_=_/_;rw[hnsz]
   ·rw[if_neg e]
    rcases hp.wr b hb2 with k|k|⟨y,p,p',k1,k2,k3,k4⟩
    ·exact .inl k
    ·exact .inr (.inl k)
    ·refine .inr (.inr ⟨y,p,p',k1,k2,?_,k4⟩)
     rw[hWh,if_neg (fun h=>e (hp.inj.inj b ad.block y k1 (by rw[h];exact hl)))]
     exact k3
  ·rw[hWh,if_neg]
   rintro rfl
   have:=hb _ hl
   rw[show (s.wr|||bit ad.block).testBit ad.block=true from bit_self _ _]at this
   cases this
  ·rw[hWs];exact Nat.le_refl _
theorem eA_sound {c:Call} (h:eA P n0 e c.argTypes c.args s=some (r,s')) (ho:o.op= .call c) (hce:c.callee= .builtin .append) (hE:OpV n0 ρ e a o) (hp:Pre P n0 ρ s s' W):OpS P ρ s r s' (execOp a.eval o) W:=by
 obtain⟨ce,args,at_⟩:=c
 simp only at h hce;subst hce
 unfold eA at h
 split at h<;>try cases h
 next so xo t t2 hargs hat=>
 have hargs:args= #[so,xo]:=by rw[←Array.toArray_toList (xs:=args),hargs]
 have hat:at_= #[t,t2]:=by rw[←Array.toArray_toList (xs:=at_),hat]
 subst hargs;subst hat
 have hexec:∀{v' W'},(Builtin.append_ #[t,t2] o.type #[a.eval so,a.eval xo]).run P W= .ok v' W'→(execOp a.eval o).run P W= .ok (.value v') W':=fun h=>by
  unfold execOp
  rw[ho]
  simp [resolve,invoke,builtin,h]
 split at h<;>try cases h
 next u base l c0 n hx hu hv1 hlen=>
 simp only[Bool.and_eq_true]at hx
 obtain⟨⟨hx1,hx2⟩,hx3⟩:=hx
 have V1:=hE so (by rw[ho];simp [Op.operands,Call.operands]) hx1
 have V2:=hE xo (by rw[ho];simp [Op.operands,Call.operands]) hx2
 split at h<;>try cases h
 next hc=>
 simp only[Bool.and_eq_true]at hc
 obtain⟨⟨⟨hz,hsz⟩,hby⟩,hln⟩:=hc
 obtain⟨i,z,hi,hzz,hzs,hcs,hbs⟩:=zC_of hz
 have hszN:=Nat.le_of_ble_eq_true hsz
 have hbyN:=Nat.le_of_ble_eq_true hby
 have hlnN:=Nat.le_of_ble_eq_true hln
 rw[hbs]at hbyN
 clear hsz hby hln
 have ht:=sliceE_eq hu
 rw[hv1]at V1
 generalize a.eval so=S' at *
 generalize a.eval xo=X' at *
 generalize aev e xo=X at *
 have hS:∃base' c',S'= .slice base' l c'∧(base=none→base'=none∧c'=c0)∧(∀ad,base=some ad→∃ad',base'=some ad'∧AR ρ ad ad'∧((c0≠LOO∧c'=c0)∨(c0=LOO∧l≤c'∧(ad.off=0→c'=ρ.cap ad.block)))):=by
  cases V1 with
  |sl0=>exact⟨none,c0,rfl,fun _=>⟨rfl,rfl⟩,fun ad h=>by cases h⟩
  |sl hA hcc=>exact⟨_,_,rfl,fun h=>(by cases h),fun ad h=>by cases h;exact⟨_,rfl,hA,hcc⟩⟩
 obtain⟨base',c',rfl,hb0,hb1⟩:=hS
 split at h
 ·rename_i hn0
  have hn0:n=0:=Nat.eq_of_beq_eq_true hn0
  subst hn0
  split at h<;>try cases h
  next hlc=>
  have hlc:=Nat.le_of_ble_eq_true hlc
  have hlc':l+0≤c':=by
   cases base with
   |none=>have:=(hb0 rfl).2;omega
   |some ad=>
    obtain⟨ad',_,_,hcc⟩:=hb1 ad rfl
    rcases hcc with hcc|hcc<;>omega
  have hf0:(Builtin.firstCells i.size 0 X').run P W= .ok #[] W:=by
   cases V2<;>first|(cases hlen;done)|rfl|(simp [Builtin.firstCells,loadCells,loadCellsFrom];done)
  have hrun:=run_app_in (ty:=o.type) (w:=W) (w2:=W) ht hx3 hi base' l c' 0 X' #[] (lenV_run hlen V2 W) hf0 hlc' (fun b _=>rfl) (fun _=>rfl)
  exact⟨ρ,W,⟨_,hexec hrun,V1⟩,Post.refl hp.inj hp.wr⟩
 ·rename_i hn0
  split at h<;>try cases h
  next oo m1 ww m2 hr1 hr2=>
  split at h<;>try cases h
  next hchk=>
  simp only[Bool.and_eq_true]at hchk
  obtain⟨⟨hs1,hs2⟩,hone⟩:=hchk
  have hs1N:=Nat.eq_of_beq_eq_true hs1
  have hs2N:=Nat.eq_of_beq_eq_true hs2
  clear hs1 hs2
  have hm1:∀b,m1.testBit b=true→∃ad,base=some ad∧b=ad.block:=fun b hb=>by
   cases base with
   |none=>
    dsimp only[rowV]at hr1
    split at hr1<;>cases hr1
    simp at hb
   |some ad=>
    dsimp only[rowV] at hr1
    split at hr1<;>try cases hr1
    split at hr1<;>cases hr1
    rw[bit_test]at hb
    exact⟨ad,rfl,by simpa using hb⟩
  split at h
  ·rename_i hL
   have hL:c0=LOO:=Nat.eq_of_beq_eq_true hL
   split at h<;>try cases h
   next ad=>
   obtain⟨ad',rfl,hA,hcc⟩:=hb1 ad rfl
   have hcc:=hcc.resolve_left fun h=>h.1 hL
   split at h<;>try cases h
   next q t' hq hoff=>
   split at h<;>try cases h
   next ht'=>
   have ht':t'=u:=Nat.eq_of_beq_eq_true ht'
   subst ht'
   have hoffN:=Nat.eq_of_beq_eq_true hoff
   have hspot:ad.spot=none:=by
    dsimp only[rowV] at hr1
    split at hr1<;>first|assumption|cases hr1
   simp only[sq_eq,Option.some.injEq,Prod.mk.injEq]at h
   obtain⟨rfl,rfl⟩:=h
   by_cases hg:l+n≤c'
   ·obtain⟨v',W',ρ',h1,h2,h3⟩:=app_loose (ty:=o.type) ht hx3 hi hcs hszN hA hoffN hspot (hcc.2.2 hoffN) hcc.2.1 V1 V2 hlen hr1 hr2 hs1N hs2N hone hq hg hp
    exact⟨ρ',W',⟨v',hexec h1,h2⟩,h3⟩
   ·have hp1:Pre P n0 ρ s {heap:=s.heap.set s.next (some (.cells (oo++ww) t')),next:=s.next+1,rd:=s.rd|||(m1|||m2),wr:=s.wr} W:=by
     refine⟨hp.gb,hp.inj,fun b hb=>hp.wr b ?_,hp.fresh⟩
     rcases hb with hb|hb
     ·have hb:(s.rd|||(m1|||m2)).testBit b=true:=hb
      rw[Nat.testBit_or,Nat.testBit_or,Bool.or_eq_true,Bool.or_eq_true]at hb
      rcases hb with hb|hb|hb
      ·exact .inl (by show (s.rd|||m2).testBit b=true;rw[Nat.testBit_or,hb];rfl)
      ·obtain⟨ad2,e1,rfl⟩:=hm1 b hb;cases e1;exact .inr (bit_self _ _)
      ·exact .inl (by show (s.rd|||m2).testBit b=true;rw[Nat.testBit_or,hb,Bool.or_true])
     ·exact .inr (by show (s.wr|||bit ad.block).testBit b=true;rw[Nat.testBit_or,show s.wr.testBit b=true from hb];rfl)
    obtain⟨v',W',ρ1,h1,hle,h2,h3⟩:=app_out (ty:=o.type) ht hx3 hi hzz hzs hcs hszN hbyN hlnN V1 V2 hlen hr1 hr2 hs1N hs2N (by omega) (fun b hb=> .inl (by rw[Nat.testBit_or,hb,Bool.or_true])) hp1
    have hne:ad.block≠s.next:=fun h=>by
     have:=hp.fresh s.next (Nat.le_refl _) (by show s.next<s.next+1;omega)
     rw[←h]at this;exact hA.1.ne this
    obtain⟨hl0,-⟩:=BR.live hp.wr hA.1 (.inr (bit_self _ _)) hq
    have hl1:ρ1 ad.block= .live ad'.block:=by
     rcases hle.at_ ad.block with k|⟨k,_⟩|⟨y,k,k2|k2⟩
     ·rw[hl0]at k;cases k
     ·rw[hl0]at k;cases k
     ·rw[hl0]at k;cases k;exact k2
     ·have:=h3.kill ad.block _ hl0 k2
      have hb:s.wr.testBit ad.block=true:=this
      rcases h3.wr ad.block (.inl (.inr hb)) with j|⟨_,j⟩|⟨y,p,p',j1,_⟩
      ·rw[k2]at j;cases j
      ·have j:(s.heap.set s.next (some (Obj.cells (oo++ww) t'))).get ad.block=none:=j
       rw[Tr.get_set,if_neg hne,hq]at j;cases j
      ·rw[k2]at j1;cases j1
    obtain⟨ρ2,hle2,hot,hcap,h4⟩:=post_kill h3 hl1 hA.1.ne
    refine⟨ρ2,W',⟨v',hexec h1,h2.mono hle2⟩,?_⟩
    exact⟨h4.le,h4.dom,h4.kill,h4.inj,fun b hb=>h4.wr b (hb.imp (fun h=>by
      rcases h with h|h
      ·refine .inl ?_
       have h:(s.rd|||m2).testBit b=true:=h
       show (s.rd|||(m1|||m2)).testBit b=true
       rw[Nat.testBit_or,Bool.or_eq_true]at h
       rw[Nat.testBit_or,Nat.testBit_or]
       rcases h with h|h<;>simp [h]
      ·exact .inr h) id),h4.fr,h4.sz,h4.os,h4.tape,h4.out,h4.own⟩
  ·rename_i hL
   have hL:c0≠LOO:=fun e=>by rw[e]at hL;exact absurd hL (by decide)
   split at h
   ·rename_i hg
    have hg:=Nat.le_of_ble_eq_true hg
    split at h<;>try cases h
    next ad=>
    obtain⟨ad',rfl,hA,hcc⟩:=hb1 ad rfl
    have hcc:=(hcc.resolve_right fun h=>hL h.1).2
    subst hcc
    split at h<;>try cases h
    next q t' hq=>
    split at h<;>try cases h
    next hfit=>
    have hfit:=Nat.le_of_ble_eq_true hfit
    have hspot:ad.spot=none:=by
     dsimp only[rowV] at hr1
     split at hr1<;>first|assumption|cases hr1
    simp only[sq_eq,Option.some.injEq,Prod.mk.injEq]at h
    obtain⟨rfl,rfl⟩:=h
    obtain⟨v',W',h1,h2,h3⟩:=app_room (ty:=o.type) ht hx3 hi hcs hA hspot hL V2 hlen hr2 hs2N hone hq hg hfit hp
    exact⟨ρ,W',⟨v',hexec h1,h2⟩,h3⟩
   ·rename_i hg
    simp only[sq_eq,Option.some.injEq,Prod.mk.injEq]at h
    obtain⟨rfl,rfl⟩:=h
    have hg':c'<l+n:=by
     have hc0:c'=c0:=by
      cases base with
      |none=>exact (hb0 rfl).2
      |some ad=>
       obtain⟨ad',_,_,hcc⟩:=hb1 ad rfl
       exact (hcc.resolve_right fun h=>hL h.1).2
     rw[hc0]
     cases hh:Nat.ble (l+n) c0 with
     |true=>rw[hh]at hg;cases hg
     |false=>
      by_cases h9:l+n≤c0
      ·rw[Nat.ble_eq_true_of_le h9]at hh;cases hh
      ·omega
    obtain⟨v',W',ρ1,h1,hle,h2,h3⟩:=app_out (ty:=o.type) ht hx3 hi hzz hzs hcs hszN hbyN hlnN V1 V2 hlen hr1 hr2 hs1N hs2N hg' (fun b hb=> .inl (by rw[Nat.testBit_or,hb,Bool.or_true])) hp
    exact⟨ρ1,W',⟨v',hexec h1,h2⟩,h3⟩
end
end Go.Proofs.YtmnoaeffocnnmaaGreatDoor
