import Derived.Test.YtngglbakkedaiaaGreatDoorFQ
set_option linter.all false
namespace Go.Proofs.YtngglbakkedaiaaGreatDoor
section
section
variable {P:Program} {n0:Nat} {ρ:PM} {e:Tr Value} {a:Act} {s s':AS} {r:OO} {W:World} {o:Oper}
theorem takeDrop_get (q w:List Value) (k:Nat) (hk:k+w.length≤q.length) (i:Nat):(q.take k++w++q.drop (k+w.length))[i]? =if i<k then q[i]? else if i<k+w.length then w[i-k]? else q[i]?:=by
 rw[List.append_assoc,List.getElem?_append]
 have hl:(q.take k).length=k:=by rw[List.length_take];omega
 rw[hl]
 split
 ·rename_i h;rw[List.getElem?_take,if_pos h]
 ·rename_i h
  rw[List.getElem?_append]
  by_cases h2:i<k+w.length
  ·rw[if_pos (by omega),if_pos h2]
  ·rw[if_neg (by omega),if_neg h2,List.getElem?_drop]
   congr 1;omega
theorem app_loose {u t t2 ty:TypeId} {i:TypeInfo} {l n m1 m2:Nat} {ad ad':Addr} {c' c0:Nat} {x x':Value} {oo ww q:Array Value}
  (ht:P.underlying t=some (.slice u)) (ht2:notInt P t2=true) (hi:P.info? u=some i) (hcs:P.cellsOf u=i.size) (h1:1≤P.cellsOf u)
  (hA:AR ρ ad ad') (hoff:ad.off=0) (hsp:ad.spot=none) (hcap:c'=ρ.cap ad.block) (hlc:l≤c')
  (hv1:VR ρ (.slice (some ad) l c0) (.slice (some ad') l c')) (hv2:VR ρ x x') (hlen:lenV x=some n) (hr1:rowVs s l (l*P.cellsOf u) (.slice (some ad) l c0)=some (oo,m1)) (hr2:rowVs s n (n*P.cellsOf u) x=some (ww,m2)) (hs1:oo.size=l*P.cellsOf u) (hs2:ww.size=n*P.cellsOf u) (hone:ww.toList.all one1=true)
  (hq:s.heap.get ad.block=some (.cells q u (0,0))) (hg:l+n≤c')
  (hp:Pre P n0 ρ s {heap:=(s.heap.set s.next (some (.cells (oo++ww) u))).set ad.block none,next:=s.next+1,rd:=s.rd|||m2,wr:=s.wr|||bit ad.block} W):
  ∃v' W' ρ',(Builtin.append_ #[t,t2] ty #[.slice (some ad') l c',x']).run P W= .ok v' W'∧VR ρ' (.slice (some ⟨s.next,0,none⟩) (l+n) LOO) v'∧Post P ρ s {heap:=(s.heap.set s.next (some (.cells (oo++ww) u))).set ad.block none,next:=s.next+1,rd:=s.rd|||m2,wr:=s.wr|||bit ad.block} W ρ' W':=by
 have hM1:AS.tch {heap:=(s.heap.set s.next (some (.cells (oo++ww) u))).set ad.block none,next:=s.next+1,rd:=s.rd|||m2,wr:=s.wr|||bit ad.block} ad.block:= .inr (bit_self _ _)
 have hm1:∀b,m1.testBit b=true→b=ad.block:=fun b hb=>by
  dsimp only[rowVs] at hr1
  split at hr1<;>try cases hr1
  split at hr1<;>cases hr1
  rw[bit_test]at hb
  simpa using hb
 obtain⟨o',hav1,hrun1,hcells⟩:=row_abs hr1 hv1 (fun b hb=>by rw[hm1 b hb];exact hM1) hp.wr rfl hs1
 obtain⟨w',hav2,hrun2,_⟩:=row_abs hr2 hv2 (fun b hb=> .inl (by show (s.rd|||m2).testBit b=true;rw[Nat.testBit_or,hb,Bool.or_true])) hp.wr rfl hs2
 obtain⟨hl,ob,hob,hor,hcp⟩:=BR.live hp.wr hA.1 hM1 hq
 have hlt:=hp.inj.lt _ _ hl
 cases hor with
 |cells _ hz hx=>
  rename_i q'
  have hc':c'=q'.size/P.cellsOf u:=hcap.trans hcp
  have hfit:(l+n)*P.cellsOf u≤q'.size:=by
   have:(l+n)*P.cellsOf u≤(q'.size/P.cellsOf u)*P.cellsOf u:=Nat.mul_le_mul_right _ (by omega)
   exact Nat.le_trans this (Nat.div_mul_le_self _ _)
  have hwl:w'.toList.length=n*P.cellsOf u:=by rw[Array.length_toList,←hav2.1,hs2]
  have hfit2:l*P.cellsOf u+0+w'.toList.length≤q'.size:=by rw[hwl];rw[Nat.add_mul]at hfit;omega
  have had:(ad'.add (l*P.cellsOf u))=⟨ad'.block,l*P.cellsOf u,none⟩:=by
   obtain⟨b,of,sp⟩:=ad'
   have h2:=(hA.eq hl).1;have h3:=(hA.eq hl).2
   simp only[hoff,hsp]at h2 h3;subst h2;subst h3
   unfold Addr.add
   split
   ·rename_i h0;rw[h0]
   ·simp
  have hst:=run_storeCells_at P ad'.block (l*P.cellsOf u) u w'.toList 0 q' W hob hfit2 (one1_VR (l:=ww.toList) (by simpa using hav2) hone)
  have hrun:=run_app_in (ty:=ty) ht ht2 hi (some ad') l c' n x' w' (w:=W) (lenV_run hlen hv2 W) (by rw[←hcs];exact hrun2 W rfl) hg (fun b hb=>by cases hb;rw[←hcs,had];exact hst) (fun h=>by cases h)
  rw[Nat.add_zero]at hst hrun
  have hab:ρ s.next= .abs:=hp.fresh _ (Nat.le_refl _) (by show s.next<s.next+1;omega)
  have hne:s.next≠ad.block:=fun h=>by rw[←h,hab]at hl;cases hl
  have hle:PLe ρ ⟨fun b=>if b=s.next then .live ad'.block else if b=ad.block then .dead else ρ b,fun b=>if b=s.next then ρ.cap ad.block else ρ.cap b⟩:=by
   refine⟨fun b=>?_,fun b hb=>?_⟩
   ·by_cases e:b=s.next
    ·exact .inl (e▸hab)
    ·simp only[if_neg e]
     by_cases e2:b=ad.block
     ·subst e2;exact .inr (.inr ⟨_,hl,.inr (by simp)⟩)
     ·simp only[if_neg e2];exact (PLe.refl ρ).at_ b
   ·have:b≠s.next:=fun e=>hb (e▸hab)
    simp only[if_neg this]
  have hget:∀i,((q'.toList.take (l*P.cellsOf u)++w'.toList++q'.toList.drop (l*P.cellsOf u+w'.toList.length)).toArray)[i]? =if i<l*P.cellsOf u then q'[i]? else if i<l*P.cellsOf u+w'.toList.length then w'[i-l*P.cellsOf u]? else q'[i]?:=fun i=>by
   rw[List.getElem?_toArray,takeDrop_get _ _ _ (by rw[Array.length_toList];simpa using hfit2)]
   simp only [Array.getElem?_toList]
  have hnsz:((q'.toList.take (l*P.cellsOf u)++w'.toList++q'.toList.drop (l*P.cellsOf u+w'.toList.length)).toArray).size=q'.size:=by
   simp only [List.size_toArray,List.length_append,List.length_take,List.length_drop,Array.length_toList]
   rw[Array.length_toList]at hfit2;omega
  have hWh:∀y,(W.setRow ad'.block (q'.toList.take (l*P.cellsOf u)++w'.toList++q'.toList.drop (l*P.cellsOf u+w'.toList.length)).toArray).heap[y]? =if y=ad'.block then some (.cells (q'.toList.take (l*P.cellsOf u)++w'.toList++q'.toList.drop (l*P.cellsOf u+w'.toList.length)).toArray u (0,0)) else W.heap[y]?:=fun y=>by
   split
   ·rename_i h;subst h;exact setRow_heap W _ q' _ u _ hob
   ·rename_i h;exact setRow_other W _ _ _ h
  have hWs:(W.setRow ad'.block (q'.toList.take (l*P.cellsOf u)++w'.toList++q'.toList.drop (l*P.cellsOf u+w'.toList.length)).toArray).heap.size=W.heap.size:=by simp [World.setRow]
  refine⟨_,_,_,hrun,.sl (a:=⟨s.next,0,none⟩) (a':=ad') (AR.mk (.inr (by simp only[if_true])) (by rw[(hA.eq hl).1];exact hoff) (by rw[(hA.eq hl).2];exact hsp)) (.inr ⟨rfl,hg,fun _=>by simp only[if_true];exact hcap⟩),
   hle,fun b h2 h3=>?_,fun b y h2 h3=>?_,⟨fun b c y h2 h3=>?_,fun b y h2=>?_⟩,fun b hb=>?_,fun y hy hb=>?_,?_,rfl,rfl,rfl,fun b y k1 k2 k3=>?_⟩
  ·by_cases e:b=s.next
   ·subst e;exact⟨Nat.le_refl _,Nat.lt_succ_self _⟩
   ·simp only[if_neg e]at h3
    by_cases e2:b=ad.block
    ·subst e2;rw[hl]at h2;cases h2
    ·simp only[if_neg e2]at h3;exact absurd h2 h3
  ·by_cases e:b=s.next
   ·rw[e,hab]at h2;cases h2
   ·simp only[if_neg e]at h3
    by_cases e2:b=ad.block
    ·subst e2;exact bit_self _ _
    ·simp only[if_neg e2]at h3;rw[h2]at h3;cases h3
  ·dsimp only at h2 h3
   have key:∀b,b≠s.next→(if b=ad.block then Pl.dead else ρ b)= .live y→b≠ad.block∧ρ b= .live y:=fun b _ h=>by
    split at h
    ·cases h
    ·rename_i h';exact⟨h',h⟩
   split at h2<;>split at h3
   ·rename_i e1 e2;rw[e1,e2]
   ·rename_i e1 e2;cases h2
    obtain⟨k1,k2⟩:=key c e2 h3
    exact absurd (hp.inj.inj c ad.block _ k2 hl) k1
   ·rename_i e1 e2;cases h3
    obtain⟨k1,k2⟩:=key b e1 h2
    exact absurd (hp.inj.inj b ad.block _ k2 hl) k1
   ·rename_i e1 e2
    exact hp.inj.inj b c y (key b e1 h2).2 (key c e2 h3).2
  ·dsimp only at h2
   rw[hWs]
   split at h2
   ·cases h2;exact hlt
   ·split at h2
    ·cases h2
    ·exact hp.inj.lt b y h2
  ·show _∨(_∧((s.heap.set s.next (some (.cells (oo++ww) u))).set ad.block none).get b=none)∨∃x p p',_∧((s.heap.set s.next (some (.cells (oo++ww) u))).set ad.block none).get b=some p∧_∧_∧_
   rw[Tr.get_set,Tr.get_set]
   by_cases e:b=s.next
   ·subst e
    refine .inr (.inr ⟨ad'.block,_,_,by simp only[if_true],by rw[if_neg hne,if_pos rfl],by rw[hWh,if_pos rfl],.cells u ?_ (fun j v v' hj hj'=>?_),?_⟩)
    ·rw[hnsz,Array.size_append,hs1,hs2,←Nat.add_mul];exact hfit
    ·refine VR.mono hle ?_
     rw[hget]at hj'
     rw[Array.getElem?_append]at hj
     rw[hs1]at hj
     split at hj'
     ·rename_i hlt2
      rw[if_pos hlt2]at hj
      have h4:=hcells l c' ad' rfl j hlt2
      have h5:W.cell? (ad'.add j)=q'[j]?:=by
       unfold World.cell?
       have e1:(ad'.add j).block=ad'.block:=by unfold Addr.add;split<;>rfl
       have e2:(ad'.add j).off=j:=by unfold Addr.add;split<;>simp_all [(hA.eq hl).1]
       have e3:(ad'.add j).spot=none:=by unfold Addr.add;split<;>simp_all [(hA.eq hl).2]
       rw[e1,hob,e2,e3]
       rfl
      exact hav1.2 j v v' hj (h4.trans (h5.trans hj'))
     ·rename_i hlt2
      rw[if_neg hlt2]at hj
      have hj2:j-l*P.cellsOf u<ww.size:=(Array.getElem?_eq_some_iff.1 hj).1
      rw[if_pos (by rw[hwl,←hs2];omega)]at hj'
      exact hav2.2 _ v v' hj hj'
    ·simp only[if_true]
     show ρ.cap ad.block=_/P.cellsOf u
     rw[hnsz,←hc',hcap]
   ·by_cases e2:b=ad.block
    ·subst e2
     exact .inr (.inl ⟨by simp only[if_neg e,if_true],by rw[if_pos rfl]⟩)
    ·simp only[if_neg e,if_neg e2]
     have hb2:AS.tch {heap:=(s.heap.set s.next (some (.cells (oo++ww) u))).set ad.block none,next:=s.next+1,rd:=s.rd|||m2,wr:=s.wr|||bit ad.block} b:=hb.resolve_right fun h=>e (by have h1:=h.1;have h2:b<s.next+1:=h.2;omega)
     rcases hp.wr b hb2 with k|k|⟨y,p,p',k1,k2,k3,k4,k5⟩
     ·exact .inl k
     ·exact .inr (.inl k)
     ·refine .inr (.inr ⟨y,p,p',k1,k2,?_,k4.mono hle,k5⟩)
      rw[hWh,if_neg (fun h=>e2 (hp.inj.inj b ad.block y k1 (by rw[h];exact hl)))]
      exact k3
  ·rw[hWh,if_neg]
   rintro rfl
   have:=hb _ hl
   rw[show (s.wr|||bit ad.block).testBit ad.block=true from bit_self _ _]at this
   cases this
  ·rw[hWs];exact Nat.le_refl _
  ·by_cases e:b=s.next
   ·simp only[if_pos e]at k2;cases k2
    exact⟨ad.block,hl,bit_self _ _⟩
   ·simp only[if_neg e]at k2
    split at k2
    ·cases k2
    ·rw[k1]at k2;cases k2
end
end
section
section
variable {P:Program} {n0:Nat} {ρ:PM} {e:Tr Value} {a:Act} {s s':AS} {r:OO} {W:World} {o:Oper}
theorem app_room {u t t2 ty t':TypeId} {i:TypeInfo} {l n m2:Nat} {ad ad':Addr} {c:Nat} {x x':Value} {ww q:Array Value}
  (ht:P.underlying t=some (.slice u)) (ht2:notInt P t2=true) (hi:P.info? u=some i) (hcs:P.cellsOf u=i.size)
  (hA:AR ρ ad ad') (hsp:ad.spot=none) (hcL:c≠LOO)
  (hv2:VR ρ x x') (hlen:lenV x=some n) (hr2:rowVs s n (n*P.cellsOf u) x=some (ww,m2)) (hs2:ww.size=n*P.cellsOf u) (hone:ww.toList.all one1=true)
  (hq:s.heap.get ad.block=some (.cells q t' (0,0))) (hg:l+n≤c) (hfit:ad.off+(l+n)*P.cellsOf u≤q.size)
  (hp:Pre P n0 ρ s {s with heap:=s.heap.set ad.block (some (.cells ⟨q.toList.take (ad.off+l*P.cellsOf u)++ww.toList++q.toList.drop (ad.off+(l+n)*P.cellsOf u)⟩ t')),rd:=s.rd|||m2,wr:=s.wr|||bit ad.block} W):
  ∃v' W',(Builtin.append_ #[t,t2] ty #[.slice (some ad') l c,x']).run P W= .ok v' W'∧VR ρ (.slice (some ad) (l+n) c) v'∧Post P ρ s {s with heap:=s.heap.set ad.block (some (.cells ⟨q.toList.take (ad.off+l*P.cellsOf u)++ww.toList++q.toList.drop (ad.off+(l+n)*P.cellsOf u)⟩ t')),rd:=s.rd|||m2,wr:=s.wr|||bit ad.block} W ρ W':=by
 obtain⟨w',hav2,hrun2,_⟩:=row_abs hr2 hv2 (fun b hb=> .inl (by show (s.rd|||m2).testBit b=true;rw[Nat.testBit_or,hb,Bool.or_true])) hp.wr rfl hs2
 obtain⟨hl,ob,hob,hor,hcp⟩:=BR.live hp.wr hA.1 (.inr (bit_self _ _)) hq
 have hlt:=hp.inj.lt _ _ hl
 cases hor with
 |cells _ hz hx=>
  rename_i q'
  have hwl:w'.toList.length=n*P.cellsOf u:=by rw[Array.length_toList,←hav2.1,hs2]
  have hadd:(l+n)*P.cellsOf u=l*P.cellsOf u+n*P.cellsOf u:=Nat.add_mul ..
  have hfit2:ad.off+l*P.cellsOf u+0+w'.toList.length≤q'.size:=by rw[hwl];omega
  have had:(ad'.add (l*P.cellsOf u))=⟨ad'.block,ad.off+l*P.cellsOf u,none⟩:=by
   obtain⟨b,of,sp⟩:=ad'
   have h2:=(hA.eq hl).1;have h3:=(hA.eq hl).2
   simp only[hsp]at h2 h3;subst h2;subst h3
   unfold Addr.add
   split
   ·rename_i h0;simp [h0]
   ·simp
  have hst:=run_storeCells_at P ad'.block (ad.off+l*P.cellsOf u) t' w'.toList 0 q' W hob hfit2 (one1_VR (l:=ww.toList) (by simpa using hav2) hone)
  have hrun:=run_app_in (ty:=ty) ht ht2 hi (some ad') l c n x' w' (w:=W) (lenV_run hlen hv2 W) (by rw[←hcs];exact hrun2 W rfl) hg (fun b hb=>by cases hb;rw[←hcs,had];exact hst) (fun h=>by cases h)
  rw[Nat.add_zero]at hst hrun
  have hdrop:ad.off+(l+n)*P.cellsOf u=ad.off+l*P.cellsOf u+w'.toList.length:=by rw[hwl,hadd];omega
  have hdrop2:ad.off+(l+n)*P.cellsOf u=ad.off+l*P.cellsOf u+ww.toList.length:=by rw[Array.length_toList,hs2,hadd];omega
  have hnsz:((q'.toList.take (ad.off+l*P.cellsOf u)++w'.toList++q'.toList.drop (ad.off+l*P.cellsOf u+w'.toList.length)).toArray).size=q'.size:=by
   simp only [List.size_toArray,List.length_append,List.length_take,List.length_drop,Array.length_toList]
   rw[Array.length_toList]at hfit2;omega
  have hnsz2:((q.toList.take (ad.off+l*P.cellsOf u)++ww.toList++q.toList.drop (ad.off+l*P.cellsOf u+ww.toList.length)).toArray).size=q.size:=by
   simp only [List.size_toArray,List.length_append,List.length_take,List.length_drop,Array.length_toList]
   omega
  have hWh:∀y,(W.setRow ad'.block (q'.toList.take (ad.off+l*P.cellsOf u)++w'.toList++q'.toList.drop (ad.off+l*P.cellsOf u+w'.toList.length)).toArray).heap[y]? =if y=ad'.block then some (.cells (q'.toList.take (ad.off+l*P.cellsOf u)++w'.toList++q'.toList.drop (ad.off+l*P.cellsOf u+w'.toList.length)).toArray t' (0,0)) else W.heap[y]?:=fun y=>by
   split
   ·rename_i h;subst h;exact setRow_heap W _ q' _ t' _ hob
   ·rename_i h;exact setRow_other W _ _ _ h
  have hWs:(W.setRow ad'.block (q'.toList.take (ad.off+l*P.cellsOf u)++w'.toList++q'.toList.drop (ad.off+l*P.cellsOf u+w'.toList.length)).toArray).heap.size=W.heap.size:=by simp [World.setRow]
  refine⟨_,_,hrun,.sl hA (.inl ⟨hcL,rfl⟩),PLe.refl _,fun b h k=>absurd h k,fun b x h k=>(by rw[h]at k;cases k),⟨hp.inj.inj,fun b y h=>by rw[hWs];exact hp.inj.lt b y h⟩,fun b hb=>?_,fun y hy hb=>?_,?_,rfl,rfl,rfl,fun b x h1 h2 _=>(by rw[h1]at h2;cases h2)⟩
  ·have hb2:=hb.elim id fun h=>absurd h.2 (Nat.not_lt.2 h.1)
   show _∨(_∧(s.heap.set ad.block (some (.cells ⟨q.toList.take (ad.off+l*P.cellsOf u)++ww.toList++q.toList.drop (ad.off+(l+n)*P.cellsOf u)⟩ t'))).get b=none)∨∃x p p',_∧(s.heap.set ad.block (some (.cells ⟨q.toList.take (ad.off+l*P.cellsOf u)++ww.toList++q.toList.drop (ad.off+(l+n)*P.cellsOf u)⟩ t'))).get b=some p∧_∧_∧_
   rw[Tr.get_set]
   by_cases e:b=ad.block
   ·subst e
    refine .inr (.inr ⟨ad'.block,_,_,hl,by rw[if_pos rfl],by rw[hWh,if_pos rfl],.cells t' ?_ (fun j v v' hj hj'=>?_),?_⟩)
    ·rw[hnsz,hdrop2,hnsz2];exact hz
    ·rw[hdrop2,List.getElem?_toArray,takeDrop_get _ _ _ (by rw[Array.length_toList,Array.length_toList,hs2];omega)]at hj
     rw[List.getElem?_toArray,takeDrop_get _ _ _ (by rw[Array.length_toList];simpa using hfit2)]at hj'
     have hll:ww.toList.length=w'.toList.length:=by rw[Array.length_toList,Array.length_toList,hav2.1]
     rw[hll]at hj
     simp only [Array.getElem?_toList]at hj hj'
     split at hj
     ·rename_i h1;rw[if_pos h1]at hj';exact hx j v v' hj hj'
     ·rename_i h1;rw[if_neg h1]at hj'
      split at hj
      ·rename_i h2;rw[if_pos h2]at hj';exact hav2.2 _ v v' hj hj'
      ·rename_i h2;rw[if_neg h2]at hj';exact hx j v v' hj hj'
    ·rw[hcp];show q'.size/_=_/_;rw[hnsz]
   ·rw[if_neg e]
    rcases hp.wr b hb2 with k|k|⟨y,p,p',k1,k2,k3,k4⟩
    ·exact .inl k
    ·exact .inr (.inl k)
    ·refine .inr (.inr ⟨y,p,p',k1,k2,?_,k4⟩)
     rw[hWh,if_neg (fun h=>e (hp.inj.inj b ad.block y k1 (by rw[h];exact hl)))]
     exact k3
  ·rw[hWh,if_neg]
   rintro rfl
   have:=hb _ hl
   rw[show (s.wr|||bit ad.block).testBit ad.block=true from bit_self _ _]at this
   cases this
  ·rw[hWs];exact Nat.le_refl _
theorem eA_sound {c:Call} (h:eA P n0 e c.argTypes c.args s=some (r,s')) (ho:o.op= .call c) (hce:c.callee= .builtin .append) (hE:OpV n0 ρ e a o) (hp:Pre P n0 ρ s s' W):OpS P ρ s r s' (execOp a.eval o) W:=by
 obtain⟨ce,args,at_⟩:=c
 simp only at h hce;subst hce
 unfold eA at h
 split at h<;>try cases h
 next so xo t t2 hargs hat=>
 have hargs:args= #[so,xo]:=by rw[←Array.toArray_toList (xs:=args),hargs]
 have hat:at_= #[t,t2]:=by rw[←Array.toArray_toList (xs:=at_),hat]
 subst hargs;subst hat
 have hexec:∀{v' W'},(Builtin.append_ #[t,t2] o.type #[a.eval so,a.eval xo]).run P W= .ok v' W'→(execOp a.eval o).run P W= .ok (.value v') W':=fun h=>by
  unfold execOp
  rw[ho]
  simp [resolve,invoke,builtin,Sem.run_bind,h]
 split at h<;>try cases h
 next u base l c0 n hx hu hv1 hlen=>
 simp only[Bool.and_eq_true]at hx
 obtain⟨⟨hx1,hx2⟩,hx3⟩:=hx
 have V1:=hE so (by rw[ho];simp [Op.operands,Call.operands]) hx1
 have V2:=hE xo (by rw[ho];simp [Op.operands,Call.operands]) hx2
 split at h<;>try cases h
 next hc=>
 simp only[Bool.and_eq_true]at hc
 obtain⟨⟨⟨hz,hsz⟩,hby⟩,hln⟩:=hc
 obtain⟨i,z,hi,hzz,hzs,hcs,hbs⟩:=zC_of hz
 have hszN:=Nat.le_of_ble_eq_true hsz
 have hbyN:=Nat.le_of_ble_eq_true hby
 have hlnN:=Nat.le_of_ble_eq_true hln
 rw[hbs]at hbyN
 clear hsz hby hln
 have ht:=sliceE_eq hu
 rw[hv1]at V1
 generalize a.eval so=S' at *
 generalize a.eval xo=X' at *
 generalize aev e xo=X at *
 have hS:∃base' c',S'= .slice base' l c'∧(base=none→base'=none∧c'=c0)∧(∀ad,base=some ad→∃ad',base'=some ad'∧AR ρ ad ad'∧((c0≠LOO∧c'=c0)∨(c0=LOO∧l≤c'∧(ad.off=0→c'=ρ.cap ad.block)))):=by
  cases V1 with
  |sl0=>exact⟨none,c0,rfl,fun _=>⟨rfl,rfl⟩,fun ad h=>by cases h⟩
  |sl hA hcc=>exact⟨_,_,rfl,fun h=>(by cases h),fun ad h=>by cases h;exact⟨_,rfl,hA,hcc⟩⟩
 obtain⟨base',c',rfl,hb0,hb1⟩:=hS
 split at h
 ·rename_i hn0
  have hn0:n=0:=Nat.eq_of_beq_eq_true hn0
  subst hn0
  split at h<;>try cases h
  next hlc=>
  have hlc:=Nat.le_of_ble_eq_true hlc
  have hlc':l+0≤c':=by
   cases base with
   |none=>have:=(hb0 rfl).2;omega
   |some ad=>
    obtain⟨ad',_,_,hcc⟩:=hb1 ad rfl
    rcases hcc with hcc|hcc<;>omega
  have hf0:(Builtin.firstCells i.size 0 X').run P W= .ok #[] W:=by
   cases V2<;>first|(cases hlen;done)|rfl|(simp [Builtin.firstCells,loadCells,loadCellsFrom];done)
  have hrun:=run_app_in (ty:=o.type) (w:=W) (w2:=W) ht hx3 hi base' l c' 0 X' #[] (lenV_run hlen V2 W) hf0 hlc' (fun b _=>rfl) (fun _=>rfl)
  exact⟨ρ,W,⟨_,hexec hrun,V1⟩,Post.refl hp.inj hp.wr⟩
 ·rename_i hn0
  split at h<;>try cases h
  next oo m1 ww m2 hr1 hr2=>
  split at h<;>try cases h
  next hchk=>
  simp only[Bool.and_eq_true]at hchk
  obtain⟨⟨hs1,hs2⟩,hone⟩:=hchk
  have hs1N:=Nat.eq_of_beq_eq_true hs1
  have hs2N:=Nat.eq_of_beq_eq_true hs2
  clear hs1 hs2
  have hm1:∀b,m1.testBit b=true→∃ad,base=some ad∧b=ad.block:=fun b hb=>by
   cases base with
   |none=>
    dsimp only[rowVs]at hr1
    split at hr1<;>cases hr1
    simp at hb
   |some ad=>
    dsimp only[rowVs] at hr1
    split at hr1<;>try cases hr1
    split at hr1<;>cases hr1
    rw[bit_test]at hb
    exact⟨ad,rfl,by simpa using hb⟩
  split at h
  ·rename_i hL
   have hL:c0=LOO:=Nat.eq_of_beq_eq_true hL
   split at h<;>try cases h
   next ad=>
   obtain⟨ad',rfl,hA,hcc⟩:=hb1 ad rfl
   have hcc:=hcc.resolve_left fun h=>h.1 hL
   split at h<;>try cases h
   next q t' hq hoff=>
   split at h<;>try cases h
   next ht'=>
   have ht':t'=u:=Nat.eq_of_beq_eq_true ht'
   subst ht'
   have hoffN:=Nat.eq_of_beq_eq_true hoff
   have hspot:ad.spot=none:=by
    dsimp only[rowVs] at hr1
    split at hr1<;>first|assumption|cases hr1
   simp only[sq_eq,Option.some.injEq,Prod.mk.injEq]at h
   obtain⟨rfl,rfl⟩:=h
   by_cases hg:l+n≤c'
   ·obtain⟨v',W',ρ',h1,h2,h3⟩:=app_loose (ty:=o.type) ht hx3 hi hcs hszN hA hoffN hspot (hcc.2.2 hoffN) hcc.2.1 V1 V2 hlen hr1 hr2 hs1N hs2N hone hq hg hp
    exact⟨ρ',W',⟨v',hexec h1,h2⟩,h3⟩
   ·have hp1:Pre P n0 ρ s {heap:=s.heap.set s.next (some (.cells (oo++ww) t')),next:=s.next+1,rd:=s.rd|||(m1|||m2),wr:=s.wr} W:=by
     refine⟨hp.gb,hp.inj,fun b hb=>hp.wr b ?_,hp.fresh⟩
     rcases hb with hb|hb
     ·have hb:(s.rd|||(m1|||m2)).testBit b=true:=hb
      rw[Nat.testBit_or,Nat.testBit_or,Bool.or_eq_true,Bool.or_eq_true]at hb
      rcases hb with hb|hb|hb
      ·exact .inl (by show (s.rd|||m2).testBit b=true;rw[Nat.testBit_or,hb];rfl)
      ·obtain⟨ad2,e1,rfl⟩:=hm1 b hb;cases e1;exact .inr (bit_self _ _)
      ·exact .inl (by show (s.rd|||m2).testBit b=true;rw[Nat.testBit_or,hb,Bool.or_true])
     ·exact .inr (by show (s.wr|||bit ad.block).testBit b=true;rw[Nat.testBit_or,show s.wr.testBit b=true from hb];rfl)
    obtain⟨v',W',ρ1,h1,hle,h2,h3⟩:=app_out (ty:=o.type) ht hx3 hi hzz hzs hcs hszN hbyN hlnN V1 V2 hlen hr1 hr2 hs1N hs2N (by omega) (fun b hb=> .inl (by rw[Nat.testBit_or,hb,Bool.or_true])) hp1
    have hne:ad.block≠s.next:=fun h=>by
     have:=hp.fresh s.next (Nat.le_refl _) (by show s.next<s.next+1;omega)
     rw[←h]at this;exact hA.1.ne this
    obtain⟨hl0,-⟩:=BR.live hp.wr hA.1 (.inr (bit_self _ _)) hq
    have hl1:ρ1 ad.block= .live ad'.block:=by
     rcases hle.at_ ad.block with k|⟨k,_⟩|⟨y,k,k2|k2⟩
     ·rw[hl0]at k;cases k
     ·rw[hl0]at k;cases k
     ·rw[hl0]at k;cases k;exact k2
     ·have:=h3.kill ad.block _ hl0 k2
      have hb:s.wr.testBit ad.block=true:=this
      rcases h3.wr ad.block (.inl (.inr hb)) with j|⟨_,j⟩|⟨y,p,p',j1,_⟩
      ·rw[k2]at j;cases j
      ·have j:(s.heap.set s.next (some (Obj.cells (oo++ww) t'))).get ad.block=none:=j
       rw[Tr.get_set,if_neg hne,hq]at j;cases j
      ·rw[k2]at j1;cases j1
    obtain⟨ρ2,hle2,hot,hcap,h4⟩:=post_kill h3 hl1 hA.1.ne
    refine⟨ρ2,W',⟨v',hexec h1,h2.mono hle2⟩,?_⟩
    exact⟨h4.le,h4.dom,h4.kill,h4.inj,fun b hb=>h4.wr b (hb.imp (fun h=>by
      rcases h with h|h
      ·refine .inl ?_
       have h:(s.rd|||m2).testBit b=true:=h
       show (s.rd|||(m1|||m2)).testBit b=true
       rw[Nat.testBit_or,Bool.or_eq_true]at h
       rw[Nat.testBit_or,Nat.testBit_or]
       rcases h with h|h<;>simp [h]
      ·exact .inr h) id),h4.fr,h4.sz,h4.os,h4.tape,h4.out,h4.own⟩
  ·rename_i hL
   have hL:c0≠LOO:=fun e=>by rw[e]at hL;exact absurd hL (by decide)
   split at h
   ·rename_i hg
    have hg:=Nat.le_of_ble_eq_true hg
    split at h<;>try cases h
    next ad=>
    obtain⟨ad',rfl,hA,hcc⟩:=hb1 ad rfl
    have hcc:=(hcc.resolve_right fun h=>hL h.1).2
    subst hcc
    split at h<;>try cases h
    next q t' hq=>
    split at h<;>try cases h
    next hfit=>
    have hfit:=Nat.le_of_ble_eq_true hfit
    have hspot:ad.spot=none:=by
     dsimp only[rowVs] at hr1
     split at hr1<;>first|assumption|cases hr1
    simp only[sq_eq,Option.some.injEq,Prod.mk.injEq]at h
    obtain⟨rfl,rfl⟩:=h
    obtain⟨v',W',h1,h2,h3⟩:=app_room (ty:=o.type) ht hx3 hi hcs hA hspot hL V2 hlen hr2 hs2N hone hq hg hfit hp
    exact⟨ρ,W',⟨v',hexec h1,h2⟩,h3⟩
   ·rename_i hg
    simp only[sq_eq,Option.some.injEq,Prod.mk.injEq]at h
    obtain⟨rfl,rfl⟩:=h
    have hg':c'<l+n:=by
     have hc0:c'=c0:=by
      cases base with
      |none=>exact (hb0 rfl).2
      |some ad=>
       obtain⟨ad',_,_,hcc⟩:=hb1 ad rfl
       exact (hcc.resolve_right fun h=>hL h.1).2
     rw[hc0]
     cases hh:Nat.ble (l+n) c0 with
     |true=>rw[hh]at hg;cases hg
     |false=>
      by_cases h9:l+n≤c0
      ·rw[Nat.ble_eq_true_of_le h9]at hh;cases hh
      ·omega
    obtain⟨v',W',ρ1,h1,hle,h2,h3⟩:=app_out (ty:=o.type) ht hx3 hi hzz hzs hcs hszN hbyN hlnN V1 V2 hlen hr1 hr2 hs1N hs2N hg' (fun b hb=> .inl (by rw[Nat.testBit_or,hb,Bool.or_true])) hp
    exact⟨ρ1,W',⟨v',hexec h1,h2⟩,h3⟩
end
end
section
section
variable {P:Program} {n0:Nat} {ρ:PM} {e:Tr Value} {a:Act} {s s':AS} {r:OO} {W:World} {o:Oper}
theorem prun_bind {α β:Type} (t:Sem α) (f:α→Sem β):∀b,prun P (t.bind f)=some (.ok b)↔∃x,prun P t=some (.ok x)∧prun P (f x)=some (.ok b):=by
 induction t with
 |pure x=>exact fun b=>⟨fun h=>⟨x,rfl,h⟩,fun⟨y,h1,h2⟩=>(by cases h1;exact h2)⟩
 |program k ih=>exact fun b=>ih P b
 |mark m k ih=>exact fun b=>ih b
 |halt x=>
  intro b
  cases x<;>(refine⟨fun h=>?_,fun⟨y,h1,_⟩=>?_⟩<;>first|(cases h;done)|(cases h1;done))
 |load=>exact fun b=>⟨fun h=>(by cases h),fun⟨_,h,_⟩=>(by cases h)⟩
 |store=>exact fun b=>⟨fun h=>(by cases h),fun⟨_,h,_⟩=>(by cases h)⟩
 |new=>exact fun b=>⟨fun h=>(by cases h),fun⟨_,h,_⟩=>(by cases h)⟩
 |shape=>exact fun b=>⟨fun h=>(by cases h),fun⟨_,h,_⟩=>(by cases h)⟩
 |freeze=>exact fun b=>⟨fun h=>(by cases h),fun⟨_,h,_⟩=>(by cases h)⟩
 |frozen=>exact fun b=>⟨fun h=>(by cases h),fun⟨_,h,_⟩=>(by cases h)⟩
 |getObj=>exact fun b=>⟨fun h=>(by cases h),fun⟨_,h,_⟩=>(by cases h)⟩
 |setObj=>exact fun b=>⟨fun h=>(by cases h),fun⟨_,h,_⟩=>(by cases h)⟩
 |choose=>exact fun b=>⟨fun h=>(by cases h),fun⟨_,h,_⟩=>(by cases h)⟩
 |sys=>exact fun b=>⟨fun h=>(by cases h),fun⟨_,h,_⟩=>(by cases h)⟩
def FO2 (l l':List MapEntry) (i:Nat) (r r':Option (Nat×Value)):Prop:=(r=none∧r'=none)∨∃j x x',l[j]? =some x∧l'[j]? =some x'∧r=some (i+j,x.val)∧r'=some (i+j,x'.val)
theorem FO2.step {x x':MapEntry} {l l':List MapEntry} {i:Nat} {r r':Option (Nat×Value)} (h:FO2 l l' (i+1) r r'):FO2 (x::l) (x'::l') i r r':=h.imp id fun⟨j,y,y',h1,h2,h3,h4⟩=>⟨j+1,y,y',by simpa using h1,by simpa using h2,by rw[h3];congr 2;omega,by rw[h4];congr 2;omega⟩
theorem findNow_two (d:TypeDesc) (k:Value):∀(l l':List MapEntry) (i:Nat),l.map (·.key)=l'.map (·.key)→(Instr.findNow d k l i=none∧Instr.findNow d k l' i=none)∨∃r r',Instr.findNow d k l i=some r∧Instr.findNow d k l' i=some r'∧FO2 l l' i r r'
 |[],[],i,_=>.inr ⟨_,_,rfl,rfl,.inl ⟨rfl,rfl⟩⟩
 |[],_::_,_,h=>by simp at h
 |_::_,[],_,h=>by simp at h
 |x::l,x'::l',i,h=>by
  simp only[List.map_cons,List.cons.injEq]at h
  unfold Instr.findNow
  rw[h.1]
  cases Instr.sameNow d k x'.key with
  |none=>exact .inl ⟨rfl,rfl⟩
  |some b=>
   cases b with
   |true=>exact .inr ⟨_,_,rfl,rfl,.inr ⟨0,x,x',rfl,rfl,rfl,rfl⟩⟩
   |false=>
    rcases findNow_two d k l l' (i+1) h.2 with h|⟨r,r',h1,h2,h3⟩
    ·exact .inl h
    ·exact .inr ⟨r,r',h1,h2,h3.step⟩
theorem findAsking_two (K:TypeId) (k:Value):∀(l l':List MapEntry) (i:Nat) r,l.map (·.key)=l'.map (·.key)→prun P (Instr.findAsking K k l i)=some (.ok r)→∃r',prun P (Instr.findAsking K k l' i)=some (.ok r')∧FO2 l l' i r r'
 |[],[],i,r,_,h=>by cases h;exact⟨_,rfl,.inl ⟨rfl,rfl⟩⟩
 |[],_::_,_,_,h,_=>by simp at h
 |_::_,[],_,_,h,_=>by simp at h
 |x::l,x'::l',i,r,h,hp=>by
  simp only[List.map_cons,List.cons.injEq]at h
  unfold Instr.findAsking at hp⊢
  rw[h.1]at hp
  obtain⟨b,h1,h2⟩:=(prun_bind _ _ _).1 hp
  cases b with
  |true=>
   cases h2
   exact⟨_,(prun_bind _ _ _).2 ⟨true,h1,rfl⟩,.inr ⟨0,x,x',rfl,rfl,rfl,rfl⟩⟩
  |false=>
   obtain⟨r',h3,h4⟩:=findAsking_two K k l l' (i+1) r h.2 h2
   exact⟨r',(prun_bind _ _ _).2 ⟨false,h1,h3⟩,h4.step⟩
theorem findKey_two {K:TypeId} {k:Value} {l l':List MapEntry} {r:Option (Nat×Value)} (h:l.map (·.key)=l'.map (·.key)) (hp:prun P (Instr.findKey K k l)=some (.ok r)):∃r',prun P (Instr.findKey K k l')=some (.ok r')∧FO2 l l' 0 r r':=by
 unfold Instr.findKey at hp⊢
 obtain⟨d,h1,h2⟩:=(prun_bind _ _ _).1 hp
 rcases findNow_two d k l l' 0 h with⟨h3,h4⟩|⟨q,q',h3,h4,h5⟩
 ·rw[h3]at h2
  obtain⟨r',h5,h6⟩:=findAsking_two K k l l' 0 r h h2
  exact⟨r',(prun_bind _ _ _).2 ⟨d,h1,by rw[h4];exact h5⟩,h6⟩
 ·rw[h3]at h2
  cases h2
  exact⟨q',(prun_bind _ _ _).2 ⟨d,h1,by rw[h4];rfl⟩,h5⟩
theorem mapAt_real {v v':Value} {r cl:Nat} {es:Array MapEntry} (h:mapAt s v=some (r,es,cl)) (hv:VR ρ v v') (hp:Pre P n0 ρ s s' W) (ht:s'.tch r):∃x es',v'= .map (some x)∧ρ r= .live x∧W.heap[x]? =some (.map es' cl)∧ρ.cap r=0∧EsR ρ es es'∧es.toList.map (·.key)=es'.toList.map (·.key):=by
 unfold mapAt at h
 split at h<;>try cases h
 split at h<;>try cases h
 next hg=>
 split at h<;>cases h
 next hf=>
 cases hv with
 |map hb=>
  obtain⟨hl,o',ho',hor,hc⟩:=BR.live hp.wr hb ht hg
  cases hor with
  |map _ hE=>
   rename_i es'
   refine⟨_,es',rfl,hl,ho',hc,hE,?_⟩
   apply List.ext_getElem?
   intro i
   rw[List.getElem?_map,List.getElem?_map,Array.getElem?_toList,Array.getElem?_toList]
   by_cases hi:i<es.size
   ·have hi':i<es'.size:=by rw[←hE.1];exact hi
    rw[Array.getElem?_eq_getElem hi,Array.getElem?_eq_getElem hi']
    have:=(hE.2 i _ _ (Array.getElem?_eq_getElem hi) (Array.getElem?_eq_getElem hi')).key
    have hf1:=List.all_eq_true.1 hf es[i] (by simp)
    exact congrArg some (flat_eq hf1 this).symm
   ·have hi':¬i<es'.size:=by rw[←hE.1];exact hi
    rw[Array.getElem?_eq_none (by omega),Array.getElem?_eq_none (by omega)]
theorem mapK_eq {t K V:TypeId} (h:mapK P t=some (K,V)):P.underlying t=some (.map K V):=by
 unfold mapK at h
 split at h<;>cases h
 assumption
theorem keyIx_real {b:Bool} {K:TypeId} {k:Value} {es es':Array MapEntry} {q:Option (Nat×Value)} (h:keyIx P b K k es=some q) (hk:es.toList.map (·.key)=es'.toList.map (·.key)) (W:World):
  (Instr.checkKey b 10000 K k).run P W= .ok () W∧∃q',(Instr.findKey K k es'.toList).run P W= .ok q' W∧FO2 es.toList es'.toList 0 q q':=by
 unfold keyIx at h
 split at h<;>try cases h
 next h1=>
 split at h<;>cases h
 next h2=>
 obtain⟨q',h3,h4⟩:=findKey_two hk h2
 exact⟨prun_run _ _ h1 W,q',prun_run _ _ h3 W,h4⟩
theorem two_VR {v v':Value} (b ok:Bool) (h:VR ρ v v'):VR ρ (match ok with|true=>.tuple #[v,.bool b]|false=>v) (if ok then .tuple #[v',.bool b] else v'):=by
 cases ok with
 |false=>exact h
 |true=>
  refine .tuple rfl fun i u u' h1 h2=>?_
  cases i with
  |zero=>simp at h1 h2;subst h1;subst h2;exact h
  |succ i=>
   cases i with
   |zero=>simp at h1 h2;subst h1;subst h2;exact .bool _
   |succ=>simp at h1
theorem eMk_sound {t:TypeId} {m k:Operand} {ok:Bool} (h:eMk P n0 e t m k ok s=some (r,s')) (ho:o.op= .lookup t m k ok) (hE:OpV n0 ρ e a o) (hp:Pre P n0 ρ s s' W):OpS P ρ s r s' (execOp a.eval o) W:=by
 unfold eMk at h
 split at h<;>try cases h
 next b es cl K V hm hK hok=>
 simp only[Bool.and_eq_true]at hok
 obtain⟨⟨k1,k2⟩,k3⟩:=hok
 have hT:=mapK_eq hK
 have vm:=hE m (by rw[ho];simp [Op.operands]) k1
 have vk:=hE k (by rw[ho];simp [Op.operands]) k2
 have ek:=flat_eq k3 vk
 split at h<;>try cases h
 ·next i v hq=>
  rw[sq_eq]at h
  cases h
  obtain⟨x,es',em,hl,hx0,hc,hEs,hks⟩:=mapAt_real hm vm hp (.inl (bit_self _ _))
  obtain⟨c1,q',c2,c3⟩:=keyIx_real hq hks W
  rw[show es.isEmpty=es'.isEmpty from by unfold Array.isEmpty;rw[hEs.1]]at c1
  rcases c3 with⟨c3,_⟩|⟨j,y,y',j1,j2,j3,j4⟩
  ·cases c3
  cases j3
  subst j4
  rw[Array.getElem?_toList]at j1 j2
  refine⟨ρ,W,⟨_,?_,two_VR true ok (hEs.2 _ _ _ j1 j2).val⟩,post_rd hp⟩
  unfold execOp
  rw[ho]
  unfold Instr.lookup
  simp only[em,ek,Sem.run_bind,run_und hT,Result.andThen_ok,getMap_run hx0,Sem.run_pure,c1,c2]
 ·next hq=>
  split at h<;>try cases h
  next z hz=>
  split at h<;>try cases h
  next hzf=>
  rw[sq_eq]at h
  cases h
  obtain⟨x,es',em,hl,hx0,hc,hEs,hks⟩:=mapAt_real hm vm hp (.inl (bit_self _ _))
  obtain⟨c1,q',c2,c3⟩:=keyIx_real hq hks W
  rw[show es.isEmpty=es'.isEmpty from by unfold Array.isEmpty;rw[hEs.1]]at c1
  have hz:=prun_run _ _ hz W
  dsimp only at hz
  rcases c3 with⟨_,c3⟩|⟨j,y,y',j1,j2,j3,j4⟩
  ·subst c3
   refine⟨ρ,W,⟨_,?_,two_VR false ok (flat_VR hzf)⟩,post_rd hp⟩
   unfold execOp
   rw[ho]
   unfold Instr.lookup
   simp only[em,ek,Sem.run_bind,run_und hT,Result.andThen_ok,getMap_run hx0,Sem.run_pure,c1,c2,hz]
  ·cases j3
theorem eMu_sound {t:TypeId} {m k v:Operand} (h:eMu P n0 e t m k v s=some (r,s')) (ho:o.op= .mapUpdate t m k v∨o.op= .insert t m k v) (hE:OpV n0 ρ e a o) (hp:Pre P n0 ρ s s' W):OpS P ρ s r s' (execOp a.eval o) W:=by
 have hx:∀W',(Instr.mapUpdate t (a.eval m) (a.eval k) (a.eval v)).run P W= .ok () W'→(execOp a.eval o).run P W= .ok .skip W':=fun W' hr=>by
  unfold execOp
  rcases ho with h|h<;>(rw[h];simp [Sem.run_bind,hr,Result.andThen])
 unfold eMu at h
 split at h<;>try cases h
 next b es cl K V hm hK hok=>
 simp only[Bool.and_eq_true]at hok
 obtain⟨⟨⟨k1,k2⟩,k4⟩,k3⟩:=hok
 have hT:=mapK_eq hK
 have vm:=hE m (by rcases ho with h|h<;>(rw[h];simp [Op.operands])) k1
 have vk:=hE k (by rcases ho with h|h<;>(rw[h];simp [Op.operands])) k2
 have vv:=hE v (by rcases ho with h|h<;>(rw[h];simp [Op.operands])) k4
 have ek:=flat_eq k3 vk
 split at h<;>try cases h
 ·next i u hq=>
  split at h<;>try cases h
  next hsm=>
  rw[sq_eq]at h
  cases h
  obtain⟨x,es',em,hl,hx0,hc,hEs,hks⟩:=mapAt_real hm vm hp (.inr (bit_self _ _))
  obtain⟨c1,q',c2,c3⟩:=keyIx_real hq hks W
  rcases c3 with⟨c3,_⟩|⟨j,y,y',j1,j2,j3,j4⟩
  ·cases c3
  cases j3
  subst j4
  rw[Nat.zero_add]at hsm hp⊢
  have hkk:(es'[j]?).map (·.key)=(es[j]?).map (·.key):=by
   have:=congrArg (·[j]?) hks
   simp only[List.getElem?_map,Array.getElem?_toList]at this
   exact this.symm
  have hks1:(Instr.keyThatStays (((es'[j]?).map (·.key)).getD (aev e k)) (aev e k)).run P W= .ok (aev e k) W:=by
   unfold Instr.keyThatStays
   rw[hkk,hsm,if_pos rfl]
   rfl
  refine⟨ρ,_,hx {W with heap:=W.heap.setIfInBounds x (.map (es'.modify j fun z=>{z with key:=aev e k,val:=a.eval v}) cl)} ?_,post_obj (m:=s.rd) (ob:=.map (es.modify j fun x=>{x with key:=aev e k,val:=aev e v}) cl) (ob':=.map (es'.modify j fun z=>{z with key:=aev e k,val:=a.eval v}) cl) (o0:=.map es' cl) hl hc (.map _ (hEs.modify j fun z z' hz=>⟨flat_VR k3,vv,hz.born⟩)) (setHeap (hp.inj.lt _ _ hl) _) (by simp) (fun y _ hy=>setHeap_ne hy _) rfl rfl rfl hp⟩
  unfold Instr.mapUpdate
  simp only[em,ek,Sem.run_bind,run_und hT,Result.andThen_ok,getMap_run hx0,c1,c2,Nat.zero_add,hks1,setMap_run hx0]
 ·next hq=>
  rw[sq_eq,sq_eq]at h
  cases h
  obtain⟨x,es',em,hl,hx0,hc,hEs,hks⟩:=mapAt_real hm vm hp (.inr (bit_self _ _))
  obtain⟨c1,q',c2,c3⟩:=keyIx_real hq hks W
  rcases c3 with⟨_,c3⟩|⟨j,y,y',j1,j2,j3,j4⟩
  ·subst c3
   refine⟨ρ,_,hx {W with heap:=W.heap.setIfInBounds x (.map (es'.push {key:=aev e k,val:=a.eval v,born:=cl}) (cl+1))} ?_,post_obj (m:=s.rd) (ob:=.map (es.push {key:=aev e k,val:=aev e v,born:=cl}) (cl+1)) (ob':=.map (es'.push {key:=aev e k,val:=a.eval v,born:=cl}) (cl+1)) (o0:=.map es' cl) hl hc (.map _ (hEs.push ⟨flat_VR k3,vv,rfl⟩)) (setHeap (hp.inj.lt _ _ hl) _) (by simp) (fun y _ hy=>setHeap_ne hy _) rfl rfl rfl hp⟩
   unfold Instr.mapUpdate
   simp only[em,ek,Sem.run_bind,run_und hT,Result.andThen_ok,getMap_run hx0,c1,c2,setMap_run hx0]
  ·cases j3
theorem eMk_grow {t:TypeId} {m k:Operand} {ok:Bool} (h:eMk P n0 e t m k ok s=some (r,s')):Grow s s':=by
 unfold eMk at h
 split at h<;>try cases h
 split at h<;>try cases h
 ·rw[sq_eq]at h;cases h;exact grow_rd s _
 ·split at h<;>try cases h
  split at h<;>try cases h
  rw[sq_eq]at h;cases h;exact grow_rd s _
theorem eMu_grow {t:TypeId} {m k v:Operand} (h:eMu P n0 e t m k v s=some (r,s')):Grow s s':=by
 unfold eMu at h
 split at h<;>try cases h
 split at h<;>try cases h
 ·split at h<;>try cases h
  rw[sq_eq]at h;cases h;exact grow_wr s _ _
 ·rw[sq_eq,sq_eq]at h;cases h;exact grow_wr s _ _
end
end
section
section
variable {P:Program} {n0:Nat} {ρ:PM} {e:Tr Value} {a:Act} {s s':AS} {r:OO} {W:World} {o:Oper}
theorem eop_sound (h:eop P n0 e o s=some (r,s')) (hE:OpV n0 ρ e a o) (hp:Pre P n0 ρ s s' W):OpS P ρ s r s' (execOp a.eval o) W:=by
 unfold eop at h
 cases ho:o.op<;>rw[ho]at h<;>(try dsimp only at h)
 case move x=>
  have:execOp a.eval o=pure (.value (a.eval x)):=by unfold execOp;rw[ho]
  rw[this];exact eM_sound h (hE x (by rw[ho];simp [Op.operands])) hp
 case assign x=>
  have:execOp a.eval o=pure (.value (a.eval x)):=by unfold execOp;rw[ho]
  rw[this];exact eM_sound h (hE x (by rw[ho];simp [Op.operands])) hp
 case pick c x y=>
  have hx:∀b,execOp a.eval o=(do pure (.value (if (←asBool (a.eval c)) then a.eval x else a.eval y)))→a.eval c= .bool b→execOp a.eval o=pure (.value (if b then a.eval x else a.eval y)):=fun b h1 h2=>by
   rw[h1,h2];rfl
  have h0:execOp a.eval o=(do pure (.value (if (←asBool (a.eval c)) then a.eval x else a.eval y))):=by unfold execOp;rw[ho]
  split at h<;>try cases h
  ·rename_i hc
   split at h<;>try cases h
   next hk=>
   rw[Bool.and_eq_true]at hk
   have hv:=hE c (by rw[ho];simp [Op.operands]) hk.1
   rw[hc]at hv
   rw[hx true h0 (by generalize a.eval c=u at hv;cases hv;rfl)]
   exact eM_sound h (hE x (by rw[ho];simp [Op.operands])) hp
  ·rename_i hc
   split at h<;>try cases h
   next hk=>
   rw[Bool.and_eq_true]at hk
   have hv:=hE c (by rw[ho];simp [Op.operands]) hk.1
   rw[hc]at hv
   rw[hx false h0 (by generalize a.eval c=u at hv;cases hv;rfl)]
   exact eM_sound h (hE y (by rw[ho];simp [Op.operands])) hp
 case binOp op t x y yt=>
  split at h
  ·rename_i r1 h1;cases h;exact eF_sound (eB_eF h1 ho) (by rw[ho];intro _ _ h;cases h) hE hp
  ·split at h
   ·exact eF_sound h (by rw[ho];intro _ _ h;cases h) hE hp
   ·split at h
    ·rename_i r1 h1;cases h;exact eN_sound h1 ho hE hp
    ·exact ePq_sound h ho hE hp
 case unOp=>exact eF_sound h (by rw[ho];intro _ _ h;cases h) hE hp
 case convert=>
  split at h
  ·rename_i r1 h1;cases h;exact eF_sound h1 (by rw[ho];intro _ _ h;cases h) hE hp
  ·exact eCv_sound h ho hE hp
 case index t x i=>
  split at h
  ·rename_i r1 h1;cases h;exact eF_sound (eX1_eF h1 ho) (by rw[ho];intro _ _ h;cases h) hE hp
  ·split at h
   ·exact eF_sound h (by rw[ho];intro _ _ h;cases h) hE hp
   ·exact eS_sound h hE hp
 case slice t x lo hi mx=>
  cases mx with
  |none=>
   dsimp only at h
   split at h
   ·exact eF_sound h (by rw[ho];intro _ _ h;cases h) hE hp
   ·exact eSl_sound h ho hE hp
  |some=>dsimp only at h;exact eS_sound h hE hp
 case call c=>
  split at h
  ·rename_i hc
   split at h
   ·rename_i r1 h1;cases h;exact eA_sound h1 ho hc hE hp
   ·exact eZ_sound h ho hc hE hp
  ·rename_i hc
   split at h
   ·rename_i r1 h1;cases h;exact eS_sound (eN1_eS h1 ho hc) hE hp
   ·split at h
    ·rename_i r1 h1;cases h;exact eSn_sound h1 ho hc hE hp
    ·exact eS_sound h hE hp
  ·exact eS_sound h hE hp
  ·rename_i hc
   split at h
   ·rename_i r1 h1;cases h;exact eSd_sound h1 ho hc hE hp
   ·exact eS_sound h hE hp
  ·exact eF_sound h (by rw[ho];intro _ _ h;cases h) hE hp
  ·exact eF_sound h (by rw[ho];intro _ _ h;cases h) hE hp
  ·exact eF_sound h (by rw[ho];intro _ _ h;cases h) hE hp
  ·rename_i hc;exact eCp_sound h ho hc hE hp
  ·rename_i hc;exact eSD_sound h ho hc hE hp
  ·rename_i hc;exact eUS_sound h ho hc hE hp
  ·cases h
  ·split at h
   ·rename_i x hx
    cases h
    exact eC_sound hx ho hE hp
   ·split at h
    ·rename_i x hx
     cases h
     exact eNe_sound hx ho hE hp
    ·exact eF_sound h (by rw[ho];intro _ _ h;cases h) hE hp
 case load t x=>
  split at h
  ·rename_i r1 h1;cases h;exact eS_sound (eL1_eS h1 ho) hE hp
  ·split at h
   ·rename_i r1 h1;cases h;exact eS_sound (eLd_eS h1 ho) hE hp
   ·exact eS_sound h hE hp
 case store t x v=>
  split at h
  ·rename_i r1 h1;cases h;exact eS_sound (eT1_eS h1 ho) hE hp
  ·split at h
   ·rename_i r1 h1;cases h;exact eS_sound (eSt_eS h1 ho) hE hp
   ·exact eS_sound h hE hp
 case indexAddr t x i=>
  split at h
  ·rename_i r1 h1;cases h;exact eS_sound (eI1_eS h1 ho) hE hp
  ·exact eS_sound h hE hp
 case fieldAddr t x f=>
  split at h
  ·rename_i r1 h1;cases h;exact eS_sound (eF1_eS h1 ho) hE hp
  ·exact eS_sound h hE hp
 case extract x i=>
  split at h
  ·rename_i r1 h1;cases h;exact eS_sound (eE1_eS h1 ho) hE hp
  ·exact eS_sound h hE hp
 case build t ps=>
  split at h
  ·rename_i r1 h1;cases h;exact eS_sound (eBu_eS h1 ho) hE hp
  ·exact eS_sound h hE hp
 case alloc t=>
  split at h
  ·rename_i r1 h1;cases h;exact eS_sound (eW1_eS (n0:=n0) h1 ho) hE hp
  ·exact eS_sound h hE hp
 case makeMap t x=>
  split at h
  ·rename_i r1 h1;cases h;exact eSm_sound h1 ho hp
  ·exact eS_sound h hE hp
 case mapUpdate t m k v=>
  split at h
  ·rename_i r1 h1;cases h;exact eSu_sound h1 (.inl ho) hE hp
  ·split at h
   ·exact eS_sound h hE hp
   ·exact eMu_sound h (.inl ho) hE hp
 case insert t m k v=>
  split at h
  ·rename_i r1 h1;cases h;exact eSu_sound h1 (.inr ho) hE hp
  ·split at h
   ·exact eS_sound h hE hp
   ·exact eMu_sound h (.inr ho) hE hp
 case lookup t m k ok=>
  split at h
  ·exact eS_sound h hE hp
  ·exact eMk_sound h ho hE hp
 case defer c=>exact eDf_sound h ho hE hp
 case panic x=>
  split at h<;>try cases h
  next t v hx hk=>
  have hv:=hE x (by rw[ho];simp [Op.operands]) hk
  rw[hx]at hv
  generalize hw:a.eval x=u at hv
  refine⟨ρ,W,⟨u,?_,hv⟩,Post.refl hp.inj hp.wr⟩
  cases hv
  unfold execOp
  rw[ho]
  dsimp only
  rw[hw]
  rfl
 all_goals exact eS_sound h hE hp
theorem eM_grow {x:Operand} (h:eM n0 e x s=some (r,s')):Grow s s':=by
 unfold eM at h
 split at h<;>cases h
 exact Grow.refl _
theorem eF_grow (h:eF P e o s=some (r,s')):Grow s s':=by
 unfold eF at h
 split at h<;>try cases h
 split at h<;>try cases h
 split at h<;>try cases h
 split at h<;>cases h
 exact Grow.refl _
theorem eS_grow (h:eS P n0 e o s=some (r,s')):Grow s s':=by
 unfold eS at h
 split at h<;>try cases h
 split at h<;>try cases h
 split at h<;>try cases h
 next hr=>
 split at h<;>cases h
 exact arun_grow _ _ _ _ hr
theorem eN_grow {op:BinOp} {t:TypeId} {x y:Operand} (h:eN P n0 e op t x y s=some (r,s')):Grow s s':=by
 unfold eN at h
 split at h<;>try cases h
 split at h<;>try cases h
 split at h<;>cases h<;>exact Grow.refl _
theorem eSl_grow {t:TypeId} {x:Operand} {lo hi:Option Operand} (h:eSl P n0 e t x lo hi s=some (r,s')):Grow s s':=by
 unfold eSl at h
 split at h<;>try cases h
 split at h<;>try cases h
 split at h
 ·split at h<;>try cases h
  simp only[sq_eq,Option.some.injEq,Prod.mk.injEq]at h
  obtain⟨rfl,rfl⟩:=h
  exact Grow.refl _
 ·split at h<;>try cases h
  simp only[sq_eq,Option.some.injEq,Prod.mk.injEq]at h
  obtain⟨rfl,rfl⟩:=h
  exact Grow.refl _
theorem eC_grow {c:Call} (h:eC P n0 e c s=some (r,s')):Grow s s':=by
 unfold eC at h
 split at h<;>try cases h
 split at h<;>try cases h
 split at h<;>try cases h
 ·split at h<;>cases h
  exact Grow.refl _
 ·exact Grow.refl _
theorem eDf_grow {c:Call} (h:eDf P n0 e c s=some (r,s')):Grow s s':=by
 unfold eDf at h
 split at h<;>try cases h
 split at h<;>try cases h
 split at h<;>try cases h
 split at h<;>cases h
 exact Grow.refl _
theorem or_l {m k b:Nat} (h:m.testBit b=true):(m|||k).testBit b=true:=by rw[Nat.testBit_or,h];rfl
theorem eA_grow {at_:Array TypeId} {args:Array Operand} (h:eA P n0 e at_ args s=some (r,s')):Grow s s':=by
 unfold eA at h
 split at h<;>try cases h
 split at h<;>try cases h
 split at h<;>try cases h
 split at h
 ·split at h<;>cases h
  exact Grow.refl _
 ·split at h<;>try cases h
  split at h<;>try cases h
  split at h
  ·split at h<;>try cases h
   split at h<;>try cases h
   split at h<;>try cases h
   simp only[sq_eq,Option.some.injEq,Prod.mk.injEq]at h
   obtain⟨rfl,rfl⟩:=h
   refine⟨Nat.le_succ _,fun b h=>or_l h,fun b h=>or_l h,fun b h1 h2=>?_⟩
   have h1:(s.wr|||bit _).testBit b=false:=h1
   have h2:b<s.next∨s.next+1≤b:=h2
   rw[bit_or]at h1
   simp only[Bool.or_eq_false_iff,decide_eq_false_iff_not]at h1
   simp only[Tr.get_set]
   rw[if_neg h1.2,if_neg (by omega)]
  ·split at h
   ·split at h<;>try cases h
    split at h<;>try cases h
    split at h<;>try cases h
    simp only[sq_eq,Option.some.injEq,Prod.mk.injEq]at h
    obtain⟨rfl,rfl⟩:=h
    refine⟨Nat.le_refl _,fun b h=>or_l h,fun b h=>or_l h,fun b h1 h2=>?_⟩
    have h1:(s.wr|||bit _).testBit b=false:=h1
    rw[bit_or]at h1
    simp only[Bool.or_eq_false_iff,decide_eq_false_iff_not]at h1
    simp only[Tr.get_set]
    rw[if_neg h1.2]
   ·simp only[sq_eq,Option.some.injEq,Prod.mk.injEq]at h
    obtain⟨rfl,rfl⟩:=h
    refine⟨Nat.le_succ _,fun b h=>or_l h,fun b h=>h,fun b h1 h2=>?_⟩
    have h2:b<s.next∨s.next+1≤b:=h2
    simp only[Tr.get_set]
    rw[if_neg (by omega)]
theorem eop_grow (h:eop P n0 e o s=some (r,s')):Grow s s':=by
 unfold eop at h
 cases ho:o.op<;>rw[ho]at h<;>(try dsimp only at h)
 case move x=>exact eM_grow h
 case assign x=>exact eM_grow h
 case pick c x y=>
  split at h<;>try cases h
  ·split at h<;>try cases h
   exact eM_grow h
  ·split at h<;>try cases h
   exact eM_grow h
 case binOp op t x y yt=>
  split at h
  ·rename_i r1 h1;cases h;exact eF_grow (P:=P) (eB_eF h1 ho)
  ·split at h
   ·exact eF_grow h
   ·split at h
    ·rename_i r1 h1;cases h;exact eN_grow h1
    ·exact ePq_grow h
 case unOp=>exact eF_grow h
 case convert=>
  split at h
  ·rename_i r1 h1;cases h;exact eF_grow (P:=P) (o:=o) h1
  ·exact eCv_grow h
 case index t x i=>
  split at h
  ·rename_i r1 h1;cases h;exact eF_grow (eX1_eF h1 ho)
  ·split at h
   ·exact eF_grow h
   ·exact eS_grow h
 case slice t x lo hi mx=>
  cases mx with
  |none=>
   dsimp only at h
   split at h
   ·exact eF_grow h
   ·exact eSl_grow h
  |some=>dsimp only at h;exact eS_grow h
 case call c=>
  split at h
  ·split at h
   ·rename_i r1 h1;cases h;exact eA_grow h1
   ·exact eZ_grow h
  ·rename_i hc
   split at h
   ·rename_i r1 h1;cases h;exact eS_grow (eN1_eS h1 ho hc)
   ·split at h
    ·rename_i r1 h1;cases h;exact eSn_grow h1
    ·exact eS_grow h
  ·exact eS_grow h
  ·split at h
   ·rename_i r1 h1;cases h;exact eSd_grow h1
   ·exact eS_grow h
  ·exact eF_grow h
  ·exact eF_grow h
  ·exact eF_grow h
  ·exact eCp_grow h
  ·exact eSD_grow h
  ·exact eUS_grow h
  ·cases h
  ·split at h
   ·rename_i x hx
    cases h
    exact eC_grow hx
   ·split at h
    ·rename_i x hx
     cases h
     exact eNe_grow hx
    ·exact eF_grow h
 case load t x=>
  split at h
  ·rename_i r1 h1;cases h;exact eS_grow (eL1_eS h1 ho)
  ·split at h
   ·rename_i r1 h1;cases h;exact eS_grow (eLd_eS h1 ho)
   ·exact eS_grow h
 case store t x v=>
  split at h
  ·rename_i r1 h1;cases h;exact eS_grow (eT1_eS h1 ho)
  ·split at h
   ·rename_i r1 h1;cases h;exact eS_grow (eSt_eS h1 ho)
   ·exact eS_grow h
 case indexAddr t x i=>
  split at h
  ·rename_i r1 h1;cases h;exact eS_grow (eI1_eS h1 ho)
  ·exact eS_grow h
 case fieldAddr t x f=>
  split at h
  ·rename_i r1 h1;cases h;exact eS_grow (eF1_eS h1 ho)
  ·exact eS_grow h
 case extract x i=>
  split at h
  ·rename_i r1 h1;cases h;exact eS_grow (P:=P) (eE1_eS h1 ho)
  ·exact eS_grow h
 case build t ps=>
  split at h
  ·rename_i r1 h1;cases h;exact eS_grow (eBu_eS h1 ho)
  ·exact eS_grow h
 case alloc t=>
  split at h
  ·rename_i r1 h1;cases h;exact eS_grow (n0:=n0) (e:=e) (eW1_eS h1 ho)
  ·exact eS_grow h
 case makeMap t x=>
  split at h
  ·rename_i r1 h1;cases h;exact eSm_grow h1
  ·exact eS_grow h
 case mapUpdate t m k v=>
  split at h
  ·rename_i r1 h1;cases h;exact eSu_grow h1
  ·split at h
   ·exact eS_grow h
   ·exact eMu_grow h
 case insert t m k v=>
  split at h
  ·rename_i r1 h1;cases h;exact eSu_grow h1
  ·split at h
   ·exact eS_grow h
   ·exact eMu_grow h
 case lookup t m k ok=>
  split at h
  ·exact eS_grow h
  ·exact eMk_grow h
 case defer c=>exact eDf_grow h
 case panic x=>
  split at h<;>cases h
  exact Grow.refl _
 all_goals exact eS_grow h
end
end
end Go.Proofs.YtngglbakkedaiaaGreatDoor
