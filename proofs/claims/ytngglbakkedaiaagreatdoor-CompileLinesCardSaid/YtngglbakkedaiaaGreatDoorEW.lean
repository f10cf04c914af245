import Derived.Test.YtngglbakkedaiaaGreatDoorEV
set_option linter.all false
namespace Go.Proofs.YtngglbakkedaiaaGreatDoor
section
variable {P:Program} {n0:Nat} {size:Nat} {ops:Array Oper}
theorem Post.keepW {ρ ρ':PM} {s s':AS} {W W':World} (h:Post P ρ s s' W ρ' W') (hI:Inj ρ W) {b x:Nat} (hb:ρ b= .live x) (hw:s'.wr.testBit b=false):ρ' b= .live x∧W'.heap[x]? =W.heap[x]?:=by
 refine⟨?_,h.fr x (hI.lt b x hb) fun c hc=>by rw[hI.inj c b x hc hb];exact hw⟩
 rcases h.le.at_ b with k|⟨k,_⟩|⟨y,k,k2|k2⟩
 ·rw[hb]at k;cases k
 ·rw[hb]at k;cases k
 ·rw[hb]at k;cases k;exact k2
 ·have:=h.kill b x hb k2;rw[hw]at this;cases this
theorem bef_lt (hok:rgOKs ops size=true) {i j:Nat} (hi:i<ops.size) (h:befs ops i j=true):j<i:=by
 unfold rgOKs at hok
 simp only[Bool.and_eq_true,List.all_eq_true,List.mem_range]at hok
 obtain⟨_,k3⟩:=hok
 have ed:∀k,k<ops.size→∀o,ops[k]? =some o→∀e∈o.after.toList,Region.binds .any e=true→e.on<k:=fun k hk o ho e he hb=>by
  have h4:=k3 k hk
  rw[ho]at h4
  simp only[Option.map_some,Option.all_some,List.all_eq_true]at h4
  have h5:=h4 e he
  rw[hb]at h5
  simpa using h5
 refine bef_ins (L:=fun j=>j<i) h (fun k hk o ho e he hb=>?_) fun o ho e he hb=>ed i hi o ho e he hb
 have:=ed k (by have:k<i:=hk;omega) o ho e he hb
 have hk:k<i:=hk
 show e.on<i
 omega
set_option maxHeartbeats 1000000 in
theorem adr_sound {call:ACall} (hc:CallOK P n0 call) (hm:P.follows .mixedOrders=true) {rd:Option Nat} {id n:Nat} {st st':St} {x:AXs} {ρ:PM} {a:Act} {W:World} {Q:Exit→Act→World→Prop} (hrg:rgOKs ops size=true) (h:adr P n0 call size ops (ops.toList.zip (Region.before ops).toList) 0 [] st=some (x,st')) (hs:StR P size ρ st.env st.dfs a) (hp:Pre P n0 ρ st.s st'.s W)
  (hN:x= .normal→∀ρ' a' W',StR P size ρ' st'.env st'.dfs a'→Post P ρ st.s st'.s W ρ' W'→Q .normal a' W')
  (hP:∀v,x= .panic v→∀ρ' a' W' v',DfR P ρ' st'.dfs a'.defers→VR ρ' v v'→Post P ρ st.s st'.s W ρ' W'→Q (.panic [{v:=v',recovered:=false}]) a' W'):(Code.region id ops true).wpIn (fw rd) n P Q a W:=by
 obtain⟨T,U,m,hT0,hml,hk,hx⟩:=adr_trace _ 0 [] _ _ _ h
 have hlen:(ops.toList.zip (Region.before ops).toList).length=ops.size:=by
  rw[List.length_zip,Array.length_toList,Array.length_toList,before_size];exact Nat.min_self _
 have zat:∀i,i<ops.size→∃o b',(ops.toList.zip (Region.before ops).toList)[i]? =some (o,b'):=fun i hi=>⟨_,_,List.getElem?_eq_getElem (by rw[hlen];exact hi)⟩
 rw[hlen]at hml
 have K:∀k,k<m→∃o,ops[k]? =some o∧aop1 P n0 call size ops false o (zm (T k))=some (.normal,U k)∧T (k+1)=nx (T k) (U k)∧∀k',k'<k→befs ops k k'=true∨((∀b,(wn (T k') (U k')).testBit b=true→(U k).s.rd.testBit b=true∨(wn (T k) (U k)).testBit b=true→False)∧∀b,(wn (T k) (U k)).testBit b=true→(U k').s.rd.testBit b=true→False):=fun k hk0=>by
  obtain⟨o,bf,h1,h2,h3,_,h5⟩:=hk k hk0
  obtain⟨ho,hb⟩:=zip_get h1
  refine⟨o,ho,h2,h3,fun k' hk'=>?_⟩
  have:=h5 k' hk'
  unfold okPs at this
  rw[Nat.zero_add]at this
  simp only[Bool.or_eq_true,Bool.and_eq_true]at this
  rcases this with this|⟨d1,d2⟩
  ·exact .inl (by rw[hb];exact this)
  ·refine .inr ⟨fun b hb1 hb2=>disj d1 hb1 ?_,fun b hb1 hb2=>disj d2 hb1 hb2⟩
   rw[Nat.testBit_or,Bool.or_eq_true];exact hb2
 clear hk
 have G:∀k,k<m→Grow (zm (T k)).s (U k).s:=fun k hk=>by
  obtain⟨o,_,h2,_⟩:=K k hk
  exact aop1_grow hc h2
 have hTs:∀k,k<m→(T (k+1)).s.heap=(U k).s.heap∧(T (k+1)).s.next=(U k).s.next∧(T (k+1)).env=(U k).env∧(T (k+1)).s.rd=(T k).s.rd|||(U k).s.rd∧(T (k+1)).s.wr=(T k).s.wr|||(U k).s.wr:=fun k hk=>by
  obtain⟨_,_,_,h3,_⟩:=K k hk
  rw[h3];exact⟨rfl,rfl,rfl,rfl,rfl⟩
 have nxt:∀k,k<m→(T k).s.next≤(T (k+1)).s.next:=fun k hk=>by
  rw[(hTs k hk).2.1];exact (G k hk).next
 have mono:∀u,u≤m→∀t,t≤u→(T t).s.next≤(T u).s.next:=fun u=>by
  induction u with
  |zero=>intro _ t ht;rw[Nat.le_zero.1 ht];exact Nat.le_refl _
  |succ u ih=>
   intro hu t ht
   rcases Nat.lt_or_ge t (u+1) with h1|h1
   ·exact Nat.le_trans (ih (by omega) t (by omega)) (nxt u (by omega))
   ·rw[show t=u+1 from by omega];exact Nat.le_refl _
 have wnw:∀k b,k<m→(wn (T k) (U k)).testBit b=false→(U k).s.wr.testBit b=false∧(b<(T k).s.next∨(U k).s.next≤b):=fun k b hk hb=>by
  unfold wn at hb
  rw[Nat.testBit_or,Bool.or_eq_false_iff,rng_test]at hb
  refine⟨hb.1,?_⟩
  have h2:=hb.2
  by_cases h3:b<(T k).s.next
  ·exact .inl h3
  ·refine .inr ?_
   simp only[Bool.and_eq_false_iff,decide_eq_false_iff_not]at h2
   rcases h2 with h2|h2<;>omega
 have wnt:∀k b,k<m→((U k).s.wr.testBit b=true∨((T k).s.next≤b∧b<(U k).s.next))→(wn (T k) (U k)).testBit b=true:=fun k b hk hb=>by
  unfold wn
  rw[Nat.testBit_or,rng_test,Bool.or_eq_true,Bool.and_eq_true,decide_eq_true_eq,decide_eq_true_eq]
  exact hb
 have frame:∀k b,k<m→(wn (T k) (U k)).testBit b=false→(T (k+1)).s.heap.get b=(T k).s.heap.get b:=fun k b hk hb=>by
  obtain⟨h1,h2⟩:=wnw k b hk hb
  rw[(hTs k hk).1]
  exact (G k hk).same b h1 h2
 have frames:∀b u,u≤m→∀t,t≤u→(∀j,t≤j→j<u→(wn (T j) (U j)).testBit b=false)→(T u).s.heap.get b=(T t).s.heap.get b:=fun b u=>by
  induction u with
  |zero=>intro _ t ht _;rw[Nat.le_zero.1 ht]
  |succ u ih=>
   intro hu t ht hj
   rcases Nat.lt_or_ge t (u+1) with h1|h1
   ·rw[frame u b (by omega) (hj u (by omega) (by omega)),ih (by omega) t (by omega) fun j h2 h3=>hj j h2 (by omega)]
   ·rw[show t=u+1 from by omega]
 have eframe:∀k d,k<m→dstAts ops k≠some d→(T (k+1)).env.get d=(T k).env.get d:=fun k d hk hd=>by
  obtain⟨o,ho,h2,h3,_⟩:=K k hk
  rw[(hTs k hk).2.2.1]
  have hdo:dstAts ops k=o.dst:=by simp [dstAts,ho]
  have ap:∀{v:Value} {s1:AS},aput size o.dst v {zm (T k) with s:=s1}=some (AXs.normal,U k)→(U k).env.get d=(T k).env.get d:=fun {v s1} h=>by
   unfold aput at h
   cases hod:o.dst with
   |none=>rw[hod]at h;injection h with h;injection h with h1 h2;rw[←h2];rfl
   |some d'=>
    rw[hod]at h
    dsimp only at h
    cases hb:Nat.blt d' size with
    |true=>
     rw[hb]at h
     dsimp only at h
     rw[fv_eq]at h
     injection h with h
     injection h with h1 h2
     rw[←h2]
     show (Tr.set _ _ _).get d=_
     rw[Tr.get_set,if_neg (fun e=>hd (by rw[hdo,hod,e]))]
     rfl
    |false=>rw[hb]at h;cases h
  unfold aop1 at h2
  split at h2
  ·split at h2
   ·exact ap h2
   ·exact ap h2
   ·split at h2
    ·exact ap h2
    ·cases h2
    ·cases h2
   ·cases h2
   ·cases h2
   ·cases h2
  ·exact ap (s1:=(zm (T k)).s) h2
 have eframes:∀d u,u≤m→∀t,t≤u→(∀j,t≤j→j<u→dstAts ops j≠some d)→(T u).env.get d=(T t).env.get d:=fun d u=>by
  induction u with
  |zero=>intro _ t ht _;rw[Nat.le_zero.1 ht]
  |succ u ih=>
   intro hu t ht hj
   rcases Nat.lt_or_ge t (u+1) with h1|h1
   ·rw[eframe u d (by omega) (hj u (by omega) (by omega)),ih (by omega) t (by omega) fun j h2 h3=>hj j h2 (by omega)]
   ·rw[show t=u+1 from by omega]
 have mrd:∀b u,u≤m→∀t,t≤u→(T t).s.rd.testBit b=true→(T u).s.rd.testBit b=true:=fun b u=>by
  induction u with
  |zero=>intro _ t ht h1;rw[Nat.le_zero.1 ht]at h1;exact h1
  |succ u ih=>
   intro hu t ht h1
   rcases Nat.lt_or_ge t (u+1) with h2|h2
   ·rw[(hTs u (by omega)).2.2.2.1];exact or_l (ih (by omega) t (by omega) h1)
   ·rw[show t=u+1 from by omega]at h1;exact h1
 have mwr:∀b u,u≤m→∀t,t≤u→(T t).s.wr.testBit b=true→(T u).s.wr.testBit b=true:=fun b u=>by
  induction u with
  |zero=>intro _ t ht h1;rw[Nat.le_zero.1 ht]at h1;exact h1
  |succ u ih=>
   intro hu t ht h1
   rcases Nat.lt_or_ge t (u+1) with h2|h2
   ·rw[(hTs u (by omega)).2.2.2.2];exact or_l (ih (by omega) t (by omega) h1)
   ·rw[show t=u+1 from by omega]at h1;exact h1
 have hEnd:(∀b,(T m).s.rd.testBit b=true→st'.s.rd.testBit b=true)∧(∀b,(T m).s.wr.testBit b=true→st'.s.wr.testBit b=true)∧(T m).s.next≤st'.s.next:=by
  rcases hx with⟨_,_,h3⟩|⟨v,o,bf,_,_,h3,h4,_⟩
  ·rw[h3];exact⟨fun b h=>h,fun b h=>h,Nat.le_refl _⟩
  ·rw[h4];exact⟨fun b h=>or_l h,fun b h=>or_l h,(aop1_grow hc h3).next⟩
 have hdfsT:∀k,k≤m→(T k).dfs=st.dfs:=fun k=>by
  induction k with
  |zero=>intro _;rw[hT0]
  |succ k ih=>
   intro hk
   obtain⟨o,_,h2,h3,_⟩:=K k (by omega)
   rw[h3]
   exact (aop1_dfs h2).trans (ih (by omega))
 have hdfs:st'.dfs=st.dfs:=by
  rcases hx with⟨_,_,h3⟩|⟨v,o,bf,_,_,h3,h4,_⟩
  ·rw[←h3];exact hdfsT m (Nat.le_refl _)
  ·rw[h4];exact (aop1_dfs h3).trans (hdfsT m (Nat.le_refl _))
 have bl:∀{i j:Nat},i<m→befs ops i j=true→j<i:=fun {i j} hi h=>bef_lt hrg (Nat.lt_of_lt_of_le hi hml) h
 have urd:∀k b,k<m→(U k).s.rd.testBit b=true→st'.s.rd.testBit b=true:=fun k b hk h1=>by
  refine hEnd.1 b ?_
  refine mrd b _ (Nat.le_refl _) (k+1) (by omega) ?_
  rw[(hTs k hk).2.2.2.1,Nat.testBit_or,h1,Bool.or_true]
 have uwr:∀k b,k<m→(U k).s.wr.testBit b=true→st'.s.wr.testBit b=true:=fun k b hk h1=>by
  refine hEnd.2.1 b ?_
  refine mwr b _ (Nat.le_refl _) (k+1) (by omega) ?_
  rw[(hTs k hk).2.2.2.2,Nat.testBit_or,h1,Bool.or_true]
 have lt_m:∀k,k<m→st.s.next≤(T k).s.next∧(U k).s.next≤st'.s.next:=fun k hk=>by
  refine⟨by rw[←hT0];exact mono k (by omega) 0 (by omega),Nat.le_trans ?_ hEnd.2.2⟩
  rw[←(hTs k hk).2.1]
  exact mono _ (Nat.le_refl _) (k+1) (by omega)
 have cfl:∀i j b,i<m→j<m→i≠j→(wn (T j) (U j)).testBit b=true→((U i).s.rd.testBit b=true∨(wn (T i) (U i)).testBit b=true)→befs ops i j=true∨befs ops j i=true:=fun i j b hi hj hij h1 h2=>by
  rcases Nat.lt_or_gt_of_ne hij with hl|hl
  ·obtain⟨_,_,_,_,h5⟩:=K j hj
   rcases h5 i hl with h6|⟨h6,h7⟩
   ·exact .inr h6
   ·exfalso
    rcases h2 with h2|h2
    ·exact h7 b h1 h2
    ·exact h6 b h2 (.inr h1)
  ·obtain⟨_,_,_,_,h5⟩:=K i hi
   rcases h5 j hl with h6|⟨h6,h7⟩
   ·exact .inl h6
   ·exact (h6 b h1 h2).elim
 have hdst:∀{i:Nat} {t:Tmp},i<ops.size→dstAts ops i=some t→t<size∧wrOfs ops t=some i:=fun{i t} hi ht=>by
  unfold rgOKs at hrg;simp only[Bool.and_eq_true,List.all_eq_true,List.mem_range]at hrg
  have:=hrg.1.1 i hi;rw[ht]at this;simpa using this
 have hwr:∀{t:Tmp} {j:Nat},wrOfs ops t=some j→j<ops.size∧dstAts ops j=some t:=fun{t j} h=>by
  unfold wrOfs at h;have h1:=List.find?_some h;have h2:=List.mem_of_find?_eq_some h;simp at h1 h2;exact⟨h2,h1⟩
 have hlook:∀{i:Nat} {o:Oper} {t:Tmp} {j:Nat},i<ops.size→ops[i]? =some o→t∈o.looksAt ops→wrOfs ops t=some j→befs ops i j=true∨befs ops j i=true:=fun{i o t j} hi ho ht hj=>by
  unfold rgOKs at hrg;simp only[Bool.and_eq_true,List.all_eq_true,List.mem_range]at hrg
  have h2:=hrg.1.2 i hi
  rw[ho]at h2
  simp only[Option.map_some,Option.all_some,List.all_eq_true]at h2
  have h3:=h2 t ht
  rw[hj]at h3
  simpa using h3
 refine wpIn_region_L hm (by rw[hs.size];exact hrg) (fun L vs W1=>∃ρ',DJ P n0 ops m T U ρ st st' W L vs W1 ρ') ?_ ?_ ?_
 ·refine⟨ρ,fun j h _=>(by cases h),PLe.refl _,⟨hp.inj.inj,hp.inj.lt⟩,fun b h1 h2=>absurd h1 h2,fun b x h1 h2=>(by rw[h1]at h2;cases h2),fun b hb=>⟨0,Nat.zero_le _,fun j _ h=>(by cases h),fun j _ _ _=>Nat.zero_le _,?_⟩,fun j o d _ h=>(by cases h),fun _ _ _=>rfl,Nat.le_refl _,rfl,rfl,rfl,fun b x h1 h2 _=>(by rw[h1]at h2;cases h2)⟩
  rw[hT0]
  rcases hb with hb|hb
  ·exact hp.wr b hb
  ·exact .inl (hp.fresh b hb.1 hb.2)
 ·rintro i o ho L a1 W1 vs hLi hbf hnb⟨ρ',J⟩ hsz hdf hsl
  have hio:i<ops.size:=(Array.getElem?_eq_some_iff.1 ho).1
  have him:i≤m:=by
   refine Classical.byContradiction fun hn=>?_
   rcases hx with⟨_,h2,_⟩|⟨v,o2,bf,_,h2,_,_,_,_,h7⟩
   ·omega
   ·obtain⟨o3,b3,hz⟩:=zat i hio
    have h8:=h7 i o3 b3 (by omega) hz
    have h9:=(zip_get hz).2 (0+m)
    rw[h8,Nat.zero_add]at h9
    have:=J.lt m (hbf m h9) (by omega)
    omega
  have hsl':∀t∈o.looksAt ops,VR ρ' (((zm (T i)).env.get t).getD undef) (a1.tmps.getD t undef):=fun t ht=>by
   rw[hsl t ht]
   show VR ρ' (((T i).env.get t).getD undef) _
   unfold slotOfs
   cases hw:wrOfs ops t with
   |none=>
    have:(T i).env.get t=(T 0).env.get t:=eframes t i (by omega) 0 (by omega) fun j _ hj hd=>by
     have:=(hdst (by omega) hd).2
     rw[hw]at this;cases this
    dsimp only
    rw[this,hT0]
    exact (hs.env t).mono J.le
   |some j=>
    obtain⟨hj,hdj⟩:=hwr hw
    dsimp only
    cases hb:befs ops i j with
    |true=>
     rw[if_pos rfl]
     have hji:=bef_lt hrg hio hb
     have:(T i).env.get t=(T (j+1)).env.get t:=eframes t i (by omega) (j+1) (by omega) fun k hk1 hk2 hd=>by
      have:=(hdst (by omega) hd).2
      rw[hw]at this;cases this;omega
     rw[this]
     obtain⟨oj,hoj,_⟩:=K j (by omega)
     exact J.vals j oj t (by omega) (hbf j hb) hoj (by simpa [dstAts,hoj] using hdj)
    |false=>
     rw[if_neg (by simp)]
     have h2:=(hlook hio ho ht hw).resolve_left (by rw[hb];simp)
     have hij:=bef_lt hrg hj h2
     have:(T i).env.get t=(T 0).env.get t:=eframes t i (by omega) 0 (by omega) fun k _ hk hd=>by
      have:=(hdst (by omega) hd).2
      rw[hw]at this;cases this;omega
     rw[this,hT0]
     exact (hs.env t).mono J.le
  have hgu:∀j w t,o.guard=some (j,w)→(ops[j]?).bind (·.dst)=some t→VR ρ' (((zm (T i)).env.get t).getD undef) (a1.tmps.getD t undef):=fun j w t hg hd=>by
   refine hsl' t ?_
   unfold Oper.looksAt
   rw[hg]
   refine List.mem_append_right _ ?_
   show t∈((ops[j]?).bind (·.dst)).toList
   rw[hd];simp
  have hvu:OpV n0 ρ' (zm (T i)).env a1 o:=fun y hy hok=>by
   cases y with
   |tmp t=>exact hsl' t (List.mem_append_left _ (List.mem_filterMap.2 ⟨.tmp t,by simpa using hy,rfl⟩))
   |const v=>exact flat_VR hok
   |global g=>exact .ptr (AR.mk ((hp.gb.mono J.le) g (Nat.le_of_ble_eq_true hok)) rfl rfl)
   |func f=>exact flat_VR rfl
  have hdu:DfR P ρ' (zm (T i)).dfs a1.defers:=by
   show DfR P ρ' (T i).dfs a1.defers
   rw[hdfsT i him,hdf]
   exact hs.defers.mono J.le
  rcases Nat.lt_or_eq_of_le him with hi|him2
  ·obtain⟨o',ho',hstep,_,_⟩:=K i hi
   rw[ho]at ho';cases ho'
   have hiM:∀b,(U i).s.tch b→st'.s.tch b:=fun b hb=>hb.imp (urd i b hi) (uwr i b hi)
   have hMi:∀b,((T i).s.next≤b∧b<(U i).s.next)→(st.s.next≤b∧b<st'.s.next):=fun b hb=>⟨Nat.le_trans (lt_m i hi).1 hb.1,Nat.lt_of_lt_of_le hb.2 (lt_m i hi).2⟩
   have hnow:∀b t,t≤m→((U i).s.rd.testBit b=true∨(wn (T i) (U i)).testBit b=true)→(∀j,j<m→L j=true→(wn (T j) (U j)).testBit b=true→j<t)→(∀j,j<m→L j=false→(wn (T j) (U j)).testBit b=true→t≤j)→(T t).s.heap.get b=(T i).s.heap.get b:=fun b t ht hb h1 h2=>by
    rcases Nat.lt_or_ge i t with hit|hit
    ·refine frames b t ht i (by omega) fun j hj1 hj2=>?_
     cases e:(wn (T j) (U j)).testBit b with
     |false=>rfl
     |true=>
      exfalso
      rcases Nat.lt_or_eq_of_le hj1 with hj1|hj1
      ·rcases cfl i j b hi (by omega) (by omega) e hb with h3|h3
       ·have:=bl hi h3;omega
       ·have:=h2 j (by omega) (hnb j h3) e;omega
      ·subst hj1
       have:=h2 i hi hLi e;omega
    ·refine (frames b i (by omega) t (by omega) fun j hj1 hj2=>?_).symm
     cases e:(wn (T j) (U j)).testBit b with
     |false=>rfl
     |true=>
      exfalso
      rcases cfl i j b hi (by omega) (by omega) e hb with h3|h3
      ·have:=h1 j (by omega) (hbf j h3) e;omega
      ·have:=bl (i:=j) (by omega) h3;omega
   have hpre:Pre P n0 ρ' (zm (T i)).s (U i).s W1:=by
    refine⟨hp.gb.mono J.le,J.inj,fun b hb=>?_,fun b h1 h2=>?_⟩
    ·obtain⟨t,ht,h1,h2,h3⟩:=J.cont b (.inl (hiM b hb))
     have he:=hnow b t ht (hb.imp (fun h=>h) fun h=>wnt i b hi (.inl h)) h1 h2
     rw[he]at h3
     exact h3
    ·refine Classical.byContradiction fun h3=>?_
     have h0:=hp.fresh b (hMi b ⟨h1,h2⟩).1 (hMi b ⟨h1,h2⟩).2
     obtain⟨j,hj,hLj,h4,h5⟩:=J.dom b h0 h3
     have h1:(T i).s.next≤b:=h1
     rcases Nat.lt_trichotomy j i with h6|h6|h6
     ·have:=mono i (by omega) (j+1) (by omega);omega
     ·subst h6;rw[hLi]at hLj;cases hLj
     ·have:=mono j (by omega) (i+1) (by omega)
      rw[(hTs i hi).2.1]at this;omega
   refine aop1_sound hc (fun h=>by cases h) hstep ho hgu hvu hdu hpre (fun ρ2 W2 v v' sx a2 hap he ht hsame hd2 hv hpost=>⟨v',by rw[hsame rfl],ρ2,?_⟩) (fun v e=>by cases e)
   ·have hL':∀j,(decide (j=i)||L j)=true→j≠i→L j=true:=fun j hj hn=>by simpa [hn] using hj
    have hLf:∀j,(decide (j=i)||L j)=false→j≠i∧L j=false:=fun j hj=>by
     rw[Bool.or_eq_false_iff,decide_eq_false_iff_not]at hj;exact hj
    refine⟨fun j hj hjo=>?_,J.le.trans hpost.le,hpost.inj,fun b h1 h2=>?_,fun b y h1 h2=>?_,fun b hb=>?_,fun j oj d hj hLj hoj hd=>?_,fun y hy hb=>?_,Nat.le_trans J.sz hpost.sz,hpost.os.trans J.os,hpost.tape.trans J.tape,hpost.out.trans J.out,fun b y h1 h2 h3=>?_⟩
    ·by_cases e:j=i
     ·omega
     ·exact J.lt j (hL' j hj e) hjo
    ·by_cases e:ρ' b= .abs
     ·obtain⟨h3,h4⟩:=hpost.dom b e h2
      exact⟨i,hi,by simp,h3,by rw[(hTs i hi).2.1];exact h4⟩
     ·obtain⟨j,hj,hLj,h3⟩:=J.dom b h1 e
      exact⟨j,hj,by simp [hLj],h3⟩
    ·rcases J.le.at_ b with k|⟨k,_⟩|⟨z,k,k2|k2⟩
     ·rw[h1]at k;cases k
     ·rw[h1]at k;cases k
     ·rw[h1]at k;cases k
      exact uwr i b hi (hpost.kill b y k2 h2)
     ·exact J.kill b y h1 k2
    ·obtain⟨t,ht,h1,h2,h3⟩:=J.cont b hb
     by_cases htc:(U i).s.tch b∨((T i).s.next≤b∧b<(U i).s.next)
     ·have hst:=hpost.wr b htc
      have hst:ρ2 b= .abs∨(ρ2 b= .dead∧(T (i+1)).s.heap.get b=none)∨∃x o o',ρ2 b= .live x∧(T (i+1)).s.heap.get b=some o∧W2.heap[x]? =some o'∧OR ρ2 o o'∧ρ2.cap b=ocap P o':=by
       rw[(hTs i hi).1];exact hst
      cases hw:(wn (T i) (U i)).testBit b with
      |true=>
       refine⟨i+1,by omega,fun j hj hLj hwj=>?_,fun j hj hLj hwj=>?_,hst⟩
       ·by_cases e:j=i
        ·omega
        ·have hLj:=hL' j hLj e
         rcases cfl i j b hi hj (Ne.symm e) hwj (.inr hw) with h4|h4
         ·have:=bl hi h4;omega
         ·rw[hnb j h4]at hLj;cases hLj
       ·obtain⟨e,hLj⟩:=hLf j hLj
        rcases cfl i j b hi hj (Ne.symm e) hwj (.inr hw) with h4|h4
        ·rw[hbf j h4]at hLj;cases hLj
        ·have:=bl hj h4;omega
      |false=>
       have hrd:(U i).s.rd.testBit b=true:=by
        have:=(wnw i b hi hw)
        rcases htc with (h4|h4)|h4
        ·exact h4
        ·rw[this.1]at h4;cases h4
        ·omega
       have he:=hnow b t ht (.inl hrd) h1 h2
       rw[frame i b hi hw,←he]at hst
       refine⟨t,ht,fun j hj hLj hwj=>?_,fun j hj hLj hwj=>h2 j hj (hLf j hLj).2 hwj,hst⟩
       by_cases e:j=i
       ·subst e;rw[hw]at hwj;cases hwj
       ·exact h1 j hj (hL' j hLj e) hwj
     ·have hwf:(U i).s.wr.testBit b=false:=by
       cases e:(U i).s.wr.testBit b with
       |false=>rfl
       |true=>exact absurd (.inl (.inr e)) htc
      have hw:(wn (T i) (U i)).testBit b=false:=by
       cases e:(wn (T i) (U i)).testBit b with
       |false=>rfl
       |true=>
        unfold wn at e
        rw[Nat.testBit_or,rng_test,hwf,Bool.false_or,Bool.and_eq_true,decide_eq_true_eq,decide_eq_true_eq]at e
        exact absurd (.inr e) htc
      refine⟨t,ht,fun j hj hLj hwj=>?_,fun j hj hLj hwj=>h2 j hj (hLf j hLj).2 hwj,?_⟩
      ·by_cases e:j=i
       ·subst e;rw[hw]at hwj;cases hwj
       ·exact h1 j hj (hL' j hLj e) hwj
      ·rcases h3 with h3|⟨h3,h4⟩|⟨y,p,p',h3,h4,h5,h6,h7⟩
       ·refine .inl (Classical.byContradiction fun h4=>?_)
        exact htc (.inr (hpost.dom b h3 h4))
       ·refine .inr (.inl ⟨?_,h4⟩)
        rcases hpost.le.at_ b with k|⟨_,k⟩|⟨z,k,_⟩
        ·rw[h3]at k;cases k
        ·exact k
        ·rw[h3]at k;cases k
       ·obtain⟨k1,k2⟩:=hpost.keepW J.inj h3 hwf
        exact .inr (.inr ⟨y,p,p',k1,h4,k2.trans h5,h6.mono hpost.le,(hpost.le.cap b (by rw[h3];intro e;cases e)).trans h7⟩)
    ·by_cases e:j=i
     ·subst e
      rw[ho]at hoj;cases hoj
      simp only[if_true]
      rw[(hTs j hi).2.2.1]
      unfold aput at hap
      rw[hd]at hap
      dsimp only at hap
      cases hb:Nat.blt d size with
      |true=>
       rw[hb]at hap
       dsimp only at hap
       rw[fv_eq]at hap
       injection hap with hap
       injection hap with _ hap
       rw[←hap]
       show VR ρ2 (((Tr.set _ d (some v)).get d).getD undef) v'
       rw[Tr.get_set,if_pos rfl]
       exact hv
      |false=>rw[hb]at hap;cases hap
     ·simp only[if_neg e]
      exact (J.vals j oj d hj (hL' j hLj e) hoj hd).mono hpost.le
    ·rw[hpost.fr y (Nat.lt_of_lt_of_le hy J.sz) fun b h1=>?_]
     ·exact J.fr y hy hb
     ·cases e:(U i).s.wr.testBit b with
      |false=>rfl
      |true=>
       have he:=uwr i b hi e
       rcases J.le.at_ b with k|⟨k,k2⟩|⟨z,k,k2|k2⟩
       ·obtain⟨b0,k3,k4⟩:=J.own b y k h1 hy
        rw[hb b0 k3]at k4;cases k4
       ·rw[k2]at h1;cases h1
       ·rw[k2]at h1;cases h1
        rw[hb b k]at he;cases he
       ·rw[k2]at h1;cases h1
    ·rcases hpost.le.at_ b with k|⟨k,k2⟩|⟨z,k,k2|k2⟩
     ·obtain⟨b1,k3,k4⟩:=hpost.own b y k h2 (Nat.lt_of_lt_of_le h3 J.sz)
      rcases J.le.at_ b1 with j|⟨j,j2⟩|⟨z,j,j2|j2⟩
      ·exact J.own b1 y j k3 h3
      ·rw[j2]at k3;cases k3
      ·rw[j2]at k3;cases k3;exact⟨b1,j,uwr i b1 hi k4⟩
      ·rw[j2]at k3;cases k3
     ·rw[k2]at h2;cases h2
     ·rw[k2]at h2;cases h2;exact J.own b y h1 k h3
     ·rw[k2]at h2;cases h2
  ·subst him2
   rcases hx with⟨_,h2,_⟩|⟨v,o2,bf,hxv,h2,hstep,hst',_,h6,_⟩
   ·omega
   obtain⟨ho2,hbz⟩:=zip_get h2
   rw[ho]at ho2;cases ho2
   have Gi:=aop1_grow hc hstep
   have hw0:∀j b,j<i→L j=false→(wn (T j) (U j)).testBit b=false:=fun j b hj hL=>by
    rcases h6 j hj with h|h
    ·rw[Nat.zero_add]at h
     have:=hbf j (by rw[hbz];exact h)
     rw[hL]at this;cases this
    ·rw[h];simp
   have hnow:∀b t,t≤i→(∀j,j<i→L j=true→(wn (T j) (U j)).testBit b=true→j<t)→(T t).s.heap.get b=(T i).s.heap.get b:=fun b t ht h1=>by
    refine (frames b i (Nat.le_refl _) t ht fun j hj1 hj2=>?_).symm
    cases e:(wn (T j) (U j)).testBit b with
    |false=>rfl
    |true=>
     cases eL:L j with
     |true=>have:=h1 j hj2 eL e;omega
     |false=>rw[hw0 j b hj2 eL]at e;cases e
   have hrd':∀b,(U i).s.rd.testBit b=true→st'.s.rd.testBit b=true:=fun b hb=>by
    rw[hst'];show ((T i).s.rd|||(U i).s.rd).testBit b=true
    rw[Nat.testBit_or,hb,Bool.or_true]
   have hwr':∀b,(U i).s.wr.testBit b=true→st'.s.wr.testBit b=true:=fun b hb=>by
    rw[hst'];show ((T i).s.wr|||(U i).s.wr).testBit b=true
    rw[Nat.testBit_or,hb,Bool.or_true]
   have hnx0:st.s.next≤(T i).s.next:=by rw[←hT0];exact mono i (Nat.le_refl _) 0 (by omega)
   have hnx1:st'.s.next=(U i).s.next:=by rw[hst'];rfl
   have hhp:st'.s.heap=(U i).s.heap:=by rw[hst'];rfl
   have hpre:Pre P n0 ρ' (zm (T i)).s (U i).s W1:=by
    refine⟨hp.gb.mono J.le,J.inj,fun b hb=>?_,fun b h1 h2=>?_⟩
    ·obtain⟨t,ht,h1,h2,h3⟩:=J.cont b (.inl (hb.imp (hrd' b) (hwr' b)))
     rw[hnow b t ht h1]at h3
     exact h3
    ·refine Classical.byContradiction fun h3=>?_
     have h1:(T i).s.next≤b:=h1
     have h0:=hp.fresh b (by omega) (by omega)
     obtain⟨j,hj,hLj,h4,h5⟩:=J.dom b h0 h3
     have:=mono i (Nat.le_refl _) (j+1) (by omega);omega
   refine aop1_sound hc (fun h=>by cases h) hstep ho hgu hvu hdu hpre (fun ρ2 W2 v v' sx a2 hap=>by have:=(aput_s hap).2.2;cases this) (fun v2 e ρ2 W2 v' hdd hv hpost=>?_)
   cases e
   refine hP v hxv ρ2 a1 W2 v' (by rw[hdfs,hdf];exact hs.defers.mono (J.le.trans hpost.le)) hv ?_
   refine⟨J.le.trans hpost.le,fun b h1 h2=>?_,fun b y h1 h2=>?_,hpost.inj,fun b hb=>?_,fun y hy hb=>?_,Nat.le_trans J.sz hpost.sz,hpost.os.trans J.os,hpost.tape.trans J.tape,hpost.out.trans J.out,fun b y h1 h2 h3=>?_⟩
   ·by_cases e:ρ' b= .abs
    ·obtain⟨h3,h4⟩:=hpost.dom b e h2
     have h3:(T i).s.next≤b:=h3
     omega
    ·obtain⟨j,hj,hLj,h3,h4⟩:=J.dom b h1 e
     have h5:=lt_m j hj
     rw[(hTs j hj).2.1]at h4
     omega
   ·rcases J.le.at_ b with k|⟨k,_⟩|⟨z,k,k2|k2⟩
    ·rw[h1]at k;cases k
    ·rw[h1]at k;cases k
    ·rw[h1]at k;cases k
     exact hwr' b (hpost.kill b y k2 h2)
    ·exact J.kill b y h1 k2
   ·rw[hhp]
    by_cases htc:(U i).s.tch b∨((T i).s.next≤b∧b<(U i).s.next)
    ·exact hpost.wr b htc
    ·obtain⟨t,ht,h1,h2,h3⟩:=J.cont b hb
     rw[hnow b t ht h1]at h3
     have hwf:(U i).s.wr.testBit b=false:=by
      cases e:(U i).s.wr.testBit b with
      |false=>rfl
      |true=>exact absurd (.inl (.inr e)) htc
     have hsame:(U i).s.heap.get b=(T i).s.heap.get b:=Gi.same b hwf (by
      show b<(T i).s.next∨(U i).s.next≤b
      by_cases h4:b<(T i).s.next
      ·exact .inl h4
      ·exact .inr (Nat.le_of_not_lt fun h5=>htc (.inr ⟨by omega,h5⟩)))
     rw[hsame]
     rcases h3 with h3|⟨h3,h4⟩|⟨y,p,p',h3,h4,h5,h6,h7⟩
     ·refine .inl (Classical.byContradiction fun h4=>?_)
      exact htc (.inr (hpost.dom b h3 h4))
     ·refine .inr (.inl ⟨?_,h4⟩)
      rcases hpost.le.at_ b with k|⟨_,k⟩|⟨z,k,_⟩
      ·rw[h3]at k;cases k
      ·exact k
      ·rw[h3]at k;cases k
     ·obtain⟨k1,k2⟩:=hpost.keepW J.inj h3 hwf
      exact .inr (.inr ⟨y,p,p',k1,h4,k2.trans h5,h6.mono hpost.le,(hpost.le.cap b (by rw[h3];intro e;cases e)).trans h7⟩)
   ·rw[hpost.fr y (Nat.lt_of_lt_of_le hy J.sz) fun b h1=>?_]
    ·exact J.fr y hy hb
    ·cases e:(U i).s.wr.testBit b with
     |false=>rfl
     |true=>
      have he:=hwr' b e
      rcases J.le.at_ b with k|⟨k,k2⟩|⟨z,k,k2|k2⟩
      ·obtain⟨b0,k3,k4⟩:=J.own b y k h1 hy
       rw[hb b0 k3]at k4;cases k4
      ·rw[k2]at h1;cases h1
      ·rw[k2]at h1;cases h1
       rw[hb b k]at he;cases he
      ·rw[k2]at h1;cases h1
   ·rcases hpost.le.at_ b with k|⟨k,k2⟩|⟨z,k,k2|k2⟩
    ·obtain⟨b1,k3,k4⟩:=hpost.own b y k h2 (Nat.lt_of_lt_of_le h3 J.sz)
     rcases J.le.at_ b1 with j|⟨j,j2⟩|⟨z,j,j2|j2⟩
     ·exact J.own b1 y j k3 h3
     ·rw[j2]at k3;cases k3
     ·rw[j2]at k3;cases k3;exact⟨b1,j,hwr' b1 k4⟩
     ·rw[j2]at k3;cases k3
    ·rw[k2]at h2;cases h2
    ·rw[k2]at h2;cases h2;exact J.own b y h1 k h3
    ·rw[k2]at h2;cases h2
 ·rintro L vs W1 hall⟨ρ',J⟩
  have hxm:x= .normal∧T m=st'∧m=ops.size:=by
   rcases hx with⟨h1,h2,h3⟩|⟨v,o2,bf,_,h2,_⟩
   ·rw[hlen]at h2;exact⟨h1,h3,h2⟩
   ·have:m<ops.size:=by
     have:=(List.getElem?_eq_some_iff.1 h2).1
     rw[hlen]at this;exact this
    have:=J.lt m (hall m this) this
    omega
  obtain⟨hxn,hTm,hmo⟩:=hxm
  rw[hmo]at hTm
  refine hN hxn ρ' _ W1 ⟨fun t=>?_,by simp [hs.size],by rw[hdfs];exact hs.defers.mono J.le⟩ ⟨J.le,fun b h1 h2=>?_,J.kill,J.inj,fun b hb=>?_,J.fr,J.sz,J.os,J.tape,J.out,J.own⟩
  ·dsimp only
   by_cases ht:t<size
   ·have:((List.range a.tmps.size).map (slotOfs ops a vs fun _=>true)).toArray.getD t undef=slotOfs ops a vs (fun _=>true) t:=by
     rw[Array.getD_eq_getD_getElem?,List.getElem?_toArray,List.getElem?_map,List.getElem?_range (by rw[hs.size];exact ht)]
     rfl
    rw[this]
    unfold slotOfs
    cases hw:wrOfs ops t with
    |none=>
     have:(T ops.size).env.get t=(T 0).env.get t:=eframes t ops.size (by omega) 0 (by omega) fun j _ hj hd=>by
      have:=(hdst (by omega) hd).2
      rw[hw]at this;cases this
     dsimp only
     rw[←hTm,this,hT0]
     exact (hs.env t).mono J.le
    |some j=>
     obtain⟨hj,hdj⟩:=hwr hw
     dsimp only
     rw[if_pos rfl]
     have:(T ops.size).env.get t=(T (j+1)).env.get t:=eframes t ops.size (by omega) (j+1) (by omega) fun k hk1 hk2 hd=>by
      have:=(hdst (by omega) hd).2
      rw[hw]at this;cases this;omega
     rw[←hTm,this]
     obtain⟨oj,hoj,_⟩:=K j (by omega)
     exact J.vals j oj t (by omega) (hall j hj) hoj (by simpa [dstAts,hoj] using hdj)
   ·have:((List.range a.tmps.size).map (slotOfs ops a vs fun _=>true)).toArray.getD t undef=undef:=by
     rw[Array.getD_eq_getD_getElem?,Array.getElem?_eq_none (by simp [hs.size];omega)]
     rfl
    rw[this]
    have h2:(T ops.size).env.get t=(T 0).env.get t:=eframes t ops.size (by omega) 0 (by omega) fun j _ hj hd=>by
     exact ht (hdst hj hd).1
    rw[←hTm,h2,hT0]
    have h3:=(hs.env t).mono J.le
    rwa[Array.getD_eq_getD_getElem?,Array.getElem?_eq_none (by rw[hs.size];omega)]at h3
  ·obtain⟨j,hj,_,h3,h4⟩:=J.dom b h1 h2
   have h5:=lt_m j hj
   rw[(hTs j hj).2.1]at h4
   omega
  ·obtain⟨t,ht,h1,h2,h3⟩:=J.cont b hb
   have:(T ops.size).s.heap.get b=(T t).s.heap.get b:=frames b ops.size (by omega) t (by omega) fun j hj1 hj2=>by
    cases e:(wn (T j) (U j)).testBit b with
    |false=>rfl
    |true=>have:=h1 j (by omega) (hall j hj2) e;omega
   rw[←this,hTm]at h3
   exact h3
end
end Go.Proofs.YtngglbakkedaiaaGreatDoor
