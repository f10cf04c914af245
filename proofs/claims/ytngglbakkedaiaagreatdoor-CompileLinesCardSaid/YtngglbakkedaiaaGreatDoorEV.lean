import Derived.Test.YtngglbakkedaiaaGreatDoorER
set_option linter.all false
namespace Go.Proofs.YtngglbakkedaiaaGreatDoor
section
section
variable {P:Program} {n0:Nat} {ρ ρ1 ρ2:PM} {s s1 s2:AS} {W W1 W2:World}
theorem Grow.tch (h:Grow s s1) {b:Nat} (k:s.tch b):s1.tch b:=k.imp (h.rd b) (h.wr b)
theorem Grow.nwr (h:Grow s s1) {b:Nat} (k:s1.wr.testBit b=false):s.wr.testBit b=false:=by
 cases e:s.wr.testBit b with
 |false=>rfl
 |true=>rw[h.wr b e]at k;cases k
theorem Pre.less (h:Pre P n0 ρ s s2 W) (g:Grow s1 s2):Pre P n0 ρ s s1 W:=⟨h.gb,h.inj,fun b hb=>h.wr b (g.tch hb),fun b h1 h2=>h.fresh b h1 (Nat.lt_of_lt_of_le h2 g.next)⟩
theorem Pre.after (h:Pre P n0 ρ s s2 W) (hp:Post P ρ s s1 W ρ1 W1) (g:Grow s s1) (g2:Grow s1 s2):Pre P n0 ρ1 s1 s2 W1:=by
 refine⟨h.gb.mono hp.le,hp.inj,fun b hb=>?_,fun b h1 h2=>?_⟩
 ·by_cases ht:s1.tch b∨(s.next≤b∧b<s1.next)
  ·exact hp.wr b ht
  ·have hn:b<s.next∨s1.next≤b:=by
    by_cases h3:b<s.next
    ·exact .inl h3
    ·exact .inr (Nat.le_of_not_lt fun h4=>ht (.inr ⟨by omega,h4⟩))
   have hw:s1.wr.testBit b=false:=by
    cases e:s1.wr.testBit b with
    |false=>rfl
    |true=>exact absurd (.inl (.inr e)) ht
   rcases h.wr b hb with k|⟨k,k2⟩|⟨x,o,o',k1,k2,k3,k4,k5⟩
   ·refine .inl (Classical.byContradiction fun h3=>?_)
    have:=hp.dom b k h3
    exact ht (.inr this)
   ·refine .inr (.inl ⟨?_,(g.same b hw hn).trans k2⟩)
    rcases hp.le.at_ b with j|⟨_,j⟩|⟨y,j,_⟩
    ·rw[k]at j;cases j
    ·exact j
    ·rw[k]at j;cases j
   ·exact .inr (.inr ⟨x,o,o',hp.keep h.inj g k1 hw hn k2 k3 k4 k5⟩)
 ·have h0:=h.fresh b (Nat.le_trans g.next h1) h2
  refine Classical.byContradiction fun h3=>?_
  have:=hp.dom b h0 h3
  omega
theorem Post.trans (hI:Inj ρ W) (g:Grow s s1) (g2:Grow s1 s2) (h:Post P ρ s s1 W ρ1 W1) (k:Post P ρ1 s1 s2 W1 ρ2 W2):Post P ρ s s2 W ρ2 W2:=by
 refine⟨h.le.trans k.le,fun b h1 h2=>?_,fun b x h1 h2=>?_,k.inj,fun b hb=>?_,fun x hx hb=>?_,Nat.le_trans h.sz k.sz,k.os.trans h.os,k.tape.trans h.tape,k.out.trans h.out,fun b x h1 h2 h3=>?_⟩
 ·by_cases e:ρ1 b= .abs
  ·have:=k.dom b e h2;have:=g.next;omega
  ·have:=h.dom b h1 e;have:=g2.next;omega
 ·rcases h.le.at_ b with j|⟨j,_⟩|⟨y,j,j2|j2⟩
  ·rw[h1]at j;cases j
  ·rw[h1]at j;cases j
  ·rw[h1]at j;cases j;exact k.kill b x j2 h2
  ·exact g2.wr b (h.kill b x h1 j2)
 ·by_cases h2:s2.tch b∨(s1.next≤b∧b<s2.next)
  ·exact k.wr b h2
  ·have hb':s.next≤b∧b<s1.next:=by
    rcases hb with hb|hb
    ·exact absurd (.inl hb) h2
    ·exact⟨hb.1,Nat.lt_of_not_le fun h3=>h2 (.inr ⟨h3,hb.2⟩)⟩
   have hw:s2.wr.testBit b=false:=by
    cases e:s2.wr.testBit b with
    |false=>rfl
    |true=>exact absurd (.inl (.inr e)) h2
   rcases h.wr b (.inr hb') with j|⟨j,j2⟩|⟨x,o,o',j1,j2,j3,j4,j5⟩
   ·refine .inl (Classical.byContradiction fun h3=>?_)
    have:=k.dom b j h3
    omega
   ·refine .inr (.inl ⟨?_,(g2.same b hw (.inl hb'.2)).trans j2⟩)
    rcases k.le.at_ b with i|⟨_,i⟩|⟨y,i,_⟩
    ·rw[j]at i;cases i
    ·exact i
    ·rw[j]at i;cases i
   ·exact .inr (.inr ⟨x,o,o',k.keep h.inj g2 j1 hw (.inl hb'.2) j2 j3 j4 j5⟩)
 ·rw[k.fr x (Nat.lt_of_lt_of_le hx h.sz) fun b h1=>?_]
  ·exact h.fr x hx fun b h1=>g2.nwr (hb b h1)
  ·rcases h.le.at_ b with j|⟨j,j2⟩|⟨y,j,j2|j2⟩
   ·obtain⟨b0,i1,i2⟩:=h.own b x j h1 hx
    have:=hb b0 i1
    rw[g2.wr b0 i2]at this;cases this
   ·rw[j2]at h1;cases h1
   ·rw[j2]at h1;cases h1;exact hb b j
   ·rw[j2]at h1;cases h1
 ·rcases k.le.at_ b with j|⟨j,j2⟩|⟨y,j,j2|j2⟩
  ·obtain⟨b1,i1,i2⟩:=k.own b x j h2 (Nat.lt_of_lt_of_le h3 h.sz)
   rcases h.le.at_ b1 with i|⟨i,i3⟩|⟨y,i,i3|i3⟩
   ·obtain⟨b0,m1,m2⟩:=h.own b1 x i i1 h3
    exact⟨b0,m1,g2.wr b0 m2⟩
   ·rw[i3]at i1;cases i1
   ·rw[i3]at i1;cases i1;exact⟨b1,i,i2⟩
   ·rw[i3]at i1;cases i1
  ·rw[j2]at h2;cases h2
  ·rw[j2]at h2;cases h2
   obtain⟨b0,m1,m2⟩:=h.own b x h1 j h3
   exact⟨b0,m1,g2.wr b0 m2⟩
  ·rw[j2]at h2;cases h2
end
def RetR (ρ:PM) (r:CO) (e:Ending):Prop:=match r with
 |.ret v=>∃v',e= .returned v'∧VR ρ v v'
 |.panic v=>∃v',e= .panicked [{v:=v',recovered:=false}]∧VR ρ v v'
def fw (rd:Option Nat):Fence:={Fence.wide with round:=rd}
structure CallOK (P:Program) (n0:Nat) (call:ACall):Prop where
 grow:∀f args s r s',call f args s=some (r,s')→Grow s s'
 ok:∀f args s r s' ρ W args' n,call (.func f) args s=some (r,s')→AV ρ args args'→Pre P n0 ρ s s' W→CallsIn Fence.wide n P f args' W fun e W'=>∃ρ',Post P ρ s s' W ρ' W'∧RetR ρ' r e
 rnd:∀l l' args s r s' ρ W args',call (.yield l) args s=some (r,s')→BR ρ l l'→AV ρ args args'→Pre P n0 ρ s s' W→∃f tmps asg body,(Instr.yield l' args').run P W= .ok (.round l' f tmps asg body) W∧∀(rd:Option Nat) (n:Nat),RoundIn (fw rd) n P l' f tmps asg body W fun e W'=>∃ρ',Post P ρ s s' W ρ' W'∧RetR ρ' r e
def DR1 (P:Program) (ρ:PM):ADef→Deferred→Prop
 |.mark D,d=>∃D',d={target:= .collected D',args:=#[]}∧BR ρ D D'
 |.fn f args,d=>PutOff P ρ f args d
inductive DfR (P:Program) (ρ:PM):List ADef→List Deferred→Prop
 |nil:DfR P ρ [] []
 |cons {x d l l'} (h:DR1 P ρ x d) (t:DfR P ρ l l'):DfR P ρ (x::l) (d::l')
theorem DfR.mono {P:Program} {ρ ρ':PM} (hl:PLe ρ ρ') {l:List ADef} {l':List Deferred} (h:DfR P ρ l l'):DfR P ρ' l l':=by
 induction h with
 |nil=>exact .nil
 |cons h _ ih=>
  rename_i x d _ _ _
  refine .cons ?_ ih
  cases x with
  |mark D=>obtain⟨D',e,hb⟩:=h;exact⟨D',e,hb.mono hl⟩
  |fn f args=>exact PutOff.mono hl h
structure StR (P:Program) (size:Nat) (ρ:PM) (env:Tr Value) (dfs:List ADef) (a:Act):Prop where
 env:EnvR ρ env a.tmps
 size:a.tmps.size=size
 defers:DfR P ρ dfs a.defers
theorem StR.mono {P:Program} {size:Nat} {ρ ρ':PM} {env:Tr Value} {dfs:List ADef} {a:Act} (h:StR P size ρ env dfs a) (hl:PLe ρ ρ'):StR P size ρ' env dfs a:=⟨h.env.mono hl,h.size,h.defers.mono hl⟩
section
variable {P:Program} {n0:Nat} {ρ:PM} {size:Nat} {a:Act} {ops:Array Oper} {o:Oper}
theorem yld_eq {env:Tr Value} {j:Nat} (h:∀t,(ops[j]?).bind (·.dst)=some t→VR ρ ((env.get t).getD undef) (a.tmps.getD t undef)):yielded ops a.tmps j=yld ops env j:=by
 unfold yielded yld
 cases hd:(ops[j]?).bind (·.dst) with
 |none=>rfl
 |some t=>
  have ht:=h t hd
  simp only[Option.bind_some]
  rw[Array.getD_eq_getD_getElem?]at ht
  cases hg:env.get t with
  |none=>
   rw[hg]at ht
   cases hr:a.tmps[t]? with
   |none=>rfl
   |some v=>
    rw[hr]at ht
    simp only[Option.getD_some,Option.getD_none]at ht
    unfold undef at ht
    cases ht
    rfl
  |some u=>
   rw[hg]at ht
   simp only[Option.getD_some]at ht
   cases hr:a.tmps[t]? with
   |none=>
    rw[hr]at ht
    simp only[Option.getD_none]at ht
    unfold undef at ht
    cases ht
    rfl
   |some v=>
    rw[hr]at ht
    simp only[Option.getD_some]at ht
    cases ht<;>rfl
theorem wnt_eq {env:Tr Value} (h:∀j w t,o.guard=some (j,w)→(ops[j]?).bind (·.dst)=some t→VR ρ ((env.get t).getD undef) (a.tmps.getD t undef)):Region.wanted o (yielded ops a.tmps)=wnt ops o env:=by
 unfold Region.wanted wnt
 cases hg:o.guard with
 |none=>rfl
 |some g=>
  obtain⟨j,w⟩:=g
  dsimp only
  rw[yld_eq (ρ:=ρ) fun t ht=>h j w t hg ht]
  cases w<;>dsimp only<;>cases yld ops env j with
  |none=>rfl
  |some b=>cases b<;>rfl
theorem put_StR {env:Tr Value} {dfs:List ADef} (h:StR P size ρ env dfs a) {d:Tmp} (hd:d<size) {v v':Value} (hv:VR ρ v v'):StR P size ρ (env.set d (some v)) dfs (a.put (some d) v'):=by
 refine⟨fun t=>?_,by simp [Act.put,h.size],h.defers⟩
 rw[Tr.get_set]
 simp only[Act.put]
 rw[Array.getD_eq_getD_getElem?,Array.getElem?_setIfInBounds]
 by_cases e:t=d
 ·subst e
  rw[if_pos rfl,if_pos rfl,if_pos (by rw[h.size];exact hd)]
  exact hv
 ·rw[if_neg e,if_neg (Ne.symm e)]
  have:=h.env t
  rwa[Array.getD_eq_getD_getElem?]at this
theorem aput_StR {st st':St} {x:AXs} {dst:Option Tmp} {v v':Value} (h:aput size dst v st=some (x,st')) (hs:StR P size ρ st.env st.dfs a) (hv:VR ρ v v'):x= .normal∧st'.s=st.s∧StR P size ρ st'.env st'.dfs (a.put dst v'):=by
 unfold aput at h
 split at h
 ·cases h;exact⟨rfl,rfl,hs⟩
 ·split at h<;>try cases h
  next hd=>
  rw[fv_eq]at h
  cases h
  exact⟨rfl,rfl,put_StR hs (Nat.le_of_ble_eq_true hd) hv⟩
theorem aput_s {st st':St} {x:AXs} {dst:Option Tmp} {v:Value} (h:aput size dst v st=some (x,st')):st'.s=st.s∧st'.dfs=st.dfs∧x= .normal:=by
 unfold aput at h
 cases dst with
 |none=>cases h;exact⟨rfl,rfl,rfl⟩
 |some d=>
  dsimp only at h
  cases hb:Nat.blt d size with
  |true=>
   rw[hb]at h
   dsimp only at h
   rw[fv_eq]at h
   injection h with h
   injection h with h1 h2
   rw[←h2]
   exact⟨rfl,rfl,h1.symm⟩
  |false=>rw[hb]at h;cases h
theorem aop1_grow {call:ACall} (hc:CallOK P n0 call) {dk:Bool} {st st':St} {x:AXs} (h:aop1 P n0 call size ops dk o st=some (x,st')):Grow st.s st'.s:=by
 have ap:∀{dst:Option Tmp} {v:Value} {st1:St},aput size dst v st1=some (x,st')→st'.s=st1.s:=fun h=>(aput_s h).1
 unfold aop1 at h
 split at h
 ·split at h
  ·rename_i hop;rw[ap h];exact eop_grow hop
  ·rename_i hop;rw[ap h];exact eop_grow hop
  ·rename_i f args s hop
   split at h
   ·rename_i v s2 hcall;rw[ap h];exact (eop_grow hop).trans (hc.grow _ _ _ _ _ hcall)
   ·rename_i v s2 hcall;cases h;exact (eop_grow hop).trans (hc.grow _ _ _ _ _ hcall)
   ·cases h
  ·rename_i hop
   split at h<;>try cases h
   rw[ap h];exact eop_grow hop
  ·rename_i hop;cases h;exact eop_grow hop
  ·cases h
 ·rw[ap h];exact Grow.refl _
theorem aop1_dfs {call:ACall} {st st':St} {x:AXs} (h:aop1 P n0 call size ops false o st=some (x,st')):st'.dfs=st.dfs:=by
 have ap:∀{dst:Option Tmp} {v:Value} {st1:St},aput size dst v st1=some (x,st')→st'.dfs=st1.dfs:=fun h=>(aput_s h).2.1
 unfold aop1 at h
 split at h
 ·split at h
  ·rw[ap h]
  ·rw[ap h]
  ·split at h
   ·rw[ap h]
   ·cases h;rfl
   ·cases h
  ·cases h
  ·cases h;rfl
  ·cases h
 ·rw[ap h]
theorem aop1_sound {call:ACall} (hc:CallOK P n0 call) {dk:Bool} {rd:Option Nat} (hrd:dk=true→rd=none) {st st':St} {x:AXs} {i n:Nat} {W:World} {Q:Exit→Act→World→Prop} {K:Act→World→Prop} (h:aop1 P n0 call size ops dk o st=some (x,st')) (ho:ops[i]? =some o) (hG0:∀j w t,o.guard=some (j,w)→(ops[j]?).bind (·.dst)=some t→VR ρ ((st.env.get t).getD undef) (a.tmps.getD t undef)) (hV:OpV n0 ρ st.env a o) (hD:DfR P ρ st.dfs a.defers) (hp:Pre P n0 ρ st.s st'.s W)
  (hK:∀ρ' W' v v' (st1:St) (a1:Act),aput size o.dst v st1=some (x,st')→st1.env=st.env→a1.tmps=a.tmps→(dk=false→a1=a)→DfR P ρ' st1.dfs a1.defers→VR ρ' v v'→Post P ρ st.s st'.s W ρ' W'→K (a1.put o.dst v') W')
  (hQ:∀v,x= .panic v→∀ρ' W' v',st'.dfs=st.dfs→VR ρ' v v'→Post P ρ st.s st'.s W ρ' W'→Q (.panic [{v:=v',recovered:=false}]) a W'):wpOpIn (fw rd) n P ops Q i K a W:=by
 unfold wpOpIn
 rw[ho]
 dsimp only
 rw[wnt_eq (ρ:=ρ) hG0]
 unfold aop1 at h
 split at h
 ·rename_i hw
  rw[hw,if_pos rfl]
  refine⟨fun _ _=>trivial,?_⟩
  have hsem:Oper.semAt (fw rd).round a.eval o=execOp a.eval o∨(dk=false∧∃c,o.op= .defer c):=by
   by_cases hd:∀c,o.op≠ .defer c
   ·exact .inl (Oper.semAt_eq _ _ _ hd)
   ·cases dk with
    |true=>rw[show (fw rd).round=none from hrd rfl];exact .inl rfl
    |false=>
     refine .inr ⟨rfl,?_⟩
     exact Classical.byContradiction fun h=>hd fun c e=>h ⟨c,e⟩
  have hsem:Oper.semAt (fw rd).round a.eval o=execOp a.eval o:=by
   rcases hsem with h1|⟨h1,c,h2⟩
   ·exact h1
   ·exfalso
    subst h1
    have:∀r s1,eop P n0 st.env o st.s=some (r,s1)→∃f args,r= .defer f args:=fun r s1 h=>by
     unfold eop at h
     rw[h2]at h
     dsimp only at h
     unfold eDf at h
     split at h<;>try cases h
     split at h<;>try cases h
     split at h<;>try cases h
     split at h<;>cases h
     exact⟨_,_,rfl⟩
    split at h
    ·rename_i hop;obtain⟨_,_,e⟩:=this _ _ hop;cases e
    ·rename_i hop;obtain⟨_,_,e⟩:=this _ _ hop;cases e
    ·rename_i hop;obtain⟨_,_,e⟩:=this _ _ hop;cases e
    ·cases h
    ·rename_i hop;obtain⟨_,_,e⟩:=this _ _ hop;cases e
    ·cases h
  rw[hsem]
  split at h
  ·rename_i v s1 hop
   have hst:st'.s=s1:=(aput_s h).1
   rw[hst]at hp hK
   obtain⟨ρ',W',hr,hpost⟩:=eop_sound hop hV hp
   obtain⟨v',hr,hv⟩:=hr
   rw[hr]
   exact hK ρ' W' v v' _ a h rfl rfl (fun _=>rfl) (hD.mono hpost.le) hv hpost
  ·rename_i s1 hop
   have hst:st'.s=s1:=(aput_s h).1
   rw[hst]at hp hK
   obtain⟨ρ',W',hr,hpost⟩:=eop_sound hop hV hp
   have hr:(execOp a.eval o).run P W= .ok .skip W':=hr
   rw[hr]
   exact hK ρ' W' undef undef _ a h rfl rfl (fun _=>rfl) (hD.mono hpost.le) (flat_VR rfl) hpost
  ·rename_i f args s1 hop
   have hG:=eop_grow hop
   cases f<;>try (exfalso;obtain⟨_,_,hr,_⟩:=eop_sound hop hV (hp.less (by split at h<;>first|(rename_i hcall;have:=(aput_s h).1;rw[this];exact hc.grow _ _ _ _ _ hcall)|(rename_i hcall;cases h;exact hc.grow _ _ _ _ _ hcall)|cases h));exact hr)
   case func f=>
    split at h
    ·rename_i v s2 hcall
     have hG2:=hc.grow _ _ _ _ _ hcall
     have hst:st'.s=s2:=(aput_s h).1
     rw[hst]at hp hK
     obtain⟨ρ',W',hr,hpost⟩:=eop_sound hop hV (hp.less hG2)
     obtain⟨args',hr,hargs⟩:=hr
     rw[hr]
     refine⟨fun h=>(by cases h),(hc.ok _ _ _ _ _ _ _ _ _ hcall hargs (hp.after hpost hG hG2)).mono fun e W2 he=>?_⟩
     obtain⟨ρ2,hpost2,v',rfl,hv⟩:=he
     have hpt:=Post.trans hp.inj hG hG2 hpost hpost2
     exact hK ρ2 W2 v v' _ a h rfl rfl (fun _=>rfl) (hD.mono hpt.le) hv hpt
    ·rename_i v s2 hcall
     have hG2:=hc.grow _ _ _ _ _ hcall
     cases h
     obtain⟨ρ',W',hr,hpost⟩:=eop_sound hop hV (hp.less hG2)
     obtain⟨args',hr,hargs⟩:=hr
     rw[hr]
     refine⟨fun h=>(by cases h),(hc.ok _ _ _ _ _ _ _ _ _ hcall hargs (hp.after hpost hG hG2)).mono fun e W2 he=>?_⟩
     obtain⟨ρ2,hpost2,v',rfl,hv⟩:=he
     exact hQ v rfl ρ2 W2 v' rfl hv (Post.trans hp.inj hG hG2 hpost hpost2)
    ·cases h
   case yield l=>
    split at h
    ·rename_i v s2 hcall
     have hG2:=hc.grow _ _ _ _ _ hcall
     have hst:st'.s=s2:=(aput_s h).1
     rw[hst]at hp hK
     obtain⟨ρ',W',hr,hpost⟩:=eop_sound hop hV (hp.less hG2)
     obtain⟨l',args',hr,rfl,hbr,hargs⟩:=hr
     obtain⟨f,tmps,asg,body,hy,hR⟩:=hc.rnd _ _ _ _ _ _ _ _ _ hcall hbr hargs (hp.after hpost hG hG2)
     rw[hr,hy]
     refine⟨fun h=>(by cases h),(hR rd _).mono fun e W2 he=>?_⟩
     obtain⟨ρ2,hpost2,v',rfl,hv⟩:=he
     have hpt:=Post.trans hp.inj hG hG2 hpost hpost2
     exact hK ρ2 W2 v v' _ a h rfl rfl (fun _=>rfl) (hD.mono hpt.le) hv hpt
    ·rename_i v s2 hcall
     have hG2:=hc.grow _ _ _ _ _ hcall
     cases h
     obtain⟨ρ',W',hr,hpost⟩:=eop_sound hop hV (hp.less hG2)
     obtain⟨l',args',hr,rfl,hbr,hargs⟩:=hr
     obtain⟨f,tmps,asg,body,hy,hR⟩:=hc.rnd _ _ _ _ _ _ _ _ _ hcall hbr hargs (hp.after hpost hG hG2)
     rw[hr,hy]
     refine⟨fun h=>(by cases h),(hR rd _).mono fun e W2 he=>?_⟩
     obtain⟨ρ2,hpost2,v',rfl,hv⟩:=he
     exact hQ v rfl ρ2 W2 v' rfl hv (Post.trans hp.inj hG hG2 hpost hpost2)
    ·cases h
  ·rename_i f args s1 hop
   split at h<;>try cases h
   have hst:st'.s=s1:=(aput_s h).1
   rw[hst]at hp hK
   obtain⟨ρ',W',hr,hpost⟩:=eop_sound hop hV hp
   obtain⟨d,hr,hd⟩:=hr
   rw[hr]
   exact hK ρ' W' undef undef _ {a with defers:=d::a.defers} h rfl rfl (fun h=>by cases h) (.cons hd (hD.mono hpost.le)) (flat_VR rfl) hpost
  ·rename_i v s1 hop
   cases h
   obtain⟨ρ',W',hr,hpost⟩:=eop_sound hop hV hp
   obtain⟨v',hr,hv⟩:=hr
   rw[hr]
   exact hQ v rfl ρ' W' v' rfl hv hpost
  ·cases h
 ·rename_i hw
  rw[hw,if_neg (by simp)]
  refine⟨fun _ _=>trivial,?_⟩
  have e2:=(aput_s h).1
  rw[e2]at hp hK
  exact hK ρ W undef undef _ a h rfl rfl (fun _=>rfl) hD (flat_VR rfl) (Post.refl hp.inj hp.wr)
end
end
section
section
variable {P:Program} {n0:Nat} {ρ:PM} {size:Nat} {a:Act} {ops:Array Oper} {o:Oper}
theorem StR.opV {env:Tr Value} {dfs:List ADef} (h:StR P size ρ env dfs a) (hg:GB ρ n0):OpV n0 ρ env a o:=fun _ _ hx=>okX_VR h.env hg hx
theorem StR.guard {env:Tr Value} {dfs:List ADef} (h:StR P size ρ env dfs a):∀j w t,o.guard=some (j,w)→(ops[j]?).bind (·.dst)=some t→VR ρ ((env.get t).getD undef) (a.tmps.getD t undef):=fun _ _ t _ _=>h.env t
theorem aops_grow {call:ACall} (hc:CallOK P n0 call) {dk:Bool}:∀(l:List Oper) (st st':St) (x:AXs),aops P n0 call size ops dk l st=some (x,st')→Grow st.s st'.s
 |[],st,st',x,h=>by cases h;exact Grow.refl _
 |o::l,st,st',x,h=>by
  unfold aops at h
  split at h
  ·rename_i st1 h1
   exact (aop1_grow hc h1).trans (aops_grow hc l _ _ _ h)
  ·exact aop1_grow hc h
theorem aops_sound {call:ACall} (hc:CallOK P n0 call) {dk:Bool} {rd:Option Nat} (hrd:dk=true→rd=none) {n:Nat} {Q:Exit→Act→World→Prop}:∀(l:List Oper) (k:Nat) (st st':St) (x:AXs) (ρ:PM) (a:Act) (W:World),ops.toList.drop k=l→aops P n0 call size ops dk l st=some (x,st')→StR P size ρ st.env st.dfs a→Pre P n0 ρ st.s st'.s W→
  (x= .normal→∀ρ' a' W',StR P size ρ' st'.env st'.dfs a'→Post P ρ st.s st'.s W ρ' W'→Q .normal a' W')→
  (∀v,x= .panic v→∀ρ' a' W' v',DfR P ρ' st'.dfs a'.defers→VR ρ' v v'→Post P ρ st.s st'.s W ρ' W'→Q (.panic [{v:=v',recovered:=false}]) a' W')→
  wpOpsIn (fw rd) n P ops Q (List.range' k l.length) a W
 |[],k,st,st',x,ρ,a,W,hl,h,hs,hp,hN,hP=>by
  cases h
  exact hN rfl ρ a W hs (Post.refl hp.inj hp.wr)
 |o::l,k,st,st',x,ρ,a,W,hl,h,hs,hp,hN,hP=>by
  have ho:ops[k]? =some o:=by
   have:(ops.toList.drop k)[0]? =some o:=by rw[hl];rfl
   rw[List.getElem?_drop]at this
   simpa using this
  have hl':ops.toList.drop (k+1)=l:=by
   rw[←List.drop_drop,hl];rfl
  rw[List.length_cons,List.range'_succ,wpOpsIn_cons]
  have cont:∀{ρ1:PM} {W1:World} {v v':Value} {st1 stx:St} {a1:Act} {y:AXs},aput size o.dst v st1=some (y,stx)→st1.env=st.env→a1.tmps=a.tmps→DfR P ρ1 st1.dfs a1.defers→VR ρ1 v v'→PLe ρ ρ1→StR P size ρ1 stx.env stx.dfs (a1.put o.dst v'):=fun {ρ1 W1 v v' st1 stx a1 y} hap he ht hd hv hle=>by
   have hs1:StR P size ρ1 st1.env st1.dfs a1:=⟨by rw[he];unfold EnvR;rw[ht];exact (hs.env.mono hle),by rw[ht];exact hs.size,hd⟩
   exact (aput_StR hap hs1 hv).2.2
  unfold aops at h
  split at h
  ·rename_i st1 h1
   have hG:=aop1_grow hc h1
   have hG2:=aops_grow hc _ _ _ _ h
   refine aop1_sound hc hrd h1 ho hs.guard (hs.opV hp.gb) hs.defers (hp.less hG2) (fun ρ1 W1 v v' sx a1 hap he ht _ hd hv hpost=>?_) (fun v e=>by cases e)
   have hst:=cont (W1:=W1) hap he ht hd hv hpost.le
   refine aops_sound hc hrd l (k+1) st1 st' x ρ1 _ W1 hl' h hst (hp.after hpost hG hG2) (fun e ρ2 a2 W2 hs2 hp2=>hN e ρ2 a2 W2 hs2 (Post.trans hp.inj hG hG2 hpost hp2)) (fun v e ρ2 a2 W2 v2 hd hv2 hp2=>hP v e ρ2 a2 W2 v2 hd hv2 (Post.trans hp.inj hG hG2 hpost hp2))
  ·rename_i hne
   refine aop1_sound hc hrd h ho hs.guard (hs.opV hp.gb) hs.defers hp (fun ρ1 W1 v v' sx a1 hap he ht _ hd hv hpost=>?_) (fun v e ρ1 W1 v1 hdf hv hpost=>hP v e ρ1 a W1 v1 (by rw[hdf];exact hs.defers.mono hpost.le) hv hpost)
   exfalso
   exact hne _ (by rw[h,(aput_s hap).2.2])
end
end
section
section
variable {F:Fence} {n:Nat} {P:Program} {ops:Array Oper} {Q:Exit→Act→World→Prop}
def cntFs (l:Array Bool):Nat:=l.toList.countP (fun b=> !b)
theorem cntF_sets {l:Array Bool} {i:Nat} (hi:i<l.size) (h:l.getD i true=false):cntFs (l.setIfInBounds i true)+1=cntFs l:=by
 obtain⟨l⟩:=l;simp only[List.size_toArray]at hi;simp only[cntFs,List.setIfInBounds_toArray];simp only[Array.getD_eq_getD_getElem?,List.getElem?_toArray]at h
 induction l generalizing i with
 |nil=>simp at hi
 |cons b l ih=>
  cases i with
  |zero=>
   simp at h;subst h;simp
  |succ i=>
   simp only[List.length_cons,Nat.add_lt_add_iff_right]at hi;simp only[List.getElem?_cons_succ]at h;have:=ih hi h;simp only[List.set_cons_succ,List.countP_cons];omega
theorem mem_readys {md:Region.Mode} {listed:Array Bool} {i:Nat} (h:i∈Region.ready md ops listed):i<ops.size∧listed.getD i true=false∧∃o,ops[i]? =some o∧∀e∈o.after.toList,Region.binds md e=true→listed.getD e.on false=true:=by
 unfold Region.ready at h;simp only[List.mem_filter,List.mem_range,Bool.and_eq_true,Bool.not_eq_true']at h;obtain⟨h1,h2,h3⟩:=h;refine⟨h1,h2, ?_⟩;cases ho:ops[i]? with
 |none=>rw[ho]at h3;simp at h3
 |some o=>
  rw[ho]at h3;simp only[Option.map_some,Option.getD_some]at h3;refine⟨o,rfl,fun e he hb=> ?_⟩;rw[←Array.all_toList,List.all_eq_true]at h3;have:=h3 e he;simpa [hb]using this
theorem cntF_zeros {l:Array Bool} (h:cntFs l=0) (i:Nat):l.getD i true=true:=by
 obtain⟨l⟩:=l;simp only[cntFs,List.countP_eq_zero,Bool.not_eq_true',Bool.not_eq_false]at h;simp only[Array.getD_eq_getD_getElem?,List.getElem?_toArray];cases hi:l[i]? with
 |none=>rfl
 |some b=>exact h b (List.mem_of_getElem? hi)
theorem wpAnyIn_invs (J:Array Bool→Act→World→Prop)
  (hstep:∀listed a w i,listed.size=ops.size→J listed a w→i∈Region.ready .any ops listed→wpOpIn F n P ops Q i (J (listed.setIfInBounds i true)) a w)
  (hend:∀listed a w,listed.size=ops.size→J listed a w→Region.ready .any ops listed= []→Q .normal a w):
  ∀(fuel:Nat) (listed:Array Bool) (a:Act) (w:World),listed.size=ops.size→cntFs listed≤fuel→J listed a w→wpAnyIn F n P .any ops Q fuel listed a w
 |0,listed,a,w,hs,hc,hj=>by
  have hr:Region.ready .any ops listed= []:=by
   rw[List.eq_nil_iff_forall_not_mem];intro i hi;have:=(mem_readys hi).2.1;rw[cntF_zeros (by omega) i]at this;cases this
  exact⟨hr,hend listed a w hs hj hr⟩
 |fuel+1,listed,a,w,hs,hc,hj=>by
  refine⟨fun hr=>hend listed a w hs hj hr,fun i hi=> ?_⟩;have hm:=mem_readys hi;refine wpOpIn_mono (fun a' w' h'=> ?_) (hstep listed a w i hs hj hi);have:=cntF_sets (by rw[hs];exact hm.1) hm.2.1;exact wpAnyIn_invs J hstep hend fuel _ a' w' (by simpa using hs) (by omega) h'
theorem wpIn_region_invs {id:Nat} {a:Act} {w:World} (hm:P.follows .mixedOrders=true) (J:Array Bool→Act→World→Prop)
  (h0:J (Array.replicate ops.size false) a {w with drawn:=w.drawn+1})
  (hstep:∀listed a w i,listed.size=ops.size→J listed a w→i∈Region.ready .any ops listed→wpOpIn F n P ops Q i (J (listed.setIfInBounds i true)) a w)
  (hend:∀listed a w,listed.size=ops.size→J listed a w→Region.ready .any ops listed= []→Q .normal a w):(Code.region id ops true).wpIn F n P Q a w:=by
 refine wpIn_region_any hm (wpAnyIn_invs J hstep hend _ _ _ _ (by simp) ?_ h0);unfold cntFs;have:=List.countP_le_length (p:=fun b=> !b) (l:=(Array.replicate ops.size false).toList);simpa using this
def edgesLs (ops:Array Oper) (L:Nat→Prop) (i:Nat):Prop:=∀o,ops[i]? =some o→∀e∈o.after.toList,Region.binds .any e=true→L e.on
def closedLs (ops:Array Oper) (L:Nat→Prop):Prop:=∀i,L i→edgesLs ops L i
def goodBs (ops:Array Oper) (acc:Array Nat):Prop:=∀i j,(acc.getD i 0).testBit j=true→∀L,closedLs ops L→edgesLs ops L i→L j
theorem testBit_folds (A:Nat→Nat) (j:Nat):∀(l:List Edge) (s:Nat),(l.foldl (fun s e=>if Region.binds .any e then s|||2^e.on|||A e.on else s) s).testBit j=true→
  s.testBit j=true∨∃e∈l,Region.binds .any e=true∧(e.on=j∨(A e.on).testBit j=true)
 | [],s,h=> .inl h
 |e::l,s,h=>by
  rw[List.foldl_cons]at h
  rcases testBit_folds A j l _ h with h1|⟨e',h1,h2⟩
  ·split at h1
   ·next hb=>
    simp only[Nat.testBit_or,Bool.or_eq_true]at h1
    rcases h1 with(h1|h1)|h1
    ·exact .inl h1
    ·refine .inr ⟨e,List.mem_cons_self,hb, .inl ?_⟩
     rw[Nat.testBit_two_pow]at h1;simpa using h1
    ·exact .inr ⟨e,List.mem_cons_self,hb, .inr h1⟩
   ·exact .inl h1
  ·exact .inr ⟨e',List.mem_cons_of_mem _ h1,h2⟩
theorem goodB_pushs {acc:Array Nat} {o:Oper} (h:goodBs ops acc) (ho:ops[acc.size]? =some o):
  goodBs ops (acc.push (o.after.foldl (fun s e=>if Region.binds .any e then s|||2^e.on|||acc.getD e.on 0 else s) 0)):=by
 intro i j hb L hL he;rw[Array.getD_eq_getD_getElem?,Array.getElem?_push]at hb;split at hb
 ·next hi=>
  subst hi;rw[←Array.foldl_toList]at hb;simp only[Option.getD_some]at hb;rcases testBit_folds (fun k=>acc.getD k 0) j o.after.toList 0 hb with h1|⟨e,h1,h2,h3⟩
  ·simp at h1
  ·have hLe:=he o ho e h1 h2;rcases h3 with rfl|h3
   ·exact hLe
   ·exact h e.on j h3 L hL (hL _ hLe)
 ·rw[←Array.getD_eq_getD_getElem?]at hb;exact h i j hb L hL he
theorem goodB_folds:∀(rest:List Oper) (acc:Array Nat),(∀k o,rest[k]? =some o→ops[acc.size+k]? =some o)→goodBs ops acc→
  goodBs ops (rest.foldl (fun acc o=>acc.push (o.after.foldl (fun s e=>if Region.binds .any e then s|||2^e.on|||acc.getD e.on 0 else s) 0)) acc)
 | [],_,_,h=>h
 |o::rest,acc,hr,h=>by
  rw[List.foldl_cons]
  refine goodB_folds rest _ (fun k o' hk=> ?_) (goodB_pushs h (by simpa using hr 0 o rfl))
  rw[Array.size_push]
  have:=hr (k+1) o' (by simpa using hk)
  rw[←this];congr 1;omega
theorem bef_ins {i j:Nat} (h:befs ops i j=true) {L:Nat→Prop} (hL:closedLs ops L) (he:edgesLs ops L i):L j:=by
 have hg:goodBs ops (Region.before ops):=by
  unfold Region.before;rw[←Array.foldl_toList];refine goodB_folds ops.toList #[] (fun k o hk=>by simpa using hk) ?_;intro i j hb;simp at hb
 exact hg i j h L hL he
def slotOfs (ops:Array Oper) (a0:Act) (vs:Nat→Value) (L:Nat→Bool) (t:Tmp):Value:=
 match wrOfs ops t with
 |some j=>if L j then vs j else a0.tmps.getD t undef
 |none=>a0.tmps.getD t undef
def lsts (listed:Array Bool) (j:Nat):Bool:=listed.getD j false
theorem lst_sets {listed:Array Bool} {i j:Nat} (hi:i<listed.size):lsts (listed.setIfInBounds i true) j=(decide (j=i)||lsts listed j):=by
 unfold lsts;rw[Array.getD_eq_getD_getElem?,Array.getElem?_setIfInBounds,Array.getD_eq_getD_getElem?];by_cases h:i=j
 ·subst h;simp [hi]
 ·have:j≠i:=fun e=>h e.symm;simp [h,this]
theorem wpIn_region_L {id:Nat} {a0:Act} {w:World} (hm:P.follows .mixedOrders=true) (hok:rgOKs ops a0.tmps.size=true)
  (C:(Nat→Bool)→(Nat→Value)→World→Prop) (h0:C (fun _=>false) (fun _=>undef) {w with drawn:=w.drawn+1})
  (hop:∀i o,ops[i]? =some o→∀(L:Nat→Bool) (a:Act) (W:World) (vs:Nat→Value),L i=false→(∀j,befs ops i j=true→L j=true)→(∀j,befs ops j i=true→L j=false)→C L vs W→a.tmps.size=a0.tmps.size→a.defers=a0.defers→
   (∀t∈o.looksAt ops,a.tmps.getD t undef=slotOfs ops a0 vs (befs ops i) t)→
   wpOpIn F n P ops Q i (fun a' W'=>∃v,a'=a.put o.dst v∧C (fun j=>decide (j=i)||L j) (fun k=>if k=i then v else vs k) W') a W)
  (hend:∀L vs W,(∀i,i<ops.size→L i=true)→C L vs W→Q .normal {tmps:=((List.range a0.tmps.size).map (slotOfs ops a0 vs (fun _=>true))).toArray,defers:=a0.defers} W):(Code.region id ops true).wpIn F n P Q a0 w:=by
 unfold rgOKs at hok;simp only[Bool.and_eq_true,List.all_eq_true,List.mem_range]at hok;obtain⟨⟨k1,k2⟩,k3⟩:=hok;have hwr:∀{t:Tmp} {j:Nat},wrOfs ops t=some j→j<ops.size∧dstAts ops j=some t:=fun{t j} h=>by
  unfold wrOfs at h;have h1:=List.find?_some h;have h2:=List.mem_of_find?_eq_some h;simp at h1 h2;exact⟨h2,h1⟩
 have hdst:∀{i:Nat} {t:Tmp},i<ops.size→dstAts ops i=some t→t<a0.tmps.size∧wrOfs ops t=some i:=fun{i t} hi ht=>by
  have:=k1 i hi;rw[ht]at this;simpa using this
 refine wpIn_region_invs hm (fun listed a W=>∃vs:Nat→Value,C (lsts listed) vs W∧closedLs ops (fun j=>lsts listed j=true)∧a.tmps.size=a0.tmps.size∧a.defers=a0.defers∧∀t,a.tmps.getD t undef=slotOfs ops a0 vs (lsts listed) t) ?_ ?_ ?_
 ·have hl:∀j,lsts (Array.replicate ops.size false) j=false:=fun j=>by
   unfold lsts;rw[Array.getD_eq_getD_getElem?,Array.getElem?_replicate];split<;>rfl
  refine⟨fun _=>undef, ?_,(fun j hj=>by simp only[hl]at hj;cases hj),rfl,rfl,fun t=> ?_⟩
  ·have:lsts (Array.replicate ops.size false)=fun _=>false:=funext hl
   rw[this];exact h0
  ·unfold slotOfs;split
   ·rw[hl];rfl
   ·rfl
 ·rintro listed a W i hs⟨vs,hC,hcl,hsz,hdf,hsl⟩ hi;obtain⟨hin,hun,o,ho,hed⟩:=mem_readys hi;have hun':lsts listed i=false:=by
   unfold lsts;rw[Array.getD_eq_getD_getElem?]at hun⊢;rw[Array.getElem?_eq_getElem (by rw[hs];exact hin)]at hun⊢;simpa using hun
  have hedg:edgesLs ops (fun j=>lsts listed j=true) i:=fun o' ho' e he hb=>by
   rw[ho]at ho';cases ho';exact hed e he hb
  have hbf:∀j,befs ops i j=true→lsts listed j=true:=fun j hj=>bef_ins hj hcl hedg;have hnb:∀j,befs ops j i=true→lsts listed j=false:=fun j hj=>by
   cases hlj:lsts listed j with
   |false=>rfl
   |true=>
    have:=bef_ins (L:=fun j=>lsts listed j=true) hj hcl (hcl j hlj);rw[hun']at this;cases this
  refine wpOpIn_mono ?_ (hop i o ho (lsts listed) a W vs hun' hbf hnb hC hsz hdf (fun t ht=> ?_))
  ·rintro a' W'⟨v,rfl,hC'⟩;refine⟨fun k=>if k=i then v else vs k, ?_, ?_, ?_, ?_, ?_⟩
   ·have:lsts (listed.setIfInBounds i true)=fun j=>decide (j=i)||lsts listed j:=funext fun x=>lst_sets (by rw[hs];exact hin)
    rw[this];exact hC'
   ·intro j hj o' ho' e he hb;rw[lst_sets (by rw[hs];exact hin)]at hj;show lsts _ _=true;rw[lst_sets (by rw[hs];exact hin),Bool.or_eq_true];right;by_cases h:j=i
    ·subst h;exact hedg o' ho' e he hb
    ·simp only[h,decide_false,Bool.false_or]at hj;exact hcl j hj o' ho' e he hb
   ·cases hd:o.dst<;>simp [Act.put,hsz]
   ·cases hd:o.dst<;>simp [Act.put,hdf]
   ·intro t;have hdo:dstAts ops i=o.dst:=by simp [dstAts,ho]
    by_cases hdt:o.dst=some t
    ·obtain⟨h1,h2⟩:=hdst hin (hdo.trans hdt);have:(a.put o.dst v).tmps.getD t undef=v:=by
      rw[hdt];simp [Act.put,hsz,h1]
     rw[this];unfold slotOfs;rw[h2];simp only[lst_sets (show i<listed.size by rw[hs];exact hin)];simp
    ·have:(a.put o.dst v).tmps.getD t undef=a.tmps.getD t undef:=by
      cases hd:o.dst with
      |none=>rfl
      |some d=>
       have hne:d≠t:=fun e=>hdt (by rw[hd,e]);simp only[Act.put,Array.getD_eq_getD_getElem?,Array.getElem?_setIfInBounds,hne,if_false]
     rw[this,hsl t];unfold slotOfs;cases hw:wrOfs ops t with
     |none=>rfl
     |some j=>
      have hji:j≠i:=by
       rintro rfl;exact hdt (hdo▸(hwr hw).2)
      simp only[lst_sets (show i<listed.size by rw[hs];exact hin),hji,decide_false,Bool.false_or,if_false]
  ·rw[hsl t];unfold slotOfs;cases hw:wrOfs ops t with
   |none=>rfl
   |some j=>
    have h2:=k2 i hin;rw[ho]at h2;simp only[Option.map_some,Option.all_some,List.all_eq_true]at h2;have h3:=h2 t ht;rw[hw]at h3;simp only[Option.all_some,Bool.or_eq_true]at h3;by_cases hb:befs ops i j=true
    ·simp only[hb,if_true,hbf j hb]
    ·have hb':befs ops i j=false:=by simpa using hb
     have hj:=hnb j (h3.resolve_left hb);simp only[hb',hj]
 ·rintro listed a W hs⟨vs,hC,hcl,hsz,hdf,hsl⟩ hr;have hall:∀i,i<ops.size→lsts listed i=true:=by
   intro i
   induction i using Nat.strongRecOn with
   |_ i ih=>
    intro hi;cases hl:lsts listed i with
    |true=>rfl
    |false=>
     exfalso;have:i∈Region.ready .any ops listed:=by
      unfold Region.ready;simp only[List.mem_filter,List.mem_range,Bool.and_eq_true,Bool.not_eq_true'];refine⟨hi, ?_, ?_⟩
      ·unfold lsts at hl;rw[Array.getD_eq_getD_getElem?]at hl⊢;rw[Array.getElem?_eq_getElem (by rw[hs];exact hi)]at hl⊢;simpa using hl
      ·rw[Array.getElem?_eq_getElem hi];simp only[Option.map_some,Option.getD_some];rw[←Array.all_toList,List.all_eq_true];intro e he;have h4:=k3 i hi;rw[Array.getElem?_eq_getElem hi]at h4;simp only[Option.map_some,Option.all_some,List.all_eq_true]at h4;have h5:=h4 e he;cases hb:Region.binds .any e with
       |false=>rfl
       |true=>
        rw[hb]at h5;simp only[Bool.not_true,Bool.false_or,decide_eq_true_eq]at h5;have:=ih e.on h5 (by omega);unfold lsts at this;simp [this]
     rw[hr]at this;cases this
  have ha:a={tmps:=((List.range a0.tmps.size).map (slotOfs ops a0 vs (fun _=>true))).toArray,defers:=a0.defers}:=by
   obtain⟨tm,df⟩:=a;simp only at hsz hdf hsl;subst hdf
   congr 1
   apply Array.ext
   ·simp [hsz]
   ·intro t ht1 ht2;have:=hsl t;rw[Array.getD_eq_getD_getElem?,Array.getElem?_eq_getElem ht1]at this;simp only[Option.getD_some]at this;rw[this];simp only[List.getElem_toArray,List.getElem_map,List.getElem_range];unfold slotOfs;cases hw:wrOfs ops t with
    |none=>rfl
    |some j=>simp only[hall j (hwr hw).1]
  rw[ha];exact hend _ vs W hall hC
end
end
section
def zm (t:St):St:={t with s:={t.s with rd:=0,wr:=0}}
def nx (t u:St):St:={u with s:={u.s with rd:=t.s.rd|||u.s.rd,wr:=t.s.wr|||u.s.wr}}
def wn (t u:St):Nat:=u.s.wr|||rng t.s.next u.s.next
def okPs (bf:Nat) (y:Nat×Nat×Nat) (rd w:Nat):Bool:=bf.testBit y.1||(Nat.beq (y.2.2&&&(rd|||w)) 0&&Nat.beq (w&&&y.2.1) 0)
theorem rng_test {i j b:Nat}:(rng i j).testBit b=(decide (i≤b)&&decide (b<j)):=by
 unfold rng bit
 rw[Nat.testBit_shiftLeft,Nat.one_shiftLeft,Nat.testBit_two_pow_sub_one]
 by_cases h:i≤b
 ·simp only[ge_iff_le,h,decide_true,Bool.true_and]
  congr 1
  simp only[eq_iff_iff]
  omega
 ·simp [h]
theorem disj {m k b:Nat} (h:Nat.beq (m&&&k) 0=true) (h1:m.testBit b=true) (h2:k.testBit b=true):False:=by
 have h:m&&&k=0:=Nat.eq_of_beq_eq_true h
 have:(m&&&k).testBit b=true:=by rw[Nat.testBit_and,h1,h2];rfl
 rw[h]at this
 simp at this
section
variable {P:Program} {n0:Nat} {size:Nat} {ops:Array Oper}
theorem adr_trace {call:ACall}:∀(l:List (Oper×Nat)) (i:Nat) (h:List (Nat×Nat×Nat)) (st st':St) (x:AXs),adr P n0 call size ops l i h st=some (x,st')→∃(T U:Nat→St) (m:Nat),T 0=st∧m≤l.length∧(∀k,k<m→
  ∃o bf,l[k]? =some (o,bf)∧aop1 P n0 call size ops false o (zm (T k))=some (.normal,U k)∧T (k+1)=nx (T k) (U k)∧(∀y∈h,okPs bf y (U k).s.rd (wn (T k) (U k))=true)∧∀k',k'<k→okPs bf (i+k',(U k').s.rd,wn (T k') (U k')) (U k).s.rd (wn (T k) (U k))=true)∧
  ((x= .normal∧m=l.length∧T m=st')∨∃v o bf,x= .panic v∧l[m]? =some (o,bf)∧aop1 P n0 call size ops false o (zm (T m))=some (.panic v,U m)∧st'=nx (T m) (U m)∧(∀y∈h,bf.testBit y.1=true∨y.2.2=0)∧(∀k',k'<m→bf.testBit (i+k')=true∨wn (T k') (U k')=0)∧∀j o' b',m<j→l[j]? =some (o',b')→b'.testBit (i+m)=true)
 |[],i,h,st,st',x,hh=>by
  cases hh
  exact⟨fun _=>st,fun _=>st,0,rfl,Nat.le_refl _,fun k hk=>absurd hk (Nat.not_lt_zero _),.inl ⟨rfl,rfl,rfl⟩⟩
 |(o,bf)::r,i,h,st,st',x,hh=>by
  unfold adr at hh
  split at hh<;>try cases hh
  ·next u hu=>
   rw[sq_eq]at hh
   split at hh<;>try cases hh
   next hck=>
   rw[sq_eq,sq_eq]at hh
   obtain⟨T,U,m,h0,hl,hk,hx⟩:=adr_trace r (i+1) _ _ _ _ hh
   refine⟨fun k=>match k with|0=>st|k+1=>T k,fun k=>match k with|0=>u|k+1=>U k,m+1,rfl,by simpa using hl,fun k hk'=>?_,?_⟩
   ·cases k with
    |zero=>
     refine⟨o,bf,rfl,hu,?_,fun y hy=>List.all_eq_true.1 hck y hy,fun k' hk2=>absurd hk2 (Nat.not_lt_zero _)⟩
     simp only[h0];rfl
    |succ k=>
     obtain⟨o2,bf2,h1,h2,h3,h4,h5⟩:=hk k (by omega)
     refine⟨o2,bf2,by simpa using h1,h2,h3,fun y hy=>h4 y (List.mem_cons_of_mem _ hy),fun k' hk2=>?_⟩
     cases k' with
     |zero=>exact h4 _ (List.mem_cons_self ..)
     |succ k'=>
      have:=h5 k' (by omega)
      rw[show i+1+k'=i+(k'+1) from by omega]at this
      exact this
   ·rcases hx with⟨h1,h2,h3⟩|⟨v,o2,bf2,h1,h2,h3,h4,h5,h6,h7⟩
    ·exact .inl ⟨h1,by simp [h2],h3⟩
    ·refine .inr ⟨v,o2,bf2,h1,by simpa using h2,h3,h4,fun y hy=>h5 y (List.mem_cons_of_mem _ hy),fun k' hk2=>?_,fun j o' b' hj he=>?_⟩
     ·cases k' with
      |zero=>exact h5 _ (List.mem_cons_self ..)
      |succ k'=>
       have:=h6 k' (by omega)
       rw[show i+1+k'=i+(k'+1) from by omega]at this
       exact this
     ·cases j with
      |zero=>omega
      |succ j=>
       have:=h7 j o' b' (by omega) (by simpa using he)
       rw[show i+1+m=i+(m+1) from by omega]at this
       exact this
  ·next v u hu=>
   split at hh<;>try cases hh
   next hck=>
   rw[sq_eq,sq_eq]at hh
   cases hh
   rw[Bool.and_eq_true,List.all_eq_true,List.all_eq_true]at hck
   refine⟨fun _=>st,fun _=>u,0,rfl,Nat.zero_le _,fun k hk=>absurd hk (Nat.not_lt_zero _),.inr ⟨v,o,bf,rfl,rfl,hu,rfl,fun y hy=>?_,fun k' hk=>absurd hk (Nat.not_lt_zero _),fun j o' b' hj he=>?_⟩⟩
   ·have:=hck.1 y hy
    rw[Bool.or_eq_true]at this
    exact this.imp id fun h=>Nat.eq_of_beq_eq_true h
   ·cases j with
    |zero=>omega
    |succ j=>
     have:(o',b')∈r:=List.mem_of_getElem? (by simpa using he)
     exact hck.2 _ this
theorem before_size:(Region.before ops).size=ops.size:=by
 unfold Region.before
 rw[←Array.foldl_toList]
 have:∀(l:List Oper) (acc:Array Nat),(l.foldl (fun acc o=>acc.push (o.after.foldl (fun s e=>if Region.binds .any e then s|||2^e.on|||acc.getD e.on 0 else s) 0)) acc).size=acc.size+l.length:=fun l=>by
  induction l with
  |nil=>intro acc;rfl
  |cons o l ih=>intro acc;rw[List.foldl_cons,ih,Array.size_push,List.length_cons];omega
 rw[this]
 simp
theorem zip_get {i:Nat} {o:Oper} {bf:Nat} (h:(ops.toList.zip (Region.before ops).toList)[i]? =some (o,bf)):ops[i]? =some o∧∀j,befs ops i j=bf.testBit j:=by
 rw[List.getElem?_zip_eq_some]at h
 obtain⟨h1,h2⟩:=h
 refine⟨by simpa using h1,fun j=>?_⟩
 unfold befs
 rw[Array.getD_eq_getD_getElem?]
 rw[Array.getElem?_toList]at h2
 rw[h2]
 rfl
structure DJ (P:Program) (n0:Nat) (ops:Array Oper) (m:Nat) (T U:Nat→St) (ρ:PM) (st st':St) (W0:World) (L:Nat→Bool) (vs:Nat→Value) (W:World) (ρ':PM):Prop where
 lt:∀j,L j=true→j<ops.size→j<m
 le:PLe ρ ρ'
 inj:Inj ρ' W
 dom:∀b,ρ b= .abs→ρ' b≠ .abs→∃j,j<m∧L j=true∧(T j).s.next≤b∧b<(T (j+1)).s.next
 kill:∀b x,ρ b= .live x→ρ' b= .dead→st'.s.wr.testBit b=true
 cont:∀b,(st'.s.tch b∨(st.s.next≤b∧b<st'.s.next))→∃t,t≤m∧(∀j,j<m→L j=true→(wn (T j) (U j)).testBit b=true→j<t)∧(∀j,j<m→L j=false→(wn (T j) (U j)).testBit b=true→t≤j)∧
   (ρ' b= .abs∨(ρ' b= .dead∧(T t).s.heap.get b=none)∨∃x o o',ρ' b= .live x∧(T t).s.heap.get b=some o∧W.heap[x]? =some o'∧OR ρ' o o'∧ρ'.cap b=ocap P o')
 vals:∀j o d,j<m→L j=true→ops[j]? =some o→o.dst=some d→VR ρ' (((T (j+1)).env.get d).getD undef) (vs j)
 fr:∀x,x<W0.heap.size→(∀b,ρ b= .live x→st'.s.wr.testBit b=false)→W.heap[x]? =W0.heap[x]?
 sz:W0.heap.size≤W.heap.size
 os:W.os=W0.os
 tape:W.tape=W0.tape
 out:W.output=W0.output
 own:∀b x,ρ b= .abs→ρ' b= .live x→x<W0.heap.size→∃b0,ρ b0= .live x∧st'.s.wr.testBit b0=true
end
end
end Go.Proofs.YtngglbakkedaiaaGreatDoor
