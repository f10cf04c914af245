import Derived.Test.YtmnoaeffocnnmaaGreatDoorEH
namespace Go.Proofs.YtmnoaeffocnnmaaGreatDoor
section
variable {P:Program} {ρ:PM}
theorem EL.filter (p:Nat→Bool):∀{l l':List MapEntry},EL ρ l l'→EL ρ (l.filter fun e=>p e.born) (l'.filter fun e=>p e.born)
 |[],[],_=>⟨rfl,fun i x x' h=>by simp at h⟩
 |[],_::_,h=>by have:=h.1;simp at this
 |_::_,[],h=>by have:=h.1;simp at this
 |a::l,a'::l',h=>by
  have h0:=h.2 0 a a' rfl rfl
  have ih:=EL.filter p h.tail
  rw[List.filter_cons,List.filter_cons,h0.born]
  split
  ·refine⟨by simp [ih.1],fun i x x' h1 h2=>?_⟩
   cases i with
   |zero=>simp at h1 h2;subst h1;subst h2;exact h0
   |succ i=>exact ih.2 i x x' (by simpa using h1) (by simpa using h2)
  ·exact ih
theorem EL.es {c c':Array MapEntry} (h:EL ρ c.toList c'.toList):EsR ρ c c':=⟨by simpa using h.1,fun i x x' h1 h2=>h.2 i x x' (by simpa using h1) (by simpa using h2)⟩
theorem EsR.filter (p:Nat→Bool) {c c':Array MapEntry} (h:EsR ρ c c'):EsR ρ (c.filter fun e=>p e.born) (c'.filter fun e=>p e.born):=by
 refine EL.es ?_
 rw[Array.toList_filter,Array.toList_filter]
 exact EL.filter p h.el
theorem EsR.append {c c' d d':Array MapEntry} (h:EsR ρ c c') (k:EsR ρ d d'):EsR ρ (c++d) (c'++d'):=⟨by simp [h.1,k.1],fun i u u' h1 h2=>by
 rw[Array.getElem?_append]at h1 h2
 rw[←h.1]at h2
 split at h1
 ·rename_i e;rw[if_pos e]at h2;exact h.2 i u u' h1 h2
 ·rename_i e;rw[if_neg e]at h2;exact k.2 _ u u' h1 h2⟩
theorem EL.allB (p:Nat→Bool):∀{l l':List MapEntry},EL ρ l l'→(l'.all fun e=>p e.born)=(l.all fun e=>p e.born)
 |[],[],_=>rfl
 |[],_::_,h=>by have:=h.1;simp at this
 |_::_,[],h=>by have:=h.1;simp at this
 |a::l,a'::l',h=>by
  have h0:=h.2 0 a a' rfl rfl
  rw[List.all_cons,List.all_cons,h0.born,EL.allB p h.tail]
theorem EsR.allB (p:Nat→Bool) {c c':Array MapEntry} (h:EsR ρ c c'):(c'.all fun e=>p e.born)=(c.all fun e=>p e.born):=by
 rw[←Array.all_toList,←Array.all_toList]
 exact h.el.allB p
theorem EsR.emp {c c':Array MapEntry} (h:EsR ρ c c'):c'.isEmpty=c.isEmpty:=by
 unfold Array.isEmpty;rw[h.1]
theorem cand {b:Bool} {c c':Array MapEntry} (h:EsR ρ c c') (i:Nat):
  ((((if b then #[none] else #[])++c.map some:Array (Option MapEntry))[i]? =none∧((if b then #[none] else #[])++c'.map some:Array (Option MapEntry))[i]? =none)∨
  (((if b then #[none] else #[])++c.map some:Array (Option MapEntry))[i]? =some none∧((if b then #[none] else #[])++c'.map some:Array (Option MapEntry))[i]? =some none)∨
  ∃e e',((if b then #[none] else #[])++c.map some:Array (Option MapEntry))[i]? =some (some e)∧((if b then #[none] else #[])++c'.map some:Array (Option MapEntry))[i]? =some (some e')∧ER ρ e e'):=by
 have key:∀j,((c.map some)[j]? =none∧(c'.map some)[j]? =none)∨∃e e',(c.map some)[j]? =some (some e)∧(c'.map some)[j]? =some (some e')∧ER ρ e e':=fun j=>by
  by_cases hj:j<c.size
  ·have hj':j<c'.size:=by rw[←h.1];exact hj
   refine .inr ⟨c[j],c'[j],by rw[Array.getElem?_map,Array.getElem?_eq_getElem hj];rfl,by rw[Array.getElem?_map,Array.getElem?_eq_getElem hj'];rfl,h.2 j _ _ (Array.getElem?_eq_getElem hj) (Array.getElem?_eq_getElem hj')⟩
  ·have hj':¬j<c'.size:=by rw[←h.1];exact hj
   exact .inl ⟨by rw[Array.getElem?_map,Array.getElem?_eq_none (by omega)];rfl,by rw[Array.getElem?_map,Array.getElem?_eq_none (by omega)];rfl⟩
 cases b with
 |false=>
  simp only[Bool.false_eq_true,if_false]
  rw[Array.getElem?_append,Array.getElem?_append]
  simp only[List.size_toArray,List.length_nil,Nat.not_lt_zero,if_false,Nat.sub_zero]
  rcases key i with k|k
  ·exact .inl k
  ·exact .inr (.inr k)
 |true=>
  simp only[if_true]
  rw[Array.getElem?_append,Array.getElem?_append]
  simp only[List.size_toArray,List.length_cons,List.length_nil]
  split
  ·rename_i hi
   have:i=0:=by omega
   subst this
   exact .inr (.inl ⟨rfl,rfl⟩)
  ·rcases key (i-(0+1)) with k|k
   ·exact .inl k
   ·exact .inr (.inr k)
theorem vs_rangeM {t:TypeId} {x x':Value} (hx:VR ρ x x'):VS P ρ (Instr.range t x) (Instr.range t x'):=by
 unfold Instr.range
 refine (se_underlying t).bnd fun ρ2 d d' hl2 e=>?_
 subst e
 have hx:=hx.mono hl2
 have tail:∀{ρ:PM} {o o':Obj},OR ρ o o'→VS P ρ (do pure (Value.pointer (some ⟨←newObj o,0,none⟩))) (do pure (Value.pointer (some ⟨←newObj o',0,none⟩))):=fun h=>
  SR.bnd (R:=fun ρ n n'=>ρ n= .live n') (.new h fun ρ' n n' hl hn _=>.pure hn) fun ρ' n n' hl hn=>.pure (.ptr (AR.mk (.inr hn) rfl rfl))
 cases d'<;>cases hx<;>first|exact .st|skip
 ·exact tail (.stringIter ..)
 ·exact tail (.mapIter0 ..)
 ·rename_i h
  dsimp only
  refine SR.bnd (R:=fun ρ o o'=>OR ρ o o') (.getObj h fun o o' ho=>.pure ho) fun ρ2 o o' hl2 ho=>?_
  cases ho<;>try exact .st
  exact tail (.mapIter (h.mono hl2) ..)
theorem vs_nextM {x x':Value} (hx:VR ρ x x') (t:TypeId):VS P ρ (Instr.next x false t) (Instr.next x' false t):=by
 unfold Instr.next
 cases hx<;>try exact .st
 rename_i a a' h
 obtain⟨b,o,sp⟩:=a;obtain⟨b',o',sp'⟩:=a'
 obtain⟨h1,h2⟩:=h
 rcases h2 with hd|⟨h2,h3⟩
 ·cases o with
  |succ=>exact .st
  |zero=>exact .getObjD hd
 simp only at h1 h2 h3;subst h2;subst h3
 cases o' with
 |succ=>exact .st
 |zero=>
  refine SR.bnd (R:=fun ρ o o'=>OR ρ o o') (.getObj h1 fun o o' ho=>.pure ho) fun ρ2 o o' hl ho=>?_
  have h1:=h1.mono hl
  cases ho<;>try exact .st
  case mapIter0=>exact .pure (flat_VR rfl)
  case mapIter m m' hm since seen last=>
   dsimp only
   refine SR.bnd (R:=fun ρ o o'=>OR ρ o o') (.getObj hm fun o o' ho=>.pure ho) fun ρ3 o o' hl ho=>?_
   have h1:=h1.mono hl;have hm:=hm.mono hl
   cases ho<;>try exact .st
   rename_i es es' cl hE
   dsimp only
   rw[hE.emp,hE.allB (fun n=>decide (n≥last))]
   cases hb:(!seen.isEmpty&&!es.isEmpty&&es.all fun e=>decide (e.born≥last)) with
   |true=>
    simp only[if_true]
    exact SR.bnd (R:=fun _ _ _=>False) .un fun _ _ _ _ h=>h.elim
   |false=>
   simp only[Bool.false_eq_true,if_false]
   have hL:=hE.filter fun n=>!seen.contains n
   have hO:=hL.filter fun n=>decide (n<since)
   have hN:=hL.filter fun n=>decide (n≥since)
   have hC:=cand (b:=(Array.filter (fun e=>decide (e.born<since)) (Array.filter (fun e=>!seen.contains e.born) es)).isEmpty) (hO.append hN)
   rw[hO.emp]
   have hsz:((if (Array.filter (fun e=>decide (e.born<since)) (Array.filter (fun e=>!seen.contains e.born) es')).isEmpty=true then #[none] else #[])++(Array.filter (fun e=>decide (e.born<since)) (Array.filter (fun e=>!seen.contains e.born) es')++Array.filter (fun e=>decide (e.born≥since)) (Array.filter (fun e=>!seen.contains e.born) es')).map some:Array (Option MapEntry)).size=((if (Array.filter (fun e=>decide (e.born<since)) (Array.filter (fun e=>!seen.contains e.born) es)).isEmpty=true then #[none] else #[])++(Array.filter (fun e=>decide (e.born<since)) (Array.filter (fun e=>!seen.contains e.born) es)++Array.filter (fun e=>decide (e.born≥since)) (Array.filter (fun e=>!seen.contains e.born) es)).map some:Array (Option MapEntry)).size:=by
    rw[hO.emp]
    simp only[Array.size_append,Array.size_map,hO.1,hN.1]
   rw[hO.emp]at hsz
   rw[hsz]
   refine SR.bnd (R:=fun _ a b=>b=a) (.choose rfl (.pure rfl)) fun ρ4 i j hl4 e=>?_
   subst e
   rcases hC j with⟨k1,k2⟩|⟨k1,k2⟩|⟨u,u',k1,k2,k3⟩
   ·rw[k1,k2];exact .st
   ·rw[k1,k2];exact .pure (flat_VR rfl)
   ·rw[k1,k2]
    dsimp only
    have k3:=k3.mono hl4
    rw[k3.born]
    refine SR.bnd (R:=fun _ _ _=>True) (.setObj (h1.mono hl4) (.mapIter (hm.mono hl4) ..) (.pure trivial)) fun ρ5 _ _ hl5 _=>.pure (.tuple rfl fun i v v' h1 h2=>?_)
    cases i with
    |zero=>simp at h1 h2;subst h1;subst h2;exact .bool _
    |succ i=>
     cases i with
     |zero=>simp at h1 h2;subst h1;subst h2;exact k3.key.mono hl5
     |succ i=>
      cases i with
      |zero=>simp at h1 h2;subst h1;subst h2;exact k3.val.mono hl5
      |succ=>simp at h1
end
end Go.Proofs.YtmnoaeffocnnmaaGreatDoor

namespace Go.Proofs.YtmnoaeffocnnmaaGreatDoor
section
variable {P:Program} {ρ:PM}
theorem EL.erase:∀{l l':List MapEntry} (i:Nat),EL ρ l l'→EL ρ (l.eraseIdx i) (l'.eraseIdx i)
 |[],[],_,_=>⟨rfl,fun i x x' h=>by simp at h⟩
 |[],_::_,_,h=>by have:=h.1;simp at this
 |_::_,[],_,h=>by have:=h.1;simp at this
 |a::l,a'::l',0,h=>h.tail
 |a::l,a'::l',i+1,h=>by
  have h0:=h.2 0 a a' rfl rfl
  have ih:=EL.erase i h.tail
  refine⟨by simp [ih.1],fun j x x' h1 h2=>?_⟩
  cases j with
  |zero=>simp at h1 h2;subst h1;subst h2;exact h0
  |succ j=>exact ih.2 j x x' (by simpa using h1) (by simpa using h2)
theorem EsR.erase {c c':Array MapEntry} (h:EsR ρ c c') (i:Nat):EsR ρ (c.eraseIdxIfInBounds i) (c'.eraseIdxIfInBounds i):=by
 refine EL.es ?_
 have key:∀(c:Array MapEntry),(c.eraseIdxIfInBounds i).toList=c.toList.eraseIdx i:=fun c=>by
  unfold Array.eraseIdxIfInBounds
  split
  ·simp
  ·rename_i hn
   rw[List.eraseIdx_of_length_le (by simpa using hn)]
 rw[key,key]
 exact h.el.erase i
theorem zc_AV {z z':Array Value} (h:AV ρ z z') (n:Nat):AV ρ (Builtin.zeroCells z n) (Builtin.zeroCells z' n):=by
 unfold Builtin.zeroCells
 rw[show n*z'.size=n*z.size from by rw[h.1]]
 exact rep_AV h _
theorem vs_clear {at_:Array TypeId} {t:TypeId} (hz:∀u,at_[0]? =some u→∀e,P.underlying u=some (.slice e)→zOK P e=true) {x x':Value} (hx:VR ρ x x'):VS P ρ (Builtin.clear_ at_ t #[x]) (Builtin.clear_ at_ t #[x']):=by
 unfold Builtin.clear_
 cases hu:at_[0]? with
 |none=>exact .st
 |some u=>
  simp only[List.getElem?_toArray,List.getElem?_cons_zero]
  refine SR.bnd (R:=fun _ a b=>b=a∧P.underlying u=some a) ?_ fun ρ1 d d' hl e1=>?_
  ·unfold underlying
   refine se_program.bnd fun ρ' a b hl e1=>?_
   obtain⟨rfl,rfl⟩:=e1
   split
   ·rename_i d hd;exact .pure ⟨rfl,hd⟩
   ·exact .st
  obtain⟨rfl,hd⟩:=e1
  have hx:=hx.mono hl
  have fin:∀{ρ:PM},VS P ρ (pure (.tuple #[]):Sem Value) (pure (.tuple #[])):=fun {ρ}=>.pure (flat_VR rfl)
  have mp:∀{ρ:PM} {r r':Nat},BR ρ r r'→VS P ρ (do
     let __x←getObj r
     match __x with
      |.map _ clock=>do setObj r (.map #[] clock);pure (.tuple #[])
      |_=>do let _←(stuck "clear: map expected":Sem PUnit);pure (.tuple #[])) (do
     let __x←getObj r'
     match __x with
      |.map _ clock=>do setObj r' (.map #[] clock);pure (.tuple #[])
      |_=>do let _←(stuck "clear: map expected":Sem PUnit);pure (.tuple #[])):=fun {ρ r r'} h=>by
   refine SR.bnd (R:=fun ρ o o'=>OR ρ o o') (.getObj h fun o o' ho=>.pure ho) fun ρ2 o o' hl2 ho=>?_
   cases ho<;>try exact SR.bnd (R:=fun _ _ _=>False) .st fun _ _ _ _ h=>h.elim
   exact SR.bnd (R:=fun _ _ _=>True) (.setObj (h.mono hl2) (.map _ ⟨rfl,fun i x x' h=>by simp at h⟩) (.pure trivial)) fun _ _ _ _ _=>fin
  cases d'<;>cases hx<;>first|exact fin|exact SR.bnd (R:=fun _ _ _=>False) .st fun _ _ _ _ h=>h.elim|(rename_i h;exact mp h)|skip
  all_goals
   rename_i a a' l c c' h hc
   cases l with
   |zero=>exact fin
   |succ l=>
    first
     |exact SR.bnd (R:=fun _ _ _=>False) .st fun _ _ _ _ h=>h.elim
     |(refine (se_zero (hz u hu _ hd)).bnd fun ρ2 z z' hl2 hzz=>?_
       exact SR.bnd (sr_storeCells (h.mono hl2) _ _ 0 (zc_AV hzz.cells (l+1))) fun _ _ _ _ _=>fin)
theorem vs_delete {at_:Array TypeId} {t:TypeId} {x x' k:Value} (hx:VR ρ x x') (hs:scal k=true):VS P ρ (Builtin.delete_ at_ t #[x,k]) (Builtin.delete_ at_ t #[x',k]):=by
 unfold Builtin.delete_
 have fin:∀{ρ:PM},VS P ρ (pure (.tuple #[]):Sem Value) (pure (.tuple #[])):=fun {ρ}=>.pure (flat_VR rfl)
 cases hu:at_[0]? with
 |none=>exact .st
 |some u=>
  simp only[List.getElem?_toArray,List.getElem?_cons_zero,List.getElem?_cons_succ]
  refine (se_underlying u).bnd fun ρ1 d d' hl e=>?_
  subst e
  have hx:=hx.mono hl
  cases d'<;>try exact .st
  rename_i kt et
  cases hx<;>try exact SR.bnd (R:=fun _ _ _=>False) .st fun _ _ _ _ h=>h.elim
  ·exact SR.bnd (se_checkKey 10000 kt hs) fun _ _ _ _ _=>fin
  rename_i r r' h
  dsimp only
  refine SR.bnd (R:=fun ρ o o'=>OR ρ o o') (.getObj h fun o o' ho=>.pure ho) fun ρ2 o o' hl2 ho=>?_
  have h:=h.mono hl2
  cases ho<;>try exact SR.bnd (R:=fun _ _ _=>False) .st fun _ _ _ _ h=>h.elim
  rename_i es es' cl hE
  dsimp only
  refine (se_checkKey 10000 kt hs).bnd fun ρ3 _ _ hl3 _=>?_
  have h:=h.mono hl3;have hE:=hE.mono hl3
  refine (sr_findKey kt hs hE.el).bnd fun ρ4 a b hl4 hf=>?_
  have h:=h.mono hl4;have hE:=hE.mono hl4
  rcases hf with⟨rfl,rfl⟩|⟨i,u,u',rfl,rfl,_⟩
  ·exact SR.bnd (R:=fun _ _ _=>True) (.setObj h (.map _ hE) (.pure trivial)) fun _ _ _ _ _=>fin
  ·exact SR.bnd (R:=fun _ _ _=>True) (.setObj h (.map _ (hE.erase i)) (.pure trivial)) fun _ _ _ _ _=>fin
theorem vs_typeAssert1 {t at_:TypeId} (hd:∃d,P.underlying at_=some d∧∀m,d≠ .interface m) {v v':Value} (hx:VR ρ v v'):VS P ρ (Instr.typeAssert (.iface at_ v) t at_ false) (Instr.typeAssert (.iface at_ v') t at_ false):=by
 obtain⟨d,hd,hn⟩:=hd
 unfold Instr.typeAssert
 refine SR.bnd (R:=fun _ a b=>b=a∧a=d) ?_ fun ρ1 d1 d2 hl e1=>?_
 ·unfold underlying
  refine se_program.bnd fun ρ' a b hl e1=>?_
  obtain⟨rfl,rfl⟩:=e1
  rw[hd]
  exact .pure ⟨rfl,rfl⟩
 obtain⟨rfl,rfl⟩:=e1
 cases d2<;>first|exact absurd rfl (hn _)|(dsimp only;rw[if_pos rfl,if_pos rfl];exact .pure (hx.mono hl))
/-- the record of a loop over a function -/
theorem sr_getLoop {l l':Nat} (h:BR ρ l l'):SR P (fun ρ a b=>LR ρ a b) ρ (Instr.getLoop l) (Instr.getLoop l'):=by
 unfold Instr.getLoop
 refine SR.bnd (R:=fun ρ o o'=>OR ρ o o') (.getObj h fun o o' ho=>.pure ho) fun ρ2 o o' hl2 ho=>?_
 cases ho<;>try exact .st
 exact .pure (by assumption)
theorem se_begin {l l':Nat} (h:BR ρ l l'):SR P (fun _ _ _=>True) ρ (Instr.beginRound l) (Instr.beginRound l'):=by
 unfold Instr.beginRound
 refine (sr_getLoop h).bnd fun ρ1 r r' hl hr=>?_
 refine SR.bnd (R:=fun _ _ _=>True) (.setObj (h.mono hl) (.loop ⟨rfl,hr.pending,hr.tmps,hr.params,hr.assign,hr.body,hr.defers⟩) (.pure trivial)) fun ρ2 _ _ hl2 _=>?_
 rw[hr.state]
 cases r.state<;>first|exact .pure trivial|exact sr_panicRt trivial
theorem vs_endRound {l l':Nat} (h:BR ρ l l') (j:Option Code):VS P ρ (Instr.endRound l j) (Instr.endRound l' j):=by
 unfold Instr.endRound
 refine (sr_getLoop h).bnd fun ρ1 r r' hl hr=>?_
 refine SR.bnd (R:=fun _ _ _=>True) (.setObj (h.mono hl) (.loop ⟨rfl,rfl,hr.tmps,hr.params,hr.assign,hr.body,hr.defers⟩) (.pure trivial)) fun ρ2 _ _ hl2 _=>.pure (.bool _)
theorem sr_endLoop {l l':Nat} (h:BR ρ l l'):SR P (fun _ a b=>b=a) ρ (Instr.endLoop l) (Instr.endLoop l'):=by
 unfold Instr.endLoop
 refine (sr_getLoop h).bnd fun ρ1 r r' hl hr=>?_
 rw[hr.state]
 split
 ·exact SR.bnd (R:=fun _ _ _=>False) (sr_panicRt trivial) fun _ _ _ _ h=>h.elim
 ·exact SR.bnd (R:=fun _ _ _=>True) (.setObj (h.mono hl) (.loop ⟨rfl,hr.pending,hr.tmps,hr.params,hr.assign,hr.body,hr.defers⟩) (.pure trivial)) fun ρ2 _ _ hl2 _=>.pure hr.pending
def MkR (ρ:PM) (x y:Nat×List Deferred):Prop:=BR ρ x.1 y.1∧∃D D',x.2=[{target:= .collected D,args:=#[]}]∧y.2=[{target:= .collected D',args:=#[]}]∧BR ρ D D'
theorem sr_enterLoop (fn fn':FuncId) {tm tm':Array Value} (ht:AV ρ tm tm') (ps:Array Tmp) (a b:Code):SR P MkR ρ (Instr.enterLoop fn tm ps a b none) (Instr.enterLoop fn' tm' ps a b none):=by
 unfold Instr.enterLoop
 refine SR.bnd (R:=fun ρ n n'=>ρ n= .live n') (.new .deferred fun ρ' n n' hl hn _=>.pure hn) fun ρ1 n n' hl hn=>?_
 refine SR.bnd (R:=fun ρ m m'=>ρ m= .live m'∧BR ρ n n') (.new (.loop ⟨rfl,rfl,ht.mono hl,rfl,rfl,rfl,.inr hn⟩) fun ρ' m m' hl2 hm _=>.pure ⟨hm,BR.mono hl2 (.inr hn)⟩) fun ρ2 m m' hl2 hm=>?_
 exact .pure ⟨.inr hm.1,n,n',rfl,rfl,hm.2⟩
theorem sr_take {l l':Nat} (h:BR ρ l l'):SR P (fun _ a b=>a=[]∧b=[]) ρ (Instr.takeDeferred l) (Instr.takeDeferred l'):=by
 unfold Instr.takeDeferred
 refine SR.bnd (R:=fun ρ o o'=>OR ρ o o') (.getObj h fun o o' ho=>.pure ho) fun ρ2 o o' hl2 ho=>?_
 cases ho<;>try exact .st
 exact SR.bnd (R:=fun _ _ _=>True) (.setObj (h.mono hl2) .deferred0 (.pure trivial)) fun _ _ _ _ _=>.pure ⟨rfl,rfl⟩
theorem EL.find (p:Nat→Bool):∀{l l':List MapEntry},EL ρ l l'→(l.find? (fun e=>p e.born)=none∧l'.find? (fun e=>p e.born)=none)∨∃e e',l.find? (fun e=>p e.born)=some e∧l'.find? (fun e=>p e.born)=some e'∧ER ρ e e'
 |[],[],_=>.inl ⟨rfl,rfl⟩
 |[],_::_,h=>by have:=h.1;simp at this
 |_::_,[],h=>by have:=h.1;simp at this
 |a::l,a'::l',h=>by
  have h0:=h.2 0 a a' rfl rfl
  rw[List.find?_cons,List.find?_cons,h0.born]
  cases p a.born with
  |true=>exact .inr ⟨_,_,rfl,rfl,h0⟩
  |false=>exact EL.find p h.tail
theorem vs_entry {x x':Value} (hx:VR ρ x x'):VS P ρ (Instr.entry x) (Instr.entry x'):=by
 unfold Instr.entry
 cases hx<;>try exact .st
 rename_i a a' h
 obtain⟨b,o,sp⟩:=a;obtain⟨b',o',sp'⟩:=a'
 obtain⟨h1,h2⟩:=h
 rcases h2 with hd|⟨h2,h3⟩
 ·cases o with
  |succ=>exact .st
  |zero=>exact .getObjD hd
 simp only at h1 h2 h3;subst h2;subst h3
 cases o' with
 |succ=>exact .st
 |zero=>
  refine SR.bnd (R:=fun ρ o o'=>OR ρ o o') (.getObj h1 fun o o' ho=>.pure ho) fun ρ2 o o' hl ho=>?_
  cases ho<;>try exact .st
  rename_i m m' hm since seen last
  dsimp only
  cases seen.back? with
  |none=>exact .st
  |some stamp=>
   dsimp only
   refine SR.bnd (R:=fun ρ o o'=>OR ρ o o') (.getObj hm fun o o' ho=>.pure ho) fun ρ3 o o' hl ho=>?_
   cases ho<;>try exact .st
   rename_i es es' cl hE
   dsimp only
   split
   ·exact SR.bnd (R:=fun _ _ _=>False) .un fun _ _ _ _ h=>h.elim
   rw[←Array.find?_toList,←Array.find?_toList]
   rcases EL.find (fun b=>b==stamp) hE.el with⟨k1,k2⟩|⟨e,e',k1,k2,k3⟩
   ·rw[k1,k2];exact .un
   ·rw[k1,k2]
    refine .pure (.tuple rfl fun i v v' h1 h2=>?_)
    cases i with
    |zero=>simp at h1 h2;subst h1;subst h2;exact k3.key
    |succ i=>
     cases i with
     |zero=>simp at h1 h2;subst h1;subst h2;exact k3.val
     |succ=>simp at h1
end
end Go.Proofs.YtmnoaeffocnnmaaGreatDoor
