import Derived.Test.YtngglbakkedaiaaGreatDoorEF
set_option linter.all false
namespace Go.Proofs.YtngglbakkedaiaaGreatDoor
section
section
variable {P:Program} {ρ:PM}
theorem se_asInt {v v':Value} (h:VR ρ v v'):SE P ρ (asInt v) (asInt v'):=by
 unfold asInt
 exact (se_asIntOf h).bnd fun _ a b _ e=>.pure (by rw[e])
theorem se_askRoom (n:Nat):SE P ρ (askRoom n) (askRoom n):=by
 unfold askRoom
 split
 ·exact .mark (.pure rfl)
 ·exact .pure rfl
theorem wrap_small {m:Nat} (h:m<1000000):(IntKind.i64.wrap (Int.ofNat m)).toNat=m:=by
 have h1:(Int.ofNat m)<1000000:=by exact Int.ofNat_lt.2 h
 have h0:0≤Int.ofNat m:=Int.natCast_nonneg m
 unfold IntKind.wrap IntKind.bits IntKind.signed
 dsimp only
 have:(Int.ofNat m)%(2^64:Int)=Int.ofNat m:=Int.emod_eq_of_lt h0 (by omega)
 rw[this]
 split
 ·rename_i hc
  simp only[Bool.true_and,decide_eq_true_eq]at hc
  omega
 ·rfl
theorem vs_makeSlice {t e:TypeId} (he:P.underlying t=some (.slice e)) (hz:zOK P e=true) {l l' c':Value} {k:IntKind} {m:Nat} (hm:m<1000000) (h1:VR ρ l l') (h2:VR ρ (.int k (.ofNat m)) c'):VS P ρ (Instr.makeSlice t l (.int k (.ofNat m))) (Instr.makeSlice t l' c'):=by
 cases h2
 unfold Instr.makeSlice
 refine SR.bnd (R:=fun _ a b=>b=a∧a= .slice e) ?_ fun ρ1 d d' hl e1=>?_
 ·unfold underlying
  refine se_program.bnd fun ρ' a b hl e1=>?_
  obtain⟨rfl,rfl⟩:=e1
  rw[he]
  exact .pure ⟨rfl,rfl⟩
 obtain⟨rfl,rfl⟩:=e1
 dsimp only
 refine (se_asInt (h1.mono hl)).bnd fun ρ2 x x' hl2 e1=>?_
 subst e1
 refine SR.bnd (R:=fun _ a b=>b=a∧a=Int.ofNat m) (s:=asInt (.int k (.ofNat m))) (s':=asInt (.int k (.ofNat m))) (.pure ⟨rfl,rfl⟩) fun ρ3 y y' hl3 e1=>?_
 obtain⟨rfl,hy⟩:=e1
 refine (se_typeInfo e).bnd fun ρ4 i i' hl4 e1=>?_
 obtain⟨rfl,_⟩:=e1
 split
 ·split
  ·exact SR.bnd (R:=fun _ (_ _:Unit)=>False) (sr_panicRt trivial) fun _ _ _ _ h=>h.elim
  ·split
   ·exact SR.bnd (R:=fun _ (_ _:Unit)=>False) (sr_panicRt trivial) fun _ _ _ _ h=>h.elim
   ·refine SR.bnd (R:=fun _ a b=>b=a) (s:=choose _) (s':=choose _) (.choose rfl (.pure rfl)) fun ρ5 a b hl5 e1=>?_
    subst e1
    exact SR.bnd (R:=fun _ (_ _:Unit)=>False) (sr_panicRt trivial) fun _ _ _ _ h=>h.elim
 ·refine (se_askRoom _).bnd fun ρ5 _ _ hl5 _=>?_
  refine (se_sizeOf e).bnd fun ρ6 a b hl6 e1=>?_
  subst e1
  have tail:∀{ρ:PM} {z z':Array Value},AV ρ z z'→VS P ρ (do
     let a←newRow e ((Array.range ((IntKind.i64.wrap y').toNat*b)).map (fun x=>z[x%z.size]!))
     pure (Value.slice (some a) (IntKind.i64.wrap x').toNat (IntKind.i64.wrap y').toNat)) (do
     let a←newRow e ((Array.range ((IntKind.i64.wrap y').toNat*b)).map (fun x=>z'[x%z'.size]!))
     pure (Value.slice (some a) (IntKind.i64.wrap x').toNat (IntKind.i64.wrap y').toNat)):=fun hA=>
    (sr_newRow e (rep_AV hA _)).bnd fun ρ x y hl hA=>.pure (.sl hA (.inl ⟨by rw[hy,wrap_small hm];unfold LOO;omega,rfl⟩))
  split
  ·exact SR.bnd (R:=fun ρ a b=>AV ρ a b) (.pure AV.nil) fun ρ3 z z' hl3 hA=>tail hA
  ·exact (se_zero hz).bnd fun ρ3 z z' hl3 hv=>SR.bnd (R:=fun ρ a b=>AV ρ a b) (.pure hv.cells) fun ρ4 y y' hl4 hA=>tail hA
def scal:Value→Bool
 |.int _ _=>true
 |.string _=>true
 |_=>false
theorem scal_eq {k k':Value} (hs:scal k=true) (h:VR ρ k k'):k'=k:=by
 cases h<;>first|rfl|cases hs
theorem se_checkKey {b b':Bool} (n:Nat) (t:TypeId) {k:Value} (hs:scal k=true):SE P ρ (Instr.checkKey b n t k) (Instr.checkKey b' n t k):=by
 cases n with
 |zero=>exact .un
 |succ n=>
  unfold Instr.checkKey
  refine (se_underlying t).bnd fun ρ1 d d' hl e=>?_
  subst e
  cases k<;>first|cases hs|skip
  ·cases d'<;>first|exact .pure rfl|exact .st
  ·cases d'<;>first|exact .pure rfl|exact .st
theorem sameNow_eq (d:TypeDesc) {k x x':Value} (hs:scal k=true) (h:VR ρ x x'):Instr.sameNow d k x'=Instr.sameNow d k x:=by
 cases k<;>first|cases hs|skip
 ·cases d<;>cases h<;>rfl
 ·cases d<;>cases h<;>rfl
def FOR (ρ:PM) (a b:Option (Nat×Value)):Prop:=(a=none∧b=none)∨∃i v v',a=some (i,v)∧b=some (i,v')∧VR ρ v v'
theorem FOR.mono {ρ ρ':PM} (hl:PLe ρ ρ') {a b:Option (Nat×Value)} (h:FOR ρ a b):FOR ρ' a b:=h.imp id fun⟨i,v,v',e,e',h⟩=>⟨i,v,v',e,e',h.mono hl⟩
def EL (ρ:PM) (l l':List MapEntry):Prop:=l.length=l'.length∧∀(i:Nat) x x',l[i]? =some x→l'[i]? =some x'→ER ρ x x'
theorem EL.tail {a a':MapEntry} {l l':List MapEntry} (h:EL ρ (a::l) (a'::l')):EL ρ l l':=⟨by have:=h.1;simpa using this,fun j u u' h1 h2=>h.2 (j+1) u u' (by simpa using h1) (by simpa using h2)⟩
theorem EsR.el {c c':Array MapEntry} (h:EsR ρ c c'):EL ρ c.toList c'.toList:=⟨by simpa using h.1,fun i x x' h1 h2=>h.2 i x x' (by simpa using h1) (by simpa using h2)⟩
theorem findNow_rel (d:TypeDesc) {k:Value} (hs:scal k=true):∀(l l':List MapEntry) (i:Nat),EL ρ l l'→(Instr.findNow d k l i=none∧Instr.findNow d k l' i=none)∨∃a b,Instr.findNow d k l i=some a∧Instr.findNow d k l' i=some b∧FOR ρ a b
 |[],[],i,_=>.inr ⟨_,_,rfl,rfl,.inl ⟨rfl,rfl⟩⟩
 |[],_::_,_,h=>by have:=h.1;simp at this
 |_::_,[],_,h=>by have:=h.1;simp at this
 |a::l,a'::l',i,h=>by
  have h0:=h.2 0 a a' rfl rfl
  unfold Instr.findNow
  rw[sameNow_eq d hs h0.key]
  cases Instr.sameNow d k a.key with
  |none=>exact .inl ⟨rfl,rfl⟩
  |some b=>
   cases b with
   |true=>exact .inr ⟨_,_,rfl,rfl,.inr ⟨_,_,_,rfl,rfl,h0.val⟩⟩
   |false=>exact findNow_rel d hs l l' (i+1) h.tail
theorem EL.mono {ρ ρ':PM} (hl:PLe ρ ρ') {c c':List MapEntry} (h:EL ρ c c'):EL ρ' c c':=⟨h.1,fun i v v' a b=>(h.2 i v v' a b).mono hl⟩
theorem se_equal1 (t:TypeId) {k x x':Value} (hs:scal k=true) (h:VR ρ x x'):SE P ρ (Op.equal t k x) (Op.equal t k x'):=by
 unfold Op.equal Op.maxDepth
 unfold Op.equalIn
 refine (se_underlying t).bnd fun ρ1 d d' hl e=>?_
 subst e
 have h:=h.mono hl
 cases k<;>first|cases hs|skip
 ·rename_i ki n
  rcases n with (_|m)|m
  all_goals (cases d'<;>cases h<;>first|exact .st|exact .un|exact .pure rfl|(dsimp only;split<;>first|exact .st|exact .pure rfl))
 ·cases d'<;>cases h<;>first|exact .st|exact .un|exact .pure rfl
theorem sr_findAsking (t:TypeId) {k:Value} (hs:scal k=true):∀(ρ:PM) (l l':List MapEntry) (i:Nat),EL ρ l l'→SR P (fun ρ a b=>FOR ρ a b) ρ (Instr.findAsking t k l i) (Instr.findAsking t k l' i)
 |ρ,[],[],i,_=>.pure (.inl ⟨rfl,rfl⟩)
 |_,[],_::_,_,h=>by have:=h.1;simp at this
 |_,_::_,[],_,h=>by have:=h.1;simp at this
 |ρ,a::l,a'::l',i,h=>by
  have h0:=h.2 0 a a' rfl rfl
  unfold Instr.findAsking
  refine (se_equal1 t hs h0.key).bnd fun ρ1 x y hl e=>?_
  subst e
  split
  ·exact .pure (.inr ⟨_,_,_,rfl,rfl,h0.val.mono hl⟩)
  ·exact sr_findAsking t hs ρ1 l l' (i+1) (h.tail.mono hl)
theorem sr_findKey (t:TypeId) {k:Value} (hs:scal k=true) {l l':List MapEntry} (h:EL ρ l l'):SR P (fun ρ a b=>FOR ρ a b) ρ (Instr.findKey t k l) (Instr.findKey t k l'):=by
 unfold Instr.findKey
 refine (se_underlying t).bnd fun ρ1 d d' hl e=>?_
 subst e
 have h:=h.mono hl
 rcases findNow_rel d' hs l l' 0 h with⟨h1,h2⟩|⟨a,b,h1,h2,h3⟩
 ·rw[h1,h2];exact sr_findAsking t hs _ _ _ _ h
 ·rw[h1,h2];exact .pure h3
theorem vs_lookup {t kt e:TypeId} (he:P.underlying t=some (.map kt e)) (hz:zOK P e=true) {x x' k:Value} (hx:VR ρ x x') (hs:scal k=true) (ok:Bool):VS P ρ (Instr.lookup t x k ok) (Instr.lookup t x' k ok):=by
 unfold Instr.lookup
 refine SR.bnd (R:=fun _ a b=>b=a∧a= .map kt e) ?_ fun ρ1 d d' hl e1=>?_
 ·unfold underlying
  refine se_program.bnd fun ρ' a b hl e1=>?_
  obtain⟨rfl,rfl⟩:=e1
  rw[he]
  exact .pure ⟨rfl,rfl⟩
 obtain⟨rfl,rfl⟩:=e1
 have hx:=hx.mono hl
 have two:∀{ρ:PM} {v v':Value} (b:Bool),VR ρ v v'→VR ρ (.tuple #[v,.bool b]) (.tuple #[v',.bool b]):=fun b h=>.tuple rfl fun i u u' h1 h2=>by
  cases i with
  |zero=>simp at h1 h2;subst h1;subst h2;exact h
  |succ i=>
   cases i with
   |zero=>simp at h1 h2;subst h1;subst h2;exact .bool _
   |succ=>simp at h1
 have fin:∀{ρ:PM} {v v':Value} (b:Bool),VR ρ v v'→VS P ρ (pure (if ok then .tuple #[v,.bool b] else v)) (pure (if ok then .tuple #[v',.bool b] else v')):=fun b h=>.pure (by split;exact two b h;exact h)
 have tail:∀{ρ:PM} {es es':Array MapEntry},EsR ρ es es'→VS P ρ (do
    Instr.checkKey es.isEmpty 10000 kt k
    match ← Instr.findKey kt k es.toList with
    |some (_,v)=>do let y←pure (v,true);(match y with|(v,b)=>pure (if ok then .tuple #[v,.bool b] else v))
    |none=>do let z←zeroValue e;let y←pure (z,false);(match y with|(v,b)=>pure (if ok then .tuple #[v,.bool b] else v))) (do
    Instr.checkKey es'.isEmpty 10000 kt k
    match ← Instr.findKey kt k es'.toList with
    |some (_,v)=>do let y←pure (v,true);(match y with|(v,b)=>pure (if ok then .tuple #[v,.bool b] else v))
    |none=>do let z←zeroValue e;let y←pure (z,false);(match y with|(v,b)=>pure (if ok then .tuple #[v,.bool b] else v))):=fun hE=>by
  refine (se_checkKey 10000 kt hs).bnd fun ρ2 _ _ hl2 _=>?_
  refine (sr_findKey kt hs (hE.el.mono hl2)).bnd fun ρ3 a b hl3 hf=>?_
  rcases hf with⟨rfl,rfl⟩|⟨i,v,v',rfl,rfl,hv⟩
  ·exact (se_zero hz).bnd fun ρ4 z z' hl4 hv=>fin false hv
  ·exact fin true hv
 cases hx<;>try exact SR.bnd (R:=fun _ (_ _:Array MapEntry)=>False) .st fun _ _ _ _ h=>h.elim
 ·exact tail ⟨rfl,fun i v v' h=>by simp at h⟩
 ·rename_i h
  refine SR.bnd (R:=fun ρ o o'=>OR ρ o o') (.getObj h fun o o' ho=>.pure ho) fun ρ2 o o' hl2 ho=>?_
  cases ho<;>try exact SR.bnd (R:=fun _ (_ _:Array MapEntry)=>False) .st fun _ _ _ _ h=>h.elim
  rename_i h
  exact tail h
end
end
section
section
variable {P:Program} {ρ:PM}
theorem EsR.push {c c':Array MapEntry} (h:EsR ρ c c') {v v':MapEntry} (hv:ER ρ v v'):EsR ρ (c.push v) (c'.push v'):=⟨by simp [h.1],fun i u u' h1 h2=>by
 rw[Array.getElem?_push]at h1 h2
 rw[←h.1]at h2
 split at h1
 ·rename_i e;rw[if_pos e]at h2;cases h1;cases h2;exact hv
 ·rename_i e;rw[if_neg e]at h2;exact h.2 i u u' h1 h2⟩
theorem EsR.modify {c c':Array MapEntry} (h:EsR ρ c c') (i:Nat) {f f':MapEntry→MapEntry} (hf:∀x x',ER ρ x x'→ER ρ (f x) (f' x')):EsR ρ (c.modify i f) (c'.modify i f'):=⟨by simp [h.1],fun j u u' h1 h2=>by
 rw[Array.getElem?_modify]at h1 h2
 split at h1
 ·rename_i e;rw[if_pos e]at h2
  simp only[Option.map_eq_some_iff]at h1 h2
  obtain⟨x,hx,rfl⟩:=h1;obtain⟨x',hx',rfl⟩:=h2
  exact hf _ _ (h.2 j x x' hx hx')
 ·rename_i e;rw[if_neg e]at h2;exact h.2 j u u' h1 h2⟩
theorem sameBits_eq (n:Nat) {k x x':Value} (hs:scal k=true) (h:VR ρ x x'):Instr.sameBits (n+1) x' k=Instr.sameBits (n+1) x k:=by
 cases k<;>first|cases hs|skip
 ·cases h<;>rfl
 ·cases h<;>rfl
theorem se_keyThatStays {k x x':Value} (hs:scal k=true) (h:VR ρ x x'):VS P ρ (Instr.keyThatStays x k) (Instr.keyThatStays x' k):=by
 unfold Instr.keyThatStays
 rw[sameBits_eq 9999 hs h]
 have hk:∀{ρ:PM},VR ρ k k:=by
  intro ρ
  cases k<;>first|exact .int ..|exact .string ..|cases hs
 split
 ·exact .pure hk
 ·exact SR.bnd (R:=fun _ a b=>b=a) (s:=choose _) (s':=choose _) (.choose rfl (.pure rfl)) fun ρ1 a b hl e=>.pure (by subst e;split;exact hk;exact h.mono hl)
theorem se_mapUpdate {t:TypeId} {x x' k v v':Value} (hx:VR ρ x x') (hs:scal k=true) (hv:VR ρ v v'):SR P (fun _ _ _=>True) ρ (Instr.mapUpdate t x k v) (Instr.mapUpdate t x' k v'):=by
 have hk:∀{ρ:PM},VR ρ k k:=by
  intro ρ
  cases k<;>first|exact .int ..|exact .string ..|cases hs
 unfold Instr.mapUpdate
 refine (se_underlying t).bnd fun ρ1 d d' hl e=>?_
 subst e
 have hx:=hx.mono hl;have hv:=hv.mono hl
 cases d'<;>try exact .st
 rename_i kt et
 cases hx<;>try exact .st
 ·exact sr_panicRt trivial
 rename_i r r' h
 dsimp only
 refine SR.bnd (R:=fun ρ o o'=>OR ρ o o') (.getObj h fun o o' ho=>.pure ho) fun ρ2 o o' hl2 ho=>?_
 have h:=h.mono hl2;have hv:=hv.mono hl2
 cases ho<;>try exact .st
 rename_i es es' cl hE
 refine (se_checkKey 10000 kt hs).bnd fun ρ3 _ _ hl3 _=>?_
 have h:=h.mono hl3;have hv:=hv.mono hl3;have hE:=hE.mono hl3
 refine (sr_findKey kt hs hE.el).bnd fun ρ4 a b hl4 hf=>?_
 have h:=h.mono hl4;have hv:=hv.mono hl4;have hE:=hE.mono hl4
 rcases hf with⟨rfl,rfl⟩|⟨i,u,u',rfl,rfl,_⟩
 ·exact .setObj h (.map _ (hE.push ⟨hk,hv,rfl⟩)) (.pure trivial)
 ·dsimp only
  refine SR.bnd (R:=fun ρ a b=>VR ρ a b) (s:=Instr.keyThatStays ((es[i]?.map (·.key)).getD k) k) (s':=Instr.keyThatStays ((es'[i]?.map (·.key)).getD k) k) (se_keyThatStays hs ?_) fun ρ5 a b hl5 hab=>?_
  ·by_cases hi:i<es.size
   ·have hi':i<es'.size:=by rw[←hE.1];exact hi
    rw[Array.getElem?_eq_getElem hi,Array.getElem?_eq_getElem hi']
    exact (hE.2 i _ _ (Array.getElem?_eq_getElem hi) (Array.getElem?_eq_getElem hi')).key
   ·have hi':¬i<es'.size:=by rw[←hE.1];exact hi
    rw[Array.getElem?_eq_none (by omega),Array.getElem?_eq_none (by omega)]
    exact hk
  ·exact .setObj (h.mono hl5) (.map _ ((hE.mono hl5).modify i fun x x' hx=>⟨hab,hv.mono hl5,hx.born⟩)) (.pure trivial)
def NRi (ρ:PM):Next→Next→Prop
 |.value v,.value v'=>VR ρ v v'
 |.skip,.skip=>True
 |_,_=>False
theorem nr_v {s s':Sem Value} (h:VS P ρ s s'):SR P NRi ρ (do pure (.value (← s))) (do pure (.value (← s'))):=SR.bnd h fun _ _ _ _ hv=>.pure hv
theorem nr_u {R:PM→Unit→Unit→Prop} {s s':Sem Unit} (h:SR P R ρ s s'):SR P NRi ρ (do s;pure .skip) (do s';pure .skip):=SR.bnd h fun _ _ _ _ _=>.pure trivial
theorem vs_makeFunc {fn:Fn} {f f' c c':Array Value} (h0:FR ρ fn fn) (hf:AV ρ f f') (hc:AV ρ c c'):VS P ρ (Instr.makeFunc fn f c) (Instr.makeFunc fn f' c'):=.pure (.func h0 hf.1 hf.2 hc.1 hc.2)
theorem vs_len {at_:Array TypeId} {t:TypeId} {x x':Value} (hx:VR ρ x x'):VS P ρ (Builtin.len_ at_ t #[x]) (Builtin.len_ at_ t #[x']):=by
 unfold Builtin.len_
 cases at_[0]? with
 |none=>exact .st
 |some u=>
  simp only[List.getElem?_toArray,List.getElem?_cons_zero]
  refine (se_underlying u).bnd fun ρ1 d d' hl e=>?_
  subst e
  have hx:=hx.mono hl
  cases d'
  case pointer arr=>
   refine (se_underlying arr).bnd fun ρ2 d d' hl2 e=>?_
   subst e
   cases d'<;>first|exact .st|exact .pure (.int ..)
  case array=>exact .pure (.int ..)
  all_goals (cases hx<;>first|exact .st|exact .pure (.int ..)|skip)
  all_goals
   rename_i h
   refine SR.bnd (R:=fun ρ o o'=>OR ρ o o') (.getObj h fun o o' ho=>.pure ho) fun ρ2 o o' hl2 ho=>?_
   cases ho<;>try exact .st
   rename_i hE
   exact .pure (by rw[hE.1];exact .int ..)
end
end
section
section
variable {P:Program} {ρ:PM}
theorem EL.filter (p:Nat→Bool):∀{l l':List MapEntry},EL ρ l l'→EL ρ (l.filter fun e=>p e.born) (l'.filter fun e=>p e.born)
 |[],[],_=>⟨rfl,fun i x x' h=>by simp at h⟩
 |[],_::_,h=>by have:=h.1;simp at this
 |_::_,[],h=>by have:=h.1;simp at this
 |a::l,a'::l',h=>by
  have h0:=h.2 0 a a' rfl rfl
  have ih:=EL.filter p h.tail
  rw[List.filter_cons,List.filter_cons,h0.born]
  split
  ·refine⟨by simp [ih.1],fun i x x' h1 h2=>?_⟩
   cases i with
   |zero=>simp at h1 h2;subst h1;subst h2;exact h0
   |succ i=>exact ih.2 i x x' (by simpa using h1) (by simpa using h2)
  ·exact ih
theorem EL.es {c c':Array MapEntry} (h:EL ρ c.toList c'.toList):EsR ρ c c':=⟨by simpa using h.1,fun i x x' h1 h2=>h.2 i x x' (by simpa using h1) (by simpa using h2)⟩
theorem EsR.filter (p:Nat→Bool) {c c':Array MapEntry} (h:EsR ρ c c'):EsR ρ (c.filter fun e=>p e.born) (c'.filter fun e=>p e.born):=by
 refine EL.es ?_
 rw[Array.toList_filter,Array.toList_filter]
 exact EL.filter p h.el
theorem EsR.append {c c' d d':Array MapEntry} (h:EsR ρ c c') (k:EsR ρ d d'):EsR ρ (c++d) (c'++d'):=⟨by simp [h.1,k.1],fun i u u' h1 h2=>by
 rw[Array.getElem?_append]at h1 h2
 rw[←h.1]at h2
 split at h1
 ·rename_i e;rw[if_pos e]at h2;exact h.2 i u u' h1 h2
 ·rename_i e;rw[if_neg e]at h2;exact k.2 _ u u' h1 h2⟩
theorem EL.allB (p:Nat→Bool):∀{l l':List MapEntry},EL ρ l l'→(l'.all fun e=>p e.born)=(l.all fun e=>p e.born)
 |[],[],_=>rfl
 |[],_::_,h=>by have:=h.1;simp at this
 |_::_,[],h=>by have:=h.1;simp at this
 |a::l,a'::l',h=>by
  have h0:=h.2 0 a a' rfl rfl
  rw[List.all_cons,List.all_cons,h0.born,EL.allB p h.tail]
theorem EsR.allB (p:Nat→Bool) {c c':Array MapEntry} (h:EsR ρ c c'):(c'.all fun e=>p e.born)=(c.all fun e=>p e.born):=by
 rw[←Array.all_toList,←Array.all_toList]
 exact h.el.allB p
theorem EsR.emp {c c':Array MapEntry} (h:EsR ρ c c'):c'.isEmpty=c.isEmpty:=by
 unfold Array.isEmpty;rw[h.1]
theorem cand {b:Bool} {c c':Array MapEntry} (h:EsR ρ c c') (i:Nat):
  ((((if b then #[none] else #[])++c.map some:Array (Option MapEntry))[i]? =none∧((if b then #[none] else #[])++c'.map some:Array (Option MapEntry))[i]? =none)∨
  (((if b then #[none] else #[])++c.map some:Array (Option MapEntry))[i]? =some none∧((if b then #[none] else #[])++c'.map some:Array (Option MapEntry))[i]? =some none)∨
  ∃e e',((if b then #[none] else #[])++c.map some:Array (Option MapEntry))[i]? =some (some e)∧((if b then #[none] else #[])++c'.map some:Array (Option MapEntry))[i]? =some (some e')∧ER ρ e e'):=by
 have key:∀j,((c.map some)[j]? =none∧(c'.map some)[j]? =none)∨∃e e',(c.map some)[j]? =some (some e)∧(c'.map some)[j]? =some (some e')∧ER ρ e e':=fun j=>by
  by_cases hj:j<c.size
  ·have hj':j<c'.size:=by rw[←h.1];exact hj
   refine .inr ⟨c[j],c'[j],by rw[Array.getElem?_map,Array.getElem?_eq_getElem hj];rfl,by rw[Array.getElem?_map,Array.getElem?_eq_getElem hj'];rfl,h.2 j _ _ (Array.getElem?_eq_getElem hj) (Array.getElem?_eq_getElem hj')⟩
  ·have hj':¬j<c'.size:=by rw[←h.1];exact hj
   exact .inl ⟨by rw[Array.getElem?_map,Array.getElem?_eq_none (by omega)];rfl,by rw[Array.getElem?_map,Array.getElem?_eq_none (by omega)];rfl⟩
 cases b with
 |false=>
  simp only[Bool.false_eq_true,if_false]
  rw[Array.getElem?_append,Array.getElem?_append]
  simp only[List.size_toArray,List.length_nil,Nat.not_lt_zero,if_false,Nat.sub_zero]
  rcases key i with k|k
  ·exact .inl k
  ·exact .inr (.inr k)
 |true=>
  simp only[if_true]
  rw[Array.getElem?_append,Array.getElem?_append]
  simp only[List.size_toArray,List.length_cons,List.length_nil]
  split
  ·rename_i hi
   have:i=0:=by omega
   subst this
   exact .inr (.inl ⟨rfl,rfl⟩)
  ·rcases key (i-(0+1)) with k|k
   ·exact .inl k
   ·exact .inr (.inr k)
theorem vs_rangeM {t:TypeId} {x x':Value} (hx:VR ρ x x'):VS P ρ (Instr.range t x) (Instr.range t x'):=by
 unfold Instr.range
 refine (se_underlying t).bnd fun ρ2 d d' hl2 e=>?_
 subst e
 have hx:=hx.mono hl2
 have tail:∀{ρ:PM} {o o':Obj},OR ρ o o'→VS P ρ (do pure (Value.pointer (some ⟨←newObj o,0,none⟩))) (do pure (Value.pointer (some ⟨←newObj o',0,none⟩))):=fun h=>
  SR.bnd (R:=fun ρ n n'=>ρ n= .live n') (.new h fun ρ' n n' hl hn _=>.pure hn) fun ρ' n n' hl hn=>.pure (.ptr (AR.mk (.inr hn) rfl rfl))
 cases d'<;>cases hx<;>first|exact .st|skip
 ·exact tail (.stringIter ..)
 ·exact tail (.mapIter0 ..)
 ·rename_i h
  dsimp only
  refine SR.bnd (R:=fun ρ o o'=>OR ρ o o') (.getObj h fun o o' ho=>.pure ho) fun ρ2 o o' hl2 ho=>?_
  cases ho<;>try exact .st
  exact tail (.mapIter (h.mono hl2) ..)
theorem vs_nextM {x x':Value} (hx:VR ρ x x') (t:TypeId):VS P ρ (Instr.next x false t) (Instr.next x' false t):=by
 unfold Instr.next
 cases hx<;>try exact .st
 rename_i a a' h
 obtain⟨b,o,sp⟩:=a;obtain⟨b',o',sp'⟩:=a'
 obtain⟨h1,h2⟩:=h
 rcases h2 with hd|⟨h2,h3⟩
 ·cases o with
  |succ=>exact .st
  |zero=>exact .getObjD hd
 simp only at h1 h2 h3;subst h2;subst h3
 cases o' with
 |succ=>exact .st
 |zero=>
  refine SR.bnd (R:=fun ρ o o'=>OR ρ o o') (.getObj h1 fun o o' ho=>.pure ho) fun ρ2 o o' hl ho=>?_
  have h1:=h1.mono hl
  cases ho<;>try exact .st
  case mapIter0=>exact .pure (flat_VR rfl)
  case mapIter m m' hm since seen last=>
   dsimp only
   refine SR.bnd (R:=fun ρ o o'=>OR ρ o o') (.getObj hm fun o o' ho=>.pure ho) fun ρ3 o o' hl ho=>?_
   have h1:=h1.mono hl;have hm:=hm.mono hl
   cases ho<;>try exact .st
   rename_i es es' cl hE
   dsimp only
   rw[hE.emp,hE.allB (fun n=>decide (n≥last))]
   cases hb:(!seen.isEmpty&&!es.isEmpty&&es.all fun e=>decide (e.born≥last)) with
   |true=>
    simp only[if_true]
    exact SR.bnd (R:=fun _ _ _=>False) .un fun _ _ _ _ h=>h.elim
   |false=>
   simp only[Bool.false_eq_true,if_false]
   have hL:=hE.filter fun n=>!seen.contains n
   have hO:=hL.filter fun n=>decide (n<since)
   have hN:=hL.filter fun n=>decide (n≥since)
   have hC:=cand (b:=(Array.filter (fun e=>decide (e.born<since)) (Array.filter (fun e=>!seen.contains e.born) es)).isEmpty) (hO.append hN)
   rw[hO.emp]
   have hsz:((if (Array.filter (fun e=>decide (e.born<since)) (Array.filter (fun e=>!seen.contains e.born) es')).isEmpty=true then #[none] else #[])++(Array.filter (fun e=>decide (e.born<since)) (Array.filter (fun e=>!seen.contains e.born) es')++Array.filter (fun e=>decide (e.born≥since)) (Array.filter (fun e=>!seen.contains e.born) es')).map some:Array (Option MapEntry)).size=((if (Array.filter (fun e=>decide (e.born<since)) (Array.filter (fun e=>!seen.contains e.born) es)).isEmpty=true then #[none] else #[])++(Array.filter (fun e=>decide (e.born<since)) (Array.filter (fun e=>!seen.contains e.born) es)++Array.filter (fun e=>decide (e.born≥since)) (Array.filter (fun e=>!seen.contains e.born) es)).map some:Array (Option MapEntry)).size:=by
    rw[hO.emp]
    simp only[Array.size_append,Array.size_map,hO.1,hN.1]
   rw[hO.emp]at hsz
   rw[hsz]
   refine SR.bnd (R:=fun _ a b=>b=a) (.choose rfl (.pure rfl)) fun ρ4 i j hl4 e=>?_
   subst e
   rcases hC j with⟨k1,k2⟩|⟨k1,k2⟩|⟨u,u',k1,k2,k3⟩
   ·rw[k1,k2];exact .st
   ·rw[k1,k2];exact .pure (flat_VR rfl)
   ·rw[k1,k2]
    dsimp only
    have k3:=k3.mono hl4
    rw[k3.born]
    refine SR.bnd (R:=fun _ _ _=>True) (.setObj (h1.mono hl4) (.mapIter (hm.mono hl4) ..) (.pure trivial)) fun ρ5 _ _ hl5 _=>.pure (.tuple rfl fun i v v' h1 h2=>?_)
    cases i with
    |zero=>simp at h1 h2;subst h1;subst h2;exact .bool _
    |succ i=>
     cases i with
     |zero=>simp at h1 h2;subst h1;subst h2;exact k3.key.mono hl5
     |succ i=>
      cases i with
      |zero=>simp at h1 h2;subst h1;subst h2;exact k3.val.mono hl5
      |succ=>simp at h1
end
end
section
section
variable {P:Program} {ρ:PM}
theorem EL.erase:∀{l l':List MapEntry} (i:Nat),EL ρ l l'→EL ρ (l.eraseIdx i) (l'.eraseIdx i)
 |[],[],_,_=>⟨rfl,fun i x x' h=>by simp at h⟩
 |[],_::_,_,h=>by have:=h.1;simp at this
 |_::_,[],_,h=>by have:=h.1;simp at this
 |a::l,a'::l',0,h=>h.tail
 |a::l,a'::l',i+1,h=>by
  have h0:=h.2 0 a a' rfl rfl
  have ih:=EL.erase i h.tail
  refine⟨by simp [ih.1],fun j x x' h1 h2=>?_⟩
  cases j with
  |zero=>simp at h1 h2;subst h1;subst h2;exact h0
  |succ j=>exact ih.2 j x x' (by simpa using h1) (by simpa using h2)
theorem EsR.erase {c c':Array MapEntry} (h:EsR ρ c c') (i:Nat):EsR ρ (c.eraseIdxIfInBounds i) (c'.eraseIdxIfInBounds i):=by
 refine EL.es ?_
 have key:∀(c:Array MapEntry),(c.eraseIdxIfInBounds i).toList=c.toList.eraseIdx i:=fun c=>by
  unfold Array.eraseIdxIfInBounds
  split
  ·simp
  ·rename_i hn
   rw[List.eraseIdx_of_length_le (by simpa using hn)]
 rw[key,key]
 exact h.el.erase i
theorem zc_AV {z z':Array Value} (h:AV ρ z z') (n:Nat):AV ρ (Builtin.zeroCells z n) (Builtin.zeroCells z' n):=by
 unfold Builtin.zeroCells
 rw[show n*z'.size=n*z.size from by rw[h.1]]
 exact rep_AV h _
theorem vs_clear {at_:Array TypeId} {t:TypeId} (hz:∀u,at_[0]? =some u→∀e,P.underlying u=some (.slice e)→zOK P e=true) {x x':Value} (hx:VR ρ x x'):VS P ρ (Builtin.clear_ at_ t #[x]) (Builtin.clear_ at_ t #[x']):=by
 unfold Builtin.clear_
 cases hu:at_[0]? with
 |none=>exact .st
 |some u=>
  simp only[List.getElem?_toArray,List.getElem?_cons_zero]
  refine SR.bnd (R:=fun _ a b=>b=a∧P.underlying u=some a) ?_ fun ρ1 d d' hl e1=>?_
  ·unfold underlying
   refine se_program.bnd fun ρ' a b hl e1=>?_
   obtain⟨rfl,rfl⟩:=e1
   split
   ·rename_i d hd;exact .pure ⟨rfl,hd⟩
   ·exact .st
  obtain⟨rfl,hd⟩:=e1
  have hx:=hx.mono hl
  have fin:∀{ρ:PM},VS P ρ (pure (.tuple #[]):Sem Value) (pure (.tuple #[])):=fun {ρ}=>.pure (flat_VR rfl)
  have mp:∀{ρ:PM} {r r':Nat},BR ρ r r'→VS P ρ (do
     let __x←getObj r
     match __x with
      |.map _ clock=>do setObj r (.map #[] clock);pure (.tuple #[])
      |_=>do let _←(stuck "clear: map expected":Sem PUnit);pure (.tuple #[])) (do
     let __x←getObj r'
     match __x with
      |.map _ clock=>do setObj r' (.map #[] clock);pure (.tuple #[])
      |_=>do let _←(stuck "clear: map expected":Sem PUnit);pure (.tuple #[])):=fun {ρ r r'} h=>by
   refine SR.bnd (R:=fun ρ o o'=>OR ρ o o') (.getObj h fun o o' ho=>.pure ho) fun ρ2 o o' hl2 ho=>?_
   cases ho<;>try exact SR.bnd (R:=fun _ _ _=>False) .st fun _ _ _ _ h=>h.elim
   exact SR.bnd (R:=fun _ _ _=>True) (.setObj (h.mono hl2) (.map _ ⟨rfl,fun i x x' h=>by simp at h⟩) (.pure trivial)) fun _ _ _ _ _=>fin
  cases d'<;>cases hx<;>first|exact fin|exact SR.bnd (R:=fun _ _ _=>False) .st fun _ _ _ _ h=>h.elim|(rename_i h;exact mp h)|skip
  all_goals
   rename_i a a' l c c' h hc
   cases l with
   |zero=>exact fin
   |succ l=>
    first
     |exact SR.bnd (R:=fun _ _ _=>False) .st fun _ _ _ _ h=>h.elim
     |(refine (se_zero (hz u hu _ hd)).bnd fun ρ2 z z' hl2 hzz=>?_
       exact SR.bnd (sr_storeCells (h.mono hl2) _ _ 0 (zc_AV hzz.cells (l+1))) fun _ _ _ _ _=>fin)
theorem vs_delete {at_:Array TypeId} {t:TypeId} {x x' k:Value} (hx:VR ρ x x') (hs:scal k=true):VS P ρ (Builtin.delete_ at_ t #[x,k]) (Builtin.delete_ at_ t #[x',k]):=by
 unfold Builtin.delete_
 have fin:∀{ρ:PM},VS P ρ (pure (.tuple #[]):Sem Value) (pure (.tuple #[])):=fun {ρ}=>.pure (flat_VR rfl)
 cases hu:at_[0]? with
 |none=>exact .st
 |some u=>
  simp only[List.getElem?_toArray,List.getElem?_cons_zero,List.getElem?_cons_succ]
  refine (se_underlying u).bnd fun ρ1 d d' hl e=>?_
  subst e
  have hx:=hx.mono hl
  cases d'<;>try exact .st
  rename_i kt et
  cases hx<;>try exact SR.bnd (R:=fun _ _ _=>False) .st fun _ _ _ _ h=>h.elim
  ·exact SR.bnd (se_checkKey 10000 kt hs) fun _ _ _ _ _=>fin
  rename_i r r' h
  dsimp only
  refine SR.bnd (R:=fun ρ o o'=>OR ρ o o') (.getObj h fun o o' ho=>.pure ho) fun ρ2 o o' hl2 ho=>?_
  have h:=h.mono hl2
  cases ho<;>try exact SR.bnd (R:=fun _ _ _=>False) .st fun _ _ _ _ h=>h.elim
  rename_i es es' cl hE
  dsimp only
  refine (se_checkKey 10000 kt hs).bnd fun ρ3 _ _ hl3 _=>?_
  have h:=h.mono hl3;have hE:=hE.mono hl3
  refine (sr_findKey kt hs hE.el).bnd fun ρ4 a b hl4 hf=>?_
  have h:=h.mono hl4;have hE:=hE.mono hl4
  rcases hf with⟨rfl,rfl⟩|⟨i,u,u',rfl,rfl,_⟩
  ·exact SR.bnd (R:=fun _ _ _=>True) (.setObj h (.map _ hE) (.pure trivial)) fun _ _ _ _ _=>fin
  ·exact SR.bnd (R:=fun _ _ _=>True) (.setObj h (.map _ (hE.erase i)) (.pure trivial)) fun _ _ _ _ _=>fin
theorem vs_typeAssert1 {t at_:TypeId} (hd:∃d,P.underlying at_=some d∧∀m,d≠ .interface m) {v v':Value} (hx:VR ρ v v'):VS P ρ (Instr.typeAssert (.iface at_ v) t at_ false) (Instr.typeAssert (.iface at_ v') t at_ false):=by
 obtain⟨d,hd,hn⟩:=hd
 unfold Instr.typeAssert
 refine SR.bnd (R:=fun _ a b=>b=a∧a=d) ?_ fun ρ1 d1 d2 hl e1=>?_
 ·unfold underlying
  refine se_program.bnd fun ρ' a b hl e1=>?_
  obtain⟨rfl,rfl⟩:=e1
  rw[hd]
  exact .pure ⟨rfl,rfl⟩
 obtain⟨rfl,rfl⟩:=e1
 cases d2<;>first|exact absurd rfl (hn _)|(dsimp only;rw[if_pos rfl,if_pos rfl];exact .pure (hx.mono hl))
theorem sr_getLoop {l l':Nat} (h:BR ρ l l'):SR P (fun ρ a b=>LR ρ a b) ρ (Instr.getLoop l) (Instr.getLoop l'):=by
 unfold Instr.getLoop
 refine SR.bnd (R:=fun ρ o o'=>OR ρ o o') (.getObj h fun o o' ho=>.pure ho) fun ρ2 o o' hl2 ho=>?_
 cases ho<;>try exact .st
 exact .pure (by assumption)
theorem se_begin {l l':Nat} (h:BR ρ l l'):SR P (fun _ _ _=>True) ρ (Instr.beginRound l) (Instr.beginRound l'):=by
 unfold Instr.beginRound
 refine (sr_getLoop h).bnd fun ρ1 r r' hl hr=>?_
 refine SR.bnd (R:=fun _ _ _=>True) (.setObj (h.mono hl) (.loop ⟨rfl,hr.pending,hr.tmps,hr.params,hr.assign,hr.body,hr.defers⟩) (.pure trivial)) fun ρ2 _ _ hl2 _=>?_
 rw[hr.state]
 cases r.state<;>first|exact .pure trivial|exact sr_panicRt trivial
theorem vs_endRound {l l':Nat} (h:BR ρ l l') (j:Option Code):VS P ρ (Instr.endRound l j) (Instr.endRound l' j):=by
 unfold Instr.endRound
 refine (sr_getLoop h).bnd fun ρ1 r r' hl hr=>?_
 refine SR.bnd (R:=fun _ _ _=>True) (.setObj (h.mono hl) (.loop ⟨rfl,rfl,hr.tmps,hr.params,hr.assign,hr.body,hr.defers⟩) (.pure trivial)) fun ρ2 _ _ hl2 _=>.pure (.bool _)
theorem sr_endLoop {l l':Nat} (h:BR ρ l l'):SR P (fun _ a b=>b=a) ρ (Instr.endLoop l) (Instr.endLoop l'):=by
 unfold Instr.endLoop
 refine (sr_getLoop h).bnd fun ρ1 r r' hl hr=>?_
 rw[hr.state]
 split
 ·exact SR.bnd (R:=fun _ _ _=>False) (sr_panicRt trivial) fun _ _ _ _ h=>h.elim
 ·exact SR.bnd (R:=fun _ _ _=>True) (.setObj (h.mono hl) (.loop ⟨rfl,hr.pending,hr.tmps,hr.params,hr.assign,hr.body,hr.defers⟩) (.pure trivial)) fun ρ2 _ _ hl2 _=>.pure hr.pending
def MkR (ρ:PM) (x y:Nat×List Deferred):Prop:=BR ρ x.1 y.1∧∃D D',x.2=[{target:= .collected D,args:=#[]}]∧y.2=[{target:= .collected D',args:=#[]}]∧BR ρ D D'
theorem sr_enterLoop (fn fn':FuncId) {tm tm':Array Value} (ht:AV ρ tm tm') (ps:Array Tmp) (a b:Code):SR P MkR ρ (Instr.enterLoop fn tm ps a b none) (Instr.enterLoop fn' tm' ps a b none):=by
 unfold Instr.enterLoop
 refine SR.bnd (R:=fun ρ n n'=>ρ n= .live n') (.new .deferred fun ρ' n n' hl hn _=>.pure hn) fun ρ1 n n' hl hn=>?_
 refine SR.bnd (R:=fun ρ m m'=>ρ m= .live m'∧BR ρ n n') (.new (.loop ⟨rfl,rfl,ht.mono hl,rfl,rfl,rfl,.inr hn⟩) fun ρ' m m' hl2 hm _=>.pure ⟨hm,BR.mono hl2 (.inr hn)⟩) fun ρ2 m m' hl2 hm=>?_
 exact .pure ⟨.inr hm.1,n,n',rfl,rfl,hm.2⟩
def MkS (ρ:PM) (x y:Nat×List Deferred):Prop:=BR ρ x.1 y.1∧x.2=[]∧y.2=[]
theorem sr_enterIn {l l':Nat} (h:BR ρ l l') (fn fn':FuncId) {tm tm':Array Value} (ht:AV ρ tm tm') (ps:Array Tmp) (a b:Code):SR P MkS ρ (Instr.enterLoop fn tm ps a b (some l)) (Instr.enterLoop fn' tm' ps a b (some l')):=by
 unfold Instr.enterLoop
 refine SR.bnd (R:=fun ρ r r'=>LR ρ r r') (sr_getLoop h) fun ρ1 r r' hl hr=>?_
 refine SR.bnd (R:=fun ρ m m'=>ρ m= .live m') (.new (.loop ⟨rfl,rfl,ht.mono hl,rfl,rfl,rfl,hr.defers⟩) fun ρ' m m' hl2 hm _=>.pure hm) fun ρ2 m m' hl2 hm=>?_
 exact .pure ⟨.inr hm,rfl,rfl⟩
theorem sr_take {l l':Nat} (h:BR ρ l l'):SR P (fun _ a b=>a=[]∧b=[]) ρ (Instr.takeDeferred l) (Instr.takeDeferred l'):=by
 unfold Instr.takeDeferred
 refine SR.bnd (R:=fun ρ o o'=>OR ρ o o') (.getObj h fun o o' ho=>.pure ho) fun ρ2 o o' hl2 ho=>?_
 cases ho<;>try exact .st
 exact SR.bnd (R:=fun _ _ _=>True) (.setObj (h.mono hl2) .deferred0 (.pure trivial)) fun _ _ _ _ _=>.pure ⟨rfl,rfl⟩
theorem EL.find (p:Nat→Bool):∀{l l':List MapEntry},EL ρ l l'→(l.find? (fun e=>p e.born)=none∧l'.find? (fun e=>p e.born)=none)∨∃e e',l.find? (fun e=>p e.born)=some e∧l'.find? (fun e=>p e.born)=some e'∧ER ρ e e'
 |[],[],_=>.inl ⟨rfl,rfl⟩
 |[],_::_,h=>by have:=h.1;simp at this
 |_::_,[],h=>by have:=h.1;simp at this
 |a::l,a'::l',h=>by
  have h0:=h.2 0 a a' rfl rfl
  rw[List.find?_cons,List.find?_cons,h0.born]
  cases p a.born with
  |true=>exact .inr ⟨_,_,rfl,rfl,h0⟩
  |false=>exact EL.find p h.tail
theorem vs_entry {x x':Value} (hx:VR ρ x x'):VS P ρ (Instr.entry x) (Instr.entry x'):=by
 unfold Instr.entry
 cases hx<;>try exact .st
 rename_i a a' h
 obtain⟨b,o,sp⟩:=a;obtain⟨b',o',sp'⟩:=a'
 obtain⟨h1,h2⟩:=h
 rcases h2 with hd|⟨h2,h3⟩
 ·cases o with
  |succ=>exact .st
  |zero=>exact .getObjD hd
 simp only at h1 h2 h3;subst h2;subst h3
 cases o' with
 |succ=>exact .st
 |zero=>
  refine SR.bnd (R:=fun ρ o o'=>OR ρ o o') (.getObj h1 fun o o' ho=>.pure ho) fun ρ2 o o' hl ho=>?_
  cases ho<;>try exact .st
  rename_i m m' hm since seen last
  dsimp only
  cases seen.back? with
  |none=>exact .st
  |some stamp=>
   dsimp only
   refine SR.bnd (R:=fun ρ o o'=>OR ρ o o') (.getObj hm fun o o' ho=>.pure ho) fun ρ3 o o' hl ho=>?_
   cases ho<;>try exact .st
   rename_i es es' cl hE
   dsimp only
   split
   ·exact SR.bnd (R:=fun _ _ _=>False) .un fun _ _ _ _ h=>h.elim
   rw[←Array.find?_toList,←Array.find?_toList]
   rcases EL.find (fun b=>b==stamp) hE.el with⟨k1,k2⟩|⟨e,e',k1,k2,k3⟩
   ·rw[k1,k2];exact .un
   ·rw[k1,k2]
    refine .pure (.tuple rfl fun i v v' h1 h2=>?_)
    cases i with
    |zero=>simp at h1 h2;subst h1;subst h2;exact k3.key
    |succ i=>
     cases i with
     |zero=>simp at h1 h2;subst h1;subst h2;exact k3.val
     |succ=>simp at h1
end
end
end Go.Proofs.YtngglbakkedaiaaGreatDoor
