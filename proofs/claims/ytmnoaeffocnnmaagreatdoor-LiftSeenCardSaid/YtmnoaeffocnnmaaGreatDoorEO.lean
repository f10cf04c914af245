import Derived.Test.YtmnoaeffocnnmaaGreatDoorFA
import Derived.Laws.AppendOwn
namespace Go.Proofs.YtmnoaeffocnnmaaGreatDoor
def EnvR (ρ:PM) (e:Tr Value) (tm:Array Value):Prop:=∀t,VR ρ ((e.get t).getD undef) (tm.getD t undef)
def GB (ρ:PM) (n0:Nat):Prop:=∀g,g<n0→BR ρ g g
theorem EnvR.mono {ρ ρ':PM} (hl:PLe ρ ρ') {e:Tr Value} {tm:Array Value} (h:EnvR ρ e tm):EnvR ρ' e tm:=fun t=>(h t).mono hl
theorem GB.mono {ρ ρ':PM} (hl:PLe ρ ρ') {n0:Nat} (h:GB ρ n0):GB ρ' n0:=fun g hg=>(h g hg).mono hl
section
variable {P:Program} {n0:Nat} {ρ:PM} {e:Tr Value} {a:Act}
theorem okX_VR (hE:EnvR ρ e a.tmps) (hg:GB ρ n0) {x:Operand} (h:okX n0 x=true):VR ρ (aev e x) (a.eval x):=by
 cases x with
 |tmp t=>exact hE t
 |const v=>exact flat_VR h
 |global g=>
  have h:Nat.blt g n0=true:=h
  exact .ptr (AR.mk (hg g (Nat.le_of_ble_eq_true h)) rfl rfl)
 |func f=>exact flat_VR rfl
theorem okXs_VR (hE:EnvR ρ e a.tmps) (hg:GB ρ n0) {l:Array Operand} (h:okXs n0 l=true):∀x∈l,VR ρ (aev e x) (a.eval x):=fun x hx=>
 okX_VR hE hg (List.all_eq_true.1 h x (Array.mem_toList_iff.2 hx))
theorem map_AV (l:Array Operand) (h:∀x∈l,VR ρ (aev e x) (a.eval x)):AV ρ (l.map (aev e)) (l.map a.eval):=⟨by simp,fun i v v' h1 h2=>by
 rw[Array.getElem?_map]at h1 h2
 cases hx:l[i]? with
 |none=>rw[hx]at h1;cases h1
 |some x=>
  rw[hx]at h1 h2
  simp only[Option.map_some,Option.some.injEq]at h1 h2
  subst h1;subst h2
  exact h x (Array.mem_of_getElem? hx)⟩
theorem map_PR (l:Array (Nat×Operand)) (h:∀x∈l,VR ρ (aev e x.2) (a.eval x.2)):PR ρ (l.map fun (i,x)=>(i,aev e x)).toList (l.map fun (i,x)=>(i,a.eval x)).toList:=⟨by simp,fun i v v' h1 h2=>by
 rw[Array.getElem?_toList,Array.getElem?_map]at h1 h2
 cases hx:l[i]? with
 |none=>rw[hx]at h1;cases h1
 |some x=>
  rw[hx]at h1 h2
  simp only[Option.map_some,Option.some.injEq]at h1 h2
  subst h1;subst h2
  exact⟨rfl,h x (Array.mem_of_getElem? hx)⟩⟩
theorem sliceE_eq {t u:TypeId} (h:sliceE P t=some u):P.underlying t=some (.slice u):=by
 unfold sliceE at h
 split at h
 ·cases h;assumption
 ·cases h
theorem op_SR {o:Oper} (hs:sok P e o.op=true) (h:∀x∈o.op.operands,VR ρ (aev e x) (a.eval x)):SR P NRi ρ (execOp (aev e) o) (execOp a.eval o):=by
 unfold execOp
 cases ho:o.op<;>rw[ho]at hs h<;>first|cases hs;done|skip
 case load t x=>exact nr_v (vs_loadAt t (h x (by simp [Op.operands])))
 case store t x v=>exact nr_u (se_storeAt t (h x (by simp [Op.operands])) (h v (by simp [Op.operands])))
 case alloc t=>exact nr_v (vs_alloc hs)
 case box t x=>exact nr_v (vs_box t (h x (by simp [Op.operands])))
 case build t ps=>exact nr_v (vs_build hs (map_PR ps fun x hx=>h x.2 (by simp [Op.operands];exact ⟨x.1,hx⟩)))
 case buildSlice t n ps=>
  simp only[sok]at hs
  split at hs
  ·rename_i u hu
   rw[Bool.and_eq_true]at hs
   exact nr_v (vs_buildSlice (sliceE_eq hu) hs.1 (by have:=Nat.le_of_ble_eq_true hs.2;unfold LOO;omega) (map_PR ps fun x hx=>h x.2 (by simp [Op.operands];exact ⟨x.1,hx⟩)))
  ·cases hs
 case fieldAddr t x f=>exact nr_v (vs_fieldAt t (h x (by simp [Op.operands])) f)
 case field t x f=>exact nr_v (vs_field t (h x (by simp [Op.operands])) f)
 case indexAddr t x i=>exact nr_v (vs_indexAt t (h x (by simp [Op.operands])) (h i (by simp [Op.operands])))
 case index t x i=>exact nr_v (vs_index t (h x (by simp [Op.operands])) (h i (by simp [Op.operands])))
 case extract x i=>exact nr_v (vs_extract (h x (by simp [Op.operands])) i)
 case makeInterface t x=>exact nr_v (vs_makeInterface t (h x (by simp [Op.operands])))
 case makeFunc fn f c=>
  cases fn<;>first|cases hs;done|skip
  exact nr_v (vs_makeFunc (.func _) (map_AV f fun x hx=>h x (by simp [Op.operands,hx])) (map_AV c fun x hx=>h x (by simp [Op.operands,hx])))
 case makeMap t r=>
  cases r with
  |none=>exact nr_v (vs_makeMap t)
  |some x=>exact nr_v (vs_makeMapR t (h x (by simp [Op.operands])))
 case makeSlice t l c=>
  simp only[sok]at hs
  split at hs
  ·rename_i u k m hu hc
   rw[Bool.and_eq_true]at hs
   have hcv:=h c (by simp [Op.operands])
   dsimp only
   rw[hc]at hcv⊢
   exact nr_v (vs_makeSlice (sliceE_eq hu) hs.1 (Nat.le_of_ble_eq_true hs.2) (h l (by simp [Op.operands])) hcv)
  ·cases hs
 case lookup t x k ok=>
  simp only[sok]at hs
  split at hs
  ·rename_i kt u hu
   rw[Bool.and_eq_true]at hs
   have hk:=h k (by simp [Op.operands])
   dsimp only
   rw[scal_eq hs.2 hk]
   exact nr_v (vs_lookup hu hs.1 (h x (by simp [Op.operands])) hs.2 ok)
  ·cases hs
 case mapUpdate t m k v=>
  have hk:=h k (by simp [Op.operands])
  dsimp only
  rw[scal_eq hs hk]
  exact nr_u (se_mapUpdate (h m (by simp [Op.operands])) hs (h v (by simp [Op.operands])))
 case insert t m k v=>
  have hk:=h k (by simp [Op.operands])
  dsimp only
  rw[scal_eq hs hk]
  exact nr_u (se_mapUpdate (h m (by simp [Op.operands])) hs (h v (by simp [Op.operands])))
 case range t x=>
  exact nr_v (vs_rangeM (h x (by simp [Op.operands])))
 case next x b=>
  cases b with
  |true=>exact nr_v (vs_next (h x (by simp [Op.operands])) _)
  |false=>exact nr_v (vs_nextM (h x (by simp [Op.operands])) _)
 case entry x=>exact nr_v (vs_entry (h x (by simp [Op.operands])))
 case typeAssert x t u ok=>
  have hx:=h x (by simp [Op.operands])
  cases ok with
  |true=>exact nr_v (vs_typeAssert hs hx)
  |false=>
   simp only[sok]at hs
   split at hs<;>try cases hs
   rename_i t1 v1 hv
   rw[Bool.and_eq_true]at hs
   have ht:t1=u:=Nat.eq_of_beq_eq_true hs.1
   subst ht
   have hd:∃d,P.underlying t1=some d∧∀m,d≠ .interface m:=by
    cases hd:P.underlying t1 with
    |none=>rw[hd]at hs;cases hs.2
    |some d=>
     refine⟨d,rfl,fun m e=>?_⟩
     rw[hd,e]at hs;cases hs.2
   dsimp only
   rw[hv]at hx⊢
   generalize a.eval x=u' at *
   cases hx
   exact nr_v (vs_typeAssert1 hd (by assumption))
 case nilCheck x=>
  have hx:=h x (by simp [Op.operands])
  simp only[sok]at hs
  dsimp only
  generalize aev e x=u at *
  generalize a.eval x=u' at *
  cases hx<;>first|exact sr_panicRt trivial|skip
  ·exact .pure (VR.bool _)
  ·exact .pure (VR.int ..)
  ·exact .pure (VR.float ..)
  ·exact .pure (VR.complex ..)
  ·exact .pure (VR.string ..)
  ·rename_i h;exact .pure (VR.ptr h)
  ·exact .pure (VR.sl0 ..)
  ·rename_i h hc;exact .pure (VR.sl h hc)
  ·exact .pure VR.map0
  ·rename_i h;exact .pure (VR.map h)
  ·rename_i h0 h1 h2 h3 h4
   cases h0
   case method=>cases hs
   all_goals first|exact .pure (VR.func (.func _) h1 h2 h3 h4)|exact .pure (VR.func (.methodOf ..) h1 h2 h3 h4)|exact .pure (VR.func (.via ..) h1 h2 h3 h4)|(rename_i hb;exact .pure (VR.func (.yield hb) h1 h2 h3 h4))
  ·rename_i h;exact .pure (VR.iface _ h)
  ·rename_i h1 h2;exact .pure (VR.agg h1 h2)
  ·rename_i h1 h2;exact .pure (VR.tuple h1 h2)
 case call c=>
  obtain⟨ce,args,at_⟩:=c
  cases ce<;>first|cases hs;done|skip
  rename_i b
  cases b<;>first|cases hs;done|skip
  case len=>
   simp only[sok]at hs
   have h1:args.size=1:=Nat.eq_of_beq_eq_true hs
   obtain⟨x,rfl⟩:=Array.size_eq_one_iff.1 h1
   have hx:=h x (by simp [Op.operands,Call.operands])
   have:=nr_v (vs_len (P:=P) (at_:=at_) (t:=o.type) hx)
   simpa [resolve,invoke,builtin] using this
  case clear=>
   simp only[sok,Bool.and_eq_true]at hs
   have h1:args.size=1:=Nat.eq_of_beq_eq_true hs.1
   obtain⟨x,rfl⟩:=Array.size_eq_one_iff.1 h1
   have hx:=h x (by simp [Op.operands,Call.operands])
   have hz:∀u,at_[0]? =some u→∀e,P.underlying u=some (.slice e)→zOK P e=true:=fun u hu e he=>by
    have hs:=hs.2
    split at hs
    ·rename_i w hw
     have:at_[0]? =some w:=by rw[←Array.getElem?_toList,hw];rfl
     rw[hu]at this;cases this
     have:sliceE P u=some e:=by unfold sliceE;rw[he]
     rw[this]at hs
     exact hs
    ·cases hs
   have:=nr_v (vs_clear (P:=P) (at_:=at_) (t:=o.type) hz hx)
   simpa [resolve,invoke,builtin] using this
  case delete=>
   simp only[sok]at hs
   split at hs<;>try cases hs
   rename_i m k hl
   have:args=#[m,k]:=by
    obtain⟨args⟩:=args;simp only at hl;rw[hl]
   subst this
   have hm:=h m (by simp [Op.operands,Call.operands])
   have hk:=h k (by simp [Op.operands,Call.operands])
   have:=nr_v (vs_delete (P:=P) (at_:=at_) (t:=o.type) hm hs)
   have e:=scal_eq hs hk
   simpa [resolve,invoke,builtin,e] using this
end
end Go.Proofs.YtmnoaeffocnnmaaGreatDoor

namespace Go.Proofs.YtmnoaeffocnnmaaGreatDoor
/-- a call put off, alike -/
def PutOff (P:Program) (ρ:PM) (f:FuncId) (args:Array Value) (d:Deferred):Prop:=∃fv cap args',d.target= .fn fv cap∧(∀w,(invoke d.target d.args).run P w= .ok (.enter f args') w)∧AV ρ args args'
theorem PutOff.mono {P:Program} {ρ ρ':PM} (hl:PLe ρ ρ') {f:FuncId} {args:Array Value} {d:Deferred} (h:PutOff P ρ f args d):PutOff P ρ' f args d:=let⟨a,b,c,h1,h2,h3⟩:=h;⟨a,b,c,h1,h2,h3.mono hl⟩
def OpRes (P:Program) (r:OO) (t:Sem Next) (W:World) (ρ':PM) (W':World):Prop:=match r with
 |.value v=>∃v',t.run P W= .ok (.value v') W'∧VR ρ' v v'
 |.skip=>t.run P W= .ok .skip W'
 |.enter (.func f) args=>∃args',t.run P W= .ok (.enter f args') W'∧AV ρ' args args'
 |.enter (.yield l) args=>∃l' args',t.run P W=(Instr.yield l' args').run P W∧W'=W∧BR ρ' l l'∧AV ρ' args args'
 |.defer f args=>∃d,t.run P W= .ok (.defer d) W'∧PutOff P ρ' f args d
 |.panic v=>∃v',t.run P W= .halt (.panic v') W'∧VR ρ' v v'
 |_=>False
def OpS (P:Program) (ρ:PM) (s:AS) (r:OO) (s':AS) (t:Sem Next) (W:World):Prop:=∃ρ' W',OpRes P r t W ρ' W'∧Post P ρ s s' W ρ' W'
structure Pre (P:Program) (n0:Nat) (ρ:PM) (s s':AS) (W:World):Prop where
 gb:GB ρ n0
 inj:Inj ρ W
 wr:WR P ρ s'.tch s.heap W
 fresh:∀b,s.next≤b→b<s'.next→ρ b= .abs
/-- what an operation looks at is alike -/
def OpV (n0:Nat) (ρ:PM) (e:Tr Value) (a:Act) (o:Oper):Prop:=∀x∈o.op.operands,okX n0 x=true→VR ρ (aev e x) (a.eval x)
section
variable {P:Program} {n0:Nat} {ρ:PM} {e:Tr Value} {a:Act} {s s':AS} {r:OO} {W:World} {o:Oper}
theorem eM_sound {x:Operand} (h:eM n0 e x s=some (r,s')) (hE:okX n0 x=true→VR ρ (aev e x) (a.eval x)) (hp:Pre P n0 ρ s s' W):OpS P ρ s r s' (pure (.value (a.eval x))) W:=by
 unfold eM at h
 split at h
 ·rename_i hx
  simp only[Option.some.injEq,Prod.mk.injEq]at h
  obtain⟨rfl,rfl⟩:=h
  exact⟨ρ,W,⟨_,rfl,hE hx⟩,Post.refl hp.inj hp.wr⟩
 ·cases h
theorem prun_run {α:Type} (t:Sem α):∀(r:AO α),prun P t=some r→∀W,t.run P W=(match r with|.ok a=>.ok a W|.panic v=>.halt (.panic v) W):=by
 induction t with
 |pure a=>intro r h W;simp only[prun,Option.some.injEq]at h;subst h;rfl
 |program k ih=>intro r h W;exact ih P r h W
 |mark m k ih=>intro r h W;exact ih r h W
 |halt x=>
  intro r h W
  cases x<;>simp only[prun]at h<;>try cases h
  rfl
 |load=>intro r h;cases h
 |store=>intro r h;cases h
 |new=>intro r h;cases h
 |shape=>intro r h;cases h
 |freeze=>intro r h;cases h
 |frozen=>intro r h;cases h
 |getObj=>intro r h;cases h
 |setObj=>intro r h;cases h
 |choose=>intro r h;cases h
 |sys=>intro r h;cases h
theorem flat_okX {x:Operand} (h:flat (aev e x)=true):okX n0 x=true:=by
 cases x with
 |tmp=>rfl
 |const v=>exact h
 |global g=>cases h
 |func f=>rfl
theorem eF_sound (h:eF P e o s=some (r,s')) (hs:∀cs b,o.op≠ .select cs b) (hE:OpV n0 ρ e a o) (hp:Pre P n0 ρ s s' W):OpS P ρ s r s' (execOp a.eval o) W:=by
 unfold eF at h
 split at h<;>try cases h
 next hfl=>
 split at h<;>try cases h
 next r0 hr0=>
 split at h<;>try cases h
 next r1 hr1=>
 split at h<;>try cases h
 next hv=>
 have heq:execOp (aev e) o=execOp a.eval o:=execOp_congr o hs fun x hx=>by
  have hf:=List.all_eq_true.1 hfl x (Array.mem_toList_iff.2 hx)
  exact (flat_eq hf (hE x hx (flat_okX hf))).symm
 have hrun:=prun_run _ _ hr0 W
 rw[heq]at hrun
 refine⟨ρ,W,?_,Post.refl hp.inj hp.wr⟩
 unfold toOO at hr1
 split at hr1<;>cases hr1
 ·exact⟨_,hrun,flat_VR hv⟩
 ·exact hrun
 ·exact⟨_,hrun,flat_VR hv⟩
theorem eS_sound (h:eS P n0 e o s=some (r,s')) (hE:OpV n0 ρ e a o) (hp:Pre P n0 ρ s s' W):OpS P ρ s r s' (execOp a.eval o) W:=by
 unfold eS at h
 split at h<;>try cases h
 next hs=>
 split at h<;>try cases h
 next hx=>
 split at h<;>try cases h
 next r0 s0 hr0=>
 split at h<;>try cases h
 next r1 hr1=>
 have hsr:=op_SR (P:=P) (ρ:=ρ) (a:=a) hs fun x hx2=>hE x hx2 (List.all_eq_true.1 hx x (Array.mem_toList_iff.2 hx2))
 obtain⟨ρ',W',hres,hpost⟩:=arun_sound hsr _ _ _ W hr0 hp.inj hp.wr hp.fresh
 refine⟨ρ',W',?_,hpost⟩
 unfold toOO at hr1
 split at hr1<;>cases hr1
 ·obtain⟨n',h1,h2⟩:=hres
  cases n'<;>first|exact⟨_,h1,h2⟩|cases h2
 ·obtain⟨n',h1,h2⟩:=hres
  cases n'<;>first|exact h1|cases h2
 ·exact hres
theorem run_nilEq {t:TypeId} {x y:Value} {b:Bool} (hx:kindOK (P.underlying t) x=true) (hy:kindOK (P.underlying t) y=true) (h:nilEq x y=some b):(Op.equal t x y).run P W= .ok b W:=by
 cases hd:P.underlying t with
 |none=>rw[hd]at hx;cases x<;>cases hx
 |some d=>
  rw[hd]at hx hy
  have hu:(underlying t).run P W= .ok d W:=by
   unfold underlying program
   simp [Sem.run_bind,Sem.run,Result.andThen,hd]
  unfold nilEq at h
  unfold Op.equal Op.maxDepth Op.equalIn
  rw[Sem.run_bind,hu]
  simp only[Result.andThen]
  split at h<;>cases h
  all_goals (cases d<;>first|cases hx;done|cases hy;done|rfl)
theorem nilEq_VR {x x' y y':Value} (hx:VR ρ x x') (hy:VR ρ y y'):nilEq x' y'=nilEq x y:=by
 cases hx<;>cases hy<;>rfl
theorem kindOK_VR {d:Option TypeDesc} {x x':Value} (hx:VR ρ x x'):kindOK d x'=kindOK d x:=by
 cases hx<;>first|rfl|(cases d<;>first|rfl|(rename_i d;cases d<;>rfl))
theorem eN_sound {op:BinOp} {t yt:TypeId} {x y:Operand} (h:eN P n0 e op t x y s=some (r,s')) (ho:o.op= .binOp op t x y yt) (hE:OpV n0 ρ e a o) (hp:Pre P n0 ρ s s' W):OpS P ρ s r s' (execOp a.eval o) W:=by
 unfold eN at h
 split at h<;>try cases h
 next hc=>
 simp only[Bool.and_eq_true]at hc
 obtain⟨⟨⟨hx,hy⟩,hkx⟩,hky⟩:=hc
 split at h<;>try cases h
 next b hb=>
 have vx:=hE x (by rw[ho];simp [Op.operands]) hx;have vy:=hE y (by rw[ho];simp [Op.operands]) hy
 have hb':nilEq (a.eval x) (a.eval y)=some b:=(nilEq_VR vx vy).trans hb
 have hrun:∀W,(Op.equal t (a.eval x) (a.eval y)).run P W= .ok b W:=fun W=>run_nilEq ((kindOK_VR vx).trans hkx) ((kindOK_VR vy).trans hky) hb'
 have hguard:∀op,(eqGuard op t x y (a.eval x) (a.eval y)).run P W= .ok () W:=fun op=>by
  unfold eqGuard
  generalize a.eval x=u at *
  generalize a.eval y=u' at *
  unfold nilEq at hb'
  split at hb'<;>first|cases hb';done|(cases op<;>rfl)
 split at h<;>cases h
 ·refine⟨ρ,W,⟨.bool b,?_,.bool _⟩,Post.refl hp.inj hp.wr⟩
  unfold execOp
  rw[ho]
  simp only[Sem.run_bind,hguard,Result.andThen]
  have:binOp .eql t (a.eval x) (a.eval y)=(do pure (.bool (←Op.equal t (a.eval x) (a.eval y)))):=by
   generalize a.eval x=u at *
   generalize a.eval y=u' at *
   unfold nilEq at hb'
   split at hb'<;>first|cases hb';done|rfl
  rw[this]
  simp only[Sem.run_bind,hrun,Result.andThen]
  rfl
 ·refine⟨ρ,W,⟨.bool (!b),?_,.bool _⟩,Post.refl hp.inj hp.wr⟩
  unfold execOp
  rw[ho]
  simp only[Sem.run_bind,hguard,Result.andThen]
  have:binOp .neq t (a.eval x) (a.eval y)=(do pure (.bool (!(←Op.equal t (a.eval x) (a.eval y))))):=by
   generalize a.eval x=u at *
   generalize a.eval y=u' at *
   unfold nilEq at hb'
   split at hb'<;>first|cases hb';done|rfl
  rw[this]
  simp only[Sem.run_bind,hrun,Result.andThen]
  rfl
theorem hasBody_run {g:Nat} (h:hasBody P g=true) (args:Array Value):(callFunc g args).run P W= .ok (.enter g args) W:=by
 unfold hasBody at h
 split at h
 ·rename_i fn hfn
  simp only[Bool.and_eq_true,Bool.not_eq_true']at h
  unfold callFunc program
  simp only[Sem.run_bind,Sem.run,Result.andThen,hfn,h.2,Bool.false_eq_true,if_false]
  cases hb:fn.body with
  |none=>rw[hb]at h;cases h.1
  |some c=>rfl
 ·cases h
theorem eC_sound {c:Call} (h:eC P n0 e c s=some (r,s')) (ho:o.op= .call c) (hE:OpV n0 ρ e a o) (hp:Pre P n0 ρ s s' W):OpS P ρ s r s' (execOp a.eval o) W:=by
 unfold eC at h
 split at h<;>try cases h
 next f hf=>
 split at h<;>try cases h
 next hx=>
 rw[Bool.and_eq_true]at hx
 have vf:=hE f (by rw[ho];simp [Op.operands,Call.operands,hf]) hx.1
 have va:=map_AV (ρ:=ρ) (e:=e) (a:=a) c.args fun x hx2=>hE x (by rw[ho];simp [Op.operands,Call.operands,hx2]) (List.all_eq_true.1 hx.2 x (Array.mem_toList_iff.2 hx2))
 split at h<;>try cases h
 ·rename_i g first cap hv
  split at h<;>try cases h
  next hb=>
  rw[hv]at vf
  generalize hw:a.eval f=u at vf
  cases vf with
  |func h0 h1 h2 h3 h4=>
   cases h0
   rename_i first' cap'
   refine⟨ρ,W,⟨_,?_,(AV.append (AV.append (c:=first) ⟨h1,h2⟩ va) ⟨h3,h4⟩)⟩,Post.refl hp.inj hp.wr⟩
   unfold execOp resolve
   rw[ho]
   simp only[hf,Sem.run_bind,hw,Deferred.ofValue]
   exact hasBody_run hb _
 ·rename_i l first cap hv
  rw[hv]at vf
  generalize hw:a.eval f=u at vf
  cases vf with
  |func h0 h1 h2 h3 h4=>
   cases h0 with
   |yield hbr=>
   rename_i first' cap' l'
   refine⟨ρ,W,⟨_,_,?_,rfl,hbr,(AV.append (c:=first) ⟨h1,h2⟩ va)⟩,Post.refl hp.inj hp.wr⟩
   unfold execOp resolve
   rw[ho]
   simp only[hf,Sem.run_bind,hw,Deferred.ofValue]
   rfl
theorem eDf_sound {c:Call} (h:eDf P n0 e c s=some (r,s')) (ho:o.op= .defer c) (hE:OpV n0 ρ e a o) (hp:Pre P n0 ρ s s' W):OpS P ρ s r s' (execOp a.eval o) W:=by
 unfold eDf at h
 split at h<;>try cases h
 next f hf=>
 split at h<;>try cases h
 next hx=>
 rw[Bool.and_eq_true]at hx
 split at h<;>try cases h
 next g first cap hv=>
 split at h<;>try cases h
 next hb=>
 have vf:=hE f (by rw[ho];simp [Op.operands,Call.operands,hf]) hx.1
 rw[hv]at vf
 have va:=map_AV (ρ:=ρ) (e:=e) (a:=a) c.args fun x hx2=>hE x (by rw[ho];simp [Op.operands,Call.operands,hx2]) (List.all_eq_true.1 hx.2 x (Array.mem_toList_iff.2 hx2))
 generalize hw:a.eval f=u at vf
 cases vf with
 |func h0 h1 h2 h3 h4=>
  cases h0
  rename_i first' cap'
  refine⟨ρ,W,⟨{target:= .fn (.func g) cap',args:=first'++c.args.map a.eval},?_,_,_,_,rfl,fun w=>hasBody_run hb _,(AV.append (AV.append (c:=first) ⟨h1,h2⟩ va) ⟨h3,h4⟩)⟩,Post.refl hp.inj hp.wr⟩
  unfold execOp resolve
  rw[ho]
  simp only[hf,Sem.run_bind,hw,Deferred.ofValue]
  rfl
end
end Go.Proofs.YtmnoaeffocnnmaaGreatDoor

namespace Go.Proofs.YtmnoaeffocnnmaaGreatDoor
section
variable {P:Program} {n0:Nat} {ρ:PM} {e:Tr Value} {a:Act} {s s':AS} {r:OO} {W:World} {o:Oper}
theorem run_und {t:TypeId} {d:TypeDesc} (h:P.underlying t=some d) (W:World):(underlying t).run P W= .ok d W:=by
 unfold underlying program
 simp [Sem.run_bind,Sem.run,Result.andThen,h]
theorem info_of {u:TypeId} (h:1≤P.cellsOf u):∃i,P.info? u=some i∧P.cellsOf u=i.size:=by
 unfold Program.cellsOf at h⊢
 cases hi:P.info? u with
 |none=>rw[hi]at h;simp at h
 |some i=>exact⟨i,rfl,rfl⟩
theorem run_size {u:TypeId} (h:1≤P.cellsOf u) (W:World):(sizeOf u).run P W= .ok (P.cellsOf u) W:=by
 obtain⟨i,hi,hs⟩:=info_of h
 unfold sizeOf typeInfo program
 simp [Sem.run_bind,Sem.run,Result.andThen,hi,hs]
theorem run_bound {k:IntKind} {n y:Nat} (h:n≤y) (c:BoundsCode) (W:World):(Instr.sliceBound (.int k (.ofNat n)) y c).run P W= .ok n W:=by
 unfold Instr.sliceBound asIntOf
 simp only[Sem.run_bind,Sem.run_pure,Result.andThen]
 have:(0≤Int.ofNat n∧Int.ofNat n≤(y:Int)):=⟨Int.natCast_nonneg n,by exact Int.ofNat_le.2 h⟩
 rw[if_pos this]
 rfl
theorem run_sliceAt {t u:TypeId} (hu:P.underlying t=some (.slice u)) (hs:1≤P.cellsOf u) {ad:Option Addr} {l c i j:Nat} {low high:Option Value} (hi:natOf low 0=some i) (hj:natOf high l=some j) (hij:i≤j) (hjc:j≤c) (W:World):
  (Instr.sliceAt t (.slice ad l c) low high none).run P W= .ok (.slice (if c=i then ad else ad.map (·.add (i*P.cellsOf u))) (j-i) (c-i)) W:=by
 have hl:∀(m:Nat) (cd:BoundsCode) (W:World),j≤m→(match low with|some v=>Instr.sliceBound v j cd|none=>(pure 0:Sem Nat)).run P W= .ok i W:=fun m cd W hm=>by
  unfold natOf at hi
  split at hi
  ·cases hi;rfl
  ·cases hi;exact run_bound hij cd W
  ·cases hi
 unfold Instr.sliceAt
 rw[Sem.run_bind,run_und hu]
 simp only[Result.andThen]
 unfold Instr.slice
 rw[Sem.run_bind,run_und hu]
 simp only[Result.andThen]
 have hb:∀W,(Instr.sliceBounds true l c low high none).run P W= .ok (i,j,c) W:=fun W=>by
  unfold Instr.sliceBounds
  simp only[Sem.run_bind,Sem.run_pure,Result.andThen]
  cases high with
  |none=>
   simp only[natOf,Option.some.injEq]at hj;subst hj
   simp only[Sem.run_bind,Sem.run_pure,Result.andThen]
   have:=hl l .sliceB W (Nat.le_refl _)
   cases low with
   |none=>
    simp only[natOf,Option.some.injEq]at hi;subst hi
    simp [Sem.run_pure]
   |some v=>
    simp only at this
    simp only[Option.isSome_none,Bool.false_eq_true,if_false,Sem.run_bind,this,Result.andThen,Sem.run_pure]
  |some v=>
   have hv:∃k n,v= .int k (.ofNat n)∧n=j:=by
    unfold natOf at hj
    split at hj
    ·rename_i h;cases h
    ·rename_i h;cases h;cases hj;exact⟨_,_,rfl,rfl⟩
    ·cases hj
   obtain⟨k,n,rfl,rfl⟩:=hv
   have:=hl n .sliceB W (Nat.le_refl _)
   simp only[if_true,Sem.run_bind,run_bound hjc,Result.andThen]
   cases low with
   |none=>
    simp only[natOf,Option.some.injEq]at hi;subst hi
    simp [Sem.run_pure]
   |some v=>
    simp only at this
    simp only[Option.isSome_none,Bool.false_eq_true,if_false,Sem.run_bind,this,Result.andThen,Sem.run_pure]
 simp only[Sem.run_bind,hb,Result.andThen,run_size hs,Sem.run_pure]
theorem natOf_VR {x x':Option Value} {d n:Nat} (hx:(x=none∧x'=none)∨∃v v',x=some v∧x'=some v'∧VR ρ v v') (h:natOf x d=some n):natOf x' d=some n:=by
 rcases hx with⟨rfl,rfl⟩|⟨v,v',rfl,rfl,hv⟩
 ·exact h
 ·cases hv<;>first|exact h|cases h
theorem opt_VR {x:Option Operand} (h:∀y,x=some y→VR ρ (aev e y) (a.eval y)):(x.map (aev e)=none∧x.map a.eval=none)∨∃v v',x.map (aev e)=some v∧x.map a.eval=some v'∧VR ρ v v':=by
 cases x with
 |none=>exact .inl ⟨rfl,rfl⟩
 |some y=>exact .inr ⟨_,_,rfl,rfl,h y rfl⟩
theorem eSl_sound {t:TypeId} {x:Operand} {lo hi:Option Operand} (h:eSl P n0 e t x lo hi s=some (r,s')) (ho:o.op= .slice t x lo hi none) (hE:OpV n0 ρ e a o) (hp:Pre P n0 ρ s s' W):OpS P ρ s r s' (execOp a.eval o) W:=by
 unfold eSl at h
 split at h<;>try cases h
 next ad l c hv=>
 split at h<;>try cases h
 next u i j hu hi' hj' hx=>
 have hops:∀y∈#[x]++lo.toArray++hi.toArray,VR ρ (aev e y) (a.eval y):=fun y hy=>hE y (by rw[ho];simpa [Op.operands] using hy) (List.all_eq_true.1 hx y (Array.mem_toList_iff.2 hy))
 have vx:=hops x (by simp)
 have hlo:=natOf_VR (opt_VR (x:=lo) fun y hy=>hops y (by subst hy;simp)) hi'
 have hhi:=natOf_VR (opt_VR (x:=hi) fun y hy=>hops y (by subst hy;simp)) hj'
 rw[hv]at vx
 have hexec:∀v',(Instr.sliceAt t (a.eval x) (lo.map a.eval) (hi.map a.eval) none).run P W= .ok v' W→(execOp a.eval o).run P W= .ok (.value v') W:=fun v' h=>by
  unfold execOp
  rw[ho]
  simp only[Option.map_none,Sem.run_bind,h,Result.andThen]
  rfl
 generalize a.eval x=x' at *
 cases vx with
 |sl hA hc=>
  rename_i ad' c'
  split at h
  ·rename_i hL
   have hL:c=LOO:=Nat.eq_of_beq_eq_true hL
   split at h<;>try cases h
   next hcond=>
   simp only[Bool.and_eq_true,Bool.or_eq_true]at hcond
   obtain⟨⟨⟨h1,h2⟩,h3⟩,h4⟩:=hcond
   have h1:=Nat.le_of_ble_eq_true h1
   have h2:=Nat.le_of_ble_eq_true h2
   have h4:=Nat.le_of_ble_eq_true h4
   have h3:i=0∨i<l:=h3.imp (fun h=>Nat.eq_of_beq_eq_true h) (fun h=>Nat.le_of_ble_eq_true h)
   have hc:=hc.resolve_left fun h=>h.1 hL
   simp only[sq_eq,Option.some.injEq,Prod.mk.injEq]at h
   obtain⟨rfl,rfl⟩:=h
   have hl:=hc.2.1
   have hrun:=run_sliceAt (W:=W) (sliceE_eq hu) h4 (ad:=some ad') (l:=l) (c:=c') hlo hhi h1 (by omega)
   refine⟨ρ,W,⟨_,hexec _ hrun,?_⟩,Post.refl hp.inj hp.wr⟩
   have he:(if c'=i then some ad' else (some ad').map (·.add (i*P.cellsOf u)))=some (ad'.add (i*P.cellsOf u)):=by
    rcases Nat.eq_zero_or_pos i with rfl|hi
    ·split
     ·simp [Addr.add]
     ·rfl
    ·rw[if_neg (by omega)];rfl
   rw[he]
   refine .sl (hA.add _) (.inr ⟨rfl,by omega,fun h0=>?_⟩)
   rcases Nat.eq_zero_or_pos i with rfl|hi
   ·simp only[Nat.zero_mul,Addr.add,if_true,Nat.sub_zero]at h0⊢
    exact hc.2.2 h0
   ·exfalso
    have:0<i*P.cellsOf u:=Nat.mul_pos hi (by omega)
    unfold Addr.add at h0
    rw[if_neg (by omega)]at h0
    simp at h0
    omega
  ·rename_i hL
   have hL:c≠LOO:=fun e=>by rw[e]at hL;exact absurd hL (by decide)
   split at h<;>try cases h
   next hcond=>
   simp only[Bool.and_eq_true]at hcond
   obtain⟨⟨⟨h1,h2⟩,h4⟩,h5⟩:=hcond
   have h1:=Nat.le_of_ble_eq_true h1
   have h2:=Nat.le_of_ble_eq_true h2
   have h4:=Nat.le_of_ble_eq_true h4
   have h5:=Nat.le_of_ble_eq_true h5
   have hc:c'=c:=(hc.resolve_right fun h=>hL h.1).2
   subst hc
   simp only[sq_eq,Option.some.injEq,Prod.mk.injEq]at h
   obtain⟨rfl,rfl⟩:=h
   have hrun:=run_sliceAt (W:=W) (sliceE_eq hu) h4 (ad:=some ad') (l:=l) (c:=c') hlo hhi h1 h2
   refine⟨ρ,W,⟨_,hexec _ hrun,?_⟩,Post.refl hp.inj hp.wr⟩
   by_cases e:c'=i
   ·rw[if_pos e,show Nat.beq c' i=true from by simpa using e]
    exact .sl hA (.inl ⟨by omega,rfl⟩)
   ·rw[if_neg e,nbF e]
    exact .sl (hA.add _) (.inl ⟨by omega,rfl⟩)
end
end Go.Proofs.YtmnoaeffocnnmaaGreatDoor

namespace Go.Proofs.YtmnoaeffocnnmaaGreatDoor
section
variable {P:Program} {n0:Nat} {ρ:PM} {e:Tr Value} {a:Act} {s s':AS} {r:OO} {W:World} {o:Oper}
theorem notInt_of {t:TypeId} (h:notInt P t=true):P.underlying t=some .string∨∃u,P.underlying t=some (.slice u):=by
 unfold notInt at h
 split at h
 ·rename_i u hu;exact .inr ⟨u,hu⟩
 ·rename_i hu;exact .inl hu
 ·cases h
theorem run_app_in {t t2 ty u:TypeId} {i:TypeInfo} (ht:P.underlying t=some (.slice u)) (ht2:notInt P t2=true) (hi:P.info? u=some i) (ad:Option Addr) (n cap m:Nat) (x:Value) (news:Array Value) {w w2:World} (hl:(Builtin.lenOf x).run P w= .ok m w)
  (hf:(Builtin.firstCells i.size m x).run P w= .ok news w) (hroom:n+m≤cap) (hst:∀b,ad=some b→(storeCells (b.add (n*i.size)) news.toList).run P w= .ok () w2) (hn:ad=none→w2=w):
  (Builtin.append_ #[t,t2] ty #[.slice ad n cap,x]).run P w= .ok (.slice ad (n+m) cap) w2:=by
 have hul:=run_und (P:=P) ht
 rcases notInt_of ht2 with hd|⟨u2,hd⟩
 all_goals
  have hud:=run_und (P:=P) hd
  cases ad with
  |none=>
   have:=hn rfl;subst this
   simp [Builtin.append_,hul,hud,sizeOf,typeInfo,hi,hl,hroom,hf]
  |some b=>
   have hst:=hst b rfl
   simp [Builtin.append_,hul,hud,sizeOf,typeInfo,hi,hl,hroom,hf,hst]
theorem run_app_out {t t2 ty u:TypeId} {i:TypeInfo} {z:Value} (ht:P.underlying t=some (.slice u)) (ht2:notInt P t2=true) (hi:P.info? u=some i) (hz:i.zero=some z) (ad:Option Addr) (n cap m:Nat) (x:Value) (olds news:Array Value) {w:World} (hl:∀w,(Builtin.lenOf x).run P w= .ok m w)
  (hfo:(Builtin.firstCells i.size n (.slice ad n cap)).run P w.drew= .ok olds w.drew) (hf:(Builtin.firstCells i.size m x).run P w.drew= .ok news w.drew) (hg:cap<n+m) (h63:n+m≤1000000) (hb:i.bytes≤4096):
  (Builtin.append_ #[t,t2] ty #[.slice ad n cap,x]).run P w= .ok (.slice (some ⟨w.heap.size,0,none⟩) (n+m) (grownCap w (n+m) cap u)) (w.drew.alloc (.cells (olds++news++Builtin.zeroCells z.cells (grownCap w (n+m) cap u-(n+m))) u)):=by
 have hul:=run_und (P:=P) ht
 have hn: ¬n+m≤cap:=by omega
 have hbb:(n+m)*i.bytes≤140737488355328:=Nat.le_trans (Nat.mul_le_mul h63 hb) (by decide)
 have h48: ¬(281474976710656<Builtin.nextslicecap (n+m) cap*i.bytes):=by have:=growslice_fits hg hbb;omega
 have h63': ¬(9223372036854775807<((n:Int)+(m:Int))):=by omega
 rcases notInt_of ht2 with hd|⟨u2,hd⟩
 all_goals
  have hud:=run_und (P:=P) hd
  simp [Builtin.append_,hul,hud,sizeOf,typeInfo,zeroValue,hi,hz,hl,hn,h63',h48,Question.forced,hf,hfo,newRow,grownCap]
end
end Go.Proofs.YtmnoaeffocnnmaaGreatDoor

namespace Go.Proofs.YtmnoaeffocnnmaaGreatDoor
section
variable {P:Program} {n0:Nat} {ρ:PM} {e:Tr Value} {a:Act} {s s':AS} {r:OO} {W:World} {o:Oper}
theorem lenV_run {v v':Value} {n:Nat} (h:lenV v=some n) (hv:VR ρ v v') (w:World):(Builtin.lenOf v').run P w= .ok n w:=by
 cases hv<;>first|cases h;done|(cases h;rfl)
theorem bit_test (b i:Nat):(bit b).testBit i=decide (i=b):=by
 have:=bit_or 0 b i
 simpa using this
theorem row_abs {M:Nat→Prop} {v v':Value} {n k sz m:Nat} {c:Array Value} (h:rowV s n k v=some (c,m)) (hv:VR ρ v v') (hm:∀b,m.testBit b=true→M b) (hW:WR P ρ M s.heap W) (hk:k=n*sz) (hcs:c.size=k):
  ∃c',AV ρ c c'∧(∀W2,W2.heap=W.heap→(Builtin.firstCells sz n v').run P W2= .ok c' W2)∧∀l cap a',v'= .slice (some a') l cap→∀j,j<k→c'[j]? =W.cell? (a'.add j):=by
 unfold rowV at h
 split at h
 ·rename_i ad l cp
  split at h<;>try cases h
  next q t fz hg hs=>
  split at h<;>try cases h
  next hle=>
  have hle:=Nat.le_of_ble_eq_true hle
  cases hv with
  |sl hA hc=>
   rename_i ad' cp'
   obtain⟨hl,o',ho',hor,hcp⟩:=BR.live hW hA.1 (hm _ (by rw[bit_test];simp)) hg
   cases hor with
   |cells t h1 h2=>
    rename_i q'
    have hcell:∀j,j<k→W.cell? (ad'.add j)=q'[ad.off+j]?:=fun j hj=>by
     have:=(hA.add j)
     unfold World.cell?
     have hb:(ad'.add j).block=ad'.block:=by unfold Addr.add;split<;>rfl
     have hof:(ad'.add j).off=ad'.off+j:=by unfold Addr.add;split<;>simp_all
     have hsp:(ad'.add j).spot=none:=by
      unfold Addr.add;split
      ·exact (hA.eq hl).2.trans hs
      ·rfl
     rw[hb,ho',hsp,hof,(hA.eq hl).1]
     rfl
    have hsz:∀j,((q'.toList.drop ad.off).take k)[j]? =if j<k then q'[ad.off+j]? else none:=fun j=>by
     rw[List.getElem?_take]
     split
     ·rw[List.getElem?_drop,Array.getElem?_toList]
     ·rfl
    have hsz0:∀j,((q.toList.drop ad.off).take k)[j]? =if j<k then q[ad.off+j]? else none:=fun j=>by
     rw[List.getElem?_take]
     split
     ·rw[List.getElem?_drop,Array.getElem?_toList]
     ·rfl
    have hlen:((q'.toList.drop ad.off).take k).length=k:=by
     rw[List.length_take,List.length_drop,Array.length_toList];omega
    refine⟨((q'.toList.drop ad.off).take k).toArray,⟨?_,fun i u u' hu hu'=>?_⟩,fun W2 hW2=>?_,?_⟩
    ·simp only[List.size_toArray]at hcs⊢
     rw[hcs,hlen]
    ·simp only[List.getElem?_toArray]at hu hu'
     rw[hsz0]at hu;rw[hsz]at hu'
     split at hu
     ·rename_i hi;rw[if_pos hi]at hu';exact h2 _ u u' hu hu'
     ·cases hu
    ·have:=run_firstCells_some (P:=P) W2 sz n ad' l cp' ((q'.toList.drop ad.off).take k) (by rw[hlen,hk]) (fun j u hu=>by
      rw[hsz]at hu
      split at hu
      ·rename_i hj
       have hcj:=hcell j hj
       unfold World.cell? at hcj⊢
       rw[hW2]
       exact hcj.trans hu
      ·cases hu)
     exact this
    ·intro l2 cap2 a2 e2 j hj
     cases e2
     rw[hcell j hj,List.getElem?_toArray,hsz,if_pos hj]
 ·split at h<;>cases h
  rename_i hk0
  have hk0:k=0:=Nat.eq_of_beq_eq_true hk0
  subst hk0
  cases hv
  exact⟨#[],AV.nil,fun W2 _=>run_firstCells_none ..,fun l cap a' e=>by cases e⟩
 ·cases h
  cases hv
  refine⟨_,AV.refl ?_,fun W2 _=>rfl,fun l cap a' e=>by cases e⟩
  rw[List.all_eq_true]
  intro x hx
  rw[Array.toList_map,List.mem_map]at hx
  obtain⟨y,_,rfl⟩:=hx
  rfl
 ·cases h
/-- a new block -/
theorem post_alloc {ob ob':Obj} {rd:Nat} {W1:World} (hp:Pre P n0 ρ s {heap:=s.heap.set s.next (some ob),next:=s.next+1,rd:=s.rd|||rd,wr:=s.wr} W) (ho:OR ρ ob ob') (hh:W1.heap=W.heap.push ob') (h1:W1.os=W.os) (h2:W1.tape=W.tape) (h3:W1.output=W.output):
  ∃ρ',PLe ρ ρ'∧ρ' s.next= .live W.heap.size∧ρ'.cap s.next=ocap P ob'∧Post P ρ s {heap:=s.heap.set s.next (some ob),next:=s.next+1,rd:=s.rd|||rd,wr:=s.wr} W ρ' W1:=by
 have hab:ρ s.next= .abs:=hp.fresh _ (Nat.le_refl _) (by show s.next<s.next+1;omega)
 have hle:PLe ρ ⟨fun b=>if b=s.next then .live W.heap.size else ρ b,fun b=>if b=s.next then ocap P ob' else ρ.cap b⟩:=by
  refine⟨fun b=>?_,fun b hb=>?_⟩
  ·by_cases e:b=s.next
   ·exact .inl (e▸hab)
   ·simp only[if_neg e];exact (PLe.refl ρ).at_ b
  ·have:b≠s.next:=fun e=>hb (e▸hab)
   simp only[if_neg this]
 refine⟨_,hle,by simp,by simp,hle,fun b h1 h2=>?_,fun b x h1 h2=>?_,⟨fun b c x h1 h2=>?_,fun b x h1=>?_⟩,fun b hb=>?_,fun x hx hb=>?_,?_,h1,h2,h3,fun b x k1 k2 k3=>?_⟩
 ·by_cases e:b=s.next
  ·subst e;exact⟨Nat.le_refl _,Nat.lt_succ_self _⟩
  ·simp only[if_neg e]at h2;exact absurd h1 h2
 ·by_cases e:b=s.next
  ·rw[e,hab]at h1;cases h1
  ·simp only[if_neg e]at h2;rw[h1]at h2;cases h2
 ·dsimp only at h1 h2
  split at h1<;>split at h2
  ·rename_i e1 e2;rw[e1,e2]
  ·cases h1;have:=hp.inj.lt _ _ h2;omega
  ·cases h2;have:=hp.inj.lt _ _ h1;omega
  ·exact hp.inj.inj b c x h1 h2
 ·rw[hh,Array.size_push]
  dsimp only at h1
  split at h1
  ·cases h1;omega
  ·have:=hp.inj.lt _ _ h1;omega
 ·by_cases e:b=s.next
  ·subst e
   refine .inr (.inr ⟨W.heap.size,ob,ob',by simp,by rw[Tr.get_set,if_pos rfl],by rw[hh];simp,ho.mono hle,by simp⟩)
  ·have hb:AS.tch {heap:=s.heap.set s.next (some ob),next:=s.next+1,rd:=s.rd|||rd,wr:=s.wr} b:=hb.resolve_right fun h=>e (by have h1:=h.1;have h2:b<s.next+1:=h.2;omega)
   show _∨(_∧(s.heap.set s.next (some ob)).get b=none)∨_
   rw[Tr.get_set,if_neg e]
   simp only[if_neg e]
   rcases hp.wr b hb with k|k|⟨x,p,p',k1,k2,k3,k4,k5⟩
   ·exact .inl k
   ·exact .inr (.inl k)
   ·refine .inr (.inr ⟨x,p,p',k1,k2,?_,k4.mono hle,k5⟩)
    rw[hh,Array.getElem?_push,if_neg (by have:=hp.inj.lt _ _ k1;omega)];exact k3
 ·rw[hh,Array.getElem?_push,if_neg (by omega)]
 ·rw[hh,Array.size_push];omega
 ·by_cases e:b=s.next
  ·simp only[if_pos e]at k2;cases k2;omega
  ·simp only[if_neg e]at k2;rw[k1]at k2;cases k2
end
end Go.Proofs.YtmnoaeffocnnmaaGreatDoor

namespace Go.Proofs.YtmnoaeffocnnmaaGreatDoor
section
variable {P:Program} {n0:Nat} {ρ:PM} {e:Tr Value} {a:Act} {s s':AS} {r:OO} {W:World} {o:Oper}
/-- a block that is lost -/
theorem post_kill {s1:AS} {ρ1:PM} {W1:World} {b0 x0:Nat} (h:Post P ρ s s1 W ρ1 W1) (hb:ρ1 b0= .live x0) (hb0:ρ b0≠ .abs):
  ∃ρ2,PLe ρ1 ρ2∧(∀b,b≠b0→ρ2 b=ρ1 b)∧(∀b,ρ2.cap b=ρ1.cap b)∧Post P ρ s {s1 with heap:=s1.heap.set b0 none,wr:=s1.wr|||bit b0} W ρ2 W1:=by
 have hle:PLe ρ1 ⟨fun b=>if b=b0 then .dead else ρ1 b,ρ1.cap⟩:=by
  refine⟨fun b=>?_,fun b _=>rfl⟩
  by_cases e:b=b0
  ·subst e;exact .inr (.inr ⟨x0,hb,.inr (by simp)⟩)
  ·simp only[if_neg e];exact (PLe.refl ρ1).at_ b
 refine⟨_,hle,fun b e=>by simp only[if_neg e],fun b=>rfl,h.le.trans hle,fun b h1 h2=>?_,fun b x h1 h2=>?_,⟨fun b c x h1 h2=>?_,fun b x h1=>?_⟩,fun b hb'=>?_,fun x hx hb'=>?_,h.sz,h.os,h.tape,h.out,fun b x k1 k2 k3=>?_⟩
 ·by_cases e:b=b0
  ·subst e;exact absurd h1 hb0
  ·simp only[if_neg e]at h2;exact h.dom b h1 h2
 ·by_cases e:b=b0
  ·subst e;exact bit_self _ _
  ·simp only[if_neg e]at h2
   rw[bit_or];simp [h.kill b x h1 h2]
 ·dsimp only at h1 h2
  split at h1<;>split at h2
  ·cases h1
  ·cases h1
  ·cases h2
  ·exact h.inj.inj b c x h1 h2
 ·dsimp only at h1
  split at h1
  ·cases h1
  ·exact h.inj.lt b x h1
 ·show _∨(_∧(s1.heap.set b0 none).get b=none)∨∃x p p',_∧(s1.heap.set b0 none).get b=some p∧_∧_∧_
  rw[Tr.get_set]
  by_cases e:b=b0
  ·subst e;exact .inr (.inl ⟨by simp,by simp⟩)
  ·simp only[if_neg e]
   have hb2:s1.tch b∨(s.next≤b∧b<s1.next):=by
    rcases hb' with (k|k)|k
    ·exact .inl (.inl k)
    ·refine .inl (.inr ?_)
     have k:(s1.wr|||bit b0).testBit b=true:=k
     rw[bit_or]at k
     simpa [e] using k
    ·exact .inr k
   rcases h.wr b hb2 with k|k|⟨x,p,p',k1,k2,k3,k4,k5⟩
   ·exact .inl k
   ·exact .inr (.inl k)
   ·exact .inr (.inr ⟨x,p,p',k1,k2,k3,k4.mono hle,k5⟩)
 ·refine h.fr x hx fun b hb2=>?_
  have:(s1.wr|||bit b0).testBit b=false:=hb' b hb2
  rw[bit_or]at this
  simp only[Bool.or_eq_false_iff]at this
  exact this.1
 ·by_cases e:b=b0
  ·subst e;exact absurd k1 hb0
  ·simp only[if_neg e]at k2
   obtain⟨b',j1,j2⟩:=h.own b x k1 k2 k3
   exact⟨b',j1,by rw[bit_or,j2];rfl⟩
theorem zC_of {u:TypeId} (h:zC P u=true):∃i z,P.info? u=some i∧i.zero=some z∧z.cells.size=i.size∧P.cellsOf u=i.size∧P.bytesOf u=i.bytes:=by
 unfold zC at h
 split at h
 ·rename_i i hi
  split at h
  ·rename_i z hz
   rw[Bool.and_eq_true]at h
   exact⟨i,z,hi,hz,Nat.eq_of_beq_eq_true h.2,by simp [Program.cellsOf,hi],by simp [Program.bytesOf,hi]⟩
  ·cases h
 ·cases h
theorem one1_VR {l l':List Value} (h:AV ρ l.toArray l'.toArray) (h1:l.all one1=true):∀v∈l',v.oneCell'=true:=by
 intro v hv
 obtain⟨i,hi,rfl⟩:=List.mem_iff_getElem.1 hv
 have hs:=h.1
 simp only[List.size_toArray]at hs
 have hi':i<l.length:=by omega
 have hV:=h.2 i l[i] l'[i] (by simp) (by simp)
 have h2:=List.all_eq_true.1 h1 l[i] (List.getElem_mem _)
 generalize l[i]=u at *
 generalize l'[i]=u' at *
 cases hV<;>first|rfl|cases h2
theorem AV.pfx {c c' d:Array Value} (h:AV ρ c c'):∀(i:Nat) v v',c[i]? =some v→(c'++d)[i]? =some v'→VR ρ v v':=fun i v v' h1 h2=>by
 have hi:i<c.size:=(Array.getElem?_eq_some_iff.1 h1).1
 rw[Array.getElem?_append,if_pos (by rw[←h.1];exact hi)]at h2
 exact h.2 i v v' h1 h2
/-- an append that makes a new row -/
theorem app_out {u t t2 ty:TypeId} {i:TypeInfo} {z:Value} {l c n m1 m2:Nat} {base base':Option Addr} {c':Nat} {x x':Value} {oo ww:Array Value}
  (ht:P.underlying t=some (.slice u)) (ht2:notInt P t2=true) (hi:P.info? u=some i) (hz:i.zero=some z) (hzs:z.cells.size=i.size) (hcs:P.cellsOf u=i.size) (h1:1≤P.cellsOf u) (hby:i.bytes≤4096) (hln:l+n≤1000000)
  (hv1:VR ρ (.slice base l c) (.slice base' l c')) (hv2:VR ρ x x') (hlen:lenV x=some n) (hr1:rowV s l (l*P.cellsOf u) (.slice base l c)=some (oo,m1)) (hr2:rowV s n (n*P.cellsOf u) x=some (ww,m2)) (hs1:oo.size=l*P.cellsOf u) (hs2:ww.size=n*P.cellsOf u) (hg:c'<l+n)
  {rd0:Nat} (hrd:∀b,(m1|||m2).testBit b=true→(s.rd|||rd0).testBit b=true∨s.wr.testBit b=true) (hp:Pre P n0 ρ s {heap:=s.heap.set s.next (some (.cells (oo++ww) u)),next:=s.next+1,rd:=s.rd|||rd0,wr:=s.wr} W):
  ∃v' W' ρ',(Builtin.append_ #[t,t2] ty #[.slice base' l c',x']).run P W= .ok v' W'∧PLe ρ ρ'∧VR ρ' (.slice (some ⟨s.next,0,none⟩) (l+n) LOO) v'∧Post P ρ s {heap:=s.heap.set s.next (some (.cells (oo++ww) u)),next:=s.next+1,rd:=s.rd|||rd0,wr:=s.wr} W ρ' W':=by
 have hM:∀b,(m1.testBit b=true∨m2.testBit b=true)→AS.tch {heap:=s.heap.set s.next (some (.cells (oo++ww) u)),next:=s.next+1,rd:=s.rd|||rd0,wr:=s.wr} b:=fun b hb=>by
  exact hrd b (by rw[Nat.testBit_or,Bool.or_eq_true];exact hb)
 obtain⟨o',hav1,hrun1,_⟩:=row_abs hr1 hv1 (fun b hb=>hM b (.inl hb)) hp.wr rfl hs1
 obtain⟨w',hav2,hrun2,_⟩:=row_abs hr2 hv2 (fun b hb=>hM b (.inr hb)) hp.wr rfl hs2
 rw[hcs]at hrun1 hrun2
 have hrun:=run_app_out (ty:=ty) ht ht2 hi hz base' l c' n x' o' w' (w:=W) (fun w=>lenV_run hlen hv2 w) (hrun1 W.drew rfl) (hrun2 W.drew rfl) hg hln hby
 have hge:=grownCap_ge W (l+n) c' u
 have hor:OR ρ (.cells (oo++ww) u (0,0)) (.cells (o'++w'++Builtin.zeroCells z.cells (grownCap W (l+n) c' u-(l+n))) u (0,0)):=.cells u (by
   have h2:=(hav1.append hav2).1
   rw[h2,Array.size_append (xs:=o'++w')];omega) (AV.pfx (hav1.append hav2))
 obtain⟨ρ',hle,hlv,hcap,hpost⟩:=post_alloc (W1:=W.drew.alloc (.cells (o'++w'++Builtin.zeroCells z.cells (grownCap W (l+n) c' u-(l+n))) u)) hp hor rfl rfl rfl rfl
 refine⟨_,_,ρ',hrun,hle,.sl (AR.mk (.inr hlv) rfl rfl) (.inr ⟨rfl,hge,fun _=>?_⟩),hpost⟩
 rw[hcap]
 show grownCap W (l+n) c' u=(o'++w'++Builtin.zeroCells z.cells (grownCap W (l+n) c' u-(l+n))).size/P.cellsOf u
 have e1:o'.size=l*i.size:=by rw[←hav1.1,hs1,hcs]
 have e2:w'.size=n*i.size:=by rw[←hav2.1,hs2,hcs]
 rw[Array.size_append,Array.size_append,size_zeroCells,e1,e2,hzs,hcs,←Nat.add_mul,←Nat.add_mul,Nat.mul_div_cancel _ (by omega)]
 omega
end
end Go.Proofs.YtmnoaeffocnnmaaGreatDoor
