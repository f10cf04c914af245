import Derived.Test.YtngglbakkedaiaaGreatDoorEW
import Derived.RangeFuncLeaves
import Derived.Scope
import Derived.RecoverIn
set_option linter.all false
namespace Go.Proofs.YtngglbakkedaiaaGreatDoor
section
theorem wpIn_scope0 {F:Fence} {n:Nat} {P:Program} {Q:Exit→Act→World→Prop} {a:Act} {w:World} {c:Code} (h:c.wpIn F n P (Exit.noGoto Q) a w):(Code.scope c).wpIn F n P Q a w:=by
 intro b k cs hro hb hr
 have s1:step P (lone (b.atR a (.code (.scope c)::k)) cs w)= .next (lone (b.atR a (.code c:: .inScope c::k)) cs w):=step_lone_go (by simp [stepG,stepG.exec,Frame.atR])
 have s2:∀a w,step P (lone (b.atR a (.inScope c::k)) cs w)= .next (lone (b.atR a k) cs w):=fun a w=>step_lone_go (by simp [stepG,stepG.exec,Frame.atR])
 have h0:(lone (b.atR a (.code (.scope c)::k)) cs w).fenced P F:=fenced_calm hb hr rfl
 obtain⟨e,a1,w1,hq,harr⟩:=h b (.inScope c::k) cs hro hb hr
 cases e with
 |normal=>exact⟨.normal,a1,w1,hq,.head h0 s1 (StepsIn.trans harr (.one (fenced_calm hb hr rfl) (s2 _ _)))⟩
 |exit id=>
  have hx:exitTo id (.inScope c::k)=exitTo id k:=by simp [exitTo]
  exact⟨.exit id,a1,w1,hq,fun k' hk=>.head h0 s1 (harr.1 k' (by rw[hx];exact hk)),fun hr' hk=>let⟨k1,h1,h2⟩:=harr.2 hr' (by rw[hx];exact hk);⟨k1,h1,.head h0 s1 h2⟩⟩
 |goto l=>exact hq.elim
 |ret=>exact⟨_,a1,w1,hq,.of_steps (.one h0 s1) harr⟩
 |panic ch=>exact⟨_,a1,w1,hq,.of_steps (.one h0 s1) harr⟩
 |outgrown=>exact⟨_,a1,w1,hq,.of_steps (.one h0 s1) harr⟩
section
variable {P:Program} {n0:Nat} {size lf:Nat}
def QOK (P:Program) (size:Nat) (ρ:PM) (s:AS) (W:World) (x:AXs) (st':St) (Q:Exit→Act→World→Prop):Prop:=∀ρ' a' W',Post P ρ s st'.s W ρ' W'→match x with
 |.normal=>StR P size ρ' st'.env st'.dfs a'→Q .normal a' W'
 |.exit id=>StR P size ρ' st'.env st'.dfs a'→Q (.exit id) a' W'
 |.ret=>StR P size ρ' st'.env st'.dfs a'→Q .ret a' W'
 |.panic v=>∀v',DfR P ρ' st'.dfs a'.defers→VR ρ' v v'→Q (.panic [{v:=v',recovered:=false}]) a' W'
theorem QOK.after {ρ ρ1:PM} {s s1:AS} {W W1:World} {x:AXs} {st':St} {Q:Exit→Act→World→Prop} (h:QOK P size ρ s W x st' Q) (hI:Inj ρ W) (g:Grow s s1) (g2:Grow s1 st'.s) (hp:Post P ρ s s1 W ρ1 W1):QOK P size ρ1 s1 W1 x st' Q:=fun ρ' a' W' hp2=>h ρ' a' W' (Post.trans hI g g2 hp hp2)
theorem adr_grow {call:ACall} (hc:CallOK P n0 call) {ops:Array Oper}:∀(l:List (Oper×Nat)) (i:Nat) (h:List (Nat×Nat×Nat)) (st st':St) (x:AXs),adr P n0 call size ops l i h st=some (x,st')→Grow st.s st'.s
 |[],i,h,st,st',x,hh=>by cases hh;exact Grow.refl _
 |(o,bf)::r,i,h,st,st',x,hh=>by
  have key:∀{u:St} {y:AXs},aop1 P n0 call size ops false o {st with s:={st.s with rd:=0,wr:=0}}=some (y,u)→Grow st.s {u.s with rd:=st.s.rd|||u.s.rd,wr:=st.s.wr|||u.s.wr}:=fun {u y} hu=>by
   have g:=aop1_grow hc hu
   exact⟨g.next,fun b hb=>or_l hb,fun b hb=>or_l hb,fun b h1 h2=>g.same b (by
    have h1:(st.s.wr|||u.s.wr).testBit b=false:=h1
    rw[Nat.testBit_or,Bool.or_eq_false_iff]at h1
    exact h1.2) h2⟩
  unfold adr at hh
  split at hh<;>try cases hh
  ·next u hu=>
   rw[sq_eq]at hh
   split at hh<;>try cases hh
   rw[sq_eq,sq_eq]at hh
   have g2:=adr_grow hc r _ _ _ _ _ hh
   exact (key hu).trans g2
  ·next v u hu=>
   split at hh<;>try cases hh
   rw[sq_eq,sq_eq]at hh
   cases hh
   exact key hu
theorem loopN_grow {f:St→Option (AXs×St)} (hf:∀st x st',f st=some (x,st')→Grow st.s st'.s):∀(n:Nat) (st st':St) (x:AXs),loopN n f st=some (x,st')→Grow st.s st'.s
 |0,_,_,_,h=>by cases h
 |n+1,st,st',x,h=>by
  unfold loopN at h
  split at h
  ·rename_i st1 h1
   exact (hf _ _ _ h1).trans (loopN_grow hf n _ _ _ h)
  ·exact hf _ _ _ h
def RdR (ρ:PM):Option Nat→Option Nat→Prop
 |none,none=>True
 |some l,some l'=>BR ρ l l'
 |_,_=>False
theorem RdR.mono {ρ ρ':PM} (hl:PLe ρ ρ') {ir rd:Option Nat} (h:RdR ρ ir rd):RdR ρ' ir rd:=by
 cases ir<;>cases rd<;>first|exact h|exact BR.mono hl h
theorem RdR.dk {ρ:PM} {ir rd:Option Nat} (h:RdR ρ ir rd) (e:ir.isNone=true):rd=none:=by
 cases ir<;>cases rd<;>first|rfl|exact h.elim|cases e
theorem enter_sound {ρ:PM} {W:World} {s s1:AS} {fn:FuncId} {tm tm':Array Value} {ps:Array Tmp} {asg body:Code} {ir rd:Option Nat} {l:Nat} {mk:List Deferred} {dl:List ADef} (h:arun P (Instr.enterLoop 0 tm ps asg body ir) s=some (.ok (l,mk),s1)) (hm:mks ir mk=some dl) (hR:RdR ρ ir rd) (ht:AV ρ tm tm') (hp:Pre P n0 ρ s s1 W):
  ∃ρ1 W1 l' mk',(Instr.enterLoop fn tm' ps asg body rd).run P W= .ok (l',mk') W1∧BR ρ1 l l'∧DfR P ρ1 dl mk'∧Post P ρ s s1 W ρ1 W1:=by
 cases ir with
 |none=>
  cases rd with
  |some=>exact hR.elim
  |none=>
   obtain⟨ρ1,W1,⟨x1,hrun,hmk⟩,hpost⟩:=arun_sound (sr_enterLoop 0 fn ht ps asg body) _ _ _ W h hp.inj hp.wr hp.fresh
   obtain⟨l',mk'⟩:=x1
   obtain⟨hl,D0,D',e1,e2,hD⟩:=hmk
   simp only at hl e1 e2
   subst e1;subst e2
   cases hm
   exact⟨ρ1,W1,l',_,hrun,hl,.cons ⟨D',rfl,hD⟩ .nil,hpost⟩
 |some la=>
  cases rd with
  |none=>exact hR.elim
  |some lb=>
   obtain⟨ρ1,W1,⟨x1,hrun,hmk⟩,hpost⟩:=arun_sound (sr_enterIn hR 0 fn ht ps asg body) _ _ _ W h hp.inj hp.wr hp.fresh
   obtain⟨l',mk'⟩:=x1
   obtain⟨hl,e1,e2⟩:=hmk
   simp only at hl e1 e2
   subst e1;subst e2
   cases hm
   exact⟨ρ1,W1,l',_,hrun,hl,.nil,hpost⟩
theorem DfR.app {ρ:PM} {a b:List ADef} {a' b':List Deferred} (h:DfR P ρ a a') (k:DfR P ρ b b'):DfR P ρ (a++b) (a'++b'):=by
 induction h with
 |nil=>exact k
 |cons h _ ih=>exact .cons h ih
theorem acode_grow {call:ACall} (hc:CallOK P n0 call) {ir:Option Nat} (c:Code):∀(st st':St) (x:AXs),acode P n0 call ir size lf c st=some (x,st')→Grow st.s st'.s:=by
 induction c with
 |skip=>intro st st' x h;cases h;exact Grow.refl _
 |region id ops d=>
  intro st st' x h
  cases d with
  |false=>exact aops_grow hc _ _ _ _ h
  |true=>
   unfold acode at h
   split at h
   ·exact adr_grow hc _ _ _ _ _ _ h
   ·cases h
 |seq a b iha ihb=>
  intro st st' x h
  unfold acode at h
  split at h
  ·rename_i st1 h1
   exact (iha _ _ _ h1).trans (ihb _ _ _ h)
  ·exact iha _ _ _ h
 |cond c a b iha ihb=>
  intro st st' x h
  unfold acode at h
  split at h<;>try cases h
  split at h<;>try cases h
  ·exact iha _ _ _ h
  ·exact ihb _ _ _ h
 |block id b ih=>
  intro st st' x h
  unfold acode at h
  split at h
  ·rename_i i st1 h1
   split at h<;>(cases h;exact ih _ _ _ h1)
  ·exact ih _ _ _ h
 |loop b ih=>
  intro st st' x h
  unfold acode at h
  exact loopN_grow (fun st x st' h=>ih st st' x h) _ _ _ _ h
 |exit id=>intro st st' x h;cases h;exact Grow.refl _
 |label l=>intro st st' x h;cases h;exact Grow.refl _
 |ret=>intro st st' x h;cases h;exact Grow.refl _
 |rangeFunc g ps asg body _ _=>
  intro st st' x h
  unfold acode at h
  split at h<;>try cases h
  split at h<;>try cases h
  split at h<;>try cases h
  split at h<;>try cases h
  next he=>
  have g1:=arun_grow _ _ _ _ he
  split at h<;>try cases h
  split at h<;>try cases h
  ·next hcall=>
   have g2:=hc.grow _ _ _ _ _ hcall
   split at h<;>try cases h
   all_goals (rename_i hend;exact g1.trans (g2.trans (arun_grow _ _ _ _ hend)))
  ·next hcall=>exact g1.trans (hc.grow _ _ _ _ _ hcall)
 |scope b ih=>intro st st' x h;exact ih _ _ _ h
 |goto=>intro st st' x h;cases h
 |refuse=>intro st st' x h;cases h
theorem loop_sound {b:Code} {call:ACall} (hc:CallOK P n0 call) {ir:Option Nat} {rd:Option Nat} {n:Nat}
  (ih:∀(st st':St) (x:AXs) (ρ:PM) (a:Act) (W:World) (Q:Exit→Act→World→Prop),acode P n0 call ir size lf b st=some (x,st')→RdR ρ ir rd→StR P size ρ st.env st.dfs a→Pre P n0 ρ st.s st'.s W→QOK P size ρ st.s W x st' Q→b.wpIn (fw rd) n P Q a W):
  ∀(k:Nat) (st st':St) (x:AXs) (ρ:PM) (a:Act) (W:World) (Q:Exit→Act→World→Prop),loopN k (acode P n0 call ir size lf b) st=some (x,st')→RdR ρ ir rd→StR P size ρ st.env st.dfs a→Pre P n0 ρ st.s st'.s W→QOK P size ρ st.s W x st' Q→
  ∀(fr:Frame) (kk:List Item) (cs:List Frame),fr.roundOf=(fw rd).round→(fw rd).fn fr.fn→(fw rd).room (cs.length+1+n)→
   ∃e a' w',Q e a' w'∧ArrivesIn (Machine.fenced P (fw rd)) P (lone (fr.atR a (.code b::.inLoop b::kk)) cs W) fr kk cs e a' w'
 |0,_,_,_,_,_,_,_,h,_,_,_,_=>by cases h
 |k+1,st,st',x,ρ,a,W,Q,h,hR,hs,hp,hQ=>by
  intro fr kk cs hro hb hr
  unfold loopN at h
  split at h
  ·rename_i st1 h1
   have g1:=acode_grow hc b _ _ _ h1
   have g2:=loopN_grow (fun st x st' h=>acode_grow hc b st st' x h) _ _ _ _ h
   obtain⟨e,a1,w1,hq,harr⟩:=ih st st1 .normal ρ a W (fun e a' W'=>e= .normal∧∃ρ1,Post P ρ st.s st1.s W ρ1 W'∧StR P size ρ1 st1.env st1.dfs a') h1 hR hs (hp.less g2) (fun ρ1 a1 W1 hpo hst=>⟨rfl,ρ1,hpo,hst⟩) fr (.inLoop b::kk) cs hro hb hr
   obtain⟨rfl,ρ1,hpo,hst⟩:=hq
   obtain⟨e2,a2,w2,hq2,harr2⟩:=loop_sound hc ih k st1 st' x ρ1 a1 w1 Q h (hR.mono hpo.le) hst (hp.after hpo g1 g2) (hQ.after hp.inj g1 g2 hpo) fr kk cs hro hb hr
   exact⟨e2,a2,w2,hq2,.of_steps (StepsIn.trans harr (.one (fenced_calm hb hr rfl) stepR_inLoop)) harr2⟩
  ·rename_i hne
   have hnn:x≠ .normal:=fun e=>hne st' (by rw[h,e])
   obtain⟨e,a1,w1,hq,harr⟩:=ih st st' x ρ a W (fun e a' W'=>e≠ .normal∧Q e a' W') h hR hs hp (fun ρ1 a1 W1 hpo=>by
    have:=hQ ρ1 a1 W1 hpo
    cases x with
    |normal=>exact absurd rfl hnn
    |exit id=>exact fun hst=>⟨(by intro e;cases e),this hst⟩
    |ret=>exact fun hst=>⟨(by intro e;cases e),this hst⟩
    |panic v=>exact fun v' hd hv=>⟨(by intro e;cases e),this v' hd hv⟩) fr (.inLoop b::kk) cs hro hb hr
   exact⟨e,a1,w1,hq.2,.pass (x:=.inLoop b) rfl (fun _ _=>.inl hq.1) harr⟩
theorem acode_sound {call:ACall} (hc:CallOK P n0 call) {ir:Option Nat} {rd:Option Nat} (hm:P.follows .mixedOrders=true) (c:Code) {n:Nat}:∀(st st':St) (x:AXs) (ρ:PM) (a:Act) (W:World) (Q:Exit→Act→World→Prop),acode P n0 call ir size lf c st=some (x,st')→RdR ρ ir rd→StR P size ρ st.env st.dfs a→Pre P n0 ρ st.s st'.s W→QOK P size ρ st.s W x st' Q→c.wpIn (fw rd) n P Q a W:=by
 induction c with
 |skip=>
  intro st st' x ρ a W Q h hR hs hp hQ
  cases h
  exact wpIn_skip (hQ ρ a W (Post.refl hp.inj hp.wr) hs)
 |region id ops d=>
  intro st st' x ρ a W Q h hR hs hp hQ
  cases d with
  |false=>
   refine wpIn_region ?_
   rw[List.range_eq_range']
   have:=aops_sound (n:=n) (Q:=Q) hc (rd:=rd) (fun e=>hR.dk e) ops.toList 0 st st' x ρ a W (by simp) h hs hp (fun e ρ' a' W' h1 h2=>by subst e;exact hQ ρ' a' W' h2 h1) (fun v e ρ' a' W' v' hd hv h2=>by subst e;exact hQ ρ' a' W' h2 v' hd hv)
   simpa using this
  |true=>
   unfold acode at h
   split at h
   ·rename_i hrg
    exact adr_sound hc hm hrg h hs hp (fun e ρ' a' W' h1 h2=>by subst e;exact hQ ρ' a' W' h2 h1) (fun v e ρ' a' W' v' hd hv h2=>by subst e;exact hQ ρ' a' W' h2 v' hd hv)
   ·cases h
 |seq a b iha ihb=>
  intro st st' x ρ ac W Q h hR hs hp hQ
  unfold acode at h
  refine wpIn_seq ?_
  split at h
  ·rename_i st1 h1
   have g1:=acode_grow hc a _ _ _ h1
   have g2:=acode_grow hc b _ _ _ h
   exact iha st st1 .normal ρ ac W _ h1 hR hs (hp.less g2) fun ρ1 a1 W1 hpo hst=>ihb st1 st' x ρ1 a1 W1 Q h (hR.mono hpo.le) hst (hp.after hpo g1 g2) (hQ.after hp.inj g1 g2 hpo)
  ·rename_i hne
   have hnn:x≠ .normal:=fun e=>hne st' (by rw[h,e])
   refine iha st st' x ρ ac W _ h hR hs hp fun ρ1 a1 W1 hpo=>?_
   have:=hQ ρ1 a1 W1 hpo
   cases x with
   |normal=>exact absurd rfl hnn
   |exit id=>exact this
   |ret=>exact this
   |panic v=>exact this
 |cond c a b iha ihb=>
  intro st st' x ρ ac W Q h hR hs hp hQ
  unfold acode at h
  split at h<;>try cases h
  next hk=>
  have hv:=okX_VR (a:=ac) hs.env hp.gb hk
  split at h<;>try cases h
  ·rename_i hc'
   rw[hc']at hv
   exact wpIn_cond_true (by generalize ac.eval c=u at hv;cases hv;rfl) (iha _ _ _ _ _ _ _ h hR hs hp hQ)
  ·rename_i hc'
   rw[hc']at hv
   exact wpIn_cond_false (by generalize ac.eval c=u at hv;cases hv;rfl) (ihb _ _ _ _ _ _ _ h hR hs hp hQ)
 |block id b ih=>
  intro st st' x ρ ac W Q h hR hs hp hQ
  unfold acode at h
  refine wpIn_block ?_
  split at h
  ·rename_i i st1 h1
   split at h
   ·rename_i hi
    have hi:=Nat.eq_of_beq_eq_true hi
    cases h
    refine ih st st' (.exit i) ρ ac W _ h1 hR hs hp fun ρ1 a1 W1 hpo hst=>?_
    show (if i=id then Q .normal a1 W1 else Q (.exit i) a1 W1)
    rw[if_pos hi]
    exact hQ ρ1 a1 W1 hpo hst
   ·rename_i hi
    cases h
    refine ih st st' (.exit i) ρ ac W _ h1 hR hs hp fun ρ1 a1 W1 hpo hst=>?_
    show (if i=id then Q .normal a1 W1 else Q (.exit i) a1 W1)
    rw[if_neg (fun e:i=id=>by subst e;rw[Nat.beq_refl]at hi;cases hi)]
    exact hQ ρ1 a1 W1 hpo hst
  ·rename_i hne
   refine ih st st' x ρ ac W _ h hR hs hp fun ρ1 a1 W1 hpo=>?_
   have:=hQ ρ1 a1 W1 hpo
   cases x with
   |normal=>exact this
   |exit i=>exact absurd h (hne i st')
   |ret=>exact this
   |panic v=>exact this
 |loop b ih=>
  intro st st' x ρ ac W Q h hR hs hp hQ
  unfold acode at h
  intro fr kk cs hro hb hr
  obtain⟨e,a',w',hq,harr⟩:=loop_sound hc ih _ _ _ _ _ _ _ _ h hR hs hp hQ fr kk cs hro hb hr
  exact⟨e,a',w',hq,.of_steps (.one (fenced_calm hb hr rfl) stepR_loop) harr⟩
 |exit id=>
  intro st st' x ρ a W Q h hR hs hp hQ
  cases h
  exact wpIn_exit (hQ ρ a W (Post.refl hp.inj hp.wr) hs)
 |label l=>
  intro st st' x ρ a W Q h hR hs hp hQ
  cases h
  exact wpIn_label (hQ ρ a W (Post.refl hp.inj hp.wr) hs)
 |ret=>
  intro st st' x ρ a W Q h hR hs hp hQ
  cases h
  exact wpIn_ret (hQ ρ a W (Post.refl hp.inj hp.wr) hs)
 |rangeFunc g ps asg body _ _=>
  intro st st' x ρ a W Q h hR hs hp hQ
  unfold acode at h
  split at h<;>try cases h
  next hk=>
  have hv:=okX_VR (a:=a) hs.env hp.gb hk
  split at h<;>try cases h
  next gf first cap hfv=>
  split at h<;>try cases h
  next hb=>
  split at h<;>try cases h
  next l mk s1 he=>
  split at h<;>try cases h
  next dl hdl=>
  have g1:=arun_grow _ _ _ _ he
  have hta:AV ρ (arr size st.env) a.tmps:=⟨by unfold arr;simp [hs.size],fun i v v' h1 h2=>by
   unfold arr at h1
   rw[List.getElem?_toArray,List.getElem?_map]at h1
   have hi:i<a.tmps.size:=(Array.getElem?_eq_some_iff.1 h2).1
   rw[List.getElem?_range (by rw[←hs.size];exact hi)]at h1
   simp only[Option.map_some,Option.some.injEq]at h1
   subst h1
   have:=hs.env i
   rw[Array.getD_eq_getD_getElem?,h2]at this
   exact this⟩
  rw[hfv]at hv
  generalize hw:a.eval g=u at hv
  cases hv with
  |func h0 h1 h2 h3 h4=>
  cases h0
  rename_i first' cap'
  have fin:∀{y:CO} {s2:AS},call (.func gf) (first++#[.func (.yield l) #[] #[]]++cap) s1=some (y,s2)→∀g2:Grow s2 st'.s,(∀(ρ2:PM) (W2:World) (l':Nat) (mk':List Deferred) (e:Ending),Post P ρ st.s s2 W ρ2 W2→BR ρ2 l l'→DfR P ρ2 dl mk'→RetR ρ2 y e→Grow st.s s2→rangePost (fw rd) n P l' Q {a with defers:=mk'++a.defers} e W2)→(Code.rangeFunc g ps asg body).wpIn (fw rd) n P Q a W:=fun {y s2} hcall g2 hfin=>by
   have g1b:=hc.grow _ _ _ _ _ hcall
   refine wpIn_rangeFunc fun fn _=>?_
   obtain⟨ρ1,W1,l',mk',hrun,hl,hD,hpost⟩:=enter_sound (fn:=fn) he hdl hR hta (hp.less (g1b.trans g2))
   have hp1:=hp.after hpost g1 (g1b.trans g2)
   refine⟨l',_,W1,{target:= .fn (.func gf) cap',args:=first'++#[.func (.yield l') #[] #[]]},W1,gf,_,W1,hrun,?_,fun _ _=>trivial,hasBody_run hb _,fun h=>(by cases h),?_⟩
   ·unfold resolve
    simp only[Sem.run_bind,hw,Deferred.ofValue]
    rw[show (Array.map a.eval #[.const (.func (.yield l') #[] #[])]:Array Value)=#[.func (.yield l') #[] #[]] from by simp [Act.eval]]
    rfl
   have hy:VR ρ1 (.func (.yield l) #[] #[]) (.func (.yield l') #[] #[]):=.func (.yield hl) rfl (fun i v v' h=>by simp at h) rfl (fun i v v' h=>by simp at h)
   have hargs:AV ρ1 (first++#[.func (.yield l) #[] #[]]++cap) (first'++#[.func (.yield l') #[] #[]]++cap'):=by
    refine AV.append (AV.append (AV.mono hpost.le ⟨h1,h2⟩) ⟨rfl,fun i v v' k1 k2=>?_⟩) (AV.mono hpost.le ⟨h3,h4⟩)
    cases i with
    |zero=>simp at k1 k2;subst k1;subst k2;exact hy
    |succ=>simp at k1
   refine (hc.ok _ _ _ _ _ _ _ _ (n-1) hcall hargs (hp1.less g2)).mono fun e W2 he2=>?_
   obtain⟨ρ2,hpost2,hret⟩:=he2
   exact hfin ρ2 W2 l' mk' e (Post.trans hp.inj g1 g1b hpost hpost2) (hl.mono hpost2.le) (hD.mono hpost2.le) hret (g1.trans g1b)
  have dfs:∀{ρ3:PM} {mk':List Deferred} (a1:Act),PLe ρ ρ3→DfR P ρ3 dl mk'→StR P size ρ3 st.env (dl++st.dfs) {a with defers:=mk'++a.defers}:=fun {ρ3 mk'} a1 hle hD=>⟨hs.env.mono hle,hs.size,DfR.app hD (hs.defers.mono hle)⟩
  split at h<;>try cases h
  ·next v s2 hcall=>
   have ends:∀{j:Option Code} {s3:AS},arun P (Instr.endLoop l) s2=some (.ok j,s3)→s3=st'.s→∀(ρ2:PM) (W2:World) (l':Nat),Post P ρ st.s s2 W ρ2 W2→BR ρ2 l l'→Grow st.s s2→∃ρ3 W3,(Instr.endLoop l').run P W2= .ok j W3∧PLe ρ ρ3∧PLe ρ2 ρ3∧Post P ρ st.s st'.s W ρ3 W3:=fun {j s3} hend e3 ρ2 W2 l' hpost hl g12=>by
    subst e3
    have g3:=arun_grow _ _ _ _ hend
    have hp2:=hp.after hpost g12 g3
    obtain⟨ρ3,W3,⟨j',hrun,hj⟩,hpost3⟩:=arun_sound (sr_endLoop hl) _ _ _ W2 hend hp2.inj hp2.wr hp2.fresh
    subst hj
    exact⟨ρ3,W3,hrun,hpost.le.trans hpost3.le,hpost3.le,Post.trans hp.inj g12 g3 hpost hpost3⟩
   split at h<;>try cases h
   ·next s3 hend=>
    refine fin hcall (arun_grow _ _ _ _ hend) fun ρ2 W2 l' mk' e hpost hl hD hret g12=>?_
    obtain⟨v',rfl,_⟩:=hret
    obtain⟨ρ3,W3,hrun,hle,hle2,hpo⟩:=ends hend rfl ρ2 W2 l' hpost hl g12
    exact⟨_,W3,hrun,hQ ρ3 _ W3 hpo (dfs a hle (hD.mono hle2))⟩
   ·next s3 hend=>
    refine fin hcall (arun_grow _ _ _ _ hend) fun ρ2 W2 l' mk' e hpost hl hD hret g12=>?_
    obtain⟨v',rfl,_⟩:=hret
    obtain⟨ρ3,W3,hrun,hle,hle2,hpo⟩:=ends hend rfl ρ2 W2 l' hpost hl g12
    exact⟨_,W3,hrun,wpIn_ret (hQ ρ3 _ W3 hpo (dfs a hle (hD.mono hle2)))⟩
   ·next i s3 hend=>
    refine fin hcall (arun_grow _ _ _ _ hend) fun ρ2 W2 l' mk' e hpost hl hD hret g12=>?_
    obtain⟨v',rfl,_⟩:=hret
    obtain⟨ρ3,W3,hrun,hle,hle2,hpo⟩:=ends hend rfl ρ2 W2 l' hpost hl g12
    exact⟨_,W3,hrun,wpIn_exit (hQ ρ3 _ W3 hpo (dfs a hle (hD.mono hle2)))⟩
  ·next v s2 hcall=>
   refine fin hcall (Grow.refl _) fun ρ2 W2 l' mk' e hpost hl hD hret g12=>?_
   obtain⟨v',rfl,hv⟩:=hret
   exact hQ ρ2 _ W2 hpost v' (dfs a hpost.le hD).defers hv
 |scope b ih=>
  intro st st' x ρ a W Q h hR hs hp hQ
  refine wpIn_scope0 (ih st st' x ρ a W _ h hR hs hp fun ρ1 a1 W1 hpo=>?_)
  have:=hQ ρ1 a1 W1 hpo
  cases x<;>exact this
 |goto=>intro st st' x ρ a W Q h;cases h
 |refuse=>intro st st' x ρ a W Q h;cases h
end
end
section
noncomputable section
section
variable {P:Program} {n0:Nat} {size lf:Nat}
def MdR (ρ:PM):Md→FrameMode→Prop
 |.ret,u=>u= .returning
 |.pan v c,u=>∃v',u= .panicking [{v:=v',recovered:=c}]∧VR ρ v v'
theorem MdR.mono {ρ ρ':PM} (hl:PLe ρ ρ') {m:Md} {u:FrameMode} (h:MdR ρ m u):MdR ρ' m u:=by
 cases m with
 |ret=>exact h
 |pan v c=>obtain⟨v',e,hv⟩:=h;exact⟨v',e,hv.mono hl⟩
theorem MdR.settl {ρ:PM} {m:Md} {u:FrameMode} (h:MdR ρ m u):MdR ρ (settl m) (settle u):=by
 cases m with
 |ret=>cases h;rfl
 |pan v c=>
  obtain⟨v',rfl,hv⟩:=h
  cases c with
  |true=>rfl
  |false=>exact⟨v',rfl,hv⟩
theorem MdR.norun {ρ:PM} {m:Md} {u:FrameMode} (h:MdR ρ m u):u≠ .run:=by
 cases m with
 |ret=>cases h;intro e;cases e
 |pan v c=>obtain⟨v',rfl,hv⟩:=h;intro e;cases e
theorem rec_run {o:Oper} (h:isRec o=true) (f:Operand→Value) (W:World):(execOp f o).run P W= .ok .recover W:=by
 unfold isRec at h
 split at h
 ·rename_i a b ho
  unfold execOp resolve
  rw[ho]
  rfl
 ·cases h
theorem recoverD_ret {ρ:PM} {m:Md} {c0:Frame} {cs:List Frame} {u:FrameMode} (h:MdR ρ m u) (hn:∀v,m≠ .pan v false):recoverD ({c0 with mode:=u}::cs)=none:=by
 cases m with
 |ret=>cases h;rfl
 |pan v c=>
  obtain⟨v',rfl,_⟩:=h
  cases c with
  |true=>rfl
  |false=>exact absurd rfl (hn v)
theorem adop_grow {ops:Array Oper}:∀(l:List Oper) (m:Md) (st st':St) (x:AXs) (m':Md),adop P n0 size ops l m st=some (x,st',m')→Grow st.s st'.s∧x= .normal
 |[],m,st,st',x,m',h=>by cases h;exact⟨Grow.refl _,rfl⟩
 |o::l,m,st,st',x,m',h=>by
  have go:∀{st1:St} {m1:Md},adop P n0 size ops l m1 st1=some (x,st',m')→Grow st.s st1.s→Grow st.s st'.s∧x= .normal:=fun h g=>⟨g.trans (adop_grow l _ _ _ _ _ h).1,(adop_grow l _ _ _ _ _ h).2⟩
  unfold adop at h
  split at h
  ·split at h
   ·split at h
    ·split at h<;>try cases h
     next hap=>exact go h (by rw[(aput_s hap).1];exact Grow.refl _)
    ·split at h<;>try cases h
     next hap=>exact go h (by rw[(aput_s hap).1];exact Grow.refl _)
   ·split at h<;>try cases h
    ·next hop=>
     split at h<;>try cases h
     next hap=>exact go h (by rw[(aput_s hap).1];exact eop_grow hop)
    ·next hop=>
     split at h<;>try cases h
     next hap=>exact go h (by rw[(aput_s hap).1];exact eop_grow hop)
  ·split at h<;>try cases h
   next hap=>exact go h (by rw[(aput_s hap).1];exact Grow.refl _)
theorem wpOpsSIn_cons {F:Fence} {n:Nat} {ops:Array Oper} {Q:Exit→Act→List Frame→World→Prop} {i:Nat} {rest:List Nat} {a:Act} {cs:List Frame} {w:World} {o:Oper} (ho:ops[i]? =some o):wpOpsSIn F n P ops Q (i::rest) a cs w=((∀f,o.about P w a.eval=some f→F.fn f)∧
      if Region.wanted o (yielded ops a.tmps) then
        match (execOp a.eval o).run P w with
        | .ok .recover w' =>
          match recoverD cs with
          | some (v, cs') => wpOpsSIn F n P ops Q rest (a.put o.dst v) cs' w'
          | none => wpOpsSIn F n P ops Q rest (a.put o.dst .nilIface) cs w'
        | .ok (.value v) w' => wpOpsSIn F n P ops Q rest (a.put o.dst v) cs w'
        | .ok .skip w' => wpOpsSIn F n P ops Q rest (a.put o.dst undef) cs w'
        | .halt (.panic v) w' => Q (.panic [{ v, recovered := false }]) a cs w'
        | _ => False
      else wpOpsSIn F n P ops Q rest (a.put o.dst undef) cs w):=by
 show (match ops[i]? with|none=>_|some o=>_)=_
 rw[ho]
 rfl
theorem adop_sound {ops:Array Oper} {n:Nat} {Q:Exit→Act→List Frame→World→Prop} {c0:Frame} {cs:List Frame}:∀(l:List Oper) (k:Nat) (m:Md) (st st':St) (x:AXs) (m':Md) (ρ:PM) (a:Act) (u:FrameMode) (W:World),ops.toList.drop k=l→adop P n0 size ops l m st=some (x,st',m')→StR P size ρ st.env st.dfs a→Pre P n0 ρ st.s st'.s W→MdR ρ m u→
  (∀ρ' a' W' u',Post P ρ st.s st'.s W ρ' W'→StR P size ρ' st'.env st'.dfs a'→MdR ρ' m' u'→Q .normal a' ({c0 with mode:=u'}::cs) W')→wpOpsSIn Fence.wide n P ops Q (List.range' k l.length) a ({c0 with mode:=u}::cs) W
 |[],k,m,st,st',x,m',ρ,a,u,W,hl,h,hs,hp,hm,hQ=>by
  cases h
  exact hQ ρ a W u (Post.refl hp.inj hp.wr) hs hm
 |o::l,k,m,st,st',x,m',ρ,a,u,W,hl,h,hs,hp,hm,hQ=>by
  have ho:ops[k]? =some o:=by
   have:(ops.toList.drop k)[0]? =some o:=by rw[hl];rfl
   rw[List.getElem?_drop]at this
   simpa using this
  have hl':ops.toList.drop (k+1)=l:=by
   rw[←List.drop_drop,hl];rfl
  rw[List.length_cons,List.range'_succ,wpOpsSIn_cons ho]
  refine⟨fun _ _=>trivial,?_⟩
  rw[wnt_eq (ρ:=ρ) hs.guard]
  have go:∀{st1:St} {m1:Md} {ρ1:PM} {a1:Act} {u1:FrameMode} {W1:World},adop P n0 size ops l m1 st1=some (x,st',m')→Grow st.s st1.s→Post P ρ st.s st1.s W ρ1 W1→StR P size ρ1 st1.env st1.dfs a1→MdR ρ1 m1 u1→wpOpsSIn Fence.wide n P ops Q (List.range' (k+1) l.length) a1 ({c0 with mode:=u1}::cs) W1:=fun {st1 m1 ρ1 a1 u1 W1} h g hpo hst hmd=>by
   have g2:=(adop_grow _ _ _ _ _ _ h).1
   exact adop_sound l (k+1) m1 st1 st' x m' ρ1 a1 u1 W1 hl' h hst (hp.after hpo g g2) hmd fun ρ' a' W' u' hpo2 hst2 hmd2=>hQ ρ' a' W' u' (Post.trans hp.inj g g2 hpo hpo2) hst2 hmd2
  unfold adop at h
  split at h
  ·rename_i hw
   rw[hw,if_pos rfl]
   split at h
   ·rename_i hr
    rw[rec_run hr]
    dsimp only
    split at h
    ·rename_i v
     split at h<;>try cases h
     next stx hap=>
     obtain⟨v',rfl,hv⟩:=hm
     obtain⟨_,he,hst⟩:=aput_StR hap hs hv
     show wpOpsSIn Fence.wide n P ops Q _ (a.put o.dst v') ({c0 with mode:= .panicking [{v:=v',recovered:=true}]}::cs) W
     exact go h (by rw[he];exact Grow.refl _) (by rw[he];exact Post.refl hp.inj fun b hb=>hp.wr b ((adop_grow _ _ _ _ _ _ h).1.tch (by rw[he];exact hb))) hst ⟨v',rfl,hv⟩
    ·rename_i hnp
     split at h<;>try cases h
     next stx hap=>
     obtain⟨_,he,hst⟩:=aput_StR (v':= .nilIface) hap hs .nilIface
     rw[recoverD_ret hm fun v e=>hnp v (by rw[e])]
     exact go h (by rw[he];exact Grow.refl _) (by rw[he];exact Post.refl hp.inj fun b hb=>hp.wr b ((adop_grow _ _ _ _ _ _ h).1.tch (by rw[he];exact hb))) hst hm
   ·split at h<;>try cases h
    ·next v s1 hop=>
     split at h<;>try cases h
     next stx hap=>
     have g2:=(adop_grow _ _ _ _ _ _ h).1
     rw[(aput_s hap).1]at g2
     obtain⟨ρ1,W1,⟨v',hr,hv⟩,hpost⟩:=eop_sound hop (hs.opV hp.gb) (hp.less g2)
     obtain⟨_,he,hst⟩:=aput_StR hap (hs.mono hpost.le) hv
     rw[hr]
     exact go h (by rw[he];exact eop_grow hop) (by rw[he];exact hpost) hst (hm.mono hpost.le)
    ·next s1 hop=>
     split at h<;>try cases h
     next stx hap=>
     have g2:=(adop_grow _ _ _ _ _ _ h).1
     rw[(aput_s hap).1]at g2
     obtain⟨ρ1,W1,hr,hpost⟩:=eop_sound hop (hs.opV hp.gb) (hp.less g2)
     have hr:(execOp a.eval o).run P W= .ok .skip W1:=hr
     obtain⟨_,he,hst⟩:=aput_StR (v':=undef) hap (hs.mono hpost.le) (flat_VR rfl)
     rw[hr]
     exact go h (by rw[he];exact eop_grow hop) (by rw[he];exact hpost) hst (hm.mono hpost.le)
  ·rename_i hw
   rw[hw,if_neg (by simp)]
   split at h<;>try cases h
   next stx hap=>
   obtain⟨_,he,hst⟩:=aput_StR (v':=undef) hap hs (flat_VR rfl)
   exact go h (by rw[he];exact Grow.refl _) (by rw[he];exact Post.refl hp.inj fun b hb=>hp.wr b ((adop_grow _ _ _ _ _ _ h).1.tch (by rw[he];exact hb))) hst hm
theorem adcode_grow {call:ACall} (hc:CallOK P n0 call) (c:Code):∀(m:Md) (st st':St) (x:AXs) (m':Md),adcode P n0 call size lf c m st=some (x,st',m')→Grow st.s st'.s:=by
 have base:∀(c:Code) (m:Md) (st st':St) (x:AXs) (m':Md),ad0 P n0 call size lf c m st=some (x,st',m')→Grow st.s st'.s:=fun c m st st' x m' h=>by
  unfold ad0 at h
  split at h<;>try cases h
  next hac=>exact acode_grow hc _ _ _ _ hac
 induction c with
 |seq a b iha ihb=>
  intro m st st' x m' h
  unfold adcode at h
  split at h
  ·rename_i st1 m1 h1
   exact (iha _ _ _ _ _ h1).trans (ihb _ _ _ _ _ h)
  ·exact iha _ _ _ _ _ h
 |cond c a b iha ihb=>
  intro m st st' x m' h
  unfold adcode at h
  split at h<;>try cases h
  split at h<;>try cases h
  ·exact iha _ _ _ _ _ h
  ·exact ihb _ _ _ _ _ h
 |region id ops d=>
  intro m st st' x m' h
  cases d with
  |false=>
   unfold adcode at h
   split at h
   ·exact (adop_grow _ _ _ _ _ _ h).1
   ·exact base _ _ _ _ _ _ h
  |true=>unfold adcode at h;exact base _ _ _ _ _ _ h
 |_=>intro m st st' x m' h;unfold adcode at h;exact base _ _ _ _ _ _ h
def exOf:AXs→Exit
 |.normal=>.normal
 |.exit id=>.exit id
 |.ret=>.ret
 |.panic _=>.normal
theorem adcode_sound {call:ACall} (hc:CallOK P n0 call) (hmo:P.follows .mixedOrders=true) (c:Code) {n:Nat} {c0:Frame} {cs:List Frame}:∀(m:Md) (st st':St) (x:AXs) (m':Md) (ρ:PM) (a:Act) (u:FrameMode) (W:World) (Q:Exit→Act→List Frame→World→Prop),adcode P n0 call size lf c m st=some (x,st',m')→StR P size ρ st.env st.dfs a→Pre P n0 ρ st.s st'.s W→MdR ρ m u→
  (∀ρ' a' W' u',Post P ρ st.s st'.s W ρ' W'→StR P size ρ' st'.env st'.dfs a'→MdR ρ' m' u'→Q (exOf x) a' ({c0 with mode:=u'}::cs) W')→c.wpSIn Fence.wide n P Q a ({c0 with mode:=u}::cs) W:=by
 have base:∀(c:Code) (m:Md) (st st':St) (x:AXs) (m':Md) (ρ:PM) (a:Act) (u:FrameMode) (W:World) (Q:Exit→Act→List Frame→World→Prop),ad0 P n0 call size lf c m st=some (x,st',m')→StR P size ρ st.env st.dfs a→Pre P n0 ρ st.s st'.s W→MdR ρ m u→
  (∀ρ' a' W' u',Post P ρ st.s st'.s W ρ' W'→StR P size ρ' st'.env st'.dfs a'→MdR ρ' m' u'→Q (exOf x) a' ({c0 with mode:=u'}::cs) W')→c.wpSIn Fence.wide n P Q a ({c0 with mode:=u}::cs) W:=fun c m st st' x m' ρ a u W Q h hs hp hm hQ=>by
  unfold ad0 at h
  split at h<;>try cases h
  next hnp hac=>
  refine wpSIn_of_wpIn rfl (acode_sound (rd:=none) hc hmo c st st' x ρ a W _ hac trivial hs hp fun ρ' a' W' hpo=>?_)
  cases x with
  |normal=>exact fun hst=>hQ ρ' a' W' u hpo hst (hm.mono hpo.le)
  |exit id=>exact fun hst=>hQ ρ' a' W' u hpo hst (hm.mono hpo.le)
  |ret=>exact fun hst=>hQ ρ' a' W' u hpo hst (hm.mono hpo.le)
  |panic v=>exact absurd rfl (hnp v)
 induction c with
 |seq a b iha ihb=>
  intro m st st' x m' ρ ac u W Q h hs hp hm hQ
  unfold adcode at h
  refine wpSIn_seq ?_
  split at h
  ·rename_i st1 m1 h1
   have g1:=adcode_grow hc _ _ _ _ _ _ h1
   have g2:=adcode_grow hc _ _ _ _ _ _ h
   refine iha m st st1 .normal m1 ρ ac u W _ h1 hs (hp.less g2) hm fun ρ1 a1 W1 u1 hpo hst hmd=>?_
   exact ihb m1 st1 st' x m' ρ1 a1 u1 W1 Q h hst (hp.after hpo g1 g2) hmd fun ρ2 a2 W2 u2 hpo2=>hQ ρ2 a2 W2 u2 (Post.trans hp.inj g1 g2 hpo hpo2)
  ·rename_i hne
   refine iha m st st' x m' ρ ac u W _ h hs hp hm fun ρ1 a1 W1 u1 hpo hst hmd=>?_
   have:=hQ ρ1 a1 W1 u1 hpo hst hmd
   cases x with
   |normal=>exact absurd h (hne st' m')
   |exit id=>exact this
   |ret=>exact this
   |panic v=>
    exfalso
    have:∀(c:Code) (m:Md) (st st':St) (m':Md),adcode P n0 call size lf c m st≠some (.panic v,st',m'):=fun c=>by
     have b2:∀(c:Code) (m:Md) (st st':St) (m':Md),ad0 P n0 call size lf c m st≠some (.panic v,st',m'):=fun c m st st' m' h=>by
      unfold ad0 at h
      split at h<;>try cases h
      next hnp hac=>exact hnp _ rfl
     induction c with
     |seq a b iha ihb=>
      intro m st st' m' h
      unfold adcode at h
      split at h
      ·exact ihb _ _ _ _ h
      ·exact iha _ _ _ _ h
     |cond c a b iha ihb=>
      intro m st st' m' h
      unfold adcode at h
      split at h<;>try cases h
      split at h<;>try cases h
      ·exact iha _ _ _ _ h
      ·exact ihb _ _ _ _ h
     |region id ops d=>
      intro m st st' m' h
      cases d with
      |false=>
       unfold adcode at h
       split at h
       ·cases (adop_grow _ _ _ _ _ _ h).2
       ·exact b2 _ _ _ _ _ h
      |true=>unfold adcode at h;exact b2 _ _ _ _ _ h
     |_=>intro m st st' m' h;unfold adcode at h;exact b2 _ _ _ _ _ h
    exact this _ _ _ _ _ h
 |cond c a b iha ihb=>
  intro m st st' x m' ρ ac u W Q h hs hp hm hQ
  unfold adcode at h
  split at h<;>try cases h
  next hk=>
  have hv:=okX_VR (a:=ac) hs.env hp.gb hk
  split at h<;>try cases h
  ·rename_i hc'
   rw[hc']at hv
   exact wpSIn_cond (t:=true) (by generalize ac.eval c=u at hv;cases hv;rfl) (iha _ _ _ _ _ _ _ _ _ _ h hs hp hm hQ)
  ·rename_i hc'
   rw[hc']at hv
   exact wpSIn_cond (t:=false) (by generalize ac.eval c=u at hv;cases hv;rfl) (ihb _ _ _ _ _ _ _ _ _ _ h hs hp hm hQ)
 |region id ops d=>
  intro m st st' x m' ρ ac u W Q h hs hp hm hQ
  cases d with
  |false=>
   unfold adcode at h
   split at h
   ·have hx:=(adop_grow _ _ _ _ _ _ h).2
    subst hx
    refine wpSIn_region ?_
    rw[List.range_eq_range']
    have:=adop_sound (n:=n) (Q:=Q) (c0:=c0) (cs:=cs) ops.toList 0 m st st' .normal m' ρ ac u W (by simp) h hs hp hm hQ
    simpa using this
   ·exact base _ _ _ _ _ _ _ _ _ _ _ h hs hp hm hQ
  |true=>unfold adcode at h;exact base _ _ _ _ _ _ _ _ _ _ _ h hs hp hm hQ
 |_=>intro m st st' x m' ρ ac u W Q h hs hp hm hQ;unfold adcode at h;exact base _ _ _ _ _ _ _ _ _ _ _ h hs hp hm hQ
end
end
end
section
noncomputable section
section
variable {P:Program} {n0:Nat} {size lf:Nat}
theorem sr_asAddr {ρ:PM} {v v':Value} (h:VR ρ v v'):SR P (fun ρ x y=>AR ρ x y) ρ (asAddr v) (asAddr v'):=by
 cases h<;>first|exact .st|exact sr_panicRt (e:=.nilDeref) trivial|exact .pure (by assumption)
theorem sr_resList {ρ:PM} {g g':Nat→Value} (hg:∀t,VR ρ (g t) (g' t)):∀(ρ':PM) (l:List ResultVar),PLe ρ ρ'→SR P (fun ρ a b=>AV ρ a.toArray b.toArray) ρ' (l.mapM fun|.tmp t=>(pure (g t):Sem Value)|.cell a t=>do loadVar t (←asAddr (g a))) (l.mapM fun|.tmp t=>(pure (g' t):Sem Value)|.cell a t=>do loadVar t (←asAddr (g' a)))
 |ρ',[],_=>by rw[List.mapM_nil,List.mapM_nil];exact .pure AV.nil
 |ρ',x::l,hl=>by
  rw[List.mapM_cons,List.mapM_cons]
  refine SR.bnd (R:=fun ρ a b=>VR ρ a b) ?_ fun ρ2 a b hl2 hab=>?_
  ·cases x with
   |tmp t=>exact .pure ((hg t).mono hl)
   |cell a t=>exact (sr_asAddr ((hg a).mono hl)).bnd fun ρ3 x y hl3 hA=>vs_loadVar hA t
  ·refine (sr_resList hg ρ2 l (hl.trans hl2)).bnd fun ρ3 c d hl3 hcd=>?_
   refine .pure ⟨by have:=hcd.1;simpa using this,fun i v v' h1 h2=>?_⟩
   cases i with
   |zero=>simp at h1 h2;subst h1;subst h2;exact hab.mono hl3
   |succ i=>exact hcd.2 i v v' (by simpa using h1) (by simpa using h2)
theorem vs_res {ρ:PM} {g g':Nat→Value} (hg:∀t,VR ρ (g t) (g' t)) (fn:Func):VS P ρ (resF g fn) (resF g' fn):=by
 unfold resF
 rw[Array.mapM_eq_mapM_toList,Array.mapM_eq_mapM_toList]
 refine SR.bnd (R:=fun ρ a b=>AV ρ a b) (SR.bnd (sr_resList hg ρ fn.results.toList (PLe.refl _)) fun ρ1 a b hl hab=>.pure hab) fun ρ1 a b hl hab=>?_
 refine .pure ?_
 by_cases h:a.size=1
 ·have h':b.size=1:=hab.1▸h
  rw[dif_pos h,dif_pos h']
  exact hab.2 0 _ _ (Array.getElem?_eq_getElem (by omega)) (Array.getElem?_eq_getElem (by omega))
 ·have h':b.size≠1:=hab.1▸h
  rw[dif_neg h,dif_neg h']
  exact .tuple hab.1 hab.2
def Still (P:Program) {α:Type} (t:Sem α):Prop:=∀w r w',t.run P w= .ok r w'→w'=w
theorem Still.pure {α:Type} (a:α):Still P (Pure.pure a:Sem α):=fun w r w' h=>by cases h;rfl
theorem Still.bind {α β:Type} {t:Sem α} {f:α→Sem β} (h:Still P t) (k:∀a,Still P (f a)):Still P (t>>=f):=fun w r w' e=>by
 rw[Sem.run_bind]at e
 cases hr:t.run P w with
 |ok a w1=>
  rw[hr]at e
  simp only[Result.andThen]at e
  rw[k a _ _ _ e,h _ _ _ hr]
 |halt x w1=>rw[hr]at e;cases e
theorem Still.halt {α:Type} (x:Halt):Still P (Sem.halt x:Sem α):=fun w r w' h=>by cases h
theorem Still.program:Still P program:=fun w r w' h=>by cases h;rfl
theorem Still.load (a:Addr) (m:Mode):Still P (load a m):=fun w r w' h=>by
 unfold Go.load at h
 simp only[Sem.run]at h
 split at h
 ·cases h;rfl
 ·split at h
  ·cases h;rfl
  ·cases h
theorem Still.typeInfo (t:TypeId):Still P (typeInfo t):=by
 unfold Go.typeInfo
 refine Still.program.bind fun p=>?_
 split
 ·exact Still.pure _
 ·exact Still.halt _
theorem Still.loadCells (a:Addr):∀(n i:Nat) (acc:Array Value),Still P (loadCellsFrom a i n acc)
 |0,_,acc=>Still.pure acc
 |n+1,i,acc=>(Still.load _ _).bind fun v=>Still.loadCells a n (i+1) _
theorem Still.loadVar (t:TypeId) (a:Addr):Still P (loadVar t a):=by
 unfold Go.loadVar
 refine Still.bind ?_ fun b=>?_
 ·unfold isAgg
  refine Still.bind ?_ fun d=>?_
  ·unfold underlying
   refine Still.program.bind fun p=>?_
   split
   ·exact Still.pure _
   ·exact Still.halt _
  ·split<;>exact Still.pure _
 ·split
  ·exact Still.bind ((Still.typeInfo t).bind fun i=>Still.pure _) fun n=>(Still.loadCells a _ _ _).bind fun c=>Still.pure _
  ·exact Still.load _ _
theorem Still.mapM {α β:Type} {f:α→Sem β} (h:∀x,Still P (f x)):∀(l:List α),Still P (l.mapM f)
 |[]=>by rw[List.mapM_nil];exact Still.pure _
 |x::l=>by
  rw[List.mapM_cons]
  exact (h x).bind fun a=>(Still.mapM h l).bind fun b=>Still.pure _
theorem Still.res (g:Nat→Value) (fn:Func):Still P (resF g fn):=by
 unfold resF
 rw[Array.mapM_eq_mapM_toList]
 refine Still.bind (Still.bind (Still.mapM (fun x=>?_) _) fun a=>Still.pure _) fun a=>Still.pure _
 cases x with
 |tmp t=>exact Still.pure _
 |cell a t=>
  refine Still.bind ?_ fun b=>Still.loadVar _ _
  unfold asAddr
  split
  ·exact Still.pure _
  ·unfold runtimePanic
   refine Still.program.bind fun p=>?_
   exact Still.halt _
  ·exact Still.halt _
theorem envOf_get:∀(l:List Value) (i:Nat) (e:Tr Value) (t:Nat),(envOf l i e).get t=if i≤t∧t<i+l.length then l[t-i]? else e.get t
 |[],i,e,t=>by
  unfold envOf
  rw[if_neg (fun h=>by have h1:=h.1;have h2:=h.2;simp only[List.length_nil]at h2;omega)]
 |v::l,i,e,t=>by
  unfold envOf
  rw[envOf_get l (i+1),Tr.get_set]
  by_cases h1:t=i
  ·subst h1
   rw[if_neg (by omega),if_pos rfl,if_pos ⟨Nat.le_refl _,by simp⟩]
   simp
  ·rw[if_neg h1]
   by_cases h2:i≤t∧t<i+(v::l).length
   ·have:i+1≤t∧t<i+1+l.length:=⟨by omega,by have:=h2.2;simp at this;omega⟩
    rw[if_pos this,if_pos h2,show t-i=(t-(i+1))+1 from by omega,List.getElem?_cons_succ]
   ·rw[if_neg (by simp at h2⊢;omega),if_neg h2]
theorem start_StR {ρ:PM} {args args':Array Value} (h:AV ρ args args') (n:Nat):StR P (args.size+(n-args.size)) ρ (envOf args.toList 0 .o) [] {tmps:=args'++Array.replicate (n-args'.size) undef,defers:= []}:=by
 refine⟨fun t=>?_,by simp [h.1],.nil⟩
 rw[envOf_get,Tr.get_e]
 dsimp only
 rw[Array.getD_eq_getD_getElem?,Array.getElem?_append,Array.getElem?_replicate]
 by_cases ht:t<args.size
 ·rw[if_pos ⟨Nat.zero_le _,by simpa using ht⟩,if_pos (by rw[←h.1];exact ht)]
  have ht':t<args'.size:=by rw[←h.1];exact ht
  rw[Nat.sub_zero,Array.getElem?_toList,Array.getElem?_eq_getElem ht,Array.getElem?_eq_getElem ht']
  exact h.2 t _ _ (Array.getElem?_eq_getElem ht) (Array.getElem?_eq_getElem ht')
 ·rw[if_neg (by simpa using ht),if_neg (by rw[←h.1];exact ht)]
  split<;>exact flat_VR rfl
theorem Still.getLoop (l:Nat):Still P (Instr.getLoop l):=by
 unfold Instr.getLoop
 refine Still.bind (fun w r w' h=>?_) fun o=>?_
 ·unfold getObj at h
  simp only[Sem.run]at h
  split at h
  ·cases h
  ·cases h;rfl
  ·cases h
 ·split
  ·exact Still.pure _
  ·exact Still.halt _
theorem adcall_grow {call:ACall} (hc:CallOK P n0 call) {f:FuncId} {args:Array Value} {m m':Md} {s s':AS} (h:adcall P n0 call lf f args m s=some (m',s')):Grow s s':=by
 unfold adcall at h
 split at h<;>try cases h
 split at h<;>try cases h
 split at h<;>try cases h
 ·next hd=>exact adcode_grow hc _ _ _ _ _ _ hd
 ·next hd=>exact adcode_grow hc _ _ _ _ _ _ hd
theorem adcall_sound {call:ACall} (hc:CallOK P n0 call) (hmo:P.follows .mixedOrders=true) {n:Nat} {f:FuncId} {args args':Array Value} {m m':Md} {s s':AS} {ρ:PM} {u:FrameMode} {W:World} (h:adcall P n0 call lf f args m s=some (m',s')) (ha:AV ρ args args') (hp:Pre P n0 ρ s s' W) (hm:MdR ρ m u):
  CallsDIn Fence.wide n P f args' u W fun e u' W'=>∃ρ' v,e= .returned v∧Post P ρ s s' W ρ' W'∧MdR ρ' m' (settle u'):=by
 unfold adcall at h
 split at h<;>try cases h
 next fn hfn=>
 split at h<;>try cases h
 next c hb hres=>
 have hnil:fn.results=#[]:=Array.toList_eq_nil_iff.1 hres
 have fin:∀{x:AXs} {st:St} {m1:Md},adcode P n0 call (args.size+(fn.ntmps-args.size)) lf c m ⟨envOf args.toList 0 .o,s,[]⟩=some (x,st,m1)→(x= .normal∨x= .ret)→st.dfs=[]→Pre P n0 ρ s st.s W→CallsDIn Fence.wide n P f args' u W fun e u' W'=>∃ρ' v,e= .returned v∧Post P ρ s st.s W ρ' W'∧MdR ρ' (settl m1) (settle u'):=fun {x st m1} hd hx hdf hp=>by
  refine callsDIn_of_wpSIn hfn hb trivial fun c0 cs hu=>?_
  have hc0:c0={c0 with mode:=u}:=by rw[←hu]
  rw[hc0]
  refine adcode_sound hc hmo c m _ st x m1 ρ _ u W _ hd (start_StR ha _) hp hm fun ρ1 a1 W1 u1 hpo hst hmd=>?_
  have hdn:a1.defers=[]:=by
   have:=hst.defers
   rw[hdf]at this
   cases hh:a1.defers with
   |nil=>rfl
   |cons=>rw[hh]at this;cases this
  have hrun:(results fn a1.tmps).run P W1= .ok (.tuple #[]) W1:=by
   unfold results
   rw[hnil]
   simp [Sem.run_bind,Sem.run,Result.andThen]
  rcases hx with rfl|rfl
  ·exact⟨hdn,u1,rfl,_,hrun,ρ1,_,rfl,hpo,hmd.settl⟩
  ·exact⟨hdn,u1,rfl,_,hrun,ρ1,_,rfl,hpo,hmd.settl⟩
 split at h<;>try cases h
 ·next hd=>exact fin hd (.inl rfl) rfl hp
 ·next hd=>exact fin hd (.inr rfl) rfl hp
theorem alv_grow {call:ACall} (hc:CallOK P n0 call):∀(l:List ADef) (m m':Md) (s s':AS),alv P n0 call lf l m s=some (m',s')→Grow s s'
 |[],m,m',s,s',h=>by cases h;exact Grow.refl _
 |.mark D::l,m,m',s,s',h=>by
  unfold alv at h
  split at h<;>try cases h
  next ht=>exact (arun_grow _ _ _ _ ht).trans (alv_grow hc l _ _ _ _ h)
 |.fn f args::l,m,m',s,s',h=>by
  unfold alv at h
  split at h<;>try cases h
  next ht=>exact (adcall_grow hc ht).trans (alv_grow hc l _ _ _ _ h)
theorem alv_sound {call:ACall} (hc:CallOK P n0 call) (hmo:P.follows .mixedOrders=true) {n:Nat} {fn:Func} {tmps:Array Value} {R:Ending→World→Prop}:∀(l:List ADef) (ds:List Deferred) (m m':Md) (s s':AS) (ρ:PM) (u:FrameMode) (W:World),alv P n0 call lf l m s=some (m',s')→DfR P ρ l ds→Pre P n0 ρ s s' W→MdR ρ m u→
  (∀ρ' W' u',Post P ρ s s' W ρ' W'→MdR ρ' m' u'→LeavesIn Fence.wide n P fn tmps R [] u' W')→LeavesInM Fence.wide n P fn tmps R ds u W
 |[],ds,m,m',s,s',ρ,u,W,h,hd,hp,hm,hR=>by
  cases h
  cases hd
  exact hR ρ W u (Post.refl hp.inj hp.wr) hm
 |.mark D::l,ds,m,m',s,s',ρ,u,W,h,hd,hp,hm,hR=>by
  unfold alv at h
  split at h<;>try cases h
  next q s1 ht=>
  have g1:=arun_grow _ _ _ _ ht
  have g2:=alv_grow hc _ _ _ _ _ h
  cases hd with
  |cons hx hd=>
  obtain⟨D',rfl,hbr⟩:=hx
  obtain⟨ρ1,W1,⟨q',hrun,hq⟩,hpost⟩:=arun_sound (sr_take hbr) _ _ _ W ht hp.inj (hp.less g2).wr (hp.less g2).fresh
  obtain⟨_,rfl⟩:=hq
  refine⟨hm.norun,.inl ⟨D',W1,rfl,hrun,?_⟩⟩
  exact alv_sound hc hmo l _ _ _ _ _ ρ1 u W1 h (hd.mono hpost.le) (hp.after hpost g1 g2) (hm.mono hpost.le) fun ρ' W' u' hpo=>hR ρ' W' u' (Post.trans hp.inj g1 g2 hpost hpo)
 |.fn f args::l,ds,m,m',s,s',ρ,u,W,h,hd,hp,hm,hR=>by
  unfold alv at h
  split at h<;>try cases h
  next m1 s1 ht=>
  have g1:=adcall_grow hc ht
  have g2:=alv_grow hc _ _ _ _ _ h
  cases hd with
  |cons hx hd=>
  obtain⟨fv,cap,args',htg,hinv,hav⟩:=hx
  refine⟨hm.norun,.inr ⟨fun h=>(by cases h),fv,cap,f,args',htg,hinv W,fun _ _=>trivial,?_⟩⟩
  refine CallsDIn.mono (adcall_sound hc hmo ht hav (hp.less g2) hm) fun e u' W1 he=>?_
  obtain⟨ρ1,v,rfl,hpost,hmd⟩:=he
  exact alv_sound hc hmo l _ _ _ _ _ ρ1 _ W1 h (hd.mono hpost.le) (hp.after hpost g1 g2) hmd fun ρ' W' u' hpo=>hR ρ' W' u' (Post.trans hp.inj g1 g2 hpost hpo)
theorem foldPar {ρ:PM}:∀(ps:List Tmp) (as as':List Value) (c c':Array Value),AV ρ as.toArray as'.toArray→AV ρ c c'→AV ρ ((ps.zip as).foldl (fun t (p,a)=>t.setIfInBounds p a) c) ((ps.zip as').foldl (fun t (p,a)=>t.setIfInBounds p a) c')
 |[],_,_,_,_,_,h=>h
 |_::_,[],[],_,_,_,h=>h
 |_::_,[],_::_,_,_,h,_=>by have:=h.1;simp at this
 |_::_,_::_,[],_,_,h,_=>by have:=h.1;simp at this
 |p::ps,a::as,a'::as',c,c',h,hc=>foldPar ps as as' _ _ ⟨by have:=h.1;simpa using this,fun j u u' h1 h2=>h.2 (j+1) u u' (by simpa using h1) (by simpa using h2)⟩ (hc.set p (h.2 0 a a' rfl rfl))
theorem foldParA {ρ:PM} {ps:Array Tmp} {as as' c c':Array Value} (h:AV ρ as as') (hc:AV ρ c c'):AV ρ ((ps.zip as).foldl (fun t (p,a)=>t.setIfInBounds p a) c) ((ps.zip as').foldl (fun t (p,a)=>t.setIfInBounds p a) c'):=by
 rw[←Array.foldl_toList,←Array.foldl_toList,Array.toList_zip,Array.toList_zip]
 exact foldPar _ _ _ _ _ (by simpa using h) hc
theorem arnd_grow {call:ACall} (hc:CallOK P n0 call) {l:Nat} {args:Array Value} {r:CO} {s s':AS} (h:arnd P n0 call lf l args s=some (r,s')):Grow s s':=by
 unfold arnd at h
 split at h<;>try cases h
 next hg=>
 have g1:=arun_grow _ _ _ _ hg
 split at h<;>try cases h
 split at h<;>try cases h
 next ha=>
 have g2:=acode_grow hc _ _ _ _ ha
 split at h<;>try cases h
 next hb=>
 have g3:=arun_grow _ _ _ _ hb
 split at h<;>try cases h
 all_goals
  rename_i hbd
  have g4:=acode_grow hc _ _ _ _ hbd
  split at h<;>try cases h
  rename_i he
  exact g1.trans (g2.trans (g3.trans (g4.trans (arun_grow _ _ _ _ he))))
theorem size_fold:∀(l:List (Tmp×Value)) (c:Array Value),(l.foldl (fun t (p,a)=>t.setIfInBounds p a) c).size=c.size
 |[],_=>rfl
 |x::l,c=>by rw[List.foldl_cons,size_fold l];simp
theorem arnd_sound {call:ACall} (hc:CallOK P n0 call) (hmo:P.follows .mixedOrders=true) {l l':Nat} {args args':Array Value} {r:CO} {s s':AS} {ρ:PM} {W:World} (h:arnd P n0 call lf l args s=some (r,s')) (hbr:BR ρ l l') (ha:AV ρ args args') (hp:Pre P n0 ρ s s' W):
  ∃f tmps asg body,(Instr.yield l' args').run P W= .ok (.round l' f tmps asg body) W∧∀(rd:Option Nat) (n:Nat),RoundIn (fw rd) n P l' f tmps asg body W fun e W'=>∃ρ',Post P ρ s s' W ρ' W'∧RetR ρ' r e:=by
 unfold arnd at h
 split at h<;>try cases h
 next rl s1 hg=>
 have g1:=arun_grow _ _ _ _ hg
 split at h<;>try cases h
 next hsz=>
 have hsz:=Nat.eq_of_beq_eq_true hsz
 split at h<;>try cases h
 next st1 has=>
 have g2:=acode_grow hc _ _ _ _ has
 split at h<;>try cases h
 next q s2 hbg=>
 have g3:=arun_grow _ _ _ _ hbg
 have body:∀{x:AXs} {st3:St} {j:Option Code} {v:Value} {s4:AS},acode P n0 call (some l) rl.tmps.size lf rl.body {st1 with s:=s2}=some (x,st3)→arun P (Instr.endRound l j) st3.s=some (.ok v,s4)→(match x with|.normal=>j=none|.ret=>j=some .ret|.exit i=>j=some (.exit i)|.panic _=>False)→s4=s'→r= .ret v→∃f tmps asg body,(Instr.yield l' args').run P W= .ok (.round l' f tmps asg body) W∧∀(rd:Option Nat) (n:Nat),RoundIn (fw rd) n P l' f tmps asg body W fun e W'=>∃ρ',Post P ρ s s' W ρ' W'∧RetR ρ' r e:=fun {x st3 j v s4} hbd hen hxj e4 er=>by
  subst e4;subst er
  have g4:=acode_grow hc _ _ _ _ hbd
  have g5:=arun_grow _ _ _ _ hen
  have g35:=g3.trans (g4.trans g5)
  obtain⟨ρ1,W1,⟨rl',hrun,hlr⟩,hpost1⟩:=arun_sound (sr_getLoop hbr) _ _ _ W hg hp.inj (hp.less (g2.trans g35)).wr (hp.less (g2.trans g35)).fresh
  have hW1:=Still.getLoop _ _ _ _ hrun
  subst hW1
  refine⟨rl'.fn,(rl'.params.zip args').foldl (fun t (p,a)=>t.setIfInBounds p a) rl'.tmps,rl'.assign,rl'.body,?_,fun rd n=>?_⟩
  ·unfold Instr.yield
   simp only[Sem.run_bind,hrun,Result.andThen]
   have:args'.size=rl'.params.size:=by rw[←ha.1,hsz,hlr.params]
   rw[if_neg (by rw[this];exact fun h=>h rfl)]
   rfl
  have hav:=foldParA (ps:=rl.params) (ha.mono hpost1.le) hlr.tmps
  have hst0:=start_StR (P:=P) hav 0
  rw[Nat.zero_sub,Nat.zero_sub,Array.replicate_zero,Array.append_empty]at hst0
  have hsz2:((rl.params.zip args).foldl (fun t (p,a)=>t.setIfInBounds p a) rl.tmps).size=rl.tmps.size:=by
   rw[←Array.foldl_toList,size_fold]
  rw[hsz2]at hst0
  have hp1:=hp.after hpost1 g1 (g2.trans g35)
  rw[hlr.params,hlr.assign,hlr.body]
  refine roundIn_of_wpIn trivial ?_
  refine acode_sound (rd:=some l') (ir:=some l) hc hmo rl.assign _ st1 .normal ρ1 _ W1 _ has (BR.mono hpost1.le hbr) hst0 (hp1.less g35) fun ρ2 a2 W2 hpo2 hst2=>?_
  have hp2:=hp1.after hpo2 g2 g35
  obtain⟨ρ3,W3,⟨q',hrun3,_⟩,hpost3⟩:=arun_sound (se_begin (hbr.mono (hpost1.le.trans hpo2.le))) _ _ _ W2 hbg hp2.inj (hp2.less (g4.trans g5)).wr (hp2.less (g4.trans g5)).fresh
  have hp3:=hp2.after hpost3 g3 (g4.trans g5)
  refine⟨W3,hrun3,?_⟩
  refine acode_sound (rd:=some l') (ir:=some l) hc hmo rl.body _ st3 x ρ3 a2 W3 _ hbd (BR.mono (hpost1.le.trans (hpo2.le.trans hpost3.le)) hbr) (hst2.mono hpost3.le) (hp3.less g5) fun ρ4 a4 W4 hpo4=>?_
  have hp4:=hp3.after hpo4 g4 g5
  obtain⟨ρ5,W5,⟨v',hrun5,hv5⟩,hpost5⟩:=arun_sound (vs_endRound (hbr.mono (hpost1.le.trans (hpo2.le.trans (hpost3.le.trans hpo4.le)))) j) _ _ _ W4 hen hp4.inj hp4.wr hp4.fresh
  have hall:Post P ρ s s4 W1 ρ5 W5:=Post.trans hp.inj g1 (g2.trans g35) hpost1 (Post.trans hp1.inj g2 g35 hpo2 (Post.trans hp2.inj g3 (g4.trans g5) hpost3 (Post.trans hp3.inj g4 g5 hpo4 hpost5)))
  cases x with
  |normal=>subst hxj;exact fun _=>⟨v',W5,hrun5,ρ5,hall,v',rfl,hv5⟩
  |ret=>subst hxj;exact fun _=>⟨v',W5,hrun5,ρ5,hall,v',rfl,hv5⟩
  |exit i=>subst hxj;exact fun _=>⟨v',W5,hrun5,ρ5,hall,v',rfl,hv5⟩
  |panic w=>exact hxj.elim
 split at h<;>try cases h
 ·next hbd=>
  split at h<;>try cases h
  next he=>exact body hbd he rfl rfl rfl
 ·next hbd=>
  split at h<;>try cases h
  next he=>exact body hbd he rfl rfl rfl
 ·next hbd=>
  split at h<;>try cases h
  next he=>exact body hbd he rfl rfl rfl
theorem abody_grow {call:ACall} (hc:CallOK P n0 call) {f:FuncId} {args:Array Value} {r:CO} {s s':AS} (h:abody P n0 call lf f args s=some (r,s')):Grow s s':=by
 have ag:∀{e:Tr Value} {fn:Func} {s1:AS},ares P n0 e fn s1=some (r,s')→Grow s1 s':=fun {e fn s1} h=>by
  have h:=ares_eq h
  unfold ares0 at h
  split at h<;>cases h
  next hr=>exact arun_grow _ _ _ _ hr
 unfold abody at h
 split at h<;>try cases h
 split at h<;>try cases h
 split at h<;>try cases h
 ·next hst=>
  split at h<;>try cases h
  next hl=>exact (acode_grow hc _ _ _ _ hst).trans ((alv_grow hc _ _ _ _ _ hl).trans (ag h))
 ·next hst=>
  split at h<;>try cases h
  next hl=>exact (acode_grow hc _ _ _ _ hst).trans ((alv_grow hc _ _ _ _ _ hl).trans (ag h))
 ·next hst=>
  split at h<;>try cases h
  ·next hl=>
   split at h<;>cases h
   exact (acode_grow hc _ _ _ _ hst).trans (alv_grow hc _ _ _ _ _ hl)
  ·next hl=>exact (acode_grow hc _ _ _ _ hst).trans (alv_grow hc _ _ _ _ _ hl)
theorem abody_sound {call:ACall} (hc:CallOK P n0 call) (hmo:P.follows .mixedOrders=true) {n:Nat} {f:FuncId} {args args':Array Value} {r:CO} {s s':AS} {ρ:PM} {W:World} (h:abody P n0 call lf f args s=some (r,s')) (ha:AV ρ args args') (hp:Pre P n0 ρ s s' W):
  CallsIn Fence.wide n P f args' W fun e W'=>∃ρ',Post P ρ s s' W ρ' W'∧RetR ρ' r e:=by
 unfold abody at h
 split at h<;>try cases h
 next fn hfn=>
 split at h<;>try cases h
 next c hb=>
 refine callsIn_of_wp_marks hfn hb trivial ?_ rfl
 have hres:∀{ρ1:PM} {st:St} {a1:Act} {s1:AS} {W1:World} {sz:Nat},StR P sz ρ1 st.env st.dfs a1→Post P ρ s st.s W ρ1 W1→Grow s st.s→alv P n0 call lf st.dfs .ret st.s=some (.ret,s1)→ares P n0 st.env fn s1=some (r,s')→LeavesInM Fence.wide n P fn a1.tmps (fun e W'=>∃ρ',Post P ρ s s' W ρ' W'∧RetR ρ' r e) a1.defers .returning W1:=fun {ρ1 st a1 s1 W1 sz} hs1 hpo g hl hr=>by
  have hr:=ares_eq hr
  unfold ares0 at hr
  split at hr<;>cases hr
  next v hr=>
  have g2:=alv_grow hc _ _ _ _ _ hl
  have g3:=arun_grow _ _ _ _ hr
  have hp1:=hp.after hpo g (g2.trans g3)
  refine alv_sound hc hmo _ _ _ _ _ _ ρ1 _ W1 hl hs1.defers (hp1.less g3) rfl fun ρ2 W2 u2 hpo2 hmd=>?_
  have hmd:u2= .returning:=hmd
  subst hmd
  have hp2:=hp1.after hpo2 g2 g3
  have hsr:=vs_res (P:=P) (ρ:=ρ2) (g:=fun t=>(st.env.get t).getD undef) (g':=fun t=>a1.tmps.getD t undef) (fun t=>(hs1.env t).mono hpo2.le) fn
  obtain⟨ρ3,W3,⟨v',h1,h2⟩,h3⟩:=arun_sound hsr _ _ _ W2 hr hp2.inj hp2.wr hp2.fresh
  have:=Still.res _ _ _ _ _ h1
  subst this
  exact⟨v',h1,ρ3,Post.trans hp.inj g (g2.trans g3) hpo (Post.trans hp1.inj g2 g3 hpo2 h3),v',rfl,h2⟩
 split at h<;>try cases h
 ·rename_i st hst
  have g:=acode_grow hc _ _ _ _ hst
  split at h<;>try cases h
  next s1 hl=>
  have g2:=alv_grow hc _ _ _ _ _ hl
  refine acode_sound (rd:=none) hc hmo c _ _ _ _ _ _ _ hst trivial (start_StR ha _) (hp.less (g2.trans (by have h:=ares_eq h;unfold ares0 at h;split at h<;>cases h;next hr=>exact arun_grow _ _ _ _ hr))) fun ρ1 a1 W1 hpo hs1=>?_
  exact hres hs1 hpo g hl h
 ·rename_i st hst
  have g:=acode_grow hc _ _ _ _ hst
  split at h<;>try cases h
  next s1 hl=>
  have g2:=alv_grow hc _ _ _ _ _ hl
  refine acode_sound (rd:=none) hc hmo c _ _ _ _ _ _ _ hst trivial (start_StR ha _) (hp.less (g2.trans (by have h:=ares_eq h;unfold ares0 at h;split at h<;>cases h;next hr=>exact arun_grow _ _ _ _ hr))) fun ρ1 a1 W1 hpo hs1=>?_
  exact hres hs1 hpo g hl h
 ·rename_i v st hst
  have g:=acode_grow hc _ _ _ _ hst
  split at h<;>try cases h
  ·next s1 hl=>
   split at h<;>cases h
   next hrs=>
   have hnil:fn.results=#[]:=Array.toList_eq_nil_iff.1 hrs
   have g2:=alv_grow hc _ _ _ _ _ hl
   refine acode_sound (rd:=none) hc hmo c _ _ _ _ _ _ _ hst trivial (start_StR ha _) (hp.less g2) fun ρ1 a1 W1 hpo v' hd hv=>?_
   refine alv_sound hc hmo _ _ _ _ _ _ ρ1 _ W1 hl hd (hp.after hpo g g2) ⟨v',rfl,hv⟩ fun ρ2 W2 u2 hpo2 hmd=>?_
   have hmd:u2= .returning:=hmd
   subst hmd
   have hrun:(results fn a1.tmps).run P W2= .ok (.tuple #[]) W2:=by
    unfold results
    rw[hnil]
    simp [Sem.run_bind,Sem.run,Result.andThen]
   exact⟨_,hrun,ρ2,Post.trans hp.inj g g2 hpo hpo2,_,rfl,flat_VR rfl⟩
  ·next v2 s1 hl=>
   have g2:=alv_grow hc _ _ _ _ _ hl
   refine acode_sound (rd:=none) hc hmo c _ _ _ _ _ _ _ hst trivial (start_StR ha _) (hp.less g2) fun ρ1 a1 W1 hpo v' hd hv=>?_
   refine alv_sound hc hmo _ _ _ _ _ _ ρ1 _ W1 hl hd (hp.after hpo g g2) ⟨v',rfl,hv⟩ fun ρ2 W2 u2 hpo2 hmd=>?_
   obtain⟨v3,rfl,hv3⟩:=hmd
   exact⟨ρ2,Post.trans hp.inj g g2 hpo hpo2,v3,rfl,hv3⟩
def ExtOK (P:Program) (n0:Nat) (ext:ACall→ACall):Prop:=∀call,CallOK P n0 call→CallOK P n0 (ext call)
theorem extNone:ExtOK P n0 fun _ _ _ _=>none:=fun _ _=>⟨fun _ _ _ _ _ h=>(by cases h),fun _ _ _ _ _ _ _ _ _ h=>(by cases h),fun _ _ _ _ _ _ _ _ _ h=>(by cases h)⟩
theorem acall_ok {ext:ACall→ACall} (hx:ExtOK P n0 ext) (hm:P.follows .mixedOrders=true):∀(k:Nat),CallOK P n0 (acall P n0 ext lf k)
 |0=>⟨fun _ _ _ _ _ h=>(by cases h),fun _ _ _ _ _ _ _ _ _ h=>(by cases h),fun _ _ _ _ _ _ _ _ _ h=>(by cases h)⟩
 |k+1=>by
  have hc:=acall_ok hx hm k
  have he:=hx _ hc
  refine⟨fun f args s r s' h=>?_,fun f args s r s' ρ W args' n h ha hp=>?_,fun l l' args s r s' ρ W args' h hbr ha hp=>?_⟩
  ·unfold acall at h
   split at h
   ·split at h
    ·next hr=>cases h;exact he.grow _ _ _ _ _ hr
    ·exact abody_grow hc h
   ·exact arnd_grow hc h
   ·cases h
  ·unfold acall at h
   dsimp only at h
   split at h
   ·next hr=>cases h;exact he.ok _ _ _ _ _ _ _ _ _ hr ha hp
   ·exact abody_sound hc hm h ha hp
  ·unfold acall at h
   exact arnd_sound hc hm h hbr ha hp
end
end
end
end Go.Proofs.YtngglbakkedaiaaGreatDoor
