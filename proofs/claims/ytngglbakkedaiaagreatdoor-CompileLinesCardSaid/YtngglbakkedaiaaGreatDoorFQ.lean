import Derived.Test.YtngglbakkedaiaaGreatDoorFH
import Derived.Lib.Builder
import Derived.Lib.UnsafeStr
import Derived.Laws.Externs
set_option linter.all false
namespace Go.Proofs.YtngglbakkedaiaaGreatDoor
section
section
variable {P:Program} {n0:Nat} {ρ:PM} {e:Tr Value} {a:Act} {s s':AS} {r:OO} {W:World} {o:Oper}
theorem post_rd {m:Nat} (hp:Pre P n0 ρ s {s with rd:=m} W):Post P ρ s {s with rd:=m} W ρ W:=
 ⟨PLe.refl _,fun b h1 h2=>absurd h1 h2,fun b x h1 h2=>(by rw[h1]at h2;cases h2),hp.inj,fun b hb=>hp.wr b (hb.elim id fun h=>absurd h.2 (Nat.not_lt.2 h.1)),fun x _ _=>rfl,Nat.le_refl _,rfl,rfl,rfl,fun b x h1 h2=>(by rw[h1]at h2;cases h2)⟩
theorem post_lose {b x:Nat} {W':World} (hl:ρ b= .live x) (hsz:W'.heap.size=W.heap.size) (hh:∀y,y≠x→W'.heap[y]? =W.heap[y]?) (h1:W'.os=W.os) (h2:W'.tape=W.tape) (h3:W'.output=W.output)
  (hp:Pre P n0 ρ s {s with heap:=s.heap.set b none,wr:=s.wr|||bit b} W):∃ρ',Post P ρ s {s with heap:=s.heap.set b none,wr:=s.wr|||bit b} W ρ' W':=by
 have key:∀c y,(if c=b then Pl.dead else ρ c)= .live y→c≠b∧ρ c= .live y:=fun c y h=>by
  split at h
  ·cases h
  ·rename_i h';exact⟨h',h⟩
 refine⟨⟨fun c=>if c=b then .dead else ρ c,ρ.cap⟩,⟨fun c=>?_,fun _ _=>rfl⟩,fun c k1 k2=>?_,fun c y k1 k2=>?_,⟨fun c d y k1 k2=>?_,fun c y k1=>?_⟩,fun c hc=>?_,fun y hy hc=>?_,by rw[hsz];exact Nat.le_refl _,h1,h2,h3,fun c y k1 k2 k3=>?_⟩
 ·by_cases e:c=b
  ·subst e;exact .inr (.inr ⟨x,hl,.inr (by simp)⟩)
  ·simp only[if_neg e];exact (PLe.refl ρ).at_ c
 ·dsimp only at k2
  by_cases e:c=b
  ·subst e;rw[hl]at k1;cases k1
  ·rw[if_neg e]at k2;exact absurd k1 k2
 ·dsimp only at k2
  by_cases e:c=b
  ·subst e;exact bit_self _ _
  ·rw[if_neg e,k1]at k2;cases k2
 ·exact hp.inj.inj c d y (key c y k1).2 (key d y k2).2
 ·rw[hsz];exact hp.inj.lt c y (key c y k1).2
 ·show _∨(_∧(s.heap.set b none).get c=none)∨∃x p p',_∧(s.heap.set b none).get c=some p∧_∧_∧_
  rw[Tr.get_set]
  by_cases e:c=b
  ·subst e;exact .inr (.inl ⟨by simp,by simp⟩)
  ·simp only[if_neg e]
   rcases hp.wr c (hc.elim id fun h=>absurd h.2 (Nat.not_lt.2 h.1)) with k|k|⟨y,p,p',k1,k2,k3,k4,k5⟩
   ·exact .inl k
   ·exact .inr (.inl k)
   ·refine .inr (.inr ⟨y,p,p',k1,k2,?_,k4.mono ?_,k5⟩)
    ·rw[hh y (fun h=>e (hp.inj.inj c b y k1 (by rw[hl,h])))];exact k3
    ·refine⟨fun d=>?_,fun _ _=>rfl⟩
     by_cases e2:d=b
     ·subst e2;exact .inr (.inr ⟨x,hl,.inr (by simp)⟩)
     ·simp only[if_neg e2];exact (PLe.refl ρ).at_ d
 ·refine hh y fun h=>?_
  subst h
  have:=hc b hl
  rw[show (s.wr|||bit b).testBit b=true from bit_self _ _]at this
  cases this
 ·dsimp only at k2
  by_cases e:c=b
  ·subst e;rw[hl]at k1;cases k1
  ·rw[if_neg e,k1]at k2;cases k2
theorem liesAt_self {t:TypeId} {n:Nat} (hc:1≤P.cellsOf t) (hn:1≤n):liesAt P P.depth t n 0 t 1=true:=by
 have hd:P.depth=(2*(P.types.size+Made.depth)+1)+1:=rfl
 rw[hd]
 simp only[liesAt,Bool.or_eq_true]
 left
 rw[hd]
 have h0:P.cellsOf t≠0:=by omega
 simp [rowAt,h0,hn,sameLayout]
theorem eCv_sound {t u:TypeId} {x:Operand} (h:eCv P n0 e t u x s=some (r,s')) (ho:o.op= .convert t u x) (hE:OpV n0 ρ e a o) (hp:Pre P n0 ρ s s' W):OpS P ρ s r s' (execOp a.eval o) W:=by
 unfold eCv at h
 split at h<;>try cases h
 next hx=>
 have hv:=hE x (by rw[ho];simp [Op.operands]) hx
 split at h<;>try cases h
 next b he=>
 rw[he]at hv
 split at h<;>try cases h
 next c t0 fz hg=>
 have key:∀{m},s'={s with rd:=m}→m.testBit b=true→(∀ad:Addr,ad.off=0→ad.spot=none→∀c':Array Value,c.size≤c'.size→W.shape? ad.block=some (t0,c'.size)→(convert t u (.pointer (some ad))).run P W= .ok (.pointer (some ad)) W)→r= .value (.pointer (some ⟨b,0,none⟩))→OpS P ρ s r s' (execOp a.eval o) W:=fun {m} hs hm hc hr=>by
  subst hs;subst hr
  generalize hw:a.eval x=w at hv
  cases hv with
  |ptr hA=>
   rename_i ad
   obtain⟨hl,o',ho',hor,-⟩:=BR.live hp.wr hA.1 (.inl hm) hg
   cases hor with
   |cells _ hz hcc=>
    rename_i c'
    refine⟨ρ,W,⟨.pointer (some ad),?_,.ptr hA⟩,post_rd hp⟩
    have:=hc ad (hA.eq hl).1 (hA.eq hl).2 c' hz (by unfold World.shape?;rw[ho'])
    unfold execOp
    rw[ho]
    simp only[Sem.run_bind,hw,this,Result.andThen]
    rfl
 split at h<;>try cases h
 ·next u' hu=>
  split at h<;>try cases h
  next hu2=>
  split at h<;>try cases h
  next j hj=>
  split at h<;>try cases h
  next hb=>
  rw[Bool.and_eq_true]at hb
  have hb1:=Nat.le_of_ble_eq_true hb.1;have hb2:=Nat.le_of_ble_eq_true hb.2
  simp only[sq_eq,Option.some.injEq,Prod.mk.injEq]at h
  refine key (m:=s.rd|||bit b) h.2.symm (bit_self _ _) (fun ad h1 h2 c' h3 h4=>?_) h.1.symm
  exact Go.Lib.run_to_unsafe W ad hu hu2 hj (by omega) h4 (by omega)
 ·next hu=>
  split at h<;>try cases h
  next u' hu2=>
  split at h<;>try cases h
  next j hj=>
  split at h<;>try cases h
  next hb=>
  simp only[Bool.and_eq_true]at hb
  have hb1:=Nat.eq_of_beq_eq_true hb.1.1;have hb2:=Nat.le_of_ble_eq_true hb.1.2;have hb3:=Nat.le_of_ble_eq_true hb.2
  subst hb1
  simp only[sq_eq,Option.some.injEq,Prod.mk.injEq]at h
  refine key (m:=s.rd|||bit b) h.2.symm (bit_self _ _) (fun ad h1 h2 c' h3 h4=>?_) h.1.symm
  refine Go.Lib.run_from_unsafe W ad hu hu2 hj h4 ?_
  rw[h1]
  exact liesAt_self hb2 (by rw[Nat.le_div_iff_mul_le (by omega)];omega)
theorem eCv_grow {t u:TypeId} {x:Operand} (h:eCv P n0 e t u x s=some (r,s')):Grow s s':=by
 unfold eCv at h
 split at h<;>try cases h
 split at h<;>try cases h
 split at h<;>try cases h
 split at h<;>try cases h
 all_goals
  split at h<;>try cases h
  split at h<;>try cases h
  split at h<;>try cases h
  simp only[sq_eq,Option.some.injEq,Prod.mk.injEq]at h
  rw[←h.2]
  exact grow_rd s _
theorem isNE_run {g:Nat} (h:isNE P g=true) (v:Value):(callFunc g #[v]).run P W= .ok (.value v) W:=by
 unfold isNE at h
 split at h
 ·rename_i fn hfn
  split at h
  ·rename_i hb
   rw[Bool.and_eq_true,beq_iff_eq,beq_iff_eq]at h
   obtain⟨h1,h2⟩:=h
   have hn:Extern.findNext fn=none:=by
    unfold Extern.findNext
    dsimp only
    rw[h1,h2]
    have e1:Extern.allNextRows.lookup "internal/abi.NoEscape"=none:=by rfl
    have e2:Extern.allNextRows.lookup ""=none:=by rfl
    rw[e1,e2]
    rfl
   have hf:Extern.find fn=some Extern.AbiNoEscape.same:=by
    unfold Extern.find
    dsimp only
    rw[h1]
    have e1:Extern.allGenericRows.lookup "internal/abi.NoEscape"=none:=by rfl
    have e2:Extern.allTypedRows.lookup "internal/abi.NoEscape"=none:=by rfl
    have e3:Extern.allRows.lookup "internal/abi.NoEscape"=some Extern.AbiNoEscape.same:=by rfl
    rw[e1,e2,e3]
    rfl
   rw[run_callFunc_extern hfn (by rw[h1];rfl) (by rw[hb];rfl) hn hf]
   rfl
  ·cases h
 ·cases h
theorem eNe_sound {c:Call} (h:eNe P n0 e c s=some (r,s')) (ho:o.op= .call c) (hE:OpV n0 ρ e a o) (hp:Pre P n0 ρ s s' W):OpS P ρ s r s' (execOp a.eval o) W:=by
 unfold eNe at h
 split at h<;>try cases h
 next f x hf hx=>
 split at h<;>try cases h
 next hk=>
 rw[Bool.and_eq_true]at hk
 have hargs:c.args= #[x]:=by rw[←Array.toArray_toList (xs:=c.args),hx]
 have vf:=hE f (by rw[ho];simp [Op.operands,Call.operands,hf]) hk.1
 have vx:=hE x (by rw[ho];simp [Op.operands,Call.operands,hargs]) hk.2
 split at h<;>try cases h
 next g first cap hv=>
 split at h<;>try cases h
 next hb=>
 simp only[Bool.and_eq_true]at hb
 obtain⟨⟨b1,b2⟩,b3⟩:=hb
 have b1:first.size=0:=Nat.eq_of_beq_eq_true b1
 have b2:cap.size=0:=Nat.eq_of_beq_eq_true b2
 rw[hv]at vf
 generalize hw:a.eval f=u at vf
 cases vf with
 |func h0 h1 h2 h3 h4=>
  cases h0
  rename_i first' cap'
  have e1:first'= #[]:=Array.eq_empty_of_size_eq_zero (by rw[←h1,b1])
  have e2:cap'= #[]:=Array.eq_empty_of_size_eq_zero (by rw[←h3,b2])
  subst e1;subst e2
  refine⟨ρ,W,⟨a.eval x,?_,vx⟩,Post.refl hp.inj hp.wr⟩
  unfold execOp resolve
  rw[ho]
  simp only[hf,Sem.run_bind,hw,Deferred.ofValue]
  rw[hargs]
  show (callFunc g _).run P W=_
  have:((#[]++Array.map a.eval #[x])++#[]:Array Value)= #[a.eval x]:=by simp
  rw[this]
  exact isNE_run b3 _
theorem eNe_grow {c:Call} (h:eNe P n0 e c s=some (r,s')):Grow s s':=by
 unfold eNe at h
 split at h<;>try cases h
 split at h<;>try cases h
 split at h<;>try cases h
 split at h<;>cases h
 exact Grow.refl _
theorem run_eql_ptr_same {tp te:TypeId} {j:TypeInfo} (ad:Addr) (hp:P.underlying tp=some (.pointer te)) (hte:P.info? te=some j):
  (binOp .eql tp (.pointer (some ad)) (.pointer (some ad))).run P W= .ok (.bool true) W:=by
 have h:∀d:Nat,(Op.equalIn (d+1) tp (.pointer (some ad)) (.pointer (some ad))).run P W= .ok true W:=fun d=>by
  simp [Op.equalIn,run_und hp,sizeOf,typeInfo,hte,run_sameAddr_same]
 simp only[binOp]
 simp [Op.equal,Op.maxDepth,h 9999]
theorem ePq_sound {op:BinOp} {t yt:TypeId} {x y:Operand} (h:ePq P n0 e op t x y s=some (r,s')) (ho:o.op= .binOp op t x y yt) (hE:OpV n0 ρ e a o) (hp:Pre P n0 ρ s s' W):OpS P ρ s r s' (execOp a.eval o) W:=by
 unfold ePq at h
 split at h<;>try cases h
 next hk=>
 rw[Bool.and_eq_true]at hk
 have vx:=hE x (by rw[ho];simp [Op.operands]) hk.1;have vy:=hE y (by rw[ho];simp [Op.operands]) hk.2
 split at h<;>try cases h
 next b o1 hx=>
 split at h<;>try cases h
 next b2 o2 hy=>
 split at h<;>try cases h
 next c t0 fz hg=>
 split at h<;>try cases h
 next u hu=>
 split at h<;>try cases h
 next j hj=>
 split at h<;>try cases h
 next hb=>
 rw[Bool.and_eq_true]at hb
 have hb1:=Nat.eq_of_beq_eq_true hb.1;have hb2:=Nat.eq_of_beq_eq_true hb.2
 subst hb1;subst hb2
 rw[hx]at vx;rw[hy]at vy
 generalize hw1:a.eval x=u1 at vx
 generalize hw2:a.eval y=u2 at vy
 cases vx with
 |ptr hA=>
  rename_i ad
  cases vy with
  |ptr hB=>
   rename_i ad2
   have main:(s.rd|||bit b).testBit b=true→Pre P n0 ρ s {s with rd:=s.rd|||bit b} W→ad2=ad:=fun hm hp=>by
    obtain⟨hl,_⟩:=BR.live hp.wr hA.1 (.inl hm) hg
    obtain⟨hl2,_⟩:=BR.live hp.wr hB.1 (.inl hm) hg
    rw[hl]at hl2
    have hl2:ad.block=ad2.block:=Pl.live.inj hl2
    obtain⟨k2,k3⟩:=hA.eq hl;obtain⟨k5,k6⟩:=hB.eq hl
    obtain⟨p1,p2,p3⟩:=ad;obtain⟨q1,q2,q3⟩:=ad2
    simp_all
   split at h<;>try cases h
   all_goals
    simp only[sq_eq,Option.some.injEq,Prod.mk.injEq]at h
    obtain⟨rfl,rfl⟩:=h
    have he:=main (bit_self _ _) hp
    subst he
    refine⟨ρ,W,⟨_,?_,.bool _⟩,post_rd hp⟩
    unfold execOp
    rw[ho]
    simp only[Sem.run_bind,hw1,hw2]
    first
     |rw[show (eqGuard .eql t x y (.pointer (some ad2)) (.pointer (some ad2))).run P W= .ok () W from rfl]
      simp only[Result.andThen]
      rw[run_eql_ptr_same ad2 hu hj]
      rfl
     |rw[show (eqGuard .neq t x y (.pointer (some ad2)) (.pointer (some ad2))).run P W= .ok () W from rfl]
      simp only[Result.andThen]
      rw[Go.Lib.run_neq_ptr_same W ad2 hu hj]
      rfl
theorem ePq_grow {op:BinOp} {t:TypeId} {x y:Operand} (h:ePq P n0 e op t x y s=some (r,s')):Grow s s':=by
 unfold ePq at h
 split at h<;>try cases h
 split at h<;>try cases h
 split at h<;>try cases h
 split at h<;>try cases h
 split at h<;>try cases h
 split at h<;>try cases h
 split at h<;>try cases h
 split at h<;>try cases h
 all_goals
  simp only[sq_eq,Option.some.injEq,Prod.mk.injEq]at h
  rw[←h.2]
  exact grow_rd s _
theorem eSD_sound {c:Call} (h:eSD n0 e c.args s=some (r,s')) (ho:o.op= .call c) (hce:c.callee= .builtin .unsafeSliceData) (hE:OpV n0 ρ e a o) (hp:Pre P n0 ρ s s' W):OpS P ρ s r s' (execOp a.eval o) W:=by
 obtain⟨ce,args,at_⟩:=c
 simp only at h hce;subst hce
 unfold eSD at h
 split at h<;>try cases h
 next x hargs=>
 have hargs:args= #[x]:=by rw[←Array.toArray_toList (xs:=args),hargs]
 subst hargs
 split at h<;>try cases h
 next hx=>
 have V:=hE x (by rw[ho];simp [Op.operands,Call.operands]) hx
 have hexec:∀{v' W'},(Builtin.unsafeSliceData_ at_ o.type #[a.eval x]).run P W= .ok v' W'→(execOp a.eval o).run P W= .ok (.value v') W':=fun h=>by
  unfold execOp
  rw[ho]
  simp [resolve,invoke,builtin,Sem.run_bind,h]
 split at h<;>try cases h
 ·next hv=>
  rw[hv]at V
  generalize a.eval x=u at *
  cases V
  exact⟨ρ,W,⟨_,hexec (Go.Lib.run_unsafeSliceData_nil W _ _ _ _),.ptr0⟩,Post.refl hp.inj hp.wr⟩
 ·next ad l c hv=>
  split at h<;>cases h
  next hb=>
  rw[Bool.and_eq_true]at hb
  have b1:=Nat.le_of_ble_eq_true hb.1;have b2:=Nat.le_of_ble_eq_true hb.2
  rw[hv]at V
  generalize a.eval x=u at *
  cases V with
  |sl hA hc=>
   exact⟨ρ,W,⟨_,hexec (Go.Lib.run_unsafeSliceData_row W _ _ _ _ _ (by rcases hc with h|h<;>omega)),.ptr hA⟩,Post.refl hp.inj hp.wr⟩
theorem eSD_grow {args:Array Operand} (h:eSD n0 e args s=some (r,s')):Grow s s':=by
 unfold eSD at h
 split at h<;>try cases h
 split at h<;>try cases h
 split at h<;>try cases h
 ·exact Grow.refl _
 ·split at h<;>cases h
  exact Grow.refl _
theorem bytesV_get:∀{c:List Value} {l:List UInt8},bytesV c=some l→l.length=c.length∧∀(j:Nat) (x:UInt8),l[j]? =some x→c[j]? =some (Value.int .u8 x.toNat)
 |[],l,h=>by
  cases h
  exact⟨rfl,fun j x h=>by simp at h⟩
 |v::r,l,h=>by
  unfold bytesV at h
  split at h<;>try cases h
  next n=>
  split at h<;>try cases h
  next hn=>
  split at h<;>cases h
  next l2 hl2=>
  obtain⟨h1,h2⟩:=bytesV_get hl2
  refine⟨by simp [h1],fun j x hj=>?_⟩
  cases j with
  |zero=>
   simp only [List.getElem?_cons_zero,Option.some.injEq]at hj⊢
   subst hj
   have:n<256:=Nat.le_of_ble_eq_true hn
   have e:(UInt8.ofNat n).toNat=n:=by simp;omega
   rw[e]
   rfl
  |succ j=>
   simp only [List.getElem?_cons_succ]at hj⊢
   exact h2 j x hj
theorem eUS_sound {c:Call} (h:eUS P n0 e c.argTypes c.args s=some (r,s')) (ho:o.op= .call c) (hce:c.callee= .builtin .unsafeString) (hE:OpV n0 ρ e a o) (hp:Pre P n0 ρ s s' W):OpS P ρ s r s' (execOp a.eval o) W:=by
 obtain⟨ce,args,at_⟩:=c
 simp only at h hce;subst hce
 unfold eUS at h
 split at h<;>try cases h
 next x y pt it hargs hat=>
 have hargs:args= #[x,y]:=by rw[←Array.toArray_toList (xs:=args),hargs]
 have hat:at_= #[pt,it]:=by rw[←Array.toArray_toList (xs:=at_),hat]
 subst hargs;subst hat
 split at h<;>try cases h
 next hk=>
 rw[Bool.and_eq_true]at hk
 have vx:=hE x (by rw[ho];simp [Op.operands,Call.operands]) hk.1
 have vy:=hE y (by rw[ho];simp [Op.operands,Call.operands]) hk.2
 have hexec:∀{v' W'},(Builtin.unsafeString_ #[pt,it] o.type #[a.eval x,a.eval y]).run P W= .ok v' W'→(execOp a.eval o).run P W= .ok (.value v') W':=fun h=>by
  unfold execOp
  rw[ho]
  simp [resolve,invoke,builtin,Sem.run_bind,h]
 split at h<;>try cases h
 ·next hy=>
  split at h<;>cases h
  next p hx=>
  rw[hx]at vx;rw[hy]at vy
  generalize a.eval x=u1 at *
  generalize a.eval y=u2 at *
  cases vy
  cases vx with
  |ptr0=>exact⟨ρ,W,⟨_,hexec (Go.Lib.run_unsafeString_none W _ _ _ _),.string _⟩,Post.refl hp.inj hp.wr⟩
  |ptr=>exact⟨ρ,W,⟨_,hexec (Go.Lib.run_unsafeString_none W _ _ _ _),.string _⟩,Post.refl hp.inj hp.wr⟩
 ·next m hy=>
  split at h<;>try cases h
  next b hx=>
  split at h<;>try cases h
  next c t fz hg=>
  split at h<;>try cases h
  next u hu=>
  split at h<;>try cases h
  next hb=>
  simp only[Bool.and_eq_true]at hb
  obtain⟨⟨⟨b1,b2⟩,b3⟩,b4⟩:=hb
  have b1:t=u:=Nat.eq_of_beq_eq_true b1
  have b2:P.cellsOf t=1:=Nat.eq_of_beq_eq_true b2
  have b3:m+1≤c.size:=Nat.le_of_ble_eq_true b3
  have b4:m+1<1000000:=Nat.le_of_ble_eq_true b4
  subst b1
  split at h<;>try cases h
  next l hl=>
  simp only[sq_eq,Option.some.injEq,Prod.mk.injEq]at h
  obtain⟨rfl,rfl⟩:=h
  obtain⟨hl1,hl2⟩:=bytesV_get hl
  have hlen:l.length=m+1:=by rw[hl1,List.length_take,Array.length_toList];omega
  rw[hx]at vx;rw[hy]at vy
  generalize a.eval x=u1 at *
  generalize a.eval y=u2 at *
  cases vy
  cases vx with
  |ptr hA=>
   rename_i ad
   obtain⟨hlv,o',ho',hor,-⟩:=BR.live hp.wr hA.1 (.inr (bit_self _ _)) hg
   cases hor with
   |cells _ hz hcc=>
    rename_i c'
    have had:ad=⟨ad.block,0,none⟩:=by
     obtain⟨p1,p2,p3⟩:=ad
     have h1:=(hA.eq hlv).1;have h2:=(hA.eq hlv).2
     simp only at h1 h2;rw[h1,h2]
    have hrun:=Go.Lib.run_unsafeString_row (P:=P) W pt it o.type t hu b2 ad.block c'.size (by unfold World.shape?;rw[ho']) l (by intro h;rw[h]at hlen;cases hlen) (by omega) (by omega) (fun j x hj=>by
     have hj2:j<l.length:=(List.getElem?_eq_some_iff.1 hj).1
     have h3:=hl2 j x hj
     rw[List.getElem?_take,if_pos (by omega),Array.getElem?_toList]at h3
     have hjc:j<c'.size:=by omega
     have h4:=hcc j _ _ h3 (Array.getElem?_eq_getElem hjc)
     have e1:(⟨ad.block,0,none⟩:Addr).add j=⟨ad.block,j,none⟩:=by
      unfold Addr.add
      split
      ·rename_i h;rw[h]
      ·simp
     rw[e1,Go.Lib.cell_of_heap ho' j,Array.getElem?_eq_getElem hjc]
     generalize c'[j]=q at h4
     cases h4
     rfl)
    rw[←had]at hrun
    have hWh:∀y,y≠ad.block→(W.freeze ad l.length).heap[y]? =W.heap[y]?:=fun y hy=>by
     unfold World.freeze
     split
     ·rfl
     ·rw[Array.getElem?_modify,if_neg (Ne.symm hy)]
    have hWs:(W.freeze ad l.length).heap.size=W.heap.size:=by
     unfold World.freeze
     split
     ·rfl
     ·simp
    obtain⟨ρ',hpost⟩:=post_lose hlv hWs hWh (by unfold World.freeze;split<;>rfl) (by unfold World.freeze;split<;>rfl) (by unfold World.freeze;split<;>rfl) hp
    refine⟨ρ',_,⟨_,hexec ?_,.string _⟩,hpost⟩
    rw[hlen]at hrun
    rw[hlen]
    exact hrun
theorem eUS_grow {at_:Array TypeId} {args:Array Operand} (h:eUS P n0 e at_ args s=some (r,s')):Grow s s':=by
 unfold eUS at h
 split at h<;>try cases h
 split at h<;>try cases h
 split at h<;>try cases h
 ·split at h<;>cases h
  exact Grow.refl _
 ·split at h<;>try cases h
  split at h<;>try cases h
  split at h<;>try cases h
  split at h<;>try cases h
  split at h<;>try cases h
  simp only[sq_eq,Option.some.injEq,Prod.mk.injEq]at h
  rw[←h.2]
  exact grow_wr s _ _
theorem eCp_sound {c:Call} (h:eCp P n0 e c.argTypes c.args s=some (r,s')) (ho:o.op= .call c) (hce:c.callee= .builtin .copy) (hE:OpV n0 ρ e a o) (hp:Pre P n0 ρ s s' W):OpS P ρ s r s' (execOp a.eval o) W:=by
 obtain⟨ce,args,at_⟩:=c
 simp only at h hce;subst hce
 unfold eCp at h
 split at h<;>try cases h
 next d x t t2 hargs hat=>
 have hargs:args= #[d,x]:=by rw[←Array.toArray_toList (xs:=args),hargs]
 have hat:at_= #[t,t2]:=by rw[←Array.toArray_toList (xs:=at_),hat]
 subst hargs;subst hat
 split at h<;>try cases h
 next u b l cp hk hu hd=>
 rw[Bool.and_eq_true]at hk
 have vd:=hE d (by rw[ho];simp [Op.operands,Call.operands]) hk.1
 have vx:=hE x (by rw[ho];simp [Op.operands,Call.operands]) hk.2
 split at h<;>try cases h
 next i m hi hm=>
 split at h<;>cases h
 next h0=>
 rw[Bool.or_eq_true]at h0
 have hz:Nat.min m l=0:=by
  rcases h0 with h0|h0<;>(have:=Nat.eq_of_beq_eq_true h0;subst this)
  ·exact Nat.zero_min l
  ·exact Nat.min_zero m
 have hexec:∀{v' W'},(Builtin.copy_ #[t,t2] o.type #[a.eval d,a.eval x]).run P W= .ok v' W'→(execOp a.eval o).run P W= .ok (.value v') W':=fun h=>by
  unfold execOp
  rw[ho]
  simp [resolve,invoke,builtin,Sem.run_bind,h]
 rw[hd]at vd
 generalize a.eval d=D at *
 generalize a.eval x=X at *
 generalize aev e x=xa at *
 have ht:=run_und (P:=P) (sliceE_eq hu)
 have hl:=lenV_run (P:=P) hm vx W
 have hf0:∀k,(Builtin.firstCells k 0 X).run P W= .ok #[] W:=fun k=>by
  cases vx<;>first|(cases hm;done)|rfl|(simp [Builtin.firstCells,loadCells,loadCellsFrom];done)
 have hrun:∀b' c',(Builtin.copy_ #[t,t2] o.type #[.slice b' l c',X]).run P W= .ok (.int .i64 0) W:=fun b' c'=>by
  cases b' with
  |none=>simp [Builtin.copy_,ht,sizeOf,typeInfo,hi,hl,hz,hf0,goInt]
  |some ad=>simp [Builtin.copy_,ht,sizeOf,typeInfo,hi,hl,hz,hf0,goInt,storeCells]
 cases vd with
 |sl0=>exact⟨ρ,W,⟨_,hexec (hrun _ _),.int _ _⟩,Post.refl hp.inj hp.wr⟩
 |sl=>exact⟨ρ,W,⟨_,hexec (hrun _ _),.int _ _⟩,Post.refl hp.inj hp.wr⟩
theorem eCp_grow {at_:Array TypeId} {args:Array Operand} (h:eCp P n0 e at_ args s=some (r,s')):Grow s s':=by
 unfold eCp at h
 split at h<;>try cases h
 split at h<;>try cases h
 split at h<;>try cases h
 split at h<;>cases h
 exact Grow.refl _
end
end
section
section
variable {P:Program} {n0:Nat} {ρ:PM} {e:Tr Value} {a:Act} {s s':AS} {r:OO} {W:World} {o:Oper}
def insL (y:Int) (ys:List Int):List Int:=if y∈ys then ys else ys++[y]
theorem mem_insL {y x:Int} {ys:List Int}:x∈insL y ys↔x=y∨x∈ys:=by
 unfold insL;split
 ·next h=>constructor
          ·exact .inr
          ·rintro (rfl|h')<;>assumption
 ·simp [or_comm]
theorem nodup_insL {y:Int} {ys:List Int} (h:ys.Nodup):(insL y ys).Nodup:=by
 unfold insL;split
 ·exact h
 ·next hy=>rw[List.nodup_append];exact⟨h,by simp,by rintro a ha b hb rfl;simp at hb;subst hb;exact hy ha⟩
theorem isKn_eq (n:Nat) (x:Int):isKn n (.int .i64 x)=decide (x=(n:Int)):=by
 cases x with
 |ofNat m=>
  unfold isKn
  by_cases h:n=m
  ·subst h;simp
  ·dsimp only;rw[nbF h];symm;rw[decide_eq_false_iff_not];intro e;exact h (Int.ofNat.inj e).symm
 |negSucc m=>
  unfold isKn
  symm;rw[decide_eq_false_iff_not];intro e;cases e
theorem sHas_eq {n:Nat} {b:List Value} {ys:List Int} (h:b.Perm (ys.map (Value.int .i64))):sHas n b=decide ((n:Int)∈ys):=by
 unfold sHas
 rw[h.any_eq,List.any_map]
 rw[Bool.eq_iff_iff,List.any_eq_true,decide_eq_true_eq]
 constructor
 ·rintro⟨x,hx,h⟩
  rw[Function.comp_apply,isKn_eq,decide_eq_true_eq]at h
  exact h▸hx
 ·exact fun hx=>⟨_,hx,by rw[Function.comp_apply,isKn_eq];simp⟩
theorem sPut_perm (n:Nat):∀l,(sPut n l).Perm (.int .i64 (.ofNat n)::l)
 |[]=>.refl _
 |v::l=>by
  unfold sPut
  split
  ·split
   ·exact .refl _
   ·exact ((sPut_perm n l).cons _).trans (.swap ..)
  ·exact ((sPut_perm n l).cons _).trans (.swap ..)
theorem sIns_perm {n:Nat} {b:List Value} {ys:List Int} (h:b.Perm (ys.map (Value.int .i64))):(sIns n b).Perm ((insL (.ofNat n) ys).map (Value.int .i64)):=by
 unfold sIns insL
 have hs:=sHas_eq (n:=n) h
 split
 ·next e=>
  rw[e]at hs
  have hs:Int.ofNat n∈ys:=of_decide_eq_true hs.symm
  rw[if_pos hs];exact h
 ·next e=>
  rw[e]at hs
  have hs:¬Int.ofNat n∈ys:=of_decide_eq_false hs.symm
  rw[if_neg hs,List.map_append]
  exact ((sPut_perm n b).trans (h.cons _)).trans (List.perm_append_comm (l₁:=[_]))
theorem sDel_perm {n:Nat} {b:List Value} {ys:List Int} (hn:ys.Nodup) (h:b.Perm (ys.map (Value.int .i64))):(sDel n b).Perm ((ys.erase (.ofNat n)).map (Value.int .i64)):=by
 unfold sDel
 rw[hn.erase_eq_filter]
 refine (h.filter _).trans (.of_eq ?_)
 rw[List.filter_map]
 congr 1
 apply List.filter_congr
 intro x _
 rw[Function.comp_apply,isKn_eq,Bool.eq_iff_iff]
 simp
theorem findNow_int (x:Int):∀(es:List MapEntry) (ys:List Int) (n:Nat),es.map (·.key)=ys.map (Value.int .i64)→
  Instr.findNow (.int .i64) (.int .i64 x) es n=some ((ys.findIdx? (fun y=>decide (x=y))).map fun i=>(n+i,(es.map (·.val)).getD i undef))
 |[],[],n,_=>by simp [Instr.findNow]
 |e::es,y::ys,n,h=>by
  simp only [List.map_cons,List.cons.injEq]at h
  have ih:=findNow_int x es ys (n+1) h.2
  unfold Instr.findNow
  rw[h.1]
  by_cases hxy:x=y
  ·subst hxy
   simp [Instr.sameNow,List.findIdx?_cons]
  ·have h2:(x==y)=false:=by simp [hxy]
   simp only [Instr.sameNow,if_true,h2,ih,List.findIdx?_cons,hxy,decide_false]
   cases hf:List.findIdx? (fun y=>decide (x=y)) ys with
   |none=>simp
   |some i=>simp;omega
 |[],_::_,_,h=>by simp at h
 |_::_,[],_,h=>by simp at h
theorem findIdx_none {x:Int} {ys:List Int}:ys.findIdx? (fun y=>decide (x=y))=none↔x∉ys:=by
 rw[List.findIdx?_eq_none_iff];simp only [decide_eq_false_iff_not]
 constructor
 ·intro h hx;exact h x hx rfl
 ·rintro h y hy rfl;exact h hy
theorem findIdx_mem {x:Int} {ys:List Int} {i:Nat} (h:ys.findIdx? (fun y=>decide (x=y))=some i):ys[i]? =some x∧x∈ys:=by
 obtain⟨h1,h2,_⟩:=List.findIdx?_eq_some_iff_getElem.1 h
 simp only [decide_eq_true_eq]at h2
 exact⟨by rw[List.getElem?_eq_getElem h1,h2],by rw[h2];exact List.getElem_mem _⟩
theorem map_erase {β γ:Type} (f:β→γ):∀(l:List β) (i:Nat),(l.eraseIdx i).map f=(l.map f).eraseIdx i
 |[],_=>rfl
 |_::_,0=>rfl
 |x::l,i+1=>by simp [map_erase f l i]
def KsR (ys:List Int) (es:Array MapEntry) (cl:Nat):Prop:=es.toList.map (·.key)=ys.map (Value.int .i64)∧(∀e∈es.toList,e.val= .agg #[]∧e.born<cl)∧(es.toList.map (·.born)).Nodup
theorem getMap_run {b:Nat} {es:Array MapEntry} {cl:Nat} (h:W.heap[b]? =some (.map es cl)):(getObj b).run P W= .ok (.map es cl) W:=by
 simp [getObj,Sem.run,h]
theorem setMap_run {b:Nat} {es:Array MapEntry} {cl:Nat} (h:W.heap[b]? =some (.map es cl)) (ob:Obj):(setObj b ob).run P W= .ok () {W with heap:=W.heap.setIfInBounds b ob}:=by
 simp [setObj,Sem.run,h]
theorem keyChk {K:TypeId} (hK:P.underlying K=some (.int .i64)) (c:Bool) (x:Int) (W:World):(Instr.checkKey c 10000 K (.int .i64 x)).run P W= .ok () W:=by
 unfold Instr.checkKey
 simp [run_und hK]
theorem keyFind {K:TypeId} (hK:P.underlying K=some (.int .i64)) (x:Int) {es:List MapEntry} {ys:List Int} (W:World) (h:es.map (·.key)=ys.map (Value.int .i64)):(Instr.findKey K (.int .i64 x) es).run P W= .ok ((ys.findIdx? (fun y=>decide (x=y))).map fun i=>(i,(es.map (·.val)).getD i undef)) W:=by
 unfold Instr.findKey
 simp [run_und hK,findNow_int x es ys 0 h]
theorem set_put {T K V:TypeId} (hT:P.underlying T=some (.map K V)) (hK:P.underlying K=some (.int .i64)) {b:Nat} {es:Array MapEntry} {cl:Nat} {ys:List Int} (hb:W.heap[b]? =some (.map es cl)) (h:KsR ys es cl) (y:Int):
  ∃es' cl',(Instr.mapUpdate T (.map (some b)) (.int .i64 y) (.agg #[])).run P W= .ok () {W with heap:=W.heap.setIfInBounds b (.map es' cl')}∧KsR (insL y ys) es' cl':=by
 obtain⟨hk,hv,hn⟩:=h
 have hrun:(Instr.mapUpdate T (.map (some b)) (.int .i64 y) (.agg #[])).run P W=
   match ys.findIdx? (fun z=>decide (y=z)) with
   |some i=> .ok () {W with heap:=W.heap.setIfInBounds b (.map (es.modify i fun e=>{e with key:= .int .i64 y,val:= .agg #[]}) cl)}
   |none=> .ok () {W with heap:=W.heap.setIfInBounds b (.map (es.push {key:= .int .i64 y,val:= .agg #[],born:=cl}) (cl+1))}:=by
  unfold Instr.mapUpdate
  simp only [Sem.run_bind,run_und hT,Result.andThen_ok,getMap_run hb,keyChk hK,keyFind hK y W hk]
  cases hf:ys.findIdx? (fun z=>decide (y=z)) with
  |none=>simp [setMap_run hb]
  |some i=>
   obtain⟨h1,_⟩:=findIdx_mem hf
   have hkey:((es[i]?).map (·.key)).getD (.int .i64 y)= .int .i64 y:=by
    have:(es.toList.map (·.key))[i]? =some (.int .i64 y):=by rw[hk,List.getElem?_map,h1];rfl
    rw[List.getElem?_map,Array.getElem?_toList]at this
    rw[this];rfl
   have hsm:Instr.sameBits 10000 (.int .i64 y) (.int .i64 y)=true:=by simp [Instr.sameBits]
   simp only [Option.map_some,hkey,Instr.keyThatStays,hsm,if_true,Sem.run_pure,Sem.run_bind,Result.andThen_ok,setMap_run hb]
 rw[hrun]
 cases hf:ys.findIdx? (fun z=>decide (y=z)) with
 |none=>
  have hy:=findIdx_none.1 hf
  refine⟨_,_,rfl,?_,?_,?_⟩
  ·simp [insL,hy,hk]
  ·intro e he
   simp only [Array.toList_push,List.mem_append,List.mem_singleton]at he
   rcases he with he|rfl
   ·exact⟨(hv e he).1,by have:=(hv e he).2;omega⟩
   ·exact⟨rfl,by simp⟩
  ·simp only [Array.toList_push,List.map_append,List.map_cons,List.map_nil]
   rw[List.nodup_append]
   refine⟨hn,by simp,?_⟩
   rintro a ha c hc rfl
   obtain⟨e,he,rfl⟩:=List.mem_map.1 ha
   have:=(hv e he).2
   simp at hc;omega
 |some i=>
  obtain⟨h1,h2⟩:=findIdx_mem hf
  have hsame:es.modify i (fun e=>{e with key:= .int .i64 y,val:= .agg #[]})=es:=by
   apply Array.ext
   ·simp
   ·intro j hj1 hj2
    rw[Array.getElem_modify]
    split
    ·next hij=>
     subst hij
     have hk':(es.toList.map (·.key))[i]? =some (.int .i64 y):=by rw[hk,List.getElem?_map,h1];rfl
     rw[List.getElem?_map,Array.getElem?_toList,Array.getElem?_eq_getElem hj2]at hk'
     simp only [Option.map_some,Option.some.injEq]at hk'
     have hv':=(hv es[i] (by simp)).1
     generalize es[i]=x at hk' hv'
     cases x
     simp only at hk' hv'
     subst hk';subst hv';rfl
    ·rfl
  refine⟨_,_,rfl,?_,?_,?_⟩
  ·rw[hsame];simp [insL,h2,hk]
  ·rw[hsame];exact hv
  ·rw[hsame];exact hn
theorem set_del {T K V K2 ty:TypeId} (hT:P.underlying T=some (.map K V)) (hK:P.underlying K=some (.int .i64)) {b:Nat} {es:Array MapEntry} {cl:Nat} {ys:List Int} (hb:W.heap[b]? =some (.map es cl)) (h:KsR ys es cl) (y:Int):
  ∃es' cl',(Builtin.delete_ #[T,K2] ty #[.map (some b),.int .i64 y]).run P W= .ok (.tuple #[]) {W with heap:=W.heap.setIfInBounds b (.map es' cl')}∧KsR (ys.erase y) es' cl':=by
 obtain⟨hk,hv,hn⟩:=h
 have hrun:(Builtin.delete_ #[T,K2] ty #[.map (some b),.int .i64 y]).run P W=
   match ys.findIdx? (fun z=>decide (y=z)) with
   |some i=> .ok (.tuple #[]) {W with heap:=W.heap.setIfInBounds b (.map (es.eraseIdxIfInBounds i) cl)}
   |none=> .ok (.tuple #[]) {W with heap:=W.heap.setIfInBounds b (.map es cl)}:=by
  unfold Builtin.delete_
  simp only [List.getElem?_toArray,List.getElem?_cons_zero,List.getElem?_cons_succ,Sem.run_bind,run_und hT,Result.andThen_ok,getMap_run hb,keyChk hK,keyFind hK y W hk]
  cases hf:ys.findIdx? (fun z=>decide (y=z)) with
  |none=>simp [setMap_run hb]
  |some i=>simp [setMap_run hb]
 rw[hrun]
 cases hf:ys.findIdx? (fun z=>decide (y=z)) with
 |none=>
  have hy:=findIdx_none.1 hf
  refine⟨_,_,rfl,?_,hv,hn⟩
  rw[List.erase_of_not_mem hy];exact hk
 |some i=>
  have hi:i<es.size:=by
   have h1:=(List.findIdx?_eq_some_iff_getElem.1 hf).1
   have h2:=congrArg List.length hk
   simp at h2;omega
  have hl:(es.eraseIdxIfInBounds i).toList=es.toList.eraseIdx i:=by
   rw[Array.eraseIdxIfInBounds,dif_pos hi,Array.toList_eraseIdx]
  have he:ys.erase y=ys.eraseIdx i:=by
   rw[List.erase_eq_eraseIdx]
   have:ys.idxOf? y=some i:=by
    have hfe:(fun z=>z==y)=(fun z=>decide (y=z)):=by funext z;rw[Bool.eq_iff_iff,beq_iff_eq,decide_eq_true_eq];exact⟨Eq.symm,Eq.symm⟩
    show ys.findIdx? (fun z=>z==y)=some i
    rw[hfe];exact hf
   simp only [this]
  refine⟨_,_,rfl,?_,?_,?_⟩
  ·rw[hl,he,map_erase,hk,map_erase]
  ·intro e hm;rw[hl]at hm;exact hv e (List.mem_of_mem_eraseIdx hm)
  ·rw[hl];exact hn.sublist ((List.eraseIdx_sublist _ _).map _)
theorem set_len {T K V ty:TypeId} (hT:P.underlying T=some (.map K V)) {b:Nat} {es:Array MapEntry} {cl:Nat} (hb:W.heap[b]? =some (.map es cl)):(Builtin.len_ #[T] ty #[.map (some b)]).run P W= .ok (.int .i64 es.size) W:=by
 unfold Builtin.len_
 simp [run_und hT,getMap_run hb,goInt]
theorem post_obj {b x:Nat} {ob ob' o0:Obj} {W':World} (hl:ρ b= .live x) (h0:ρ.cap b=ocap P ob') (ho:OR ρ ob ob') (hx:W'.heap[x]? =some ob') (hsz:W.heap.size≤W'.heap.size) (hh:∀y,y<W.heap.size→y≠x→W'.heap[y]? =W.heap[y]?) (h1:W'.os=W.os) (h2:W'.tape=W.tape) (h3:W'.output=W.output) {m:Nat}
  (hp:Pre P n0 ρ s {s with heap:=s.heap.set b (some ob),rd:=m,wr:=s.wr|||bit b} W):Post P ρ s {s with heap:=s.heap.set b (some ob),rd:=m,wr:=s.wr|||bit b} W ρ W':=by
 refine⟨PLe.refl _,fun c h1 h2=>absurd h1 h2,fun c x h1 h2=>(by rw[h1]at h2;cases h2),⟨hp.inj.inj,fun c y h=>Nat.lt_of_lt_of_le (hp.inj.lt c y h) hsz⟩,fun c hc=>?_,fun y hy hc=>hh y hy fun e=>?_,hsz,h1,h2,h3,fun c x h1 h2=>(by rw[h1]at h2;cases h2)⟩
 ·show _∨(_∧(s.heap.set b (some ob)).get c=none)∨∃x p p',_∧(s.heap.set b (some ob)).get c=some p∧_∧_∧_
  rw[Tr.get_set]
  by_cases e:c=b
  ·subst e
   exact .inr (.inr ⟨x,ob,ob',hl,by rw[if_pos rfl],hx,ho,h0⟩)
  ·rw[if_neg e]
   rcases hp.wr c (hc.elim id fun h=>absurd h.2 (Nat.not_lt.2 h.1)) with k|k|⟨y,p,p',k1,k2,k3,k4,k5⟩
   ·exact .inl k
   ·exact .inr (.inl k)
   ·exact .inr (.inr ⟨y,p,p',k1,k2,(hh y (hp.inj.lt c y k1) fun h=>e (hp.inj.inj c b y k1 (by rw[hl,h]))).trans k3,k4,k5⟩)
 ·subst e
  have:=hc b hl
  rw[show (s.wr|||bit b).testBit b=true from bit_self _ _]at this
  cases this
end
end
section
section
variable {P:Program} {n0:Nat} {ρ:PM} {e:Tr Value} {a:Act} {s s':AS} {r:OO} {W:World} {o:Oper}
theorem setK_eq {t:TypeId} (h:setK P t=true):∃K V,P.underlying t=some (.map K V)∧P.underlying K=some (.int .i64):=by
 unfold setK at h
 split at h<;>try cases h
 next K V hT=>
 split at h<;>try cases h
 next hK=>exact⟨K,V,hT,hK⟩
theorem setAt_real {v v':Value} {r:Nat} {l:List Value} (h:setAt s v=some (r,l)) (hv:VR ρ v v') (hp:Pre P n0 ρ s s' W) (ht:s'.tch r):v= .map (some r)∧∃x es cl ys,v'= .map (some x)∧ρ r= .live x∧W.heap[x]? =some (.map es cl)∧ρ.cap r=0∧ys.Nodup∧l.Perm (ys.map (Value.int .i64))∧KsR ys es cl:=by
 unfold setAt at h
 split at h<;>try cases h
 split at h<;>cases h
 next r _ hg=>
 rename_i b _ _ _ _
 cases hv with
 |map hb=>
  obtain⟨hl,o',ho',hor,hc⟩:=BR.live hp.wr hb ht hg
  cases hor with
  |set hs=>
   obtain⟨ys,h1,h2,h3,h4,h5⟩:=hs
   exact⟨rfl,_,_,_,ys,rfl,hl,ho',hc,h1,h2,h3,h4,h5⟩
theorem set_or {l:List Value} {ys:List Int} {es:Array MapEntry} {cl:Nat} (hn:ys.Nodup) (h:l.Perm (ys.map (Value.int .i64))) (hk:KsR ys es cl):OR ρ (setOb l) (.map es cl):=.set ⟨ys,hn,h,hk.1,hk.2.1,hk.2.2⟩
theorem setHeap {x:Nat} (hx:x<W.heap.size) (ob:Obj):({W with heap:=W.heap.setIfInBounds x ob}:World).heap[x]? =some ob:=by simp [hx]
theorem setHeap_ne {x y:Nat} (h:y≠x) (ob:Obj):({W with heap:=W.heap.setIfInBounds x ob}:World).heap[y]? =W.heap[y]?:=by
 show (W.heap.setIfInBounds x ob)[y]? =_
 rw[Array.getElem?_setIfInBounds_ne (Ne.symm h)]
theorem post_set {b x:Nat} {l:List Value} {ys:List Int} {es es':Array MapEntry} {cl cl':Nat} (hl:ρ b= .live x) (h0:ρ.cap b=0) (hn:ys.Nodup) (h:l.Perm (ys.map (Value.int .i64))) (hk:KsR ys es' cl') {m:Nat} (hm:s.rd=m)
  (hp:Pre P n0 ρ s {s with heap:=s.heap.set b (some (setOb l)),rd:=m,wr:=s.wr|||bit b} W):Post P ρ s {s with heap:=s.heap.set b (some (setOb l)),rd:=m,wr:=s.wr|||bit b} W ρ {W with heap:=W.heap.setIfInBounds x (.map es' cl')}:=
 post_obj (ob':=.map es' cl') (o0:=.map es cl) hl h0 (set_or hn h hk) (setHeap (hp.inj.lt _ _ hl) _) (by simp) (fun y _ hy=>setHeap_ne hy _) rfl rfl rfl hp
theorem upd_sound {t:TypeId} {m k v:Operand} (h:eSu P n0 e t m k v s=some (r,s')) (hx:∀vm vk vv,a.eval m=vm→a.eval k=vk→a.eval v=vv→∀W',(Instr.mapUpdate t vm vk vv).run P W= .ok () W'→(execOp a.eval o).run P W= .ok .skip W') (h1:okX n0 m=true→VR ρ (aev e m) (a.eval m)) (h2:okX n0 k=true→VR ρ (aev e k) (a.eval k)) (h3:okX n0 v=true→VR ρ (aev e v) (a.eval v)) (hp:Pre P n0 ρ s s' W):OpS P ρ s r s' (execOp a.eval o) W:=by
 unfold eSu at h
 split at h<;>try cases h
 next b l hs=>
 split at h<;>try cases h
 next hok=>
 simp only[Bool.and_eq_true]at hok
 obtain⟨⟨⟨k1,k2⟩,k3⟩,k4⟩:=hok
 split at h<;>try cases h
 next n ek ev=>
 rw[sq_eq,sqL_eq,sq_eq]at h
 cases h
 obtain⟨_,x,es,cl,ys,em,hl,hx0,hc,hn,hp1,hk⟩:=setAt_real hs (h1 k1) hp (.inr (bit_self _ _))
 obtain⟨K,V,hT,hK⟩:=setK_eq k4
 have vk:=h2 k2;have vv:=h3 k3
 rw[ek]at vk;rw[ev]at vv
 generalize hk1:a.eval k=u1 at vk
 generalize hk2:a.eval v=u2 at vv
 cases vk
 cases vv with
 |agg z1 z2=>
  rename_i c'
  have:c'= #[]:=Array.eq_empty_of_size_eq_zero z1.symm
  subst this
  obtain⟨es',cl',hrun,hk'⟩:=set_put hT hK hx0 hk (.ofNat n)
  exact⟨ρ,_,hx _ _ _ em hk1 hk2 _ hrun,post_set (es:=es) (cl:=cl) hl hc (nodup_insL hn) (sIns_perm hp1) hk' rfl hp⟩
theorem eSu_sound {t:TypeId} {m k v:Operand} (h:eSu P n0 e t m k v s=some (r,s')) (ho:o.op= .mapUpdate t m k v∨o.op= .insert t m k v) (hE:OpV n0 ρ e a o) (hp:Pre P n0 ρ s s' W):OpS P ρ s r s' (execOp a.eval o) W:=by
 refine upd_sound h (fun vm vk vv e1 e2 e3 W' hr=>?_) (fun hx=>hE m (by rcases ho with h|h<;>(rw[h];simp [Op.operands])) hx) (fun hx=>hE k (by rcases ho with h|h<;>(rw[h];simp [Op.operands])) hx) (fun hx=>hE v (by rcases ho with h|h<;>(rw[h];simp [Op.operands])) hx) hp
 subst e1;subst e2;subst e3
 unfold execOp
 rcases ho with h|h<;>(rw[h];simp [Sem.run_bind,hr,Result.andThen])
theorem eSm_sound {t:TypeId} {re:Option Operand} (h:eSm P t re s=some (r,s')) (ho:o.op= .makeMap t re) (hp:Pre P n0 ρ s s' W):OpS P ρ s r s' (execOp a.eval o) W:=by
 unfold eSm at h
 split at h<;>try cases h
 split at h<;>cases h
 have e0:s.rd|||0=s.rd:=Nat.or_zero _
 obtain⟨ρ',h1,h2,h3,h4⟩:=post_alloc (P:=P) (n0:=n0) (ob:=setOb []) (ob':=.map #[] 0) (rd:=0) (W1:={W with heap:=W.heap.push (.map #[] 0)}) (by rw[e0];exact hp) (set_or (ys:=[]) .nil (.refl _) ⟨rfl,by simp,by simp⟩) rfl rfl rfl rfl
 rw[e0]at h4
 refine⟨ρ',_,⟨.map (some W.heap.size),?_,.map (.inr h2)⟩,h4⟩
 unfold execOp
 rw[ho]
 rfl
theorem eSd_sound {c:Call} (h:eSd P n0 e c.argTypes c.args s=some (r,s')) (ho:o.op= .call c) (hce:c.callee= .builtin .delete) (hE:OpV n0 ρ e a o) (hp:Pre P n0 ρ s s' W):OpS P ρ s r s' (execOp a.eval o) W:=by
 obtain⟨ce,args,at_⟩:=c
 simp only at h hce;subst hce
 unfold eSd at h
 split at h<;>try cases h
 next m k t t2 hargs hat=>
 have hargs:args= #[m,k]:=by rw[←Array.toArray_toList (xs:=args),hargs]
 have hat:at_= #[t,t2]:=by rw[←Array.toArray_toList (xs:=at_),hat]
 subst hargs;subst hat
 split at h<;>try cases h
 next b l hs=>
 split at h<;>try cases h
 next hok=>
 simp only[Bool.and_eq_true]at hok
 obtain⟨⟨k1,k2⟩,k4⟩:=hok
 split at h<;>try cases h
 next n ek=>
 rw[sq_eq,sqL_eq,sq_eq]at h
 cases h
 obtain⟨_,x,es,cl,ys,em,hl,hx0,hc,hn,hp1,hk⟩:=setAt_real hs (hE m (by rw[ho];simp [Op.operands,Call.operands]) k1) hp (.inr (bit_self _ _))
 obtain⟨K,V,hT,hK⟩:=setK_eq k4
 have vk:=hE k (by rw[ho];simp [Op.operands,Call.operands]) k2
 rw[ek]at vk
 generalize hk1:a.eval k=u1 at vk
 cases vk
 obtain⟨es',cl',hrun,hk'⟩:=set_del (K2:=t2) (ty:=o.type) hT hK hx0 hk (.ofNat n)
 refine⟨ρ,_,⟨_,?_,.tuple rfl fun i v v' h=>by simp at h⟩,post_set (es:=es) (cl:=cl) hl hc (hn.erase _) (sDel_perm hn hp1) hk' rfl hp⟩
 unfold execOp
 rw[ho]
 simp [resolve,invoke,builtin,Sem.run_bind,em,hk1]
 exact hrun ▸ rfl
theorem eSn_sound {c:Call} (h:eSn P n0 e c.argTypes c.args s=some (r,s')) (ho:o.op= .call c) (hce:c.callee= .builtin .len) (hE:OpV n0 ρ e a o) (hp:Pre P n0 ρ s s' W):OpS P ρ s r s' (execOp a.eval o) W:=by
 obtain⟨ce,args,at_⟩:=c
 simp only at h hce;subst hce
 unfold eSn at h
 split at h<;>try cases h
 next m t hargs hat=>
 have hargs:args= #[m]:=by rw[←Array.toArray_toList (xs:=args),hargs]
 have hat:at_= #[t]:=by rw[←Array.toArray_toList (xs:=at_),hat]
 subst hargs;subst hat
 split at h<;>try cases h
 next b l hs=>
 split at h<;>try cases h
 next hok=>
 rw[Bool.and_eq_true]at hok
 rw[sq_eq,sq_eq]at h
 cases h
 obtain⟨_,x,es,cl,ys,em,hl,hx0,hc,hn,hp1,hk⟩:=setAt_real hs (hE m (by rw[ho];simp [Op.operands,Call.operands]) hok.1) hp (.inl (bit_self _ _))
 obtain⟨K,V,hT,hK⟩:=setK_eq hok.2
 have hrun:=set_len (W:=W) (ty:=o.type) hT hx0
 have hz:(es.size:Int)=Int.ofNat l.length:=by
  have h1:=congrArg List.length hk.1
  have h2:=hp1.length_eq
  simp only[List.length_map,Array.length_toList]at h1 h2
  rw[h1,h2];rfl
 rw[hz]at hrun
 refine⟨ρ,W,⟨_,?_,.int _ _⟩,post_rd hp⟩
 unfold execOp
 rw[ho]
 simp [resolve,invoke,builtin,Sem.run_bind,em]
 exact hrun ▸ rfl
theorem eSu_grow {t:TypeId} {m k v:Operand} (h:eSu P n0 e t m k v s=some (r,s')):Grow s s':=by
 unfold eSu at h
 split at h<;>try cases h
 split at h<;>try cases h
 split at h<;>try cases h
 rw[sq_eq,sqL_eq,sq_eq]at h
 cases h
 exact grow_wr s _ _
theorem eSm_grow {t:TypeId} {re:Option Operand} (h:eSm P t re s=some (r,s')):Grow s s':=by
 unfold eSm at h
 split at h<;>try cases h
 split at h<;>cases h
 exact grow_new s _
theorem eSd_grow {at_:Array TypeId} {args:Array Operand} (h:eSd P n0 e at_ args s=some (r,s')):Grow s s':=by
 unfold eSd at h
 split at h<;>try cases h
 split at h<;>try cases h
 split at h<;>try cases h
 split at h<;>try cases h
 rw[sq_eq,sqL_eq,sq_eq]at h
 cases h
 exact grow_wr s _ _
theorem eSn_grow {at_:Array TypeId} {args:Array Operand} (h:eSn P n0 e at_ args s=some (r,s')):Grow s s':=by
 unfold eSn at h
 split at h<;>try cases h
 split at h<;>try cases h
 split at h<;>try cases h
 rw[sq_eq,sq_eq]at h
 cases h
 exact grow_rd s _
end
end
end Go.Proofs.YtngglbakkedaiaaGreatDoor
