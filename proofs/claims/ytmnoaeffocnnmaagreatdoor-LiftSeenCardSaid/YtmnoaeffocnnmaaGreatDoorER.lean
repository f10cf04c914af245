import Derived.Test.YtmnoaeffocnnmaaGreatDoorEO
import Derived.Lib.Builder
import Derived.Lib.UnsafeStr
import Derived.Laws.Externs
import Derived.Test.YtmnoaeffocnnmaaGreatDoorEQ
import Derived.Test.YtmnoaeffocnnmaaGreatDoorFA
namespace Go.Proofs.YtmnoaeffocnnmaaGreatDoor
section
variable {P:Program} {n0:Nat} {ρ:PM} {e:Tr Value} {a:Act} {s s':AS} {r:OO} {W:World} {o:Oper}
/-- something was read -/
theorem post_rd {m:Nat} (hp:Pre P n0 ρ s {s with rd:=m} W):Post P ρ s {s with rd:=m} W ρ W:=
 ⟨PLe.refl _,fun b h1 h2=>absurd h1 h2,fun b x h1 h2=>(by rw[h1]at h2;cases h2),hp.inj,fun b hb=>hp.wr b (hb.elim id fun h=>absurd h.2 (Nat.not_lt.2 h.1)),fun x _ _=>rfl,Nat.le_refl _,rfl,rfl,rfl,fun b x h1 h2=>(by rw[h1]at h2;cases h2)⟩
theorem grow_rd' {m b:Nat} (h:m=s.rd|||bit b):Grow s {s with rd:=m}:=h▸grow_rd s b
/-- a row is lost -/
theorem post_lose {b x:Nat} {W':World} (hl:ρ b= .live x) (hsz:W'.heap.size=W.heap.size) (hh:∀y,y≠x→W'.heap[y]? =W.heap[y]?) (h1:W'.os=W.os) (h2:W'.tape=W.tape) (h3:W'.output=W.output)
  (hp:Pre P n0 ρ s {s with heap:=s.heap.set b none,wr:=s.wr|||bit b} W):∃ρ',Post P ρ s {s with heap:=s.heap.set b none,wr:=s.wr|||bit b} W ρ' W':=by
 have key:∀c y,(if c=b then Pl.dead else ρ c)= .live y→c≠b∧ρ c= .live y:=fun c y h=>by
  split at h
  ·cases h
  ·rename_i h';exact⟨h',h⟩
 refine⟨⟨fun c=>if c=b then .dead else ρ c,ρ.cap⟩,⟨fun c=>?_,fun _ _=>rfl⟩,fun c k1 k2=>?_,fun c y k1 k2=>?_,⟨fun c d y k1 k2=>?_,fun c y k1=>?_⟩,fun c hc=>?_,fun y hy hc=>?_,by rw[hsz];exact Nat.le_refl _,h1,h2,h3,fun c y k1 k2 k3=>?_⟩
 ·by_cases e:c=b
  ·subst e;exact .inr (.inr ⟨x,hl,.inr (by simp)⟩)
  ·simp only[if_neg e];exact (PLe.refl ρ).at_ c
 ·dsimp only at k2
  by_cases e:c=b
  ·subst e;rw[hl]at k1;cases k1
  ·rw[if_neg e]at k2;exact absurd k1 k2
 ·dsimp only at k2
  by_cases e:c=b
  ·subst e;exact bit_self _ _
  ·rw[if_neg e,k1]at k2;cases k2
 ·exact hp.inj.inj c d y (key c y k1).2 (key d y k2).2
 ·rw[hsz];exact hp.inj.lt c y (key c y k1).2
 ·show _∨(_∧(s.heap.set b none).get c=none)∨∃x p p',_∧(s.heap.set b none).get c=some p∧_∧_∧_
  rw[Tr.get_set]
  by_cases e:c=b
  ·subst e;exact .inr (.inl ⟨by simp,by simp⟩)
  ·simp only[if_neg e]
   rcases hp.wr c (hc.elim id fun h=>absurd h.2 (Nat.not_lt.2 h.1)) with k|k|⟨y,p,p',k1,k2,k3,k4,k5⟩
   ·exact .inl k
   ·exact .inr (.inl k)
   ·refine .inr (.inr ⟨y,p,p',k1,k2,?_,k4.mono ?_,k5⟩)
    ·rw[hh y (fun h=>e (hp.inj.inj c b y k1 (by rw[hl,h])))];exact k3
    ·refine⟨fun d=>?_,fun _ _=>rfl⟩
     by_cases e2:d=b
     ·subst e2;exact .inr (.inr ⟨x,hl,.inr (by simp)⟩)
     ·simp only[if_neg e2];exact (PLe.refl ρ).at_ d
 ·refine hh y fun h=>?_
  subst h
  have:=hc b hl
  rw[show (s.wr|||bit b).testBit b=true from bit_self _ _]at this
  cases this
 ·dsimp only at k2
  by_cases e:c=b
  ·subst e;rw[hl]at k1;cases k1
  ·rw[if_neg e,k1]at k2;cases k2
theorem liesAt_self {t:TypeId} {n:Nat} (hc:1≤P.cellsOf t) (hn:1≤n):liesAt P P.depth t n 0 t 1=true:=by
 have hd:P.depth=(2*(P.types.size+Made.depth)+1)+1:=rfl
 rw[hd]
 simp only[liesAt,Bool.or_eq_true]
 left
 rw[hd]
 have h0:P.cellsOf t≠0:=by omega
 simp [rowAt,h0,hn,sameLayout]
theorem eCv_sound {t u:TypeId} {x:Operand} (h:eCv P n0 e t u x s=some (r,s')) (ho:o.op= .convert t u x) (hE:OpV n0 ρ e a o) (hp:Pre P n0 ρ s s' W):OpS P ρ s r s' (execOp a.eval o) W:=by
 unfold eCv at h
 split at h<;>try cases h
 next hx=>
 have hv:=hE x (by rw[ho];simp [Op.operands]) hx
 split at h<;>try cases h
 next b he=>
 rw[he]at hv
 split at h<;>try cases h
 next c t0 fz hg=>
 have key:∀{m},s'={s with rd:=m}→m.testBit b=true→(∀ad:Addr,ad.off=0→ad.spot=none→∀c':Array Value,c.size≤c'.size→W.shape? ad.block=some (t0,c'.size)→(convert t u (.pointer (some ad))).run P W= .ok (.pointer (some ad)) W)→r= .value (.pointer (some ⟨b,0,none⟩))→OpS P ρ s r s' (execOp a.eval o) W:=fun {m} hs hm hc hr=>by
  subst hs;subst hr
  generalize hw:a.eval x=w at hv
  cases hv with
  |ptr hA=>
   rename_i ad
   obtain⟨hl,o',ho',hor,-⟩:=BR.live hp.wr hA.1 (.inl hm) hg
   cases hor with
   |cells _ hz hcc=>
    rename_i c'
    refine⟨ρ,W,⟨.pointer (some ad),?_,.ptr hA⟩,post_rd hp⟩
    have:=hc ad (hA.eq hl).1 (hA.eq hl).2 c' hz (by unfold World.shape?;rw[ho'])
    unfold execOp
    rw[ho]
    simp only[Sem.run_bind,hw,this,Result.andThen]
    rfl
 split at h<;>try cases h
 ·next u' hu=>
  split at h<;>try cases h
  next hu2=>
  split at h<;>try cases h
  next j hj=>
  split at h<;>try cases h
  next hb=>
  rw[Bool.and_eq_true]at hb
  have hb1:=Nat.le_of_ble_eq_true hb.1;have hb2:=Nat.le_of_ble_eq_true hb.2
  simp only[sq_eq,Option.some.injEq,Prod.mk.injEq]at h
  refine key (m:=s.rd|||bit b) h.2.symm (bit_self _ _) (fun ad h1 h2 c' h3 h4=>?_) h.1.symm
  exact Go.Lib.run_to_unsafe W ad hu hu2 hj (by omega) h4 (by omega)
 ·next hu=>
  split at h<;>try cases h
  next u' hu2=>
  split at h<;>try cases h
  next j hj=>
  split at h<;>try cases h
  next hb=>
  simp only[Bool.and_eq_true]at hb
  have hb1:=Nat.eq_of_beq_eq_true hb.1.1;have hb2:=Nat.le_of_ble_eq_true hb.1.2;have hb3:=Nat.le_of_ble_eq_true hb.2
  subst hb1
  simp only[sq_eq,Option.some.injEq,Prod.mk.injEq]at h
  refine key (m:=s.rd|||bit b) h.2.symm (bit_self _ _) (fun ad h1 h2 c' h3 h4=>?_) h.1.symm
  refine Go.Lib.run_from_unsafe W ad hu hu2 hj h4 ?_
  rw[h1]
  exact liesAt_self hb2 (by rw[Nat.le_div_iff_mul_le (by omega)];omega)
theorem eCv_grow {t u:TypeId} {x:Operand} (h:eCv P n0 e t u x s=some (r,s')):Grow s s':=by
 unfold eCv at h
 split at h<;>try cases h
 split at h<;>try cases h
 split at h<;>try cases h
 split at h<;>try cases h
 all_goals
  split at h<;>try cases h
  split at h<;>try cases h
  split at h<;>try cases h
  simp only[sq_eq,Option.some.injEq,Prod.mk.injEq]at h
  rw[←h.2]
  exact grow_rd s _
theorem isNE_run {g:Nat} (h:isNE P g=true) (v:Value):(callFunc g #[v]).run P W= .ok (.value v) W:=by
 unfold isNE at h
 split at h
 ·rename_i fn hfn
  split at h
  ·rename_i hb
   rw[Bool.and_eq_true,beq_iff_eq,beq_iff_eq]at h
   obtain⟨h1,h2⟩:=h
   have hn:Extern.findNext fn=none:=by
    unfold Extern.findNext
    dsimp only
    rw[h1,h2]
    have e1:Extern.allNextRows.lookup "internal/abi.NoEscape"=none:=by rfl
    have e2:Extern.allNextRows.lookup ""=none:=by rfl
    rw[e1,e2]
    rfl
   have hf:Extern.find fn=some Extern.AbiNoEscape.same:=by
    unfold Extern.find
    dsimp only
    rw[h1]
    have e1:Extern.allGenericRows.lookup "internal/abi.NoEscape"=none:=by rfl
    have e2:Extern.allTypedRows.lookup "internal/abi.NoEscape"=none:=by rfl
    have e3:Extern.allRows.lookup "internal/abi.NoEscape"=some Extern.AbiNoEscape.same:=by rfl
    rw[e1,e2,e3]
    rfl
   rw[run_callFunc_extern hfn (by rw[h1];rfl) (by rw[hb];rfl) hn hf]
   rfl
  ·cases h
 ·cases h
theorem eNe_sound {c:Call} (h:eNe P n0 e c s=some (r,s')) (ho:o.op= .call c) (hE:OpV n0 ρ e a o) (hp:Pre P n0 ρ s s' W):OpS P ρ s r s' (execOp a.eval o) W:=by
 unfold eNe at h
 split at h<;>try cases h
 next f x hf hx=>
 split at h<;>try cases h
 next hk=>
 rw[Bool.and_eq_true]at hk
 have hargs:c.args= #[x]:=by rw[←Array.toArray_toList (xs:=c.args),hx]
 have vf:=hE f (by rw[ho];simp [Op.operands,Call.operands,hf]) hk.1
 have vx:=hE x (by rw[ho];simp [Op.operands,Call.operands,hargs]) hk.2
 split at h<;>try cases h
 next g first cap hv=>
 split at h<;>try cases h
 next hb=>
 simp only[Bool.and_eq_true]at hb
 obtain⟨⟨b1,b2⟩,b3⟩:=hb
 have b1:first.size=0:=Nat.eq_of_beq_eq_true b1
 have b2:cap.size=0:=Nat.eq_of_beq_eq_true b2
 rw[hv]at vf
 generalize hw:a.eval f=u at vf
 cases vf with
 |func h0 h1 h2 h3 h4=>
  cases h0
  rename_i first' cap'
  have e1:first'= #[]:=Array.eq_empty_of_size_eq_zero (by rw[←h1,b1])
  have e2:cap'= #[]:=Array.eq_empty_of_size_eq_zero (by rw[←h3,b2])
  subst e1;subst e2
  refine⟨ρ,W,⟨a.eval x,?_,vx⟩,Post.refl hp.inj hp.wr⟩
  unfold execOp resolve
  rw[ho]
  simp only[hf,Sem.run_bind,hw,Deferred.ofValue]
  rw[hargs]
  show (callFunc g _).run P W=_
  have:((#[]++Array.map a.eval #[x])++#[]:Array Value)= #[a.eval x]:=by simp
  rw[this]
  exact isNE_run b3 _
theorem eNe_grow {c:Call} (h:eNe P n0 e c s=some (r,s')):Grow s s':=by
 unfold eNe at h
 split at h<;>try cases h
 split at h<;>try cases h
 split at h<;>try cases h
 split at h<;>cases h
 exact Grow.refl _
theorem run_eql_ptr_same {tp te:TypeId} {j:TypeInfo} (ad:Addr) (hp:P.underlying tp=some (.pointer te)) (hte:P.info? te=some j):
  (binOp .eql tp (.pointer (some ad)) (.pointer (some ad))).run P W= .ok (.bool true) W:=by
 have h:∀d:Nat,(Op.equalIn (d+1) tp (.pointer (some ad)) (.pointer (some ad))).run P W= .ok true W:=fun d=>by
  simp [Op.equalIn,run_und hp,sizeOf,typeInfo,hte,run_sameAddr_same]
 simp only[binOp]
 simp [Op.equal,Op.maxDepth,h 9999]
theorem ePq_sound {op:BinOp} {t yt:TypeId} {x y:Operand} (h:ePq P n0 e op t x y s=some (r,s')) (ho:o.op= .binOp op t x y yt) (hE:OpV n0 ρ e a o) (hp:Pre P n0 ρ s s' W):OpS P ρ s r s' (execOp a.eval o) W:=by
 unfold ePq at h
 split at h<;>try cases h
 next hk=>
 rw[Bool.and_eq_true]at hk
 have vx:=hE x (by rw[ho];simp [Op.operands]) hk.1;have vy:=hE y (by rw[ho];simp [Op.operands]) hk.2
 split at h<;>try cases h
 next b o1 hx=>
 split at h<;>try cases h
 next b2 o2 hy=>
 split at h<;>try cases h
 next c t0 fz hg=>
 split at h<;>try cases h
 next u hu=>
 split at h<;>try cases h
 next j hj=>
 split at h<;>try cases h
 next hb=>
 rw[Bool.and_eq_true]at hb
 have hb1:=Nat.eq_of_beq_eq_true hb.1;have hb2:=Nat.eq_of_beq_eq_true hb.2
 subst hb1;subst hb2
 rw[hx]at vx;rw[hy]at vy
 generalize hw1:a.eval x=u1 at vx
 generalize hw2:a.eval y=u2 at vy
 cases vx with
 |ptr hA=>
  rename_i ad
  cases vy with
  |ptr hB=>
   rename_i ad2
   have main:(s.rd|||bit b).testBit b=true→Pre P n0 ρ s {s with rd:=s.rd|||bit b} W→ad2=ad:=fun hm hp=>by
    obtain⟨hl,_⟩:=BR.live hp.wr hA.1 (.inl hm) hg
    obtain⟨hl2,_⟩:=BR.live hp.wr hB.1 (.inl hm) hg
    rw[hl]at hl2
    have hl2:ad.block=ad2.block:=Pl.live.inj hl2
    obtain⟨k2,k3⟩:=hA.eq hl;obtain⟨k5,k6⟩:=hB.eq hl
    obtain⟨p1,p2,p3⟩:=ad;obtain⟨q1,q2,q3⟩:=ad2
    simp_all
   split at h<;>try cases h
   all_goals
    simp only[sq_eq,Option.some.injEq,Prod.mk.injEq]at h
    obtain⟨rfl,rfl⟩:=h
    have he:=main (bit_self _ _) hp
    subst he
    refine⟨ρ,W,⟨_,?_,.bool _⟩,post_rd hp⟩
    unfold execOp
    rw[ho]
    simp only[Sem.run_bind,hw1,hw2]
    first
     |rw[show (eqGuard .eql t x y (.pointer (some ad2)) (.pointer (some ad2))).run P W= .ok () W from rfl]
      simp only[Result.andThen]
      rw[run_eql_ptr_same ad2 hu hj]
      rfl
     |rw[show (eqGuard .neq t x y (.pointer (some ad2)) (.pointer (some ad2))).run P W= .ok () W from rfl]
      simp only[Result.andThen]
      rw[Go.Lib.run_neq_ptr_same W ad2 hu hj]
      rfl
theorem ePq_grow {op:BinOp} {t:TypeId} {x y:Operand} (h:ePq P n0 e op t x y s=some (r,s')):Grow s s':=by
 unfold ePq at h
 split at h<;>try cases h
 split at h<;>try cases h
 split at h<;>try cases h
 split at h<;>try cases h
 split at h<;>try cases h
 split at h<;>try cases h
 split at h<;>try cases h
 split at h<;>try cases h
 all_goals
  simp only[sq_eq,Option.some.injEq,Prod.mk.injEq]at h
  rw[←h.2]
  exact grow_rd s _
theorem eSD_sound {c:Call} (h:eSD n0 e c.args s=some (r,s')) (ho:o.op= .call c) (hce:c.callee= .builtin .unsafeSliceData) (hE:OpV n0 ρ e a o) (hp:Pre P n0 ρ s s' W):OpS P ρ s r s' (execOp a.eval o) W:=by
 obtain⟨ce,args,at_⟩:=c
 simp only at h hce;subst hce
 unfold eSD at h
 split at h<;>try cases h
 next x hargs=>
 have hargs:args= #[x]:=by rw[←Array.toArray_toList (xs:=args),hargs]
 subst hargs
 split at h<;>try cases h
 next hx=>
 have V:=hE x (by rw[ho];simp [Op.operands,Call.operands]) hx
 have hexec:∀{v' W'},(Builtin.unsafeSliceData_ at_ o.type #[a.eval x]).run P W= .ok v' W'→(execOp a.eval o).run P W= .ok (.value v') W':=fun h=>by
  unfold execOp
  rw[ho]
  simp [resolve,invoke,builtin,h]
 split at h<;>try cases h
 ·next hv=>
  rw[hv]at V
  generalize a.eval x=u at *
  cases V
  exact⟨ρ,W,⟨_,hexec (Go.Lib.run_unsafeSliceData_nil W _ _ _ _),.ptr0⟩,Post.refl hp.inj hp.wr⟩
 ·next ad l c hv=>
  split at h<;>cases h
  next hb=>
  rw[Bool.and_eq_true]at hb
  have b1:=Nat.le_of_ble_eq_true hb.1;have b2:=Nat.le_of_ble_eq_true hb.2
  rw[hv]at V
  generalize a.eval x=u at *
  cases V with
  |sl hA hc=>
   exact⟨ρ,W,⟨_,hexec (Go.Lib.run_unsafeSliceData_row W _ _ _ _ _ (by rcases hc with h|h<;>omega)),.ptr hA⟩,Post.refl hp.inj hp.wr⟩
theorem eSD_grow {args:Array Operand} (h:eSD n0 e args s=some (r,s')):Grow s s':=by
 unfold eSD at h
 split at h<;>try cases h
 split at h<;>try cases h
 split at h<;>try cases h
 ·exact Grow.refl _
 ·split at h<;>cases h
  exact Grow.refl _
theorem bytesV_get:∀{c:List Value} {l:List UInt8},bytesV c=some l→l.length=c.length∧∀(j:Nat) (x:UInt8),l[j]? =some x→c[j]? =some (Value.int .u8 x.toNat)
 |[],l,h=>by
  cases h
  exact⟨rfl,fun j x h=>by simp at h⟩
 |v::r,l,h=>by
  unfold bytesV at h
  split at h<;>try cases h
  next n=>
  split at h<;>try cases h
  next hn=>
  split at h<;>cases h
  next l2 hl2=>
  obtain⟨h1,h2⟩:=bytesV_get hl2
  refine⟨by simp [h1],fun j x hj=>?_⟩
  cases j with
  |zero=>
   simp only [List.getElem?_cons_zero,Option.some.injEq]at hj⊢
   subst hj
   have:n<256:=Nat.le_of_ble_eq_true hn
   have e:(UInt8.ofNat n).toNat=n:=by simp;omega
   rw[e]
   rfl
  |succ j=>
   simp only [List.getElem?_cons_succ]at hj⊢
   exact h2 j x hj
theorem eUS_sound {c:Call} (h:eUS P n0 e c.argTypes c.args s=some (r,s')) (ho:o.op= .call c) (hce:c.callee= .builtin .unsafeString) (hE:OpV n0 ρ e a o) (hp:Pre P n0 ρ s s' W):OpS P ρ s r s' (execOp a.eval o) W:=by
 obtain⟨ce,args,at_⟩:=c
 simp only at h hce;subst hce
 unfold eUS at h
 split at h<;>try cases h
 next x y pt it hargs hat=>
 have hargs:args= #[x,y]:=by rw[←Array.toArray_toList (xs:=args),hargs]
 have hat:at_= #[pt,it]:=by rw[←Array.toArray_toList (xs:=at_),hat]
 subst hargs;subst hat
 split at h<;>try cases h
 next hk=>
 rw[Bool.and_eq_true]at hk
 have vx:=hE x (by rw[ho];simp [Op.operands,Call.operands]) hk.1
 have vy:=hE y (by rw[ho];simp [Op.operands,Call.operands]) hk.2
 have hexec:∀{v' W'},(Builtin.unsafeString_ #[pt,it] o.type #[a.eval x,a.eval y]).run P W= .ok v' W'→(execOp a.eval o).run P W= .ok (.value v') W':=fun h=>by
  unfold execOp
  rw[ho]
  simp [resolve,invoke,builtin,h]
 split at h<;>try cases h
 ·next hy=>
  split at h<;>cases h
  next p hx=>
  rw[hx]at vx;rw[hy]at vy
  generalize a.eval x=u1 at *
  generalize a.eval y=u2 at *
  cases vy
  cases vx with
  |ptr0=>exact⟨ρ,W,⟨_,hexec (Go.Lib.run_unsafeString_none W _ _ _ _),.string _⟩,Post.refl hp.inj hp.wr⟩
  |ptr=>exact⟨ρ,W,⟨_,hexec (Go.Lib.run_unsafeString_none W _ _ _ _),.string _⟩,Post.refl hp.inj hp.wr⟩
 ·next m hy=>
  split at h<;>try cases h
  next b hx=>
  split at h<;>try cases h
  next c t fz hg=>
  split at h<;>try cases h
  next u hu=>
  split at h<;>try cases h
  next hb=>
  simp only[Bool.and_eq_true]at hb
  obtain⟨⟨⟨b1,b2⟩,b3⟩,b4⟩:=hb
  have b1:t=u:=Nat.eq_of_beq_eq_true b1
  have b2:P.cellsOf t=1:=Nat.eq_of_beq_eq_true b2
  have b3:m+1≤c.size:=Nat.le_of_ble_eq_true b3
  have b4:m+1<1000000:=Nat.le_of_ble_eq_true b4
  subst b1
  split at h<;>try cases h
  next l hl=>
  simp only[sq_eq,Option.some.injEq,Prod.mk.injEq]at h
  obtain⟨rfl,rfl⟩:=h
  obtain⟨hl1,hl2⟩:=bytesV_get hl
  have hlen:l.length=m+1:=by rw[hl1,List.length_take,Array.length_toList];omega
  rw[hx]at vx;rw[hy]at vy
  generalize a.eval x=u1 at *
  generalize a.eval y=u2 at *
  cases vy
  cases vx with
  |ptr hA=>
   rename_i ad
   obtain⟨hlv,o',ho',hor,-⟩:=BR.live hp.wr hA.1 (.inr (bit_self _ _)) hg
   cases hor with
   |cells _ hz hcc=>
    rename_i c'
    have had:ad=⟨ad.block,0,none⟩:=by
     obtain⟨p1,p2,p3⟩:=ad
     have h1:=(hA.eq hlv).1;have h2:=(hA.eq hlv).2
     simp only at h1 h2;rw[h1,h2]
    have hrun:=Go.Lib.run_unsafeString_row (P:=P) W pt it o.type t hu b2 ad.block c'.size (by unfold World.shape?;rw[ho']) l (by intro h;rw[h]at hlen;cases hlen) (by omega) (by omega) (fun j x hj=>by
     have hj2:j<l.length:=(List.getElem?_eq_some_iff.1 hj).1
     have h3:=hl2 j x hj
     rw[List.getElem?_take,if_pos (by omega),Array.getElem?_toList]at h3
     have hjc:j<c'.size:=by omega
     have h4:=hcc j _ _ h3 (Array.getElem?_eq_getElem hjc)
     have e1:(⟨ad.block,0,none⟩:Addr).add j=⟨ad.block,j,none⟩:=by
      unfold Addr.add
      split
      ·rename_i h;rw[h]
      ·simp
     rw[e1,Go.Lib.cell_of_heap ho' j,Array.getElem?_eq_getElem hjc]
     generalize c'[j]=q at h4
     cases h4
     rfl)
    rw[←had]at hrun
    have hWh:∀y,y≠ad.block→(W.freeze ad l.length).heap[y]? =W.heap[y]?:=fun y hy=>by
     unfold World.freeze
     split
     ·rfl
     ·rw[Array.getElem?_modify,if_neg (Ne.symm hy)]
    have hWs:(W.freeze ad l.length).heap.size=W.heap.size:=by
     unfold World.freeze
     split
     ·rfl
     ·simp
    obtain⟨ρ',hpost⟩:=post_lose hlv hWs hWh (by unfold World.freeze;split<;>rfl) (by unfold World.freeze;split<;>rfl) (by unfold World.freeze;split<;>rfl) hp
    refine⟨ρ',_,⟨_,hexec ?_,.string _⟩,hpost⟩
    rw[hlen]at hrun
    rw[hlen]
    exact hrun
theorem eUS_grow {at_:Array TypeId} {args:Array Operand} (h:eUS P n0 e at_ args s=some (r,s')):Grow s s':=by
 unfold eUS at h
 split at h<;>try cases h
 split at h<;>try cases h
 split at h<;>try cases h
 ·split at h<;>cases h
  exact Grow.refl _
 ·split at h<;>try cases h
  split at h<;>try cases h
  split at h<;>try cases h
  split at h<;>try cases h
  split at h<;>try cases h
  simp only[sq_eq,Option.some.injEq,Prod.mk.injEq]at h
  rw[←h.2]
  exact grow_wr s _ _
end
end Go.Proofs.YtmnoaeffocnnmaaGreatDoor

namespace Go.Proofs.YtmnoaeffocnnmaaGreatDoor
section
variable {P:Program} {n0:Nat} {ρ:PM} {e:Tr Value} {a:Act} {s s':AS} {r:OO} {W:World} {o:Oper}
theorem eop_sound (h:eop P n0 e o s=some (r,s')) (hE:OpV n0 ρ e a o) (hp:Pre P n0 ρ s s' W):OpS P ρ s r s' (execOp a.eval o) W:=by
 unfold eop at h
 cases ho:o.op<;>rw[ho]at h<;>(try dsimp only at h)
 case move x=>
  have:execOp a.eval o=pure (.value (a.eval x)):=by unfold execOp;rw[ho]
  rw[this];exact eM_sound h (hE x (by rw[ho];simp [Op.operands])) hp
 case assign x=>
  have:execOp a.eval o=pure (.value (a.eval x)):=by unfold execOp;rw[ho]
  rw[this];exact eM_sound h (hE x (by rw[ho];simp [Op.operands])) hp
 case pick c x y=>
  have hx:∀b,execOp a.eval o=(do pure (.value (if (←asBool (a.eval c)) then a.eval x else a.eval y)))→a.eval c= .bool b→execOp a.eval o=pure (.value (if b then a.eval x else a.eval y)):=fun b h1 h2=>by
   rw[h1,h2];rfl
  have h0:execOp a.eval o=(do pure (.value (if (←asBool (a.eval c)) then a.eval x else a.eval y))):=by unfold execOp;rw[ho]
  split at h<;>try cases h
  ·rename_i hc
   split at h<;>try cases h
   next hk=>
   rw[Bool.and_eq_true]at hk
   have hv:=hE c (by rw[ho];simp [Op.operands]) hk.1
   rw[hc]at hv
   rw[hx true h0 (by generalize a.eval c=u at hv;cases hv;rfl)]
   exact eM_sound h (hE x (by rw[ho];simp [Op.operands])) hp
  ·rename_i hc
   split at h<;>try cases h
   next hk=>
   rw[Bool.and_eq_true]at hk
   have hv:=hE c (by rw[ho];simp [Op.operands]) hk.1
   rw[hc]at hv
   rw[hx false h0 (by generalize a.eval c=u at hv;cases hv;rfl)]
   exact eM_sound h (hE y (by rw[ho];simp [Op.operands])) hp
 case binOp op t x y yt=>
  split at h
  ·rename_i r1 h1;cases h;exact eF_sound (eB_eF h1 ho) (by rw[ho];intro _ _ h;cases h) hE hp
  ·split at h
   ·exact eF_sound h (by rw[ho];intro _ _ h;cases h) hE hp
   ·split at h
    ·rename_i r1 h1;cases h;exact eN_sound h1 ho hE hp
    ·exact ePq_sound h ho hE hp
 case unOp=>exact eF_sound h (by rw[ho];intro _ _ h;cases h) hE hp
 case convert=>
  split at h
  ·rename_i r1 h1;cases h;exact eF_sound h1 (by rw[ho];intro _ _ h;cases h) hE hp
  ·exact eCv_sound h ho hE hp
 case index t x i=>
  split at h
  ·rename_i r1 h1;cases h;exact eF_sound (eX1_eF h1 ho) (by rw[ho];intro _ _ h;cases h) hE hp
  ·split at h
   ·exact eF_sound h (by rw[ho];intro _ _ h;cases h) hE hp
   ·exact eS_sound h hE hp
 case slice t x lo hi mx=>
  cases mx with
  |none=>
   dsimp only at h
   split at h
   ·exact eF_sound h (by rw[ho];intro _ _ h;cases h) hE hp
   ·exact eSl_sound h ho hE hp
  |some=>dsimp only at h;exact eS_sound h hE hp
 case call c=>
  split at h
  ·rename_i hc
   split at h
   ·rename_i r1 h1;cases h;exact eA_sound h1 ho hc hE hp
   ·exact eZ_sound h ho hc hE hp
  ·rename_i hc
   split at h
   ·rename_i r1 h1;cases h;exact eS_sound (eN1_eS h1 ho hc) hE hp
   ·exact eS_sound h hE hp
  ·exact eS_sound h hE hp
  ·exact eS_sound h hE hp
  ·exact eF_sound h (by rw[ho];intro _ _ h;cases h) hE hp
  ·exact eF_sound h (by rw[ho];intro _ _ h;cases h) hE hp
  ·exact eF_sound h (by rw[ho];intro _ _ h;cases h) hE hp
  ·rename_i hc;exact eSD_sound h ho hc hE hp
  ·rename_i hc;exact eUS_sound h ho hc hE hp
  ·cases h
  ·split at h
   ·rename_i x hx
    cases h
    exact eC_sound hx ho hE hp
   ·split at h
    ·rename_i x hx
     cases h
     exact eNe_sound hx ho hE hp
    ·exact eF_sound h (by rw[ho];intro _ _ h;cases h) hE hp
 case load t x=>
  split at h
  ·rename_i r1 h1;cases h;exact eS_sound (eL1_eS h1 ho) hE hp
  ·split at h
   ·rename_i r1 h1;cases h;exact eS_sound (eLd_eS h1 ho) hE hp
   ·exact eS_sound h hE hp
 case store t x v=>
  split at h
  ·rename_i r1 h1;cases h;exact eS_sound (eT1_eS h1 ho) hE hp
  ·split at h
   ·rename_i r1 h1;cases h;exact eS_sound (eSt_eS h1 ho) hE hp
   ·exact eS_sound h hE hp
 case indexAddr t x i=>
  split at h
  ·rename_i r1 h1;cases h;exact eS_sound (eI1_eS h1 ho) hE hp
  ·exact eS_sound h hE hp
 case fieldAddr t x f=>
  split at h
  ·rename_i r1 h1;cases h;exact eS_sound (eF1_eS h1 ho) hE hp
  ·exact eS_sound h hE hp
 case extract x i=>
  split at h
  ·rename_i r1 h1;cases h;exact eS_sound (eE1_eS h1 ho) hE hp
  ·exact eS_sound h hE hp
 case build t ps=>
  split at h
  ·rename_i r1 h1;cases h;exact eS_sound (eBu_eS h1 ho) hE hp
  ·exact eS_sound h hE hp
 case alloc t=>
  split at h
  ·rename_i r1 h1;cases h;exact eS_sound (eW1_eS (n0:=n0) h1 ho) hE hp
  ·exact eS_sound h hE hp
 case defer c=>exact eDf_sound h ho hE hp
 case panic x=>
  split at h<;>try cases h
  next t v hx hk=>
  have hv:=hE x (by rw[ho];simp [Op.operands]) hk
  rw[hx]at hv
  generalize hw:a.eval x=u at hv
  refine⟨ρ,W,⟨u,?_,hv⟩,Post.refl hp.inj hp.wr⟩
  cases hv
  unfold execOp
  rw[ho]
  dsimp only
  rw[hw]
  rfl
 all_goals exact eS_sound h hE hp
theorem eM_grow {x:Operand} (h:eM n0 e x s=some (r,s')):Grow s s':=by
 unfold eM at h
 split at h<;>cases h
 exact Grow.refl _
theorem eF_grow (h:eF P e o s=some (r,s')):Grow s s':=by
 unfold eF at h
 split at h<;>try cases h
 split at h<;>try cases h
 split at h<;>try cases h
 split at h<;>cases h
 exact Grow.refl _
theorem eS_grow (h:eS P n0 e o s=some (r,s')):Grow s s':=by
 unfold eS at h
 split at h<;>try cases h
 split at h<;>try cases h
 split at h<;>try cases h
 next hr=>
 split at h<;>cases h
 exact arun_grow _ _ _ _ hr
theorem eN_grow {op:BinOp} {t:TypeId} {x y:Operand} (h:eN P n0 e op t x y s=some (r,s')):Grow s s':=by
 unfold eN at h
 split at h<;>try cases h
 split at h<;>try cases h
 split at h<;>cases h<;>exact Grow.refl _
theorem eSl_grow {t:TypeId} {x:Operand} {lo hi:Option Operand} (h:eSl P n0 e t x lo hi s=some (r,s')):Grow s s':=by
 unfold eSl at h
 split at h<;>try cases h
 split at h<;>try cases h
 split at h
 ·split at h<;>try cases h
  simp only[sq_eq,Option.some.injEq,Prod.mk.injEq]at h
  obtain⟨rfl,rfl⟩:=h
  exact Grow.refl _
 ·split at h<;>try cases h
  simp only[sq_eq,Option.some.injEq,Prod.mk.injEq]at h
  obtain⟨rfl,rfl⟩:=h
  exact Grow.refl _
theorem eC_grow {c:Call} (h:eC P n0 e c s=some (r,s')):Grow s s':=by
 unfold eC at h
 split at h<;>try cases h
 split at h<;>try cases h
 split at h<;>try cases h
 ·split at h<;>cases h
  exact Grow.refl _
 ·exact Grow.refl _
theorem eDf_grow {c:Call} (h:eDf P n0 e c s=some (r,s')):Grow s s':=by
 unfold eDf at h
 split at h<;>try cases h
 split at h<;>try cases h
 split at h<;>try cases h
 split at h<;>cases h
 exact Grow.refl _
theorem or_l {m k b:Nat} (h:m.testBit b=true):(m|||k).testBit b=true:=by rw[Nat.testBit_or,h];rfl
theorem eA_grow {at_:Array TypeId} {args:Array Operand} (h:eA P n0 e at_ args s=some (r,s')):Grow s s':=by
 unfold eA at h
 split at h<;>try cases h
 split at h<;>try cases h
 split at h<;>try cases h
 split at h
 ·split at h<;>cases h
  exact Grow.refl _
 ·split at h<;>try cases h
  split at h<;>try cases h
  split at h
  ·split at h<;>try cases h
   split at h<;>try cases h
   split at h<;>try cases h
   simp only[sq_eq,Option.some.injEq,Prod.mk.injEq]at h
   obtain⟨rfl,rfl⟩:=h
   refine⟨Nat.le_succ _,fun b h=>or_l h,fun b h=>or_l h,fun b h1 h2=>?_⟩
   have h1:(s.wr|||bit _).testBit b=false:=h1
   have h2:b<s.next∨s.next+1≤b:=h2
   rw[bit_or]at h1
   simp only[Bool.or_eq_false_iff,decide_eq_false_iff_not]at h1
   simp only[Tr.get_set]
   rw[if_neg h1.2,if_neg (by omega)]
  ·split at h
   ·split at h<;>try cases h
    split at h<;>try cases h
    split at h<;>try cases h
    simp only[sq_eq,Option.some.injEq,Prod.mk.injEq]at h
    obtain⟨rfl,rfl⟩:=h
    refine⟨Nat.le_refl _,fun b h=>or_l h,fun b h=>or_l h,fun b h1 h2=>?_⟩
    have h1:(s.wr|||bit _).testBit b=false:=h1
    rw[bit_or]at h1
    simp only[Bool.or_eq_false_iff,decide_eq_false_iff_not]at h1
    simp only[Tr.get_set]
    rw[if_neg h1.2]
   ·simp only[sq_eq,Option.some.injEq,Prod.mk.injEq]at h
    obtain⟨rfl,rfl⟩:=h
    refine⟨Nat.le_succ _,fun b h=>or_l h,fun b h=>h,fun b h1 h2=>?_⟩
    have h2:b<s.next∨s.next+1≤b:=h2
    simp only[Tr.get_set]
    rw[if_neg (by omega)]
theorem eop_grow (h:eop P n0 e o s=some (r,s')):Grow s s':=by
 unfold eop at h
 cases ho:o.op<;>rw[ho]at h<;>(try dsimp only at h)
 case move x=>exact eM_grow h
 case assign x=>exact eM_grow h
 case pick c x y=>
  split at h<;>try cases h
  ·split at h<;>try cases h
   exact eM_grow h
  ·split at h<;>try cases h
   exact eM_grow h
 case binOp op t x y yt=>
  split at h
  ·rename_i r1 h1;cases h;exact eF_grow (P:=P) (eB_eF h1 ho)
  ·split at h
   ·exact eF_grow h
   ·split at h
    ·rename_i r1 h1;cases h;exact eN_grow h1
    ·exact ePq_grow h
 case unOp=>exact eF_grow h
 case convert=>
  split at h
  ·rename_i r1 h1;cases h;exact eF_grow (P:=P) (o:=o) h1
  ·exact eCv_grow h
 case index t x i=>
  split at h
  ·rename_i r1 h1;cases h;exact eF_grow (eX1_eF h1 ho)
  ·split at h
   ·exact eF_grow h
   ·exact eS_grow h
 case slice t x lo hi mx=>
  cases mx with
  |none=>
   dsimp only at h
   split at h
   ·exact eF_grow h
   ·exact eSl_grow h
  |some=>dsimp only at h;exact eS_grow h
 case call c=>
  split at h
  ·split at h
   ·rename_i r1 h1;cases h;exact eA_grow h1
   ·exact eZ_grow h
  ·rename_i hc
   split at h
   ·rename_i r1 h1;cases h;exact eS_grow (eN1_eS h1 ho hc)
   ·exact eS_grow h
  ·exact eS_grow h
  ·exact eS_grow h
  ·exact eF_grow h
  ·exact eF_grow h
  ·exact eF_grow h
  ·exact eSD_grow h
  ·exact eUS_grow h
  ·cases h
  ·split at h
   ·rename_i x hx
    cases h
    exact eC_grow hx
   ·split at h
    ·rename_i x hx
     cases h
     exact eNe_grow hx
    ·exact eF_grow h
 case load t x=>
  split at h
  ·rename_i r1 h1;cases h;exact eS_grow (eL1_eS h1 ho)
  ·split at h
   ·rename_i r1 h1;cases h;exact eS_grow (eLd_eS h1 ho)
   ·exact eS_grow h
 case store t x v=>
  split at h
  ·rename_i r1 h1;cases h;exact eS_grow (eT1_eS h1 ho)
  ·split at h
   ·rename_i r1 h1;cases h;exact eS_grow (eSt_eS h1 ho)
   ·exact eS_grow h
 case indexAddr t x i=>
  split at h
  ·rename_i r1 h1;cases h;exact eS_grow (eI1_eS h1 ho)
  ·exact eS_grow h
 case fieldAddr t x f=>
  split at h
  ·rename_i r1 h1;cases h;exact eS_grow (eF1_eS h1 ho)
  ·exact eS_grow h
 case extract x i=>
  split at h
  ·rename_i r1 h1;cases h;exact eS_grow (P:=P) (eE1_eS h1 ho)
  ·exact eS_grow h
 case build t ps=>
  split at h
  ·rename_i r1 h1;cases h;exact eS_grow (eBu_eS h1 ho)
  ·exact eS_grow h
 case alloc t=>
  split at h
  ·rename_i r1 h1;cases h;exact eS_grow (n0:=n0) (e:=e) (eW1_eS h1 ho)
  ·exact eS_grow h
 case defer c=>exact eDf_grow h
 case panic x=>
  split at h<;>cases h
  exact Grow.refl _
 all_goals exact eS_grow h
end
end Go.Proofs.YtmnoaeffocnnmaaGreatDoor
