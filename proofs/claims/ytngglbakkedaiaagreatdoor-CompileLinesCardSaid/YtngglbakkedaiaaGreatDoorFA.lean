import Derived.Test.YtngglbakkedaiaaGreatDoorEI
set_option linter.all false
namespace Go.Proofs.YtngglbakkedaiaaGreatDoor
noncomputable section
section
variable {P:Program} {n0:Nat} {e:Tr Value} {s s':AS} {r:OO} {o:Oper}
theorem arun_bind {α β:Type} (t:Sem α) (f:α→Sem β):∀(s:AS),arun P (t.bind f) s=(match arun P t s with
 |some (.ok a,s')=>arun P (f a) s'
 |some (.panic v,s')=>some (.panic v,s')
 |none=>none):=by
 induction t with
 |pure a=>intro s;rfl
 |load m a k ih=>
  intro s
  simp only[Sem.bind,arun]
  split<;>try rfl
  split<;>try rfl
  split<;>try rfl
  rw[sq_eq,sq_eq];exact ih _ _
 |store m a v k ih=>
  intro s
  simp only[Sem.bind]
  cases v<;>first|rfl|(simp only[arun];split<;>try rfl
                       split<;>try rfl
                       split<;>try rfl
                       rw[sq_eq,sq_eq];exact ih _)
 |new o k ih=>intro s;simp only[Sem.bind,arun,sq_eq];exact ih _ _
 |shape=>intro s;rfl
 |freeze=>intro s;rfl
 |sys=>intro s;rfl
 |frozen a k ih=>
  intro s
  simp only[Sem.bind,arun]
  split<;>try rfl
  rw[sq_eq,sq_eq];exact ih _ _
 |getObj r k ih=>
  intro s
  simp only[Sem.bind,arun]
  split<;>try rfl
  rw[sq_eq,sq_eq];exact ih _ _
 |setObj r o k ih=>
  intro s
  simp only[Sem.bind,arun]
  split<;>try rfl
  split<;>try rfl
  rw[sq_eq,sq_eq];exact ih _
 |choose q k ih=>
  intro s
  simp only[Sem.bind,arun]
  split
  ·exact ih _ _
  ·rfl
 |program k ih=>intro s;exact ih _ _
 |mark m k ih=>intro s;exact ih _
 |halt x=>intro s;cases x<;>rfl
theorem arun_bnd {α β:Type} (t:Sem α) (f:α→Sem β) {s s':AS} {a:α} (h:arun P t s=some (.ok a,s')):arun P (t>>=f) s=arun P (f a) s':=by
 show arun P (t.bind f) s=_
 rw[arun_bind,h]
theorem lor_lor (m b:Nat):m|||b|||b=m|||b:=Nat.eq_of_testBit_eq fun i=>by rw[Nat.testBit_or,Nat.testBit_or];cases m.testBit i<;>cases b.testBit i<;>rfl
theorem arun_loadCells {a:Addr} (hs:a.spot=none) {c:Array Value} {t:TypeId} {fz:Nat×Nat}:∀(n i:Nat) (acc:Array Value) (s:AS),s.heap.get a.block=some (.cells c t fz)→a.off+i+n≤c.size→
  arun P (loadCellsFrom a i n acc) s=some (.ok ⟨acc.toList++(c.toList.drop (a.off+i)).take n⟩,{s with rd:=if n=0 then s.rd else s.rd|||bit a.block})
 |0,i,acc,s,_,_=>by simp [loadCellsFrom,arun,Pure.pure]
 |n+1,i,acc,s,hg,hl=>by
  have hb:(a.add i).block=a.block:=by unfold Addr.add;split<;>rfl
  have hof:(a.add i).off=a.off+i:=by unfold Addr.add;split<;>simp_all
  have hsp:(a.add i).spot=none:=by unfold Addr.add;split<;>simp_all
  have hv:c[a.off+i]? =some (c[a.off+i]'(by omega)):=Array.getElem?_eq_getElem _
  show arun P (.load _ (a.add i) fun v=>loadCellsFrom a (i+1) n (acc.push v)) s=_
  simp only[arun,hb,hg,hsp,hof,hv,sq_eq]
  have ih:=arun_loadCells hs n (i+1) (acc.push (c[a.off+i]'(by omega))) {s with rd:=s.rd|||bit a.block} hg (by omega)
  rw[ih]
  have hd:c.toList.drop (a.off+i)=c[a.off+i]'(by omega)::c.toList.drop (a.off+(i+1)):=by
   rw[List.drop_eq_getElem_cons (by simp;omega)]
   rfl
  rw[hd,List.take_succ_cons]
  congr 2
  ·simp
  ·congr 1
   split
   ·simp
   ·simp [lor_lor]
def updL (c:Array Value):Nat→List Value→Array Value
 |_,[]=>c
 |k,v::l=>updL (c.setIfInBounds k v) (k+1) l
theorem updL_eq:∀(l:List Value) (c:Array Value) (k:Nat),k+l.length≤c.size→updL c k l=⟨c.toList.take k++l++c.toList.drop (k+l.length)⟩
 |[],c,k,h=>by simp [updL]
 |v::l,c,k,h=>by
  simp only[List.length_cons]at h
  unfold updL
  rw[updL_eq l _ (k+1) (by simp;omega)]
  have hk:k<c.toList.length:=by simp;omega
  have hlt:(c.toList.take k).length=k:=by rw[List.length_take];omega
  rw[Array.toList_setIfInBounds,List.set_eq_take_append_cons_drop,if_pos hk]
  have e1:(c.toList.take k++v::c.toList.drop (k+1)).take (k+1)=c.toList.take k++[v]:=by
   rw[List.take_append,hlt,List.take_of_length_le (by omega),show k+1-k=1 from by omega]
   rfl
  have e2:(c.toList.take k++v::c.toList.drop (k+1)).drop (k+1+l.length)=c.toList.drop (k+(l.length+1)):=by
   rw[List.drop_append,hlt,List.drop_eq_nil_of_le (by omega),List.nil_append,show k+1+l.length-k=l.length+1 from by omega,List.drop_succ_cons,List.drop_drop]
   congr 1;omega
  rw[e1,e2]
  simp
theorem arun_storeCells {a:Addr} (hs:a.spot=none) {t:TypeId}:∀(l:List Value) (i:Nat) (c:Array Value) (s:AS),l≠ []→s.heap.get a.block=some (.cells c t (0,0))→a.off+i+l.length≤c.size→l.all one1=true→
  arun P (storeCells a l i) s=some (.ok (),{s with heap:=s.heap.set a.block (some (.cells (updL c (a.off+i) l) t)),wr:=s.wr|||bit a.block})
 |[],_,_,_,h,_,_,_=>absurd rfl h
 |v::l,i,c,s,_,hg,hl,ho=>by
  simp only[List.length_cons]at hl
  rw[List.all_cons,Bool.and_eq_true]at ho
  have hb:(a.add i).block=a.block:=by unfold Addr.add;split<;>rfl
  have hof:(a.add i).off=a.off+i:=by unfold Addr.add;split<;>simp_all
  have hsp:(a.add i).spot=none:=by unfold Addr.add;split<;>simp_all
  have hv:c[a.off+i]? =some (c[a.off+i]'(by omega)):=Array.getElem?_eq_getElem _
  show arun P (.store _ (a.add i) v (storeCells a l (i+1))) s=_
  have hstep:arun P (.store .plain (a.add i) v (storeCells a l (i+1))) s=arun P (storeCells a l (i+1)) {s with heap:=s.heap.set a.block (some (.cells (c.setIfInBounds (a.off+i) v) t)),wr:=s.wr|||bit a.block}:=by
   cases v<;>first|cases ho.1;done|simp only[arun,hb,hg,hsp,hof,hv,sq_eq]
  rw[hstep]
  cases l with
  |nil=>rfl
  |cons w l=>
   rw[arun_storeCells hs (w::l) (i+1) _ _ (by simp) (by rw[Tr.get_set,if_pos rfl]) (by simp only[List.length_cons,Array.size_setIfInBounds]at hl⊢;omega) ho.2]
   simp only[Tr.set_set,lor_lor]
   rfl
theorem arun_und {t:TypeId} {d:TypeDesc} (h:P.underlying t=some d) (s:AS):arun P (underlying t) s=some (.ok d,s):=by
 unfold underlying
 rw[arun_bnd (P:=P) program _ (s':=s) (a:=P) rfl,h]
 rfl
theorem arun_info {t:TypeId} {i:TypeInfo} (h:P.info? t=some i) (s:AS):arun P (typeInfo t) s=some (.ok i,s):=by
 unfold typeInfo
 rw[arun_bnd (P:=P) program _ (s':=s) (a:=P) rfl,h]
 rfl
theorem arun_size {t:TypeId} {i:TypeInfo} (h:P.info? t=some i) (s:AS):arun P (sizeOf t) s=some (.ok i.size,s):=by
 unfold sizeOf
 rw[arun_bnd _ _ (arun_info h s)]
 rfl
theorem eLd_eS {t:TypeId} {x:Operand} (h:eLd P n0 e t x s=some (r,s')) (ho:o.op= .load t x):eS P n0 e o s=some (r,s'):=by
 unfold eLd at h
 split at h<;>try cases h
 next hx=>
 split at h<;>try cases h
 next a hv=>
 split at h<;>try cases h
 next c t' fz hg hs=>
 split at h<;>try cases h
 next n hn=>
 split at h<;>try cases h
 next hc=>
 rw[Bool.and_eq_true]at hc
 have h1:=Nat.le_of_ble_eq_true hc.1
 have h2:=Nat.le_of_ble_eq_true hc.2
 rw[sq_eq]at h
 cases h
 unfold eS
 rw[ho]
 have hx2:okXs n0 (Op.load t x).operands=true:=by simp [okXs,Op.operands,hx]
 rw[hx2]
 simp only[sok]
 have hagg:arun P (isAgg t) s=some (.ok true,s)∧arun P (sizeOf t) s=some (.ok n,s):=by
  unfold aggN at hn
  split at hn<;>try cases hn
  ·rename_i hu hi
   refine⟨?_,arun_size hi s⟩
   unfold isAgg
   rw[arun_bnd _ _ (arun_und hu s)]
   rfl
  ·rename_i hu hi
   refine⟨?_,arun_size hi s⟩
   unfold isAgg
   rw[arun_bnd _ _ (arun_und hu s)]
   rfl
 have hl:arun P (Instr.loadAt t (aev e x)) s=some (.ok (.agg ⟨(c.toList.drop a.off).take n⟩),{s with rd:=s.rd|||bit a.block}):=by
  unfold Instr.loadAt
  rw[hv,arun_bnd (Instr.sureAddr (.pointer (some a))) _ (s':=s) (a:=a) rfl]
  unfold loadVar
  rw[arun_bnd _ _ hagg.1]
  simp only[if_true]
  rw[arun_bnd _ _ hagg.2]
  unfold loadCells
  have:=arun_loadCells (P:=P) hs n 0 #[] s hg (by omega)
  rw[arun_bnd _ _ this]
  rw[if_neg (by omega)]
  simp
  rfl
 have:arun P (execOp (aev e) o) s=some (.ok (.value (.agg ⟨(c.toList.drop a.off).take n⟩)),{s with rd:=s.rd|||bit a.block}):=by
  unfold execOp
  rw[ho]
  dsimp only
  rw[arun_bnd _ _ hl]
  rfl
 rw[this]
 rfl
theorem eSt_eS {t:TypeId} {x v:Operand} (h:eSt P n0 e t x v s=some (r,s')) (ho:o.op= .store t x v):eS P n0 e o s=some (r,s'):=by
 unfold eSt at h
 split at h<;>try cases h
 next hx=>
 rw[Bool.and_eq_true]at hx
 split at h<;>try cases h
 next a cs hv hw=>
 split at h<;>try cases h
 next c t' i hg hs hi=>
 split at h<;>try cases h
 next hc=>
 simp only[Bool.and_eq_true]at hc
 obtain⟨⟨⟨h1,h2⟩,h3⟩,h4⟩:=hc
 have h1:=Nat.eq_of_beq_eq_true h1
 have h2:=Nat.le_of_ble_eq_true h2
 have h3:=Nat.le_of_ble_eq_true h3
 rw[sq_eq]at h
 cases h
 unfold eS
 rw[ho]
 have hx2:okXs n0 (Op.store t x v).operands=true:=by simp [okXs,Op.operands,hx.1,hx.2]
 rw[hx2]
 simp only[sok]
 have hl:arun P (Instr.storeAt t (aev e x) (aev e v)) s=some (.ok (),{s with heap:=s.heap.set a.block (some (.cells ⟨c.toList.take a.off++cs.toList++c.toList.drop (a.off+i.size)⟩ t')),wr:=s.wr|||bit a.block}):=by
  unfold Instr.storeAt
  rw[hv,hw,arun_bnd (Instr.sureAddr (.pointer (some a))) _ (s':=s) (a:=a) rfl]
  unfold storeVar
  rw[arun_bnd _ _ (arun_size hi s)]
  simp only[Value.cells,h1,ne_eq,not_true,if_false]
  have hlen:cs.toList.length=i.size:=by rw[Array.length_toList,h1]
  rw[arun_storeCells (P:=P) hs cs.toList 0 c s (by intro e;rw[e]at hlen;simp at hlen;omega) hg (by rw[hlen];omega) h4]
  rw[updL_eq _ _ _ (by rw[hlen];omega),hlen]
  rfl
 have:arun P (execOp (aev e) o) s=some (.ok .skip,{s with heap:=s.heap.set a.block (some (.cells ⟨c.toList.take a.off++cs.toList++c.toList.drop (a.off+i.size)⟩ t')),wr:=s.wr|||bit a.block}):=by
  unfold execOp
  rw[ho]
  dsimp only
  rw[arun_bnd _ _ hl]
  rfl
 rw[this]
 rfl
theorem eS_val (hs:sok P e o.op=true) (hx:okXs n0 o.op.operands=true) {v:Value} (h:arun P (execOp (aev e) o) s=some (.ok (.value v),s')):eS P n0 e o s=some (.value v,s'):=by
 unfold eS
 rw[hs,hx]
 dsimp only
 rw[h]
 rfl
theorem eS_skip (hs:sok P e o.op=true) (hx:okXs n0 o.op.operands=true) (h:arun P (execOp (aev e) o) s=some (.ok .skip,s')):eS P n0 e o s=some (.skip,s'):=by
 unfold eS
 rw[hs,hx]
 dsimp only
 rw[h]
 rfl
theorem ikn_inj {k k':IntKind} (h:Nat.beq (ikn k) (ikn k')=true):k=k':=by
 cases k<;>cases k'<;>first|rfl|cases h
theorem cmp_run {op:BinOp} {a b:Nat} {c:Bool} (h:cmpB op a b=some c) (k:IntKind) (t:TypeId):Go.binOp op t (.int k (.ofNat a)) (.int k (.ofNat b))=pure (.bool c):=by
 have hlt:∀m n:Nat,decide ((Int.ofNat m)<(Int.ofNat n))=Nat.blt m n:=fun m n=>by
  cases e:Nat.blt m n with
  |true=>exact decide_eq_true (Int.ofNat_lt.2 (Nat.le_of_ble_eq_true e))
  |false=>
   refine decide_eq_false fun h=>?_
   have:=Nat.ble_eq_true_of_le (Nat.succ_le_of_lt (Int.ofNat_lt.1 h))
   unfold Nat.blt at e
   rw[show n=n from rfl]at e
   rw[e]at this;cases this
 have hle:∀m n:Nat,decide ((Int.ofNat m)≤(Int.ofNat n))=Nat.ble m n:=fun m n=>by
  cases e:Nat.ble m n with
  |true=>exact decide_eq_true (Int.ofNat_le.2 (Nat.le_of_ble_eq_true e))
  |false=>
   refine decide_eq_false fun h=>?_
   have:=Nat.ble_eq_true_of_le (Int.ofNat_le.1 h)
   rw[e]at this;cases this
 have heq:((Int.ofNat a)==(Int.ofNat b))=Nat.beq a b:=by
  cases e:Nat.beq a b with
  |true=>rw[Nat.eq_of_beq_eq_true e];exact beq_self_eq_true _
  |false=>
   rw[beq_eq_false_iff_ne]
   intro h
   have:=Int.ofNat.inj h
   subst this
   rw[Nat.beq_refl]at e;cases e
 have hk: ¬k≠k:=fun h=>h rfl
 cases op<;>cases h
 ·show (if k≠k then _ else Op.intCmp .eql (.ofNat a) (.ofNat b))=_
  rw[if_neg hk];unfold Op.intCmp;dsimp only;rw[heq]
 ·show (if k≠k then _ else Op.intCmp .neq (.ofNat a) (.ofNat b))=_
  rw[if_neg hk];unfold Op.intCmp;dsimp only;rw[bne,heq]
 ·show (if k≠k then _ else Op.intCmp .lss (.ofNat a) (.ofNat b))=_
  rw[if_neg hk];unfold Op.intCmp;dsimp only;rw[hlt]
 ·show (if k≠k then _ else Op.intCmp .leq (.ofNat a) (.ofNat b))=_
  rw[if_neg hk];unfold Op.intCmp;dsimp only;rw[hle]
 ·show (if k≠k then _ else Op.intCmp .gtr (.ofNat a) (.ofNat b))=_
  rw[if_neg hk];unfold Op.intCmp;dsimp only
  rw[show decide ((Int.ofNat a)>(Int.ofNat b))=decide ((Int.ofNat b)<(Int.ofNat a)) from rfl,hlt]
 ·show (if k≠k then _ else Op.intCmp .geq (.ofNat a) (.ofNat b))=_
  rw[if_neg hk];unfold Op.intCmp;dsimp only
  rw[show decide ((Int.ofNat a)≥(Int.ofNat b))=decide ((Int.ofNat b)≤(Int.ofNat a)) from rfl,hle]
theorem wrap64 {m:Nat} (h:m<9223372036854775808):IntKind.i64.wrap (Int.ofNat m)=Int.ofNat m:=by
 have h1:(Int.ofNat m)<9223372036854775808:=Int.ofNat_lt.2 h
 have h0:0≤Int.ofNat m:=Int.natCast_nonneg m
 unfold IntKind.wrap IntKind.bits IntKind.signed
 dsimp only
 have:(Int.ofNat m)%(2^64:Int)=Int.ofNat m:=Int.emod_eq_of_lt h0 (by omega)
 rw[this]
 split
 ·rename_i hc
  simp only[Bool.true_and,decide_eq_true_eq]at hc
  omega
 ·rfl
theorem eB_eF {op:BinOp} {t yt:TypeId} {x y:Operand} (h:eBs op (aev e x) (aev e y) s=some (r,s')) (ho:o.op= .binOp op t x y yt):eF P e o s=some (r,s'):=by
 unfold eBs at h
 split at h<;>try cases h
 next k a hx=>
 split at h<;>try cases h
 next k' b hy=>
 split at h<;>try cases h
 next hk=>
 have hk:=ikn_inj hk
 subst hk
 have key:∀{v:Value},flat v=true→Go.binOp op t (.int k (.ofNat a)) (.int k (.ofNat b))=pure v→eF P e o s=some (.value v,s):=fun {v} hf hb=>by
  have hall:o.op.operands.toList.all (fun x=>flat (aev e x))=true:=by
   rw[ho]
   simp [Op.operands,hx,hy,flat,flatF]
  have hrun:prun P (execOp (aev e) o)=some (.ok (.value v)):=by
   have:execOp (aev e) o=(do let v←Go.binOp op t (.int k (.ofNat a)) (.int k (.ofNat b));pure (.value v)):=by
    unfold execOp
    rw[ho]
    dsimp only
    rw[hx,hy]
    cases op<;>rfl
   rw[this,hb]
   rfl
  unfold eF
  rw[hall]
  dsimp only
  rw[hrun]
  simp [toOO,isFlatV,hf]
 split at h
 ·next c hc=>
  cases h
  exact key rfl (cmp_run hc k t)
 ·split at h<;>try cases h
  next hk3=>
  have hk3:k= .i64:=ikn_inj (k':=.i64) hk3
  subst hk3
  have hkk: ¬IntKind.i64≠IntKind.i64:=fun h=>h rfl
  unfold addB at h
  split at h
  ·split at h<;>try cases h
   next hlt=>
   rw[sq_eq]at h
   cases h
   refine key rfl ?_
   show (if IntKind.i64≠IntKind.i64 then (stuck "BinOp: operands of different kinds":Sem Value) else Op.intArith .add .i64 (.ofNat a) (.ofNat b))=_
   rw[if_neg hkk]
   unfold Op.intArith
   dsimp only
   rw[show Int.ofNat a+Int.ofNat b=Int.ofNat (a+b) from rfl,wrap64 (Nat.le_of_ble_eq_true hlt)]
  ·split at h<;>try cases h
   next hlt=>
   rw[sq_eq]at h
   cases h
   rw[Bool.and_eq_true]at hlt
   have h1:=Nat.le_of_ble_eq_true hlt.1
   have h2:a<9223372036854775808:=Nat.le_of_ble_eq_true hlt.2
   refine key rfl ?_
   show (if IntKind.i64≠IntKind.i64 then (stuck "BinOp: operands of different kinds":Sem Value) else Op.intArith .sub .i64 (.ofNat a) (.ofNat b))=_
   rw[if_neg hkk]
   unfold Op.intArith
   dsimp only
   rw[show Int.ofNat a-Int.ofNat b=Int.ofNat (a-b) from (Int.ofNat_sub h1).symm,wrap64 (by omega)]
  ·cases h
theorem drop_get {α:Type} {l:List α} {n:Nat} {v:α} {r:List α} (h:l.drop n=v::r):l[n]? =some v:=by
 have:(l.drop n)[0]? =some v:=by rw[h];rfl
 rw[List.getElem?_drop]at this
 simpa using this
theorem eL1_eS {t:TypeId} {x:Operand} (h:eL1 P n0 e t x s=some (r,s')) (ho:o.op= .load t x):eS P n0 e o s=some (r,s'):=by
 unfold eL1 at h
 split at h<;>try cases h
 next hx=>
 split at h<;>try cases h
 next b of hv=>
 split at h<;>try cases h
 next c t' fz hg=>
 split at h<;>try cases h
 next hn=>
 split at h<;>try cases h
 next v rest hc=>
 have hc:c[of]? =some v:=by rw[←Array.getElem?_toList];exact drop_get hc
 rw[sq_eq]at h
 cases h
 refine eS_val (by rw[ho];rfl) (by rw[ho];simp [okXs,Op.operands,hx]) ?_
 have hagg:arun P (isAgg t) s=some (.ok false,s):=by
  unfold isS at hn
  split at hn<;>try cases hn
  rename_i hn
  unfold aggN at hn
  split at hn<;>try cases hn
  next d i h1 h2 hu hi=>
  unfold isAgg
  rw[arun_bnd _ _ (arun_und hu s)]
  split
  ·exact absurd rfl (h1 _)
  ·exact absurd rfl (h2 _ _)
  ·rfl
 unfold execOp
 rw[ho]
 dsimp only
 have hl:arun P (Instr.loadAt t (aev e x)) s=some (.ok v,{s with rd:=s.rd|||bit b}):=by
  unfold Instr.loadAt
  rw[hv,arun_bnd (Instr.sureAddr (.pointer (some ⟨b,of,none⟩))) _ (s':=s) (a:=⟨b,of,none⟩) rfl]
  unfold loadVar
  rw[arun_bnd _ _ hagg]
  simp only[Bool.false_eq_true,if_false]
  show arun P (.load _ ⟨b,of,none⟩ fun v=>.pure v) s=_
  simp only[arun,hg,hc,sq_eq]
 rw[arun_bnd _ _ hl]
 rfl
theorem eT1_eS {t:TypeId} {x v:Operand} (h:eT1 P n0 e t x v s=some (r,s')) (ho:o.op= .store t x v):eS P n0 e o s=some (r,s'):=by
 unfold eT1 at h
 split at h<;>try cases h
 next hx=>
 rw[Bool.and_eq_true]at hx
 split at h<;>try cases h
 next b of hv=>
 split at h<;>try cases h
 next c t' hg=>
 split at h<;>try cases h
 next hc=>
 rw[Bool.and_eq_true]at hc
 split at h<;>try cases h
 next hlt=>
 have hlt:of<c.size:=Nat.le_of_ble_eq_true hlt
 rw[sq_eq]at h
 cases h
 refine eS_skip (by rw[ho];rfl) (by rw[ho];simp [okXs,Op.operands,hx.1,hx.2]) ?_
 have hi:∃i,P.info? t=some i∧i.size=1:=by
  have h1:=hc.1
  unfold isS1 at h1
  split at h1
  ·rename_i i hi;exact⟨i,hi,Nat.eq_of_beq_eq_true h1⟩
  ·cases h1
 obtain⟨i,hi,h1⟩:=hi
 have hcells:(aev e v).cells=#[aev e v]:=by
  have h2:=hc.2
  generalize aev e v=u at h2
  cases u<;>first|rfl|cases h2
 unfold execOp
 rw[ho]
 dsimp only
 have hl:arun P (Instr.storeAt t (aev e x) (aev e v)) s=some (.ok (),{s with heap:=s.heap.set b (some (.cells ⟨c.toList.take of++aev e v::c.toList.drop (of+1)⟩ t')),wr:=s.wr|||bit b}):=by
  unfold Instr.storeAt
  rw[hv,arun_bnd (Instr.sureAddr (.pointer (some ⟨b,of,none⟩))) _ (s':=s) (a:=⟨b,of,none⟩) rfl]
  unfold storeVar
  rw[arun_bnd _ _ (arun_size hi s),hcells,h1]
  simp only[List.size_toArray,List.length_cons,List.length_nil,Nat.zero_add,ne_eq,not_true,if_false]
  rw[arun_storeCells (P:=P) (a:=⟨b,of,none⟩) rfl [aev e v] 0 c s (by simp) hg (by simp;omega) (by simp [hc.2])]
  rw[updL_eq _ _ _ (by simp;omega)]
  simp
 rw[arun_bnd _ _ hl]
 rfl
theorem eI1_eS {t:TypeId} {x i:Operand} (h:eI1 P n0 e t x i s=some (r,s')) (ho:o.op= .indexAddr t x i):eS P n0 e o s=some (r,s'):=by
 unfold eI1 at h
 split at h<;>try cases h
 next hx=>
 rw[Bool.and_eq_true]at hx
 split at h<;>try cases h
 next b of l cc hv=>
 split at h<;>try cases h
 next k n hw=>
 split at h<;>try cases h
 next u hu=>
 split at h<;>try cases h
 next j hj=>
 split at h<;>try cases h
 next hlt=>
 have hlt:n<l:=Nat.le_of_ble_eq_true hlt
 rw[sq_eq]at h
 cases h
 refine eS_val (by rw[ho];rfl) (by rw[ho];simp [okXs,Op.operands,hx.1,hx.2]) ?_
 have hu:P.underlying t=some (.slice u):=by
  unfold sliceE at hu
  split at hu
  ·cases hu;assumption
  ·cases hu
 unfold execOp
 rw[ho]
 dsimp only
 have hl:arun P (Instr.indexAt t (aev e x) (aev e i)) s=some (.ok (.pointer (some ⟨b,of+n*j.size,none⟩)),s):=by
  unfold Instr.indexAt
  rw[hv,hw,arun_bnd (asIntOf (.int k (.ofNat n))) _ (s':=s) (a:=(k,.ofNat n)) rfl]
  dsimp only
  rw[arun_bnd _ _ (arun_und hu s)]
  dsimp only
  rw[arun_bnd (pure ((some ⟨b,of,none⟩:Option Addr),(l,u)):Sem (Option Addr×Nat×TypeId)) _ (s':=s) (a:=((some ⟨b,of,none⟩:Option Addr),(l,u))) rfl]
  dsimp only
  rw[arun_bnd _ _ (arun_und hu s)]
  dsimp only
  rw[if_pos ⟨Int.natCast_nonneg n,Int.ofNat_lt.2 hlt⟩,arun_bnd _ _ (arun_size hj s)]
  have:(Addr.add ⟨b,of,none⟩ ((Int.ofNat n).toNat*j.size))=⟨b,of+n*j.size,none⟩:=by
   unfold Addr.add
   split
   ·rename_i h0
    have:n*j.size=0:=h0
    rw[this]
    rfl
   ·rfl
  rw[this]
  rfl
 rw[arun_bnd _ _ hl]
 rfl
theorem eF1_eS {t:TypeId} {x:Operand} {f:Nat} (h:eF1 P n0 e t x f s=some (r,s')) (ho:o.op= .fieldAddr t x f):eS P n0 e o s=some (r,s'):=by
 unfold eF1 at h
 split at h<;>try cases h
 next hx=>
 split at h<;>try cases h
 next b of hv=>
 split at h<;>try cases h
 next q hq=>
 rw[sq_eq]at h
 cases h
 unfold fldO at hq
 split at hq<;>try cases hq
 next fs hu=>
 split at hq<;>try cases hq
 next g hg=>
 split at hq<;>try cases hq
 next i hi=>
 split at hq<;>cases hq
 next hz=>
 have hz:¬i.size=0:=fun e=>by rw[e]at hz;cases hz
 refine eS_val (by rw[ho];rfl) (by rw[ho];simp [okXs,Op.operands,hx]) ?_
 unfold execOp
 rw[ho]
 dsimp only
 have hl:arun P (Instr.fieldAt t (aev e x) f) s=some (.ok (.pointer (some ⟨b,of+g.offset,none⟩)),s):=by
  unfold Instr.fieldAt
  rw[hv,arun_bnd _ _ (arun_und hu s)]
  dsimp only
  rw[hg]
  dsimp only
  rw[arun_bnd (Instr.sureAddr (.pointer (some ⟨b,of,none⟩))) _ (s':=s) (a:=⟨b,of,none⟩) rfl]
  have:arun P (fieldPlace ⟨b,of,none⟩ g) s=some (.ok ⟨b,of+g.offset,none⟩,s):=by
   unfold fieldPlace
   rw[arun_bnd _ _ (arun_size hi s),if_neg hz]
   have:(Addr.add ⟨b,of,none⟩ g.offset)=⟨b,of+g.offset,none⟩:=by
    unfold Addr.add
    split
    ·rename_i h0
     rw[h0]
     rfl
    ·rfl
   rw[this]
   rfl
  rw[arun_bnd _ _ this]
  rfl
 rw[arun_bnd _ _ hl]
 rfl
theorem eE1_eS {x:Operand} {i:Nat} (h:eE1 n0 e x i s=some (r,s')) (ho:o.op= .extract x i):eS P n0 e o s=some (r,s'):=by
 unfold eE1 at h
 split at h<;>try cases h
 next hx=>
 split at h<;>try cases h
 next l hv=>
 split at h<;>cases h
 next v rest hd=>
 refine eS_val (by rw[ho];rfl) (by rw[ho];simp [okXs,Op.operands,hx]) ?_
 unfold execOp
 rw[ho]
 dsimp only
 have:Instr.extract (aev e x) i=pure v:=by
  unfold Instr.extract
  rw[hv]
  dsimp only
  rw[show (⟨l⟩:Array Value)[i]? =some v from by rw[List.getElem?_toArray];exact drop_get hd]
 rw[this]
 rfl
theorem eN1_eS {c:Call} (h:eN1 P n0 e c.args c.argTypes s=some (r,s')) (ho:o.op= .call c) (hc:c.callee= .builtin .len):eS P n0 e o s=some (r,s'):=by
 obtain⟨ce,args,at_⟩:=c
 simp only at hc h
 subst hc
 unfold eN1 at h
 split at h<;>try cases h
 next x=>
 split at h<;>try cases h
 next u=>
 split at h<;>try cases h
 next hx=>
 rw[Bool.and_eq_true]at hx
 split at h<;>try cases h
 next n hn=>
 rw[sq_eq]at h
 cases h
 refine eS_val (by rw[ho];rfl) (by rw[ho];simp [okXs,Op.operands,Call.operands,hx.1]) ?_
 unfold execOp
 rw[ho]
 show arun P (invoke (.builtin .len #[u] o.type (#[x].map fun|.const _=>true|_=>false)) (#[x].map (aev e))) s=_
 have hl:arun P (Builtin.len_ #[u] o.type #[aev e x]) s=some (.ok (.int .i64 (.ofNat n)),s):=by
  have hx:=hx.2
  unfold isLen at hx
  unfold Builtin.len_
  simp only[List.getElem?_toArray,List.getElem?_cons_zero]
  split at hx<;>try cases hx
  ·rename_i hu
   rw[arun_bnd _ _ (arun_und hu s)]
   split at hx<;>cases hx
   rename_i b hv
   rw[hv]at hn⊢
   cases hn
   rfl
  ·rename_i w hu
   rw[arun_bnd _ _ (arun_und hu s)]
   split at hx<;>cases hx
   rename_i a n2 c2 hv
   rw[hv]at hn⊢
   cases hn
   rfl
 have:invoke (.builtin .len #[u] o.type (#[x].map fun|.const _=>true|_=>false)) (#[x].map (aev e))=(do pure (Next.value (←Builtin.len_ #[u] o.type #[aev e x]))):=by
  simp [invoke,builtin]
 rw[this,arun_bnd _ _ hl]
 rfl
theorem eW1_eS {t:TypeId} (h:eW1 P t s=some (r,s')) (ho:o.op= .alloc t):eS P n0 e o s=some (r,s'):=by
 unfold eW1 at h
 split at h<;>try cases h
 next z hz=>
 unfold zv at hz
 split at hz<;>try cases hz
 next i hi=>
 split at hz<;>try cases hz
 next z2 hz2=>
 split at hz<;>cases hz
 next hf=>
 refine eS_val (by rw[ho];show zOK P t=true;unfold zOK;rw[hi];dsimp only;rw[hz2];exact hf) (by rw[ho];simp [okXs,Op.operands]) ?_
 unfold execOp
 rw[ho]
 dsimp only
 have hl:arun P (Instr.alloc t true (.tuple #[])) s=some (.ok (.pointer (some ⟨s.next,0,none⟩)),{s with heap:=s.heap.set s.next (some (.cells z.cells t)),next:=s.next+1}):=by
  unfold Instr.alloc
  have hzz:arun P (zeroValue t) s=some (.ok z,s):=by
   unfold zeroValue
   rw[arun_bnd _ _ (arun_info hi s)]
   rw[hz2]
   rfl
  rw[arun_bnd _ _ hzz]
  dsimp only
  unfold newVar newRow
  show arun P (.new (.cells z.cells t) fun n=>_) s=_
  simp only[arun,sq_eq]
  rfl
 rw[arun_bnd _ _ hl]
 rfl
theorem prun_bnd {α β:Type} (t:Sem α) (f:α→Sem β) {a:α} (h:prun P t=some (.ok a)):prun P (t>>=f)=prun P (f a):=by
 show prun P (t.bind f)=_
 induction t with
 |pure b=>cases h;rfl
 |program k ih=>exact ih P h
 |mark m k ih=>exact ih h
 |halt x=>cases x<;>cases h
 |_=>cases h
theorem eX1_eF {t:TypeId} {x i:Operand} (h:eX1 P t (aev e x) (aev e i) s=some (r,s')) (ho:o.op= .index t x i):eF P e o s=some (r,s'):=by
 unfold eX1 at h
 split at h<;>try cases h
 next l hx=>
 split at h<;>try cases h
 next k n hi=>
 split at h<;>try cases h
 next hs=>
 split at h<;>try cases h
 next b rest hd=>
 rw[sq_eq]at h
 cases h
 have hu:P.underlying t=some .string:=by
  unfold isStr at hs
  split at hs
  ·assumption
  ·cases hs
 have hall:o.op.operands.toList.all (fun x=>flat (aev e x))=true:=by
  rw[ho]
  simp [Op.operands,hx,hi,flat,flatF]
 have hrun:prun P (execOp (aev e) o)=some (.ok (.value (.int .u8 (.ofNat b.toNat)))):=by
  unfold execOp
  rw[ho]
  dsimp only
  rw[hx,hi]
  have hg:(ByteArray.mk ⟨l⟩)[n]? =some b:=by
   have h2:=drop_get hd
   obtain⟨hn,h3⟩:=List.getElem?_eq_some_iff.1 h2
   rw[getElem?_pos (ByteArray.mk ⟨l⟩) n (show n<(ByteArray.mk ⟨l⟩).size from hn)]
   exact congrArg some h3
  have hix:prun P (Instr.index t (.string ⟨⟨l⟩⟩) (.int k (.ofNat n)))=some (.ok (.int .u8 (.ofNat b.toNat))):=by
   unfold Instr.index
   rw[prun_bnd (asIntOf (.int k (.ofNat n))) _ (a:=(k,.ofNat n)) rfl]
   dsimp only
   rw[prun_bnd (underlying t) _ (a:= .string) (by
    unfold underlying
    rw[prun_bnd program _ (a:=P) rfl,hu]
    rfl)]
   dsimp only
   rw[if_pos (show 0≤Int.ofNat n from Int.natCast_nonneg n)]
   rw[show (ByteArray.mk ⟨l⟩)[(Int.ofNat n).toNat]? =some b from hg]
   rfl
  rw[prun_bnd _ _ hix]
  rfl
 unfold eF
 rw[hall]
 dsimp only
 rw[hrun]
 simp [toOO,isFlatV,flat,flatF]
theorem foldZ (off:Nat):∀(l:List Value) (k:Nat) (c:Array Value),(l.zipIdx k).foldl (fun cs (x:Value×Nat)=>cs.setIfInBounds (off+x.2) x.1) c=updL c (off+k) l
 |[],_,_=>rfl
 |v::l,k,c=>by
  rw[List.zipIdx_cons,List.foldl_cons]
  unfold updL
  exact foldZ off l (k+1) _
theorem fillQ_fill (n:Nat) (pl:Nat→Option (Nat×Nat)):∀(ps:List (Nat×Value)) (z c:List Value),z.length=n→fillQ n pl z ps=some c→Instr.fill pl ⟨z⟩ ps=some ⟨c⟩
 |[],z,c,_,h=>by cases h;rfl
 |(i,v)::ps,z,c,hz,h=>by
  unfold fillQ at h
  unfold Instr.fill
  split at h<;>try cases h
  next off size hpl=>
  split at h<;>try cases h
  next hc=>
  rw[Bool.and_eq_true]at hc
  have h1:=Nat.eq_of_beq_eq_true hc.1
  have h2:=Nat.le_of_ble_eq_true hc.2
  rw[hpl]
  dsimp only
  rw[if_neg (by simp only[ne_eq,h1,not_true,decide_false,Bool.false_or,decide_eq_true_eq,List.size_toArray];omega)]
  have hf:v.cells.zipIdx.foldl (fun cs (x:Value×Nat)=>cs.setIfInBounds (off+x.2) x.1) (⟨z⟩:Array Value)=⟨z.take off++v.cells.toList++z.drop (off+size)⟩:=by
   rw[←Array.foldl_toList,Array.toList_zipIdx,foldZ,updL_eq _ _ _ (by rw[Nat.add_zero,Array.length_toList,h1];simp;omega),Nat.add_zero,Array.length_toList,h1]
  have hf2:v.cells.zipIdx.foldl (fun cs (x:Value×Nat)=>match x with|(c,j)=>cs.setIfInBounds (off+j) c) (⟨z⟩:Array Value)=⟨z.take off++v.cells.toList++z.drop (off+size)⟩:=hf
  rw[hf2]
  refine fillQ_fill n pl ps _ c ?_ h
  simp only[List.length_append,List.length_take,List.length_drop,Array.length_toList,h1]
  omega
theorem arun_mapL {α β:Type} {f:α→Sem β} {g:α→β} (s:AS):∀(l:List α),(∀x∈l,arun P (f x) s=some (.ok (g x),s))→arun P (l.mapM f) s=some (.ok (l.map g),s)
 |[],_=>by rw[List.mapM_nil];rfl
 |x::l,h=>by
  rw[List.mapM_cons,arun_bnd _ _ (h x (List.mem_cons_self ..)),arun_bnd _ _ (arun_mapL s l fun y hy=>h y (List.mem_cons_of_mem _ hy))]
  rfl
theorem arun_mapA {α β:Type} {f:α→Sem β} {g:α→β} (s:AS) (l:Array α) (h:∀x∈l.toList,arun P (f x) s=some (.ok (g x),s)):arun P (l.mapM f) s=some (.ok ⟨l.toList.map g⟩,s):=by
 rw[Array.mapM_eq_mapM_toList]
 show arun P (List.mapM f l.toList>>=fun x=>pure x.toArray) s=_
 rw[arun_bnd _ _ (arun_mapL s l.toList h)]
 rfl
theorem bldV_run {t:TypeId} {ps:Array (Nat×Value)} {v:Value} (h:bldV P t ps.toList=some v):arun P (Instr.build t ps) s=some (.ok v,s)∧zOK P t=true:=by
 unfold bldV at h
 split at h<;>try cases h
 next z hz=>
 have hz2:(∃i,P.info? t=some i∧i.zero=some z)∧flat z=true:=by
  unfold zv at hz
  split at hz<;>try cases hz
  next i hi=>
  split at hz<;>try cases hz
  next z2 hz2=>
  split at hz<;>cases hz
  next hf=>exact⟨⟨i,hi,hz2⟩,hf⟩
 obtain⟨⟨i,hi,hiz⟩,hf⟩:=hz2
 have hzz:arun P (zeroValue t) s=some (.ok z,s):=by
  unfold zeroValue
  rw[arun_bnd _ _ (arun_info hi s)]
  rw[hiz]
  rfl
 refine⟨?_,by unfold zOK;rw[hi];dsimp only;rw[hiz];exact hf⟩
 unfold Instr.build
 rw[arun_bnd _ _ hzz]
 split at h
 ·next l hl=>
  split at h<;>cases h
  next c hc=>
  unfold plcs at hl
  split at hl<;>try cases hl
  next fs hu=>
  split at hl<;>cases hl
  next hall=>
  rw[arun_bnd _ _ (arun_und hu s)]
  dsimp only
  have hm:arun P (fs.mapM fun f=>(do pure (f.offset,←sizeOf f.type):Sem (Nat×Nat))) s=some (.ok ⟨fs.toList.map fun f=>(f.offset,P.cellsOf f.type)⟩,s):=arun_mapA s fs fun f hfm=>by
   have:=List.all_eq_true.1 hall f hfm
   obtain⟨j,hj⟩:=Option.isSome_iff_exists.1 this
   rw[arun_bnd _ _ (arun_size hj s)]
   unfold Program.cellsOf
   rw[hj]
   rfl
  rw[arun_bnd _ _ hm]
  have:=fillQ_fill z.cells.size _ ps.toList z.cells.toList c (by simp) hc
  have hp:(fun i=>(⟨fs.toList.map fun f=>(f.offset,P.cellsOf f.type)⟩:Array (Nat×Nat))[i]?)=fun i=>(fs.toList.map fun f=>(f.offset,P.cellsOf f.type))[i]?:=funext fun i=>List.getElem?_toArray
  rw[hp,show (z.cells:Array Value)=⟨z.cells.toList⟩ from rfl,this]
  rfl
 ·split at h<;>try cases h
  next k hk=>
  split at h<;>cases h
  next c hc=>
  unfold elsz at hk
  split at hk<;>try cases hk
  next m u hu=>
  split at hk<;>cases hk
  next j hj=>
  rw[arun_bnd _ _ (arun_und hu s)]
  dsimp only
  rw[arun_bnd _ _ (arun_size hj s)]
  have:=fillQ_fill z.cells.size _ ps.toList z.cells.toList c (by simp) hc
  rw[show (z.cells:Array Value)=⟨z.cells.toList⟩ from rfl,this]
  rfl
theorem cst_eq:∀(ps:List (Nat×Operand)) (l:List (Nat×Value)),cst ps=some l→l=ps.map (fun x=>(x.1,aev e x.2))∧ps.all (fun x=>okX n0 x.2)=true
 |[],l,h=>by cases h;exact⟨rfl,rfl⟩
 |p::ps,l,h=>by
  unfold cst at h
  split at h<;>try cases h
  next q hq=>
  split at h<;>cases h
  next l hl=>
  obtain⟨h1,h2⟩:=cst_eq ps l hl
  obtain⟨i,x⟩:=p
  unfold cst1 at hq
  split at hq<;>try cases hq
  next v heq=>
  cases heq
  split at hq<;>cases hq
  next hf=>
  refine⟨by rw[h1];rfl,?_⟩
  rw[List.all_cons,h2]
  simp [okX,hf]
theorem eBu_eS {t:TypeId} {ps:Array (Nat×Operand)} (h:eBu P n0 e t ps s=some (r,s')) (ho:o.op= .build t ps):eS P n0 e o s=some (r,s'):=by
 have key:∀{v:Value},bldV P t (ps.toList.map fun x=>(x.1,aev e x.2))=some v→ps.toList.all (fun x=>okX n0 x.2)=true→eS P n0 e o s=some (.value v,s):=fun {v} hb hx=>by
  have hm:(ps.map fun (i,x)=>(i,aev e x)).toList=ps.toList.map fun x=>(x.1,aev e x.2):=by simp
  obtain⟨hrun,hz⟩:=bldV_run (P:=P) (s:=s) (t:=t) (ps:=ps.map fun (i,x)=>(i,aev e x)) (v:=v) (by rw[hm];exact hb)
  refine eS_val (by rw[ho];exact hz) (by rw[ho];simpa [okXs,Op.operands] using hx) ?_
  unfold execOp
  rw[ho]
  dsimp only
  rw[arun_bnd _ _ hrun]
  rfl
 unfold eBu at h
 split at h
 ·next v hv=>
  cases h
  unfold bldC at hv
  split at hv<;>try cases hv
  next l hl=>
  obtain⟨h1,h2⟩:=cst_eq (e:=e) (n0:=n0) _ _ hl
  rw[h1]at hv
  exact key hv h2
 ·split at h<;>try cases h
  next hx=>
  split at h<;>cases h
  next v hv=>exact key hv hx
theorem eLd_run {t:TypeId} {x:Operand} (h:eLd P n0 e t x s=some (r,s')):∃v,r= .value v∧arun P (Instr.loadAt t (aev e x)) s=some (.ok v,s'):=by
 unfold eLd at h
 split at h<;>try cases h
 next hx=>
 split at h<;>try cases h
 next a hv=>
 split at h<;>try cases h
 next c t' fz hg hs=>
 split at h<;>try cases h
 next n hn=>
 split at h<;>try cases h
 next hc=>
 rw[Bool.and_eq_true]at hc
 have h1:=Nat.le_of_ble_eq_true hc.1
 have h2:=Nat.le_of_ble_eq_true hc.2
 rw[sq_eq]at h
 cases h
 have hagg:arun P (isAgg t) s=some (.ok true,s)∧arun P (sizeOf t) s=some (.ok n,s):=by
  unfold aggN at hn
  split at hn<;>try cases hn
  ·rename_i hu hi
   refine⟨?_,arun_size hi s⟩
   unfold isAgg
   rw[arun_bnd _ _ (arun_und hu s)]
   rfl
  ·rename_i hu hi
   refine⟨?_,arun_size hi s⟩
   unfold isAgg
   rw[arun_bnd _ _ (arun_und hu s)]
   rfl
 have hl:arun P (Instr.loadAt t (aev e x)) s=some (.ok (.agg ⟨(c.toList.drop a.off).take n⟩),{s with rd:=s.rd|||bit a.block}):=by
  unfold Instr.loadAt
  rw[hv,arun_bnd (Instr.sureAddr (.pointer (some a))) _ (s':=s) (a:=a) rfl]
  unfold loadVar
  rw[arun_bnd _ _ hagg.1]
  simp only[if_true]
  rw[arun_bnd _ _ hagg.2]
  unfold loadCells
  have:=arun_loadCells (P:=P) hs n 0 #[] s hg (by omega)
  rw[arun_bnd _ _ this]
  rw[if_neg (by omega)]
  simp
  rfl
 exact⟨_,rfl,hl⟩
theorem eL1_run {t:TypeId} {x:Operand} (h:eL1 P n0 e t x s=some (r,s')):∃v,r= .value v∧arun P (Instr.loadAt t (aev e x)) s=some (.ok v,s'):=by
 unfold eL1 at h
 split at h<;>try cases h
 next hx=>
 split at h<;>try cases h
 next b of hv=>
 split at h<;>try cases h
 next c t' fz hg=>
 split at h<;>try cases h
 next hn=>
 split at h<;>try cases h
 next v rest hc=>
 have hc:c[of]? =some v:=by rw[←Array.getElem?_toList];exact drop_get hc
 rw[sq_eq]at h
 cases h
 have hagg:arun P (isAgg t) s=some (.ok false,s):=by
  unfold isS at hn
  split at hn<;>try cases hn
  rename_i hn
  unfold aggN at hn
  split at hn<;>try cases hn
  next d i h1 h2 hu hi=>
  unfold isAgg
  rw[arun_bnd _ _ (arun_und hu s)]
  split
  ·exact absurd rfl (h1 _)
  ·exact absurd rfl (h2 _ _)
  ·rfl
 have hl:arun P (Instr.loadAt t (aev e x)) s=some (.ok v,{s with rd:=s.rd|||bit b}):=by
  unfold Instr.loadAt
  rw[hv,arun_bnd (Instr.sureAddr (.pointer (some ⟨b,of,none⟩))) _ (s':=s) (a:=⟨b,of,none⟩) rfl]
  unfold loadVar
  rw[arun_bnd _ _ hagg]
  simp only[Bool.false_eq_true,if_false]
  show arun P (.load _ ⟨b,of,none⟩ fun v=>.pure v) s=_
  simp only[arun,hg,hc,sq_eq]
 exact⟨_,rfl,hl⟩
theorem load_addr {t:TypeId} {u:Value} {v:Value} (h:arun P (Instr.loadAt t u) s=some (.ok v,s')):arun P (do loadVar t (←asAddr u)) s=some (.ok v,s'):=by
 unfold Instr.loadAt at h
 cases u<;>try (cases h;done)
 rename_i a
 cases a with
 |none=>cases h
 |some a=>exact h
theorem ares1_run {x:ResultVar} {v:Value} (h:ares1 P n0 e x s=some (v,s')):arun P (match x with|.tmp t=>(pure ((e.get t).getD undef):Sem Value)|.cell a t=>do loadVar t (←asAddr ((e.get a).getD undef))) s=some (.ok v,s'):=by
 unfold ares1 at h
 cases x with
 |tmp t=>cases h;rfl
 |cell a t=>
  dsimp only at h⊢
  split at h
  ·next v2 s2 h1=>
   cases h
   obtain⟨v3,e3,h3⟩:=eL1_run h1
   cases e3
   exact load_addr h3
  ·split at h<;>cases h
   next h1=>
   obtain⟨v3,e3,h3⟩:=eLd_run h1
   cases e3
   exact load_addr h3
theorem aresL_run:∀(l:List ResultVar) (vs:List Value) (s s':AS),aresL P n0 e l s=some (vs,s')→arun P (l.mapM fun|.tmp t=>(pure ((e.get t).getD undef):Sem Value)|.cell a t=>do loadVar t (←asAddr ((e.get a).getD undef))) s=some (.ok vs,s')
 |[],vs,s,s',h=>by cases h;rw[List.mapM_nil];rfl
 |x::l,vs,s,s',h=>by
  unfold aresL at h
  split at h<;>try cases h
  next v s1 h1=>
  split at h<;>cases h
  next vs s2 h2=>
  rw[List.mapM_cons,arun_bnd _ _ (ares1_run h1),arun_bnd _ _ (aresL_run l _ _ _ h2)]
  rfl
theorem ares_eq {fn:Func} {r:CO} (h:ares P n0 e fn s=some (r,s')):ares0 P e fn s=some (r,s'):=by
 have key:∀{vs:List Value},aresL P n0 e fn.results.toList s=some (vs,s')→arun P (resF (fun t=>(e.get t).getD undef) fn) s=some (.ok (if h:vs.length=1 then vs[0] else .tuple ⟨vs⟩),s'):=fun {vs} h=>by
  unfold resF
  rw[Array.mapM_eq_mapM_toList]
  have h1:=aresL_run _ _ _ _ h
  have h2:arun P (List.toArray<$>fn.results.toList.mapM fun|.tmp t=>(pure ((e.get t).getD undef):Sem Value)|.cell a t=>do loadVar t (←asAddr ((e.get a).getD undef))) s=some (.ok ⟨vs⟩,s'):=by
   show arun P (fn.results.toList.mapM _>>=fun x=>pure x.toArray) s=_
   rw[arun_bnd _ _ h1]
   rfl
  exact (arun_bnd _ _ h2).trans rfl
 unfold ares at h
 split at h
 ·next v s1 h1=>
  cases h
  unfold ares0
  rw[key h1]
  rfl
 ·next vs s1 hne h1=>
  cases h
  unfold ares0
  rw[key h1]
  have:¬vs.length=1:=fun hl=>by
   obtain⟨v,rfl⟩:=List.length_eq_one_iff.1 hl
   exact hne v rfl
  rw[dif_neg this]
 ·exact h
end
end
end Go.Proofs.YtngglbakkedaiaaGreatDoor
