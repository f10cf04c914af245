import Derived.OrdersIn
import Derived.Below
set_option linter.all false
namespace Go.Proofs.YtngglbakkedaiaaGreatDoor
inductive Pl
 | abs
 | dead
 | live (x:Nat)
structure PM where
 pl:Nat→Pl
 cap:Nat→Nat
instance:CoeFun PM (fun _=>Nat→Pl):=⟨PM.pl⟩
structure PLe (ρ ρ':PM):Prop where
 at_:∀b,ρ b= .abs∨(ρ b= .dead∧ρ' b= .dead)∨∃x,ρ b= .live x∧(ρ' b= .live x∨ρ' b= .dead)
 cap:∀b,ρ b≠ .abs→ρ'.cap b=ρ.cap b
theorem PLe.refl (ρ:PM):PLe ρ ρ:=by
 refine ⟨fun b=>?_,fun _ _=>rfl⟩
 cases h:ρ b with
 |abs=>exact .inl rfl
 |dead=>exact .inr (.inl ⟨rfl,rfl⟩)
 |live x=>exact .inr (.inr ⟨x,rfl,.inl rfl⟩)
theorem PLe.ne {a b:PM} (h:PLe a b) {i:Nat} (k:a i≠ .abs):b i≠ .abs:=by
 rcases h.at_ i with h|⟨h1,h2⟩|⟨x,h1,h2|h2⟩
 ·exact absurd h k
 ·rw[h2];intro e;cases e
 ·rw[h2];intro e;cases e
 ·rw[h2];intro e;cases e
theorem PLe.trans {a b c:PM} (h:PLe a b) (k:PLe b c):PLe a c:=by
 refine ⟨fun i=>?_,fun i hi=>(k.cap i (h.ne hi)).trans (h.cap i hi)⟩
 rcases h.at_ i with h|⟨h1,h2⟩|⟨x,h1,h2|h2⟩
 ·exact .inl h
 ·refine .inr (.inl ⟨h1,?_⟩)
  rcases k.at_ i with k|⟨k1,k2⟩|⟨y,k1,k2⟩
  ·rw[h2]at k;cases k
  ·exact k2
  ·rw[h2]at k1;cases k1
 ·refine .inr (.inr ⟨x,h1,?_⟩)
  rcases k.at_ i with k|⟨k1,k2⟩|⟨y,k1,k2⟩
  ·rw[h2]at k;cases k
  ·rw[h2]at k1;cases k1
  ·rw[h2]at k1;cases k1;exact k2
 ·refine .inr (.inr ⟨x,h1,.inr ?_⟩)
  rcases k.at_ i with k|⟨k1,k2⟩|⟨y,k1,k2⟩
  ·rw[h2]at k;cases k
  ·exact k2
  ·rw[h2]at k1;cases k1
def BR (ρ:PM) (b b':Nat):Prop:=ρ b= .dead∨ρ b= .live b'
theorem BR.mono {ρ ρ':PM} (hl:PLe ρ ρ') {b b':Nat} (h:BR ρ b b'):BR ρ' b b':=by
 rcases hl.at_ b with k|⟨k1,k2⟩|⟨x,k1,k2⟩
 ·rcases h with h|h<;>(rw[k]at h;cases h)
 ·exact .inl k2
 ·rcases h with h|h<;>rw[k1]at h
  ·cases h
  ·cases h;exact k2.symm
theorem BR.ne {ρ:PM} {b b':Nat} (h:BR ρ b b'):ρ b≠ .abs:=fun k=>by rcases h with h|h<;>(rw[k]at h;cases h)
def AR (ρ:PM) (a a':Addr):Prop:=BR ρ a.block a'.block∧(ρ a.block= .dead∨a'.off=a.off∧a'.spot=a.spot)
theorem AR.mk {ρ:PM} {a a':Addr} (h:BR ρ a.block a'.block) (h1:a'.off=a.off) (h2:a'.spot=a.spot):AR ρ a a':=⟨h,.inr ⟨h1,h2⟩⟩
theorem AR.eq {ρ:PM} {a a':Addr} (h:AR ρ a a') {x:Nat} (k:ρ a.block= .live x):a'.off=a.off∧a'.spot=a.spot:=h.2.resolve_left fun e=>by rw[k]at e;cases e
theorem AR.mono {ρ ρ':PM} (hl:PLe ρ ρ') {a a':Addr} (h:AR ρ a a'):AR ρ' a a':=⟨h.1.mono hl,h.2.imp (fun k=>by
 rcases hl.at_ a.block with j|⟨_,j⟩|⟨x,j,_⟩
 ·rw[k]at j;cases j
 ·exact j
 ·rw[k]at j;cases j) id⟩
theorem AR.add {ρ:PM} {a a':Addr} (h:AR ρ a a') (n:Nat):AR ρ (a.add n) (a'.add n):=by
 obtain⟨h1,h2⟩:=h
 unfold Addr.add
 split
 ·exact⟨h1,h2⟩
 ·exact⟨h1,h2.imp id fun⟨h2,_⟩=>⟨by simp [h2],rfl⟩⟩
def LOO:Nat:=4611686018427387904
inductive FR (ρ:PM):Fn→Fn→Prop
 |func (f):FR ρ (.func f) (.func f)
 |method (n):FR ρ (.method n) (.method n)
 |methodOf (t n):FR ρ (.methodOf t n) (.methodOf t n)
 |via (t p f q):FR ρ (.via t p f q) (.via t p f q)
 |yield {l l'} (h:BR ρ l l'):FR ρ (.yield l) (.yield l')
inductive VR (ρ:PM):Value→Value→Prop
 |bool (b):VR ρ (.bool b) (.bool b)
 |int (k n):VR ρ (.int k n) (.int k n)
 |float (k n):VR ρ (.float k n) (.float k n)
 |complex (k n m):VR ρ (.complex k n m) (.complex k n m)
 |string (s):VR ρ (.string s) (.string s)
 |ptr0:VR ρ (.pointer none) (.pointer none)
 |ptr {a a'} (h:AR ρ a a'):VR ρ (.pointer (some a)) (.pointer (some a'))
 |sl0 (l c):VR ρ (.slice none l c) (.slice none l c)
 |sl {a a'} {l c c'} (h:AR ρ a a') (hc:(c≠LOO∧c'=c)∨(c=LOO∧l≤c'∧(a.off=0→c'=ρ.cap a.block))):VR ρ (.slice (some a) l c) (.slice (some a') l c')
 |map0:VR ρ (.map none) (.map none)
 |map {r r'} (h:BR ρ r r'):VR ρ (.map (some r)) (.map (some r'))
 |func {fn fn'} {f f' c c':Array Value} (h0:FR ρ fn fn') (h1:f.size=f'.size) (h2:∀(i:Nat) v v',f[i]? =some v→f'[i]? =some v'→VR ρ v v')
   (h3:c.size=c'.size) (h4:∀(i:Nat) v v',c[i]? =some v→c'[i]? =some v'→VR ρ v v'):VR ρ (.func fn f c) (.func fn' f' c')
 |nilFunc:VR ρ .nilFunc .nilFunc
 |iface (t) {v v'} (h:VR ρ v v'):VR ρ (.iface t v) (.iface t v')
 |nilIface:VR ρ .nilIface .nilIface
 |agg {c c':Array Value} (h1:c.size=c'.size) (h2:∀(i:Nat) v v',c[i]? =some v→c'[i]? =some v'→VR ρ v v'):VR ρ (.agg c) (.agg c')
 |tuple {c c':Array Value} (h1:c.size=c'.size) (h2:∀(i:Nat) v v',c[i]? =some v→c'[i]? =some v'→VR ρ v v'):VR ρ (.tuple c) (.tuple c')
theorem FR.mono {ρ ρ':PM} (hl:PLe ρ ρ') {f f':Fn} (h:FR ρ f f'):FR ρ' f f':=by
 cases h with
 |yield h=>exact .yield (h.mono hl)
 |func f=>exact .func f
 |method=>exact .method _
 |methodOf=>exact .methodOf ..
 |via=>exact .via ..
theorem VR.mono {ρ ρ':PM} (hl:PLe ρ ρ') {v v':Value} (h:VR ρ v v'):VR ρ' v v':=by
 induction h with
 |bool b=>exact .bool b
 |int=>exact .int ..
 |float=>exact .float ..
 |complex=>exact .complex ..
 |string=>exact .string _
 |ptr0=>exact .ptr0
 |ptr h=>exact .ptr (h.mono hl)
 |sl0=>exact .sl0 ..
 |sl h hc=>exact .sl (h.mono hl) (hc.imp id fun⟨h1,h2,h3⟩=>⟨h1,h2,fun e=>(h3 e).trans (hl.cap _ h.1.ne).symm⟩)
 |map0=>exact .map0
 |map h=>exact .map (h.mono hl)
 |func h0 h1 _ h3 _ ih2 ih4=>exact .func (h0.mono hl) h1 ih2 h3 ih4
 |nilFunc=>exact .nilFunc
 |iface t _ ih=>exact .iface t ih
 |nilIface=>exact .nilIface
 |agg h1 _ ih=>exact .agg h1 ih
 |tuple h1 _ ih=>exact .tuple h1 ih
def AV (ρ:PM) (c c':Array Value):Prop:=c.size=c'.size∧∀(i:Nat) v v',c[i]? =some v→c'[i]? =some v'→VR ρ v v'
theorem AV.mono {ρ ρ':PM} (hl:PLe ρ ρ') {c c':Array Value} (h:AV ρ c c'):AV ρ' c c':=⟨h.1,fun i v v' a b=>(h.2 i v v' a b).mono hl⟩
structure ER (ρ:PM) (e e':MapEntry):Prop where
 key:VR ρ e.key e'.key
 val:VR ρ e.val e'.val
 born:e'.born=e.born
theorem ER.mono {ρ ρ':PM} (hl:PLe ρ ρ') {e e':MapEntry} (h:ER ρ e e'):ER ρ' e e':=⟨h.key.mono hl,h.val.mono hl,h.born⟩
def EsR (ρ:PM) (c c':Array MapEntry):Prop:=c.size=c'.size∧∀(i:Nat) v v',c[i]? =some v→c'[i]? =some v'→ER ρ v v'
theorem EsR.mono {ρ ρ':PM} (hl:PLe ρ ρ') {c c':Array MapEntry} (h:EsR ρ c c'):EsR ρ' c c':=⟨h.1,fun i v v' a b=>(h.2 i v v' a b).mono hl⟩
structure LR (ρ:PM) (r r':Loop):Prop where
 state:r'.state=r.state
 pending:r'.pending=r.pending
 tmps:AV ρ r.tmps r'.tmps
 params:r'.params=r.params
 assign:r'.assign=r.assign
 body:r'.body=r.body
 defers:BR ρ r.defers r'.defers
theorem LR.mono {ρ ρ':PM} (hl:PLe ρ ρ') {e e':Loop} (h:LR ρ e e'):LR ρ' e e':=⟨h.state,h.pending,h.tmps.mono hl,h.params,h.assign,h.body,h.defers.mono hl⟩
def SetR (b:List Value) (es:Array MapEntry) (cl:Nat):Prop:=∃ys:List Int,ys.Nodup∧b.Perm (ys.map (Value.int .i64))∧es.toList.map (·.key)=ys.map (Value.int .i64)∧(∀e∈es.toList,e.val= .agg #[]∧e.born<cl)∧(es.toList.map (·.born)).Nodup
inductive OR (ρ:PM):Obj→Obj→Prop
 |cells {c c':Array Value} (t) (h1:c.size≤c'.size) (h2:∀(i:Nat) v v',c[i]? =some v→c'[i]? =some v'→VR ρ v v'):OR ρ (.cells c t (0,0)) (.cells c' t (0,0))
 |map {es es'} (cl) (h:EsR ρ es es'):OR ρ (.map es cl) (.map es' cl)
 |stringIter (s p):OR ρ (.stringIter s p) (.stringIter s p)
 |loop {r r'} (h:LR ρ r r'):OR ρ (.loop r) (.loop r')
 |mapIter0 (a b c):OR ρ (.mapIter none a b c) (.mapIter none a b c)
 |mapIter {m m'} (h:BR ρ m m') (a b c):OR ρ (.mapIter (some m) a b c) (.mapIter (some m') a b c)
 |deferred:OR ρ (.deferred (some [])) (.deferred (some []))
 |deferred0:OR ρ (.deferred none) (.deferred none)
 |set {b:Array Value} {es cl} (h:SetR b.toList es cl):OR ρ (.chan 0 b false 0 0 false) (.map es cl)
theorem OR.mono {ρ ρ':PM} (hl:PLe ρ ρ') {o o':Obj} (h:OR ρ o o'):OR ρ' o o':=by
 cases h with
 |cells t h1 h2=>exact .cells t h1 fun i v v' a b=>(h2 i v v' a b).mono hl
 |map cl h=>exact .map cl (h.mono hl)
 |stringIter=>exact .stringIter ..
 |loop h=>exact .loop (h.mono hl)
 |mapIter0=>exact .mapIter0 ..
 |mapIter h=>exact .mapIter (h.mono hl) ..
 |deferred=>exact .deferred
 |deferred0=>exact .deferred0
 |set h=>exact .set h
inductive Tr (α:Type)
 |o
 |n (o:Option α) (l r:Tr α)
noncomputable def Tr.get {α:Type} (t:Tr α):Nat→Option α:=Tr.rec (motive:=fun _=>Nat→Option α) (fun _=>none) (fun o _ _ il ir k=>Bool.rec (motive:=fun _=>Option α) (Bool.rec (motive:=fun _=>Option α) (ir (Nat.sub (Nat.div k 2) 1)) (il (Nat.div k 2)) (Nat.beq (Nat.mod k 2) 1)) o (Nat.beq k 0)) t
noncomputable def Tr.mk {α:Type} (x:Option α) (f:Nat):Nat→Tr α:=Nat.rec (motive:=fun _=>Nat→Tr α) (fun _=>.o) (fun _ ih k=>Bool.rec (motive:=fun _=>Tr α) (Bool.rec (motive:=fun _=>Tr α) (.n none .o (ih (Nat.sub (Nat.div k 2) 1))) (.n none (ih (Nat.div k 2)) .o) (Nat.beq (Nat.mod k 2) 1)) (.n x .o .o) (Nat.beq k 0)) f
noncomputable def Tr.set {α:Type} (t:Tr α):Nat→Option α→Tr α:=Tr.rec (motive:=fun _=>Nat→Option α→Tr α) (fun k x=>Tr.mk x (Nat.succ k) k) (fun o l r il ir k x=>Bool.rec (motive:=fun _=>Tr α) (Bool.rec (motive:=fun _=>Tr α) (.n o l (ir (Nat.sub (Nat.div k 2) 1) x)) (.n o (il (Nat.div k 2) x) r) (Nat.beq (Nat.mod k 2) 1)) (.n x l r) (Nat.beq k 0)) t
theorem nbF {a b:Nat} (h:a≠b):Nat.beq a b=false:=by
 cases e:Nat.beq a b with
 |false=>rfl
 |true=>exact absurd (Nat.eq_of_beq_eq_true e) h
theorem Tr.get_e {α:Type} (k:Nat):(Tr.o:Tr α).get k=none:=rfl
theorem brec {β:Type} (a b:Nat) (x y:β):Bool.rec (motive:=fun _=>β) x y (Nat.beq a b)=if a=b then y else x:=by
 by_cases h:a=b
 ·subst h;rw[Nat.beq_refl,if_pos rfl]
 ·rw[nbF h,if_neg h]
theorem Tr.get_n {α:Type} (o:Option α) (l r:Tr α) (k:Nat):(Tr.n o l r).get k=if k=0 then o else if k%2=1 then l.get (k/2) else r.get (k/2-1):=by
 show Bool.rec (motive:=fun _=>Option α) (Bool.rec (motive:=fun _=>Option α) (r.get (Nat.sub (Nat.div k 2) 1)) (l.get (Nat.div k 2)) (Nat.beq (Nat.mod k 2) 1)) o (Nat.beq k 0)=_
 rw[brec,brec]
 rfl
theorem Tr.set_n {α:Type} (o:Option α) (l r:Tr α) (k:Nat) (x:Option α):(Tr.n o l r).set k x=if k=0 then .n x l r else if k%2=1 then .n o (l.set (k/2) x) r else .n o l (r.set (k/2-1) x):=by
 show Bool.rec (motive:=fun _=>Tr α) (Bool.rec (motive:=fun _=>Tr α) (.n o l (r.set (Nat.sub (Nat.div k 2) 1) x)) (.n o (l.set (Nat.div k 2) x) r) (Nat.beq (Nat.mod k 2) 1)) (.n x l r) (Nat.beq k 0)=_
 rw[brec,brec]
 rfl
theorem Tr.mk_s {α:Type} (x:Option α) (f k:Nat):Tr.mk x (f+1) k=if k=0 then .n x .o .o else if k%2=1 then .n none (Tr.mk x f (k/2)) .o else .n none .o (Tr.mk x f (k/2-1)):=by
 show Bool.rec (motive:=fun _=>Tr α) (Bool.rec (motive:=fun _=>Tr α) (.n none .o (Tr.mk x f (Nat.sub (Nat.div k 2) 1))) (.n none (Tr.mk x f (Nat.div k 2)) .o) (Nat.beq (Nat.mod k 2) 1)) (.n x .o .o) (Nat.beq k 0)=_
 rw[brec,brec]
 rfl
theorem Tr.get_mk {α:Type} (x:Option α):∀(f k j:Nat),k<f→(Tr.mk x f k).get j=if j=k then x else none
 |0,_,_,h=>by omega
 |f+1,k,j,h=>by
  rw[Tr.mk_s]
  by_cases h0:k=0
  ·rw[if_pos h0,Tr.get_n,Tr.get_e,Tr.get_e]
   by_cases hj:j=0
   ·rw[if_pos hj,if_pos (by omega)]
   ·rw[if_neg hj,if_neg (show ¬j=k by omega)];split<;>rfl
  ·rw[if_neg h0]
   by_cases hm:k%2=1
   ·rw[if_pos hm,Tr.get_n,Tr.get_e,Tr.get_mk x f (k/2) (j/2) (by omega)]
    by_cases hj:j=0
    ·rw[if_pos hj,if_neg (by omega)]
    ·rw[if_neg hj]
     by_cases hn:j%2=1
     ·rw[if_pos hn]
      by_cases e:j=k
      ·rw[if_pos e,if_pos (by omega)]
      ·rw[if_neg e,if_neg (by omega)]
     ·rw[if_neg hn,if_neg (by omega)]
   ·rw[if_neg hm,Tr.get_n,Tr.get_e,Tr.get_mk x f (k/2-1) (j/2-1) (by omega)]
    by_cases hj:j=0
    ·rw[if_pos hj,if_neg (by omega)]
    ·rw[if_neg hj]
     by_cases hn:j%2=1
     ·rw[if_pos hn,if_neg (by omega)]
     ·rw[if_neg hn]
      by_cases e:j=k
      ·rw[if_pos e,if_pos (by omega)]
      ·rw[if_neg e,if_neg (by omega)]
theorem Tr.get_set {α:Type} (t:Tr α):∀(k j:Nat) (x:Option α),(t.set k x).get j=if j=k then x else t.get j:=by
 induction t with
 |o=>
  intro k j x
  show (Tr.mk x (k+1) k).get j=_
  rw[Tr.get_mk x _ _ _ (by omega)]
  rfl
 |n o l r il ir=>
  intro k j x
  rw[Tr.set_n,Tr.get_n]
  by_cases h0:k=0
  ·rw[if_pos h0,Tr.get_n]
   by_cases hj:j=0
   ·rw[if_pos hj,if_pos (by omega)]
   ·rw[if_neg hj,if_neg (show ¬j=k by omega),if_neg hj]
  ·rw[if_neg h0]
   by_cases hm:k%2=1
   ·rw[if_pos hm,Tr.get_n,il]
    by_cases hj:j=0
    ·rw[if_pos hj,if_neg (by omega),if_pos hj]
    ·rw[if_neg hj]
     by_cases hn:j%2=1
     ·rw[if_pos hn]
      by_cases e:j=k
      ·rw[if_pos e,if_pos (by omega)]
      ·rw[if_neg e,if_neg (by omega),if_neg hj,if_pos hn]
     ·rw[if_neg hn,if_neg (by omega),if_neg hj,if_neg hn]
   ·rw[if_neg hm,Tr.get_n,ir]
    by_cases hj:j=0
    ·rw[if_pos hj,if_neg (by omega),if_pos hj]
    ·rw[if_neg hj]
     by_cases hn:j%2=1
     ·rw[if_pos hn,if_neg (by omega),if_neg hj,if_pos hn]
     ·rw[if_neg hn]
      by_cases e:j=k
      ·rw[if_pos e,if_pos (by omega)]
      ·rw[if_neg e,if_neg (by omega),if_neg hj,if_neg hn]
theorem Tr.mk_set {α:Type} (x y:Option α):∀(f k:Nat),k<f→(Tr.mk x f k).set k y=Tr.mk y f k
 |0,_,h=>by omega
 |f+1,k,h=>by
  rw[Tr.mk_s,Tr.mk_s]
  by_cases h0:k=0
  ·rw[if_pos h0,if_pos h0,Tr.set_n,if_pos h0]
  ·rw[if_neg h0,if_neg h0]
   by_cases hm:k%2=1
   ·rw[if_pos hm,if_pos hm,Tr.set_n,if_neg h0,if_pos hm,Tr.mk_set x y f (k/2) (by omega)]
   ·rw[if_neg hm,if_neg hm,Tr.set_n,if_neg h0,if_neg hm,Tr.mk_set x y f (k/2-1) (by omega)]
theorem Tr.set_set {α:Type} (t:Tr α):∀(k:Nat) (x y:Option α),(t.set k x).set k y=t.set k y:=by
 induction t with
 |o=>intro k x y;exact Tr.mk_set x y (k+1) k (Nat.lt_succ_self k)
 |n o l r il ir=>
  intro k x y
  rw[Tr.set_n,Tr.set_n]
  by_cases h0:k=0
  ·rw[if_pos h0,if_pos h0,Tr.set_n,if_pos h0]
  ·rw[if_neg h0,if_neg h0]
   by_cases hm:k%2=1
   ·rw[if_pos hm,if_pos hm,Tr.set_n,if_neg h0,if_pos hm,il]
   ·rw[if_neg hm,if_neg hm,Tr.set_n,if_neg h0,if_neg hm,ir]
section
noncomputable section
structure AS where
 heap:Tr Obj
 next:Nat
 rd:Nat
 wr:Nat
inductive AO (α:Type)
 |ok (a:α)
 |panic (v:Value)
def sq {β:Type} (n:Nat) (k:Nat→β):β:=match n with
 |0=>k 0
 |m+1=>k (m+1)
theorem sq_eq {β:Type} (n:Nat) (k:Nat→β):sq n k=k n:=by cases n<;>rfl
def bit (b:Nat):Nat:=1<<<b
def isC:Obj→Bool
 |.cells _ _ _=>true
 |_=>false
def arun (P:Program) {α:Type}:Sem α→AS→Option (AO α×AS)
 |.pure a,s=>some (.ok a,s)
 |.load _ a k,s=>match s.heap.get a.block with
  |some (.cells c _ _)=>match a.spot with
   |none=>match c[a.off]? with
    |some v=>sq (s.rd|||bit a.block) fun rd=>arun P (k v) {s with rd:=rd}
    |none=>none
   |some _=>none
  |_=>none
 |.store _ a v k,s=>match v with
  |.agg _=>none
  |.tuple _=>none
  |v=>match s.heap.get a.block with
   |some (.cells c t _)=>match a.spot with
    |none=>match c[a.off]? with
     |some _=>sq (s.wr|||bit a.block) fun wr=>arun P k {s with heap:=s.heap.set a.block (some (.cells (c.setIfInBounds a.off v) t)),wr:=wr}
     |none=>none
    |some _=>none
   |_=>none
 |.new o k,s=>sq (s.next+1) fun n=>arun P (k s.next) {s with heap:=s.heap.set s.next (some o),next:=n}
 |.shape _ _,_=>none
 |.freeze _ _ _,_=>none
 |.frozen a k,s=>match s.heap.get a.block with
  |some (.cells _ _ _)=>sq (s.rd|||bit a.block) fun rd=>arun P (k false) {s with rd:=rd}
  |_=>none
 |.getObj r k,s=>match s.heap.get r with
  |some (.cells _ _ _)=>none
  |some o=>sq (s.rd|||bit r) fun rd=>arun P (k o) {s with rd:=rd}
  |none=>none
 |.setObj r o k,s=>match isC o with
  |true=>none
  |false=>match s.heap.get r with
   |some (.cells _ _ _)=>none
   |some _=>sq (s.wr|||bit r) fun wr=>arun P k {s with heap:=s.heap.set r (some o),wr:=wr}
   |none=>none
 |.choose q k,s=>if q.forced then arun P (k 0) s else none
 |.sys _ _,_=>none
 |.program k,s=>arun P (k P) s
 |.mark _ k,s=>arun P k s
 |.halt (.panic v),s=>some (.panic v,s)
 |.halt _,_=>none
def ocap (P:Program):Obj→Nat
 |.cells c e _=>c.size/P.cellsOf e
 |_=>0
inductive SR (P:Program) {α β:Type} (R:PM→α→β→Prop):PM→Sem α→Sem β→Prop
 |pure {ρ a b} (h:R ρ a b):SR P R ρ (.pure a) (.pure b)
 |load {ρ m a a' k k'} (h:AR ρ a a') (hk:∀v v',VR ρ v v'→SR P R ρ (k v) (k' v')):SR P R ρ (.load m a k) (.load m a' k')
 |store {ρ m a a' v v' k k'} (h:AR ρ a a') (hv:VR ρ v v') (hk:SR P R ρ k k'):SR P R ρ (.store m a v k) (.store m a' v' k')
 |new {ρ o o' k k'} (h:OR ρ o o') (hk:∀ρ' n n',PLe ρ ρ'→ρ' n= .live n'→ρ'.cap n=ocap P o'→SR P R ρ' (k n) (k' n')):SR P R ρ (.new o k) (.new o' k')
 |shape {ρ r k s'}:SR P R ρ (.shape r k) s'
 |freeze {ρ a n k s'}:SR P R ρ (.freeze a n k) s'
 |sys {ρ a k s'}:SR P R ρ (.sys a k) s'
 |frozen {ρ a a' k k'} (h:AR ρ a a') (hk:SR P R ρ (k false) (k' false)):SR P R ρ (.frozen a k) (.frozen a' k')
 |getObj {ρ r r' k k'} (h:BR ρ r r') (hk:∀o o',OR ρ o o'→SR P R ρ (k o) (k' o')):SR P R ρ (.getObj r k) (.getObj r' k')
 |getObjD {ρ r k s'} (h:ρ r= .dead):SR P R ρ (.getObj r k) s'
 |setObj {ρ r r' o o' k k'} (h:BR ρ r r') (ho:OR ρ o o') (hk:SR P R ρ k k'):SR P R ρ (.setObj r o k) (.setObj r' o' k')
 |choose {ρ q q' k k'} (h:q'.forced=q.forced) (hk:SR P R ρ (k 0) (k' 0)):SR P R ρ (.choose q k) (.choose q' k')
 |program {ρ k k'} (hk:SR P R ρ (k P) (k' P)):SR P R ρ (.program k) (.program k')
 |programL {ρ k s'} (hk:SR P R ρ (k P) s'):SR P R ρ (.program k) s'
 |mark {ρ m m' k k'} (hk:SR P R ρ k k'):SR P R ρ (.mark m k) (.mark m' k')
 |halt {ρ x s'} (h:∀v,x≠ .panic v):SR P R ρ (.halt x) s'
 |panic {ρ v v'} (h:VR ρ v v'):SR P R ρ (.halt (.panic v)) (.halt (.panic v'))
theorem SR.bind {P:Program} {α β γ δ:Type} {R:PM→α→β→Prop} {R':PM→γ→δ→Prop} {f:α→Sem γ} {f':β→Sem δ} {ρ:PM} {s:Sem α} {s':Sem β} (h:SR P R ρ s s'):
  (∀ρ' a b,PLe ρ ρ'→R ρ' a b→SR P R' ρ' (f a) (f' b))→SR P R' ρ (s.bind f) (s'.bind f'):=by
 induction h with
 |pure h=>exact fun hf=>hf _ _ _ (PLe.refl _) h
 |load h _ ih=>exact fun hf=>.load h fun v v' hv=>ih v v' hv hf
 |store h hv _ ih=>exact fun hf=>.store h hv (ih hf)
 |new h _ ih=>exact fun hf=>.new h fun ρ' n n' hl hn hc=>ih ρ' n n' hl hn hc fun ρ'' a b hl' hr=>hf ρ'' a b (hl.trans hl') hr
 |shape=>exact fun _=>.shape
 |freeze=>exact fun _=>.freeze
 |sys=>exact fun _=>.sys
 |frozen h _ ih=>exact fun hf=>.frozen h (ih hf)
 |getObj h _ ih=>exact fun hf=>.getObj h fun o o' ho=>ih o o' ho hf
 |setObj h ho _ ih=>exact fun hf=>.setObj h ho (ih hf)
 |choose h _ ih=>exact fun hf=>.choose h (ih hf)
 |getObjD h=>exact fun _=>.getObjD h
 |program _ ih=>exact fun hf=>.program (ih hf)
 |programL _ ih=>exact fun hf=>.programL (ih hf)
 |mark _ ih=>exact fun hf=>.mark (ih hf)
 |halt h=>exact fun _=>.halt h
 |panic h=>exact fun _=>.panic h
theorem SR.mono {P:Program} {α β:Type} {R R':PM→α→β→Prop} {ρ:PM} {s:Sem α} {s':Sem β} (h:SR P R ρ s s') (hf:∀ρ' a b,PLe ρ ρ'→R ρ' a b→R' ρ' a b):SR P R' ρ s s':=by
 have:=SR.bind (f:=Sem.pure) (f':=Sem.pure) h fun ρ' a b hl hr=>SR.pure (hf ρ' a b hl hr)
 have e:∀{γ:Type} (s:Sem γ),s.bind Sem.pure=s:=fun s=>by
  induction s<;>simp only[Sem.bind]<;>(first|rfl|congr<;>first|(funext x;simp_all;done)|(simp_all;done)|(funext x;cases x<;>simp_all))
 rwa[e,e]at this
def WR (P:Program) (ρ:PM) (M:Nat→Prop) (H:Tr Obj) (W:World):Prop:=∀b,M b→ρ b= .abs∨(ρ b= .dead∧H.get b=none)∨∃x o o',ρ b= .live x∧H.get b=some o∧W.heap[x]? =some o'∧OR ρ o o'∧ρ.cap b=ocap P o'
structure Inj (ρ:PM) (W:World):Prop where
 inj:∀b c x,ρ b= .live x→ρ c= .live x→b=c
 lt:∀b x,ρ b= .live x→x<W.heap.size
def AS.tch (s:AS) (b:Nat):Prop:=s.rd.testBit b=true∨s.wr.testBit b=true
structure Post (P:Program) (ρ:PM) (s s':AS) (W:World) (ρ':PM) (W':World):Prop where
 le:PLe ρ ρ'
 dom:∀b,ρ b= .abs→ρ' b≠ .abs→s.next≤b∧b<s'.next
 kill:∀b x,ρ b= .live x→ρ' b= .dead→s'.wr.testBit b=true
 inj:Inj ρ' W'
 wr:WR P ρ' (fun b=>s'.tch b∨(s.next≤b∧b<s'.next)) s'.heap W'
 fr:∀x,x<W.heap.size→(∀b,ρ b= .live x→s'.wr.testBit b=false)→W'.heap[x]? =W.heap[x]?
 sz:W.heap.size≤W'.heap.size
 os:W'.os=W.os
 tape:W'.tape=W.tape
 out:W'.output=W.output
 own:∀b x,ρ b= .abs→ρ' b= .live x→x<W.heap.size→∃b0,ρ b0= .live x∧s'.wr.testBit b0=true
structure Grow (s s':AS):Prop where
 next:s.next≤s'.next
 rd:∀b,s.rd.testBit b=true→s'.rd.testBit b=true
 wr:∀b,s.wr.testBit b=true→s'.wr.testBit b=true
 same:∀b,s'.wr.testBit b=false→(b<s.next∨s'.next≤b)→s'.heap.get b=s.heap.get b
theorem Grow.refl (s:AS):Grow s s:=⟨Nat.le_refl _,fun _ h=>h,fun _ h=>h,fun _ _ _=>rfl⟩
theorem Grow.trans {a b c:AS} (h:Grow a b) (k:Grow b c):Grow a c:=
 ⟨Nat.le_trans h.next k.next,fun i x=>k.rd i (h.rd i x),fun i x=>k.wr i (h.wr i x),fun i x y=>by
  have h1:=h.next;have h2:=k.next
  rw[k.same i x (by omega)]
  refine h.same i ?_ (by omega)
  cases e:b.wr.testBit i with
  |false=>rfl
  |true=>rw[k.wr i e]at x;cases x⟩
theorem bit_or (m b i:Nat):(m|||bit b).testBit i=(m.testBit i||decide (i=b)):=by
 unfold bit
 rw[Nat.testBit_or,Nat.one_shiftLeft,Nat.testBit_two_pow]
 congr 1
 by_cases h:b=i
 ·simp [h]
 ·simp [h,Ne.symm h]
theorem grow_rd (s:AS) (b:Nat):Grow s {s with rd:=s.rd|||bit b}:=⟨Nat.le_refl _,fun i h=>by simp [bit_or,h],fun _ h=>h,fun _ _ _=>rfl⟩
theorem grow_wr (s:AS) (b:Nat) (o:Option Obj):Grow s {s with heap:=s.heap.set b o,wr:=s.wr|||bit b}:=⟨Nat.le_refl _,fun _ h=>h,fun i h=>by simp [bit_or,h],fun i h _=>by
 simp only [bit_or,Bool.or_eq_false_iff,decide_eq_false_iff_not]at h
 simp [Tr.get_set,h.2]⟩
theorem grow_new (s:AS) (o:Obj):Grow s {s with heap:=s.heap.set s.next (some o),next:=s.next+1}:=⟨Nat.le_succ _,fun _ h=>h,fun _ h=>h,fun i _ h=>by
 have h:i<s.next∨s.next+1≤i:=h
 simp only [Tr.get_set]
 rw[if_neg (by omega)]⟩
theorem arun_grow {P:Program} {α:Type} (t:Sem α):∀(s:AS) (r:AO α) (s':AS),arun P t s=some (r,s')→Grow s s':=by
 induction t with
 |pure a=>intro s r s' h;simp only[arun,Option.some.injEq,Prod.mk.injEq]at h;rw[←h.2];exact Grow.refl _
 |load m a k ih=>
  intro s r s' h
  simp only[arun]at h
  split at h<;>try cases h
  split at h<;>try cases h
  split at h<;>try cases h
  rw[sq_eq]at h
  exact (grow_rd s _).trans (ih _ _ _ _ h)
 |store m a v k ih=>
  intro s r s' h
  unfold arun at h
  split at h<;>try cases h
  split at h<;>try cases h
  split at h<;>try cases h
  split at h<;>try cases h
  rw[sq_eq]at h
  exact (grow_wr s _ _).trans (ih _ _ _ h)
 |new o k ih=>
  intro s r s' h
  simp only[arun]at h
  rw[sq_eq]at h
  exact (grow_new s o).trans (ih _ _ _ _ h)
 |shape=>intro s r s' h;cases h
 |freeze=>intro s r s' h;cases h
 |sys=>intro s r s' h;cases h
 |frozen a k ih=>
  intro s r s' h
  simp only[arun]at h
  split at h<;>try cases h
  rw[sq_eq]at h
  exact (grow_rd s _).trans (ih _ _ _ _ h)
 |getObj r0 k ih=>
  intro s r s' h
  simp only[arun]at h
  split at h<;>try cases h
  rw[sq_eq]at h
  exact (grow_rd s _).trans (ih _ _ _ _ h)
 |setObj r0 o k ih=>
  intro s r s' h
  simp only[arun]at h
  split at h<;>try cases h
  split at h<;>try cases h
  rw[sq_eq]at h
  exact (grow_wr s _ _).trans (ih _ _ _ h)
 |choose q k ih=>
  intro s r s' h
  simp only[arun]at h
  split at h
  ·exact ih _ _ _ _ h
  ·cases h
 |program k ih=>
  intro s r s' h
  simp only[arun]at h
  exact ih _ _ _ _ h
 |mark m k ih=>
  intro s r s' h
  simp only[arun]at h
  exact ih _ _ _ h
 |halt x=>
  intro s r s' h
  cases x<;>simp only[arun]at h<;>try cases h
  exact Grow.refl _
end
end
theorem bit_self (m b:Nat):(m|||bit b).testBit b=true:=by rw[bit_or];simp
theorem Post.refl {P:Program} {ρ:PM} {s:AS} {W:World} (hI:Inj ρ W) (hW:WR P ρ s.tch s.heap W):Post P ρ s s W ρ W:=
 ⟨PLe.refl _,fun b h k=>absurd h k,fun b x h k=>(by rw[h]at k;cases k),hI,fun b hb=>hW b (hb.elim id fun h=>(by omega)),fun _ _ _=>rfl,Nat.le_refl _,rfl,rfl,rfl,fun b x h1 h2 _=>(by rw[h1]at h2;cases h2)⟩
theorem Post.keep {P:Program} {ρ ρ':PM} {s s':AS} {W W':World} (h:Post P ρ s s' W ρ' W') (hI:Inj ρ W) (hg:Grow s s') {b x:Nat} {o o':Obj} (hb:ρ b= .live x) (hw:s'.wr.testBit b=false) (hn:b<s.next∨s'.next≤b) (ho:s.heap.get b=some o) (hx:W.heap[x]? =some o') (hr:OR ρ o o') (hcp:ρ.cap b=ocap P o'):
  ρ' b= .live x∧s'.heap.get b=some o∧W'.heap[x]? =some o'∧OR ρ' o o'∧ρ'.cap b=ocap P o':=by
 refine⟨?_,(hg.same b hw hn).trans ho,(h.fr x (hI.lt b x hb) fun c hc=>by rw[hI.inj c b x hc hb];exact hw).trans hx,hr.mono h.le,(h.le.cap b (by rw[hb];intro e;cases e)).trans hcp⟩
 rcases h.le.at_ b with k|⟨k,_⟩|⟨y,k,k2|k2⟩
 ·rw[hb]at k;cases k
 ·rw[hb]at k;cases k
 ·rw[hb]at k;cases k;exact k2
 ·have:=h.kill b x hb k2;rw[hw]at this;cases this
theorem BR.live {P:Program} {ρ:PM} {M:Nat→Prop} {H:Tr Obj} {W:World} (hW:WR P ρ M H W) {b b':Nat} {o:Obj} (h:BR ρ b b') (hm:M b) (ho:H.get b=some o):ρ b= .live b'∧∃o',W.heap[b']? =some o'∧OR ρ o o'∧ρ.cap b=ocap P o':=by
 rcases hW b hm with k|⟨k,k2⟩|⟨x,p,p',k,k2,k3,k4⟩
 ·rcases h with h|h<;>(rw[k]at h;cases h)
 ·rw[ho]at k2;cases k2
 ·rcases h with h|h
  ·rw[k]at h;cases h
  ·rw[k]at h;cases h
   rw[ho]at k2;cases k2
   exact⟨k,p',k3,k4⟩
def Res (P:Program) {α β:Type} (R:PM→α→β→Prop) (r:AO α) (t:Sem β) (W:World) (ρ':PM) (W':World):Prop:=match r with
 |.ok a=>∃a',t.run P W= .ok a' W'∧R ρ' a a'
 |.panic v=>∃v',t.run P W= .halt (.panic v') W'∧VR ρ' v v'
theorem Res.head {P:Program} {α β:Type} {R:PM→α→β→Prop} {r:AO α} {t t2:Sem β} {W W2:World} {ρ':PM} {W':World} (h:Res P R r t2 W2 ρ' W') (e:t.run P W=t2.run P W2):Res P R r t W ρ' W':=by
 cases r<;>(simp only[Res]at h⊢;rw[e];exact h)
theorem setCell_heaps (W:World) (a:Addr) (v:Value) (x:Nat):(W.setCell a v).heap[x]? =if a.block=x then (W.heap[x]?).map (fun|.cells c elem frozen=> .cells (if a.spot.isSome then c else c.setIfInBounds a.off v) elem frozen|o=>o) else W.heap[x]?:=by
 unfold World.setCell
 rw[Array.getElem?_modify]
 rfl
theorem arun_sound {P:Program} {α β:Type} {R:PM→α→β→Prop} {ρ:PM} {t:Sem α} {t':Sem β} (h:SR P R ρ t t'):∀(s:AS) (r:AO α) (s':AS) (W:World),arun P t s=some (r,s')→Inj ρ W→WR P ρ s'.tch s.heap W→(∀b,s.next≤b→b<s'.next→ρ b= .abs)→
  ∃ρ' W',Res P R r t' W ρ' W'∧Post P ρ s s' W ρ' W':=by
 induction h with
 |pure h=>
  intro s r s' W hr hI hW hf
  simp only[arun,Option.some.injEq,Prod.mk.injEq]at hr
  obtain⟨rfl,rfl⟩:=hr
  exact⟨_,W,⟨_,rfl,h⟩,Post.refl hI hW⟩
 |load h _ ih=>
  rename_i ρ m a a' k k' _
  intro s r s' W hr hI hW hf
  simp only[arun]at hr
  split at hr<;>try cases hr
  next c t fz hg=>
  split at hr<;>try cases hr
  next hs=>
  split at hr<;>try cases hr
  next v hv=>
  rw[sq_eq]at hr
  have hG:=arun_grow _ _ _ _ hr
  have htb:s'.tch a.block:= .inl (hG.rd _ (bit_self _ _))
  obtain⟨hl,o',ho',hor,hcp⟩:=BR.live hW h.1 htb hg
  cases hor with
  |cells t h1 h2=>
   rename_i c'
   have hlt:a.off<c.size:=(Array.getElem?_eq_some_iff.1 hv).1
   have hlt':a.off<c'.size:=by omega
   have hv':c'[a.off]? =some c'[a.off]:=by rw[Array.getElem?_eq_getElem hlt']
   obtain⟨ρ',W',hres,hp⟩:=ih v c'[a.off] (h2 _ _ _ hv hv') _ _ _ W hr hI hW hf
   refine⟨ρ',W',hres.head ?_,⟨hp.le,hp.dom,hp.kill,hp.inj,hp.wr,hp.fr,hp.sz,hp.os,hp.tape,hp.out,hp.own⟩⟩
   have:W.cell? a'=some c'[a.off]:=by
    unfold World.cell?
    rw[ho'];simp only[(h.eq hl).2,hs,(h.eq hl).1,Option.isSome_none,Bool.false_eq_true,if_false];exact hv'
   simp only[Sem.run,this]
 |store h hv _ ih=>
  rename_i ρ m a a' v v' k k' _
  intro s r s' W hr hI hW hf
  unfold arun at hr
  split at hr<;>try cases hr
  next hn1 hn2=>
  split at hr<;>try cases hr
  next c t fz hg=>
  split at hr<;>try cases hr
  next hs=>
  split at hr<;>try cases hr
  next v0 hv0=>
  rw[sq_eq]at hr
  have hG:=arun_grow _ _ _ _ hr
  have hwb:s'.wr.testBit a.block=true:=hG.wr _ (bit_self _ _)
  obtain⟨hl,o',ho',hor,hcp⟩:=BR.live hW h.1 (.inr hwb) hg
  cases hor with
  |cells t h1 h2=>
   rename_i c'
   have hlt:a.off<c.size:=(Array.getElem?_eq_some_iff.1 hv0).1
   have hlt':a.off<c'.size:=by omega
   have hsz:(W.setCell a' v').heap.size=W.heap.size:=by simp [World.setCell]
   have hW1:WR P ρ s'.tch (s.heap.set a.block (some (.cells (c.setIfInBounds a.off v) t))) (W.setCell a' v'):=by
    intro b hb
    rw[Tr.get_set]
    by_cases e:b=a.block
    ·subst e
     refine .inr (.inr ⟨_,_,_,hl,by rw[if_pos rfl],by rw[setCell_heaps,if_pos rfl,ho'];rfl,?_⟩)
     simp only[(h.eq hl).2,hs,(h.eq hl).1,Option.isSome_none,Bool.false_eq_true,if_false]
     refine⟨.cells t (by simpa using h1) fun i u u' hu hu'=>?_,by simpa [ocap] using hcp⟩
     rw[Array.getElem?_setIfInBounds]at hu hu'
     by_cases ei:a.off=i
     ·subst ei
      rw[if_pos rfl,if_pos hlt]at hu;rw[if_pos rfl,if_pos hlt']at hu'
      cases hu;cases hu';exact hv
     ·rw[if_neg ei]at hu hu';exact h2 i u u' hu hu'
    ·rw[if_neg e]
     rcases hW b hb with k1|k1|⟨x,o,o',k1,k2,k3,k4⟩
     ·exact .inl k1
     ·exact .inr (.inl k1)
     ·refine .inr (.inr ⟨x,o,o',k1,k2,?_,k4⟩)
      rw[setCell_heaps,if_neg (fun e2=>e (hI.inj _ _ _ k1 (by rw[hl,e2])))];exact k3
   obtain⟨ρ',W',hres,hp⟩:=ih _ _ _ (W.setCell a' v') hr ⟨hI.inj,fun b x hb=>by rw[hsz];exact hI.lt b x hb⟩ hW1 hf
   refine⟨ρ',W',hres.head ?_,⟨hp.le,hp.dom,hp.kill,hp.inj,hp.wr,fun x hx hb=>?_,by have:=hp.sz;omega,hp.os,hp.tape,hp.out,fun b x h1 h2 h3=>hp.own b x h1 h2 (by rw[hsz];exact h3)⟩⟩
   ·have hc:W.cell? a'=some c'[a.off]:=by
     unfold World.cell?
     rw[ho'];simp only[(h.eq hl).2,hs,(h.eq hl).1,Option.isSome_none,Bool.false_eq_true,if_false];rw[Array.getElem?_eq_getElem hlt']
    have hfz:W.frozen? a'=false:=by
     unfold World.frozen?
     rw[ho'];simp
    have hna:∀c,v'≠ .agg c:=fun c e=>by
     subst e;cases hv with
     |agg _ _=>exact hn1 _ rfl
    have hnt:∀c,v'≠ .tuple c:=fun c e=>by
     subst e;cases hv with
     |tuple _ _=>exact hn2 _ rfl
    cases v'<;>first|exact absurd rfl (hna _)|exact absurd rfl (hnt _)|simp [Sem.run,hc,hfz]
   ·rw[hp.fr x (by omega) hb,setCell_heaps,if_neg]
    rintro rfl
    have:=hb _ hl;rw[hwb]at this;cases this
 |new h hk ih=>
  rename_i ρ o o' k k'
  intro s r s' W hr hI hW hf
  simp only[arun]at hr
  rw[sq_eq]at hr
  have hG:=arun_grow _ _ _ _ hr
  have hnx:s.next+1≤s'.next:=hG.next
  have hab:ρ s.next= .abs:=hf _ (Nat.le_refl _) (by omega)
  have hle:PLe ρ ⟨fun b=>if b=s.next then .live W.heap.size else ρ b,fun b=>if b=s.next then ocap P o' else ρ.cap b⟩:=by
   refine⟨fun b=>?_,fun b hb=>?_⟩
   ·by_cases e:b=s.next
    ·exact .inl (e▸hab)
    ·simp only[if_neg e];exact (PLe.refl ρ).at_ b
   ·have:b≠s.next:=fun e=>hb (e▸hab)
    simp only[if_neg this]
  have hI1:Inj ⟨fun b=>if b=s.next then .live W.heap.size else ρ b,fun b=>if b=s.next then ocap P o' else ρ.cap b⟩ {W with heap:=W.heap.push o'}:=by
   refine⟨fun b c x h1 h2=>?_,fun b x h1=>?_⟩
   ·dsimp only at h1 h2;split at h1<;>split at h2
    ·rename_i e1 e2;rw[e1,e2]
    ·cases h1;have:=hI.lt _ _ h2;omega
    ·cases h2;have:=hI.lt _ _ h1;omega
    ·exact hI.inj b c x h1 h2
   ·simp only [Array.size_push]
    dsimp only at h1
    split at h1
    ·cases h1;omega
    ·have:=hI.lt _ _ h1;omega
  have hgo:∀x,x<W.heap.size→(W.heap.push o')[x]? =W.heap[x]?:=fun x hx=>by rw[Array.getElem?_push,if_neg (by omega)]
  have hW1:WR P ⟨fun b=>if b=s.next then .live W.heap.size else ρ b,fun b=>if b=s.next then ocap P o' else ρ.cap b⟩ s'.tch (s.heap.set s.next (some o)) {W with heap:=W.heap.push o'}:=by
   intro b hb
   rw[Tr.get_set]
   by_cases e:b=s.next
   ·refine .inr (.inr ⟨W.heap.size,o,o',by simp only[if_pos e],by rw[if_pos e],by simp,h.mono hle,by simp only[if_pos e]⟩)
   ·simp only[if_neg e]
    rcases hW b hb with k1|k1|⟨x,p,p',k1,k2,k3,k4⟩
    ·exact .inl k1
    ·exact .inr (.inl k1)
    ·exact .inr (.inr ⟨x,p,p',k1,k2,(hgo x (hI.lt _ _ k1)).trans k3,k4.1.mono hle,k4.2⟩)
  obtain⟨ρ',W',hres,hp⟩:=ih _ s.next W.heap.size hle (by simp) (by simp) _ _ _ {W with heap:=W.heap.push o'} hr hI1 hW1 (fun b h1 h2=>by
   have h1:s.next+1≤b:=h1
   dsimp only
   rw[if_neg (by omega)]
   exact hf b (by omega) h2)
  refine⟨ρ',W',hres.head ?_,⟨hle.trans hp.le,fun b h1 h2=>?_,fun b x h1 h2=>?_,hp.inj,fun b hb=>?_,fun x hx hb=>?_,?_,hp.os,hp.tape,hp.out,fun b x h1 h2 h3=>?_⟩⟩
  ·simp only[Sem.run]
  ·by_cases e:b=s.next
   ·omega
   ·have h3:=hp.dom b (by simp only[if_neg e];exact h1) h2
    have h4:s.next+1≤b:=h3.1
    omega
  ·refine hp.kill b x ?_ h2
   by_cases e:b=s.next
   ·rw[e,hab]at h1;cases h1
   ·simp only[if_neg e];exact h1
  ·rcases hb with hb|hb
   ·exact hp.wr b (.inl hb)
   ·by_cases e:b=s.next
    ·by_cases hw:s'.wr.testBit b=true
     ·exact hp.wr b (.inl (.inr hw))
     ·have hk:=hp.keep (b:=b) (x:=W.heap.size) (o:=o) (o':=o') hI1 hG (by simp only[if_pos e]) (by simpa using hw) (.inl (by show b<s.next+1;omega)) (by show (s.heap.set s.next (some o)).get b=_;rw[Tr.get_set,if_pos e]) (by simp) (h.mono hle) (by simp only[if_pos e])
      exact .inr (.inr ⟨_,_,_,hk⟩)
    ·exact hp.wr b (.inr ⟨by show s.next+1≤b;omega,hb.2⟩)
  ·rw[hp.fr x (by simp only[Array.size_push];omega) (fun b h1=>?_)]
   ·exact hgo x hx
   ·dsimp only at h1;split at h1
    ·cases h1;omega
    ·exact hb b h1
  ·have:=hp.sz;simp only[Array.size_push]at this;omega
  ·by_cases e:b=s.next
   ·exfalso
    rcases hp.le.at_ b with k|⟨k,_⟩|⟨y,k,k2|k2⟩
    ·simp only[if_pos e]at k;cases k
    ·simp only[if_pos e]at k;cases k
    ·simp only[if_pos e]at k;cases k;rw[k2]at h2;cases h2;omega
    ·rw[k2]at h2;cases h2
   ·obtain⟨b0,k1,k2⟩:=hp.own b x (by simp only[if_neg e];exact h1) h2 (by simp only[Array.size_push];omega)
    dsimp only at k1
    split at k1
    ·cases k1;omega
    ·exact⟨b0,k1,k2⟩
 |shape=>intro s r s' W hr;cases hr
 |freeze=>intro s r s' W hr;cases hr
 |sys=>intro s r s' W hr;cases hr
 |frozen h _ ih=>
  rename_i ρ a a' k k' _
  intro s r s' W hr hI hW hf
  simp only[arun]at hr
  split at hr<;>try cases hr
  next c t fz hg=>
  rw[sq_eq]at hr
  have hG:=arun_grow _ _ _ _ hr
  have htb:s'.tch a.block:= .inl (hG.rd _ (bit_self _ _))
  obtain⟨hl,o',ho',hor,hcp⟩:=BR.live hW h.1 htb hg
  cases hor with
  |cells t h1 h2=>
   obtain⟨ρ',W',hres,hp⟩:=ih _ _ _ W hr hI hW hf
   refine⟨ρ',W',hres.head ?_,⟨hp.le,hp.dom,hp.kill,hp.inj,hp.wr,hp.fr,hp.sz,hp.os,hp.tape,hp.out,hp.own⟩⟩
   have:W.frozen? a'=false:=by
    unfold World.frozen?
    rw[ho'];simp
   simp only[Sem.run,this]
 |getObj h hk ih=>
  rename_i ρ b b' k k'
  intro s r s' W hr hI hW hf
  simp only[arun]at hr
  split at hr<;>try cases hr
  next o hno hg=>
  rw[sq_eq]at hr
  have hG:=arun_grow _ _ _ _ hr
  have htb:s'.tch b:= .inl (hG.rd _ (bit_self _ _))
  obtain⟨hl,o',ho',hor,hcp⟩:=BR.live hW h htb hg
  obtain⟨ρ',W',hres,hp⟩:=ih o o' hor _ _ _ W hr hI hW hf
  refine⟨ρ',W',hres.head ?_,⟨hp.le,hp.dom,hp.kill,hp.inj,hp.wr,hp.fr,hp.sz,hp.os,hp.tape,hp.out,hp.own⟩⟩
  cases hor with
  |cells t=>exact absurd rfl (hno _ _ _)
  |map=>simp only[Sem.run,ho']
  |stringIter=>simp only[Sem.run,ho']
  |mapIter0=>simp only[Sem.run,ho']
  |mapIter=>simp only[Sem.run,ho']
  |loop=>simp only[Sem.run,ho']
  |deferred=>simp only[Sem.run,ho']
  |deferred0=>simp only[Sem.run,ho']
  |set=>simp only[Sem.run,ho']
 |setObj h ho _ ih=>
  rename_i ρ b b' o o' k k' _
  intro s r s' W hr hI hW hf
  simp only[arun]at hr
  split at hr<;>try cases hr
  next hic=>
  split at hr<;>try cases hr
  next p hno hg=>
  rw[sq_eq]at hr
  have hG:=arun_grow _ _ _ _ hr
  have hwb:s'.wr.testBit b=true:=hG.wr _ (bit_self _ _)
  obtain⟨hl,p',hp',hor,hcp⟩:=BR.live hW h (.inr hwb) hg
  have hlt:=hI.lt _ _ hl
  have hset:∀x,(W.heap.setIfInBounds b' o')[x]? =if b'=x then some o' else W.heap[x]?:=fun x=>by
   rw[Array.getElem?_setIfInBounds]
   split
   ·rename_i e;subst e;first|rw[if_pos hlt]|rfl
   ·rfl
  have hW1:WR P ρ s'.tch (s.heap.set b (some o)) {W with heap:=W.heap.setIfInBounds b' o'}:=by
   intro c hc
   rw[Tr.get_set]
   by_cases e:c=b
   ·subst e
    exact .inr (.inr ⟨_,_,_,hl,by rw[if_pos rfl],by simp only[hset,if_pos],ho,by
     rw[hcp]
     cases hor<;>first|exact absurd rfl (hno _ _ _)|(cases ho<;>first|rfl|cases hic)⟩)
   ·rw[if_neg e]
    rcases hW c hc with k1|k1|⟨x,q,q',k1,k2,k3,k4⟩
    ·exact .inl k1
    ·exact .inr (.inl k1)
    ·refine .inr (.inr ⟨x,q,q',k1,k2,?_,k4⟩)
     simp only[hset]
     rw[if_neg (fun e2=>e (hI.inj _ _ _ k1 (by rw[hl,e2])))];exact k3
  obtain⟨ρ',W',hres,hp⟩:=ih _ _ _ {W with heap:=W.heap.setIfInBounds b' o'} hr ⟨hI.inj,fun b x hb=>by simpa using hI.lt b x hb⟩ hW1 hf
  refine⟨ρ',W',hres.head ?_,⟨hp.le,hp.dom,hp.kill,hp.inj,hp.wr,fun x hx hb=>?_,by have:=hp.sz;simpa using this,hp.os,hp.tape,hp.out,fun b x h1 h2 h3=>hp.own b x h1 h2 (by simpa using h3)⟩⟩
  ·cases hor with
   |cells t=>exact absurd rfl (hno _ _ _)
   |map=>simp only[Sem.run,hp']
   |stringIter=>simp only[Sem.run,hp']
   |mapIter0=>simp only[Sem.run,hp']
   |mapIter=>simp only[Sem.run,hp']
   |loop=>simp only[Sem.run,hp']
   |deferred=>simp only[Sem.run,hp']
   |deferred0=>simp only[Sem.run,hp']
   |set=>simp only[Sem.run,hp']
  ·rw[hp.fr x (by simpa using hx) hb]
   simp only[hset]
   rw[if_neg]
   rintro rfl
   have:=hb _ hl;rw[hwb]at this;cases this
 |choose h _ ih=>
  rename_i ρ q q' k k' _
  intro s r s' W hr hI hW hf
  simp only[arun]at hr
  split at hr
  ·rename_i hq
   obtain⟨ρ',W',hres,hp⟩:=ih _ _ _ W hr hI hW hf
   refine⟨ρ',W',hres.head ?_,hp⟩
   simp only[Sem.run,h,hq,if_true]
  ·cases hr
 |getObjD h=>
  intro s r s' W hr hI hW hf
  simp only[arun]at hr
  split at hr<;>try cases hr
  next o hno hg=>
  rw[sq_eq]at hr
  have hG:=arun_grow _ _ _ _ hr
  rcases hW _ (.inl (hG.rd _ (bit_self _ _))) with k|⟨_,k⟩|⟨x,p,p',k,_⟩
  ·rw[h]at k;cases k
  ·rw[hg]at k;cases k
  ·rw[h]at k;cases k
 |programL _ ih=>
  intro s r s' W hr hI hW hf
  simp only[arun]at hr
  exact ih _ _ _ W hr hI hW hf
 |program _ ih=>
  intro s r s' W hr hI hW hf
  simp only[arun]at hr
  obtain⟨ρ',W',hres,hp⟩:=ih _ _ _ W hr hI hW hf
  exact⟨ρ',W',hres.head (by simp only[Sem.run]),hp⟩
 |mark _ ih=>
  intro s r s' W hr hI hW hf
  simp only[arun]at hr
  obtain⟨ρ',W',hres,hp⟩:=ih _ _ _ W hr hI hW hf
  exact⟨ρ',W',hres.head (by simp only[Sem.run]),hp⟩
 |halt h=>
  rename_i ρ x t'
  intro s r s' W hr hI hW hf
  cases x<;>simp only[arun]at hr<;>try cases hr
  exact absurd rfl (h _)
 |panic h=>
  intro s r s' W hr hI hW hf
  simp only[arun,Option.some.injEq,Prod.mk.injEq]at hr
  obtain⟨rfl,rfl⟩:=hr
  exact⟨_,W,⟨_,rfl,h⟩,Post.refl hI hW⟩
end Go.Proofs.YtngglbakkedaiaaGreatDoor
