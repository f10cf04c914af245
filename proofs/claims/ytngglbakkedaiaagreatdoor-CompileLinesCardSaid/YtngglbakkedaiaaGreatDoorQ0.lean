import Derived.WalkKit
import Derived.ProofKit
import Derived.Below
import Derived.Test.YtngglbakkedaiaaGreatDoorProg
import Derived.WalkSpells
import Derived.WalkLawsBesides
import Derived.Lib.Hide
import Derived.Deep.AppendLies
import Derived.Deep.RegionHeld3
import Derived.OrdersHeld
import Derived.Tactics
import Derived.KernelRfl
import Derived.Laws.Tables
import Derived.Laws.Rows
import Derived.Shelf.Abstract
import Derived.RangeFuncNested
import Derived.RangeFuncBound
import Derived.Deep.LoopGhost
import Derived.Maps.OwnOps
import Derived.Maps.OwnSet
import Derived.Deep.QuietTactic
import Derived.BigQuiet
import Derived.BigRegion
import Derived.Deep.DeepCutAuto
set_option linter.all false
namespace Go.Proofs.YtngglbakkedaiaaGreatDoor
section
open Go.RowKit
theorem hqz9 {p:Prop} (h:p):Hid p:=h
theorem om0{p:Prop} (h:p:=by omega):p:=h
theorem kr0{p:Prop} (h:p:=by kernel_rfl):p:=h
theorem sm0{p:Prop} (h:p:=by simp):p:=h
theorem dc0{p:Prop} (h:p:=by decide):p:=h
theorem rf0{p:Prop} (h:p:=by rfl):p:=h
theorem so0{p:Prop} (h:p:=by simp;omega):p:=h
theorem sv0{p:Prop} (h:p:=by simp [Value.oneCell']):p:=h
theorem sl0{p:Prop} (h:p:=by simp [Oper.looksAt,Op.operands,Call.operands]):p:=h
theorem ic0{p:Prop} (h:p:=by intro c h;cases h):p:=h
theorem dk0{p:Prop} (h:p:=by decide+kernel):p:=h
theorem nx0{p:Prop} (h:p:=by intro r e;cases e):p:=h
theorem sx0{p:Prop} (h:p:=by intro r e;cases e;omega):p:=h
theorem sy0{p:Prop} (h:p:=by intro r e hb;cases e;omega):p:=h
theorem so1{p:Prop} (h:p:=by intro e;cases e;omega):p:=h
theorem se1{p:Prop} (h:p:=by intro e;cases e):p:=h
theorem sz0{p:Prop} (h:p:=by intro r e;cases e;exact Nat.le_refl _):p:=h
theorem i20{p:Prop} (h:p:=by intro _ _ h;exact h):p:=h
theorem t20{p:Prop} (h:p:=by intro _ _;trivial):p:=h
theorem oh0{p q:Prop} (h:q) (k:q→p:=by intro _;omega):p:=k h
theorem oq0{p q:Prop} (h:Hid q) (k:q→p:=by intro _;omega):p:=k h.out
theorem bo0{α:Type} [BEq α] [LawfulBEq α] {a b:α} (h:a≠b:=by omega):(a==b)=false:=beq_eq_false_iff_ne.2 h
theorem bn0{α:Type} [BEq α] [LawfulBEq α] {a b:α} (h:a≠b):(a==b)=false:=beq_eq_false_iff_ne.2 h
instance iA0:Coe World Nat:=⟨fun w=>w.heap.size⟩
instance iB0(w:World) (n:Nat):CoeDep (World×Nat) (w,n) Nat:=⟨w.heap.size+n⟩
instance iC0(w:World) (i:Nat):CoeDep (World×Nat) (w,i) Addr:=⟨⟨w.heap.size,i,none⟩⟩
instance iD0(w:World) (n i:Nat):CoeDep (World×Nat×Nat) (w,n,i) Addr:=⟨⟨w.heap.size+n,i,none⟩⟩
instance iE0(b i:Nat):CoeDep (Nat×Nat) (b,i) Addr:=⟨⟨b,i,none⟩⟩
theorem nl0{n:Nat}:n≤n:=Nat.le_refl n
end
section
def QN (Q:Exit→Act→World→Prop) (K:Act→World→Prop):Exit→Act→World→Prop
 | .normal,a,w=>K a w
 |e,a,w=>Q e a w
def sinkAt (ops:Array Oper) (i:Nat):Bool:=match ops[i]? with
 |some o=>(List.range ops.size).all fun j=>j==i||o.after.any (fun e=>Region.binds .any e&&e.on==j)
 |none=>false
section
variable {P:Program} {ops:Array Oper} {Q:Exit→Act→World→Prop} {S:World→Prop}
def wpAnyG (P:Program) (ops:Array Oper) (Q:Exit→Act→World→Prop) (S:World→Prop):Nat→Array Bool→Act→World→Prop
 |0,listed,a,w=>Region.ready .any ops listed= []∧Q .normal a w
 |fuel+1,listed,a,w=>
  (Region.ready .any ops listed= []→Q .normal a w)∧
  ∀i∈Region.ready .any ops listed,wpOp P ops Q i (fun a' w'=>(sinkAt ops i=false→S w')∧wpAnyG P ops Q S fuel (listed.setIfInBounds i true) a' w') a w
theorem wpAny_of_G:∀(fuel:Nat) (listed:Array Bool) (a:Act) (w:World),wpAnyG P ops Q S fuel listed a w→wpAny P .any ops Q fuel listed a w
 |0,_,_,_,h=>h
 |fuel+1,_,_,_,h=>⟨h.1,fun i hi=>wpOp_mono (fun a' w' h'=>wpAny_of_G fuel _ a' w' h'.2) (h.2 i hi)⟩
theorem wpAnyG_first {i:Nat} {oi:Oper} {v:Value} (hi:ops[i]? =some oi) (hsel:∀(j:Nat) (o:Oper) cs b,ops[j]? =some o→o.op≠ .select cs b)
  (hQ:∀c a w,Q (.panic c) (a.put oi.dst v) w→Q (.panic c) a w):
  ∀(fuel:Nat) (listed:Array Bool) (a:Act) (w:World),
   (∀j oj,ops[j]? =some oj→j≠i→listed.getD j true=false→(∀e∈oj.after,Region.binds .any e=true→e.on≠i)→oi.apart ops oj=true)→
   i∈Region.ready .any ops listed→YieldsIf P ops S oi v a→S w→
   wpAnyG P ops Q S fuel (listed.setIfInBounds i true) (a.put oi.dst v) w→wpAnyG P ops Q S (fuel+1) listed a w:=by
 intro fuel
 induction fuel with
 |zero=>
  intro listed a w _ hr hy hS H;refine⟨fun h=>(by rw[h]at hr;cases hr),fun j hj=> ?_⟩;by_cases hji:j=i
  ·subst hji;exact hy.wpOp hi hS ⟨fun _=>hS,H⟩
  ·have:=ready_mono hj hji;rw[H.1]at this;cases this
 |succ fuel ih=>
  intro listed a w hfree hr hy hS H;refine⟨fun h=>(by rw[h]at hr;cases hr),fun j hj=> ?_⟩;by_cases hji:j=i
  ·subst hji;exact hy.wpOp hi hS ⟨fun _=>hS,H⟩
  ·have h1:=H.2 j (ready_mono hj hji);obtain⟨hjun,oj,hoj,hall⟩:=mem_ready.1 hj;have hnot:∀e∈oj.after,Region.binds .any e=true→e.on≠i:=fun e he hb heq=>by
    have h1:=hall e he hb;have h0:=(mem_ready.1 hr).1;rw[heq]at h1;rcases Nat.lt_or_ge i listed.size with h'|h'
    ·simp [h']at h0 h1;rw[h0]at h1;cases h1
    ·simp [Array.getElem?_eq_none h']at h1
   have hsk:sinkAt ops j=false:=by
    cases hs:sinkAt ops j with
    |false=>rfl
    |true=>
     exfalso;simp only[sinkAt,hoj,List.all_eq_true,List.mem_range]at hs;have hlt:=(Array.getElem?_eq_some_iff.1 hi).1;have:=hs i hlt;simp only[Bool.or_eq_true,beq_iff_eq]at this;rcases this with h|h
     ·exact hji h.symm
     ·obtain⟨e,he,hb⟩:=Array.any_eq_true'.1 h;simp only[Bool.and_eq_true,beq_iff_eq]at hb;exact hnot e he hb.1 hb.2
   have h2:=wpOp_putIf hoj (hfree j oj hoj hji hjun hnot) (fun cs b=>hsel i oi cs b hi) (fun cs b=>hsel j oj cs b hoj) hQ hy h1;have hfree':∀k ok,ops[k]? =some ok→k≠i→(listed.setIfInBounds j true).getD k true=false→
     (∀e∈ok.after,Region.binds .any e=true→e.on≠i)→oi.apart ops ok=true:=fun k ok hk hki hun hno=>by
    refine hfree k ok hk hki ?_ hno;by_cases hjk:j=k
    ·subst hjk;exact hjun
    ·rw[getD_set_ne true hjk]at hun;exact hun
   refine wpOp_mono (fun a' w' h3=>⟨fun _=>h3.2.1 hsk,ih (listed.setIfInBounds j true) a' w' hfree' (ready_mono hr (Ne.symm hji)) h3.1 (h3.2.1 hsk) ?_⟩) h2;rw[Array.setIfInBounds_comm _ _ hji];exact h3.2.2
def wpOrd (P:Program) (ops:Array Oper) (Q:Exit→Act→World→Prop) (S:World→Prop):List (Nat×Oper)→Act→World→Prop
 | [],a,w=>Q .normal a w
 |(0,o)::r,a,w=>∃v,YieldsIf P ops S o v a∧S w∧(∀c a w,Q (.panic c) (a.put o.dst v) w→Q (.panic c) a w)∧wpOrd P ops Q S r (a.put o.dst v) w
 |(1,o)::r,a,w=>wpList P ops (QN Q fun a' w'=>S w'∧wpOrd P ops Q S r a' w') [o] a w
 |(_+2,o)::r,a,w=>wpList P ops (QN Q fun a' w'=>wpOrd P ops Q S r a' w') [o] a w
def ordB (ops:Array Oper):List (Nat×Nat)→Array Bool→Bool
 | [],listed=>(Region.ready .any ops listed).isEmpty
 |(0,i)::r,listed=>(Region.ready .any ops listed).contains i&&Region.free .any ops listed i&&ordB ops r (listed.setIfInBounds i true)
 |(1,i)::r,listed=>decide (Region.ready .any ops listed= [i])&&ordB ops r (listed.setIfInBounds i true)
 |(_+2,i)::r,listed=>decide (Region.ready .any ops listed= [i])&&sinkAt ops i&&ordB ops r (listed.setIfInBounds i true)
def pickOps (l : List Oper) (ord : List (Nat × Nat)) : List (Nat × Oper) := ord.map fun p => (p.1, (l[p.2]?).getD ⟨none, .move (.const undef), 0, "", #[], none⟩)
theorem wpOp_of_list {o:Oper} {i:Nat} (hi:ops[i]? =some o) {K:Act→World→Prop} {a:Act} {w:World} (h:wpList P ops (QN Q K) [o] a w):wpOp P ops Q i K a w:=by
 unfold wpOp;simp only[hi];unfold wpList at h;split at h
 ·next hw=>
  rw[if_pos hw];refine h.imp (fun h=> ?_) (fun h=>h);unfold Oper.wp at*;generalize (execOp a.eval o).run P w=r at*
  cases r with
  |ok n w'=>
   cases n<;>simp only[Oper.upon]at h⊢ <;>
    first
     |exact h
     |exact Calls.mono h (fun e w'' he=>by cases e<;>exact he)
     |exact Rows.mono h i20
  |halt x w'=>cases x<;>simp only[Oper.upon]at h⊢ <;>exact h
 ·next hw=>rw[if_neg hw];exact h
theorem wpAnyG_of_ord {l:List Oper} (hsel:Region.noSelect l.toArray=true):∀(ord:List (Nat×Nat)) (listed:Array Bool) (a:Act) (w:World),ordB l.toArray ord listed=true→wpOrd P l.toArray Q S (pickOps l ord) a w→wpAnyG P l.toArray Q S ord.length listed a w
 | [],listed,a,w,hB,h=>⟨by simpa [ordB]using hB,h⟩
 |(0,i)::r,listed,a,w,hB,h=>by
  simp only[ordB,Bool.and_eq_true]at hB
  obtain⟨⟨h1,h2⟩,h3⟩:=hB
  have hr:i∈Region.ready .any l.toArray listed:=by simpa using h1
  obtain⟨_,o,ho,_⟩:=mem_ready.1 hr
  have hp:pickOps l ((0,i)::r)=(0,o)::pickOps l r:=by
   have:l[i]? =some o:=by simpa using ho
   simp [pickOps,this]
  rw[hp]at h;obtain⟨v,hy,hS,hQ,hK⟩:=h;exact wpAnyG_first ho (Region.noSelect_spec hsel) hQ r.length listed a w (Region.free_spec ho h2) hr hy hS (wpAnyG_of_ord hsel r _ _ _ h3 hK)
 |(1,i)::r,listed,a,w,hB,h=>by
  simp only[ordB,Bool.and_eq_true,decide_eq_true_eq]at hB;obtain⟨h1,h3⟩:=hB;have hr:i∈Region.ready .any l.toArray listed:=by rw[h1];simp
  obtain⟨_,o,ho,_⟩:=mem_ready.1 hr;have hp:pickOps l ((1,i)::r)=(1,o)::pickOps l r:=by
   have:l[i]? =some o:=by simpa using ho
   simp [pickOps,this]
  rw[hp]at h;refine⟨fun h0=>(by rw[h1]at h0;cases h0),fun j hj=> ?_⟩;rw[h1]at hj;obtain rfl:j=i:=by simpa using hj
  exact wpOp_mono (fun a' w' h'=>⟨fun _=>h'.1,wpAnyG_of_ord hsel r _ _ _ h3 h'.2⟩) (wpOp_of_list ho h)
 |(k+2,i)::r,listed,a,w,hB,h=>by
  simp only[ordB,Bool.and_eq_true,decide_eq_true_eq]at hB;obtain⟨⟨h1,h2⟩,h3⟩:=hB;have hr:i∈Region.ready .any l.toArray listed:=by rw[h1];simp
  obtain⟨_,o,ho,_⟩:=mem_ready.1 hr;have hp:pickOps l ((k+2,i)::r)=(k+2,o)::pickOps l r:=by
   have:l[i]? =some o:=by simpa using ho
   simp [pickOps,this]
  rw[hp]at h;refine⟨fun h0=>(by rw[h1]at h0;cases h0),fun j hj=> ?_⟩;rw[h1]at hj;obtain rfl:j=i:=by simpa using hj
  exact wpOp_mono (fun a' w' h'=>⟨fun hs=>(by rw[h2]at hs;cases hs),wpAnyG_of_ord hsel r _ _ _ h3 h'⟩) (wpOp_of_list ho h)
theorem wp_region_ord {id:Nat} {l:List Oper} {a:Act} {w:World} (hm:P.follows .mixedOrders=true) (S:World→Prop) (ord:List (Nat×Nat))
  (hB:(Region.noSelect l.toArray&&decide (ord.length=l.length)&&ordB l.toArray ord (Array.replicate l.length false))=true)
  (h:wpOrd P l.toArray Q S (pickOps l ord) a {w with drawn:=w.drawn+1}):(Code.region id l.toArray true).wp P Q a w:=by
 simp only[Bool.and_eq_true,decide_eq_true_eq]at hB;obtain⟨⟨h1,h2⟩,h3⟩:=hB;refine wp_region_any hm ?_;have:=wpAny_of_G _ _ _ _ (wpAnyG_of_ord h1 ord _ a _ h3 h);rw[h2]at this;simpa using this
theorem wp_region_ordW {id:Nat} {l:List Oper} {a:Act} {w:World} (hm:P.follows .mixedOrders=true) (S:World→Prop) (ord:List (Nat×Nat))
  (hB:(Region.noSelect l.toArray&&decide (ord.length=l.length)&&ordB l.toArray ord (Array.replicate l.length false))=true)
  (hS:∀wd:World,wd.heap=w.heap→S wd)
  (h:∀wd:World,wd.heap=w.heap→w.grownBy wd none→S wd→wpOrd P l.toArray Q S (pickOps l ord) a wd):(Code.region id l.toArray true).wp P Q a w:=
 wp_region_ord hm S ord hB (h _ rfl ⟨rfl,rfl,rfl,Nat.le_refl _,fun _ _ _=>rfl⟩ (hS _ rfl))
theorem wpOrd_nil {a:Act} {w:World} (h:Q .normal a w):wpOrd P ops Q S [] a w:=h
theorem wpOrd_look {o:Oper} {r:List (Nat×Oper)} {a:Act} {w:World} {v:Value} (hw:Region.wanted o (yielded ops a.tmps)=true) (hv:∀w,S w→(execOp a.eval o).run P w= .ok (.value v) w) (hS:S w)
  (hQ:∀c a w,Q (.panic c) (a.put o.dst v) w→Q (.panic c) a w) (h:wpOrd P ops Q S r (a.put o.dst v) w):wpOrd P ops Q S ((0,o)::r) a w:=⟨v, .inl ⟨hw,hv⟩,hS,hQ,h⟩
theorem wpOrd_pass {o:Oper} {r:List (Nat×Oper)} {a:Act} {w:World} (hw:Region.wanted o (yielded ops a.tmps)=false) (hS:S w)
  (hQ:∀c a w,Q (.panic c) (a.put o.dst undef) w→Q (.panic c) a w) (h:wpOrd P ops Q S r (a.put o.dst undef) w):wpOrd P ops Q S ((0,o)::r) a w:=⟨undef, .inr ⟨hw,rfl⟩,hS,hQ,h⟩
theorem wpOrd_turn {o:Oper} {r:List (Nat×Oper)} {a:Act} {w:World} (h:wpList P ops (QN Q fun a' w'=>S w'∧wpOrd P ops Q S r a' w') [o] a w):wpOrd P ops Q S ((1,o)::r) a w:=h
theorem wpOrd_last {o:Oper} {r:List (Nat×Oper)} {a:Act} {w:World} (h:wpList P ops (QN Q fun a' w'=>wpOrd P ops Q S r a' w') [o] a w):wpOrd P ops Q S ((2,o)::r) a w:=h
theorem QN_keep {r:List (Nat×Oper)} {a:Act} {w:World} (hS:S w) (h:S w→wpOrd P ops Q S r a w):QN Q (fun a' w'=>S w'∧wpOrd P ops Q S r a' w') .normal a w:=⟨hS,h hS⟩
theorem QN_normal {K:Act→World→Prop} {a:Act} {w:World} (h:K a w):QN Q K .normal a w:=h
end
open Go.RowKit Go.Shelf
attribute [local go_sem] Oper.semAt_some
def InI (c:Int):Prop:= -9223372036854775808≤c∧c≤9223372036854775807
def pickI (c n:Int):Int:=if c<0 then(-(c+1))%n else c%n
theorem pickI_nonneg (c n:Int) (hn:1≤n):0≤pickI c n∧pickI c n<n:=by
 unfold pickI;split
 ·exact⟨Int.emod_nonneg _ om0,Int.emod_lt_of_pos _ om0⟩
 ·exact⟨Int.emod_nonneg _ om0,Int.emod_lt_of_pos _ om0⟩
theorem heap_new (w:World) (o:Obj):(w.alloc o).heap[w.heap.size]? =some o:=by
 show(w.heap.push o)[w.heap.size]? =_;simp
theorem below_a1 (w:World) (o:Obj):Below w w (w.alloc o):=(Below.refl _ w).alloc (Nat.le_refl _) _
theorem below_a2 (w:World) (o o':Obj):Below w w ((w.alloc o).alloc o'):=(below_a1 w o).alloc sm0 _
structure SlT (t e size bytes:Nat):Prop where
 ht:Tryz.prog.underlying t=some (.slice e)
 hi:∃i z,Tryz.prog.info? e=some i∧i.zero=some z∧i.size=size∧i.bytes=bytes∧z.cells.size=size
 pos:0<size
theorem SlT.mk' {t e size bytes:Nat} {z:Value} (ht:Tryz.prog.underlying t=some (.slice e)) (h:(Tryz.prog.info? e).map (fun i=>(i.zero,i.size,i.bytes))=some (some z,size,bytes)) (hz:z.cells.size=size) (hp:0<size):SlT t e size bytes:=by
 obtain⟨i0,hi,hz0,hz1,hz2⟩:=info_parts h;exact⟨ht,⟨i0,z,hi,hz0,hz1,hz2,hz⟩,hp⟩
theorem wpList_app {t e size bytes:Nat} (S:SlT t e size bytes) {w:World} {ops:Array Oper} {rest:List Oper} {o:Oper} {a:Act} {Q:Exit→Act→World→Prop} (hgd:o.guard=none) (s x:Operand)
  (ho:o.op= .call {callee:= .builtin .append,args:= #[s,x],argTypes:= #[t,t]})
  (base:Nat) (v:Value) (n:Nat) (xs:List Value) (hs:a.eval s=v) (hown:w.ownsRow base e size v n xs)
  (ad:Addr) (m c:Nat) (news:List Value) (hx:a.eval x= .slice (some ad) m c) (hl:news.length=m*size) (hnews:∀j u,news[j]? =some u→w.cell? (ad.add j)=some u) (h1:∀u∈news,u.oneCell'=true)
  (hm:0<m) (hbytes:(n+m)*bytes≤140737488355328) (h63:n+m≤maxLen) (hbase:base≤w.heap.size)
  (h:∀g cap w',w'.ownsRow base e size (.slice (some (g,0)) (n+m) cap) (n+m) (xs++news)→w.grownBy w' v.ownBlock→(v.ownBlock=some g∨g=w.heap.size)→g<w'.heap.size→wpList Tryz.prog ops Q rest (a.put o.dst (.slice (some (g,0)) (n+m) cap)) w'):wpList Tryz.prog ops Q (o::rest) a w:=by
 obtain⟨i,z,hi,hz,hsz,hby,hzs⟩:=S.hi;exact wpList_append_lies w hgd s x t ho base e i z size bytes S.ht hi hz hsz hby hzs S.pos v n xs hs hown ad m c news hx hl hnews h1 hm h63 hbytes hbase w.heap.size rfl h
theorem wpList_app0 {t e size bytes:Nat} (S:SlT t e size bytes) {w:World} {ops:Array Oper} {rest:List Oper} {o:Oper} {a:Act} {Q:Exit→Act→World→Prop} (hgd:o.guard=none) (s x:Operand)
  (ho:o.op= .call {callee:= .builtin .append,args:= #[s,x],argTypes:= #[t,t]})
  (base:Nat) (v:Value) (n:Nat) (xs:List Value) (hs:a.eval s=v) (hown:w.ownsRow base e size v n xs)
  (ad:Option Addr) (c:Nat) (hx:a.eval x= .slice ad 0 c)
  (h:wpList Tryz.prog ops Q rest (a.put o.dst v) w):wpList Tryz.prog ops Q (o::rest) a w:=by
 obtain⟨i,z,hi,hz,hsz,hby,hzs⟩:=S.hi;refine wpList_plain hgd fun K hK=> ?_;have hrun:(Builtin.append_ #[t,t] o.type #[v, .slice ad 0 c]).run Tryz.prog w= .ok v w:=by
  have hld:∀x:Addr,(loadCells x 0).run Tryz.prog w= .ok #[] w:=fun x=>by simp [loadCells,loadCellsFrom]
  rcases hown.2 with⟨rfl,rfl⟩|⟨g,cap,cur,rfl,_,_,hnc,_⟩
  ·cases ad<;>simp [Builtin.append_,run_underlying S.ht,sizeOf,typeInfo,hi,Builtin.lenOf,Builtin.firstCells,hld]
  ·cases ad<;>simp [Builtin.append_,run_underlying S.ht,sizeOf,typeInfo,hi,Builtin.lenOf,Builtin.firstCells,hnc,storeCells,hld]
 unfold Oper.wp;simp [execOp,ho,resolve,invoke,builtin,hs,hx,hrun,Result.andThen];exact hK _ _ h
def RSl {α:Type} (k:Nat) (R:World→(Nat→Value)→α→Prop) (w:World) (v:Value) (l:List α):Prop:=
 ∃a c,v= .slice a l.length c∧l.length≤140737488351232∧(l= []∨∃b o,a=some ⟨b,o,none⟩∧
  ∀i x,l[i]? =some x→∃C:Nat→Value,(∀j,j<k→w.cell? ⟨b,o+i*k+j,none⟩=some (C j))∧R w C x)
def RInt (_:World) (C:Nat→Value) (x:Int):Prop:=C 0= .int .i64 x∧InI x
def RInts:World→Value→List Int→Prop:=RSl 1 RInt
theorem add_nat (b o j:Nat):((b,o):Addr).add j=(b,o+j):=by
 unfold Addr.add;split
 ·next h=>subst h;rfl
 ·rfl
theorem cell_of_block {w:World} {g:Nat} {c:Array Value} {t:TypeId} {fr:Nat×Nat} (h:w.heap[g]? =some (.cells c t fr)) (j:Nat):w.cell? (g,j)=c[j]? :=by
 simp [World.cell?,h]
theorem RSl.below {α:Type} {k:Nat} {R:World→(Nat→Value)→α→Prop} (hR:∀{w w':World} {C:Nat→Value} {x:α},Below w w w'→R w C x→R w' C x) {w w':World} (hb:Below w w w') {v:Value} {l:List α} (h:RSl k R w v l):RSl k R w' v l:=by
 obtain⟨a,c,hv,hm,h⟩:=h;refine⟨a,c,hv,hm,h.imp id ?_⟩;rintro⟨b,o,ha,h⟩;refine⟨b,o,ha,fun i x hx=> ?_⟩;obtain⟨C,hC,hr⟩:=h i x hx;refine⟨C,fun j hj=> ?_,hR hb hr⟩;have:=hC j hj;rw[hb.cell (p:=(b,o+i*k+j)) (World.block_lt_of_cell? w _ this)];exact this
theorem RInts.below {w w':World} (hb:Below w w w') {v:Value} {l:List Int} (h:RInts w v l):RInts w' v l:=
 RSl.below (fun _ h=>h) hb h
theorem heap_old (w:World) (o:Obj) {k:Nat} {x:Obj} (h:w.heap[k]? =some x):(w.alloc o).heap[k]? =some x:=by
 rw[Below.heap_alloc w o k (Array.getElem?_eq_some_iff.1 h).1];exact h
theorem grown_old {w w':World} {row:Option Nat} (hg:w.grownBy w' row) {k:Nat} {x:Obj} (h:w.heap[k]? =some x) (hr:some k≠row):w'.heap[k]? =some x:=by
 rw[hg.block k (Array.getElem?_eq_some_iff.1 h).1 hr];exact h
abbrev I (x:Int):Value:= .int .i64 x
theorem grown_trans {a b c:World} {row:Option Nat} (h:a.grownBy b row) (k:b.grownBy c row):a.grownBy c row:=
 ⟨k.os.trans h.os,k.tape.trans h.tape,k.output.trans h.output,Nat.le_trans h.size k.size,fun i hi hne=>(k.block i (Nat.lt_of_lt_of_le hi h.size) hne).trans (h.block i hi hne)⟩
theorem below_grown {w w':World} (h:Below w w w') (row:Option Nat):w.grownBy w' row:=⟨h.os,h.tape,h.output,h.size,fun k hk _=>h.block k hk⟩
def NoTag (W:World) (row:Option Nat) (e:TypeId):Prop:=∀r,row=some r→∀c fr,W.heap[r]? ≠some (.cells c e fr)
theorem NoTag.none (W:World) (e:TypeId):NoTag W none e:=fun _ h=>by cases h
theorem NoTag.of {W:World} {r:Nat} {o:Obj} {e:TypeId} (h:W.heap[r]? =some o) (ho:∀c fr,o≠ .cells c e fr):NoTag W (some r) e:=fun r' e' c fr h'=>by
 cases e';rw[h]at h';exact ho c fr (by simpa using h')
theorem NoTag.box {W:World} {r:Nat} {cs:Array Value} {t:TypeId} {fr:Nat×Nat} (e:TypeId) (h:W.heap[r]? =some (.cells cs t fr)) (ho:t≠e):NoTag W (some r) e:=
 NoTag.of h (fun c fr e=>by simp at e;exact ho e.2.1)
theorem ownsRow_tag {W W':World} {row:Option Nat} {base:Nat} {e:TypeId} {size:Nat} {v:Value} {n:Nat} {xs:List Value} (h:W.ownsRow base e size v n xs) (hg:W.grownBy W' row) (hr:NoTag W row e):W'.ownsRow base e size v n xs:=by
 refine h.kept hg ?_;rcases h.2 with⟨rfl,_⟩|⟨g,cap,cur,rfl,_,hgb,_⟩
 ·exact .inl rfl
 ·refine .inr fun e'=> ?_;simp only[Value.ownBlock]at e';exact hr g e'.symm _ _ hgb
theorem ownsRow_notag {W:World} {base:Nat} {e:TypeId} {size:Nat} {v:Value} {n:Nat} {xs:List Value} (h:W.ownsRow base e size v n xs) {t:TypeId} (ht:e≠t):NoTag W v.ownBlock t:=by
 rcases h.2 with⟨rfl,_⟩|⟨g,cap,cur,rfl,_,hgb,_⟩
 ·exact NoTag.none _ _
 ·exact NoTag.box t hgb ht
theorem ownsRow_base {W:World} {base:Nat} {e:TypeId} {size:Nat} {v:Value} {n:Nat} {xs:List Value} (h:W.ownsRow base e size v n xs):∀k,v.ownBlock=some k→base≤k∧k<W.heap.size:=by
 intro k hk;rcases h.2 with⟨rfl,_⟩|⟨g,cap,cur,rfl,hb,hgb,_⟩
 ·cases hk
 ·simp [Value.ownBlock]at hk;subst hk;exact⟨hb,(Array.getElem?_eq_some_iff.1 hgb).1⟩
theorem ownsRow_kept' {W W':World} {row:Option Nat} {base:Nat} {e:TypeId} {size:Nat} {v:Value} {n:Nat} {xs:List Value} (h:W.ownsRow base e size v n xs) (hg:W.grownBy W' row) (hne:v.ownBlock=none∨v.ownBlock≠row):W'.ownsRow base e size v n xs:=h.kept hg hne
theorem setCell_grown (w:World) (g j:Nat) (v:Value):w.grownBy (w.setCell (g,j) v) (some g):=
 ⟨rfl,rfl,rfl,(KeepsWalks.setCell w _ v).size,fun k _ hk=>Below.heap_setCell _ _ _ k (fun e=>hk (by rw[e]))⟩
theorem alloc_grown (w:World) (o:Obj) (row:Option Nat):w.grownBy (w.alloc o) row:=below_grown (below_a1 w o) row
def Row (w:World) (g:Nat) (e:TypeId) (cs:List Value):Prop:=w.heap[g]? =some (.cells cs.toArray e (0,0))
theorem Row.lt {w:World} {g:Nat} {e:TypeId} {cs:List Value} (h:Row w g e cs):g<w.heap.size:=(Array.getElem?_eq_some_iff.1 h).1
theorem Row.cell {w:World} {g:Nat} {e:TypeId} {cs:List Value} (h:Row w g e cs) (j:Nat):w.cell? (g,j)=cs[j]? :=by
 rw[cell_of_block h];simp
def AllV:Nat→List Value→(List Value→Prop)→Prop
 |0,t,f=>f t
 |n+1,t,f=>∀x,AllV n t fun l=>f (x::l)
theorem AllV.at:∀{n:Nat} {t:List Value} {f:List Value→Prop},AllV n t f→∀l:List Value,l.drop n=t→l.length=n+t.length→f l
 |0,_,_,h,_,e,_=>by subst e;exact h
 |n+1,t,_,h,[],_,e=>by rw[List.length_nil]at e;omega
 |_+1,_,_,h,x::l,e,k=>AllV.at (h x) l e (by rw[List.length_cons]at k;omega)
theorem xq {α:Type _} (a:α):∃x,x=a:=⟨a,rfl⟩
theorem Row.k0 {w:World} {g:Nat} {e:TypeId} {x0:Value} {l:List Value} (h:Row w g e (x0::l)):w.cell? (g,0)=some x0:=h.cell 0
theorem Row.k1 {w:World} {g:Nat} {e:TypeId} {x0 x1:Value} {l:List Value} (h:Row w g e (x0::x1::l)):w.cell? (g,1)=some x1:=h.cell 1
theorem Row.k2 {w:World} {g:Nat} {e:TypeId} {x0 x1 x2:Value} {l:List Value} (h:Row w g e (x0::x1::x2::l)):w.cell? (g,2)=some x2:=h.cell 2
theorem Row.k3 {w:World} {g:Nat} {e:TypeId} {x0 x1 x2 x3:Value} {l:List Value} (h:Row w g e (x0::x1::x2::x3::l)):w.cell? (g,3)=some x3:=h.cell 3
theorem Row.k4 {w:World} {g:Nat} {e:TypeId} {x0 x1 x2 x3 x4:Value} {l:List Value} (h:Row w g e (x0::x1::x2::x3::x4::l)):w.cell? (g,4)=some x4:=h.cell 4
theorem Row.k5 {w:World} {g:Nat} {e:TypeId} {x0 x1 x2 x3 x4 x5:Value} {l:List Value} (h:Row w g e (x0::x1::x2::x3::x4::x5::l)):w.cell? (g,5)=some x5:=h.cell 5
theorem Row.k6 {w:World} {g:Nat} {e:TypeId} {x0 x1 x2 x3 x4 x5 x6:Value} {l:List Value} (h:Row w g e (x0::x1::x2::x3::x4::x5::x6::l)):w.cell? (g,6)=some x6:=h.cell 6
theorem Row.k7 {w:World} {g:Nat} {e:TypeId} {x0 x1 x2 x3 x4 x5 x6 x7:Value} {l:List Value} (h:Row w g e (x0::x1::x2::x3::x4::x5::x6::x7::l)):w.cell? (g,7)=some x7:=h.cell 7
theorem Row.k8 {w:World} {g:Nat} {e:TypeId} {x0 x1 x2 x3 x4 x5 x6 x7 x8:Value} {l:List Value} (h:Row w g e (x0::x1::x2::x3::x4::x5::x6::x7::x8::l)):w.cell? (g,8)=some x8:=h.cell 8
theorem Row.k9 {w:World} {g:Nat} {e:TypeId} {x0 x1 x2 x3 x4 x5 x6 x7 x8 x9:Value} {l:List Value} (h:Row w g e (x0::x1::x2::x3::x4::x5::x6::x7::x8::x9::l)):w.cell? (g,9)=some x9:=h.cell 9
theorem Row.k10 {w:World} {g:Nat} {e:TypeId} {x0 x1 x2 x3 x4 x5 x6 x7 x8 x9 x10:Value} {l:List Value} (h:Row w g e (x0::x1::x2::x3::x4::x5::x6::x7::x8::x9::x10::l)):w.cell? (g,10)=some x10:=h.cell 10
abbrev CR (n:Nat) (args:Array Value) (W:World) (v:Value):Prop:=Calls Tryz.prog n args W fun e w'=>e= .returned v∧Below W.heap.size W w'
theorem Row.frozen {w:World} {g:Nat} {e:TypeId} {cs:List Value} (h:Row w g e cs) (j:Nat):w.frozen? (g,j)=false:=by
 simp [World.frozen?,show w.heap[g]? =_ from h]
theorem Row.kept {w w':World} {row:Option Nat} {g:Nat} {e:TypeId} {cs:List Value} (h:Row w g e cs) (hg:w.grownBy w' row) (hne:some g≠row):Row w' g e cs:=(hg.block g h.lt hne).trans h
theorem Row.ext {w w':World} {g:Nat} {e:TypeId} {cs:List Value} (h:Row w g e cs) (hb:Below w w w'):Row w' g e cs:=(hb.block g h.lt).trans h
theorem Row.set {w:World} {g:Nat} {e:TypeId} {cs:List Value} (h:Row w g e cs) (j:Nat) (v:Value):Row (w.setCell (g,j) v) g e (cs.set j v):=by
 obtain⟨hlt,hk⟩:=Array.getElem?_eq_some_iff.1 h;show(w.heap.modify g _)[g]? =_;rw[Array.getElem?_eq_getElem (by rw[Array.size_modify];exact hlt),Array.getElem_modify_self,hk];simp
theorem gcell {w w':World} {row:Option Nat} {p:Addr} {v:Value} (h:w.cell? p=some v) (hg:w.grownBy w' row) (hne:some p.block≠row):w'.cell? p=some v:=
 (World.cell?_of_block (w:=w) (hg.block p.block (World.block_lt_of_cell? w _ h) hne)).trans h
theorem flat_get {α:Type} {enc:α→List Value} {k:Nat} (hk:∀x,(enc x).length=k):∀(l:List α) (i j:Nat),j<k→(l.flatMap enc)[i*k+j]? =(l[i]?).bind fun x=>(enc x)[j]?
 | [],i,j,_=>by simp
 |x::l,0,j,hj=>by
  rw[List.flatMap_cons,Nat.zero_mul,Nat.zero_add,List.getElem?_append_left (by rw[hk];exact hj)]
  simp
 |x::l,i+1,j,hj=>by
  rw[List.flatMap_cons,List.getElem?_append_right (by rw[hk,Nat.succ_mul];omega),hk,show(i+1)*k+j - k=i*k+j by rw[Nat.succ_mul];omega,flat_get hk l i j hj]
  simp
theorem flat_len {α:Type} {enc:α→List Value} {k:Nat} (hk:∀x,(enc x).length=k):∀(l:List α),(l.flatMap enc).length=l.length*k
 | []=>by simp
 |x::l=>by rw[List.flatMap_cons,List.length_append,hk,flat_len hk l,List.length_cons,Nat.succ_mul,Nat.add_comm]
def OwnS {α:Type} (k e:Nat) (enc:α→List Value) (w:World) (base:Nat) (v:Value) (l:List α):Prop:=w.ownsRow base e k v l.length (l.flatMap enc)
section
variable {α:Type} {k e:Nat} {enc:α→List Value} {w:World} {base:Nat} {v:Value} {l:List α}
theorem OwnS.nil:OwnS k e enc w base (.slice none 0 0) ([]:List α):=⟨sm0, .inl ⟨rfl,rfl⟩⟩
theorem OwnS.slice (h:OwnS k e enc w base v l):∃a c,v= .slice a l.length c:=by
 rcases h.2 with⟨rfl,h0⟩|⟨g,cap,_,rfl,_⟩
 ·exact⟨_,_,by rw[h0]⟩
 ·exact⟨_,_,rfl⟩
theorem OwnS.cell (h:OwnS k e enc w base v l) (hk:∀x,(enc x).length=k) {i:Nat} (hi:i<l.length):
  ∃g c,v= .slice (some ⟨g,0,none⟩) l.length c∧base≤g∧∀j,j<k→w.cell? ⟨g,i*k+j,none⟩=(enc l[i])[j]? ∧w.frozen? ⟨g,i*k+j,none⟩=false:=by
 rcases h.2 with⟨rfl,h0⟩|⟨g,cap,cur,rfl,hb,hg,hc,hm,hs,ht⟩
 ·omega
 ·refine⟨g,cap,rfl,hb,fun j hj=>⟨?_,by simp [World.frozen?,hg]⟩⟩;rw[cell_of_block hg];have h1:=flat_get hk l i j hj;rw[List.getElem?_eq_getElem hi]at h1;simp only[Option.bind_some]at h1;rw[←h1,←ht,List.getElem?_take];have h2:i*k+j<l.length*k:=by
   have:(i+1)*k≤l.length*k:=Nat.mul_le_mul_right k hi;rw[Nat.succ_mul]at this;omega
  simp [h2]
theorem OwnS.tag {w':World} {row:Option Nat} (h:OwnS k e enc w base v l) (hg:w.grownBy w' row) (hr:NoTag w row e):OwnS k e enc w' base v l:=ownsRow_tag h hg hr
theorem OwnS.mono {base':Nat} (h:OwnS k e enc w base v l) (hb:base'≤base):OwnS k e enc w base' v l:=
 ⟨h.1,h.2.imp (fun h=>h) (fun⟨g,cap,cur,h1,h2,h3⟩=>⟨g,cap,cur,h1,Nat.le_trans hb h2,h3⟩)⟩
end
theorem wpList_appS {α:Type} {t e k bytes:Nat} {enc:α→List Value} (S:SlT t e k bytes) {w:World} {ops:Array Oper} {rest:List Oper} {o:Oper} {a:Act} {Q:Exit→Act→World→Prop} (hgd:o.guard=none) (s x:Operand)
  (ho:o.op= .call {callee:= .builtin .append,args:= #[s,x],argTypes:= #[t,t]}) (hk:∀x,(enc x).length=k) (h1:∀x,∀u∈enc x,u.oneCell'=true)
  (base:Nat) (v:Value) (l:List α) (hs:a.eval s=v) (hown:OwnS k e enc w base v l)
  (g:Nat) (y:α) (hx:a.eval x= .slice (some (g,0)) 1 1) (hg:∀j,j<k→w.cell? (g,j)=(enc y)[j]?)
  (hl:l.length≤1000000000) (hb8:bytes≤100) (hbase:base≤w.heap.size)
  (h:∀g' cap w',OwnS k e enc w' base (.slice (some (g',0)) (l.length+1) cap) (l++ [y])→w.grownBy w' v.ownBlock→(v.ownBlock=some g'∨g'=w.heap.size)→g'<w'.heap.size→wpList Tryz.prog ops Q rest (a.put o.dst (.slice (some (g',0)) (l.length+1) cap)) w'):wpList Tryz.prog ops Q (o::rest) a w:=by
 refine wpList_app S hgd s x ho base v l.length _ hs hown ⟨g,0,none⟩ 1 1 (enc y) hx (by rw[hk];omega) ?_ (h1 y) dc0 ?_ (by unfold maxLen;omega) hbase ?_
 ·intro j u hu;rw[add_nat,Nat.zero_add];have hj:j<k:=by rw[←hk y];exact(List.getElem?_eq_some_iff.1 hu).1
  rw[hg j hj];exact hu
 ·have:(l.length+1)*bytes≤(l.length+1)*100:=Nat.mul_le_mul_left _ hb8;omega
 ·intro g' cap w' h1 h2 h3 h4;exact h g' cap w' (by unfold OwnS;rw[List.length_append,List.flatMap_append];simpa using h1) h2 h3 h4
structure Hold (p:Prop):Type where
 out:p
theorem lkA {P Q:Prop} (h:Q) (k:Hold Q→P:=by(intro hq;(repeat(refine wpOrd_look (v:= ?_) rf0 ?_ (by assumption) (fun _ _ _ h=>h) ?_;rotate_left;(·(intro wS hSw;(try dsimp only at hSw);go_simp;(first|done|with_reducible rfl)));simp only[Act.put,List.setIfInBounds_toArray,List.set_cons_zero,List.set_cons_succ]));exact hq.out)):P:=k ⟨h⟩
theorem lkB {P Q:Prop} (h:Q) (k:Hold Q→P:=by(intro hq;(repeat(first|(refine wpOrd_pass rf0 (by assumption) (fun _ _ _ h=>h) ?_;simp only[Act.put,List.setIfInBounds_toArray,List.set_cons_zero,List.set_cons_succ])|(refine wpOrd_look (v:= ?_) rf0 ?_ (by assumption) (fun _ _ _ h=>h) ?_;rotate_left;(·(intro wS hSw;(try dsimp only at hSw);go_simp;(first|done|with_reducible rfl)));simp only[Act.put,List.setIfInBounds_toArray,List.set_cons_zero,List.set_cons_succ])));exact hq.out)):P:=k ⟨h⟩
def oz:Nat→List Nat→List (Nat×Nat)
 |_,[]=>[]
 |n,a::l=>(a,n)::oz (n+1) l
theorem lkO {P Q:Prop} (h:Q) (k:Hold Q→P:=by(intro hq;(simp only[oz,Nat.reduceAdd,pickOps,List.map_cons,List.map_nil,List.getElem?_cons_zero,List.getElem?_cons_succ,Option.getD_some]);exact hq.out)):P:=k ⟨h⟩
theorem aN0{w w':World} {l:List Value} {t:TypeId} (h:w'=w.alloc (.cells l.toArray t)):Row w' w.heap.size t l:=by rw[h];exact heap_new _ _
theorem aB0{w w':World} {o:Obj} (h:w'=w.alloc o):Below w.heap.size w w':=by rw[h];exact below_a1 _ _
theorem aG0{w w':World} {o:Obj} (h:w'=w.alloc o):w.grownBy w' none:=by rw[h];exact alloc_grown _ _ _
theorem bg0{w w':World} (h:Hid (Below w.heap.size w w')):w.grownBy w' none:=below_grown h.out none
theorem hn0{w:World} {o:Obj}:(w.alloc o).heap[w.heap.size]? =some o:=heap_new w o
theorem nt0{W:World} {e:TypeId}:NoTag W none e:=NoTag.none W e
theorem ba0{w:World} {o:Obj}:Below w.heap.size w (w.alloc o):=below_a1 w o
theorem ho0{w:World} {o:Obj} {k:Nat} {x:Obj} (h:w.heap[k]? =some x):(w.alloc o).heap[k]? =some x:=heap_old w o h
theorem ag0{w:World} {o:Obj}:w.grownBy (w.alloc o) none:=alloc_grown w o none
theorem bt0{W w w':World} (h:Hid (Below W.heap.size W w)) (k:Below w.heap.size w w'):Hid (Below W.heap.size W w'):=h.out.trans (k.mono h.out.size)
theorem cu0{w wd:World} {a:Addr} {x:Option Value} (hh:wd.heap=w.heap) (h:Hid (w.cell? a=x)):wd.cell? a=x:=by unfold World.cell? at*;rw[hh];exact h.out
theorem kp0{w w':World} {g:Nat} {e:TypeId} {cs:List Value} {row:Option Nat} (h:Hid (Row w g e cs)) (k:w.grownBy w' row) (hr:some g≠row:=by simp):Hid (Row w' g e cs):=h.out.kept k hr
theorem xt0{w w':World} {g:Nat} {e:TypeId} {cs:List Value} (h:Hid (Row w g e cs)) (k:Below w.heap.size w w'):Hid (Row w' g e cs):=h.out.ext k
theorem gw0{W w w':World} {row:Option Nat} (h:Hid (Below W.heap.size W w)) (k:w.grownBy w' row) (hr:∀r,row=some r→W.heap.size≤r:=by intro r e;cases e<;>omega):Hid (Below W.heap.size W w'):=h.out.grown k h.out.size hr
theorem mh0{P:Program} {f:FuncId} {args:Array Value} {w:World} {v:Ending} {Q:World→Prop} {R:Ending→World→Prop} (h:Calls P f args w fun e w'=>e=v∧Q w') (k:∀w',Hid (Q w')→R v w'):Calls P f args w R:=h.mono fun _ w' h=>by rw[h.1];exact k w' h.2
theorem mr0{P:Program} {f:FuncId} {args:Array Value} {w:World} {v:Ending} {R:Ending→World→Prop} (h:Calls P f args w fun e w'=>e=v∧w'=w) (k:R v w):Calls P f args w R:=h.mono fun _ w' h=>by rw[h.1,h.2];exact k
theorem lkP {P Q:Prop} (h:Q) (k:Hold Q→P:=by(intro hq;(simp only[oz,Nat.reduceAdd,pickOps,List.map_cons,List.map_nil,List.getElem?_cons_zero,List.getElem?_cons_succ,Option.getD_some]);(repeat(first|(refine wpOrd_pass rf0 (by assumption) (fun _ _ _ h=>h) ?_;simp only[Act.put,List.setIfInBounds_toArray,List.set_cons_zero,List.set_cons_succ])|(refine wpOrd_look (v:= ?_) rf0 ?_ (by assumption) (fun _ _ _ h=>h) ?_;rotate_left;(·(intro wS hSw;(try dsimp only at hSw);go_simp;(first|done|with_reducible rfl)));simp only[Act.put,List.setIfInBounds_toArray,List.set_cons_zero,List.set_cons_succ])));refine wpOrd_turn ?_;exact hq.out)):P:=k ⟨h⟩
theorem lkN {P Q:Prop} (h:Q) (k:Hold Q→P:=by(intro hq;(repeat(first|(refine wpOrd_pass rf0 (by assumption) (fun _ _ _ h=>h) ?_;simp only[Act.put,List.setIfInBounds_toArray,List.set_cons_zero,List.set_cons_succ])|(refine wpOrd_look (v:= ?_) rf0 ?_ (by assumption) (fun _ _ _ h=>h) ?_;rotate_left;(·(intro wS hSw;(try dsimp only at hSw);go_simp;(first|done|with_reducible rfl)));simp only[Act.put,List.setIfInBounds_toArray,List.set_cons_zero,List.set_cons_succ])));refine wpOrd_nil ?_;exact hq.out)):P:=k ⟨h⟩
theorem lkQ {P Q:Prop} (h:Q) (k:Hold Q→P:=by(intro hq;(simp only[oz,Nat.reduceAdd,pickOps,List.map_cons,List.map_nil,List.getElem?_cons_zero,List.getElem?_cons_succ,Option.getD_some]);(repeat(refine wpOrd_look (v:= ?_) rf0 ?_ (by assumption) (fun _ _ _ h=>h) ?_;rotate_left;(·(intro wS hSw;(try dsimp only at hSw);go_simp;(first|done|with_reducible rfl)));simp only[Act.put,List.setIfInBounds_toArray,List.set_cons_zero,List.set_cons_succ]));refine wpOrd_turn ?_;exact hq.out)):P:=k ⟨h⟩
theorem lkE {P Q:Prop} (h:Q) (k:Hold Q→P:=by(intro hq;(repeat(first|(refine wpOrd_pass rf0 (by assumption) (fun _ _ _ h=>h) ?_;simp only[Act.put,List.setIfInBounds_toArray,List.set_cons_zero,List.set_cons_succ])|(refine wpOrd_look (v:= ?_) rf0 ?_ (by assumption) (fun _ _ _ h=>h) ?_;rotate_left;(·(intro wS hSw;(try dsimp only at hSw);go_simp;(first|done|with_reducible rfl)));simp only[Act.put,List.setIfInBounds_toArray,List.set_cons_zero,List.set_cons_succ])));refine wpOrd_turn ?_;exact hq.out)):P:=k ⟨h⟩
theorem lkM {P Q:Prop} (h:Q) (k:Hold Q→P:=by(intro hq;(repeat(refine wpOrd_look (v:= ?_) rf0 ?_ (by assumption) (fun _ _ _ h=>h) ?_;rotate_left;(·(intro wS hSw;(try dsimp only at hSw);go_simp;(first|done|with_reducible rfl)));simp only[Act.put,List.setIfInBounds_toArray,List.set_cons_zero,List.set_cons_succ]));refine wpOrd_nil ?_;exact hq.out)):P:=k ⟨h⟩
theorem rX0{Q:Exit→Act→World→Prop} {id:Nat} {l:List Oper} {a:Act} {w:World} (S:World→Prop) (ord:List (Nat×Nat)) (hS:∀wd:World,wd.heap=w.heap→S wd) (h:∀wd:World,wd.heap=w.heap→w.grownBy wd none→S wd→wpOrd Tryz.prog l.toArray Q S (pickOps l ord) a wd) (hm:Tryz.prog.follows .mixedOrders=true:=by kernel_rfl) (hB:(Region.noSelect l.toArray&&decide (List.length ord=l.length)&&ordB l.toArray ord (Array.replicate l.length false))=true:=by kernel_rfl):(Code.region id l.toArray true).wp Tryz.prog Q a w:=wp_region_ordW hm S ord hB hS h
theorem rW0{Q:Exit→Act→World→Prop} {id:Nat} {l:List Oper} {a:Act} {w:World} (S:World→Prop) (ns:List Nat) (hS:∀wd:World,wd.heap=w.heap→S wd) (h:∀wd:World,wd.heap=w.heap→w.grownBy wd none→S wd→wpOrd Tryz.prog l.toArray Q S (pickOps l (oz 0 ns)) a wd) (hm:Tryz.prog.follows .mixedOrders=true:=by kernel_rfl) (hB:(Region.noSelect l.toArray&&decide (List.length (oz 0 ns)=l.length)&&ordB l.toArray (oz 0 ns) (Array.replicate l.length false))=true:=by kernel_rfl):(Code.region id l.toArray true).wp Tryz.prog Q a w:=wp_region_ordW hm S (oz 0 ns) hB hS h
end
end Go.Proofs.YtngglbakkedaiaaGreatDoor
