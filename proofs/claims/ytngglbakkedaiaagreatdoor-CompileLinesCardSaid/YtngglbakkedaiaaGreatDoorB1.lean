import Derived.Test.YtngglbakkedaiaaGreatDoorN6
import Derived.Carry
set_option linter.all false
namespace Go.Proofs.YtngglbakkedaiaaGreatDoor
section
def afterHas (ops:Array Oper) (k j:Nat):Bool:=match ops[k]? with
 |some o=>o.after.any fun e=>Region.binds .any e&&e.on==j
 |none=>false
def chainV (ops:Array Oper):Nat→Nat→List Nat
 |0,i=> [i]
 |n+1,i=>i::match ops[i]? with
  |some o=>(match o.after[0]? with
   |some e=>if Region.binds .any e then chainV ops n e.on else []
   |none=> [])
  |none=> []
def sinkV (ops:Array Oper) (i:Nat):Bool:=(List.range ops.size).all fun j=>j==i||(chainV ops 6 i).any fun k=>afterHas ops k j
def Closed (ops:Array Oper) (listed:Array Bool):Prop:=∀k o,ops[k]? =some o→listed.getD k false=true→∀e∈o.after,Region.binds .any e=true→listed.getD e.on false=true
theorem closed_none (ops:Array Oper) (n:Nat):Closed ops (Array.replicate n false):=fun k o _ h=>by
 exfalso
 by_cases hk:k<n<;>simp [hk]at h
theorem getD_set_self {listed:Array Bool} {i:Nat} (h:listed.getD i true=false):(listed.setIfInBounds i true).getD i false=true:=by
 rcases Nat.lt_or_ge i listed.size with h'|h'
 ·simp [h']
 ·simp [Array.getElem?_eq_none h']at h
theorem closed_set {ops:Array Oper} {listed:Array Bool} {i:Nat} (h:Closed ops listed) (hi:i∈Region.ready .any ops listed):Closed ops (listed.setIfInBounds i true):=by
 intro k o hk hl e he hb;have hold:listed.getD e.on false=true→(listed.setIfInBounds i true).getD e.on false=true:=fun hh=>by
  by_cases hei:i=e.on
  ·rw[←hei];exact getD_set_self (mem_ready.1 hi).1
  ·rw[getD_set_ne false hei];exact hh
 by_cases hki:i=k
 ·subst hki;obtain⟨_,o',ho',hall⟩:=mem_ready.1 hi;obtain rfl:o=o':=Option.some.inj (hk.symm.trans ho');exact hold (hall e he hb)
 ·rw[getD_set_ne false hki]at hl;exact hold (h k o hk hl e he hb)
def AllIn (ops:Array Oper) (listed:Array Bool) (i:Nat):Prop:=∀o,ops[i]? =some o→∀e∈o.after,Region.binds .any e=true→listed.getD e.on false=true
theorem chain_all {ops:Array Oper} {listed:Array Bool} (hc:Closed ops listed):∀(n i:Nat),AllIn ops listed i→∀k∈chainV ops n i,AllIn ops listed k
 |0,i,h,k,hk=>by simp [chainV]at hk;subst hk;exact h
 |n+1,i,h,k,hk=>by
  rw[chainV,List.mem_cons]at hk
  rcases hk with rfl|hk
  ·exact h
  ·cases ho:ops[i]? with
   |none=>rw[ho]at hk;simp at hk
   |some o=>
    rw[ho]at hk
    simp only at hk
    cases he:o.after[0]? with
    |none=>rw[he]at hk;simp at hk
    |some e=>
     rw[he]at hk
     simp only at hk
     split at hk
     ·next hb=>
      have hl:=h o ho e (Array.mem_of_getElem? he) hb
      exact chain_all hc n e.on (fun o' ho'=>hc e.on o' ho' hl) k hk
     ·simp at hk
theorem sink_listed {ops:Array Oper} {listed:Array Bool} {i j:Nat} (hc:Closed ops listed) (hi:i∈Region.ready .any ops listed) (hs:sinkV ops i=true) (hj:j<ops.size) (hne:j≠i):listed.getD j false=true:=by
 obtain⟨_,o,ho,hall⟩:=mem_ready.1 hi;simp only[sinkV,List.all_eq_true,List.mem_range,Bool.or_eq_true,beq_iff_eq,List.any_eq_true]at hs;rcases hs j hj with h|⟨k,hk,ha⟩
 ·exact absurd h hne
 ·have hA:=chain_all hc 6 i (fun o' ho'=>by obtain rfl:=Option.some.inj (ho.symm.trans ho');exact hall) k hk;unfold afterHas at ha;cases hok:ops[k]? with
  |none=>rw[hok]at ha;simp at ha
  |some ok=>
   rw[hok]at ha;simp only at ha;obtain⟨e,he,hb⟩:=Array.any_eq_true'.1 ha;simp only[Bool.and_eq_true,beq_iff_eq]at hb;rw[←hb.2];exact hA ok hok e he hb.1
section
variable {P:Program} {ops:Array Oper} {Q:Exit→Act→World→Prop} {S:World→Prop}
def wpAnyV (P:Program) (ops:Array Oper) (Q:Exit→Act→World→Prop) (S:World→Prop):Nat→Array Bool→Act→World→Prop
 |0,listed,a,w=>Region.ready .any ops listed= []∧Q .normal a w
 |fuel+1,listed,a,w=>
  (Region.ready .any ops listed= []→Q .normal a w)∧
  ∀i∈Region.ready .any ops listed,wpOp P ops Q i (fun a' w'=>(sinkV ops i=false→S w')∧wpAnyV P ops Q S fuel (listed.setIfInBounds i true) a' w') a w
theorem wpAny_of_V:∀(fuel:Nat) (listed:Array Bool) (a:Act) (w:World),wpAnyV P ops Q S fuel listed a w→wpAny P .any ops Q fuel listed a w
 |0,_,_,_,h=>h
 |fuel+1,_,_,_,h=>⟨h.1,fun i hi=>wpOp_mono (fun a' w' h'=>wpAny_of_V fuel _ a' w' h'.2) (h.2 i hi)⟩
theorem wpAnyV_first {i:Nat} {oi:Oper} {v:Value} (hi:ops[i]? =some oi) (hsel:∀(j:Nat) (o:Oper) cs b,ops[j]? =some o→o.op≠ .select cs b)
  (hQ:∀c a w,Q (.panic c) (a.put oi.dst v) w→Q (.panic c) a w):
  ∀(fuel:Nat) (listed:Array Bool) (a:Act) (w:World),Closed ops listed→
   (∀j oj,ops[j]? =some oj→j≠i→listed.getD j true=false→(∀e∈oj.after,Region.binds .any e=true→e.on≠i)→oi.apart ops oj=true)→
   i∈Region.ready .any ops listed→YieldsIf P ops S oi v a→S w→
   wpAnyV P ops Q S fuel (listed.setIfInBounds i true) (a.put oi.dst v) w→wpAnyV P ops Q S (fuel+1) listed a w:=by
 intro fuel
 induction fuel with
 |zero=>
  intro listed a w _ _ hr hy hS H;refine⟨fun h=>(by rw[h]at hr;cases hr),fun j hj=> ?_⟩;by_cases hji:j=i
  ·subst hji;exact hy.wpOp hi hS ⟨fun _=>hS,H⟩
  ·have:=ready_mono hj hji;rw[H.1]at this;cases this
 |succ fuel ih=>
  intro listed a w hcl hfree hr hy hS H;refine⟨fun h=>(by rw[h]at hr;cases hr),fun j hj=> ?_⟩;by_cases hji:j=i
  ·subst hji;exact hy.wpOp hi hS ⟨fun _=>hS,H⟩
  ·have h1:=H.2 j (ready_mono hj hji);obtain⟨hjun,oj,hoj,hall⟩:=mem_ready.1 hj;have hun:=(mem_ready.1 hr).1;have hnl:listed.getD i false≠true:=fun h=>by
    rcases Nat.lt_or_ge i listed.size with h'|h'
    ·simp [h']at h hun;rw[hun]at h;cases h
    ·simp [Array.getElem?_eq_none h']at h
   have hnot:∀e∈oj.after,Region.binds .any e=true→e.on≠i:=fun e he hb heq=>by
    have h1:=hall e he hb;rw[heq]at h1;exact hnl h1
   have hsk:sinkV ops j=false:=by
    cases hs:sinkV ops j with
    |false=>rfl
    |true=>exact absurd (sink_listed hcl hj hs (Array.getElem?_eq_some_iff.1 hi).1 (Ne.symm hji)) hnl
   have h2:=wpOp_putIf hoj (hfree j oj hoj hji hjun hnot) (fun cs b=>hsel i oi cs b hi) (fun cs b=>hsel j oj cs b hoj) hQ hy h1;have hfree':∀k ok,ops[k]? =some ok→k≠i→(listed.setIfInBounds j true).getD k true=false→
     (∀e∈ok.after,Region.binds .any e=true→e.on≠i)→oi.apart ops ok=true:=fun k ok hk hki hun hno=>by
    refine hfree k ok hk hki ?_ hno;by_cases hjk:j=k
    ·subst hjk;exact hjun
    ·rw[getD_set_ne true hjk]at hun;exact hun
   refine wpOp_mono (fun a' w' h3=>⟨fun _=>h3.2.1 hsk,ih (listed.setIfInBounds j true) a' w' (closed_set hcl hj) hfree' (ready_mono hr (Ne.symm hji)) h3.1 (h3.2.1 hsk) ?_⟩) h2;rw[Array.setIfInBounds_comm _ _ hji];exact h3.2.2
end
end
section
inductive OT where
 |nil
 |one (k i:Nat) (r:OT)
 |two (i j:Nat) (r s:OT)
section
variable {P:Program} {Q:Exit→Act→World→Prop} {S:World→Prop}
def wpOrdT (P:Program) (l:List Oper) (Q:Exit→Act→World→Prop) (S:World→Prop):OT→Act→World→Prop
 | .nil,a,w=>Q .normal a w
 | .one 0 i r,a,w=>∃o v,l[i]? =some o∧YieldsIf P l.toArray S o v a∧S w∧(∀c a w,Q (.panic c) (a.put o.dst v) w→Q (.panic c) a w)∧wpOrdT P l Q S r (a.put o.dst v) w
 | .one 1 i r,a,w=>∃o,l[i]? =some o∧wpList P l.toArray (QN Q fun a' w'=>S w'∧wpOrdT P l Q S r a' w') [o] a w
 | .one (_+2) i r,a,w=>∃o,l[i]? =some o∧wpList P l.toArray (QN Q fun a' w'=>wpOrdT P l Q S r a' w') [o] a w
 | .two i j r s,a,w=>(∃o,l[i]? =some o∧wpList P l.toArray (QN Q fun a' w'=>S w'∧wpOrdT P l Q S r a' w') [o] a w)∧∃o,l[j]? =some o∧wpList P l.toArray (QN Q fun a' w'=>S w'∧wpOrdT P l Q S s a' w') [o] a w
def ordT (ops:Array Oper):OT→Nat→Array Bool→Bool
 | .nil,0,listed=>(Region.ready .any ops listed).isEmpty
 | .one 0 i r,n+1,listed=>(Region.ready .any ops listed).contains i&&Region.free .any ops listed i&&ordT ops r n (listed.setIfInBounds i true)
 | .one 1 i r,n+1,listed=>decide (Region.ready .any ops listed= [i])&&ordT ops r n (listed.setIfInBounds i true)
 | .one (_+2) i r,n+1,listed=>decide (Region.ready .any ops listed= [i])&&sinkV ops i&&ordT ops r n (listed.setIfInBounds i true)
 | .two i j r s,n+1,listed=>decide (Region.ready .any ops listed= [i,j])&&ordT ops r n (listed.setIfInBounds i true)&&ordT ops s n (listed.setIfInBounds j true)
 |_,_,_=>false
theorem wpAnyV_of_tree {l:List Oper} (hsel:Region.noSelect l.toArray=true):∀(t:OT) (n:Nat) (listed:Array Bool) (a:Act) (w:World),Closed l.toArray listed→ordT l.toArray t n listed=true→wpOrdT P l Q S t a w→wpAnyV P l.toArray Q S n listed a w
 | .nil,0,listed,a,w,_,hB,h=>⟨by simpa [ordT]using hB,h⟩
 | .nil,n+1,_,_,_,_,hB,_=>by simp [ordT]at hB
 | .one k i r,0,_,_,_,_,hB,_=>by simp [ordT]at hB
 | .two i j r s,0,_,_,_,_,hB,_=>by simp [ordT]at hB
 | .one 0 i r,n+1,listed,a,w,hcl,hB,h=>by
  simp only[ordT,Bool.and_eq_true]at hB
  obtain⟨⟨h1,h2⟩,h3⟩:=hB
  have hr:i∈Region.ready .any l.toArray listed:=by simpa using h1
  obtain⟨o,v,ho,hy,hS,hQ,hK⟩:=h
  have ho:l.toArray[i]? =some o:=by simpa using ho
  exact wpAnyV_first ho (Region.noSelect_spec hsel) hQ n listed a w hcl (Region.free_spec ho h2) hr hy hS (wpAnyV_of_tree hsel r _ _ _ _ (closed_set hcl hr) h3 hK)
 | .one 1 i r,n+1,listed,a,w,hcl,hB,h=>by
  simp only[ordT,Bool.and_eq_true,decide_eq_true_eq]at hB
  obtain⟨h1,h3⟩:=hB
  have hr:i∈Region.ready .any l.toArray listed:=by rw[h1];simp
  obtain⟨o,ho,h⟩:=h
  have ho:l.toArray[i]? =some o:=by simpa using ho
  refine⟨fun h0=>(by rw[h1]at h0;cases h0),fun j hj=> ?_⟩
  rw[h1]at hj
  obtain rfl:j=i:=by simpa using hj
  exact wpOp_mono (fun a' w' h'=>⟨fun _=>h'.1,wpAnyV_of_tree hsel r _ _ _ _ (closed_set hcl hr) h3 h'.2⟩) (wpOp_of_list ho h)
 | .one (k+2) i r,n+1,listed,a,w,hcl,hB,h=>by
  simp only[ordT,Bool.and_eq_true,decide_eq_true_eq]at hB
  obtain⟨⟨h1,h2⟩,h3⟩:=hB
  have hr:i∈Region.ready .any l.toArray listed:=by rw[h1];simp
  obtain⟨o,ho,h⟩:=h
  have ho:l.toArray[i]? =some o:=by simpa using ho
  refine⟨fun h0=>(by rw[h1]at h0;cases h0),fun j hj=> ?_⟩
  rw[h1]at hj
  obtain rfl:j=i:=by simpa using hj
  exact wpOp_mono (fun a' w' h'=>⟨fun hs=>(by rw[h2]at hs;cases hs),wpAnyV_of_tree hsel r _ _ _ _ (closed_set hcl hr) h3 h'⟩) (wpOp_of_list ho h)
 | .two i j r s,n+1,listed,a,w,hcl,hB,h=>by
  simp only[ordT,Bool.and_eq_true,decide_eq_true_eq]at hB
  obtain⟨⟨h1,h3⟩,h4⟩:=hB
  have hi:i∈Region.ready .any l.toArray listed:=by rw[h1];simp
  have hj:j∈Region.ready .any l.toArray listed:=by rw[h1];simp
  obtain⟨⟨o,ho,h⟩,o',ho',h'⟩:=h
  have ho:l.toArray[i]? =some o:=by simpa using ho
  have ho':l.toArray[j]? =some o':=by simpa using ho'
  refine⟨fun h0=>(by rw[h1]at h0;cases h0),fun k hk=> ?_⟩
  rw[h1]at hk
  rcases(by simpa using hk:k=i∨k=j)with rfl|rfl
  ·exact wpOp_mono (fun a' w' h'=>⟨fun _=>h'.1,wpAnyV_of_tree hsel r _ _ _ _ (closed_set hcl hi) h3 h'.2⟩) (wpOp_of_list ho h)
  ·exact wpOp_mono (fun a' w' h'=>⟨fun _=>h'.1,wpAnyV_of_tree hsel s _ _ _ _ (closed_set hcl hj) h4 h'.2⟩) (wpOp_of_list ho' h')
theorem wp_region_ordT {id:Nat} {l:List Oper} {a:Act} {w:World} (hm:P.follows .mixedOrders=true) (S:World→Prop) (t:OT)
  (hB:(Region.noSelect l.toArray&&ordT l.toArray t l.length (Array.replicate l.length false))=true)
  (hS:∀wd:World,wd.heap=w.heap→S wd)
  (h:∀wd:World,wd.heap=w.heap→w.grownBy wd none→S wd→wpOrdT P l Q S t a wd):(Code.region id l.toArray true).wp P Q a w:=by
 simp only[Bool.and_eq_true]at hB;obtain⟨h1,h3⟩:=hB;refine wp_region_any hm ?_;have:=wpAny_of_V _ _ _ _ (wpAnyV_of_tree h1 t _ _ a _ (closed_none _ _) h3 (h {w with drawn:=w.drawn+1} rfl ⟨rfl,rfl,rfl,Nat.le_refl _,fun _ _ _=>rfl⟩ (hS _ rfl)));simpa using this
theorem wpOrdT_nil {l:List Oper} {a:Act} {w:World} (h:Q .normal a w):wpOrdT P l Q S .nil a w:=h
theorem wpOrdT_look {l:List Oper} {i:Nat} {o:Oper} {r:OT} {a:Act} {w:World} {v:Value} (ho:l[i]? =some o) (hw:Region.wanted o (yielded l.toArray a.tmps)=true) (hv:∀w,S w→(execOp a.eval o).run P w= .ok (.value v) w) (hS:S w)
  (hQ:∀c a w,Q (.panic c) (a.put o.dst v) w→Q (.panic c) a w) (h:wpOrdT P l Q S r (a.put o.dst v) w):wpOrdT P l Q S (.one 0 i r) a w:=⟨o,v,ho, .inl ⟨hw,hv⟩,hS,hQ,h⟩
theorem lkT {P Q:Prop} (h:Q) (k:Hold Q→P:=by(intro hq;(repeat(refine wpOrdT_look (v:= ?_) rfl rf0 ?_ (by assumption) (fun _ _ _ h=>h) ?_;rotate_left;(·(intro wS hSw;(try dsimp only at hSw);go_simp;(first|done|with_reducible rfl)));simp only[Act.put,List.setIfInBounds_toArray,List.set_cons_zero,List.set_cons_succ]));exact hq.out)):P:=k ⟨h⟩
theorem wpOrdT_turn {l:List Oper} {i:Nat} {o:Oper} {r:OT} {a:Act} {w:World} (ho:l[i]? =some o) (h:wpList P l.toArray (QN Q fun a' w'=>S w'∧wpOrdT P l Q S r a' w') [o] a w):wpOrdT P l Q S (.one 1 i r) a w:=⟨o,ho,h⟩
theorem wpOrdT_last {l:List Oper} {i:Nat} {o:Oper} {r:OT} {a:Act} {w:World} (ho:l[i]? =some o) (h:wpList P l.toArray (QN Q fun a' w'=>wpOrdT P l Q S r a' w') [o] a w):wpOrdT P l Q S (.one 2 i r) a w:=⟨o,ho,h⟩
theorem wpOrdT_two {l:List Oper} {i j:Nat} {o o':Oper} {r s:OT} {a:Act} {w:World} (ho:l[i]? =some o) (ho':l[j]? =some o') (h:wpList P l.toArray (QN Q fun a' w'=>S w'∧wpOrdT P l Q S r a' w') [o] a w) (h':wpList P l.toArray (QN Q fun a' w'=>S w'∧wpOrdT P l Q S s a' w') [o'] a w):wpOrdT P l Q S (.two i j r s) a w:=⟨⟨o,ho,h⟩,o',ho',h'⟩
theorem QNT_keep {l:List Oper} {r:OT} {a:Act} {w:World} (hS:S w) (h:S w→wpOrdT P l Q S r a w):QN Q (fun a' w'=>S w'∧wpOrdT P l Q S r a' w') .normal a w:=⟨hS,h hS⟩
end
end
section
open Go.RowKit Go.Shelf
attribute [local go_sem] Oper.semAt_some
structure KF (F:Nat→Prop) (W W':World):Prop where
 os:W'.os=W.os
 tape:W'.tape=W.tape
 output:W'.output=W.output
 size:W.heap.size≤W'.heap.size
 block:∀b,F b→W'.heap[b]? =W.heap[b]?
theorem KF.refl (F:Nat→Prop) (W:World):KF F W W:=⟨rfl,rfl,rfl,Nat.le_refl _,fun _ _=>rfl⟩
theorem KF.trans {F:Nat→Prop} {A B C:World} (h:KF F A B) (k:KF F B C):KF F A C:=⟨k.os.trans h.os,k.tape.trans h.tape,k.output.trans h.output,Nat.le_trans h.size k.size,fun b hb=>(k.block b hb).trans (h.block b hb)⟩
theorem KF.mono {F F':Nat→Prop} {W W':World} (h:KF F' W W') (hF:∀b,F b→F' b):KF F W W':=⟨h.os,h.tape,h.output,h.size,fun b hb=>h.block b (hF b hb)⟩
theorem KF.grown {F:Nat→Prop} {W W':World} {row:Option Nat} (hg:W.grownBy W' row) (hl:∀b,F b→b<W.heap.size) (hr:∀r,row=some r→ ¬F r):KF F W W':=⟨hg.os,hg.tape,hg.output,hg.size,fun b hb=>hg.block b (hl b hb) (fun e=>hr b e.symm hb)⟩
theorem KF.below {F:Nat→Prop} {W W':World} (hb:Below W W W') (hl:∀b,F b→b<W.heap.size):KF F W W':=KF.grown (below_grown hb none) hl nx0
theorem KF.row {F:Nat→Prop} {W W':World} (h:KF F W W') {g:Nat} {t:TypeId} {cs:List Value} (hr:Row W g t cs) (hg:F g):Row W' g t cs:=(h.block g hg).trans hr
theorem cell_on {W W':World} {a:Addr} (h:W'.heap[a.block]? =W.heap[a.block]?):W'.cell? a=W.cell? a:=World.cell?_of_block (w:=W) h
theorem RSlB.on {α:Type} {B:Nat→Prop} {k:Nat} {R:World→(Nat→Value)→α→Prop} {w w':World} (hb:∀b,B b→w'.heap[b]? =w.heap[b]?) (hR:∀C x,R w C x→R w' C x) {v:Value} {l:List α} (h:RSlB B k R w v l):RSlB B k R w' v l:=by
 obtain⟨a,c,h1,h2,h3⟩:=h;refine⟨a,c,h1,h2,h3.imp (fun h=>h) ?_⟩;rintro⟨b,o,h4,h5,h6⟩;refine⟨b,o,h4,h5,fun i x hx=> ?_⟩;obtain⟨C,hC,hr⟩:=h6 i x hx;exact⟨C,fun j hj=>(cell_on (hb b h5)).trans (hC j hj),hR C x hr⟩
theorem RE.on:∀(d:Nat) {B:Nat→Prop} {w w':World} (_:∀b,B b→w'.heap[b]? =w.heap[b]?) {C:Nat→Value} {e:LE},RE d B w C e→RE d B w' C e
 |0,_,_,_,_,_,_,h=>h
 |d+1,_,_,_,hb,_,_,⟨h0,h1,h2,h3,h4⟩=>⟨h0,h1,h2,h3,h4.on hb fun _ _ h=>RE.on d hb h⟩
theorem EX.on {B:Nat→Prop} {w w':World} {av:Value} {e:LE} (h:EX B w av e) (hb:∀b,B b→w'.heap[b]? =w.heap[b]?):EX B w' av e:=by
 obtain⟨d,h⟩:=h;exact⟨d,h.on hb fun _ _ h=>RE.on d hb h⟩
theorem RS.on:∀(d:Nat) {B:Nat→Prop} {w w':World} (_:∀b,B b→w'.heap[b]? =w.heap[b]?) {C:Nat→Value} {s:LS},RS d B w C s→RS d B w' C s
 |0,_,_,_,_,_,_,h=>h
 |d+1,_,_,_,hb,_,_,⟨h0,h1,h2,h3,h4⟩=>⟨h0,h1,h2.on hb,h3.on hb fun _ _ h=>RS.on d hb h,h4.on hb fun _ _ h=>RS.on d hb h⟩
theorem SX.on {B:Nat→Prop} {w w':World} {v:Value} {l:List LS} (h:SX B w v l) (hb:∀b,B b→w'.heap[b]? =w.heap[b]?):SX B w' v l:=by
 obtain⟨d,h⟩:=h;exact⟨d,h.on hb fun _ _ h=>RS.on d hb h⟩
end
section
open Go.RowKit Go.Shelf
attribute [local go_sem] Oper.semAt_some
structure RunC where
 G:Nat→Prop
 p:LP
 av:Value
 fv:Value
 arv:Value
 gz:List (Nat×Nat)
 most:Int
 rb:Nat
end
section
open Go.RowKit Go.Shelf
def left (most:Int) (s:ESt):Nat:=(most - s.steps).toNat
end
section
open Go.RowKit Go.Shelf
attribute [local go_sem] Oper.semAt_some
set_option maxRecDepth 100000 in
theorem pick15_any (c n:Int) (hc:InI c) (hn:1≤n) (hn2:n≤4611686018427387904) (W:World):
  Calls Tryz.prog 7 #[I c,I n] W fun e w'=>e= .returned (I (pickI c n))∧w'=W:=by
 have hc':=hc;unfold InI at hc';have hne: ¬n=0:=om0
 by_cases h:c<0
 ·have hp:pickI c n= -(c+1).tmod n:=by
   unfold pickI;rw[if_pos h,←Int.neg_tmod,Int.tmod_eq_emod_of_nonneg om0]
  rw[hp];clear hp;go_enter Tryz.func7,Tryz.ntmps7;go_wp2;go_ret;exact⟨rfl,rfl⟩
 ·have hp:pickI c n=c%n:=by unfold pickI;rw[if_neg h]
  rw[hp];clear hp;go_enter Tryz.func7,Tryz.ntmps7;go_wp2;go_ret;exact⟨rfl,rfl⟩
end
section
open Go.RowKit Go.Shelf
attribute [local go_sem] Oper.semAt_some
structure AscF (f:LF):Prop where
 name:Asc f.name
 params:∀x∈f.params,Asc x
 locals:∀x∈f.locals,Asc x
 body:∀x∈f.body,AscS x
structure AscP (p:LP):Prop where
 arrays:∀a∈p.arrays,Asc a.name
 funcs:∀f∈p.funcs,AscF f
theorem named_oneA (x:Str) (h:Asc x) (w:World) (g:Nat) (hr:Row w g 9 [S x]):
  CR 36 #[.slice (some (g,0)) 1 1] w (.bool (isName x)):=by
 have hrs:RSlB (fun _=>True) 1 RStr w (.slice (some (g,0)) 1 1) [x]:=⟨_,_,rfl,sm0, .inr ⟨g,0,rfl,trivial,fun i y hy=>by
  cases i with
  |zero=>
   simp only[List.getElem?_cons_zero,Option.some.injEq]at hy;subst hy;refine⟨fun _=>S x,fun j hj=> ?_,rfl⟩;obtain rfl:j=0:=om0;rw[hr.cell];rfl
  |succ i=>simp at hy⟩⟩
 have:=named_any [x] (fun y hy=>by obtain rfl:=List.mem_singleton.1 hy;exact h) _ w _ hrs;simpa using this
theorem names_iff (l:List Str) (h:∀x∈l,Asc x):Names l↔l.all isName=true:=by
 rw[List.all_eq_true];exact⟨fun hn x hx=>(hn x hx).2,fun hn x hx=>⟨h x hx,hn x hx⟩⟩
set_option maxRecDepth 100000 in
set_option maxHeartbeats 16000000 in
theorem right_any (p:LP) (hap:AscP p) (av fv:Value) (w:World) (B:Nat→Prop) (hx:PX B w av fv p):
  CR 18 #[.agg #[av,fv]] w (.bool (bP (okP p))):=by
 have⟨Q,hQ⟩:=xq (bP (okP p));have HQ:=hqz9 hQ;rw[←hQ];obtain⟨aa,ac,fa,fc,rfl,rfl⟩:=hx.slice;have HX:=hqz9 hx;have HP:=hqz9 hap;have HB1:=hqz9 (below_a1 w (.cells #[.slice aa p.arrays.length ac, .slice fa p.funcs.length fc] 27));have HR1:=hqz9 (show Row (w.alloc (.cells #[.slice aa p.arrays.length ac, .slice fa p.funcs.length fc] 27)) w 27 [.slice aa p.arrays.length ac, .slice fa p.funcs.length fc]from heap_new _ _);have hla:=hx.arrays;have hlf:=hx.funcs;obtain⟨_,_,_,hln, -⟩:=hla;obtain⟨_,_,_,hlm, -⟩:=hlf;clear hx hap hQ;go_enter Tryz.func18,Tryz.ntmps18;go_upto_region 2 with(fail)
 go_loopg [10] p.arrays.length (fun gh i wr=>∃k:Nat,gh+k=p.arrays.length∧i=I k∧Hid (Below w w wr∧Row wr w 27 [.slice aa p.arrays.length ac, .slice fa p.funcs.length fc]∧∀j,(hj:j<p.arrays.length)→j<k→okA p.arrays[j]))
 case atStart=>exact⟨0,rfl,rfl,hqz9 ⟨HB1,HR1,fun j _ h=>absurd h om0⟩⟩
 case round=>
  obtain⟨k,hg,rfl,HH⟩:=hrel;obtain⟨wo,rfl⟩:=xq wr;by_cases hlt:k<p.arrays.length
  ·have hltz:(k:Int)<(p.arrays.length:Int):=om0;obtain⟨b,o,C,rfl,_,hC,hrx⟩:=(HX.arrays.below HH.out.1 (fun C x h=>h)).at hlt;have hok:=HP.arrays _ (List.getElem_mem hlt);have⟨x,hx⟩:=xq (p.arrays[k]);rw[←hx]at hrx hok;have HBAD:=hqz9 (show¬okA x→Q=false from fun hn=>by
    rw[HQ.out];exact bP_false fun h=>hn (by rw[hx];exact h.arrays _ (List.getElem_mem hlt)))
   have HXK:=hqz9 hx;have HASC:=hqz9 hok;obtain⟨h0,h1⟩:=hrx;have e0:=hC 0 om0;have e1:=hC 1 om0;rw[h0]at e0;rw[h1]at e1;simp only[Nat.add_zero]at e0 e1;have⟨nb,hnb⟩:=xq (isName x.name);have HN:=hqz9 (fun W g hr=>named_oneA x.name hok W g hr);rw[←hnb]at HN;have HNB:=hqz9 hnb;clear hC h0 h1 hok hx hnb;go_upto_region 4 with(refine sr 60 (.tmp 4) (.tmp 13) wo aZ hn0 ?_)
   obtain⟨w3,hw3⟩:∃w3,w3=(wo.alloc (.cells aZ 60)).setRow wo #[S x.name,I x.size]:=⟨_,rfl⟩;have hz:=HH.out.1.size;have hb3:Below w w w3:=by rw[hw3];exact(HH.out.1.alloc hz _).grown setRow_grown so0 sx0
   have hr3:Row w3 w 27 [.slice (some (b,o)) p.arrays.length ac, .slice fa p.funcs.length fc]:=by
    have:=HH.out.2.1.lt;rw[hw3];exact(setRow_other _ _ _ _ om0).trans (ho0 HH.out.2.1)
   have hx3:Row w3 wo 60 [S x.name,I x.size]:=by rw[hw3];exact setRow_heap _ _ _ _ _ _ hn0
   rw[←hw3];have c0:=hx3.cell 0;simp only[List.getElem?_cons_zero]at c0;have HB3:=hqz9 hb3;have HR3:=hqz9 hr3;have HX3:=hqz9 hx3;clear hw3 hb3 hr3 hx3 e0 e1;cases nb
   case false=>
    obtain rfl:Q=false:=HBAD fun h=>by have:=h.1.2;rw[←HNB.out]at this;cases this
    go_wp2_with (go_at_call 36;refine mh0 (HN _ w3.heap.size hn0) fun w4 hb4=> ?_;have hbb:=(below_a1 w3 (.cells #[S x.name] 9)).trans (hb4.mono sm0);have HB4:=bt0 HB3 hbb;have HR4:=xt0 HR3 hbb;have hx4:=HX3.ext hbb;have c1:=hx4.k1;clear hbb hx4)
    go_ret;exact⟨rfl,HB4⟩
   by_cases hs3:x.size<1
   case pos=>
    obtain rfl:Q=false:=HBAD fun h=>by have:=h.2.1;omega
    go_wp2_with (go_at_call 36;refine mh0 (HN _ w3.heap.size hn0) fun w4 hb4=> ?_;have hbb:=(below_a1 w3 (.cells #[S x.name] 9)).trans (hb4.mono sm0);have HB4:=bt0 HB3 hbb;have HR4:=xt0 HR3 hbb;have hx4:=HX3.ext hbb;have c1:=hx4.k1;clear hbb hx4)
    go_ret;exact⟨rfl,HB4⟩
   by_cases hs4:1048576<x.size
   case pos=>
    obtain rfl:Q=false:=HBAD fun h=>by have:=h.2.2;omega
    go_wp2_with (go_at_call 36;refine mh0 (HN _ w3.heap.size hn0) fun w4 hb4=> ?_;have hbb:=(below_a1 w3 (.cells #[S x.name] 9)).trans (hb4.mono sm0);have HB4:=bt0 HB3 hbb;have HR4:=xt0 HR3 hbb;have hx4:=HX3.ext hbb;have c1:=hx4.k1;clear hbb hx4)
    go_ret;exact⟨rfl,HB4⟩
   have HOK:=hqz9 (show okA x from⟨⟨HASC,HNB.out.symm⟩,om0,om0⟩);go_wp2_with (go_at_call 36;refine mh0 (HN _ w3.heap.size hn0) fun w4 hb4=> ?_;have hbb:=(below_a1 w3 (.cells #[S x.name] 9)).trans (hb4.mono sm0);have HB4:=bt0 HB3 hbb;have HR4:=xt0 HR3 hbb;have hx4:=HX3.ext hbb;have c1:=hx4.k1;clear hbb hx4)
   go_roundg (p.arrays.length - (k+1))
   case measure=>omega
   case rel=>exact⟨k+1,om0,by go_num,hqz9 ⟨HB4,HR4,fun j hj hjk=>by
    by_cases e:j=k
    ·subst e;rw[←HXK.out];exact HOK.out
    ·exact HH.out.2.2 j hj om0⟩⟩
  ·have hltz: ¬(k:Int)<(p.arrays.length:Int):=om0;have HB5:=hqz9 HH.out.1;have hr5:=HH.out.2.1;have HAR:=hqz9 (show∀a∈p.arrays,okA a from fun a ha=>by
    obtain⟨j,hj,rfl⟩:=List.getElem_of_mem ha;exact HH.out.2.2 j hj om0)
   have c1:=hr5.k1;clear HH hr5;go_upto_region 8 with(fail)
   go_loopg [33] p.funcs.length (fun gh i wr=>∃k:Nat,gh+k=p.funcs.length∧i=I k∧Hid (Below w w wr∧∀j,(hj:j<p.funcs.length)→j<k→okF p.funcs[j]))
   case atStart=>exact⟨0,rfl,rfl,hqz9 ⟨HB5,fun j _ h=>absurd h om0⟩⟩
   case round=>
    obtain⟨j,hg2,rfl,HH⟩:=hrel;obtain⟨wq,rfl⟩:=xq wr;by_cases hlt2:j<p.funcs.length
    ·have hltz2:(j:Int)<(p.funcs.length:Int):=om0;obtain⟨b,o,C,rfl,_,hC,hrx⟩:=(HX.funcs.below HH.out.1 (fun C x h=>h.grown (below_grown HH.out.1 none) nx0)).at hlt2;have hok:=HP.funcs _ (List.getElem_mem hlt2);have⟨x,hx⟩:=xq (p.funcs[j]);rw[←hx]at hrx hok;have HBAD:=hqz9 (show¬okF x→Q=false from fun hn=>by
      rw[HQ.out];exact bP_false fun h=>hn (by rw[hx];exact h.funcs _ (List.getElem_mem hlt2)))
     have HXK:=hqz9 hx;have HASC:=hqz9 hok;obtain⟨h0,hpar,hloc,hbody⟩:=hrx;have e0:=hC 0 om0;have e1:=hC 1 om0;have e2:=hC 2 om0;have e3:=hC 3 om0;obtain⟨pa,pc,hpv, -⟩:=id hpar;obtain⟨la,lc,hlv, -⟩:=id hloc;obtain⟨ba,bc,hbv⟩:=hbody.slice;rw[h0]at e0;rw[hpv]at e1 hpar;rw[hlv]at e2 hloc;rw[hbv]at e3 hbody;simp only[Nat.add_zero]at e0 e1 e2 e3;have⟨nb,hnb⟩:=xq (isName x.name);have⟨np,hnp⟩:=xq (x.params.all isName);have⟨nl,hnl⟩:=xq (x.locals.all isName);have⟨bb,hbb⟩:=xq (bP (∀y∈x.body,okS 40 y));have HN:=hqz9 (fun W g hr=>named_oneA x.name hok.name W g hr);have HNP:=hqz9 (fun W hh=>named_any x.params hok.params (.slice pa x.params.length pc) W B hh);have HNL:=hqz9 (fun W hh=>named_any x.locals hok.locals (.slice la x.locals.length lc) W B hh);have HNB:=hqz9 (stsA 40 om0 x.body (.slice ba x.body.length bc) B hok.body);rw[←hnb]at HN;rw[←hnp]at HNP;rw[←hnl]at HNL;rw[←hbb]at HNB;have HOKF:=hqz9 (show okF x↔nb=true∧np=true∧nl=true∧x.params.length≤6∧bb=true from by
      rw[hnb,hnp,hnl,hbb,bP_iff,←names_iff _ hok.params,←names_iff _ hok.locals];exact⟨fun h=>⟨h.1.2,h.2⟩,fun h=>⟨⟨hok.name,h.1⟩,h.2⟩⟩)
     have HPA:=hqz9 hpar;have HLO:=hqz9 hloc;have HBO:=hqz9 hbody;clear hC h0 hnp hnl hnb hbb hok hpar hloc hbody hpv hlv hbv hx;go_upto_region 10 with(refine sr 51 (.tmp 6) (.tmp 36) wq fZ4 hn0 ?_)
     obtain⟨w3,hw3⟩:∃w3,w3=(wq.alloc (.cells fZ4 51)).setRow wq #[S x.name, .slice pa x.params.length pc, .slice la x.locals.length lc, .slice ba x.body.length bc]:=⟨_,rfl⟩;have hz:=HH.out.1.size;have hb3:Below wq wq w3:=by rw[hw3];exact(below_a1 wq _).grown setRow_grown sm0 sx0
     have hx3:Row w3 wq 51 [S x.name, .slice pa x.params.length pc, .slice la x.locals.length lc, .slice ba x.body.length bc]:=by rw[hw3];exact setRow_heap _ _ _ _ _ _ hn0
     rw[←hw3];have c0:=hx3.cell 0;simp only[List.getElem?_cons_zero]at c0;have HB3:=hqz9 hb3;have HX3:=hqz9 hx3;clear hw3 hb3 hx3 e0 e1 e2 e3
     try clear c1
     cases nb
     case false=>
      obtain rfl:Q=false:=HBAD fun h=>by have:=(HOKF.1 h).1;cases this
      go_wp2_with (go_at_call 36;refine mh0 (HN _ w3.heap.size hn0) fun w4 hb4=> ?_;have hbb:=(below_a1 w3 (.cells #[S x.name] 9)).trans (hb4.mono sm0);have HB4:=bt0 HB3 hbb;have hx4:=HX3.ext hbb;have HX4:=hqz9 hx4;have c1:=hx4.k1;clear hbb hx4)
      go_ret;exact⟨rfl,HH.out.1.trans (HB4.mono hz)⟩
     cases np
     case false=>
      obtain rfl:Q=false:=HBAD fun h=>by have:=(HOKF.1 h).2.1;cases this
      go_wp2_with (first|(go_at_call 36;refine mh0 (HN _ w3.heap.size hn0) fun w4 hb4=> ?_;have hbb:=(below_a1 w3 (.cells #[S x.name] 9)).trans (hb4.mono sm0);have HB4:=bt0 HB3 hbb;have hx4:=HX3.ext hbb;have HX4:=hqz9 hx4;have c1:=hx4.k1;clear hbb hx4)|(go_at_call 36;refine mh0 (HNP _ (HPA.grown (bg0 HB4) nx0 i20)) fun w5 hb5=> ?_;have HB5:=bt0 HB4 hb5;have hx5:=HX4.ext hb5;have HX5:=hqz9 hx5;have c2:=hx5.k2;clear hx5))
      go_ret;exact⟨rfl,HH.out.1.trans (HB5.mono hz)⟩
     cases nl
     case false=>
      obtain rfl:Q=false:=HBAD fun h=>by have:=(HOKF.1 h).2.2.1;cases this
      go_wp2_with (first|(go_at_call 36;refine mh0 (HN _ w3.heap.size hn0) fun w4 hb4=> ?_;have hbb:=(below_a1 w3 (.cells #[S x.name] 9)).trans (hb4.mono sm0);have HB4:=bt0 HB3 hbb;have hx4:=HX3.ext hbb;have HX4:=hqz9 hx4;have c1:=hx4.k1;clear hbb hx4)|(go_at_call 36;refine mh0 (HNP _ (HPA.grown (bg0 HB4) nx0 i20)) fun w5 hb5=> ?_;have HB5:=bt0 HB4 hb5;have hx5:=HX4.ext hb5;have HX5:=hqz9 hx5;have c2:=hx5.k2;clear hx5)|(go_at_call 36;refine mh0 (HNL _ (HLO.grown (bg0 HB5) nx0 i20)) fun w6 hb6=> ?_;have HB6:=bt0 HB5 hb6;have hx6:=HX5.ext hb6;have HX6:=hqz9 hx6;have c1:=hx6.k1;have c3:=hx6.k3;clear hx6))
      go_ret;exact⟨rfl,HH.out.1.trans (HB6.mono hz)⟩
     by_cases hp6:x.params.length≤6
     case neg=>
      have hp6z:6<(x.params.length:Int):=om0;obtain rfl:Q=false:=HBAD fun h=>hp6 (HOKF.1 h).2.2.2.1;go_wp2_with (first|(go_at_call 36;refine mh0 (HN _ w3.heap.size hn0) fun w4 hb4=> ?_;have hbb:=(below_a1 w3 (.cells #[S x.name] 9)).trans (hb4.mono sm0);have HB4:=bt0 HB3 hbb;have hx4:=HX3.ext hbb;have HX4:=hqz9 hx4;have c1:=hx4.k1;clear hbb hx4)|(go_at_call 36;refine mh0 (HNP _ (HPA.grown (bg0 HB4) nx0 i20)) fun w5 hb5=> ?_;have HB5:=bt0 HB4 hb5;have hx5:=HX4.ext hb5;have HX5:=hqz9 hx5;have c2:=hx5.k2;clear hx5)|(go_at_call 36;refine mh0 (HNL _ (HLO.grown (bg0 HB5) nx0 i20)) fun w6 hb6=> ?_;have HB6:=bt0 HB5 hb6;have hx6:=HX5.ext hb6;have HX6:=hqz9 hx6;have c1:=hx6.k1;have c3:=hx6.k3;clear hx6))
      go_ret;exact⟨rfl,HH.out.1.trans (HB6.mono hz)⟩
     have hp6z: ¬6<(x.params.length:Int):=om0;cases bb
     case false=>
      obtain rfl:Q=false:=HBAD fun h=>by have:=(HOKF.1 h).2.2.2.2;cases this
      go_wp2_with (first|(go_at_call 36;refine mh0 (HN _ w3.heap.size hn0) fun w4 hb4=> ?_;have hbb:=(below_a1 w3 (.cells #[S x.name] 9)).trans (hb4.mono sm0);have HB4:=bt0 HB3 hbb;have hx4:=HX3.ext hbb;have HX4:=hqz9 hx4;have c1:=hx4.k1;clear hbb hx4)|(go_at_call 36;refine mh0 (HNP _ (HPA.grown (bg0 HB4) nx0 i20)) fun w5 hb5=> ?_;have HB5:=bt0 HB4 hb5;have hx5:=HX4.ext hb5;have HX5:=hqz9 hx5;have c2:=hx5.k2;clear hx5)|(go_at_call 36;refine mh0 (HNL _ (HLO.grown (bg0 HB5) nx0 i20)) fun w6 hb6=> ?_;have HB6:=bt0 HB5 hb6;have hx6:=HX5.ext hb6;have HX6:=hqz9 hx6;have c1:=hx6.k1;have c3:=hx6.k3;clear hx6)|(go_at_call 37;refine mh0 (HNB _ (HBO.grown (bg0 HB6) nx0)) fun w7 hb7=> ?_;have HB7:=bt0 HB6 hb7))
      go_ret;exact⟨rfl,HH.out.1.trans (HB7.mono hz)⟩
     have HOK:=hqz9 (HOKF.2 ⟨rfl,rfl,rfl,hp6,rfl⟩);go_wp2_with (first|(go_at_call 36;refine mh0 (HN _ w3.heap.size hn0) fun w4 hb4=> ?_;have hbb:=(below_a1 w3 (.cells #[S x.name] 9)).trans (hb4.mono sm0);have HB4:=bt0 HB3 hbb;have hx4:=HX3.ext hbb;have HX4:=hqz9 hx4;have c1:=hx4.k1;clear hbb hx4)|(go_at_call 36;refine mh0 (HNP _ (HPA.grown (bg0 HB4) nx0 i20)) fun w5 hb5=> ?_;have HB5:=bt0 HB4 hb5;have hx5:=HX4.ext hb5;have HX5:=hqz9 hx5;have c2:=hx5.k2;clear hx5)|(go_at_call 36;refine mh0 (HNL _ (HLO.grown (bg0 HB5) nx0 i20)) fun w6 hb6=> ?_;have HB6:=bt0 HB5 hb6;have hx6:=HX5.ext hb6;have HX6:=hqz9 hx6;have c1:=hx6.k1;have c3:=hx6.k3;clear hx6)|(go_at_call 37;refine mh0 (HNB _ (HBO.grown (bg0 HB6) nx0)) fun w7 hb7=> ?_;have HB7:=bt0 HB6 hb7))
     go_roundg (p.funcs.length - (j+1))
     case measure=>omega
     case rel=>exact⟨j+1,om0,by go_num,hqz9 ⟨HH.out.1.trans (HB7.mono hz),fun i hi hij=>by
      by_cases e:i=j
      ·subst e;rw[←HXK.out];exact HOK.out
      ·exact HH.out.2 i hi om0⟩⟩
    ·have hltz2: ¬(j:Int)<(p.funcs.length:Int):=om0;have hend:Q=true:=by
      rw[HQ.out];exact bP_true ⟨HAR,fun f hf=>by
       obtain⟨i,hi,rfl⟩:=List.getElem_of_mem hf;exact HH.out.2 i hi om0⟩
     subst hend;go_wp2;go_ret;exact⟨rfl,HH.out.1⟩
end
section
open Go.RowKit Go.Shelf
theorem asc_of {l:Str} (h:l.all (fun b=>decide (b.toNat<128))=true):Asc l:=by
 intro b hb;have:=List.all_eq_true.1 h b hb;simpa using this
end
section
open Go.RowKit Go.Shelf
attribute [local go_sem] Oper.semAt_some
theorem PX.lt {B:Nat→Prop} {W:World} {av fv:Value} {p:LP} (h:PX B W av fv p):PX (·<W.heap.size) W av fv p:=h.size.weak fun _b hb=>hb.2
theorem AscE.put {e:LE} (h1:Asc e.name) (h2:∀x∈e.args,AscE x):AscE e:=fun d=>by
 cases d with
 |zero=>trivial
 |succ d=>exact⟨h1,fun x hx=>h2 x hx d⟩
theorem AscS.one {k:Int} {e:LE} (h:AscE e):AscS (.mk k [] [e] [] []):=fun d=>by
 cases d with
 |zero=>trivial
 |succ d=>exact⟨fun b hb=>(by cases hb),fun x hx=>(by rw[List.mem_singleton.1 hx];exact h),fun x hx=>(by cases hx),fun x hx=>(by cases hx)⟩
end
section
open Go.RowKit Go.Shelf
attribute [local go_sem] Oper.semAt_some
theorem pick_eq (c n:Int) (h:c<0):pickI c n= -(c+1).tmod n:=by
 unfold pickI;rw[if_pos h,←Int.neg_tmod,Int.tmod_eq_emod_of_nonneg om0]
set_option maxRecDepth 100000 in
theorem pick44_any (c n:Int) (hc:InI c) (hn:1≤n) (hn2:n≤4611686018427387904) (W:World):
  Calls Tryz.prog 32 #[I c,I n] W fun e w'=>e= .returned (I (pickI c n))∧w'=W:=by
 have hc':=hc;unfold InI at hc';have hne: ¬n=0:=om0
 by_cases h:c<0
 ·rw[pick_eq c n h];go_enter Tryz.func32,Tryz.ntmps32;go_wp2;go_ret;exact⟨rfl,rfl⟩
 ·have hp:pickI c n=c%n:=by unfold pickI;rw[if_neg h]
  rw[hp];clear hp;go_enter Tryz.func32,Tryz.ntmps32;go_wp2;go_ret;exact⟨rfl,rfl⟩
set_option maxRecDepth 100000 in
theorem pick79_any (c n:Int) (hc:InI c) (hn:1≤n) (hn2:n≤4611686018427387904) (W:World):
  Calls Tryz.prog 56 #[I c,I n] W fun e w'=>e= .returned (I (pickI c n))∧w'=W:=by
 have hc':=hc;unfold InI at hc';have hne: ¬n=0:=om0
 by_cases h:c<0
 ·rw[pick_eq c n h];go_enter Tryz.func56,Tryz.ntmps56;go_wp2;go_ret;exact⟨rfl,rfl⟩
 ·have hp:pickI c n=c%n:=by unfold pickI;rw[if_neg h]
  rw[hp];clear hp;go_enter Tryz.func56,Tryz.ntmps56;go_wp2;go_ret;exact⟨rfl,rfl⟩
def Src (sb:Nat) (W:World):Prop:=∃(v:Value) (l:List Int) (at':Nat),Row W sb 44 [v,I at']∧RSlB (·<sb) 1 RInt W v l∧at'≤l.length
theorem Src.kept {sb:Nat} {W W':World} {row:Option Nat} (h:Src sb W) (hg:W.grownBy W' row) (hr:∀r,row=some r→sb<r):Src sb W':=by
 obtain⟨v,l,k,h1,h2,h3⟩:=h;refine⟨v,l,k,h1.kept hg (fun e=> ?_),h2.grown hg (fun r e=> ?_) i20,h3⟩
 ·have:=hr sb e.symm;omega
 ·have:=hr r e;omega
theorem Src.lt {sb:Nat} {W:World} (h:Src sb W):sb<W.heap.size:=by
 obtain⟨v,l,k,h1,_⟩:=h;exact h1.lt
def SG (sb:Nat) (W W':World):Prop:=W.grownBy W' (some sb)∧Src sb W'
theorem SG.trans {sb:Nat} {a b c:World} (h:SG sb a b) (k:SG sb b c):SG sb a c:=⟨grown_trans h.1 k.1,k.2⟩
set_option maxRecDepth 100000 in
set_option maxHeartbeats 4000000 in
theorem next25_any (sb:Nat) (n:Int) (W:World) (h:Src sb W) (hn:1≤n) (hn2:n≤4611686018427387904):
  Calls Tryz.prog 12 #[.pointer (some (sb,0)),I n] W fun e w'=>(∃r:Int,e= .returned (I r)∧0≤r∧r<n)∧SG sb W w':=by
 obtain⟨v,l,k,hr,hl,hk⟩:=h;obtain⟨a0,c0,rfl,hl9, -⟩:=id hl;have⟨N,hN⟩:=xq l.length;rw[←hN]at hl hr hk hl9;have HR:=hqz9 hr;have HL:=hqz9 hl;have HN:=hqz9 hN;clear hl hN hr;go_enter Tryz.func12,Tryz.ntmps12;go_upto_region 1 with(fail)
 refine rW0 (fun X=>X.cell? (sb,0)=some (.slice a0 N c0)∧X.cell? (sb,1)=some (I k)) [0,0,0,0,0,0,0,0,0,0] (fun wd hh=>⟨row_at HR.out hh 0,row_at HR.out hh 1⟩) fun wd hh hgd hS=> ?_;have HR1:Hid (Row wd sb 44 [.slice a0 N c0,I k]):=HR.kept hgd sm0;have HL1:Hid (RSlB (·<sb) 1 RInt wd (.slice a0 N c0) l):=HL.grown hgd nx0 i20;have HG1:=hqz9 (show W.grownBy wd (some sb)from⟨hgd.os,hgd.tape,hgd.output,hgd.size,fun i hi _=>hgd.block i hi sm0⟩);clear hh hgd;refine lkO ?_;refine lkN ?_;by_cases hlt:k<N
 ·have hltz: ¬(N:Int)≤(k:Int):=om0;obtain⟨b,o,C,rfl,hb,hC,hrx⟩:=HL1.at (show k<l.length by rw[←HN.out];exact hlt);have⟨x,hx⟩:=xq (l[k]'(by rw[←HN.out];exact hlt));rw[←hx]at hrx;have e1:=hC 0 om0;rw[hrx.1]at e1;simp only[Nat.mul_one,Nat.add_zero]at e1;have c0':=HR1.k0;have c1:=HR1.k1;have f1:=HR1.frozen 1;have HI:=hqz9 hrx.2;have HE1:=hqz9 e1;clear hC hrx hx e1;clear hS;have HPP:=hqz9 (pickI_nonneg x n hn);go_upto_region 4 with(fail)
  have⟨w3,hw3⟩:=xq (wd.setCell (sb,1) (I ((k:Int)+1)));have hg3:wd.grownBy w3 (some sb):=by rw[hw3];exact setCell_grown _ _ _ _
  have hr3:Row w3 sb 44 [.slice (some (b,o)) N c0,I ((k:Int)+1)]:=by rw[hw3];exact HR1.set 1 _
  rw[←hw3];have he3:w3.cell? (b,o+k)=some (I x):=gcell HE1 hg3 so0;have HL3:Hid (RSlB (·<sb) 1 RInt w3 (.slice (some (b,o)) N c0) l):=HL1.grown hg3 sx0 i20;have HG3:=hqz9 (grown_trans HG1.out hg3);have HR3:=hqz9 hr3;have HE3:=hqz9 he3;clear hw3 hg3 hr3 he3 c0' c1 f1;refine rW0 (fun X=>X.cell? (sb,0)=some (.slice (some (b,o)) N c0)∧X.cell? (sb,1)=some (I ((k:Int)+1))∧X.cell? (b,o+k)=some (I x)) [0,0,0,0,0,0,0,0,0,0,0,0,1,0] (fun wd hh=>⟨row_at HR3.out hh 0,row_at HR3.out hh 1,cu0 hh HE3⟩) fun w4 hh hgd hS=> ?_;have HR4:=hqz9 (show Row w4 sb 44 [.slice (some (b,o)) N c0,I ((k:Int)+1)]from HR3.kept hgd sm0);have HL4:=hqz9 (show RSlB (·<sb) 1 RInt w4 (.slice (some (b,o)) N c0) l from HL3.grown hgd nx0 i20);have HG4:=hqz9 (grown_trans HG3.out (show w3.grownBy w4 (some sb)from⟨hgd.os,hgd.tape,hgd.output,hgd.size,fun i hi _=>hgd.block i hi sm0⟩));have hwk:IntKind.i64.wrap (k:Int)=k:=IntWalk.i64_in _ om0;clear hh hgd;refine lkP ?_;go_wp2_with (go_at_call 32;refine(pick44_any x n HI hn hn2 w4).mono ?_;rintro e w5⟨rfl,rfl⟩)
  refine QN_keep hS fun hS=> ?_;refine lkM ?_;clear hS;go_wp2;go_ret;exact⟨⟨pickI x n,rfl,HPP.1,HPP.2⟩,HG4,_,l,k+1,HR4,HL4,by rw[←HN.out];omega⟩
 ·have hltz:(N:Int)≤(k:Int):=om0;clear hS;go_wp2;go_ret;exact⟨⟨0,rfl,om0,om0⟩,HG1,_,l,k,HR1,HL1,by rw[←HN.out];exact hk⟩
end
end Go.Proofs.YtngglbakkedaiaaGreatDoor
