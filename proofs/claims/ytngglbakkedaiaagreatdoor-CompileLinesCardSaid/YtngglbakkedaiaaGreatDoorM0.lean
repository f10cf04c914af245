import Derived.Test.YtngglbakkedaiaaGreatDoorU3
import Derived.OrdersIn
import Derived.OwnWalkIn
import Derived.Sort.OwnSorted
import Derived.RangeFuncCalls
import Derived.RangeFuncLeaves
import Derived.Shelf.RegionOpen
import Derived.TacticsInMore
import Derived.LoopNIn
import Derived.LoopIn
import Derived.Maps.AppendAt
import Derived.Sort.LoopGhostIn
import Derived.Deep.WholeRow
import Derived.Sort.CutIn
import Derived.Lib.AppendZeros
set_option linter.all false
namespace Go.Proofs.YtngglbakkedaiaaGreatDoor
section
open Go.RowKit
section
variable {F:Fence} {n:Nat} {P:Program} {ops:Array Oper} {Q:Exit→Act→World→Prop}
def cntF (l:Array Bool):Nat:=l.toList.countP (fun b=> !b)
theorem cntF_set {l:Array Bool} {i:Nat} (hi:i<l.size) (h:l.getD i true=false):cntF (l.setIfInBounds i true)+1=cntF l:=by
 obtain⟨l⟩:=l;simp only[List.size_toArray]at hi;simp only[cntF,List.setIfInBounds_toArray];simp only[Array.getD_eq_getD_getElem?,List.getElem?_toArray]at h
 induction l generalizing i with
 |nil=>simp at hi
 |cons b l ih=>
  cases i with
  |zero=>
   simp at h;subst h;simp
  |succ i=>
   simp only[List.length_cons,Nat.add_lt_add_iff_right]at hi;simp only[List.getElem?_cons_succ]at h;have:=ih hi h;simp only[List.set_cons_succ,List.countP_cons];omega
theorem mem_rdyZ {md:Region.Mode} {listed:Array Bool} {i:Nat} (h:i∈Region.ready md ops listed):i<ops.size∧listed.getD i true=false∧∃o,ops[i]? =some o∧∀e∈o.after.toList,Region.binds md e=true→listed.getD e.on false=true:=by
 unfold Region.ready at h;simp only[List.mem_filter,List.mem_range,Bool.and_eq_true,Bool.not_eq_true']at h;obtain⟨h1,h2,h3⟩:=h;refine⟨h1,h2, ?_⟩;cases ho:ops[i]? with
 |none=>rw[ho]at h3;simp at h3
 |some o=>
  rw[ho]at h3;simp only[Option.map_some,Option.getD_some]at h3;refine⟨o,rfl,fun e he hb=> ?_⟩;rw[←Array.all_toList,List.all_eq_true]at h3;have:=h3 e he;simpa [hb]using this
theorem cntF_zero {l:Array Bool} (h:cntF l=0) (i:Nat):l.getD i true=true:=by
 obtain⟨l⟩:=l;simp only[cntF,List.countP_eq_zero,Bool.not_eq_true',Bool.not_eq_false]at h;simp only[Array.getD_eq_getD_getElem?,List.getElem?_toArray];cases hi:l[i]? with
 |none=>rfl
 |some b=>exact h b (List.mem_of_getElem? hi)
theorem wpAnyIn_inv (J:Array Bool→Act→World→Prop)
  (hstep:∀listed a w i,listed.size=ops.size→J listed a w→i∈Region.ready .any ops listed→wpOpIn F n P ops Q i (J (listed.setIfInBounds i true)) a w)
  (hend:∀listed a w,listed.size=ops.size→J listed a w→Region.ready .any ops listed= []→Q .normal a w):
  ∀(fuel:Nat) (listed:Array Bool) (a:Act) (w:World),listed.size=ops.size→cntF listed≤fuel→J listed a w→wpAnyIn F n P .any ops Q fuel listed a w
 |0,listed,a,w,hs,hc,hj=>by
  have hr:Region.ready .any ops listed= []:=by
   rw[List.eq_nil_iff_forall_not_mem];intro i hi;have:=(mem_rdyZ hi).2.1;rw[cntF_zero om0 i]at this;cases this
  exact⟨hr,hend listed a w hs hj hr⟩
 |fuel+1,listed,a,w,hs,hc,hj=>by
  refine⟨fun hr=>hend listed a w hs hj hr,fun i hi=> ?_⟩;have hm:=mem_rdyZ hi;refine wpOpIn_mono (fun a' w' h'=> ?_) (hstep listed a w i hs hj hi);have:=cntF_set (by rw[hs];exact hm.1) hm.2.1;exact wpAnyIn_inv J hstep hend fuel _ a' w' (by simpa using hs) om0 h'
theorem wpIn_region_inv {id:Nat} {a:Act} {w:World} (hm:P.follows .mixedOrders=true) (J:Array Bool→Act→World→Prop)
  (h0:J (Array.replicate ops.size false) a {w with drawn:=w.drawn+1})
  (hstep:∀listed a w i,listed.size=ops.size→J listed a w→i∈Region.ready .any ops listed→wpOpIn F n P ops Q i (J (listed.setIfInBounds i true)) a w)
  (hend:∀listed a w,listed.size=ops.size→J listed a w→Region.ready .any ops listed= []→Q .normal a w):(Code.region id ops true).wpIn F n P Q a w:=by
 refine wpIn_region_any hm (wpAnyIn_inv J hstep hend _ _ _ _ sm0 ?_ h0);unfold cntF;have:=List.countP_le_length (p:=fun b=> !b) (l:=(Array.replicate ops.size false).toList);simpa using this
def edgesL (ops:Array Oper) (L:Nat→Prop) (i:Nat):Prop:=∀o,ops[i]? =some o→∀e∈o.after.toList,Region.binds .any e=true→L e.on
def closedL (ops:Array Oper) (L:Nat→Prop):Prop:=∀i,L i→edgesL ops L i
def goodB (ops:Array Oper) (acc:Array Nat):Prop:=∀i j,(acc.getD i 0).testBit j=true→∀L,closedL ops L→edgesL ops L i→L j
def bef (ops:Array Oper) (i j:Nat):Bool:=((Region.before ops).getD i 0).testBit j
theorem testBit_fold (A:Nat→Nat) (j:Nat):∀(l:List Edge) (s:Nat),(l.foldl (fun s e=>if Region.binds .any e then s|||2^e.on|||A e.on else s) s).testBit j=true→
  s.testBit j=true∨∃e∈l,Region.binds .any e=true∧(e.on=j∨(A e.on).testBit j=true)
 | [],s,h=> .inl h
 |e::l,s,h=>by
  rw[List.foldl_cons]at h
  rcases testBit_fold A j l _ h with h1|⟨e',h1,h2⟩
  ·split at h1
   ·next hb=>
    simp only[Nat.testBit_or,Bool.or_eq_true]at h1
    rcases h1 with(h1|h1)|h1
    ·exact .inl h1
    ·refine .inr ⟨e,List.mem_cons_self,hb, .inl ?_⟩
     rw[Nat.testBit_two_pow]at h1;simpa using h1
    ·exact .inr ⟨e,List.mem_cons_self,hb, .inr h1⟩
   ·exact .inl h1
  ·exact .inr ⟨e',List.mem_cons_of_mem _ h1,h2⟩
theorem goodB_push {acc:Array Nat} {o:Oper} (h:goodB ops acc) (ho:ops[acc.size]? =some o):
  goodB ops (acc.push (o.after.foldl (fun s e=>if Region.binds .any e then s|||2^e.on|||acc.getD e.on 0 else s) 0)):=by
 intro i j hb L hL he;rw[Array.getD_eq_getD_getElem?,Array.getElem?_push]at hb;split at hb
 ·next hi=>
  subst hi;rw[←Array.foldl_toList]at hb;simp only[Option.getD_some]at hb;rcases testBit_fold (fun k=>acc.getD k 0) j o.after.toList 0 hb with h1|⟨e,h1,h2,h3⟩
  ·simp at h1
  ·have hLe:=he o ho e h1 h2;rcases h3 with rfl|h3
   ·exact hLe
   ·exact h e.on j h3 L hL (hL _ hLe)
 ·rw[←Array.getD_eq_getD_getElem?]at hb;exact h i j hb L hL he
theorem goodB_fold:∀(rest:List Oper) (acc:Array Nat),(∀k o,rest[k]? =some o→ops[acc.size+k]? =some o)→goodB ops acc→
  goodB ops (rest.foldl (fun acc o=>acc.push (o.after.foldl (fun s e=>if Region.binds .any e then s|||2^e.on|||acc.getD e.on 0 else s) 0)) acc)
 | [],_,_,h=>h
 |o::rest,acc,hr,h=>by
  rw[List.foldl_cons]
  refine goodB_fold rest _ (fun k o' hk=> ?_) (goodB_push h (by simpa using hr 0 o rfl))
  rw[Array.size_push]
  have:=hr (k+1) o' (by simpa using hk)
  rw[←this];congr 1;omega
theorem bef_in {i j:Nat} (h:bef ops i j=true) {L:Nat→Prop} (hL:closedL ops L) (he:edgesL ops L i):L j:=by
 have hg:goodB ops (Region.before ops):=by
  unfold Region.before;rw[←Array.foldl_toList];refine goodB_fold ops.toList #[] (fun k o hk=>by simpa using hk) ?_;intro i j hb;simp at hb
 exact hg i j h L hL he
def dstAt (ops:Array Oper) (i:Nat):Option Tmp:=(ops[i]?).bind (·.dst)
def wrOf (ops:Array Oper) (t:Tmp):Option Nat:=(List.range ops.size).find? fun i=>dstAt ops i==some t
def rgOK (ops:Array Oper) (size:Nat):Bool:=
 ((List.range ops.size).all fun i=>(dstAt ops i).all fun t=>decide (t<size)&&(wrOf ops t==some i))&&
 ((List.range ops.size).all fun i=>((ops[i]?).map (Oper.looksAt ops)).all fun l=>l.all fun t=>(wrOf ops t).all fun j=>bef ops i j||bef ops j i)&&
 ((List.range ops.size).all fun i=>((ops[i]?).map (·.after.toList)).all fun l=>l.all fun e=> !Region.binds .any e||decide (e.on<i))
def slotOf (ops:Array Oper) (a0:Act) (vs:Nat→Value) (L:Nat→Bool) (t:Tmp):Value:=
 match wrOf ops t with
 |some j=>if L j then vs j else a0.tmps.getD t undef
 |none=>a0.tmps.getD t undef
def stageOf (E:List Nat) (L:Nat→Bool):Nat:=E.countP L
def rgStage (ops:Array Oper) (E:List Nat) (i k:Nat):Bool:=
 decide (E.countP (fun e=>bef ops i e)≤k)&&decide (k+E.countP (fun e=>bef ops e i||e==i)≤E.length)
def lst (listed:Array Bool) (j:Nat):Bool:=listed.getD j false
theorem lst_set {listed:Array Bool} {i j:Nat} (hi:i<listed.size):lst (listed.setIfInBounds i true) j=(decide (j=i)||lst listed j):=by
 unfold lst;rw[Array.getD_eq_getD_getElem?,Array.getElem?_setIfInBounds,Array.getD_eq_getD_getElem?];by_cases h:i=j
 ·subst h;simp [hi]
 ·have:j≠i:=fun e=>h e.symm;simp [h,this]
theorem countP_mono' {p q:Nat→Bool}:∀(l:List Nat),(∀x∈l,p x=true→q x=true)→l.countP p≤l.countP q:=fun _l h=>List.countP_mono_left h
theorem countP_split (p:Nat→Bool):∀(l:List Nat),l.countP p+l.countP (fun x=> !p x)=l.length
 | []=>rfl
 |x::l=>by
  have:=countP_split p l
  simp only[List.countP_cons,List.length_cons]
  cases p x<;>simp<;>omega
theorem countP_one {p:Nat→Bool} {i:Nat}:∀(l:List Nat),l.Nodup→p i=false→l.countP (fun x=>decide (x=i)||p x)=l.countP p+(if i∈l then 1 else 0)
 | [],_,_=>rfl
 |x::l,hn,hi=>by
  rw[List.nodup_cons]at hn
  have ih:=countP_one l hn.2 hi
  simp only[List.countP_cons,ih,List.mem_cons]
  by_cases hx:x=i
  ·subst hx
   have: ¬x∈l:=hn.1
   simp [hi,this]
  ·have hx':i≠x:=fun e=>hx e.symm
   simp only[hx,decide_false,Bool.false_or,hx',false_or]
   omega
def allL (G:Nat→Oper→Prop):List Oper→Nat→Prop
 | [],_=>True
 |o::l,i=>G i o∧allL G l (i+1)
theorem allL_at {G:Nat→Oper→Prop}:∀(l:List Oper) (n i:Nat) (o:Oper),allL G l n→l[i]? =some o→G (n+i) o
 | [],_,_,_,_,h=>by simp at h
 |x::l,n,0,o,hg,h=>by simp at h;subst h;exact hg.1
 |x::l,n,i+1,o,hg,h=>by
  have:=allL_at l (n+1) i o hg.2 (by simpa using h)
  rwa[show n+(i+1)=n+1+i from by omega]
theorem rgStage_k {E:List Nat} {i k:Nat} (h:rgStage ops E i k=true) (m:Nat) (h1:E.countP (fun e=>bef ops i e)=m) (h2:E.countP (fun e=>bef ops e i||e==i)+m=E.length):k=m:=by
 unfold rgStage at h;rw[Bool.and_eq_true,decide_eq_true_eq,decide_eq_true_eq]at h;omega
theorem rg_val {i:Nat} {o:Oper} {a:Act} {W W':World} {K:Act→World→Prop} {v:Value} (ho:ops[i]? =some o) (hg:o.guard=none) (hab:∀f,o.about P W a.eval=some f→F.fn f) (hd:∀c,o.op≠ .defer c)
  (hrun:(execOp a.eval o).run P W= .ok (.value v) W') (h:K (a.put o.dst v) W'):wpOpIn F n P ops Q i K a W:=by
 unfold wpOpIn;rw[ho];simp only[Region.wanted,hg,if_true];refine⟨hab, ?_⟩;rw[Oper.semAt_plain F _ _ hd,hrun];exact h
theorem rg_skip {i:Nat} {o:Oper} {a:Act} {W W':World} {K:Act→World→Prop} (ho:ops[i]? =some o) (hg:o.guard=none) (hab:∀f,o.about P W a.eval=some f→F.fn f) (hd:∀c,o.op≠ .defer c)
  (hrun:(execOp a.eval o).run P W= .ok .skip W') (h:K (a.put o.dst undef) W'):wpOpIn F n P ops Q i K a W:=by
 unfold wpOpIn;rw[ho];simp only[Region.wanted,hg,if_true];refine⟨hab, ?_⟩;rw[Oper.semAt_plain F _ _ hd,hrun];exact h
theorem rg_call {i:Nat} {o:Oper} {a:Act} {W W':World} {K:Act→World→Prop} {f:FuncId} {args:Array Value} {R:Ending→World→Prop} (ho:ops[i]? =some o) (hg:o.guard=none) (hab:∀f,o.about P W a.eval=some f→F.fn f) (hd:∀c,o.op≠ .defer c)
  (hrun:(execOp a.eval o).run P W= .ok (.enter f args) W') (hdp:F.depth.isSome=true→1≤n) (hc:CallsIn F (n - 1) P f args W' R) (h:∀e w',R e w'→∃v,e= .returned v∧K (a.put o.dst v) w'):wpOpIn F n P ops Q i K a W:=by
 unfold wpOpIn;rw[ho];simp only[Region.wanted,hg,if_true];refine⟨hab, ?_⟩;rw[Oper.semAt_plain F _ _ hd,hrun];refine⟨hdp,hc.mono (fun e w' hr=> ?_)⟩;obtain⟨v,rfl,hk⟩:=h e w' hr;exact hk
end
section
variable {F:Fence} {n:Nat} {P:Program} {ops:Array Oper} {Q:Exit→Act→World→Prop}
theorem wpIn_region_rv {id:Nat} {a0:Act} {w:World} (hm:P.follows .mixedOrders=true) (E:List Nat) (hE:E.Nodup) (hok:rgOK ops a0.tmps.size=true)
  (C:Nat→(Nat→Value)→World→Prop) (Step:World→World→Prop) (Φ:Nat→Value→World→Prop) (h0:C 0 (fun _=>undef) {w with drawn:=w.drawn+1})
  (hst:∀j v W W',Step W W'→Φ j v W→Φ j v W')
  (hop:∀i o,ops[i]? =some o→∀(k:Nat) (a:Act) (W:World) (vs:Nat→Value),rgStage ops E i k=true→C k vs W→(∀j,bef ops i j=true→Φ j (vs j) W)→a.tmps.size=a0.tmps.size→
   (∀t∈o.looksAt ops,a.tmps.getD t undef=slotOf ops a0 vs (bef ops i) t)→
   wpOpIn F n P ops Q i (fun a' W'=>∃v,a'=a.put o.dst v∧C (if i∈E then k+1 else k) (fun k=>if k=i then v else vs k) W'∧Step W W'∧Φ i v W') a W)
  (hend:∀vs W,C E.length vs W→(∀j,j<ops.size→Φ j (vs j) W)→Q .normal {tmps:=((List.range a0.tmps.size).map (slotOf ops a0 vs (fun _=>true))).toArray,defers:=a0.defers} W)
  (hEs:∀e∈E,e<ops.size):(Code.region id ops true).wpIn F n P Q a0 w:=by
 unfold rgOK at hok;simp only[Bool.and_eq_true,List.all_eq_true,List.mem_range]at hok;obtain⟨⟨k1,k2⟩,k3⟩:=hok;have hwr:∀{t:Tmp} {j:Nat},wrOf ops t=some j→j<ops.size∧dstAt ops j=some t:=fun{t j} h=>by
  unfold wrOf at h;have h1:=List.find?_some h;have h2:=List.mem_of_find?_eq_some h;simp at h1 h2;exact⟨h2,h1⟩
 have hdst:∀{i:Nat} {t:Tmp},i<ops.size→dstAt ops i=some t→t<a0.tmps.size∧wrOf ops t=some i:=fun{i t} hi ht=>by
  have:=k1 i hi;rw[ht]at this;simpa using this
 refine wpIn_region_inv hm (fun listed a W=>∃vs:Nat→Value,C (stageOf E (lst listed)) vs W∧(∀j,lst listed j=true→Φ j (vs j) W)∧closedL ops (fun j=>lst listed j=true)∧a.tmps.size=a0.tmps.size∧a.defers=a0.defers∧∀t,a.tmps.getD t undef=slotOf ops a0 vs (lst listed) t) ?_ ?_ ?_
 ·have hl:∀j,lst (Array.replicate ops.size false) j=false:=fun j=>by
   unfold lst;rw[Array.getD_eq_getD_getElem?,Array.getElem?_replicate];split<;>rfl
  refine⟨fun _=>undef, ?_,(fun j hj=>by rw[hl]at hj;cases hj),(fun j hj=>by simp only[hl]at hj;cases hj),rfl,rfl,fun t=> ?_⟩
  ·have:stageOf E (lst (Array.replicate ops.size false))=0:=by
    unfold stageOf;rw[List.countP_eq_zero];intro e _;rw[hl];simp
   rw[this];exact h0
  ·unfold slotOf;split
   ·rw[hl];rfl
   ·rfl
 ·rintro listed a W i hs⟨vs,hC,hΦ,hcl,hsz,hdf,hsl⟩ hi;obtain⟨hin,hun,o,ho,hed⟩:=mem_rdyZ hi;have hun':lst listed i=false:=by
   unfold lst;rw[Array.getD_eq_getD_getElem?]at hun⊢;rw[Array.getElem?_eq_getElem (by rw[hs];exact hin)]at hun⊢;simpa using hun
  have hedg:edgesL ops (fun j=>lst listed j=true) i:=fun o' ho' e he hb=>by
   rw[ho]at ho';cases ho';exact hed e he hb
  have hbf:∀j,bef ops i j=true→lst listed j=true:=fun j hj=>bef_in hj hcl hedg;have hnb:∀j,bef ops j i=true→lst listed j=false:=fun j hj=>by
   cases hlj:lst listed j with
   |false=>rfl
   |true=>
    have:=bef_in (L:=fun j=>lst listed j=true) hj hcl (hcl j hlj);rw[hun']at this;cases this
  have hstg:rgStage ops E i (stageOf E (lst listed))=true:=by
   unfold rgStage stageOf;rw[Bool.and_eq_true,decide_eq_true_eq,decide_eq_true_eq];refine⟨countP_mono' E (fun e _ he=>hbf e he), ?_⟩;have h1:=countP_split (lst listed) E;have h2:E.countP (fun e=>bef ops e i||e==i)≤E.countP (fun x=> !lst listed x):=countP_mono' E (fun e _ he=>by
    rw[Bool.or_eq_true]at he;rcases he with he|he
    ·rw[hnb e he];rfl
    ·have:e=i:=by simpa using he
     rw[this,hun'];rfl)
   omega
  refine wpOpIn_mono ?_ (hop i o ho _ a W vs hstg hC (fun j hj=>hΦ j (hbf j hj)) hsz (fun t ht=> ?_))
  ·rintro a' W'⟨v,rfl,hC',hS',hv⟩;refine⟨fun k=>if k=i then v else vs k, ?_, ?_, ?_, ?_, ?_, ?_⟩
   ·have:stageOf E (lst (listed.setIfInBounds i true))=(if i∈E then stageOf E (lst listed)+1 else stageOf E (lst listed)):=by
     unfold stageOf;have he:(fun x=>lst (listed.setIfInBounds i true) x)=(fun x=>decide (x=i)||lst listed x):=funext fun x=>lst_set (by rw[hs];exact hin);rw[show E.countP (lst (listed.setIfInBounds i true))=E.countP (fun x=>decide (x=i)||lst listed x)from by rw[←he],countP_one E hE hun'];split<;>rfl
    rw[this];exact hC'
   ·intro j hj;rw[lst_set (by rw[hs];exact hin)]at hj;by_cases h:j=i
    ·subst h;simpa using hv
    ·simp only[h,decide_false,Bool.false_or]at hj;simp only[h,if_false];exact hst j _ W W' hS' (hΦ j hj)
   ·intro j hj o' ho' e he hb;rw[lst_set (by rw[hs];exact hin)]at hj;show lst _ _=true;rw[lst_set (by rw[hs];exact hin),Bool.or_eq_true];right;by_cases h:j=i
    ·subst h;exact hedg o' ho' e he hb
    ·simp only[h,decide_false,Bool.false_or]at hj;exact hcl j hj o' ho' e he hb
   ·cases hd:o.dst<;>simp [Act.put,hsz]
   ·cases hd:o.dst<;>simp [Act.put,hdf]
   ·intro t;have hdo:dstAt ops i=o.dst:=by simp [dstAt,ho]
    by_cases hdt:o.dst=some t
    ·obtain⟨h1,h2⟩:=hdst hin (hdo.trans hdt);have:(a.put o.dst v).tmps.getD t undef=v:=by
      rw[hdt];simp [Act.put,hsz,h1]
     rw[this];unfold slotOf;rw[h2];simp only[lst_set (show i<listed.size by rw[hs];exact hin)];simp
    ·have:(a.put o.dst v).tmps.getD t undef=a.tmps.getD t undef:=by
      cases hd:o.dst with
      |none=>rfl
      |some d=>
       have hne:d≠t:=fun e=>hdt (by rw[hd,e]);simp only[Act.put,Array.getD_eq_getD_getElem?,Array.getElem?_setIfInBounds,hne,if_false]
     rw[this,hsl t];unfold slotOf;cases hw:wrOf ops t with
     |none=>rfl
     |some j=>
      have hji:j≠i:=by
       rintro rfl;exact hdt (hdo▸(hwr hw).2)
      simp only[lst_set (show i<listed.size by rw[hs];exact hin),hji,decide_false,Bool.false_or,if_false]
  ·rw[hsl t];unfold slotOf;cases hw:wrOf ops t with
   |none=>rfl
   |some j=>
    have h2:=k2 i hin;rw[ho]at h2;simp only[Option.map_some,Option.all_some,List.all_eq_true]at h2;have h3:=h2 t ht;rw[hw]at h3;simp only[Option.all_some,Bool.or_eq_true]at h3;by_cases hb:bef ops i j=true
    ·simp only[hb,if_true,hbf j hb]
    ·have hb':bef ops i j=false:=by simpa using hb
     have hj:=hnb j (h3.resolve_left hb);simp only[hb',hj]
 ·rintro listed a W hs⟨vs,hC,hΦ,hcl,hsz,hdf,hsl⟩ hr;have hall:∀i,i<ops.size→lst listed i=true:=by
   intro i
   induction i using Nat.strongRecOn with
   |_ i ih=>
    intro hi;cases hl:lst listed i with
    |true=>rfl
    |false=>
     exfalso;have:i∈Region.ready .any ops listed:=by
      unfold Region.ready;simp only[List.mem_filter,List.mem_range,Bool.and_eq_true,Bool.not_eq_true'];refine⟨hi, ?_, ?_⟩
      ·unfold lst at hl;rw[Array.getD_eq_getD_getElem?]at hl⊢;rw[Array.getElem?_eq_getElem (by rw[hs];exact hi)]at hl⊢;simpa using hl
      ·rw[Array.getElem?_eq_getElem hi];simp only[Option.map_some,Option.getD_some];rw[←Array.all_toList,List.all_eq_true];intro e he;have h4:=k3 i hi;rw[Array.getElem?_eq_getElem hi]at h4;simp only[Option.map_some,Option.all_some,List.all_eq_true]at h4;have h5:=h4 e he;cases hb:Region.binds .any e with
       |false=>rfl
       |true=>
        rw[hb]at h5;simp only[Bool.not_true,Bool.false_or,decide_eq_true_eq]at h5;have:=ih e.on h5 om0;unfold lst at this;simp [this]
     rw[hr]at this;cases this
  have hst':stageOf E (lst listed)=E.length:=by
   unfold stageOf;rw[List.countP_eq_length];intro e he;exact hall e (hEs e he)
  have ha:a={tmps:=((List.range a0.tmps.size).map (slotOf ops a0 vs (fun _=>true))).toArray,defers:=a0.defers}:=by
   obtain⟨tm,df⟩:=a;simp only at hsz hdf hsl;subst hdf
   congr 1
   apply Array.ext
   ·simp [hsz]
   ·intro t ht1 ht2;have:=hsl t;rw[Array.getD_eq_getD_getElem?,Array.getElem?_eq_getElem ht1]at this;simp only[Option.getD_some]at this;rw[this];simp only[List.getElem_toArray,List.getElem_map,List.getElem_range];unfold slotOf;cases hw:wrOf ops t with
    |none=>rfl
    |some j=>simp only[hall j (hwr hw).1]
  rw[ha];exact hend vs W (hst'▸hC) (fun j hj=>hΦ j (hall j hj))
theorem wpIn_region_rvL {id:Nat} {a0:Act} {w:World} (hm:P.follows .mixedOrders=true) (E:List Nat) (hE:E.Nodup) (hok:rgOK ops a0.tmps.size=true) (hEs:(E.all fun e=>decide (e<ops.size))=true)
  (C:Nat→(Nat→Value)→World→Prop) (Step:World→World→Prop) (Φ:Nat→Value→World→Prop) (h0:C 0 (fun _=>undef) {w with drawn:=w.drawn+1})
  (hst:∀j v W W',Step W W'→Φ j v W→Φ j v W')
  (hop:allL (fun i o=>∀(k:Nat) (a:Act) (W:World) (vs:Nat→Value),ops[i]? =some o→rgStage ops E i k=true→C k vs W→(∀j,bef ops i j=true→Φ j (vs j) W)→a.tmps.size=a0.tmps.size→
   (∀t∈o.looksAt ops,a.tmps.getD t undef=slotOf ops a0 vs (bef ops i) t)→
   wpOpIn F n P ops Q i (fun a' W'=>∃v,a'=a.put o.dst v∧C (if i∈E then k+1 else k) (fun k=>if k=i then v else vs k) W'∧Step W W'∧Φ i v W') a W) ops.toList 0)
  (hend:∀vs W,C E.length vs W→(∀j,j<ops.size→Φ j (vs j) W)→Q .normal {tmps:=((List.range a0.tmps.size).map (slotOf ops a0 vs (fun _=>true))).toArray,defers:=a0.defers} W):(Code.region id ops true).wpIn F n P Q a0 w:=
 wpIn_region_rv hm E hE hok C Step Φ h0 hst (fun i o ho k a W vs h1 h2 h3 h4 h5=>by
  have:=allL_at ops.toList 0 i o hop (by simpa using ho)
  rw[Nat.zero_add]at this
  exact this k a W vs ho h1 h2 h3 h4 h5) hend (fun e he=>by have:=List.all_eq_true.1 hEs e he;simpa using this)
end
def putAll:List Oper→Nat→(Nat→Value)→Act→Act
 | [],_,_,a=>a
 |o::l,n,vs,a=>putAll l (n+1) vs (a.put o.dst (vs n))
theorem wpIn_region_rvP {F:Fence} {n:Nat} {P:Program} {ops:Array Oper} {Q:Exit→Act→World→Prop} {id:Nat} {a0:Act} {w:World} (hm:P.follows .mixedOrders=true) (E:List Nat) (hE:E.Nodup) (hok:rgOK ops a0.tmps.size=true) (hEs:(E.all fun e=>decide (e<ops.size))=true)
  (hfr:∀vs,({tmps:=((List.range a0.tmps.size).map (slotOf ops a0 vs (fun _=>true))).toArray,defers:=a0.defers}:Act)=putAll ops.toList 0 vs a0)
  (C:Nat→(Nat→Value)→World→Prop) (Step:World→World→Prop) (Φ:Nat→Value→World→Prop) (h0:C 0 (fun _=>undef) {w with drawn:=w.drawn+1})
  (hst:∀j v W W',Step W W'→Φ j v W→Φ j v W')
  (hop:allL (fun i o=>∀(k:Nat) (a:Act) (W:World) (vs:Nat→Value),ops[i]? =some o→rgStage ops E i k=true→C k vs W→(∀j,bef ops i j=true→Φ j (vs j) W)→a.tmps.size=a0.tmps.size→
   (∀t∈o.looksAt ops,a.tmps.getD t undef=slotOf ops a0 vs (bef ops i) t)→
   wpOpIn F n P ops Q i (fun a' W'=>∃v,a'=a.put o.dst v∧C (if i∈E then k+1 else k) (fun k=>if k=i then v else vs k) W'∧Step W W'∧Φ i v W') a W) ops.toList 0)
  (hend:∀vs W,C E.length vs W→(∀j,j<ops.size→Φ j (vs j) W)→Q .normal (putAll ops.toList 0 vs a0) W):(Code.region id ops true).wpIn F n P Q a0 w:=
 wpIn_region_rvL hm E hE hok hEs C Step Φ h0 hst hop (fun vs W h1 h2=>by rw[hfr];exact hend vs W h1 h2)
end
section
open Go.RowKit Go.Shelf
attribute [local go_sem] Oper.semAt_some
abbrev sB (s:LS) (av tv ev:Value):Array Value:= #[I s.kind,S s.name,av,tv,ev]
end
section
open Go.RowKit Go.Shelf
attribute [local go_sem] Oper.semAt_some
def okA (a:LA):Prop:=(Asc a.name∧isName a.name=true)∧1≤a.size∧a.size≤1048576
def okF (f:LF):Prop:=(Asc f.name∧isName f.name=true)∧Names f.params∧Names f.locals∧f.params.length≤6∧∀x∈f.body,okS 40 x
structure okP (p:LP):Prop where
 arrays:∀a∈p.arrays,okA a
 funcs:∀f∈p.funcs,okF f
abbrev aZ:Array Value:= #[.string ⟨#[]⟩, .int .i64 0]
abbrev fZ4:Array Value:= #[.string ⟨#[]⟩, .slice none 0 0, .slice none 0 0, .slice none 0 0]
end
section
open Go.RowKit Go.Shelf
attribute [local go_sem] Oper.semAt_some
structure SaysB {α:Type} (arg:(Nat→Value)→Value) (R:World→(Nat→Value)→α→Prop) (w:World) (fid:Nat) (bnd:Array Value) (t:α→Bool) (l:List α):Prop where
 eg:∀args w,(callFunc fid args).run Tryz.prog w= .ok (.enter fid args) w
 call:∀x∈l,∀W C,Below w.heap.size w W→R W C x→Calls Tryz.prog fid (#[arg C]++bnd) W fun e w'=>e= .returned (.bool (t x))∧Below W.heap.size W w'
def placeI {α:Type} (t:α→Bool) (l:List α):Int:=if l.findIdx t<l.length then(l.findIdx t:Int)else -1
theorem placeI_at {α:Type} {t:α→Bool} {l:List α} {k:Nat} (hk:k<l.length) (h:∀j,(hj:j<k)→t (l[j]' om0)=false) (ht:t l[k]=true):placeI t l=k:=by
 have:l.findIdx t=k:=(List.findIdx_eq hk).2 ⟨ht,fun j hj=>h j hj⟩;unfold placeI;rw[this,if_pos hk]
theorem placeI_none {α:Type} {t:α→Bool} {l:List α} (h:∀j,(hj:j<l.length)→t l[j]=false):placeI t l= -1:=by
 have:l.findIdx t=l.length:=List.findIdx_eq_length.2 fun x hx=>by
  obtain⟨j,hj,rfl⟩:=List.getElem_of_mem hx;exact h j hj
 unfold placeI;rw[this,if_neg om0]
end
section
open Go.RowKit Go.Shelf
attribute [local go_sem] Oper.semAt_some
theorem placeI_nonneg {α:Type} (t:α→Bool) (l:List α):0≤placeI t l↔∃x∈l,t x=true:=by
 unfold placeI;constructor
 ·intro h;split at h
  ·next hlt=>exact⟨_,List.getElem_mem hlt,List.findIdx_getElem (w:=hlt)⟩
  ·omega
 ·rintro⟨x,hx,ht⟩;rw[if_pos (List.findIdx_lt_length_of_exists ⟨x,hx,ht⟩)];omega
end
section
open Go.RowKit Go.Shelf
attribute [local go_sem] Oper.semAt_some
set_option maxRecDepth 100000 in
set_option maxHeartbeats 2000000 in
theorem indexN_any {α:Type} {B:Nat→Prop} {R:World→(Nat→Value)→α→Prop} (w:World) (v:Value) (l:List α) (hv:RSlB B 1 R w v l) (hR:∀W W' C x,Below W.heap.size W W'→R W C x→R W' C x) (fid:Nat) (bnd:Array Value) (t:α→Bool) (hp:SaysB agg1 R w fid bnd t l):
  CR 96 #[v, .func (.func fid) #[] bnd] w (I (placeI t l)):=by
 obtain⟨a0,c0,rfl,hlen, -⟩:=id hv;have heg:=hp.eg;have HV:=hqz9 hv;have HP:=hqz9 hp;have HRR:=hqz9 hR;clear hv hp hR;go_enter Tryz.func96,Tryz.ntmps96;go_wp2;go_loopg [8] l.length (fun gh i wr=>∃k:Nat,gh+k=l.length∧i=I k∧Hid (Below w w wr∧∀j,(hj:j<l.length)→j<k→t l[j]=false))
 case atStart=>exact⟨0,rfl,rfl,hqz9 ⟨Below.refl _ _,fun j hj h=>absurd h om0⟩⟩
 case round=>
  obtain⟨k,hg,rfl,HH⟩:=hrel;obtain⟨wo,rfl⟩:=xq wr;have HB:=hqz9 HH.out.1;by_cases hlt:k<l.length
  ·have hltz:(k:Int)<(l.length:Int):=om0;obtain⟨b,o,C,rfl,_,hC,hrx⟩:=(HV.below HB (fun C x h=>HRR.out _ _ C x HB h)).at hlt;have e0:=hC 0 om0;simp only[Nat.add_zero,Nat.mul_one]at e0;have hx:=HP.call l[k] (List.getElem_mem hlt) wo C HB hrx;have⟨tx,htx⟩:=xq (t l[k]);rw[←htx]at hx;have HX:=hqz9 hx;have HT:=hqz9 htx;clear hx hC hrx htx;cases tx
   ·go_wp2;refine mh0 HX fun w1 hb1=> ?_;have HB1:=bt0 HB hb1;clear e0;go_wp2;go_roundg (l.length - (k+1))
    case measure=>omega
    case rel=>
     refine⟨k+1,om0,by go_num,hqz9 ⟨HB1,fun j hj hjk=> ?_⟩⟩;by_cases hjk2:j=k
     ·subst hjk2;exact HT.out.symm
     ·exact HH.out.2 j hj om0
   ·go_wp2;refine mh0 HX fun w1 hb1=> ?_;have HB1:=bt0 HB hb1;clear e0;go_wp2;go_ret;exact⟨by rw[placeI_at hlt (fun j hj=>HH.out.2 j om0 hj) HT.out.symm];rfl,HB1⟩
  ·have hltz: ¬(k:Int)<(l.length:Int):=om0;go_wp2;go_ret;exact⟨by rw[placeI_none (fun j hj=>HH.out.2 j hj om0)];rfl,HB⟩
set_option maxRecDepth 100000 in
set_option maxHeartbeats 2000000 in
theorem containsN_any {α:Type} {B:Nat→Prop} {R:World→(Nat→Value)→α→Prop} (w:World) (v:Value) (l:List α) (hv:RSlB B 1 R w v l) (hR:∀W W' C x,Below W.heap.size W W'→R W C x→R W' C x) (fid:Nat) (bnd:Array Value) (t:α→Bool) (hp:SaysB agg1 R w fid bnd t l):
  CR 57 #[v, .func (.func fid) #[] bnd] w (.bool (l.any t)):=by
 have HI:=hqz9 (indexN_any w v l hv hR fid bnd t hp);have⟨q,hq⟩:=xq (placeI t l);rw[←hq]at HI;have hz:decide (0≤q)=l.any t:=by
  rw[Bool.eq_iff_iff,decide_eq_true_eq,hq,placeI_nonneg,List.any_eq_true]
 have HZ:=hqz9 hz;obtain⟨a0,c0,rfl, -⟩:=hv;clear hR hp hq hz;go_enter Tryz.func57,Tryz.ntmps57;go_wp2_with (go_at_call 96;refine mh0 HI fun w1 HB1=> ?_)
 go_ret;rw[←HZ.out];exact⟨rfl,HB1⟩
end
section
open Go.RowKit Go.Shelf
attribute [local go_sem] Oper.semAt_some
theorem PX.size {B:Nat→Prop} {w:World} {av fv:Value} {p:LP} (h:PX B w av fv p):PX (fun b=>B b∧b<w.heap.size) w av fv p:=
 ⟨h.1.size om0 fun _ _ h=>h,h.2.size om0 fun _ _ h=>⟨h.1,h.2.1.size om0 fun _ _ h=>h,h.2.2.1.size om0 fun _ _ h=>h,h.2.2.2.size⟩⟩
theorem Row.put {w:World} {g l:Nat} {e:TypeId} {cs:List Value} {o:Obj} (h:Row w g e cs) (hne:g≠l):Row (w.putObj l o) g e cs:=(World.putObj_heap_other hne).trans h
end
section
open Go.RowKit Go.Shelf
attribute [local go_sem] Oper.semAt_some
abbrev wMain:Str:= [109,97,105,110]
end
section
open Go.RowKit Go.Shelf
attribute [local go_sem] Oper.semAt_some
theorem flatMap_sEncS (l:List Str):l.flatMap sEncS=l.map S:=by
 induction l with
 |nil=>rfl
 |cons x l ih=>simp [sEncS,ih]
theorem wpList_appL {B:Nat→Prop} {w:World} {ops:Array Oper} {rest:List Oper} {o:Oper} {a:Act} {Q:Exit→Act→World→Prop} (hgd:o.guard=none) (s x:Operand)
  (ho:o.op= .call {callee:= .builtin .append,args:= #[s,x],argTypes:= #[46,46]})
  (base:Nat) (v:Value) (l:List Str) (hs:a.eval s=v) (hown:OwnS 1 9 sEncS w base v l)
  (xv:Value) (ys:List Str) (hx:a.eval x=xv) (hys:RSlB B 1 RStr w xv ys)
  (hl:l.length+ys.length≤1000000000) (hbase:base≤w.heap.size)
  (h:∀v' w',OwnS 1 9 sEncS w' base v' (l++ys)→w.grownBy w' v.ownBlock→wpList Tryz.prog ops Q rest (a.put o.dst v') w'):wpList Tryz.prog ops Q (o::rest) a w:=by
 obtain⟨xa,xc,rfl,hm,hor⟩:=hys;rcases Nat.eq_zero_or_pos ys.length with h0|h0
 ·have hn:ys= []:=List.length_eq_zero_iff.1 h0;subst hn;refine wpList_app0 slStr hgd s x ho base v _ _ hs hown xa xc (by simpa using hx) ?_;exact h v w (by simpa using hown) ⟨rfl,rfl,rfl,Nat.le_refl _,fun _ _ _=>rfl⟩
 ·rcases hor with rfl|⟨b,of,rfl, -,hc⟩
  ·exact absurd h0 sm0
  refine wpList_app slStr hgd s x ho base v _ _ hs hown ⟨b,of,none⟩ ys.length xc (ys.map S) hx sm0 ?_ ?_ h0 om0 (by unfold maxLen;omega) hbase ?_
  ·intro j u hu;rw[List.getElem?_map]at hu;cases hj:ys[j]? with
   |none=>rw[hj]at hu;cases hu
   |some y=>
    rw[hj]at hu;obtain⟨C,hC,hR⟩:=hc j y hj;have h1:=hC 0 dc0;rw[show C 0=S y from hR]at h1;rw[add_nat];simp only[Nat.mul_one,Nat.add_zero]at h1;rw[h1];exact hu
  ·intro u hu;obtain⟨x,_,rfl⟩:=List.mem_map.1 hu;rfl
  ·intro g' cap w' h1 h2 h3 h4;refine h _ _ ?_ h2;show w'.ownsRow base 9 1 _ (l++ys).length ((l++ys).flatMap sEncS);rw[List.length_append,List.flatMap_append,flatMap_sEncS ys];exact h1
end
section
open Go.RowKit Go.Shelf
structure ESt where
 inp:List Int
 arrs:List (List Int)
 out:List Int
 steps:Nat
abbrev Vars:=Str→Int
structure CSt where
 vars:Vars
 value:Int
def hd (l:List Int):Int:=l.getD 0 0
def hd2 (l:List Int):Int:=l.getD 1 0
end
section
open Go.RowKit Go.Shelf
attribute [local go_sem] Oper.semAt_some
set_option maxRecDepth 100000 in
set_option maxHeartbeats 2000000 in
theorem indexE_any {α:Type} {B:Nat→Prop} {R:World→(Nat→Value)→α→Prop} (w:World) (v:Value) (l:List α) (hv:RSlB B 5 R w v l) (hR:∀W W' C x,Below W.heap.size W W'→R W C x→R W' C x) (fid:Nat) (bnd:Array Value) (t:α→Bool) (hp:SaysB agg5 R w fid bnd t l):
  CR 165 #[v, .func (.func fid) #[] bnd] w (I (placeI t l)):=by
 obtain⟨a0,c0,rfl,hlen, -⟩:=id hv;have heg:=hp.eg;have HV:=hqz9 hv;have HP:=hqz9 hp;have HRR:=hqz9 hR;clear hv hp hR;go_enter Tryz.func165,Tryz.ntmps165;go_wp2;go_loopg [8] l.length (fun gh i wr=>∃k:Nat,gh+k=l.length∧i=I k∧Hid (Below w w wr∧∀j,(hj:j<l.length)→j<k→t l[j]=false))
 case atStart=>exact⟨0,rfl,rfl,hqz9 ⟨Below.refl _ _,fun j hj h=>absurd h om0⟩⟩
 case round=>
  obtain⟨k,hg,rfl,HH⟩:=hrel;obtain⟨wo,rfl⟩:=xq wr;have HB:=hqz9 HH.out.1;by_cases hlt:k<l.length
  ·have hltz:(k:Int)<(l.length:Int):=om0;obtain⟨b,o,C,rfl,_,hC,hrx⟩:=(HV.below HB (fun C x h=>HRR.out _ _ C x HB h)).at hlt;have e0:=hC 0 om0;have e1:=hC 1 om0;have e2:=hC 2 om0;have e3:=hC 3 om0;have e4:=hC 4 om0;simp only[Nat.add_zero]at e0 e1 e2 e3 e4;have hx:=HP.call l[k] (List.getElem_mem hlt) wo C HB hrx;have⟨tx,htx⟩:=xq (t l[k]);rw[←htx]at hx;have HX:=hqz9 hx;have HT:=hqz9 htx;clear hx hC hrx htx;cases tx
   ·go_wp2;refine mh0 HX fun w1 hb1=> ?_;have HB1:=bt0 HB hb1;clear e0 e1 e2 e3 e4;go_wp2;go_roundg (l.length - (k+1))
    case measure=>omega
    case rel=>
     refine⟨k+1,om0,by go_num,hqz9 ⟨HB1,fun j hj hjk=> ?_⟩⟩;by_cases hjk2:j=k
     ·subst hjk2;exact HT.out.symm
     ·exact HH.out.2 j hj om0
   ·go_wp2;refine mh0 HX fun w1 hb1=> ?_;have HB1:=bt0 HB hb1;clear e0 e1 e2 e3 e4;go_wp2;go_ret;exact⟨by rw[placeI_at hlt (fun j hj=>HH.out.2 j om0 hj) HT.out.symm];rfl,HB1⟩
  ·have hltz: ¬(k:Int)<(l.length:Int):=om0;go_wp2;go_ret;exact⟨by rw[placeI_none (fun j hj=>HH.out.2 j hj om0)];rfl,HB⟩
set_option maxRecDepth 100000 in
set_option maxHeartbeats 2000000 in
theorem containsE_any {α:Type} {B:Nat→Prop} {R:World→(Nat→Value)→α→Prop} (w:World) (v:Value) (l:List α) (hv:RSlB B 5 R w v l) (hR:∀W W' C x,Below W.heap.size W W'→R W C x→R W' C x) (fid:Nat) (bnd:Array Value) (t:α→Bool) (hp:SaysB agg5 R w fid bnd t l):
  CR 102 #[v, .func (.func fid) #[] bnd] w (.bool (l.any t)):=by
 have HI:=hqz9 (indexE_any w v l hv hR fid bnd t hp);have⟨q,hq⟩:=xq (placeI t l);rw[←hq]at HI;have hz:decide (0≤q)=l.any t:=by
  rw[Bool.eq_iff_iff,decide_eq_true_eq,hq,placeI_nonneg,List.any_eq_true]
 have HZ:=hqz9 hz;obtain⟨a0,c0,rfl, -⟩:=hv;clear hR hp hq hz;go_enter Tryz.func102,Tryz.ntmps102;go_wp2_with (go_at_call 165;refine mh0 HI fun w1 HB1=> ?_)
 go_ret;rw[←HZ.out];exact⟨rfl,HB1⟩
set_option maxRecDepth 100000 in
set_option maxHeartbeats 2000000 in
theorem indexS_any {α:Type} {B:Nat→Prop} {R:World→(Nat→Value)→α→Prop} (w:World) (v:Value) (l:List α) (hv:RSlB B 5 R w v l) (hR:∀W W' C x,Below W.heap.size W W'→R W C x→R W' C x) (fid:Nat) (bnd:Array Value) (t:α→Bool) (hp:SaysB agg5 R w fid bnd t l):
  CR 100 #[v, .func (.func fid) #[] bnd] w (I (placeI t l)):=by
 obtain⟨a0,c0,rfl,hlen, -⟩:=id hv;have heg:=hp.eg;have HV:=hqz9 hv;have HP:=hqz9 hp;have HRR:=hqz9 hR;clear hv hp hR;go_enter Tryz.func100,Tryz.ntmps100;go_wp2;go_loopg [8] l.length (fun gh i wr=>∃k:Nat,gh+k=l.length∧i=I k∧Hid (Below w w wr∧∀j,(hj:j<l.length)→j<k→t l[j]=false))
 case atStart=>exact⟨0,rfl,rfl,hqz9 ⟨Below.refl _ _,fun j hj h=>absurd h om0⟩⟩
 case round=>
  obtain⟨k,hg,rfl,HH⟩:=hrel;obtain⟨wo,rfl⟩:=xq wr;have HB:=hqz9 HH.out.1;by_cases hlt:k<l.length
  ·have hltz:(k:Int)<(l.length:Int):=om0;obtain⟨b,o,C,rfl,_,hC,hrx⟩:=(HV.below HB (fun C x h=>HRR.out _ _ C x HB h)).at hlt;have e0:=hC 0 om0;have e1:=hC 1 om0;have e2:=hC 2 om0;have e3:=hC 3 om0;have e4:=hC 4 om0;simp only[Nat.add_zero]at e0 e1 e2 e3 e4;have hx:=HP.call l[k] (List.getElem_mem hlt) wo C HB hrx;have⟨tx,htx⟩:=xq (t l[k]);rw[←htx]at hx;have HX:=hqz9 hx;have HT:=hqz9 htx;clear hx hC hrx htx;cases tx
   ·go_wp2;refine mh0 HX fun w1 hb1=> ?_;have HB1:=bt0 HB hb1;clear e0 e1 e2 e3 e4;go_wp2;go_roundg (l.length - (k+1))
    case measure=>omega
    case rel=>
     refine⟨k+1,om0,by go_num,hqz9 ⟨HB1,fun j hj hjk=> ?_⟩⟩;by_cases hjk2:j=k
     ·subst hjk2;exact HT.out.symm
     ·exact HH.out.2 j hj om0
   ·go_wp2;refine mh0 HX fun w1 hb1=> ?_;have HB1:=bt0 HB hb1;clear e0 e1 e2 e3 e4;go_wp2;go_ret;exact⟨by rw[placeI_at hlt (fun j hj=>HH.out.2 j om0 hj) HT.out.symm];rfl,HB1⟩
  ·have hltz: ¬(k:Int)<(l.length:Int):=om0;go_wp2;go_ret;exact⟨by rw[placeI_none (fun j hj=>HH.out.2 j hj om0)];rfl,HB⟩
set_option maxRecDepth 100000 in
set_option maxHeartbeats 2000000 in
theorem containsS_any {α:Type} {B:Nat→Prop} {R:World→(Nat→Value)→α→Prop} (w:World) (v:Value) (l:List α) (hv:RSlB B 5 R w v l) (hR:∀W W' C x,Below W.heap.size W W'→R W C x→R W' C x) (fid:Nat) (bnd:Array Value) (t:α→Bool) (hp:SaysB agg5 R w fid bnd t l):
  CR 60 #[v, .func (.func fid) #[] bnd] w (.bool (l.any t)):=by
 have HI:=hqz9 (indexS_any w v l hv hR fid bnd t hp);have⟨q,hq⟩:=xq (placeI t l);rw[←hq]at HI;have hz:decide (0≤q)=l.any t:=by
  rw[Bool.eq_iff_iff,decide_eq_true_eq,hq,placeI_nonneg,List.any_eq_true]
 have HZ:=hqz9 hz;obtain⟨a0,c0,rfl, -⟩:=hv;clear hR hp hq hz;go_enter Tryz.func60,Tryz.ntmps60;go_wp2_with (go_at_call 100;refine mh0 HI fun w1 HB1=> ?_)
 go_ret;rw[←HZ.out];exact⟨rfl,HB1⟩
def nameT (j:Nat) (b:UInt8):Bool:=letterR b.toNat||(decide (0<j)&&digitR b.toNat)
theorem isName_iff (l:Str):isName l=true↔l≠ []∧l.length≤20∧isWord l=false∧∀(j:Nat) (b:UInt8),l[j]? =some b→nameT j b=true:=by
 constructor
 ·intro h;obtain⟨h1,h2,h3,h4,h5⟩:=isName_parts h;refine⟨h1,h2,h3,fun j b hb=> ?_⟩;have h6:=h5 j b hb;unfold nameT;cases j with
  |zero=>rw[h4 b hb];rfl
  |succ j=>unfold wordR at h6;simpa using h6
 ·rintro⟨h1,h2,h3,h4⟩;unfold isName;simp only[Bool.and_eq_true,Bool.not_eq_true',decide_eq_true_eq,List.all_eq_true];refine⟨⟨⟨⟨by cases l with
   |nil=>exact absurd rfl h1
   |cons x r=>rfl,h2⟩,h3⟩, ?_⟩,fun b hb=> ?_⟩
  ·cases l with
   |nil=>exact absurd rfl h1
   |cons x r=>
    have:=h4 0 x rfl;unfold nameT at this;rw[←isLetter_eq]at this;simpa using this
  ·obtain⟨j,hj⟩:=List.getElem?_of_mem hb;have:=h4 j b hj;unfold nameT at this;rw[←isLetter_eq,←isDigit_eq]at this;simp only[Bool.or_eq_true,Bool.and_eq_true]at this⊢;rcases this with h|⟨-,h⟩
   ·exact .inl h
   ·exact .inr h
theorem isName_no {l:Str} {j:Nat} {b:UInt8} (hb:l[j]? =some b) (h:nameT j b=false):isName l=false:=by
 cases hn:isName l with
 |false=>rfl
 |true=>
  have:=((isName_iff l).1 hn).2.2.2 j b hb;rw[h]at this;cases this
set_option maxRecDepth 100000 in
set_option maxHeartbeats 4000000 in
theorem name_any (l:Str) (ha:Asc l) (w:World):CR 59 #[S l] w (.bool (isName l)):=by
 by_cases h1:l= []
 ·subst h1;exact name_empty w
 have hnil:(l== [])=false:=bn0 h1;have⟨r,hr⟩:=xq (isName l);rw[←hr];have HR:=hqz9 hr;by_cases h2:l.length≤20
 case neg=>
  have hlen:20<(l.length:Int):=om0;have hf:r=false:=by
   rw[hr];cases hn:isName l with
   |false=>rfl
   |true=>exact absurd ((isName_iff l).1 hn).2.1 h2
  subst hf;clear hr HR ha h1 h2;go_enter Tryz.func59,Tryz.ntmps59;go_wp2;go_ret;exact⟨rfl,Below.refl _ _⟩
 have hlen: ¬20<(l.length:Int):=om0;cases h3:isWord l
 case true=>
  have hf:r=false:=by
   rw[hr];cases hn:isName l with
   |false=>rfl
   |true=>have:=((isName_iff l).1 hn).2.2.1;rw[h3]at this;cases this
  subst hf;have H3:=hqz9 h3;clear hr HR ha h1 h2 h3;go_enter Tryz.func59,Tryz.ntmps59;go_wp2_with (go_at_call 97;refine(word_any l w).mono ?_;rintro e w1⟨rfl,rfl⟩;rw[H3.out])
  go_ret;exact⟨rfl,Below.refl _ _⟩
 have HA:=hqz9 ha;have H1:=hqz9 h1;have H2:=hqz9 h2;have H3:=hqz9 h3;clear hr ha h1 h2 h3;go_enter Tryz.func59,Tryz.ntmps59;go_wp2_with (go_at_call 97;refine(word_any l w).mono ?_;rintro e w1⟨rfl,rfl⟩;rw[H3.out])
 go_loopg [3] l.length (fun gh v wr=>∃pos,gh+pos=l.length∧wr=w.iter ⟨l.toArray⟩ pos∧Hid (∀(j:Nat) (b:UInt8),j<pos→l[j]? =some b→nameT j b=true))
 case atStart=>exact⟨0,rfl,rfl,hqz9 (fun j b hj=>absurd hj om0)⟩
 case round=>
  obtain⟨pos,hg,rfl,HB⟩:=hrel;by_cases hlt:pos<l.length
  ·have hsz:pos<(⟨l.toArray⟩:ByteArray).size:=hlt;have⟨b,hb⟩:=xq (l[pos]);have hbl:b.toNat<128:=HA b (by rw[hb];exact List.getElem_mem hlt);have hbb:((⟨l.toArray⟩:ByteArray)[pos]'hsz)=b:=by rw[hb];rfl
   have hnx:∀ty,(Instr.next (.pointer (some (w,0))) true ty).run Tryz.prog (w.iter ⟨l.toArray⟩ pos)=_:=fun ty=>run_next_ascii w ⟨l.toArray⟩ pos ty hsz (by rw[hbb];exact hbl);rw[hbb]at hnx;have hbo:l[pos]? =some b:=by rw[hb];exact List.getElem?_eq_getElem hlt
   have HLT:=hqz9 hlt;have HBO:=hqz9 hbo;have hnext:nameT pos b=true→∀(j:Nat) (c:UInt8),j<pos+1→l[j]? =some c→nameT j c=true:=fun ht j c hj hc=>by
    by_cases e:j=pos
    ·subst e;rw[HBO.out]at hc;obtain rfl:=Option.some.inj hc;exact ht
    ·exact HB.out j c om0 hc
   have HNX:=hqz9 hnext;clear hnext;cases hlet:letterR b.toNat
   ·have HL:=hqz9 hlet;rcases Nat.eq_zero_or_pos pos with e|hpos
    ·subst e;have HT:=hqz9 (show isName l=false from isName_no hbo (by unfold nameT;rw[hlet];rfl));clear hb hbb hbo hlet;go_wp2_with (go_at_call 98;refine(letter_any _ _ om0 om0).mono ?_;rintro e w1⟨rfl,rfl⟩;rw[HL.out])
     go_ret;rw[HR.out,HT.out];exact⟨rfl,below_a1 _ _⟩
    ·have hpz:((pos:Int)==0)=false:=bo0;cases hdig:digitR b.toNat
     ·have HD:=hqz9 hdig;have HT:=hqz9 (show isName l=false from isName_no hbo (by unfold nameT;rw[hlet,hdig];simp));clear hb hbb hbo hlet hdig;go_wp2_with (first|(go_at_call 98;refine(letter_any _ _ om0 om0).mono ?_;rintro e w1⟨rfl,rfl⟩;rw[HL.out])|(go_at_call 99;refine(digit_any _ _ om0 om0).mono ?_;rintro e w1⟨rfl,rfl⟩;rw[HD.out]))
      go_ret;rw[HR.out,HT.out];exact⟨rfl,below_a1 _ _⟩
     ·have HD:=hqz9 hdig;have HT:=hqz9 (show nameT pos b=true by unfold nameT;rw[hlet,hdig];simpa using hpos);clear hb hbb hbo hlet hdig;go_wp2_with (first|(go_at_call 98;refine(letter_any _ _ om0 om0).mono ?_;rintro e w1⟨rfl,rfl⟩;rw[HL.out])|(go_at_call 99;refine(digit_any _ _ om0 om0).mono ?_;rintro e w1⟨rfl,rfl⟩;rw[HD.out]))
      go_roundg (l.length - (pos+1))
      case measure=>have:=HLT.out;omega
      case rel=>exact⟨pos+1,by have:=HLT.out;omega,rfl,hqz9 (HNX.out HT)⟩
   ·have HL:=hqz9 hlet;have HT:=hqz9 (show nameT pos b=true by unfold nameT;rw[hlet];rfl);clear hb hbb hbo hlet;go_wp2_with (go_at_call 98;refine(letter_any _ _ om0 om0).mono ?_;rintro e w1⟨rfl,rfl⟩;rw[HL.out])
    go_roundg (l.length - (pos+1))
    case measure=>have:=HLT.out;omega
    case rel=>exact⟨pos+1,by have:=HLT.out;omega,rfl,hqz9 (HNX.out HT)⟩
  ·have hnx:∀ty,(Instr.next (.pointer (some (w,0))) true ty).run Tryz.prog (w.iter ⟨l.toArray⟩ pos)=_:=fun ty=>run_next_end w ⟨l.toArray⟩ pos ty hlt;have HT:=hqz9 (show isName l=true from(isName_iff l).2 ⟨H1,H2,H3,fun j b hb=>HB.out j b (oh0 ((List.getElem?_eq_some_iff.1 hb).1)) hb⟩);go_wp2;go_ret;rw[HR.out,HT.out];exact⟨rfl,below_a1 _ _⟩
end
end Go.Proofs.YtngglbakkedaiaaGreatDoor
